
/- Walks of the seat of chapter 06: GateCut. -/
import Derived.Test.YtmggibmpljoacaaG9a
import Derived.Test.YtmggibmpljoacaaG8
namespace Go.Proofs.Ytmggibmpljoacaa
open Go.RowKit
attribute [local go_sem ↓] Go.wp_at_zero Go.wp_at_succ
attribute [local go_sem] more_size cell_more_old frozen_more_old setCell_more_old more_drew drew_more old_alloc old_more old_drew old_setCell cell_alloc_old frozen_alloc_old setCell_alloc_old
attribute [local go_sem ↓] load25 store25
attribute [local go_sem] run25 runs25 blk_drew has_drew blk_drewN has_drewN old_drewN blk_alloc_old has_alloc_old blk_alloc_new has_alloc_new setBlk_size setBlk_drew old_setBlk cell_setBlk' cell_setBlk_ne frozen_setBlk blk_setBlk' blk_setBlk_ne has_setBlk' has_setBlk_ne setBlk_alloc_old setBlk_new

/-- A row of letters that came in, or is new. -/
def CutRow (w wr : World) (v : Value) (m : Nat) (l : List Lt) : Prop := m = l.length ∧ (RdL w v l ∨ wr.ownsRow w.heap.size 38 6 v m (ltCells l))
theorem CutRow.rd {w wr : World} {v : Value} {m : Nat} {l : List Lt} (h : CutRow w wr v m l) (hb : Below w.heap.size w wr) : RdL wr v l := by
  obtain ⟨h0, h | h⟩ := h
  · exact h.below hb
  · exact rd_owns h h0
/-- What a cut gate holds. -/
def CutR (c : Int) (a : Option Addr) (n p B : Nat) (w : World) (s9 : Value) (wr : World) : Prop :=
  ∃ (k m p' : Nat) (a' : Option Addr) (l : List Lt), k + m = n ∧ s9 = .int .i64 k ∧ CutRow w wr (.slice a' m p') m l ∧ wr.heap[B]? = some (.cells #[.int .i64 c, .slice a' m p', .bool true] 25) ∧ wr.heap[w.heap.size]? = some (.cells #[.int .i64 c, .slice a n p, .bool false] 25) ∧ Below w.heap.size w wr

theorem cutS {B1 B7 : Nat} {c c' : Int} {a a' : Option Addr} {n n' p p' : Nat} {b b' : Bool} {ws w' : World} (h1 : ws.heap[B1]? = some (.cells #[.int .i64 c, .slice a n p, .bool b] 25)) (h7 : ws.heap[B7]? = some (.cells #[.int .i64 c', .slice a' n' p', .bool b'] 25)) (hb : Below ws.heap.size ws w') :
    (∀ o, w'.cell? ⟨B1, o, none⟩ = (#[.int .i64 c, .slice a n p, .bool b] : Array Value)[o]?) ∧ (blk w' B7 = #[.int .i64 c', .slice a' n' p', .bool b'] ∧ Has w' B7 3 ∧ Old w' B7) ∧ Below ws.heap.size ws w' :=
  ⟨cell_block (block_keep' hb h1), ⟨blk_of (block_keep' hb h7), has_of (block_keep' hb h7), block_lt (block_keep' hb h7)⟩, hb⟩

set_option maxRecDepth 100000 in
set_option maxHeartbeats 4000000 in
theorem cut4_all (c : Int) (a : Option Addr) (n p : Nat) (b : Bool) (l : List Lt) (w : World) (hl : RdL w (.slice a n p) l) :
    Calls Try.prog 4 #[.agg #[.int .i64 c, .slice a n p, .bool b]] w fun r w' => r = .returned (.bool true) ∧ Below w.heap.size w w' := by
  have HL := Lib.hid hl
  have HN := Lib.hid hl.len
  clear hl
  go_enter Try.func4, Try.ntmps4
  go_wp2_with fail
  refine (great12 c a n p b _ 25 _ (by (repeat' (first | (with_reducible assumption) | (with_reducible refine hm_new ?_; (first | rfl | (simp; done) | (simp [more_size]; done) | (simp [more_size]; omega))) | (with_reducible refine block_alloc ?_) | (with_reducible refine hm_more ?_) | (with_reducible refine hm_drew ?_))))).mono ?_
  rintro r w1 ⟨h, hb1⟩
  have kD : w1.heap[w.heap.size]? = some (.cells #[.int .i64 c, .slice a n p, .bool b] 25) := block_keep' hb1 (by (repeat' (first | (with_reducible assumption) | (with_reducible refine hm_new ?_; (first | rfl | (simp; done) | (simp [more_size]; done) | (simp [more_size]; omega))) | (with_reducible refine block_alloc ?_) | (with_reducible refine hm_more ?_) | (with_reducible refine hm_drew ?_))))
  have KD := Lib.hid kD
  have HB1 := Lib.hid (show Below w.heap.size w w1 by (repeat' (first | (with_reducible exact Below.refl _ _) | (with_reducible assumption) | (with_reducible refine Below.drew ?_) | (with_reducible refine Below.alloc ?_ ?_ _) | (with_reducible refine below_more ?_ ?_ _ _) | (with_reducible refine Below.setCell ?_ ?_ _) | (with_reducible refine Below.trans ?_ (Below.mono (by assumption) ?_)))) <;> first | omega | (simp; done) | (simp; omega) | (simp [more_size]; done) | (simp [more_size]; omega))
  have lD := blk_of kD
  have mD : Has w1 w.heap.size 3 := has_of kD
  have oD := block_lt kD
  have qD : Old w1 w.heap.size := oD
  clear kD hb1
  rcases h with rfl | ⟨rfl, h200, hc⟩
  · go_wp2_with fail
    refine (wakes7 _).mono ?_
    rintro r w2 ⟨rfl, hb⟩
    have hB := HB1.out.trans (hb.mono HB1.out.size)
    go_wp2_with fail
    go_ret
    exact ⟨rfl, hB⟩
  · cases b
    · go_wp2_with fail
      refine (cut13 c a n p _).mono ?_
      rintro r w2 ⟨rfl, hb2⟩
      have KD2 := Lib.hid (block_keep' hb2 KD.out)
      have HB2 := Lib.hid (HB1.out.trans (hb2.mono HB1.out.size))
      have oD2 := block_lt KD2.out
      clear hb2 lD mD oD qD
      go_wp2_with fail
      refine (cut13_shut c a n p _).mono ?_
      rintro r w3 ⟨rfl, hb3⟩
      have KD3 := Lib.hid (block_keep' hb3 (block_alloc KD2.out))
      have kC3 : w3.heap[w2.heap.size]? = some (.cells #[.int .i64 c, .slice a n p, .bool true] 25) := block_keep' hb3 (by (repeat' (first | (with_reducible assumption) | (with_reducible refine hm_new ?_; (first | rfl | (simp; done) | (simp [more_size]; done) | (simp [more_size]; omega))) | (with_reducible refine block_alloc ?_) | (with_reducible refine hm_more ?_) | (with_reducible refine hm_drew ?_))))
      have HB3 := Lib.hid (show Below w.heap.size w w3 from (HB2.out.alloc HB2.out.size _).trans (hb3.mono (by simp only [size_alloc]; have := HB2.out.size; omega)))
      have KC3 := Lib.hid kC3
      have lC3 := blk_of kC3
      have mC3 : Has w3 w2.heap.size 3 := has_of kC3
      have oC3 := block_lt kC3
      have qC3 : Old w3 w2.heap.size := oC3
      clear kC3 hb3
      go_wp2_with fail
      refine (enter8_shut c a n p _).mono ?_
      rintro r w4 ⟨rfl, hb4⟩
      have KD4 := Lib.hid (block_keep' hb4 (block_alloc KD3.out))
      have KC4 := Lib.hid (block_keep' hb4 (block_alloc KC3.out))
      have HB4 := Lib.hid (show Below w.heap.size w w4 from (HB3.out.alloc HB3.out.size _).trans (hb4.mono (by simp only [size_alloc]; have := HB3.out.size; omega)))
      clear hb4 lC3 mC3 qC3 oC3
      go_upto_region 8 with fail
      have KDs := Lib.hid (show (w4.alloc (.cells #[.int .i64 0, .slice none 0 0, .bool false] 25)).heap[w.heap.size]? = some (.cells #[.int .i64 c, .slice a n p, .bool false] 25) from block_alloc KD4.out)
      have KCs := Lib.hid (show (w4.alloc (.cells #[.int .i64 0, .slice none 0 0, .bool false] 25)).heap[w2.heap.size]? = some (.cells #[.int .i64 c, .slice a n p, .bool true] 25) from block_alloc KC4.out)
      have HBs := Lib.hid (show Below w.heap.size w (w4.alloc (.cells #[.int .i64 0, .slice none 0 0, .bool false] 25)) from HB4.out.alloc HB4.out.size _)
      generalize (w4.alloc (.cells #[.int .i64 0, .slice none 0 0, .bool false] 25)) = ws at *
      have cDs := cell_block KDs.out
      have lCs := blk_of KCs.out
      have mCs : Has ws w2.heap.size 3 := has_of KCs.out
      have oCs := block_lt KCs.out
      have oDs := block_lt KDs.out
      have qCs : Old ws w2.heap.size := oCs
      clear oD2
      go_region_held3 (fun w' => (∀ o, w'.cell? ⟨w.heap.size, o, none⟩ = (#[.int .i64 c, .slice a n p, .bool false] : Array Value)[o]?) ∧ (blk w' w2.heap.size = #[.int .i64 c, .slice a n p, .bool true] ∧ Has w' w2.heap.size 3 ∧ Old w' w2.heap.size) ∧ Below ws.heap.size ws w') (first | (with_reducible assumption) | (refine cutS KDs.out KCs.out ?_; (repeat' (first | (with_reducible exact Below.refl _ _) | (with_reducible assumption) | (with_reducible refine Below.drew ?_) | (with_reducible refine Below.alloc ?_ ?_ _) | (with_reducible refine below_more ?_ ?_ _ _) | (with_reducible refine Below.setCell ?_ ?_ _) | (with_reducible refine Below.trans ?_ (Below.mono (by assumption) ?_)))) <;> first | omega | (simp; done) | (simp; omega) | (simp [more_size]; done) | (simp [more_size]; omega))) (first
        | (go_at_call 10; refine (inside10 c a n p true _ 25 _ (by (repeat' (first | (with_reducible assumption) | (with_reducible refine hm_new ?_; (first | rfl | (simp; done) | (simp [more_size]; done) | (simp [more_size]; omega))) | (with_reducible refine block_alloc ?_) | (with_reducible refine hm_more ?_) | (with_reducible refine hm_drew ?_) | (with_reducible refine hm_drewN ?_) | (with_reducible refine block_keep' (by assumption) ?_)))) (by omega)).mono ?_; rintro e w' ⟨rfl, hb⟩; have hB' : Below ws.heap.size ws w' := (by (repeat' (first | (with_reducible exact Below.refl _ _) | (with_reducible assumption) | (with_reducible refine Below.drew ?_) | (with_reducible refine Below.alloc ?_ ?_ _) | (with_reducible refine below_more ?_ ?_ _ _) | (with_reducible refine Below.setCell ?_ ?_ _) | (with_reducible refine Below.trans ?_ (Below.mono (by assumption) ?_)))) <;> first | omega | (simp; done) | (simp; omega) | (simp [more_size]; done) | (simp [more_size]; omega)); have hz' := hB'.size)
        | (go_at_call 14; refine (iscut14 c a n p true _ 25 _ (by (repeat' (first | (with_reducible assumption) | (with_reducible refine hm_new ?_; (first | rfl | (simp; done) | (simp [more_size]; done) | (simp [more_size]; omega))) | (with_reducible refine block_alloc ?_) | (with_reducible refine hm_more ?_) | (with_reducible refine hm_drew ?_) | (with_reducible refine hm_drewN ?_) | (with_reducible refine block_keep' (by assumption) ?_))))).mono ?_; rintro e w' ⟨rfl, hb⟩; have hB' : Below ws.heap.size ws w' := (by (repeat' (first | (with_reducible exact Below.refl _ _) | (with_reducible assumption) | (with_reducible refine Below.drew ?_) | (with_reducible refine Below.alloc ?_ ?_ _) | (with_reducible refine below_more ?_ ?_ _ _) | (with_reducible refine Below.setCell ?_ ?_ _) | (with_reducible refine Below.trans ?_ (Below.mono (by assumption) ?_)))) <;> first | omega | (simp; done) | (simp; omega) | (simp [more_size]; done) | (simp [more_size]; omega)); have hz' := hB'.size))
      have KD5 := Lib.hid (block_keep' hB' KDs.out)
      have KC5 := Lib.hid (block_keep' hB' KCs.out)
      have HB5 := Lib.hid (HBs.out.trans (hB'.mono HBs.out.size))
      have cD5 := cell_block KD5.out
      have oD5 := block_lt KD5.out
      have hzB : w.heap.size ≤ w2.heap.size := HB2.out.size
      clear hb hB' hz' lCs mCs qCs cDs oCs oDs
      go_wp2_with fail
      go_loopw [9] (CutR c a n p w2.heap.size w) (fun i _ => n - (intOf i).toNat)
      case atStart => exact ⟨0, n, p, a, l, by omega, rfl, ⟨HN.out, .inl HL.out⟩, KC5.out, KD5.out, HB5.out⟩
      case round =>
        obtain ⟨k, m, p', a', l', hkm, rfl, hrow, kC, kD, hbr⟩ := hrel
        have HR := Lib.hid hrow
        have KC := Lib.hid kC
        have KD := Lib.hid kD
        have HBR := Lib.hid hbr
        have cD := cell_block kD
        have oD := block_lt kD
        have lC := blk_of kC
        have mC : Has wr w2.heap.size 3 := has_of kC
        have oC := block_lt kC
        have qC : Old wr w2.heap.size := oC
        clear hrow kC kD hbr cD5 oD5
        cases m with
        | zero =>
          have hi : ¬ (k : Int) < (n : Int) := by omega
          go_wp2_with fail
          refine (leave9_empty c a' p' true _).mono ?_
          rintro r w6 ⟨rfl, hb6⟩
          have KC6 := Lib.hid (block_keep' hb6 KC.out)
          have HB6 := Lib.hid (HBR.out.trans (hb6.mono HBR.out.size))
          have lC6 := blk_of KC6.out
          have mC6 : Has w6 w2.heap.size 3 := has_of KC6.out
          have oC6 := block_lt KC6.out
          have qC6 : Old w6 w2.heap.size := oC6
          clear hb6 lC mC oC qC cD oD
          go_wp2_with fail
          refine (inside10 c a' 0 p' true _ 25 _ (by (repeat' (first | (with_reducible assumption) | (with_reducible refine hm_new ?_; (first | rfl | (simp; done) | (simp [more_size]; done) | (simp [more_size]; omega))) | (with_reducible refine block_alloc ?_) | (with_reducible refine hm_more ?_) | (with_reducible refine hm_drew ?_)))) (by omega)).mono ?_
          rintro r w7 ⟨rfl, hb7⟩
          have hB7 : Below w6.heap.size w6 w7 := by (repeat' (first | (with_reducible exact Below.refl _ _) | (with_reducible assumption) | (with_reducible refine Below.drew ?_) | (with_reducible refine Below.alloc ?_ ?_ _) | (with_reducible refine below_more ?_ ?_ _ _) | (with_reducible refine Below.setCell ?_ ?_ _) | (with_reducible refine Below.trans ?_ (Below.mono (by assumption) ?_)))) <;> first | omega | (simp; done) | (simp; omega) | (simp [more_size]; done) | (simp [more_size]; omega)
          have HB7 := Lib.hid (HB6.out.trans (hB7.mono HB6.out.size))
          clear hb7 hB7 lC6 mC6 oC6 qC6
          go_wp2_with fail
          refine (wakes7 _).mono ?_
          rintro r w8 ⟨rfl, hb⟩
          have hB := HB7.out.trans (hb.mono HB7.out.size)
          go_wp2_with fail
          go_ret
          exact ⟨rfl, hB⟩
        | succ m =>
          have hi : (k : Int) < (n : Int) := by omega
          have hzr : w.heap.size ≤ wr.heap.size := HBR.out.size
          go_wp2_with fail
          refine (leave9s c a' m p' true l' _ (HR.out.rd HBR.out) (by omega)).mono ?_
          rintro r w6 ⟨a2, p2, rfl, ho6, hb6⟩
          have KC6 := Lib.hid (block_keep' hb6 KC.out)
          have KD6 := Lib.hid (block_keep' hb6 KD.out)
          have HB6 := Lib.hid (HBR.out.trans (hb6.mono hzr))
          have HO6 := Lib.hid (owns_base ho6 hzr)
          clear hb6 ho6 lC mC oC qC cD oD
          go_wp2_with fail
          refine (iscut14 c a2 m p2 true _ 25 _ (by (repeat' (first | (with_reducible assumption) | (with_reducible refine hm_new ?_; (first | rfl | (simp; done) | (simp [more_size]; done) | (simp [more_size]; omega))) | (with_reducible refine block_alloc ?_) | (with_reducible refine hm_more ?_) | (with_reducible refine hm_drew ?_))))).mono ?_
          rintro r w7 ⟨rfl, hb7⟩
          have hB7 : Below w6.heap.size w6 w7 := by (repeat' (first | (with_reducible exact Below.refl _ _) | (with_reducible assumption) | (with_reducible refine Below.drew ?_) | (with_reducible refine Below.alloc ?_ ?_ _) | (with_reducible refine below_more ?_ ?_ _ _) | (with_reducible refine Below.setCell ?_ ?_ _) | (with_reducible refine Below.trans ?_ (Below.mono (by assumption) ?_)))) <;> first | omega | (simp; done) | (simp; omega) | (simp [more_size]; done) | (simp [more_size]; omega)
          have kO7 : w7.heap[w6.heap.size]? = some (.cells #[.int .i64 c, .slice a2 m p2, .bool true] 25) := block_keep' hb7 (by (repeat' (first | (with_reducible assumption) | (with_reducible refine hm_new ?_; (first | rfl | (simp; done) | (simp [more_size]; done) | (simp [more_size]; omega))) | (with_reducible refine block_alloc ?_) | (with_reducible refine hm_more ?_) | (with_reducible refine hm_drew ?_))))
          have kC7 := block_keep' hB7 KC6.out
          have kD7 := block_keep' hB7 KD6.out
          have lO7 := blk_of kO7
          have mO7 : Has w7 w6.heap.size 3 := has_of kO7
          have oO7 := block_lt kO7
          have qO7 : Old w7 w6.heap.size := oO7
          have mC7 : Has w7 w2.heap.size 3 := has_of kC7
          have oC7 := block_lt kC7
          have qC7 : Old w7 w2.heap.size := oC7
          have hne : w.heap.size ≠ w2.heap.size := by have := block_lt KD2.out; omega
          have HOs := Lib.hid (owns_setBlkT kC7 (by decide) (owns_below HO6.out hB7) #[.int .i64 c, .slice a2 m p2, .bool true])
          have KCs := Lib.hid (setBlk_at (cs := #[.int .i64 c, .slice a2 m p2, .bool true]) kC7 rfl)
          have KDs := Lib.hid ((setBlk_ne w7 w2.heap.size w.heap.size #[.int .i64 c, .slice a2 m p2, .bool true] hne).trans kD7)
          have HBS := Lib.hid (Below.setBlk (HB6.out.trans (hB7.mono HB6.out.size)) hzB #[.int .i64 c, .slice a2 m p2, .bool true])
          have HL' := Lib.hid HR.out.1
          clear hb7 hB7 kO7 kC7 kD7
          go_wp2_with fail
          go_roundw
          case rel => exact ⟨k + 1, m, p2, a2, l'.drop 1, by omega, by go_num, ⟨by rw [List.length_drop, ← HL'.out]; rfl, .inr HOs.out⟩, KCs.out, KDs.out, HBS.out⟩
          case measure => first | (simp [intOf]; done) | (simp [intOf]; omega)
    · go_wp2_with fail
      refine (cut13_shut c a n p _).mono ?_
      rintro r w2 ⟨rfl, hb2⟩
      have KD2 := Lib.hid (block_keep' hb2 KD.out)
      have HB2 := Lib.hid (HB1.out.trans (hb2.mono HB1.out.size))
      have cD2 := cell_block KD2.out
      have lD2 := blk_of KD2.out
      have mD2 : Has w2 w.heap.size 3 := has_of KD2.out
      have oD2 := block_lt KD2.out
      have qD2 : Old w2 w.heap.size := oD2
      clear hb2 lD mD oD qD
      go_wp2_with fail
      refine (iscut14 c a n p true _ 25 _ (by (repeat' (first | (with_reducible assumption) | (with_reducible refine hm_new ?_; (first | rfl | (simp; done) | (simp [more_size]; done) | (simp [more_size]; omega))) | (with_reducible refine block_alloc ?_) | (with_reducible refine hm_more ?_) | (with_reducible refine hm_drew ?_))))).mono ?_
      rintro r w3 ⟨rfl, hb3⟩
      have hB3 : Below w2.heap.size w2 w3 := by (repeat' (first | (with_reducible exact Below.refl _ _) | (with_reducible assumption) | (with_reducible refine Below.drew ?_) | (with_reducible refine Below.alloc ?_ ?_ _) | (with_reducible refine below_more ?_ ?_ _ _) | (with_reducible refine Below.setCell ?_ ?_ _) | (with_reducible refine Below.trans ?_ (Below.mono (by assumption) ?_)))) <;> first | omega | (simp; done) | (simp; omega) | (simp [more_size]; done) | (simp [more_size]; omega)
      have KD3 := Lib.hid (block_keep' hB3 KD2.out)
      have HB3 := Lib.hid (HB2.out.trans (hB3.mono HB2.out.size))
      have lD3 := blk_of KD3.out
      have mD3 : Has w3 w.heap.size 3 := has_of KD3.out
      have oD3 := block_lt KD3.out
      have qD3 : Old w3 w.heap.size := oD3
      clear hb3 hB3 cD2 lD2 mD2 oD2 qD2
      go_wp2_with fail
      refine (free11_shut c a n p _).mono ?_
      rintro r w4 ⟨rfl, hb4⟩
      have HB4 := Lib.hid (HB3.out.trans (hb4.mono HB3.out.size))
      clear hb4 lD3 mD3 oD3 qD3
      go_wp2_with fail
      refine (wakes7 _).mono ?_
      rintro r w5 ⟨rfl, hb⟩
      have hB := HB4.out.trans (hb.mono HB4.out.size)
      go_wp2_with fail
      go_ret
      exact ⟨rfl, hB⟩
end Go.Proofs.Ytmggibmpljoacaa
