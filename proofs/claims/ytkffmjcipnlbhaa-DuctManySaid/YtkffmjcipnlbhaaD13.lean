
/- Walks of the seat of chapter 05: DuctMany, letters for which there is no room. -/
import Derived.Test.YtkffmjcipnlbhaaD11
namespace Go.Proofs.Ytkffmjcipnlbhaa
open Go.RowKit
attribute [local go_sem ↓] Go.wp_at_zero Go.wp_at_succ
attribute [local go_sem] more_size cell_more_old frozen_more_old setCell_more_old more_drew drew_more old_alloc old_more old_drew old_setCell cell_alloc_old frozen_alloc_old setCell_alloc_old

/-- Where the loop stands: k letters are put, or the next did not fit. -/
def FullR (w : World) (b5 bD b7 : Nat) (c : Int) (a : Option Addr) (n p K : Nat) (l l2 : List Lt) (f i : Value) (wr : World) : Prop :=
  ∃ (k : Nat) (a' : Option Addr) (p' : Nat) (f' : Int), k ≤ K + 1 ∧ f = .int .i64 f' ∧ i = .int .i64 k ∧ ((k ≤ K ∧ f' = 0 ∧ RdA w wr (.slice a' (n + k) p') (l ++ l2.take k) ∧ wr.heap[b7]? = some (.cells #[.int .i64 c, .slice a' (n + k) p', .bool false] 26)) ∨ (k = K + 1 ∧ f' = 50)) ∧
    wr.heap[b5]? = some (.cells #[.int .i64 c, .slice a n p, .bool false] 26) ∧ wr.heap[bD]? = some (.cells #[.int .i64 c, .slice a n p, .bool false] 26) ∧ Below w.heap.size w wr

set_option maxRecDepth 100000 in
set_option maxHeartbeats 4000000 in
theorem many4_full (c : Int) (a au : Option Addr) (n p m pu K : Nat) (l l2 : List Lt) (w : World) (h1 : 0 ≤ c) (h2 : c ≤ 64) (h3 : (n : Int) ≤ c) (hl : RdL w (.slice a n p) l) (hu : RdL w (.slice au m pu) l2) (hm : m ≤ 60) (hK : (K : Int) = c - n) (hKm : K < m) :
    Calls Try.prog 4 #[.agg #[.int .i64 c, .slice a n p, .bool false], .slice au m pu] w fun r w' => r = .returned (.bool true) ∧ Below w.heap.size w w' := by
  have HL := Lib.hid hl
  have HU := Lib.hid hu
  have HN := Lib.hid hl.len
  have HM := Lib.hid hu.len
  clear hl hu
  go_enter Try.func4, Try.ntmps4
  go_wp2_with fail
  refine (great14 c a au n p m pu false l l2 _ (HL.out.below (by (repeat' (first | (with_reducible exact Below.refl _ _) | (with_reducible assumption) | (with_reducible refine Below.drew ?_) | (with_reducible refine Below.alloc ?_ ?_ _) | (with_reducible refine below_more ?_ ?_ _ _) | (with_reducible refine Below.setCell ?_ ?_ _) | (with_reducible refine Below.trans ?_ (Below.mono (by assumption) ?_)))) <;> first | omega | (simp; done) | (simp; omega) | (simp [more_size]; done) | (simp [more_size]; omega))) (HU.out.below (by (repeat' (first | (with_reducible exact Below.refl _ _) | (with_reducible assumption) | (with_reducible refine Below.drew ?_) | (with_reducible refine Below.alloc ?_ ?_ _) | (with_reducible refine below_more ?_ ?_ _ _) | (with_reducible refine Below.setCell ?_ ?_ _) | (with_reducible refine Below.trans ?_ (Below.mono (by assumption) ?_)))) <;> first | omega | (simp; done) | (simp; omega) | (simp [more_size]; done) | (simp [more_size]; omega)))).mono ?_
  rintro r w1 ⟨rfl | ⟨rfl, _, _⟩, hb⟩
  · have HB1 := Lib.hid (show Below w.heap.size w w1 by (repeat' (first | (with_reducible exact Below.refl _ _) | (with_reducible assumption) | (with_reducible refine Below.drew ?_) | (with_reducible refine Below.alloc ?_ ?_ _) | (with_reducible refine below_more ?_ ?_ _ _) | (with_reducible refine Below.setCell ?_ ?_ _) | (with_reducible refine Below.trans ?_ (Below.mono (by assumption) ?_)))) <;> first | omega | (simp; done) | (simp; omega) | (simp [more_size]; done) | (simp [more_size]; omega))
    clear hb
    go_wp2_with fail
    refine (wakes7 _).mono ?_
    rintro r w2 ⟨rfl, hb⟩
    go_wp2_with fail
    go_ret
    exact ⟨rfl, HB1.out.trans (hb.mono HB1.out.size)⟩
  have kD : w1.heap[w.heap.size]? = some (.cells #[.int .i64 c, .slice a n p, .bool false] 26) := block_keep' hb (by (repeat' (first | (with_reducible assumption) | (with_reducible refine hm_new ?_; (first | rfl | (simp; done) | (simp [more_size]; done) | (simp [more_size]; omega))) | (with_reducible refine block_alloc ?_) | (with_reducible refine hm_more ?_) | (with_reducible refine hm_drew ?_))))
  have HB1 := Lib.hid (show Below w.heap.size w w1 by (repeat' (first | (with_reducible exact Below.refl _ _) | (with_reducible assumption) | (with_reducible refine Below.drew ?_) | (with_reducible refine Below.alloc ?_ ?_ _) | (with_reducible refine below_more ?_ ?_ _ _) | (with_reducible refine Below.setCell ?_ ?_ _) | (with_reducible refine Below.trans ?_ (Below.mono (by assumption) ?_)))) <;> first | omega | (simp; done) | (simp; omega) | (simp [more_size]; done) | (simp [more_size]; omega))
  have cD := cell_block kD
  have oD := block_lt kD
  have HD := Lib.hid kD
  have hm' : ¬ (60 : Int) < (m : Int) := by omega
  clear hb kD
  go_wp2_with fail
  refine (may15_yes _ c a n p false _ (by (repeat' (first | (with_reducible assumption) | (with_reducible refine hm_new ?_; (first | rfl | (simp; done) | (simp [more_size]; done) | (simp [more_size]; omega))) | (with_reducible refine block_alloc ?_) | (with_reducible refine hm_more ?_) | (with_reducible refine hm_drew ?_)))) h1 h2 h3).mono ?_
  rintro r w2 ⟨rfl, hb⟩
  have kD : w2.heap[w.heap.size]? = some (.cells #[.int .i64 c, .slice a n p, .bool false] 26) := block_keep' hb (block_alloc HD.out)
  have HB2 := Lib.hid (show Below w.heap.size w w2 by have hb1 := HB1.out; have hz := hb1.size; (repeat' (first | (with_reducible exact Below.refl _ _) | (with_reducible assumption) | (with_reducible refine Below.drew ?_) | (with_reducible refine Below.alloc ?_ ?_ _) | (with_reducible refine below_more ?_ ?_ _ _) | (with_reducible refine Below.setCell ?_ ?_ _) | (with_reducible refine Below.trans ?_ (Below.mono (by assumption) ?_)))) <;> first | omega | (simp; done) | (simp; omega) | (simp [more_size]; done) | (simp [more_size]; omega))
  clear cD
  have cD := cell_block kD
  have oD2 := block_lt kD
  have HD2 := Lib.hid kD
  clear hb kD HB1 HD
  go_wp2_with fail
  refine (put9_full c a au n p m pu l l2 _ h1 h2 h3 (HL.out.below HB2.out) (HU.out.below HB2.out) (by omega)).mono ?_
  rintro r w3 ⟨rfl, hb⟩
  have kD : w3.heap[w.heap.size]? = some (.cells #[.int .i64 c, .slice a n p, .bool false] 26) := block_keep' hb HD2.out
  have HB3 := Lib.hid (show Below w.heap.size w w3 by have hb1 := HB2.out; have hz := hb1.size; (repeat' (first | (with_reducible exact Below.refl _ _) | (with_reducible assumption) | (with_reducible refine Below.drew ?_) | (with_reducible refine Below.alloc ?_ ?_ _) | (with_reducible refine below_more ?_ ?_ _ _) | (with_reducible refine Below.setCell ?_ ?_ _) | (with_reducible refine Below.trans ?_ (Below.mono (by assumption) ?_)))) <;> first | omega | (simp; done) | (simp; omega) | (simp [more_size]; done) | (simp [more_size]; omega))
  clear cD
  have cD := cell_block kD
  have oD3 := block_lt kD
  have HD3 := Lib.hid kD
  clear hb kD HB2 HD2
  go_wp2_with fail
  have k5 : ((w3.alloc (.cells #[.int .i64 c, .slice a n p, .bool false] 26)).alloc (.cells #[.int .i64 c, .slice a n p, .bool false] 26)).heap[w3.heap.size]? = some (.cells #[.int .i64 c, .slice a n p, .bool false] 26) := by (repeat' (first | (with_reducible assumption) | (with_reducible refine hm_new ?_; (first | rfl | (simp; done) | (simp [more_size]; done) | (simp [more_size]; omega))) | (with_reducible refine block_alloc ?_) | (with_reducible refine hm_more ?_) | (with_reducible refine hm_drew ?_)))
  have k7 : ((w3.alloc (.cells #[.int .i64 c, .slice a n p, .bool false] 26)).alloc (.cells #[.int .i64 c, .slice a n p, .bool false] 26)).heap[w3.heap.size + 1]? = some (.cells #[.int .i64 c, .slice a n p, .bool false] 26) := by (repeat' (first | (with_reducible assumption) | (with_reducible refine hm_new ?_; (first | rfl | (simp; done) | (simp [more_size]; done) | (simp [more_size]; omega))) | (with_reducible refine block_alloc ?_) | (with_reducible refine hm_more ?_) | (with_reducible refine hm_drew ?_)))
  have kD : ((w3.alloc (.cells #[.int .i64 c, .slice a n p, .bool false] 26)).alloc (.cells #[.int .i64 c, .slice a n p, .bool false] 26)).heap[w.heap.size]? = some (.cells #[.int .i64 c, .slice a n p, .bool false] 26) := block_alloc (block_alloc HD3.out)
  have hB4 : Below w.heap.size w ((w3.alloc (.cells #[.int .i64 c, .slice a n p, .bool false] 26)).alloc (.cells #[.int .i64 c, .slice a n p, .bool false] 26)) := by
    have hb := HB3.out
    (repeat' (first | (with_reducible exact Below.refl _ _) | (with_reducible assumption) | (with_reducible refine Below.drew ?_) | (with_reducible refine Below.alloc ?_ ?_ _) | (with_reducible refine below_more ?_ ?_ _ _) | (with_reducible refine Below.setCell ?_ ?_ _) | (with_reducible refine Below.trans ?_ (Below.mono (by assumption) ?_)))) <;> first | omega | (simp; done) | (simp; omega) | (simp [more_size]; done) | (simp [more_size]; omega)
  have hz3 : w.heap.size < w3.heap.size := oD3
  have hz3' : w.heap.size ≤ w3.heap.size := by omega
  clear cD
  generalize ((w3.alloc (.cells #[.int .i64 c, .slice a n p, .bool false] 26)).alloc (.cells #[.int .i64 c, .slice a n p, .bool false] 26)) = w4 at *
  have hm1 : 1 ≤ m := by omega
  have HK := Lib.hid hK
  clear hK
  go_loopw [8, 9] (FullR w w3.heap.size w.heap.size (w3.heap.size + 1) c a n p K l l2) (fun _ i _ => K + 1 - (intOf i).toNat)
  case atStart => exact ⟨0, a, p, 0, Nat.zero_le _, rfl, rfl, .inl ⟨Nat.zero_le _, rfl, .inl (by simpa using HL.out), k7⟩, k5, kD, hB4⟩
  case round =>
    obtain ⟨k, a', p', f', hk, rfl, rfl, ⟨hkK, rfl, hr, k7⟩ | ⟨rfl, rfl⟩, k5, kD, hbl⟩ := hrel
    · have HR := Lib.hid hr
      have H7 := Lib.hid k7
      have H5 := Lib.hid k5
      have HD := Lib.hid kD
      have HBL := Lib.hid hbl
      have o7 := block_lt k7
      have o5 := block_lt k5
      have oD := block_lt kD
      have c7 := cell_block k7
      have f7 := free_block k7
      have q7 : Old wr (w3.heap.size + 1) := o7
      have q5 : Old wr w3.heap.size := o5
      have qD : Old wr w.heap.size := oD
      have hzr : w.heap.size ≤ wr.heap.size := hbl.size
      clear hr k7 k5 kD hbl
      have hi : (k : Int) < (m : Int) := by omega
      have hi0 : (0 : Int) ≤ (k : Int) := by omega
      obtain ⟨x, hx⟩ : ∃ x, l2[k]? = some x := ⟨_, List.getElem?_eq_getElem (by have := HM.out; omega)⟩
      have HX := Lib.hid hx
      obtain ⟨b, off, rfl, hb0, c0, c1, c2, c3, c4, c5⟩ := (HU.out.below HBL.out).at hx
      clear hx
      have hk64 : ((n + k : Nat) : Int) ≤ c := by have := HK.out; omega
      by_cases hlt : k < K
      · have hk1 : ((1 : Nat) : Int) ≤ c - ((n + k : Nat) : Int) := by have := HK.out; omega
        go_upto_region 8 with fail
        go_region_law (first
          | (go_simp; go_at_call 9; refine (put9_ok c a' (some ⟨_, 0, none⟩) (n + k) p' 1 1 (l ++ l2.take k) [x] _ h1 h2 hk64 (RdL.below (HR.out.rd HBL.out) (by (repeat' (first | (with_reducible exact Below.refl _ _) | (with_reducible assumption) | (with_reducible refine Below.drew ?_) | (with_reducible refine Below.alloc ?_ ?_ _) | (with_reducible refine below_more ?_ ?_ _ _) | (with_reducible refine Below.setCell ?_ ?_ _) | (with_reducible refine Below.trans ?_ (Below.mono (by assumption) ?_)))) <;> first | omega | (simp; done) | (simp; omega) | (simp [more_size]; done) | (simp [more_size]; omega))) (rdL_blk x (by (repeat' (first | (with_reducible assumption) | (with_reducible refine hm_new ?_; (first | rfl | (simp; done) | (simp [more_size]; done) | (simp [more_size]; omega))) | (with_reducible refine block_alloc ?_) | (with_reducible refine hm_more ?_) | (with_reducible refine hm_drew ?_))))) hk1).mono ?_; rintro e w' ⟨a3, p3, rfl, hr, hb⟩; have hB' : Below wr.heap.size wr w' := (by (repeat' (first | (with_reducible exact Below.refl _ _) | (with_reducible assumption) | (with_reducible refine Below.drew ?_) | (with_reducible refine Below.alloc ?_ ?_ _) | (with_reducible refine below_more ?_ ?_ _ _) | (with_reducible refine Below.setCell ?_ ?_ _) | (with_reducible refine Below.trans ?_ (Below.mono (by assumption) ?_)))) <;> first | omega | (simp; done) | (simp; omega) | (simp [more_size]; done) | (simp [more_size]; omega)); have hz' := hB'.size; have hce := fun (b o : Nat) h => Below.cell (p := ⟨b, o, none⟩) hb h; have hfe := fun (b o : Nat) h => Below.frozen (p := ⟨b, o, none⟩) hb h))
        all_goals
          clear hce hfe hb c7 f7 c0 c1 c2 c3 c4 c5
          have k7 := block_keep' hB' H7.out
          have K7 := Lib.hid (st3 k7 (.int .i64 c) (.slice a3 (n + k + 1) p3) (.bool false))
          have K5 := Lib.hid (ot3 (b := w3.heap.size + 1) (block_keep' hB' H5.out) (by omega) (.int .i64 c) (.slice a3 (n + k + 1) p3) (.bool false))
          have KD := Lib.hid (ot3 (b := w3.heap.size + 1) (block_keep' hB' HD.out) (by omega) (.int .i64 c) (.slice a3 (n + k + 1) p3) (.bool false))
          have KR := Lib.hid (hr.set3 k7 (by decide) (.int .i64 c) (.slice a3 (n + k + 1) p3) (.bool false))
          have KB := Lib.hid ((((HBL.out.trans (hB'.mono hzr)).setCell (by exact (by omega : w.heap.size ≤ w3.heap.size + 1)) (.int .i64 c) (p := ⟨w3.heap.size + 1, 0, none⟩)).setCell (by exact (by omega : w.heap.size ≤ w3.heap.size + 1)) (.slice a3 (n + k + 1) p3) (p := ⟨w3.heap.size + 1, 1, none⟩)).setCell (by exact (by omega : w.heap.size ≤ w3.heap.size + 1)) (.bool false) (p := ⟨w3.heap.size + 1, 2, none⟩))
          clear k7 hr
          go_wp2
          go_roundw
          case rel => exact ⟨k + 1, a3, p3, 0, by omega, rfl, by go_num, .inl ⟨by omega, rfl, .inr (by rw [take_one HX.out, ← List.append_assoc]; exact KR.out), K7.out⟩, K5.out, KD.out, KB.out⟩
          case measure => first | (simp [intOf]; done) | (simp [intOf]; omega)
      · obtain rfl : k = K := by omega
        have hfull : c - ((n + k : Nat) : Int) < ((1 : Nat) : Int) := by have := HK.out; omega
        go_upto_region 8 with fail
        go_region_law (first
          | (go_simp; go_at_call 9; refine (put9_full c a' (some ⟨_, 0, none⟩) (n + k) p' 1 1 (l ++ l2.take k) [x] _ h1 h2 hk64 (RdL.below (HR.out.rd HBL.out) (by (repeat' (first | (with_reducible exact Below.refl _ _) | (with_reducible assumption) | (with_reducible refine Below.drew ?_) | (with_reducible refine Below.alloc ?_ ?_ _) | (with_reducible refine below_more ?_ ?_ _ _) | (with_reducible refine Below.setCell ?_ ?_ _) | (with_reducible refine Below.trans ?_ (Below.mono (by assumption) ?_)))) <;> first | omega | (simp; done) | (simp; omega) | (simp [more_size]; done) | (simp [more_size]; omega))) (rdL_blk x (by (repeat' (first | (with_reducible assumption) | (with_reducible refine hm_new ?_; (first | rfl | (simp; done) | (simp [more_size]; done) | (simp [more_size]; omega))) | (with_reducible refine block_alloc ?_) | (with_reducible refine hm_more ?_) | (with_reducible refine hm_drew ?_))))) hfull).mono ?_; rintro e w' ⟨rfl, hb⟩; have hB' : Below wr.heap.size wr w' := (by (repeat' (first | (with_reducible exact Below.refl _ _) | (with_reducible assumption) | (with_reducible refine Below.drew ?_) | (with_reducible refine Below.alloc ?_ ?_ _) | (with_reducible refine below_more ?_ ?_ _ _) | (with_reducible refine Below.setCell ?_ ?_ _) | (with_reducible refine Below.trans ?_ (Below.mono (by assumption) ?_)))) <;> first | omega | (simp; done) | (simp; omega) | (simp [more_size]; done) | (simp [more_size]; omega)); have hz' := hB'.size; have hce := fun (b o : Nat) h => Below.cell (p := ⟨b, o, none⟩) hb h; have hfe := fun (b o : Nat) h => Below.frozen (p := ⟨b, o, none⟩) hb h))
        all_goals
          clear hce hfe hb c7 f7 c0 c1 c2 c3 c4 c5
          have K5 := Lib.hid (ot3 (b := w3.heap.size + 1) (block_keep' hB' H5.out) (by omega) (.int .i64 c) (.slice a' (n + k) p') (.bool false))
          have KD := Lib.hid (ot3 (b := w3.heap.size + 1) (block_keep' hB' HD.out) (by omega) (.int .i64 c) (.slice a' (n + k) p') (.bool false))
          have KB := Lib.hid ((((HBL.out.trans (hB'.mono hzr)).setCell (by exact (by omega : w.heap.size ≤ w3.heap.size + 1)) (.int .i64 c) (p := ⟨w3.heap.size + 1, 0, none⟩)).setCell (by exact (by omega : w.heap.size ≤ w3.heap.size + 1)) (.slice a' (n + k) p') (p := ⟨w3.heap.size + 1, 1, none⟩)).setCell (by exact (by omega : w.heap.size ≤ w3.heap.size + 1)) (.bool false) (p := ⟨w3.heap.size + 1, 2, none⟩))
          go_wp2
          go_roundw
          case rel => exact ⟨k + 1, a', p', 50, by omega, rfl, by go_num, .inr ⟨rfl, rfl⟩, K5.out, KD.out, KB.out⟩
          case measure => first | (simp [intOf]; done) | (simp [intOf]; omega)
    · have hm0 : ((m : Int) == 0) = false := by simp; omega
      have HBZ := Lib.hid hbl
      have hzz : w.heap.size ≤ wr.heap.size := hbl.size
      have c5 := cell_block k5
      have cD := cell_block kD
      have oz5 := block_lt k5
      have ozD := block_lt kD
      have nk : n ≤ 1000 := by omega
      clear k5 kD hbl
      go_wp2_with fail
      all_goals
        refine (same16 c false a a n p p l _ nk (HL.out.below HBZ.out) (HL.out.below HBZ.out)).mono ?_
        rintro r w5 ⟨rfl, hb⟩
        have HB5 := Lib.hid (HBZ.out.trans (hb.mono hzz))
        clear hb c5 cD
        go_wp2_with fail
        refine (wakes7 _).mono ?_
        rintro r w6 ⟨rfl, hb⟩
        go_wp2_with fail
        go_ret
        exact ⟨rfl, HB5.out.trans (hb.mono HB5.out.size)⟩
end Go.Proofs.Ytkffmjcipnlbhaa
