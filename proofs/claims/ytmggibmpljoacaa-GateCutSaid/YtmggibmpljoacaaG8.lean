
/- Walks of the seat of chapter 06: GateCounts. -/
import Derived.Test.YtmggibmpljoacaaG7
namespace Go.Proofs.Ytmggibmpljoacaa
open Go.RowKit
attribute [local go_sem ↓] Go.wp_at_zero Go.wp_at_succ
attribute [local go_sem] more_size cell_more_old frozen_more_old setCell_more_old more_drew drew_more old_alloc old_more old_drew old_setCell cell_alloc_old frozen_alloc_old setCell_alloc_old
attribute [local go_sem ↓] load25 store25
attribute [local go_sem] run25 runs25 blk_drew has_drew blk_drewN has_drewN old_drewN blk_alloc_old has_alloc_old blk_alloc_new has_alloc_new setBlk_size setBlk_drew old_setBlk cell_setBlk' cell_setBlk_ne frozen_setBlk blk_setBlk' blk_setBlk_ne has_setBlk' has_setBlk_ne setBlk_alloc_old setBlk_new

/-- A row of truths that came in. -/
def RdB (w : World) (v : Value) (l : List Bool) : Prop := RdF w 1 v l.length (l.map Value.bool)
theorem RdB.below {w w' : World} {v : Value} {l : List Bool} (h : RdB w v l) (hb : Below w.heap.size w w') : RdB w' v l := RdF.below h hb
theorem RdB.len {w : World} {a : Option Addr} {m c : Nat} {l : List Bool} (h : RdB w (.slice a m c) l) : m = l.length := (RdF.le h).1
theorem RdB.at {w : World} {a : Option Addr} {m c : Nat} {l : List Bool} (h : RdB w (.slice a m c) l) {k : Nat} {x : Bool} (hk : l[k]? = some x) : ∃ b off, a = some ⟨b, off, none⟩ ∧ b < w.heap.size ∧ w.cell? ⟨b, off + k, none⟩ = some (.bool x) := by
  have hlt : k < l.length := (List.getElem?_eq_some_iff.1 hk).1
  obtain ⟨b, off, rfl, hb, hx⟩ := RdF.lies h (by omega)
  exact ⟨b, off, rfl, hb, hx _ _ (by rw [List.getElem?_map, hk]; rfl)⟩
theorem owns_setBlkT {w : World} {base e sz n B : Nat} {cs : Array Value} {t : TypeId} {fr : Nat × Nat} {v : Value} {xs : List Value} (hB : w.heap[B]? = some (.cells cs t fr)) (hte : t ≠ e) (h : w.ownsRow base e sz v n xs) (ds : Array Value) : (setBlk w B ds).ownsRow base e sz v n xs := by
  obtain ⟨h1, h2 | ⟨g, cap, cur, rfl, hg, hk, rest⟩⟩ := h
  · exact ⟨h1, .inl h2⟩
  · refine ⟨h1, .inr ⟨g, cap, cur, rfl, hg, ?_, rest⟩⟩
    rw [setBlk_ne]
    · exact hk
    · rintro rfl
      have := hB.symm.trans hk
      simp at this
      exact hte this.2.1
theorem free11_le (c : Int) (a : Option Addr) (n p : Nat) (w : World) (h1 : (n : Int) ≤ c) (h2 : c ≤ 64) : Calls Try.prog 11 #[.agg #[.int .i64 c, .slice a n p, .bool false]] w fun r w' => r = .returned (.int .i64 (c - n)) ∧ Below w.heap.size w w' := by
  by_cases h : (n : Int) < c
  · exact free11_some c a n p w h (by omega)
  · have : c - (n : Int) = 0 := by omega
    rw [this]
    exact free11_none c a n p w (by omega) (by omega) (by omega)
theorem leave9s (c : Int) (a : Option Addr) (n p : Nat) (b : Bool) (l : List Lt) (w : World) (hl : RdL w (.slice a (n + 1) p) l) (h3 : n + 1 ≤ 1000) : Calls Try.prog 9 #[.agg #[.int .i64 c, .slice a (n + 1) p, .bool b]] w (DuctR c n b (l.drop 1) 0 w) := leave9 c a (n + 1) p b l w hl (Nat.le_add_left _ _) h3
/-- What a gate holds: its block, its letters in new memory. -/
def GateR (c : Int) (m B : Nat) (w : World) (s7 s8 : Value) (wr : World) : Prop :=
  ∃ (k n p : Nat) (a : Option Addr) (l : List Lt), k ≤ m ∧ n ≤ k ∧ (n : Int) ≤ c ∧ s8 = .int .i64 k ∧ s7 = .int .i64 n ∧ n = l.length ∧ wr.heap[B]? = some (.cells #[.int .i64 c, .slice a n p, .bool false] 25) ∧ wr.ownsRow w.heap.size 38 6 (.slice a n p) n (ltCells l) ∧ Below w.heap.size w wr

set_option maxRecDepth 100000 in
set_option maxHeartbeats 4000000 in
theorem counts3_low (c : Int) (a : Option Addr) (m p : Nat) (w : World) (h : c < 1 ∨ (1 ≤ c ∧ 64 < c)) : Calls Try.prog 3 #[.int .i64 c, .slice a m p] w fun r w' => r = .returned (.bool true) ∧ Below w.heap.size w w' := by
  rcases h with h | ⟨h', h⟩
  · go_enter Try.func3, Try.ntmps3
    go_wp2_with fail
    refine (gate6_low c _ h).mono ?_
    rintro r w1 ⟨rfl, hb1⟩
    go_wp2_with fail
    refine (wakes7 _).mono ?_
    rintro r w2 ⟨rfl, hb⟩
    have hB := hb1.trans ((show Below w1.heap.size w1 w2 by (repeat' (first | (with_reducible exact Below.refl _ _) | (with_reducible assumption) | (with_reducible refine Below.drew ?_) | (with_reducible refine Below.alloc ?_ ?_ _) | (with_reducible refine below_more ?_ ?_ _ _) | (with_reducible refine Below.setCell ?_ ?_ _) | (with_reducible refine Below.trans ?_ (Below.mono (by assumption) ?_)))) <;> first | omega | (simp; done) | (simp; omega) | (simp [more_size]; done) | (simp [more_size]; omega)).mono hb1.size)
    go_wp2_with fail
    go_ret
    exact ⟨rfl, hB⟩
  · go_enter Try.func3, Try.ntmps3
    go_wp2_with fail
    refine (gate6_high c _ h).mono ?_
    rintro r w1 ⟨rfl, hb1⟩
    go_wp2_with fail
    refine (wakes7 _).mono ?_
    rintro r w2 ⟨rfl, hb⟩
    have hB := hb1.trans ((show Below w1.heap.size w1 w2 by (repeat' (first | (with_reducible exact Below.refl _ _) | (with_reducible assumption) | (with_reducible refine Below.drew ?_) | (with_reducible refine Below.alloc ?_ ?_ _) | (with_reducible refine below_more ?_ ?_ _ _) | (with_reducible refine Below.setCell ?_ ?_ _) | (with_reducible refine Below.trans ?_ (Below.mono (by assumption) ?_)))) <;> first | omega | (simp; done) | (simp; omega) | (simp [more_size]; done) | (simp [more_size]; omega)).mono hb1.size)
    go_wp2_with fail
    go_ret
    exact ⟨rfl, hB⟩
set_option maxRecDepth 100000 in
set_option maxHeartbeats 4000000 in
theorem counts3_long (c : Int) (a : Option Addr) (m p : Nat) (w : World) (h1 : 1 ≤ c) (h2 : c ≤ 64) (h : (200 : Int) < (m : Int)) : Calls Try.prog 3 #[.int .i64 c, .slice a m p] w fun r w' => r = .returned (.bool true) ∧ Below w.heap.size w w' := by
  go_enter Try.func3, Try.ntmps3
  go_wp2_with fail
  refine (gate6 c _ h1 h2).mono ?_
  rintro r w1 ⟨a1, p1, rfl, ho1, hb1⟩
  clear ho1
  go_wp2_with fail
  refine (wakes7 _).mono ?_
  rintro r w2 ⟨rfl, hb⟩
  have hB := hb1.trans ((show Below w1.heap.size w1 w2 by (repeat' (first | (with_reducible exact Below.refl _ _) | (with_reducible assumption) | (with_reducible refine Below.drew ?_) | (with_reducible refine Below.alloc ?_ ?_ _) | (with_reducible refine below_more ?_ ?_ _ _) | (with_reducible refine Below.setCell ?_ ?_ _) | (with_reducible refine Below.trans ?_ (Below.mono (by assumption) ?_)))) <;> first | omega | (simp; done) | (simp; omega) | (simp [more_size]; done) | (simp [more_size]; omega)).mono hb1.size)
  go_wp2_with fail
  go_ret
  exact ⟨rfl, hB⟩
set_option maxRecDepth 100000 in
set_option maxHeartbeats 4000000 in
theorem counts3 (c : Int) (a : Option Addr) (m p : Nat) (l : List Bool) (w : World) (hl : RdB w (.slice a m p) l) (h1 : 1 ≤ c) (h2 : c ≤ 64) (h3 : m ≤ 200) :
    Calls Try.prog 3 #[.int .i64 c, .slice a m p] w fun r w' => r = .returned (.bool true) ∧ Below w.heap.size w w' := by
  have HL := Lib.hid hl
  have HN := Lib.hid hl.len
  have h3' : (m : Int) ≤ 200 := by omega
  clear hl
  go_enter Try.func3, Try.ntmps3
  go_wp2_with fail
  refine (gate6 c _ h1 h2).mono ?_
  rintro r w1 ⟨a1, p1, rfl, ho1, hb1⟩
  have HB1 := Lib.hid hb1
  have hz1 : w.heap.size ≤ w1.heap.size := hb1.size
  have ho1' : (w1.alloc (.cells #[.int .i64 c, .slice a1 0 p1, .bool false] 25)).ownsRow w.heap.size 38 6 (.slice a1 0 p1) 0 (ltCells []) := ho1.alloc _
  have HO1 := Lib.hid ho1'
  clear ho1 ho1' hb1
  go_wp2_with fail
  have kD : (w1.alloc (.cells #[.int .i64 c, .slice a1 0 p1, .bool false] 25)).heap[w1.heap.size]? = some (.cells #[.int .i64 c, .slice a1 0 p1, .bool false] 25) := by (repeat' (first | (with_reducible assumption) | (with_reducible refine hm_new ?_; (first | rfl | (simp; done) | (simp [more_size]; done) | (simp [more_size]; omega))) | (with_reducible refine block_alloc ?_) | (with_reducible refine hm_more ?_) | (with_reducible refine hm_drew ?_)))
  have hBD : Below w.heap.size w (w1.alloc (.cells #[.int .i64 c, .slice a1 0 p1, .bool false] 25)) := HB1.out.alloc hz1 _
  clear HB1
  generalize (w1.alloc (.cells #[.int .i64 c, .slice a1 0 p1, .bool false] 25)) = wd at *
  go_loopw [7, 8] (GateR c m w1.heap.size w) (fun _ i _ => m - (intOf i).toNat)
  case atStart => exact ⟨0, 0, p1, a1, [], Nat.zero_le _, Nat.zero_le _, by omega, rfl, rfl, rfl, kD, HO1.out, hBD⟩
  case round =>
    obtain ⟨k, n, pn, an, q, hk, hnk, hnc, rfl, rfl, hq, kB, ho, hbr⟩ := hrel
    have HQ := Lib.hid hq
    have KB := Lib.hid kB
    have HO := Lib.hid ho
    have HBR := Lib.hid hbr
    have lB := blk_of kB
    have mB : Has wr w1.heap.size 3 := has_of kB
    have oB := block_lt kB
    have qB : Old wr w1.heap.size := oB
    have hzr : w.heap.size ≤ wr.heap.size := hbr.size
    clear hq kB ho hbr kD hBD
    by_cases hlt : k < m
    · have hi : (k : Int) < (m : Int) := by omega
      have hi0 : (0 : Int) ≤ (k : Int) := by omega
      obtain ⟨x, hx⟩ : ∃ x, l[k]? = some x := ⟨_, List.getElem?_eq_getElem (by have := HN.out; omega)⟩
      obtain ⟨bi, oi, rfl, hbi, ci⟩ := (HL.out.below HBR.out).at hx
      have qi : Old wr bi := hbi
      clear hx
      cases x
      · by_cases hn : n = 0
        · subst hn
          go_wp2_with fail
          refine (leave9_empty c an pn false _).mono ?_
          rintro r w2 ⟨rfl, hb2⟩
          have kB2 : w2.heap[w1.heap.size]? = some (.cells #[.int .i64 c, .slice an 0 pn, .bool false] 25) := block_keep' hb2 (block_alloc KB.out)
          have k92 : w2.heap[wr.heap.size]? = some (.cells #[.int .i64 0, .slice none 0 0, .bool false] 25) := block_keep' hb2 (by (repeat' (first | (with_reducible assumption) | (with_reducible refine hm_new ?_; (first | rfl | (simp; done) | (simp [more_size]; done) | (simp [more_size]; omega))) | (with_reducible refine block_alloc ?_) | (with_reducible refine hm_more ?_) | (with_reducible refine hm_drew ?_))))
          have ho2 := owns_below (HO.out.alloc (.cells #[.int .i64 0, .slice none 0 0, .bool false] 25)) hb2
          have hB2 : Below w.heap.size w w2 := HBR.out.trans ((show Below wr.heap.size wr w2 by (repeat' (first | (with_reducible exact Below.refl _ _) | (with_reducible assumption) | (with_reducible refine Below.drew ?_) | (with_reducible refine Below.alloc ?_ ?_ _) | (with_reducible refine below_more ?_ ?_ _ _) | (with_reducible refine Below.setCell ?_ ?_ _) | (with_reducible refine Below.trans ?_ (Below.mono (by assumption) ?_)))) <;> first | omega | (simp; done) | (simp; omega) | (simp [more_size]; done) | (simp [more_size]; omega)).mono hzr)
          have hne : w1.heap.size ≠ wr.heap.size := by omega
          have KBs := Lib.hid ((setBlk_ne w2 wr.heap.size w1.heap.size #[.int .i64 0, .slice none 0 0, .bool false] hne).trans kB2)
          have HOs := Lib.hid (owns_setBlkT k92 (by decide) ho2 #[.int .i64 0, .slice none 0 0, .bool false])
          have HBs := Lib.hid (Below.setBlk hB2 hzr #[.int .i64 0, .slice none 0 0, .bool false])
          have lS := blk_of KBs.out
          have mS : Has (setBlk w2 wr.heap.size #[.int .i64 0, .slice none 0 0, .bool false]) w1.heap.size 3 := has_of KBs.out
          have m92 : Has w2 wr.heap.size 3 := has_of k92
          clear lB mB qB ci qi k92 kB2 ho2 hb2 hB2
          go_wp2_with fail
          refine (inside10 c an 0 pn false _ 25 _ (hm_new (by simp only [setBlk_size])) (by omega)).mono ?_
          rintro r w3 ⟨rfl, hb3⟩
          have KB3 := Lib.hid (block_keep' hb3 (block_alloc KBs.out))
          have HO3 := Lib.hid (owns_below (HOs.out.alloc _) hb3)
          have HB3 := Lib.hid ((HBs.out.alloc HBs.out.size _).trans (hb3.mono (by simp only [size_alloc]; have := HBs.out.size; omega)))
          have lB3 := blk_of KB3.out
          have mB3 : Has w3 w1.heap.size 3 := has_of KB3.out
          clear hb3 m92 lS mS
          go_wp2_with fail
          refine (free11_le c an 0 pn _ (by omega) h2).mono ?_
          rintro r w4 ⟨rfl, hb4⟩
          have KB4 := Lib.hid (block_keep' hb4 KB3.out)
          have HO4 := Lib.hid (owns_below HO3.out hb4)
          have HB4 := Lib.hid (HB3.out.trans (hb4.mono HB3.out.size))
          clear hb4 lB3 mB3
          go_wp2_with fail
          go_roundw
          case rel => exact ⟨k + 1, 0, pn, an, q, by omega, by omega, by omega, by go_num, rfl, HQ.out, KB4.out, HO4.out, HB4.out⟩
          case measure => first | (simp [intOf]; done) | (simp [intOf]; omega)
        · obtain ⟨n', rfl⟩ : ∃ n', n = n' + 1 := ⟨n - 1, by omega⟩
          rw [show (((n' + 1 : Nat)) : Int) = (n' : Int) + 1 from rfl]
          have hn0 : (0 : Int) < (n' : Int) + 1 := by omega
          clear hn
          go_wp2_with fail
          refine (leave9s c an n' pn false q _ ((rd_owns HO.out HQ.out).below (by (repeat' (first | (with_reducible exact Below.refl _ _) | (with_reducible assumption) | (with_reducible refine Below.drew ?_) | (with_reducible refine Below.alloc ?_ ?_ _) | (with_reducible refine below_more ?_ ?_ _ _) | (with_reducible refine Below.setCell ?_ ?_ _) | (with_reducible refine Below.trans ?_ (Below.mono (by assumption) ?_)))) <;> first | omega | (simp; done) | (simp; omega) | (simp [more_size]; done) | (simp [more_size]; omega))) (by omega)).mono ?_
          rintro r w2 ⟨a2, p2, rfl, ho2, hb2⟩
          have kB2 : w2.heap[w1.heap.size]? = some (.cells #[.int .i64 c, .slice an (n' + 1) pn, .bool false] 25) := block_keep' hb2 (block_alloc KB.out)
          have k92 : w2.heap[wr.heap.size]? = some (.cells #[.int .i64 0, .slice none 0 0, .bool false] 25) := block_keep' hb2 (by (repeat' (first | (with_reducible assumption) | (with_reducible refine hm_new ?_; (first | rfl | (simp; done) | (simp [more_size]; done) | (simp [more_size]; omega))) | (with_reducible refine block_alloc ?_) | (with_reducible refine hm_more ?_) | (with_reducible refine hm_drew ?_))))
          have ho2' := owns_base ho2 (show w.heap.size ≤ _ by simp; omega)
          have hB2 : Below w.heap.size w w2 := HBR.out.trans ((show Below wr.heap.size wr w2 by (repeat' (first | (with_reducible exact Below.refl _ _) | (with_reducible assumption) | (with_reducible refine Below.drew ?_) | (with_reducible refine Below.alloc ?_ ?_ _) | (with_reducible refine below_more ?_ ?_ _ _) | (with_reducible refine Below.setCell ?_ ?_ _) | (with_reducible refine Below.trans ?_ (Below.mono (by assumption) ?_)))) <;> first | omega | (simp; done) | (simp; omega) | (simp [more_size]; done) | (simp [more_size]; omega)).mono hzr)
          have hne : w1.heap.size ≠ wr.heap.size := by omega
          have hne' : wr.heap.size ≠ w1.heap.size := by omega
          have s9 := setBlk_at (cs := #[.int .i64 c, .slice a2 n' p2, .bool false]) k92 rfl
          have kBs : (setBlk w2 wr.heap.size #[.int .i64 c, .slice a2 n' p2, .bool false]).heap[w1.heap.size]? = _ := (setBlk_ne _ _ _ _ hne).trans kB2
          have HOs := Lib.hid (owns_setBlkT kBs (by decide) (owns_setBlkT k92 (by decide) ho2' #[.int .i64 c, .slice a2 n' p2, .bool false]) #[.int .i64 c, .slice a2 n' p2, .bool false])
          have KBs := Lib.hid (setBlk_at (cs := #[.int .i64 c, .slice a2 n' p2, .bool false]) kBs rfl)
          have HBs := Lib.hid (Below.setBlk (Below.setBlk hB2 hzr #[.int .i64 c, .slice a2 n' p2, .bool false]) hz1 #[.int .i64 c, .slice a2 n' p2, .bool false])
          have lS := blk_of KBs.out
          have mS : Has (setBlk (setBlk w2 wr.heap.size #[.int .i64 c, .slice a2 n' p2, .bool false]) w1.heap.size #[.int .i64 c, .slice a2 n' p2, .bool false]) w1.heap.size 3 := has_of KBs.out
          have m92 : Has w2 wr.heap.size 3 := has_of k92
          have mB2 : Has w2 w1.heap.size 3 := has_of kB2
          clear lB mB qB ci qi s9 kBs k92 kB2 ho2 ho2' hb2 hB2
          go_wp2_with fail
          refine (inside10 c a2 n' p2 false _ 25 _ (hm_new (by simp only [setBlk_size])) (by omega)).mono ?_
          rintro r w3 ⟨rfl, hb3⟩
          have KB3 := Lib.hid (block_keep' hb3 (block_alloc KBs.out))
          have HO3 := Lib.hid (owns_below (HOs.out.alloc _) hb3)
          have HB3 := Lib.hid ((HBs.out.alloc HBs.out.size _).trans (hb3.mono (by simp only [size_alloc]; have := HBs.out.size; omega)))
          have lB3 := blk_of KB3.out
          have mB3 : Has w3 w1.heap.size 3 := has_of KB3.out
          clear hb3 m92 mB2 lS mS
          go_wp2_with fail
          refine (free11_le c a2 n' p2 _ (by omega) h2).mono ?_
          rintro r w4 ⟨rfl, hb4⟩
          have KB4 := Lib.hid (block_keep' hb4 KB3.out)
          have HO4 := Lib.hid (owns_below HO3.out hb4)
          have HB4 := Lib.hid (HB3.out.trans (hb4.mono HB3.out.size))
          clear hb4 lB3 mB3
          go_wp2_with fail
          go_roundw
          case rel => exact ⟨k + 1, n', p2, a2, q.drop 1, by omega, by omega, by omega, by go_num, rfl, by rw [List.length_drop, ← HQ.out]; rfl, KB4.out, HO4.out, HB4.out⟩
          case measure => first | (simp [intOf]; done) | (simp [intOf]; omega)
      · by_cases hn : (n : Int) < c
        · go_wp2_with fail
          refine (enter8 c an n pn q _ ((rd_owns HO.out HQ.out).below (by (repeat' (first | (with_reducible exact Below.refl _ _) | (with_reducible assumption) | (with_reducible refine Below.drew ?_) | (with_reducible refine Below.alloc ?_ ?_ _) | (with_reducible refine below_more ?_ ?_ _ _) | (with_reducible refine Below.setCell ?_ ?_ _) | (with_reducible refine Below.trans ?_ (Below.mono (by assumption) ?_)))) <;> first | omega | (simp; done) | (simp; omega) | (simp [more_size]; done) | (simp [more_size]; omega))) hn (by omega) (by omega)).mono ?_
          rintro r w2 ⟨a2, p2, rfl, ho2, hb2⟩
          have kB2 : w2.heap[w1.heap.size]? = some (.cells #[.int .i64 c, .slice an n pn, .bool false] 25) := block_keep' hb2 (block_alloc KB.out)
          have k92 : w2.heap[wr.heap.size]? = some (.cells #[.int .i64 0, .slice none 0 0, .bool false] 25) := block_keep' hb2 (by (repeat' (first | (with_reducible assumption) | (with_reducible refine hm_new ?_; (first | rfl | (simp; done) | (simp [more_size]; done) | (simp [more_size]; omega))) | (with_reducible refine block_alloc ?_) | (with_reducible refine hm_more ?_) | (with_reducible refine hm_drew ?_))))
          have ho2' := owns_base ho2 (show w.heap.size ≤ _ by simp; omega)
          have hB2 : Below w.heap.size w w2 := HBR.out.trans ((show Below wr.heap.size wr w2 by (repeat' (first | (with_reducible exact Below.refl _ _) | (with_reducible assumption) | (with_reducible refine Below.drew ?_) | (with_reducible refine Below.alloc ?_ ?_ _) | (with_reducible refine below_more ?_ ?_ _ _) | (with_reducible refine Below.setCell ?_ ?_ _) | (with_reducible refine Below.trans ?_ (Below.mono (by assumption) ?_)))) <;> first | omega | (simp; done) | (simp; omega) | (simp [more_size]; done) | (simp [more_size]; omega)).mono hzr)
          have hne : w1.heap.size ≠ wr.heap.size := by omega
          have hne' : wr.heap.size ≠ w1.heap.size := by omega
          have s9 := setBlk_at (cs := #[.int .i64 c, .slice a2 (n + 1) p2, .bool false]) k92 rfl
          have kBs : (setBlk w2 wr.heap.size #[.int .i64 c, .slice a2 (n + 1) p2, .bool false]).heap[w1.heap.size]? = _ := (setBlk_ne _ _ _ _ hne).trans kB2
          have HOs := Lib.hid (owns_setBlkT kBs (by decide) (owns_setBlkT k92 (by decide) ho2' #[.int .i64 c, .slice a2 (n + 1) p2, .bool false]) #[.int .i64 c, .slice a2 (n + 1) p2, .bool false])
          have KBs := Lib.hid (setBlk_at (cs := #[.int .i64 c, .slice a2 (n + 1) p2, .bool false]) kBs rfl)
          have HBs := Lib.hid (Below.setBlk (Below.setBlk hB2 hzr #[.int .i64 c, .slice a2 (n + 1) p2, .bool false]) hz1 #[.int .i64 c, .slice a2 (n + 1) p2, .bool false])
          have lS := blk_of KBs.out
          have mS : Has (setBlk (setBlk w2 wr.heap.size #[.int .i64 c, .slice a2 (n + 1) p2, .bool false]) w1.heap.size #[.int .i64 c, .slice a2 (n + 1) p2, .bool false]) w1.heap.size 3 := has_of KBs.out
          have m92 : Has w2 wr.heap.size 3 := has_of k92
          have mB2 : Has w2 w1.heap.size 3 := has_of kB2
          clear lB mB qB ci qi s9 kBs k92 kB2 ho2 ho2' hb2 hB2
          go_wp2_with fail
          refine (inside10 c a2 (n + 1) p2 false _ 25 _ (hm_new (by simp only [setBlk_size])) (by omega)).mono ?_
          rintro r w3 ⟨rfl, hb3⟩
          rw [show (((n + 1 : Nat)) : Int) = (n : Int) + 1 from rfl]
          have KB3 := Lib.hid (block_keep' hb3 (block_alloc KBs.out))
          have HO3 := Lib.hid (owns_below (HOs.out.alloc _) hb3)
          have HB3 := Lib.hid ((HBs.out.alloc HBs.out.size _).trans (hb3.mono (by simp only [size_alloc]; have := HBs.out.size; omega)))
          have lB3 := blk_of KB3.out
          have mB3 : Has w3 w1.heap.size 3 := has_of KB3.out
          clear hb3 m92 mB2 lS mS
          go_wp2_with fail
          refine (free11_le c a2 (n + 1) p2 _ (by omega) h2).mono ?_
          rintro r w4 ⟨rfl, hb4⟩
          rw [show (((n + 1 : Nat)) : Int) = (n : Int) + 1 from rfl]
          have KB4 := Lib.hid (block_keep' hb4 KB3.out)
          have HO4 := Lib.hid (owns_below HO3.out hb4)
          have HB4 := Lib.hid (HB3.out.trans (hb4.mono HB3.out.size))
          clear hb4 lB3 mB3
          go_wp2_with fail
          go_roundw
          case rel => exact ⟨k + 1, n + 1, p2, a2, q ++ [zLt], by omega, by omega, by omega, by go_num, rfl, by rw [List.length_append, ← HQ.out]; rfl, KB4.out, HO4.out, HB4.out⟩
          case measure => first | (simp [intOf]; done) | (simp [intOf]; omega)
        · have hn' : c ≤ (n : Int) := by omega
          have hd : decide ((n : Int) < c) = false := by simp; omega
          go_wp2_with fail
          refine (enter8_full c an n pn _ hn' (by omega) (by omega)).mono ?_
          rintro r w2 ⟨rfl, hb2⟩
          have kB2 : w2.heap[w1.heap.size]? = some (.cells #[.int .i64 c, .slice an n pn, .bool false] 25) := block_keep' hb2 (block_alloc KB.out)
          have k92 : w2.heap[wr.heap.size]? = some (.cells #[.int .i64 0, .slice none 0 0, .bool false] 25) := block_keep' hb2 (by (repeat' (first | (with_reducible assumption) | (with_reducible refine hm_new ?_; (first | rfl | (simp; done) | (simp [more_size]; done) | (simp [more_size]; omega))) | (with_reducible refine block_alloc ?_) | (with_reducible refine hm_more ?_) | (with_reducible refine hm_drew ?_))))
          have ho2 := owns_below (HO.out.alloc (.cells #[.int .i64 0, .slice none 0 0, .bool false] 25)) hb2
          have hB2 : Below w.heap.size w w2 := HBR.out.trans ((show Below wr.heap.size wr w2 by (repeat' (first | (with_reducible exact Below.refl _ _) | (with_reducible assumption) | (with_reducible refine Below.drew ?_) | (with_reducible refine Below.alloc ?_ ?_ _) | (with_reducible refine below_more ?_ ?_ _ _) | (with_reducible refine Below.setCell ?_ ?_ _) | (with_reducible refine Below.trans ?_ (Below.mono (by assumption) ?_)))) <;> first | omega | (simp; done) | (simp; omega) | (simp [more_size]; done) | (simp [more_size]; omega)).mono hzr)
          have hne : w1.heap.size ≠ wr.heap.size := by omega
          have KBs := Lib.hid ((setBlk_ne w2 wr.heap.size w1.heap.size #[.int .i64 0, .slice none 0 0, .bool false] hne).trans kB2)
          have HOs := Lib.hid (owns_setBlkT k92 (by decide) ho2 #[.int .i64 0, .slice none 0 0, .bool false])
          have HBs := Lib.hid (Below.setBlk hB2 hzr #[.int .i64 0, .slice none 0 0, .bool false])
          have lS := blk_of KBs.out
          have mS : Has (setBlk w2 wr.heap.size #[.int .i64 0, .slice none 0 0, .bool false]) w1.heap.size 3 := has_of KBs.out
          have m92 : Has w2 wr.heap.size 3 := has_of k92
          clear lB mB qB ci qi k92 kB2 ho2 hb2 hB2
          go_wp2_with fail
          refine (inside10 c an n pn false _ 25 _ (hm_new (by simp only [setBlk_size])) (by omega)).mono ?_
          rintro r w3 ⟨rfl, hb3⟩
          have KB3 := Lib.hid (block_keep' hb3 (block_alloc KBs.out))
          have HO3 := Lib.hid (owns_below (HOs.out.alloc _) hb3)
          have HB3 := Lib.hid ((HBs.out.alloc HBs.out.size _).trans (hb3.mono (by simp only [size_alloc]; have := HBs.out.size; omega)))
          have lB3 := blk_of KB3.out
          have mB3 : Has w3 w1.heap.size 3 := has_of KB3.out
          clear hb3 m92 lS mS
          go_wp2_with fail
          refine (free11_le c an n pn _ (by omega) h2).mono ?_
          rintro r w4 ⟨rfl, hb4⟩
          have KB4 := Lib.hid (block_keep' hb4 KB3.out)
          have HO4 := Lib.hid (owns_below HO3.out hb4)
          have HB4 := Lib.hid (HB3.out.trans (hb4.mono HB3.out.size))
          clear hb4 lB3 mB3
          go_wp2_with fail
          go_roundw
          case rel => exact ⟨k + 1, n, pn, an, q, by omega, by omega, by omega, by go_num, rfl, HQ.out, KB4.out, HO4.out, HB4.out⟩
          case measure => first | (simp [intOf]; done) | (simp [intOf]; omega)
    · have hi : ¬ (k : Int) < (m : Int) := by omega
      go_wp2_with fail
      refine (wakes7 _).mono ?_
      rintro r w2 ⟨rfl, hb⟩
      have hB := HBR.out.trans (hb.mono hzr)
      go_wp2_with fail
      go_ret
      exact ⟨rfl, hB⟩
theorem counts3_all (c : Int) (a : Option Addr) (m p : Nat) (l : List Bool) (w : World) (hl : RdB w (.slice a m p) l) :
    Calls Try.prog 3 #[.int .i64 c, .slice a m p] w fun r w' => r = .returned (.bool true) ∧ Below w.heap.size w w' := by
  by_cases h1 : c < 1
  · exact counts3_low c a m p w (.inl h1)
  · by_cases h2 : c ≤ 64
    · by_cases h3 : m ≤ 200
      · exact counts3 c a m p l w hl (by omega) h2 h3
      · exact counts3_long c a m p w (by omega) h2 (by omega)
    · exact counts3_low c a m p w (.inr ⟨by omega, by omega⟩)
end Go.Proofs.Ytmggibmpljoacaa
