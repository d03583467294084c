
/- Walks of the seat of chapter 05: DuctMany. -/
import Derived.Test.YtkffmjcipnlbhaaD6
import Derived.Test.YtkffmjcipnlbhaaD10
import Derived.Deep.DeepCutAuto
import Derived.IntWalk
namespace Go.Proofs.Ytkffmjcipnlbhaa
open Go.RowKit
attribute [local go_sem ↓] Go.wp_at_zero Go.wp_at_succ
attribute [local go_sem] more_size cell_more_old frozen_more_old setCell_more_old more_drew drew_more old_alloc old_more old_drew old_setCell cell_alloc_old frozen_alloc_old setCell_alloc_old

/-- A slice of letters that lay in w0, or lies among letters in w. -/
def RdA (w0 w : World) (v : Value) (l : List Lt) : Prop := RdL w0 v l ∨ RdT w v l
theorem RdA.rd {w0 w : World} {v : Value} {l : List Lt} (h : RdA w0 w v l) (hb : Below w0.heap.size w0 w) : RdL w v l := by
  rcases h with h | h
  · exact h.below hb
  · exact h.rd
theorem RdA.below {w0 w w' : World} {v : Value} {l : List Lt} (h : RdA w0 w v l) (hb : Below w.heap.size w w') : RdA w0 w' v l := by
  rcases h with h | h
  · exact .inl h
  · exact .inr (h.below hb)

theorem room17_is (c : Int) (a : Option Addr) (n p : Nat) (r : Int) (w : World) (h1 : (n : Int) ≤ c) (h2 : c ≤ 64) (hr : c - (n : Int) = r) : Calls Try.prog 17 #[.agg #[.int .i64 c, .slice a n p, .bool false]] w fun e w' => e = .returned (.int .i64 r) ∧ Below w.heap.size w w' := by
  subst hr; exact room17_open c a n p w h1 h2
theorem take_one {α : Type} {l : List α} {k : Nat} {x : α} (h : l[k]? = some x) : l.take (k + 1) = l.take k ++ [x] := by
  rw [List.take_add_one, h]; rfl

theorem may15_no (b : Nat) (c : Int) (a : Option Addr) (n p : Nat) (cl : Bool) (w : World) (h : w.heap[b]? = some (.cells #[.int .i64 c, .slice a n p, .bool cl] 26)) (hn : ¬ (0 ≤ c ∧ c ≤ 64 ∧ (n : Int) ≤ c)) :
    Calls Try.prog 15 #[.slice (some ⟨b, 0, none⟩) 1 1] w fun r w' => r = .returned (.bool false) ∧ Below w.heap.size w w' := by
  by_cases h1 : c < 0
  · exact may15_no1 b c a n p cl w h h1
  by_cases h2 : 64 < c
  · exact may15_no2 b c a n p cl w h (by omega) h2
  exact may15_no3 b c a n p cl w h (by omega) (by omega) (by omega)

set_option maxHeartbeats 4000000 in
theorem many4_bad (c : Int) (a au : Option Addr) (n p m pu : Nat) (cl : Bool) (l l2 : List Lt) (w : World) (hl : RdL w (.slice a n p) l) (hu : RdL w (.slice au m pu) l2) (hbad : (60 : Int) < (m : Int) ∨ ¬ (0 ≤ c ∧ c ≤ 64 ∧ (n : Int) ≤ c)) :
    Calls Try.prog 4 #[.agg #[.int .i64 c, .slice a n p, .bool cl], .slice au m pu] w fun r w' => r = .returned (.bool true) ∧ Below w.heap.size w w' := by
  have HL := Lib.hid hl
  have HU := Lib.hid hu
  have HBD := Lib.hid hbad
  clear hl hu hbad
  go_enter Try.func4, Try.ntmps4
  go_wp2_with fail
  refine (great14 c a au n p m pu cl l l2 _ (HL.out.below (by (repeat' (first | (with_reducible exact Below.refl _ _) | (with_reducible assumption) | (with_reducible refine Below.drew ?_) | (with_reducible refine Below.alloc ?_ ?_ _) | (with_reducible refine below_more ?_ ?_ _ _) | (with_reducible refine Below.setCell ?_ ?_ _) | (with_reducible refine Below.trans ?_ (Below.mono (by assumption) ?_)))) <;> first | omega | (simp; done) | (simp; omega) | (simp [more_size]; done) | (simp [more_size]; omega))) (HU.out.below (by (repeat' (first | (with_reducible exact Below.refl _ _) | (with_reducible assumption) | (with_reducible refine Below.drew ?_) | (with_reducible refine Below.alloc ?_ ?_ _) | (with_reducible refine below_more ?_ ?_ _ _) | (with_reducible refine Below.setCell ?_ ?_ _) | (with_reducible refine Below.trans ?_ (Below.mono (by assumption) ?_)))) <;> first | omega | (simp; done) | (simp; omega) | (simp [more_size]; done) | (simp [more_size]; omega)))).mono ?_
  rintro r w1 ⟨rfl | ⟨rfl, _, _⟩, hb⟩
  · have HB1 := Lib.hid (show Below w.heap.size w w1 by (repeat' (first | (with_reducible exact Below.refl _ _) | (with_reducible assumption) | (with_reducible refine Below.drew ?_) | (with_reducible refine Below.alloc ?_ ?_ _) | (with_reducible refine below_more ?_ ?_ _ _) | (with_reducible refine Below.setCell ?_ ?_ _) | (with_reducible refine Below.trans ?_ (Below.mono (by assumption) ?_)))) <;> first | omega | (simp; done) | (simp; omega) | (simp [more_size]; done) | (simp [more_size]; omega))
    clear hb
    go_wp2_with fail
    refine (wakes7 _).mono ?_
    rintro r w2 ⟨rfl, hb⟩
    go_wp2_with fail
    go_ret
    exact ⟨rfl, HB1.out.trans (hb.mono HB1.out.size)⟩
  have kD : w1.heap[w.heap.size]? = some (.cells #[.int .i64 c, .slice a n p, .bool cl] 26) := block_keep' hb (by (repeat' (first | (with_reducible assumption) | (with_reducible refine hm_new ?_; (first | rfl | (simp; done) | (simp [more_size]; done) | (simp [more_size]; omega))) | (with_reducible refine block_alloc ?_) | (with_reducible refine hm_more ?_) | (with_reducible refine hm_drew ?_))))
  have HB1 := Lib.hid (show Below w.heap.size w w1 by (repeat' (first | (with_reducible exact Below.refl _ _) | (with_reducible assumption) | (with_reducible refine Below.drew ?_) | (with_reducible refine Below.alloc ?_ ?_ _) | (with_reducible refine below_more ?_ ?_ _ _) | (with_reducible refine Below.setCell ?_ ?_ _) | (with_reducible refine Below.trans ?_ (Below.mono (by assumption) ?_)))) <;> first | omega | (simp; done) | (simp; omega) | (simp [more_size]; done) | (simp [more_size]; omega))
  have cD := cell_block kD
  have oD := block_lt kD
  have HD := Lib.hid kD
  clear hb kD
  by_cases hm : (60 : Int) < (m : Int)
  · go_wp2_with fail
    refine (wakes7 _).mono ?_
    rintro r w2 ⟨rfl, hb⟩
    go_wp2_with fail
    go_ret
    exact ⟨rfl, HB1.out.trans (hb.mono HB1.out.size)⟩
  · have HNO : Hid (¬ (0 ≤ c ∧ c ≤ 64 ∧ (n : Int) ≤ c)) := Lib.hid (HBD.out.resolve_left hm)
    go_wp2_with fail
    refine (may15_no _ c a n p cl _ (by (repeat' (first | (with_reducible assumption) | (with_reducible refine hm_new ?_; (first | rfl | (simp; done) | (simp [more_size]; done) | (simp [more_size]; omega))) | (with_reducible refine block_alloc ?_) | (with_reducible refine hm_more ?_) | (with_reducible refine hm_drew ?_)))) HNO.out).mono ?_
    rintro r w2 ⟨rfl, hb⟩
    have HB2 := Lib.hid (show Below w.heap.size w w2 by have hb1 := HB1.out; have hz := hb1.size; (repeat' (first | (with_reducible exact Below.refl _ _) | (with_reducible assumption) | (with_reducible refine Below.drew ?_) | (with_reducible refine Below.alloc ?_ ?_ _) | (with_reducible refine below_more ?_ ?_ _ _) | (with_reducible refine Below.setCell ?_ ?_ _) | (with_reducible refine Below.trans ?_ (Below.mono (by assumption) ?_)))) <;> first | omega | (simp; done) | (simp; omega) | (simp [more_size]; done) | (simp [more_size]; omega))
    clear hb
    go_wp2_with fail
    refine (wakes7 _).mono ?_
    rintro r w3 ⟨rfl, hb⟩
    go_wp2_with fail
    go_ret
    exact ⟨rfl, HB2.out.trans (hb.mono HB2.out.size)⟩

set_option maxRecDepth 100000 in
set_option maxHeartbeats 4000000 in
theorem many4_ok (c : Int) (a au : Option Addr) (n p m pu : Nat) (l l2 : List Lt) (w : World) (h1 : 0 ≤ c) (h2 : c ≤ 64) (h3 : (n : Int) ≤ c) (hl : RdL w (.slice a n p) l) (hu : RdL w (.slice au m pu) l2) (hm : m ≤ 60) (hm1 : 1 ≤ m) (hroom : (m : Int) ≤ c - n) :
    Calls Try.prog 4 #[.agg #[.int .i64 c, .slice a n p, .bool false], .slice au m pu] w fun r w' => r = .returned (.bool true) ∧ Below w.heap.size w w' := by
  have HL := Lib.hid hl
  have HU := Lib.hid hu
  have HN := Lib.hid hl.len
  have HM := Lib.hid hu.len
  clear hl hu
  go_enter Try.func4, Try.ntmps4
  go_wp2_with fail
  refine (great14 c a au n p m pu false l l2 _ (HL.out.below (by (repeat' (first | (with_reducible exact Below.refl _ _) | (with_reducible assumption) | (with_reducible refine Below.drew ?_) | (with_reducible refine Below.alloc ?_ ?_ _) | (with_reducible refine below_more ?_ ?_ _ _) | (with_reducible refine Below.setCell ?_ ?_ _) | (with_reducible refine Below.trans ?_ (Below.mono (by assumption) ?_)))) <;> first | omega | (simp; done) | (simp; omega) | (simp [more_size]; done) | (simp [more_size]; omega))) (HU.out.below (by (repeat' (first | (with_reducible exact Below.refl _ _) | (with_reducible assumption) | (with_reducible refine Below.drew ?_) | (with_reducible refine Below.alloc ?_ ?_ _) | (with_reducible refine below_more ?_ ?_ _ _) | (with_reducible refine Below.setCell ?_ ?_ _) | (with_reducible refine Below.trans ?_ (Below.mono (by assumption) ?_)))) <;> first | omega | (simp; done) | (simp; omega) | (simp [more_size]; done) | (simp [more_size]; omega)))).mono ?_
  rintro r w1 ⟨rfl | ⟨rfl, _, _⟩, hb⟩
  · have HB1 := Lib.hid (show Below w.heap.size w w1 by (repeat' (first | (with_reducible exact Below.refl _ _) | (with_reducible assumption) | (with_reducible refine Below.drew ?_) | (with_reducible refine Below.alloc ?_ ?_ _) | (with_reducible refine below_more ?_ ?_ _ _) | (with_reducible refine Below.setCell ?_ ?_ _) | (with_reducible refine Below.trans ?_ (Below.mono (by assumption) ?_)))) <;> first | omega | (simp; done) | (simp; omega) | (simp [more_size]; done) | (simp [more_size]; omega))
    clear hb
    go_wp2_with fail
    refine (wakes7 _).mono ?_
    rintro r w2 ⟨rfl, hb⟩
    go_wp2_with fail
    go_ret
    exact ⟨rfl, HB1.out.trans (hb.mono HB1.out.size)⟩
  have kD : w1.heap[w.heap.size]? = some (.cells #[.int .i64 c, .slice a n p, .bool false] 26) := block_keep' hb (by (repeat' (first | (with_reducible assumption) | (with_reducible refine hm_new ?_; (first | rfl | (simp; done) | (simp [more_size]; done) | (simp [more_size]; omega))) | (with_reducible refine block_alloc ?_) | (with_reducible refine hm_more ?_) | (with_reducible refine hm_drew ?_))))
  have HB1 := Lib.hid (show Below w.heap.size w w1 by (repeat' (first | (with_reducible exact Below.refl _ _) | (with_reducible assumption) | (with_reducible refine Below.drew ?_) | (with_reducible refine Below.alloc ?_ ?_ _) | (with_reducible refine below_more ?_ ?_ _ _) | (with_reducible refine Below.setCell ?_ ?_ _) | (with_reducible refine Below.trans ?_ (Below.mono (by assumption) ?_)))) <;> first | omega | (simp; done) | (simp; omega) | (simp [more_size]; done) | (simp [more_size]; omega))
  have cD := cell_block kD
  have oD := block_lt kD
  have HD := Lib.hid kD
  have hm' : ¬ (60 : Int) < (m : Int) := by omega
  clear hb kD
  go_wp2_with fail
  refine (may15_yes _ c a n p false _ (by (repeat' (first | (with_reducible assumption) | (with_reducible refine hm_new ?_; (first | rfl | (simp; done) | (simp [more_size]; done) | (simp [more_size]; omega))) | (with_reducible refine block_alloc ?_) | (with_reducible refine hm_more ?_) | (with_reducible refine hm_drew ?_)))) h1 h2 h3).mono ?_
  rintro r w2 ⟨rfl, hb⟩
  have kD : w2.heap[w.heap.size]? = some (.cells #[.int .i64 c, .slice a n p, .bool false] 26) := block_keep' hb (block_alloc HD.out)
  have HB2 := Lib.hid (show Below w.heap.size w w2 by have hb1 := HB1.out; have hz := hb1.size; (repeat' (first | (with_reducible exact Below.refl _ _) | (with_reducible assumption) | (with_reducible refine Below.drew ?_) | (with_reducible refine Below.alloc ?_ ?_ _) | (with_reducible refine below_more ?_ ?_ _ _) | (with_reducible refine Below.setCell ?_ ?_ _) | (with_reducible refine Below.trans ?_ (Below.mono (by assumption) ?_)))) <;> first | omega | (simp; done) | (simp; omega) | (simp [more_size]; done) | (simp [more_size]; omega))
  clear cD
  have cD := cell_block kD
  have oD2 := block_lt kD
  have HD2 := Lib.hid kD
  clear hb kD HB1 HD
  go_wp2_with fail
  refine (put9_ok c a au n p m pu l l2 _ h1 h2 h3 (HL.out.below HB2.out) (HU.out.below HB2.out) hroom).mono ?_
  rintro r w3 ⟨a5, p5, rfl, hr5, hb⟩
  have kD : w3.heap[w.heap.size]? = some (.cells #[.int .i64 c, .slice a n p, .bool false] 26) := block_keep' hb HD2.out
  have HB3 := Lib.hid (show Below w.heap.size w w3 by have hb1 := HB2.out; have hz := hb1.size; (repeat' (first | (with_reducible exact Below.refl _ _) | (with_reducible assumption) | (with_reducible refine Below.drew ?_) | (with_reducible refine Below.alloc ?_ ?_ _) | (with_reducible refine below_more ?_ ?_ _ _) | (with_reducible refine Below.setCell ?_ ?_ _) | (with_reducible refine Below.trans ?_ (Below.mono (by assumption) ?_)))) <;> first | omega | (simp; done) | (simp; omega) | (simp [more_size]; done) | (simp [more_size]; omega))
  clear cD
  have cD := cell_block kD
  have oD3 := block_lt kD
  have HD3 := Lib.hid kD
  have HR5 := Lib.hid hr5
  clear hb kD HB2 HD2 hr5
  go_wp2_with fail
  have k5 : ((w3.alloc (.cells #[.int .i64 c, .slice a5 (n + m) p5, .bool false] 26)).alloc (.cells #[.int .i64 c, .slice a n p, .bool false] 26)).heap[w3.heap.size]? = some (.cells #[.int .i64 c, .slice a5 (n + m) p5, .bool false] 26) := by (repeat' (first | (with_reducible assumption) | (with_reducible refine hm_new ?_; (first | rfl | (simp; done) | (simp [more_size]; done) | (simp [more_size]; omega))) | (with_reducible refine block_alloc ?_) | (with_reducible refine hm_more ?_) | (with_reducible refine hm_drew ?_)))
  have k7 : ((w3.alloc (.cells #[.int .i64 c, .slice a5 (n + m) p5, .bool false] 26)).alloc (.cells #[.int .i64 c, .slice a n p, .bool false] 26)).heap[w3.heap.size + 1]? = some (.cells #[.int .i64 c, .slice a n p, .bool false] 26) := by (repeat' (first | (with_reducible assumption) | (with_reducible refine hm_new ?_; (first | rfl | (simp; done) | (simp [more_size]; done) | (simp [more_size]; omega))) | (with_reducible refine block_alloc ?_) | (with_reducible refine hm_more ?_) | (with_reducible refine hm_drew ?_)))
  have kD : ((w3.alloc (.cells #[.int .i64 c, .slice a5 (n + m) p5, .bool false] 26)).alloc (.cells #[.int .i64 c, .slice a n p, .bool false] 26)).heap[w.heap.size]? = some (.cells #[.int .i64 c, .slice a n p, .bool false] 26) := block_alloc (block_alloc HD3.out)
  have hB4 : Below w.heap.size w ((w3.alloc (.cells #[.int .i64 c, .slice a5 (n + m) p5, .bool false] 26)).alloc (.cells #[.int .i64 c, .slice a n p, .bool false] 26)) := by
    have hb := HB3.out
    (repeat' (first | (with_reducible exact Below.refl _ _) | (with_reducible assumption) | (with_reducible refine Below.drew ?_) | (with_reducible refine Below.alloc ?_ ?_ _) | (with_reducible refine below_more ?_ ?_ _ _) | (with_reducible refine Below.setCell ?_ ?_ _) | (with_reducible refine Below.trans ?_ (Below.mono (by assumption) ?_)))) <;> first | omega | (simp; done) | (simp; omega) | (simp [more_size]; done) | (simp [more_size]; omega)
  have hr5 : RdT ((w3.alloc (.cells #[.int .i64 c, .slice a5 (n + m) p5, .bool false] 26)).alloc (.cells #[.int .i64 c, .slice a n p, .bool false] 26)) (.slice a5 (n + m) p5) (l ++ l2) := HR5.out.below (by (repeat' (first | (with_reducible exact Below.refl _ _) | (with_reducible assumption) | (with_reducible refine Below.drew ?_) | (with_reducible refine Below.alloc ?_ ?_ _) | (with_reducible refine below_more ?_ ?_ _ _) | (with_reducible refine Below.setCell ?_ ?_ _) | (with_reducible refine Below.trans ?_ (Below.mono (by assumption) ?_)))) <;> first | omega | (simp; done) | (simp; omega) | (simp [more_size]; done) | (simp [more_size]; omega))
  have hz3 : w.heap.size < w3.heap.size := oD3
  have hz3' : w.heap.size ≤ w3.heap.size := by omega
  clear cD
  generalize ((w3.alloc (.cells #[.int .i64 c, .slice a5 (n + m) p5, .bool false] 26)).alloc (.cells #[.int .i64 c, .slice a n p, .bool false] 26)) = w4 at *
  go_loopw [8, 9] (fun f i wr => ∃ (k : Nat) (a' : Option Addr) (p' : Nat), k ≤ m ∧ f = .int .i64 0 ∧ i = .int .i64 k ∧ RdA w wr (.slice a' (n + k) p') (l ++ l2.take k) ∧ wr.heap[w3.heap.size + 1]? = some (.cells #[.int .i64 c, .slice a' (n + k) p', .bool false] 26) ∧ wr.heap[w3.heap.size]? = some (.cells #[.int .i64 c, .slice a5 (n + m) p5, .bool false] 26) ∧ wr.heap[w.heap.size]? = some (.cells #[.int .i64 c, .slice a n p, .bool false] 26) ∧ RdT wr (.slice a5 (n + m) p5) (l ++ l2) ∧ Below w.heap.size w wr) (fun _ i _ => m - (intOf i).toNat)
  case atStart => exact ⟨0, a, p, Nat.zero_le _, rfl, rfl, .inl (by simpa using HL.out), k7, k5, kD, hr5, hB4⟩
  case round =>
    obtain ⟨k, a', p', hk, rfl, rfl, hr, k7, k5, kD, hr5, hbl⟩ := hrel
    have HR := Lib.hid hr
    have HR5 := Lib.hid hr5
    have H7 := Lib.hid k7
    have H5 := Lib.hid k5
    have HD := Lib.hid kD
    have HBL := Lib.hid hbl
    have o7 := block_lt k7
    have o5 := block_lt k5
    have oD := block_lt kD
    have c7 := cell_block k7
    have f7 := free_block k7
    have q7 : Old wr (w3.heap.size + 1) := o7
    have q5 : Old wr w3.heap.size := o5
    have qD : Old wr w.heap.size := oD
    have hzr : w.heap.size ≤ wr.heap.size := hbl.size
    clear hr hr5 k7 k5 kD hbl
    by_cases hlt : k < m
    · have hi : (k : Int) < (m : Int) := by omega
      have hi0 : (0 : Int) ≤ (k : Int) := by omega
      obtain ⟨x, hx⟩ : ∃ x, l2[k]? = some x := ⟨_, List.getElem?_eq_getElem (by have := HM.out; omega)⟩
      have HX := Lib.hid hx
      obtain ⟨b, off, rfl, hb0, c0, c1, c2, c3, c4, c5⟩ := (HU.out.below HBL.out).at hx
      clear hx
      have hk64 : ((n + k : Nat) : Int) ≤ c := by omega
      have hk1 : ((1 : Nat) : Int) ≤ c - ((n + k : Nat) : Int) := by omega
      go_upto_region 8 with fail
      go_region_law (first
        | (go_simp; go_at_call 9; refine (put9_ok c a' (some ⟨_, 0, none⟩) (n + k) p' 1 1 (l ++ l2.take k) [x] _ h1 h2 hk64 (RdL.below (HR.out.rd HBL.out) (by (repeat' (first | (with_reducible exact Below.refl _ _) | (with_reducible assumption) | (with_reducible refine Below.drew ?_) | (with_reducible refine Below.alloc ?_ ?_ _) | (with_reducible refine below_more ?_ ?_ _ _) | (with_reducible refine Below.setCell ?_ ?_ _) | (with_reducible refine Below.trans ?_ (Below.mono (by assumption) ?_)))) <;> first | omega | (simp; done) | (simp; omega) | (simp [more_size]; done) | (simp [more_size]; omega))) (rdL_blk x (by (repeat' (first | (with_reducible assumption) | (with_reducible refine hm_new ?_; (first | rfl | (simp; done) | (simp [more_size]; done) | (simp [more_size]; omega))) | (with_reducible refine block_alloc ?_) | (with_reducible refine hm_more ?_) | (with_reducible refine hm_drew ?_))))) hk1).mono ?_; rintro e w' ⟨a3, p3, rfl, hr, hb⟩; have hB' : Below wr.heap.size wr w' := (by (repeat' (first | (with_reducible exact Below.refl _ _) | (with_reducible assumption) | (with_reducible refine Below.drew ?_) | (with_reducible refine Below.alloc ?_ ?_ _) | (with_reducible refine below_more ?_ ?_ _ _) | (with_reducible refine Below.setCell ?_ ?_ _) | (with_reducible refine Below.trans ?_ (Below.mono (by assumption) ?_)))) <;> first | omega | (simp; done) | (simp; omega) | (simp [more_size]; done) | (simp [more_size]; omega)); have hz' := hB'.size; have hce := fun (b o : Nat) h => Below.cell (p := ⟨b, o, none⟩) hb h; have hfe := fun (b o : Nat) h => Below.frozen (p := ⟨b, o, none⟩) hb h))
      all_goals
        clear hce hfe hb c7 f7 c0 c1 c2 c3 c4 c5
        have k7 := block_keep' hB' H7.out
        have K7 := Lib.hid (st3 k7 (.int .i64 c) (.slice a3 (n + k + 1) p3) (.bool false))
        have K5 := Lib.hid (ot3 (b := w3.heap.size + 1) (block_keep' hB' H5.out) (by omega) (.int .i64 c) (.slice a3 (n + k + 1) p3) (.bool false))
        have KD := Lib.hid (ot3 (b := w3.heap.size + 1) (block_keep' hB' HD.out) (by omega) (.int .i64 c) (.slice a3 (n + k + 1) p3) (.bool false))
        have KR := Lib.hid (hr.set3 k7 (by decide) (.int .i64 c) (.slice a3 (n + k + 1) p3) (.bool false))
        have KR5 := Lib.hid ((HR5.out.below hB').set3 k7 (by decide) (.int .i64 c) (.slice a3 (n + k + 1) p3) (.bool false))
        have KB := Lib.hid ((((HBL.out.trans (hB'.mono hzr)).setCell (by exact (by omega : w.heap.size ≤ w3.heap.size + 1)) (.int .i64 c) (p := ⟨w3.heap.size + 1, 0, none⟩)).setCell (by exact (by omega : w.heap.size ≤ w3.heap.size + 1)) (.slice a3 (n + k + 1) p3) (p := ⟨w3.heap.size + 1, 1, none⟩)).setCell (by exact (by omega : w.heap.size ≤ w3.heap.size + 1)) (.bool false) (p := ⟨w3.heap.size + 1, 2, none⟩))
        clear k7 hr
        go_wp2
        go_roundw
        case rel => exact ⟨k + 1, a3, p3, by omega, rfl, by go_num, .inr (by rw [take_one HX.out, ← List.append_assoc]; exact KR.out), K7.out, K5.out, KD.out, KR5.out, KB.out⟩
        case measure => simp [intOf]; omega
    · have hi : ¬ (k : Int) < (m : Int) := by omega
      obtain rfl : k = m := by omega
      have hm0 : ((k : Int) == 0) = false := by simp; omega
      have ht : l2.take k = l2 := List.take_of_length_le (by have := HM.out; omega)
      have HR7 : Hid (RdL wr (.slice a' (n + k) p') (l ++ l2)) := by rw [← ht]; exact HR.out.rd HBL.out
      clear ht
      obtain ⟨R, hR⟩ : ∃ R : Int, R = c - n := ⟨_, rfl⟩
      have hR0 : 0 ≤ R := by omega
      have hR1 : R ≤ 64 := by omega
      obtain ⟨R2, hR2⟩ : ∃ R2 : Int, R2 = R - k := ⟨_, rfl⟩
      have e1 : IntKind.i64.wrap (R - (k : Int)) = R2 := by rw [hR2]; exact IntWalk.i64_in _ (by omega)
      have HRa : Hid (c - (n : Int) = R) := Lib.hid hR.symm
      have HRb : Hid (c - ((n + k : Nat) : Int) = R2) := Lib.hid (by subst hR; omega)
      have n0 : (n : Int) ≤ c := h3
      have n1 : ((n + k : Nat) : Int) ≤ c := by omega
      have nk : n + k ≤ 1000 := by omega
      clear hR hR2 hroom hR0 hR1 hi
      have c5 := cell_block H5.out
      have cD := cell_block HD.out
      go_wp2_with fail
      go_region_held3 (fun w' => (∀ b o, b < (wr).heap.size → w'.cell? ⟨b, o, none⟩ = (wr).cell? ⟨b, o, none⟩) ∧ Below ((wr).heap.size) wr w') ((with_reducible first | assumption | exact cls_start | exact cls_startN _ | exact cls_startN' _ | exact cls_step (by assumption) (by assumption) | exact cls_alloc (by assumption) | exact cls_drew (by assumption))) (first
        | (go_at_call 16; refine (same16 c false a5 a' (n + k) p5 p' (l ++ l2) _ nk (RdL.below HR5.out.rd (by (repeat' (first | (with_reducible exact Below.refl _ _) | (with_reducible assumption) | (with_reducible refine Below.drew ?_) | (with_reducible refine Below.alloc ?_ ?_ _) | (with_reducible refine below_more ?_ ?_ _ _) | (with_reducible refine Below.setCell ?_ ?_ _) | (with_reducible refine Below.trans ?_ (Below.mono (by assumption) ?_)))) <;> first | omega | (simp; done) | (simp; omega) | (simp [more_size]; done) | (simp [more_size]; omega))) (HR7.out.below (by (repeat' (first | (with_reducible exact Below.refl _ _) | (with_reducible assumption) | (with_reducible refine Below.drew ?_) | (with_reducible refine Below.alloc ?_ ?_ _) | (with_reducible refine below_more ?_ ?_ _ _) | (with_reducible refine Below.setCell ?_ ?_ _) | (with_reducible refine Below.trans ?_ (Below.mono (by assumption) ?_)))) <;> first | omega | (simp; done) | (simp; omega) | (simp [more_size]; done) | (simp [more_size]; omega)))).mono ?_; rintro e w' ⟨rfl, hb⟩)
        | (go_at_call 7; refine (wakes7 _).mono ?_; rintro e w' ⟨rfl, hb⟩)
        | (go_at_call 17; (with_reducible refine (room17_is c a5 (n + k) p5 R2 _ n1 h2 HRb.out).mono ?_); rintro e w' ⟨rfl, hb⟩)
        | (go_at_call 17; (with_reducible refine (room17_is c a n p R _ n0 h2 HRa.out).mono ?_); rintro e w' ⟨rfl, hb⟩))
      all_goals
        go_wp2
        go_ret
        exact ⟨rfl, cls_fin HBL.out hzr (by assumption)⟩
end Go.Proofs.Ytkffmjcipnlbhaa
