
/- Walks of the seat of chapter 05: DuctMany, a duct that takes no letters. -/
import Derived.Test.YtkffmjcipnlbhaaD11
namespace Go.Proofs.Ytkffmjcipnlbhaa
open Go.RowKit
attribute [local go_sem ↓] Go.wp_at_zero Go.wp_at_succ
attribute [local go_sem] more_size cell_more_old frozen_more_old setCell_more_old more_drew drew_more old_alloc old_more old_drew old_setCell cell_alloc_old frozen_alloc_old setCell_alloc_old

set_option maxRecDepth 100000 in
set_option maxHeartbeats 4000000 in
theorem many4_shut0 (c : Int) (a au : Option Addr) (n p pu : Nat) (l : List Lt) (w : World) (h1 : 0 ≤ c) (h2 : c ≤ 64) (h3 : (n : Int) ≤ c) (hl : RdL w (.slice a n p) l) (hu : RdL w (.slice au 0 pu) [])  :
    Calls Try.prog 4 #[.agg #[.int .i64 c, .slice a n p, .bool true], .slice au 0 pu] w fun r w' => r = .returned (.bool true) ∧ Below w.heap.size w w' := by
  have HL := Lib.hid hl
  have HU := Lib.hid hu
  have HN := Lib.hid hl.len
  have HM := Lib.hid hu.len
  clear hl hu
  go_enter Try.func4, Try.ntmps4
  go_wp2_with fail
  refine (great14 c a au n p 0 pu true l [] _ (HL.out.below (by (repeat' (first | (with_reducible exact Below.refl _ _) | (with_reducible assumption) | (with_reducible refine Below.drew ?_) | (with_reducible refine Below.alloc ?_ ?_ _) | (with_reducible refine below_more ?_ ?_ _ _) | (with_reducible refine Below.setCell ?_ ?_ _) | (with_reducible refine Below.trans ?_ (Below.mono (by assumption) ?_)))) <;> first | omega | (simp; done) | (simp; omega) | (simp [more_size]; done) | (simp [more_size]; omega))) (HU.out.below (by (repeat' (first | (with_reducible exact Below.refl _ _) | (with_reducible assumption) | (with_reducible refine Below.drew ?_) | (with_reducible refine Below.alloc ?_ ?_ _) | (with_reducible refine below_more ?_ ?_ _ _) | (with_reducible refine Below.setCell ?_ ?_ _) | (with_reducible refine Below.trans ?_ (Below.mono (by assumption) ?_)))) <;> first | omega | (simp; done) | (simp; omega) | (simp [more_size]; done) | (simp [more_size]; omega)))).mono ?_
  rintro r w1 ⟨rfl | ⟨rfl, _, _⟩, hb⟩
  · have HB1 := Lib.hid (show Below w.heap.size w w1 by (repeat' (first | (with_reducible exact Below.refl _ _) | (with_reducible assumption) | (with_reducible refine Below.drew ?_) | (with_reducible refine Below.alloc ?_ ?_ _) | (with_reducible refine below_more ?_ ?_ _ _) | (with_reducible refine Below.setCell ?_ ?_ _) | (with_reducible refine Below.trans ?_ (Below.mono (by assumption) ?_)))) <;> first | omega | (simp; done) | (simp; omega) | (simp [more_size]; done) | (simp [more_size]; omega))
    clear hb
    go_wp2_with fail
    refine (wakes7 _).mono ?_
    rintro r w2 ⟨rfl, hb⟩
    go_wp2_with fail
    go_ret
    exact ⟨rfl, HB1.out.trans (hb.mono HB1.out.size)⟩
  have kD : w1.heap[w.heap.size]? = some (.cells #[.int .i64 c, .slice a n p, .bool true] 26) := block_keep' hb (by (repeat' (first | (with_reducible assumption) | (with_reducible refine hm_new ?_; (first | rfl | (simp; done) | (simp [more_size]; done) | (simp [more_size]; omega))) | (with_reducible refine block_alloc ?_) | (with_reducible refine hm_more ?_) | (with_reducible refine hm_drew ?_))))
  have HB1 := Lib.hid (show Below w.heap.size w w1 by (repeat' (first | (with_reducible exact Below.refl _ _) | (with_reducible assumption) | (with_reducible refine Below.drew ?_) | (with_reducible refine Below.alloc ?_ ?_ _) | (with_reducible refine below_more ?_ ?_ _ _) | (with_reducible refine Below.setCell ?_ ?_ _) | (with_reducible refine Below.trans ?_ (Below.mono (by assumption) ?_)))) <;> first | omega | (simp; done) | (simp; omega) | (simp [more_size]; done) | (simp [more_size]; omega))
  have cD := cell_block kD
  have oD := block_lt kD
  have HD := Lib.hid kD
  have hm' : ¬ (60 : Int) < ((0 : Nat) : Int) := by omega
  clear hb kD
  go_wp2_with fail
  refine (may15_yes _ c a n p true _ (by (repeat' (first | (with_reducible assumption) | (with_reducible refine hm_new ?_; (first | rfl | (simp; done) | (simp [more_size]; done) | (simp [more_size]; omega))) | (with_reducible refine block_alloc ?_) | (with_reducible refine hm_more ?_) | (with_reducible refine hm_drew ?_)))) h1 h2 h3).mono ?_
  rintro r w2 ⟨rfl, hb⟩
  have kD : w2.heap[w.heap.size]? = some (.cells #[.int .i64 c, .slice a n p, .bool true] 26) := block_keep' hb (block_alloc HD.out)
  have HB2 := Lib.hid (show Below w.heap.size w w2 by have hb1 := HB1.out; have hz := hb1.size; (repeat' (first | (with_reducible exact Below.refl _ _) | (with_reducible assumption) | (with_reducible refine Below.drew ?_) | (with_reducible refine Below.alloc ?_ ?_ _) | (with_reducible refine below_more ?_ ?_ _ _) | (with_reducible refine Below.setCell ?_ ?_ _) | (with_reducible refine Below.trans ?_ (Below.mono (by assumption) ?_)))) <;> first | omega | (simp; done) | (simp; omega) | (simp [more_size]; done) | (simp [more_size]; omega))
  clear cD
  have cD := cell_block kD
  have oD2 := block_lt kD
  have HD2 := Lib.hid kD
  clear hb kD HB1 HD
  go_wp2_with fail
  refine (put9_shut c a au n p 0 pu l [] _ h1 h2 h3 (HL.out.below HB2.out) (HU.out.below HB2.out)).mono ?_
  rintro r w3 ⟨rfl, hb⟩
  have kD : w3.heap[w.heap.size]? = some (.cells #[.int .i64 c, .slice a n p, .bool true] 26) := block_keep' hb HD2.out
  have HB3 := Lib.hid (show Below w.heap.size w w3 by have hb1 := HB2.out; have hz := hb1.size; (repeat' (first | (with_reducible exact Below.refl _ _) | (with_reducible assumption) | (with_reducible refine Below.drew ?_) | (with_reducible refine Below.alloc ?_ ?_ _) | (with_reducible refine below_more ?_ ?_ _ _) | (with_reducible refine Below.setCell ?_ ?_ _) | (with_reducible refine Below.trans ?_ (Below.mono (by assumption) ?_)))) <;> first | omega | (simp; done) | (simp; omega) | (simp [more_size]; done) | (simp [more_size]; omega))
  clear cD
  have cD := cell_block kD
  have oD3 := block_lt kD
  have HD3 := Lib.hid kD
  clear hb kD HB2 HD2
  go_wp2_with fail
  have k5 : ((w3.alloc (.cells #[.int .i64 c, .slice a n p, .bool true] 26)).alloc (.cells #[.int .i64 c, .slice a n p, .bool true] 26)).heap[w3.heap.size]? = some (.cells #[.int .i64 c, .slice a n p, .bool true] 26) := by (repeat' (first | (with_reducible assumption) | (with_reducible refine hm_new ?_; (first | rfl | (simp; done) | (simp [more_size]; done) | (simp [more_size]; omega))) | (with_reducible refine block_alloc ?_) | (with_reducible refine hm_more ?_) | (with_reducible refine hm_drew ?_)))
  have k7 : ((w3.alloc (.cells #[.int .i64 c, .slice a n p, .bool true] 26)).alloc (.cells #[.int .i64 c, .slice a n p, .bool true] 26)).heap[w3.heap.size + 1]? = some (.cells #[.int .i64 c, .slice a n p, .bool true] 26) := by (repeat' (first | (with_reducible assumption) | (with_reducible refine hm_new ?_; (first | rfl | (simp; done) | (simp [more_size]; done) | (simp [more_size]; omega))) | (with_reducible refine block_alloc ?_) | (with_reducible refine hm_more ?_) | (with_reducible refine hm_drew ?_)))
  have kD : ((w3.alloc (.cells #[.int .i64 c, .slice a n p, .bool true] 26)).alloc (.cells #[.int .i64 c, .slice a n p, .bool true] 26)).heap[w.heap.size]? = some (.cells #[.int .i64 c, .slice a n p, .bool true] 26) := block_alloc (block_alloc HD3.out)
  have hB4 : Below w.heap.size w ((w3.alloc (.cells #[.int .i64 c, .slice a n p, .bool true] 26)).alloc (.cells #[.int .i64 c, .slice a n p, .bool true] 26)) := by
    have hb := HB3.out
    (repeat' (first | (with_reducible exact Below.refl _ _) | (with_reducible assumption) | (with_reducible refine Below.drew ?_) | (with_reducible refine Below.alloc ?_ ?_ _) | (with_reducible refine below_more ?_ ?_ _ _) | (with_reducible refine Below.setCell ?_ ?_ _) | (with_reducible refine Below.trans ?_ (Below.mono (by assumption) ?_)))) <;> first | omega | (simp; done) | (simp; omega) | (simp [more_size]; done) | (simp [more_size]; omega)
  have hz3 : w.heap.size < w3.heap.size := oD3
  have hz3' : w.heap.size ≤ w3.heap.size := by omega
  clear cD
  generalize ((w3.alloc (.cells #[.int .i64 c, .slice a n p, .bool true] 26)).alloc (.cells #[.int .i64 c, .slice a n p, .bool true] 26)) = w4 at *
  have H5 := Lib.hid k5
  have HD := Lib.hid kD
  have HBL := Lib.hid hB4
  have c5 := cell_block k5
  have cD := cell_block kD
  have o5 := block_lt k5
  have oD4 := block_lt kD
  have hz4 : w.heap.size ≤ w4.heap.size := hB4.size
  have nk : n ≤ 1000 := by omega
  clear k5 k7 kD hB4
  refine wp_loop_rounds 1 ?_
  rw [rounds_succ]
  go_wp2_with fail
  refine (same16 c true a a n p p l _ nk (HL.out.below HBL.out) (HL.out.below HBL.out)).mono ?_
  rintro r w5 ⟨rfl, hb⟩
  have HB5 := Lib.hid (HBL.out.trans (hb.mono hz4))
  clear hb c5 cD
  go_wp2_with fail
  refine (wakes7 _).mono ?_
  rintro r w6 ⟨rfl, hb⟩
  go_wp2_with fail
  go_ret
  exact ⟨rfl, HB5.out.trans (hb.mono HB5.out.size)⟩

set_option maxRecDepth 100000 in
set_option maxHeartbeats 4000000 in
theorem many4_open0 (c : Int) (a au : Option Addr) (n p pu : Nat) (l : List Lt) (w : World) (h1 : 0 ≤ c) (h2 : c ≤ 64) (h3 : (n : Int) ≤ c) (hl : RdL w (.slice a n p) l) (hu : RdL w (.slice au 0 pu) [])  :
    Calls Try.prog 4 #[.agg #[.int .i64 c, .slice a n p, .bool false], .slice au 0 pu] w fun r w' => r = .returned (.bool true) ∧ Below w.heap.size w w' := by
  have HL := Lib.hid hl
  have HU := Lib.hid hu
  have HN := Lib.hid hl.len
  have HM := Lib.hid hu.len
  clear hl hu
  go_enter Try.func4, Try.ntmps4
  go_wp2_with fail
  refine (great14 c a au n p 0 pu false l [] _ (HL.out.below (by (repeat' (first | (with_reducible exact Below.refl _ _) | (with_reducible assumption) | (with_reducible refine Below.drew ?_) | (with_reducible refine Below.alloc ?_ ?_ _) | (with_reducible refine below_more ?_ ?_ _ _) | (with_reducible refine Below.setCell ?_ ?_ _) | (with_reducible refine Below.trans ?_ (Below.mono (by assumption) ?_)))) <;> first | omega | (simp; done) | (simp; omega) | (simp [more_size]; done) | (simp [more_size]; omega))) (HU.out.below (by (repeat' (first | (with_reducible exact Below.refl _ _) | (with_reducible assumption) | (with_reducible refine Below.drew ?_) | (with_reducible refine Below.alloc ?_ ?_ _) | (with_reducible refine below_more ?_ ?_ _ _) | (with_reducible refine Below.setCell ?_ ?_ _) | (with_reducible refine Below.trans ?_ (Below.mono (by assumption) ?_)))) <;> first | omega | (simp; done) | (simp; omega) | (simp [more_size]; done) | (simp [more_size]; omega)))).mono ?_
  rintro r w1 ⟨rfl | ⟨rfl, _, _⟩, hb⟩
  · have HB1 := Lib.hid (show Below w.heap.size w w1 by (repeat' (first | (with_reducible exact Below.refl _ _) | (with_reducible assumption) | (with_reducible refine Below.drew ?_) | (with_reducible refine Below.alloc ?_ ?_ _) | (with_reducible refine below_more ?_ ?_ _ _) | (with_reducible refine Below.setCell ?_ ?_ _) | (with_reducible refine Below.trans ?_ (Below.mono (by assumption) ?_)))) <;> first | omega | (simp; done) | (simp; omega) | (simp [more_size]; done) | (simp [more_size]; omega))
    clear hb
    go_wp2_with fail
    refine (wakes7 _).mono ?_
    rintro r w2 ⟨rfl, hb⟩
    go_wp2_with fail
    go_ret
    exact ⟨rfl, HB1.out.trans (hb.mono HB1.out.size)⟩
  have kD : w1.heap[w.heap.size]? = some (.cells #[.int .i64 c, .slice a n p, .bool false] 26) := block_keep' hb (by (repeat' (first | (with_reducible assumption) | (with_reducible refine hm_new ?_; (first | rfl | (simp; done) | (simp [more_size]; done) | (simp [more_size]; omega))) | (with_reducible refine block_alloc ?_) | (with_reducible refine hm_more ?_) | (with_reducible refine hm_drew ?_))))
  have HB1 := Lib.hid (show Below w.heap.size w w1 by (repeat' (first | (with_reducible exact Below.refl _ _) | (with_reducible assumption) | (with_reducible refine Below.drew ?_) | (with_reducible refine Below.alloc ?_ ?_ _) | (with_reducible refine below_more ?_ ?_ _ _) | (with_reducible refine Below.setCell ?_ ?_ _) | (with_reducible refine Below.trans ?_ (Below.mono (by assumption) ?_)))) <;> first | omega | (simp; done) | (simp; omega) | (simp [more_size]; done) | (simp [more_size]; omega))
  have cD := cell_block kD
  have oD := block_lt kD
  have HD := Lib.hid kD
  have hm' : ¬ (60 : Int) < ((0 : Nat) : Int) := by omega
  clear hb kD
  go_wp2_with fail
  refine (may15_yes _ c a n p false _ (by (repeat' (first | (with_reducible assumption) | (with_reducible refine hm_new ?_; (first | rfl | (simp; done) | (simp [more_size]; done) | (simp [more_size]; omega))) | (with_reducible refine block_alloc ?_) | (with_reducible refine hm_more ?_) | (with_reducible refine hm_drew ?_)))) h1 h2 h3).mono ?_
  rintro r w2 ⟨rfl, hb⟩
  have kD : w2.heap[w.heap.size]? = some (.cells #[.int .i64 c, .slice a n p, .bool false] 26) := block_keep' hb (block_alloc HD.out)
  have HB2 := Lib.hid (show Below w.heap.size w w2 by have hb1 := HB1.out; have hz := hb1.size; (repeat' (first | (with_reducible exact Below.refl _ _) | (with_reducible assumption) | (with_reducible refine Below.drew ?_) | (with_reducible refine Below.alloc ?_ ?_ _) | (with_reducible refine below_more ?_ ?_ _ _) | (with_reducible refine Below.setCell ?_ ?_ _) | (with_reducible refine Below.trans ?_ (Below.mono (by assumption) ?_)))) <;> first | omega | (simp; done) | (simp; omega) | (simp [more_size]; done) | (simp [more_size]; omega))
  clear cD
  have cD := cell_block kD
  have oD2 := block_lt kD
  have HD2 := Lib.hid kD
  clear hb kD HB1 HD
  go_wp2_with fail
  refine (put9_ok c a au n p 0 pu l [] _ h1 h2 h3 (HL.out.below HB2.out) (HU.out.below HB2.out) (by omega)).mono ?_
  rintro r w3 ⟨a5, p5, rfl, hr5, hb⟩
  rw [Nat.add_zero] at hr5 ⊢
  rw [List.append_nil] at hr5
  have kD : w3.heap[w.heap.size]? = some (.cells #[.int .i64 c, .slice a n p, .bool false] 26) := block_keep' hb HD2.out
  have HB3 := Lib.hid (show Below w.heap.size w w3 by have hb1 := HB2.out; have hz := hb1.size; (repeat' (first | (with_reducible exact Below.refl _ _) | (with_reducible assumption) | (with_reducible refine Below.drew ?_) | (with_reducible refine Below.alloc ?_ ?_ _) | (with_reducible refine below_more ?_ ?_ _ _) | (with_reducible refine Below.setCell ?_ ?_ _) | (with_reducible refine Below.trans ?_ (Below.mono (by assumption) ?_)))) <;> first | omega | (simp; done) | (simp; omega) | (simp [more_size]; done) | (simp [more_size]; omega))
  clear cD
  have cD := cell_block kD
  have oD3 := block_lt kD
  have HD3 := Lib.hid kD
  have HR5 := Lib.hid hr5
  clear hr5
  clear hb kD HB2 HD2
  go_wp2_with fail
  have k5 : ((w3.alloc (.cells #[.int .i64 c, .slice a5 n p5, .bool false] 26)).alloc (.cells #[.int .i64 c, .slice a n p, .bool false] 26)).heap[w3.heap.size]? = some (.cells #[.int .i64 c, .slice a5 n p5, .bool false] 26) := by (repeat' (first | (with_reducible assumption) | (with_reducible refine hm_new ?_; (first | rfl | (simp; done) | (simp [more_size]; done) | (simp [more_size]; omega))) | (with_reducible refine block_alloc ?_) | (with_reducible refine hm_more ?_) | (with_reducible refine hm_drew ?_)))
  have k7 : ((w3.alloc (.cells #[.int .i64 c, .slice a5 n p5, .bool false] 26)).alloc (.cells #[.int .i64 c, .slice a n p, .bool false] 26)).heap[w3.heap.size + 1]? = some (.cells #[.int .i64 c, .slice a n p, .bool false] 26) := by (repeat' (first | (with_reducible assumption) | (with_reducible refine hm_new ?_; (first | rfl | (simp; done) | (simp [more_size]; done) | (simp [more_size]; omega))) | (with_reducible refine block_alloc ?_) | (with_reducible refine hm_more ?_) | (with_reducible refine hm_drew ?_)))
  have kD : ((w3.alloc (.cells #[.int .i64 c, .slice a5 n p5, .bool false] 26)).alloc (.cells #[.int .i64 c, .slice a n p, .bool false] 26)).heap[w.heap.size]? = some (.cells #[.int .i64 c, .slice a n p, .bool false] 26) := block_alloc (block_alloc HD3.out)
  have hB4 : Below w.heap.size w ((w3.alloc (.cells #[.int .i64 c, .slice a5 n p5, .bool false] 26)).alloc (.cells #[.int .i64 c, .slice a n p, .bool false] 26)) := by
    have hb := HB3.out
    (repeat' (first | (with_reducible exact Below.refl _ _) | (with_reducible assumption) | (with_reducible refine Below.drew ?_) | (with_reducible refine Below.alloc ?_ ?_ _) | (with_reducible refine below_more ?_ ?_ _ _) | (with_reducible refine Below.setCell ?_ ?_ _) | (with_reducible refine Below.trans ?_ (Below.mono (by assumption) ?_)))) <;> first | omega | (simp; done) | (simp; omega) | (simp [more_size]; done) | (simp [more_size]; omega)
  have hz3 : w.heap.size < w3.heap.size := oD3
  have hz3' : w.heap.size ≤ w3.heap.size := by omega
  have hr5 : RdT ((w3.alloc (.cells #[.int .i64 c, .slice a5 n p5, .bool false] 26)).alloc (.cells #[.int .i64 c, .slice a n p, .bool false] 26)) (.slice a5 n p5) l := HR5.out.below (by (repeat' (first | (with_reducible exact Below.refl _ _) | (with_reducible assumption) | (with_reducible refine Below.drew ?_) | (with_reducible refine Below.alloc ?_ ?_ _) | (with_reducible refine below_more ?_ ?_ _ _) | (with_reducible refine Below.setCell ?_ ?_ _) | (with_reducible refine Below.trans ?_ (Below.mono (by assumption) ?_)))) <;> first | omega | (simp; done) | (simp; omega) | (simp [more_size]; done) | (simp [more_size]; omega))
  clear cD
  generalize ((w3.alloc (.cells #[.int .i64 c, .slice a5 n p5, .bool false] 26)).alloc (.cells #[.int .i64 c, .slice a n p, .bool false] 26)) = w4 at *
  have H5 := Lib.hid k5
  have HR6 := Lib.hid hr5
  clear hr5
  have HD := Lib.hid kD
  have HBL := Lib.hid hB4
  have c5 := cell_block k5
  have cD := cell_block kD
  have o5 := block_lt k5
  have oD4 := block_lt kD
  have hz4 : w.heap.size ≤ w4.heap.size := hB4.size
  have nk : n ≤ 1000 := by omega
  clear k5 k7 kD hB4
  refine wp_loop_rounds 1 ?_
  rw [rounds_succ]
  go_wp2_with fail
  refine (same16 c false a5 a n p5 p l _ nk HR6.out.rd (HL.out.below HBL.out)).mono ?_
  rintro r w5 ⟨rfl, hb⟩
  have HB5 := Lib.hid (HBL.out.trans (hb.mono hz4))
  clear hb c5 cD
  go_wp2_with fail
  refine (wakes7 _).mono ?_
  rintro r w6 ⟨rfl, hb⟩
  go_wp2_with fail
  go_ret
  exact ⟨rfl, HB5.out.trans (hb.mono HB5.out.size)⟩

set_option maxRecDepth 100000 in
set_option maxHeartbeats 4000000 in
theorem many4_shut (c : Int) (a au : Option Addr) (n p m pu : Nat) (l l2 : List Lt) (w : World) (h1 : 0 ≤ c) (h2 : c ≤ 64) (h3 : (n : Int) ≤ c) (hl : RdL w (.slice a n p) l) (hu : RdL w (.slice au m pu) l2) (hm : m ≤ 60) (hm1 : 1 ≤ m)  :
    Calls Try.prog 4 #[.agg #[.int .i64 c, .slice a n p, .bool true], .slice au m pu] w fun r w' => r = .returned (.bool true) ∧ Below w.heap.size w w' := by
  have HL := Lib.hid hl
  have HU := Lib.hid hu
  have HN := Lib.hid hl.len
  have HM := Lib.hid hu.len
  clear hl hu
  go_enter Try.func4, Try.ntmps4
  go_wp2_with fail
  refine (great14 c a au n p m pu true l l2 _ (HL.out.below (by (repeat' (first | (with_reducible exact Below.refl _ _) | (with_reducible assumption) | (with_reducible refine Below.drew ?_) | (with_reducible refine Below.alloc ?_ ?_ _) | (with_reducible refine below_more ?_ ?_ _ _) | (with_reducible refine Below.setCell ?_ ?_ _) | (with_reducible refine Below.trans ?_ (Below.mono (by assumption) ?_)))) <;> first | omega | (simp; done) | (simp; omega) | (simp [more_size]; done) | (simp [more_size]; omega))) (HU.out.below (by (repeat' (first | (with_reducible exact Below.refl _ _) | (with_reducible assumption) | (with_reducible refine Below.drew ?_) | (with_reducible refine Below.alloc ?_ ?_ _) | (with_reducible refine below_more ?_ ?_ _ _) | (with_reducible refine Below.setCell ?_ ?_ _) | (with_reducible refine Below.trans ?_ (Below.mono (by assumption) ?_)))) <;> first | omega | (simp; done) | (simp; omega) | (simp [more_size]; done) | (simp [more_size]; omega)))).mono ?_
  rintro r w1 ⟨rfl | ⟨rfl, _, _⟩, hb⟩
  · have HB1 := Lib.hid (show Below w.heap.size w w1 by (repeat' (first | (with_reducible exact Below.refl _ _) | (with_reducible assumption) | (with_reducible refine Below.drew ?_) | (with_reducible refine Below.alloc ?_ ?_ _) | (with_reducible refine below_more ?_ ?_ _ _) | (with_reducible refine Below.setCell ?_ ?_ _) | (with_reducible refine Below.trans ?_ (Below.mono (by assumption) ?_)))) <;> first | omega | (simp; done) | (simp; omega) | (simp [more_size]; done) | (simp [more_size]; omega))
    clear hb
    go_wp2_with fail
    refine (wakes7 _).mono ?_
    rintro r w2 ⟨rfl, hb⟩
    go_wp2_with fail
    go_ret
    exact ⟨rfl, HB1.out.trans (hb.mono HB1.out.size)⟩
  have kD : w1.heap[w.heap.size]? = some (.cells #[.int .i64 c, .slice a n p, .bool true] 26) := block_keep' hb (by (repeat' (first | (with_reducible assumption) | (with_reducible refine hm_new ?_; (first | rfl | (simp; done) | (simp [more_size]; done) | (simp [more_size]; omega))) | (with_reducible refine block_alloc ?_) | (with_reducible refine hm_more ?_) | (with_reducible refine hm_drew ?_))))
  have HB1 := Lib.hid (show Below w.heap.size w w1 by (repeat' (first | (with_reducible exact Below.refl _ _) | (with_reducible assumption) | (with_reducible refine Below.drew ?_) | (with_reducible refine Below.alloc ?_ ?_ _) | (with_reducible refine below_more ?_ ?_ _ _) | (with_reducible refine Below.setCell ?_ ?_ _) | (with_reducible refine Below.trans ?_ (Below.mono (by assumption) ?_)))) <;> first | omega | (simp; done) | (simp; omega) | (simp [more_size]; done) | (simp [more_size]; omega))
  have cD := cell_block kD
  have oD := block_lt kD
  have HD := Lib.hid kD
  have hm' : ¬ (60 : Int) < (m : Int) := by omega
  clear hb kD
  go_wp2_with fail
  refine (may15_yes _ c a n p true _ (by (repeat' (first | (with_reducible assumption) | (with_reducible refine hm_new ?_; (first | rfl | (simp; done) | (simp [more_size]; done) | (simp [more_size]; omega))) | (with_reducible refine block_alloc ?_) | (with_reducible refine hm_more ?_) | (with_reducible refine hm_drew ?_)))) h1 h2 h3).mono ?_
  rintro r w2 ⟨rfl, hb⟩
  have kD : w2.heap[w.heap.size]? = some (.cells #[.int .i64 c, .slice a n p, .bool true] 26) := block_keep' hb (block_alloc HD.out)
  have HB2 := Lib.hid (show Below w.heap.size w w2 by have hb1 := HB1.out; have hz := hb1.size; (repeat' (first | (with_reducible exact Below.refl _ _) | (with_reducible assumption) | (with_reducible refine Below.drew ?_) | (with_reducible refine Below.alloc ?_ ?_ _) | (with_reducible refine below_more ?_ ?_ _ _) | (with_reducible refine Below.setCell ?_ ?_ _) | (with_reducible refine Below.trans ?_ (Below.mono (by assumption) ?_)))) <;> first | omega | (simp; done) | (simp; omega) | (simp [more_size]; done) | (simp [more_size]; omega))
  clear cD
  have cD := cell_block kD
  have oD2 := block_lt kD
  have HD2 := Lib.hid kD
  clear hb kD HB1 HD
  go_wp2_with fail
  refine (put9_shut c a au n p m pu l l2 _ h1 h2 h3 (HL.out.below HB2.out) (HU.out.below HB2.out)).mono ?_
  rintro r w3 ⟨rfl, hb⟩
  have kD : w3.heap[w.heap.size]? = some (.cells #[.int .i64 c, .slice a n p, .bool true] 26) := block_keep' hb HD2.out
  have HB3 := Lib.hid (show Below w.heap.size w w3 by have hb1 := HB2.out; have hz := hb1.size; (repeat' (first | (with_reducible exact Below.refl _ _) | (with_reducible assumption) | (with_reducible refine Below.drew ?_) | (with_reducible refine Below.alloc ?_ ?_ _) | (with_reducible refine below_more ?_ ?_ _ _) | (with_reducible refine Below.setCell ?_ ?_ _) | (with_reducible refine Below.trans ?_ (Below.mono (by assumption) ?_)))) <;> first | omega | (simp; done) | (simp; omega) | (simp [more_size]; done) | (simp [more_size]; omega))
  clear cD
  have cD := cell_block kD
  have oD3 := block_lt kD
  have HD3 := Lib.hid kD
  clear hb kD HB2 HD2
  go_wp2_with fail
  have k5 : ((w3.alloc (.cells #[.int .i64 c, .slice a n p, .bool true] 26)).alloc (.cells #[.int .i64 c, .slice a n p, .bool true] 26)).heap[w3.heap.size]? = some (.cells #[.int .i64 c, .slice a n p, .bool true] 26) := by (repeat' (first | (with_reducible assumption) | (with_reducible refine hm_new ?_; (first | rfl | (simp; done) | (simp [more_size]; done) | (simp [more_size]; omega))) | (with_reducible refine block_alloc ?_) | (with_reducible refine hm_more ?_) | (with_reducible refine hm_drew ?_)))
  have k7 : ((w3.alloc (.cells #[.int .i64 c, .slice a n p, .bool true] 26)).alloc (.cells #[.int .i64 c, .slice a n p, .bool true] 26)).heap[w3.heap.size + 1]? = some (.cells #[.int .i64 c, .slice a n p, .bool true] 26) := by (repeat' (first | (with_reducible assumption) | (with_reducible refine hm_new ?_; (first | rfl | (simp; done) | (simp [more_size]; done) | (simp [more_size]; omega))) | (with_reducible refine block_alloc ?_) | (with_reducible refine hm_more ?_) | (with_reducible refine hm_drew ?_)))
  have kD : ((w3.alloc (.cells #[.int .i64 c, .slice a n p, .bool true] 26)).alloc (.cells #[.int .i64 c, .slice a n p, .bool true] 26)).heap[w.heap.size]? = some (.cells #[.int .i64 c, .slice a n p, .bool true] 26) := block_alloc (block_alloc HD3.out)
  have hB4 : Below w.heap.size w ((w3.alloc (.cells #[.int .i64 c, .slice a n p, .bool true] 26)).alloc (.cells #[.int .i64 c, .slice a n p, .bool true] 26)) := by
    have hb := HB3.out
    (repeat' (first | (with_reducible exact Below.refl _ _) | (with_reducible assumption) | (with_reducible refine Below.drew ?_) | (with_reducible refine Below.alloc ?_ ?_ _) | (with_reducible refine below_more ?_ ?_ _ _) | (with_reducible refine Below.setCell ?_ ?_ _) | (with_reducible refine Below.trans ?_ (Below.mono (by assumption) ?_)))) <;> first | omega | (simp; done) | (simp; omega) | (simp [more_size]; done) | (simp [more_size]; omega)
  have hz3 : w.heap.size < w3.heap.size := oD3
  have hz3' : w.heap.size ≤ w3.heap.size := by omega
  clear cD
  generalize ((w3.alloc (.cells #[.int .i64 c, .slice a n p, .bool true] 26)).alloc (.cells #[.int .i64 c, .slice a n p, .bool true] 26)) = w4 at *
  have H5 := Lib.hid k5
  have HD := Lib.hid kD
  have HBL := Lib.hid hB4
  have c5 := cell_block k5
  have cD := cell_block kD
  have o5 := block_lt k5
  have oD4 := block_lt kD
  have hz4 : w.heap.size ≤ w4.heap.size := hB4.size
  have nk : n ≤ 1000 := by omega
  have k7x := k7
  clear k5 k7 kD hB4
  have H7 := Lib.hid k7x
  have c7 := cell_block k7x
  have f7 := free_block k7x
  have o7 := block_lt k7x
  have q7 : Old w4 (w3.heap.size + 1) := o7
  have q5 : Old w4 w3.heap.size := o5
  have qD : Old w4 w.heap.size := oD4
  clear k7x
  have hi : (0 : Int) < (m : Int) := by omega
  have hm0 : ((m : Int) == 0) = false := by simp; omega
  obtain ⟨x, hx⟩ : ∃ x, l2[0]? = some x := ⟨_, List.getElem?_eq_getElem (by have := HM.out; omega)⟩
  obtain ⟨b, off, rfl, hb0, c0, c1, c2, c3, c4, c5'⟩ := (HU.out.below HBL.out).at hx
  simp only [Nat.zero_mul, Nat.add_zero] at c0 c1 c2 c3 c4 c5'
  clear hx
  refine wp_loop_rounds 2 ?_
  rw [rounds_succ]
  go_upto_region 8 with fail
  go_region_law (first
    | (go_simp; go_at_call 9; refine (put9_shut c a (some ⟨_, 0, none⟩) n p 1 1 l [x] _ h1 h2 h3 (RdL.below (HL.out.below HBL.out) (by (repeat' (first | (with_reducible exact Below.refl _ _) | (with_reducible assumption) | (with_reducible refine Below.drew ?_) | (with_reducible refine Below.alloc ?_ ?_ _) | (with_reducible refine below_more ?_ ?_ _ _) | (with_reducible refine Below.setCell ?_ ?_ _) | (with_reducible refine Below.trans ?_ (Below.mono (by assumption) ?_)))) <;> first | omega | (simp; done) | (simp; omega) | (simp [more_size]; done) | (simp [more_size]; omega))) (rdL_blk x (by (repeat' (first | (with_reducible assumption) | (with_reducible refine hm_new ?_; (first | rfl | (simp; done) | (simp [more_size]; done) | (simp [more_size]; omega))) | (with_reducible refine block_alloc ?_) | (with_reducible refine hm_more ?_) | (with_reducible refine hm_drew ?_)))))).mono ?_; rintro e w' ⟨rfl, hb⟩; have hB' : Below w4.heap.size w4 w' := (by (repeat' (first | (with_reducible exact Below.refl _ _) | (with_reducible assumption) | (with_reducible refine Below.drew ?_) | (with_reducible refine Below.alloc ?_ ?_ _) | (with_reducible refine below_more ?_ ?_ _ _) | (with_reducible refine Below.setCell ?_ ?_ _) | (with_reducible refine Below.trans ?_ (Below.mono (by assumption) ?_)))) <;> first | omega | (simp; done) | (simp; omega) | (simp [more_size]; done) | (simp [more_size]; omega)); have hz' := hB'.size; have hce := fun (b o : Nat) h => Below.cell (p := ⟨b, o, none⟩) hb h; have hfe := fun (b o : Nat) h => Below.frozen (p := ⟨b, o, none⟩) hb h))
  all_goals
    clear hce hfe hb c7 f7 c0 c1 c2 c3 c4 c5' c5 cD
    have k7 := block_keep' hB' H7.out
    have K5 := ot3 (b := w3.heap.size + 1) (block_keep' hB' H5.out) (by omega) (.int .i64 c) (.slice a n p) (.bool true)
    have KD := ot3 (b := w3.heap.size + 1) (block_keep' hB' HD.out) (by omega) (.int .i64 c) (.slice a n p) (.bool true)
    have KB := (((HBL.out.trans (hB'.mono hz4)).setCell (by exact (by omega : w.heap.size ≤ w3.heap.size + 1)) (.int .i64 c) (p := ⟨w3.heap.size + 1, 0, none⟩)).setCell (by exact (by omega : w.heap.size ≤ w3.heap.size + 1)) (.slice a n p) (p := ⟨w3.heap.size + 1, 1, none⟩)).setCell (by exact (by omega : w.heap.size ≤ w3.heap.size + 1)) (.bool true) (p := ⟨w3.heap.size + 1, 2, none⟩)
    clear k7
    generalize (((w'.setCell ⟨w3.heap.size + 1, 0, none⟩ (.int .i64 c)).setCell ⟨w3.heap.size + 1, 1, none⟩ (.slice a n p)).setCell ⟨w3.heap.size + 1, 2, none⟩ (.bool true)) = wz at *
    have c5 := cell_block K5
    have cD := cell_block KD
    have oz5 := block_lt K5
    have ozD := block_lt KD
    have HBZ := Lib.hid KB
    have hzz : w.heap.size ≤ wz.heap.size := KB.size
    clear K5 KD KB hB'
    go_wp2_with fail
    rw [rounds_succ]
    go_wp2_with fail
    all_goals
      refine (same16 c true a a n p p l _ nk (HL.out.below HBZ.out) (HL.out.below HBZ.out)).mono ?_
      rintro r w5 ⟨rfl, hb⟩
      have HB5 := Lib.hid (HBZ.out.trans (hb.mono hzz))
      clear hb c5 cD
      go_wp2_with fail
      refine (wakes7 _).mono ?_
      rintro r w6 ⟨rfl, hb⟩
      go_wp2_with fail
      go_ret
      exact ⟨rfl, HB5.out.trans (hb.mono HB5.out.size)⟩
end Go.Proofs.Ytkffmjcipnlbhaa
