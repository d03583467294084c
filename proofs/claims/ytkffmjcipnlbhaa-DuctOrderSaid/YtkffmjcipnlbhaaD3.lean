
/- Walks of the seat of chapter 05: 'does' with each closure. -/
import Derived.Test.YtkffmjcipnlbhaaD2
namespace Go.Proofs.Ytkffmjcipnlbhaa
open Go.RowKit
attribute [local go_sem ↓] Go.wp_at_zero Go.wp_at_succ
attribute [local go_sem] more_size cell_more_old frozen_more_old setCell_more_old more_drew drew_more old_alloc old_more old_drew old_setCell cell_alloc_old frozen_alloc_old setCell_alloc_old

set_option maxHeartbeats 2000000 in
/-- A duct that may not be: it is handed back, with an error. -/
theorem does27_arg (g : Value) (c : Int) (a : Option Addr) (n p : Nat) (b : Bool) (w : World) (hn : ¬ (0 ≤ c ∧ c ≤ 64 ∧ (n : Int) ≤ c)) :
    Calls Try.prog 27 #[.agg #[.int .i64 c, .slice a n p, .bool b], g] w fun r w' => r = .returned (.tuple #[.agg #[.int .i64 c, .slice a n p, .bool b], .int .i64 2]) ∧ Below w.heap.size w w' := by
  have HN := Lib.hid hn
  clear hn
  go_enter Try.func27, Try.ntmps27
  go_wp2_with fail
  refine (may13_no _ c a n p b _ (by (repeat' (first | (with_reducible assumption) | (with_reducible refine hm_new ?_; (first | rfl | (simp; done) | (simp [more_size]; done) | (simp [more_size]; omega))) | (with_reducible refine block_alloc ?_) | (with_reducible refine hm_more ?_) | (with_reducible refine hm_drew ?_)))) HN.out).mono ?_
  rintro r w1 ⟨rfl, hb⟩
  have kD : w1.heap[w.heap.size]? = some (.cells #[.int .i64 c, .slice a n p, .bool b] 26) := block_keep' hb (by (repeat' (first | (with_reducible assumption) | (with_reducible refine hm_new ?_; (first | rfl | (simp; done) | (simp [more_size]; done) | (simp [more_size]; omega))) | (with_reducible refine block_alloc ?_) | (with_reducible refine hm_more ?_) | (with_reducible refine hm_drew ?_))))
  have kR : w1.heap[w.heap.size + 1]? = some (.cells #[.int .i64 0, .slice none 0 0, .bool false] 26) := block_keep' hb (by (repeat' (first | (with_reducible assumption) | (with_reducible refine hm_new ?_; (first | rfl | (simp; done) | (simp [more_size]; done) | (simp [more_size]; omega))) | (with_reducible refine block_alloc ?_) | (with_reducible refine hm_more ?_) | (with_reducible refine hm_drew ?_))))
  have hB1 : Below w.heap.size w w1 := by (repeat' (first | (with_reducible exact Below.refl _ _) | (with_reducible assumption) | (with_reducible refine Below.drew ?_) | (with_reducible refine Below.alloc ?_ ?_ _) | (with_reducible refine below_more ?_ ?_ _ _) | (with_reducible refine Below.setCell ?_ ?_ _) | (with_reducible refine Below.trans ?_ (Below.mono (by assumption) ?_)))) <;> first | omega | (simp; done) | (simp; omega) | (simp [more_size]; done) | (simp [more_size]; omega)
  have cD := cell_block kD
  have cR := cell_block kR
  have fR := free_block kR
  have HB1 := Lib.hid hB1
  clear kD kR hb hB1
  go_wp2
  refine bodyPost_ret ?_ rfl ⟨rfl, ?_⟩
  · simp [results, Try.results27, go_sem, cR, fR]
  · have hb := HB1.out
    (repeat' (first | (with_reducible exact Below.refl _ _) | (with_reducible assumption) | (with_reducible refine Below.drew ?_) | (with_reducible refine Below.alloc ?_ ?_ _) | (with_reducible refine below_more ?_ ?_ _ _) | (with_reducible refine Below.setCell ?_ ?_ _) | (with_reducible refine Below.trans ?_ (Below.mono (by assumption) ?_)))) <;> first | omega | (simp; done) | (simp; omega) | (simp [more_size]; done) | (simp [more_size]; omega)

theorem put28_shutB (B Bl : Nat) (c : Int) (a : Option Addr) (n p : Nat) (w : World) (h : w.heap[B]? = some (.cells #[.int .i64 c, .slice a n p, .bool true] 26)) :
    Calls Try.prog 28 #[.pointer (some ⟨B, 0, none⟩), .pointer (some ⟨Bl, 0, none⟩)] w fun r w' => r = .returned (.int .i64 52) ∧ Below w.heap.size w w' :=
  (put28_shut B Bl c a n p w h).mono fun r w' ⟨h1, h2⟩ => ⟨h1, h2 ▸ Below.refl _ _⟩
theorem close30_shutB (B : Nat) (c : Int) (a : Option Addr) (n p : Nat) (w : World) (h : w.heap[B]? = some (.cells #[.int .i64 c, .slice a n p, .bool true] 26)) :
    Calls Try.prog 30 #[.pointer (some ⟨B, 0, none⟩)] w fun r w' => r = .returned (.int .i64 52) ∧ Below w.heap.size w w' :=
  (close30_shut B c a n p w h).mono fun r w' ⟨h1, h2⟩ => ⟨h1, h2 ▸ Below.refl _ _⟩

set_option maxHeartbeats 4000000 in
theorem does27_put_shut (c : Int) (a : Option Addr) (n : Nat) (p : Nat) (l : List Lt) (Bl : Nat) (w : World) (h1 : 0 ≤ c) (h2 : c ≤ 64) (h3 : ((n : Nat) : Int) ≤ c) (hl : RdL w (.slice a n p) l)  :
    Calls Try.prog 27 #[.agg #[.int .i64 c, .slice a n p, .bool true], .func (.func 28) #[] #[.pointer (some ⟨Bl, 0, none⟩)]] w fun r w' => r = .returned (.tuple #[.agg #[.int .i64 c, .slice a n p, .bool true], .int .i64 52]) ∧ Below w.heap.size w w' := by
  have hnl : n = (l : List Lt).length := hl.len
  have HL := Lib.hid hl
  have HN := Lib.hid hnl
  clear hl hnl
  go_enter Try.func27, Try.ntmps27
  go_wp2_with fail
  refine (may13_yes _ c a n p true _ (by (repeat' (first | (with_reducible assumption) | (with_reducible refine hm_new ?_; (first | rfl | (simp; done) | (simp [more_size]; done) | (simp [more_size]; omega))) | (with_reducible refine block_alloc ?_) | (with_reducible refine hm_more ?_) | (with_reducible refine hm_drew ?_)))) h1 h2 h3).mono ?_
  rintro r w1 ⟨rfl, hb⟩
  have kD : w1.heap[w.heap.size]? = some (.cells #[.int .i64 c, .slice a n p, .bool true] 26) := block_keep' hb (by (repeat' (first | (with_reducible assumption) | (with_reducible refine hm_new ?_; (first | rfl | (simp; done) | (simp [more_size]; done) | (simp [more_size]; omega))) | (with_reducible refine block_alloc ?_) | (with_reducible refine hm_more ?_) | (with_reducible refine hm_drew ?_))))
  have kR : w1.heap[w.heap.size + 1]? = some (.cells #[.int .i64 0, .slice none 0 0, .bool false] 26) := block_keep' hb (by (repeat' (first | (with_reducible assumption) | (with_reducible refine hm_new ?_; (first | rfl | (simp; done) | (simp [more_size]; done) | (simp [more_size]; omega))) | (with_reducible refine block_alloc ?_) | (with_reducible refine hm_more ?_) | (with_reducible refine hm_drew ?_))))
  have hB1 : Below w.heap.size w w1 := by (repeat' (first | (with_reducible exact Below.refl _ _) | (with_reducible assumption) | (with_reducible refine Below.drew ?_) | (with_reducible refine Below.alloc ?_ ?_ _) | (with_reducible refine below_more ?_ ?_ _ _) | (with_reducible refine Below.setCell ?_ ?_ _) | (with_reducible refine Below.trans ?_ (Below.mono (by assumption) ?_)))) <;> first | omega | (simp; done) | (simp; omega) | (simp [more_size]; done) | (simp [more_size]; omega)
  have oR := block_lt kR
  have oD := block_lt kD
  have oD' : Old w1 w.heap.size := oD
  have cD := cell_block kD
  have HD := Lib.hid kD
  have HR := Lib.hid kR
  have HB1 := Lib.hid hB1
  clear kD kR hb hB1
  go_wp2_with fail
  refine (clone26 _ l _ (by have := HN.out; omega) (HL.out.below (by have hb := HB1.out; have hz := hb.size; (repeat' (first | (with_reducible exact Below.refl _ _) | (with_reducible assumption) | (with_reducible refine Below.drew ?_) | (with_reducible refine Below.alloc ?_ ?_ _) | (with_reducible refine below_more ?_ ?_ _ _) | (with_reducible refine Below.setCell ?_ ?_ _) | (with_reducible refine Below.trans ?_ (Below.mono (by assumption) ?_)))) <;> first | omega | (simp; done) | (simp; omega) | (simp [more_size]; done) | (simp [more_size]; omega)))).mono ?_
  rintro r w2 ⟨v2, rfl, hown, hb⟩
  obtain ⟨a2, p2, rfl⟩ := (RdL.of_owns hown).shape (n := n) HN.out.symm
  have kO : w2.heap[w1.heap.size]? = some (.cells #[.int .i64 c, .slice a n p, .bool true] 26) := block_keep' hb (by (repeat' (first | (with_reducible assumption) | (with_reducible refine hm_new ?_; (first | rfl | (simp; done) | (simp [more_size]; done) | (simp [more_size]; omega))) | (with_reducible refine block_alloc ?_) | (with_reducible refine hm_more ?_) | (with_reducible refine hm_drew ?_))))
  have kD : w2.heap[w.heap.size]? = some (.cells #[.int .i64 c, .slice a n p, .bool true] 26) := block_keep' hb (block_alloc HD.out)
  have kR : w2.heap[w.heap.size + 1]? = some (.cells #[.int .i64 0, .slice none 0 0, .bool false] 26) := block_keep' hb (block_alloc HR.out)
  have hB2 : Below w.heap.size w w2 := by
    have hb1 := HB1.out
    have hz := hb1.size
    (repeat' (first | (with_reducible exact Below.refl _ _) | (with_reducible assumption) | (with_reducible refine Below.drew ?_) | (with_reducible refine Below.alloc ?_ ?_ _) | (with_reducible refine below_more ?_ ?_ _ _) | (with_reducible refine Below.setCell ?_ ?_ _) | (with_reducible refine Below.trans ?_ (Below.mono (by assumption) ?_)))) <;> first | omega | (simp; done) | (simp; omega) | (simp [more_size]; done) | (simp [more_size]; omega)
  have hz2 : w1.heap.size < w2.heap.size := block_lt kO
  have hz1 : w.heap.size ≤ w1.heap.size := by omega
  have cO := cell_block kO
  have fO := free_block kO
  have HD := Lib.hid kD
  have HR := Lib.hid kR
  have HO := Lib.hid kO
  have HB2 := Lib.hid hB2
  have hown' : w2.ownsRow w1.heap.size 32 6 (.slice a2 n p2) n (ltCells l) := by rw [HN.out] at hown ⊢; exact owns_base hown (by simp)
  have HOW := Lib.hid hown'
  have HBS := Lib.hid (hB2.setCell (p := ⟨w1.heap.size, 1, none⟩) hz1 (.slice a2 n p2))
  have kO2 : (w2.setCell ⟨w1.heap.size, 1, none⟩ (.slice a2 n p2)).heap[w1.heap.size]? = some (.cells #[.int .i64 c, .slice a2 n p2, .bool true] 26) := by simpa using blk_set (i := 1) (v := .slice a2 n p2) kO
  have HO2 := Lib.hid kO2
  have HOW2 := Lib.hid (owns_set (i := 1) (u := .slice a2 n p2) kO (by decide) hown')
  have HZ2 : Hid (w1.heap.size < (w2.setCell ⟨w1.heap.size, 1, none⟩ (.slice a2 n p2)).heap.size) := by show _ < _; rw [setCell_size]; exact hz2
  clear kD kR kO hb hB2 HB1 cD hown hown' kO2
  go_wp2_with fail
  refine (put28_shutB _ Bl c a2 n p2 _ HO2.out).mono ?_
  rintro r w3 ⟨rfl, hb⟩
  have kD3 : w3.heap[w.heap.size]? = some (.cells #[.int .i64 c, .slice a n p, .bool true] 26) := block_keep' hb (block_set HD.out (by show w.heap.size ≠ w1.heap.size; omega))
  have kR3 : w3.heap[w.heap.size + 1]? = some (.cells #[.int .i64 0, .slice none 0 0, .bool false] 26) := block_keep' hb (block_set HR.out (by show w.heap.size + 1 ≠ w1.heap.size; omega))
  have hB3 : Below w.heap.size w w3 := HBS.out.trans (hb.mono HBS.out.size)
  have cD3 := cell_block kD3
  have cR3 := cell_block kR3
  have fR3 := free_block kR3
  have HB3 := Lib.hid hB3
  clear kD3 kR3 hB3 hb HB2 HD HR HO cO fO
  go_wp2
  refine bodyPost_ret ?_ rfl ⟨rfl, ?_⟩
  · simp [results, Try.results27, go_sem, cR3, fR3]
  · have hb := HB3.out
    (repeat' (first | (with_reducible exact Below.refl _ _) | (with_reducible assumption) | (with_reducible refine Below.drew ?_) | (with_reducible refine Below.alloc ?_ ?_ _) | (with_reducible refine below_more ?_ ?_ _ _) | (with_reducible refine Below.setCell ?_ ?_ _) | (with_reducible refine Below.trans ?_ (Below.mono (by assumption) ?_)))) <;> first | omega | (simp; done) | (simp; omega) | (simp [more_size]; done) | (simp [more_size]; omega)

set_option maxHeartbeats 4000000 in
theorem does27_put_full (c : Int) (a : Option Addr) (n : Nat) (p : Nat) (l : List Lt) (Bl : Nat) (au : Option Addr) (m pu : Nat) (w : World) (h1 : 0 ≤ c) (h2 : c ≤ 64) (h3 : ((n : Nat) : Int) ≤ c) (hl : RdL w (.slice a n p) l) (hBl : Bl < w.heap.size) (hcl : w.cell? ⟨Bl, 0, none⟩ = some (.slice au m pu)) (hfull : c - n < (m : Int)) :
    Calls Try.prog 27 #[.agg #[.int .i64 c, .slice a n p, .bool false], .func (.func 28) #[] #[.pointer (some ⟨Bl, 0, none⟩)]] w fun r w' => r = .returned (.tuple #[.agg #[.int .i64 c, .slice a n p, .bool false], .int .i64 50]) ∧ Below w.heap.size w w' := by
  have hnl : n = (l : List Lt).length := hl.len
  have HL := Lib.hid hl
  have HN := Lib.hid hnl
  clear hl hnl
  go_enter Try.func27, Try.ntmps27
  go_wp2_with fail
  refine (may13_yes _ c a n p false _ (by (repeat' (first | (with_reducible assumption) | (with_reducible refine hm_new ?_; (first | rfl | (simp; done) | (simp [more_size]; done) | (simp [more_size]; omega))) | (with_reducible refine block_alloc ?_) | (with_reducible refine hm_more ?_) | (with_reducible refine hm_drew ?_)))) h1 h2 h3).mono ?_
  rintro r w1 ⟨rfl, hb⟩
  have kD : w1.heap[w.heap.size]? = some (.cells #[.int .i64 c, .slice a n p, .bool false] 26) := block_keep' hb (by (repeat' (first | (with_reducible assumption) | (with_reducible refine hm_new ?_; (first | rfl | (simp; done) | (simp [more_size]; done) | (simp [more_size]; omega))) | (with_reducible refine block_alloc ?_) | (with_reducible refine hm_more ?_) | (with_reducible refine hm_drew ?_))))
  have kR : w1.heap[w.heap.size + 1]? = some (.cells #[.int .i64 0, .slice none 0 0, .bool false] 26) := block_keep' hb (by (repeat' (first | (with_reducible assumption) | (with_reducible refine hm_new ?_; (first | rfl | (simp; done) | (simp [more_size]; done) | (simp [more_size]; omega))) | (with_reducible refine block_alloc ?_) | (with_reducible refine hm_more ?_) | (with_reducible refine hm_drew ?_))))
  have hB1 : Below w.heap.size w w1 := by (repeat' (first | (with_reducible exact Below.refl _ _) | (with_reducible assumption) | (with_reducible refine Below.drew ?_) | (with_reducible refine Below.alloc ?_ ?_ _) | (with_reducible refine below_more ?_ ?_ _ _) | (with_reducible refine Below.setCell ?_ ?_ _) | (with_reducible refine Below.trans ?_ (Below.mono (by assumption) ?_)))) <;> first | omega | (simp; done) | (simp; omega) | (simp [more_size]; done) | (simp [more_size]; omega)
  have oR := block_lt kR
  have oD := block_lt kD
  have oD' : Old w1 w.heap.size := oD
  have cD := cell_block kD
  have HD := Lib.hid kD
  have HR := Lib.hid kR
  have HB1 := Lib.hid hB1
  clear kD kR hb hB1
  go_wp2_with fail
  refine (clone26 _ l _ (by have := HN.out; omega) (HL.out.below (by have hb := HB1.out; have hz := hb.size; (repeat' (first | (with_reducible exact Below.refl _ _) | (with_reducible assumption) | (with_reducible refine Below.drew ?_) | (with_reducible refine Below.alloc ?_ ?_ _) | (with_reducible refine below_more ?_ ?_ _ _) | (with_reducible refine Below.setCell ?_ ?_ _) | (with_reducible refine Below.trans ?_ (Below.mono (by assumption) ?_)))) <;> first | omega | (simp; done) | (simp; omega) | (simp [more_size]; done) | (simp [more_size]; omega)))).mono ?_
  rintro r w2 ⟨v2, rfl, hown, hb⟩
  obtain ⟨a2, p2, rfl⟩ := (RdL.of_owns hown).shape (n := n) HN.out.symm
  have kO : w2.heap[w1.heap.size]? = some (.cells #[.int .i64 c, .slice a n p, .bool false] 26) := block_keep' hb (by (repeat' (first | (with_reducible assumption) | (with_reducible refine hm_new ?_; (first | rfl | (simp; done) | (simp [more_size]; done) | (simp [more_size]; omega))) | (with_reducible refine block_alloc ?_) | (with_reducible refine hm_more ?_) | (with_reducible refine hm_drew ?_))))
  have kD : w2.heap[w.heap.size]? = some (.cells #[.int .i64 c, .slice a n p, .bool false] 26) := block_keep' hb (block_alloc HD.out)
  have kR : w2.heap[w.heap.size + 1]? = some (.cells #[.int .i64 0, .slice none 0 0, .bool false] 26) := block_keep' hb (block_alloc HR.out)
  have hB2 : Below w.heap.size w w2 := by
    have hb1 := HB1.out
    have hz := hb1.size
    (repeat' (first | (with_reducible exact Below.refl _ _) | (with_reducible assumption) | (with_reducible refine Below.drew ?_) | (with_reducible refine Below.alloc ?_ ?_ _) | (with_reducible refine below_more ?_ ?_ _ _) | (with_reducible refine Below.setCell ?_ ?_ _) | (with_reducible refine Below.trans ?_ (Below.mono (by assumption) ?_)))) <;> first | omega | (simp; done) | (simp; omega) | (simp [more_size]; done) | (simp [more_size]; omega)
  have hz2 : w1.heap.size < w2.heap.size := block_lt kO
  have hz1 : w.heap.size ≤ w1.heap.size := by omega
  have cO := cell_block kO
  have fO := free_block kO
  have HD := Lib.hid kD
  have HR := Lib.hid kR
  have HO := Lib.hid kO
  have HB2 := Lib.hid hB2
  have hown' : w2.ownsRow w1.heap.size 32 6 (.slice a2 n p2) n (ltCells l) := by rw [HN.out] at hown ⊢; exact owns_base hown (by simp)
  have HOW := Lib.hid hown'
  have HBS := Lib.hid (hB2.setCell (p := ⟨w1.heap.size, 1, none⟩) hz1 (.slice a2 n p2))
  have kO2 : (w2.setCell ⟨w1.heap.size, 1, none⟩ (.slice a2 n p2)).heap[w1.heap.size]? = some (.cells #[.int .i64 c, .slice a2 n p2, .bool false] 26) := by simpa using blk_set (i := 1) (v := .slice a2 n p2) kO
  have HO2 := Lib.hid kO2
  have HOW2 := Lib.hid (owns_set (i := 1) (u := .slice a2 n p2) kO (by decide) hown')
  have HZ2 : Hid (w1.heap.size < (w2.setCell ⟨w1.heap.size, 1, none⟩ (.slice a2 n p2)).heap.size) := by show _ < _; rw [setCell_size]; exact hz2
  clear kD kR kO hb hB2 HB1 cD hown hown' kO2
  go_wp2_with fail
  refine (put28_full _ Bl c a2 au n p2 m pu _ HO2.out ((HBS.out.cell (p := ⟨Bl, 0, none⟩) hBl).trans hcl) (Nat.lt_of_lt_of_le hBl HBS.out.size) h3 h2 hfull).mono ?_
  rintro r w3 ⟨rfl, hb⟩
  have kD3 : w3.heap[w.heap.size]? = some (.cells #[.int .i64 c, .slice a n p, .bool false] 26) := block_keep' hb (block_set HD.out (by show w.heap.size ≠ w1.heap.size; omega))
  have kR3 : w3.heap[w.heap.size + 1]? = some (.cells #[.int .i64 0, .slice none 0 0, .bool false] 26) := block_keep' hb (block_set HR.out (by show w.heap.size + 1 ≠ w1.heap.size; omega))
  have hB3 : Below w.heap.size w w3 := HBS.out.trans (hb.mono HBS.out.size)
  have cD3 := cell_block kD3
  have cR3 := cell_block kR3
  have fR3 := free_block kR3
  have HB3 := Lib.hid hB3
  clear kD3 kR3 hB3 hb HB2 HD HR HO cO fO
  go_wp2
  refine bodyPost_ret ?_ rfl ⟨rfl, ?_⟩
  · simp [results, Try.results27, go_sem, cR3, fR3]
  · have hb := HB3.out
    (repeat' (first | (with_reducible exact Below.refl _ _) | (with_reducible assumption) | (with_reducible refine Below.drew ?_) | (with_reducible refine Below.alloc ?_ ?_ _) | (with_reducible refine below_more ?_ ?_ _ _) | (with_reducible refine Below.setCell ?_ ?_ _) | (with_reducible refine Below.trans ?_ (Below.mono (by assumption) ?_)))) <;> first | omega | (simp; done) | (simp; omega) | (simp [more_size]; done) | (simp [more_size]; omega)

set_option maxHeartbeats 4000000 in
theorem does27_take_empty (c : Int) (a : Option Addr) (p : Nat)  (Bm : Nat) (w : World) (h1 : 0 ≤ c) (h2 : c ≤ 64) (h3 : ((0 : Nat) : Int) ≤ c) (hl : RdL w (.slice a 0 p) [])  :
    Calls Try.prog 27 #[.agg #[.int .i64 c, .slice a 0 p, .bool false], .func (.func 29) #[] #[.pointer (some ⟨Bm, 0, none⟩)]] w fun r w' => r = .returned (.tuple #[.agg #[.int .i64 c, .slice a 0 p, .bool false], .int .i64 51]) ∧ Below w.heap.size w w' := by
  have hnl : 0 = ([] : List Lt).length := hl.len
  have HL := Lib.hid hl
  have HN := Lib.hid hnl
  clear hl hnl
  go_enter Try.func27, Try.ntmps27
  go_wp2_with fail
  refine (may13_yes _ c a 0 p false _ (by (repeat' (first | (with_reducible assumption) | (with_reducible refine hm_new ?_; (first | rfl | (simp; done) | (simp [more_size]; done) | (simp [more_size]; omega))) | (with_reducible refine block_alloc ?_) | (with_reducible refine hm_more ?_) | (with_reducible refine hm_drew ?_)))) h1 h2 h3).mono ?_
  rintro r w1 ⟨rfl, hb⟩
  have kD : w1.heap[w.heap.size]? = some (.cells #[.int .i64 c, .slice a 0 p, .bool false] 26) := block_keep' hb (by (repeat' (first | (with_reducible assumption) | (with_reducible refine hm_new ?_; (first | rfl | (simp; done) | (simp [more_size]; done) | (simp [more_size]; omega))) | (with_reducible refine block_alloc ?_) | (with_reducible refine hm_more ?_) | (with_reducible refine hm_drew ?_))))
  have kR : w1.heap[w.heap.size + 1]? = some (.cells #[.int .i64 0, .slice none 0 0, .bool false] 26) := block_keep' hb (by (repeat' (first | (with_reducible assumption) | (with_reducible refine hm_new ?_; (first | rfl | (simp; done) | (simp [more_size]; done) | (simp [more_size]; omega))) | (with_reducible refine block_alloc ?_) | (with_reducible refine hm_more ?_) | (with_reducible refine hm_drew ?_))))
  have hB1 : Below w.heap.size w w1 := by (repeat' (first | (with_reducible exact Below.refl _ _) | (with_reducible assumption) | (with_reducible refine Below.drew ?_) | (with_reducible refine Below.alloc ?_ ?_ _) | (with_reducible refine below_more ?_ ?_ _ _) | (with_reducible refine Below.setCell ?_ ?_ _) | (with_reducible refine Below.trans ?_ (Below.mono (by assumption) ?_)))) <;> first | omega | (simp; done) | (simp; omega) | (simp [more_size]; done) | (simp [more_size]; omega)
  have oR := block_lt kR
  have oD := block_lt kD
  have oD' : Old w1 w.heap.size := oD
  have cD := cell_block kD
  have HD := Lib.hid kD
  have HR := Lib.hid kR
  have HB1 := Lib.hid hB1
  clear kD kR hb hB1
  go_wp2_with fail
  refine (clone26 _ [] _ (by have := HN.out; omega) (HL.out.below (by have hb := HB1.out; have hz := hb.size; (repeat' (first | (with_reducible exact Below.refl _ _) | (with_reducible assumption) | (with_reducible refine Below.drew ?_) | (with_reducible refine Below.alloc ?_ ?_ _) | (with_reducible refine below_more ?_ ?_ _ _) | (with_reducible refine Below.setCell ?_ ?_ _) | (with_reducible refine Below.trans ?_ (Below.mono (by assumption) ?_)))) <;> first | omega | (simp; done) | (simp; omega) | (simp [more_size]; done) | (simp [more_size]; omega)))).mono ?_
  rintro r w2 ⟨v2, rfl, hown, hb⟩
  obtain ⟨a2, p2, rfl⟩ := (RdL.of_owns hown).shape (n := 0) HN.out.symm
  have kO : w2.heap[w1.heap.size]? = some (.cells #[.int .i64 c, .slice a 0 p, .bool false] 26) := block_keep' hb (by (repeat' (first | (with_reducible assumption) | (with_reducible refine hm_new ?_; (first | rfl | (simp; done) | (simp [more_size]; done) | (simp [more_size]; omega))) | (with_reducible refine block_alloc ?_) | (with_reducible refine hm_more ?_) | (with_reducible refine hm_drew ?_))))
  have kD : w2.heap[w.heap.size]? = some (.cells #[.int .i64 c, .slice a 0 p, .bool false] 26) := block_keep' hb (block_alloc HD.out)
  have kR : w2.heap[w.heap.size + 1]? = some (.cells #[.int .i64 0, .slice none 0 0, .bool false] 26) := block_keep' hb (block_alloc HR.out)
  have hB2 : Below w.heap.size w w2 := by
    have hb1 := HB1.out
    have hz := hb1.size
    (repeat' (first | (with_reducible exact Below.refl _ _) | (with_reducible assumption) | (with_reducible refine Below.drew ?_) | (with_reducible refine Below.alloc ?_ ?_ _) | (with_reducible refine below_more ?_ ?_ _ _) | (with_reducible refine Below.setCell ?_ ?_ _) | (with_reducible refine Below.trans ?_ (Below.mono (by assumption) ?_)))) <;> first | omega | (simp; done) | (simp; omega) | (simp [more_size]; done) | (simp [more_size]; omega)
  have hz2 : w1.heap.size < w2.heap.size := block_lt kO
  have hz1 : w.heap.size ≤ w1.heap.size := by omega
  have cO := cell_block kO
  have fO := free_block kO
  have HD := Lib.hid kD
  have HR := Lib.hid kR
  have HO := Lib.hid kO
  have HB2 := Lib.hid hB2
  have hown' : w2.ownsRow w1.heap.size 32 6 (.slice a2 0 p2) 0 (ltCells []) := by rw [HN.out] at hown ⊢; exact owns_base hown (by simp)
  have HOW := Lib.hid hown'
  have HBS := Lib.hid (hB2.setCell (p := ⟨w1.heap.size, 1, none⟩) hz1 (.slice a2 0 p2))
  have kO2 : (w2.setCell ⟨w1.heap.size, 1, none⟩ (.slice a2 0 p2)).heap[w1.heap.size]? = some (.cells #[.int .i64 c, .slice a2 0 p2, .bool false] 26) := by simpa using blk_set (i := 1) (v := .slice a2 0 p2) kO
  have HO2 := Lib.hid kO2
  have HOW2 := Lib.hid (owns_set (i := 1) (u := .slice a2 0 p2) kO (by decide) hown')
  have HZ2 : Hid (w1.heap.size < (w2.setCell ⟨w1.heap.size, 1, none⟩ (.slice a2 0 p2)).heap.size) := by show _ < _; rw [setCell_size]; exact hz2
  clear kD kR kO hb hB2 HB1 cD hown hown' kO2
  go_wp2_with fail
  refine (take29_empty _ Bm c a2 p2 _ HO2.out).mono ?_
  rintro r w3 ⟨rfl, hb⟩
  have kD3 : w3.heap[w.heap.size]? = some (.cells #[.int .i64 c, .slice a 0 p, .bool false] 26) := block_keep' hb (block_set HD.out (by show w.heap.size ≠ w1.heap.size; omega))
  have kR3 : w3.heap[w.heap.size + 1]? = some (.cells #[.int .i64 0, .slice none 0 0, .bool false] 26) := block_keep' hb (block_set HR.out (by show w.heap.size + 1 ≠ w1.heap.size; omega))
  have hB3 : Below w.heap.size w w3 := HBS.out.trans (hb.mono HBS.out.size)
  have cD3 := cell_block kD3
  have cR3 := cell_block kR3
  have fR3 := free_block kR3
  have HB3 := Lib.hid hB3
  clear kD3 kR3 hB3 hb HB2 HD HR HO cO fO
  go_wp2
  refine bodyPost_ret ?_ rfl ⟨rfl, ?_⟩
  · simp [results, Try.results27, go_sem, cR3, fR3]
  · have hb := HB3.out
    (repeat' (first | (with_reducible exact Below.refl _ _) | (with_reducible assumption) | (with_reducible refine Below.drew ?_) | (with_reducible refine Below.alloc ?_ ?_ _) | (with_reducible refine below_more ?_ ?_ _ _) | (with_reducible refine Below.setCell ?_ ?_ _) | (with_reducible refine Below.trans ?_ (Below.mono (by assumption) ?_)))) <;> first | omega | (simp; done) | (simp; omega) | (simp [more_size]; done) | (simp [more_size]; omega)

set_option maxHeartbeats 4000000 in
theorem does27_close_shut (c : Int) (a : Option Addr) (n : Nat) (p : Nat) (l : List Lt)  (w : World) (h1 : 0 ≤ c) (h2 : c ≤ 64) (h3 : ((n : Nat) : Int) ≤ c) (hl : RdL w (.slice a n p) l)  :
    Calls Try.prog 27 #[.agg #[.int .i64 c, .slice a n p, .bool true], .func (.func 30) #[] #[]] w fun r w' => r = .returned (.tuple #[.agg #[.int .i64 c, .slice a n p, .bool true], .int .i64 52]) ∧ Below w.heap.size w w' := by
  have hnl : n = (l : List Lt).length := hl.len
  have HL := Lib.hid hl
  have HN := Lib.hid hnl
  clear hl hnl
  go_enter Try.func27, Try.ntmps27
  go_wp2_with fail
  refine (may13_yes _ c a n p true _ (by (repeat' (first | (with_reducible assumption) | (with_reducible refine hm_new ?_; (first | rfl | (simp; done) | (simp [more_size]; done) | (simp [more_size]; omega))) | (with_reducible refine block_alloc ?_) | (with_reducible refine hm_more ?_) | (with_reducible refine hm_drew ?_)))) h1 h2 h3).mono ?_
  rintro r w1 ⟨rfl, hb⟩
  have kD : w1.heap[w.heap.size]? = some (.cells #[.int .i64 c, .slice a n p, .bool true] 26) := block_keep' hb (by (repeat' (first | (with_reducible assumption) | (with_reducible refine hm_new ?_; (first | rfl | (simp; done) | (simp [more_size]; done) | (simp [more_size]; omega))) | (with_reducible refine block_alloc ?_) | (with_reducible refine hm_more ?_) | (with_reducible refine hm_drew ?_))))
  have kR : w1.heap[w.heap.size + 1]? = some (.cells #[.int .i64 0, .slice none 0 0, .bool false] 26) := block_keep' hb (by (repeat' (first | (with_reducible assumption) | (with_reducible refine hm_new ?_; (first | rfl | (simp; done) | (simp [more_size]; done) | (simp [more_size]; omega))) | (with_reducible refine block_alloc ?_) | (with_reducible refine hm_more ?_) | (with_reducible refine hm_drew ?_))))
  have hB1 : Below w.heap.size w w1 := by (repeat' (first | (with_reducible exact Below.refl _ _) | (with_reducible assumption) | (with_reducible refine Below.drew ?_) | (with_reducible refine Below.alloc ?_ ?_ _) | (with_reducible refine below_more ?_ ?_ _ _) | (with_reducible refine Below.setCell ?_ ?_ _) | (with_reducible refine Below.trans ?_ (Below.mono (by assumption) ?_)))) <;> first | omega | (simp; done) | (simp; omega) | (simp [more_size]; done) | (simp [more_size]; omega)
  have oR := block_lt kR
  have oD := block_lt kD
  have oD' : Old w1 w.heap.size := oD
  have cD := cell_block kD
  have HD := Lib.hid kD
  have HR := Lib.hid kR
  have HB1 := Lib.hid hB1
  clear kD kR hb hB1
  go_wp2_with fail
  refine (clone26 _ l _ (by have := HN.out; omega) (HL.out.below (by have hb := HB1.out; have hz := hb.size; (repeat' (first | (with_reducible exact Below.refl _ _) | (with_reducible assumption) | (with_reducible refine Below.drew ?_) | (with_reducible refine Below.alloc ?_ ?_ _) | (with_reducible refine below_more ?_ ?_ _ _) | (with_reducible refine Below.setCell ?_ ?_ _) | (with_reducible refine Below.trans ?_ (Below.mono (by assumption) ?_)))) <;> first | omega | (simp; done) | (simp; omega) | (simp [more_size]; done) | (simp [more_size]; omega)))).mono ?_
  rintro r w2 ⟨v2, rfl, hown, hb⟩
  obtain ⟨a2, p2, rfl⟩ := (RdL.of_owns hown).shape (n := n) HN.out.symm
  have kO : w2.heap[w1.heap.size]? = some (.cells #[.int .i64 c, .slice a n p, .bool true] 26) := block_keep' hb (by (repeat' (first | (with_reducible assumption) | (with_reducible refine hm_new ?_; (first | rfl | (simp; done) | (simp [more_size]; done) | (simp [more_size]; omega))) | (with_reducible refine block_alloc ?_) | (with_reducible refine hm_more ?_) | (with_reducible refine hm_drew ?_))))
  have kD : w2.heap[w.heap.size]? = some (.cells #[.int .i64 c, .slice a n p, .bool true] 26) := block_keep' hb (block_alloc HD.out)
  have kR : w2.heap[w.heap.size + 1]? = some (.cells #[.int .i64 0, .slice none 0 0, .bool false] 26) := block_keep' hb (block_alloc HR.out)
  have hB2 : Below w.heap.size w w2 := by
    have hb1 := HB1.out
    have hz := hb1.size
    (repeat' (first | (with_reducible exact Below.refl _ _) | (with_reducible assumption) | (with_reducible refine Below.drew ?_) | (with_reducible refine Below.alloc ?_ ?_ _) | (with_reducible refine below_more ?_ ?_ _ _) | (with_reducible refine Below.setCell ?_ ?_ _) | (with_reducible refine Below.trans ?_ (Below.mono (by assumption) ?_)))) <;> first | omega | (simp; done) | (simp; omega) | (simp [more_size]; done) | (simp [more_size]; omega)
  have hz2 : w1.heap.size < w2.heap.size := block_lt kO
  have hz1 : w.heap.size ≤ w1.heap.size := by omega
  have cO := cell_block kO
  have fO := free_block kO
  have HD := Lib.hid kD
  have HR := Lib.hid kR
  have HO := Lib.hid kO
  have HB2 := Lib.hid hB2
  have hown' : w2.ownsRow w1.heap.size 32 6 (.slice a2 n p2) n (ltCells l) := by rw [HN.out] at hown ⊢; exact owns_base hown (by simp)
  have HOW := Lib.hid hown'
  have HBS := Lib.hid (hB2.setCell (p := ⟨w1.heap.size, 1, none⟩) hz1 (.slice a2 n p2))
  have kO2 : (w2.setCell ⟨w1.heap.size, 1, none⟩ (.slice a2 n p2)).heap[w1.heap.size]? = some (.cells #[.int .i64 c, .slice a2 n p2, .bool true] 26) := by simpa using blk_set (i := 1) (v := .slice a2 n p2) kO
  have HO2 := Lib.hid kO2
  have HOW2 := Lib.hid (owns_set (i := 1) (u := .slice a2 n p2) kO (by decide) hown')
  have HZ2 : Hid (w1.heap.size < (w2.setCell ⟨w1.heap.size, 1, none⟩ (.slice a2 n p2)).heap.size) := by show _ < _; rw [setCell_size]; exact hz2
  clear kD kR kO hb hB2 HB1 cD hown hown' kO2
  go_wp2_with fail
  refine (close30_shutB _ c a2 n p2 _ HO2.out).mono ?_
  rintro r w3 ⟨rfl, hb⟩
  have kD3 : w3.heap[w.heap.size]? = some (.cells #[.int .i64 c, .slice a n p, .bool true] 26) := block_keep' hb (block_set HD.out (by show w.heap.size ≠ w1.heap.size; omega))
  have kR3 : w3.heap[w.heap.size + 1]? = some (.cells #[.int .i64 0, .slice none 0 0, .bool false] 26) := block_keep' hb (block_set HR.out (by show w.heap.size + 1 ≠ w1.heap.size; omega))
  have hB3 : Below w.heap.size w w3 := HBS.out.trans (hb.mono HBS.out.size)
  have cD3 := cell_block kD3
  have cR3 := cell_block kR3
  have fR3 := free_block kR3
  have HB3 := Lib.hid hB3
  clear kD3 kR3 hB3 hb HB2 HD HR HO cO fO
  go_wp2
  refine bodyPost_ret ?_ rfl ⟨rfl, ?_⟩
  · simp [results, Try.results27, go_sem, cR3, fR3]
  · have hb := HB3.out
    (repeat' (first | (with_reducible exact Below.refl _ _) | (with_reducible assumption) | (with_reducible refine Below.drew ?_) | (with_reducible refine Below.alloc ?_ ?_ _) | (with_reducible refine below_more ?_ ?_ _ _) | (with_reducible refine Below.setCell ?_ ?_ _) | (with_reducible refine Below.trans ?_ (Below.mono (by assumption) ?_)))) <;> first | omega | (simp; done) | (simp; omega) | (simp [more_size]; done) | (simp [more_size]; omega)

theorem rdL_mk {w : World} {v : Value} {n : Nat} {xs : List Value} {l : List Lt} (h : RdF w 6 v n xs) (hn : l.length = n) (hx : ltCells l = xs) : RdL w v l := by
  subst hn hx; exact h
theorem RdF.any0 {w w' : World} {sz : Nat} {v : Value} {xs : List Value} (h : RdF w sz v 0 xs) : RdF w' sz v 0 xs := by
  obtain ⟨h1, h | ⟨h, _⟩⟩ := h
  · exact ⟨h1, .inl h⟩
  · omega
theorem owns_set3 {w : World} {B : Nat} {cs : Array Value} {t e : TypeId} {u0 u1 u2 : Value} (h : w.heap[B]? = some (.cells cs t (0, 0))) (hte : t ≠ e) {base size k : Nat} {v : Value} {xs : List Value} (hr : w.ownsRow base e size v k xs) :
    (((w.setCell ⟨B, 0, none⟩ u0).setCell ⟨B, 1, none⟩ u1).setCell ⟨B, 2, none⟩ u2).ownsRow base e size v k xs :=
  owns_set (blk_set (blk_set h)) hte (owns_set (blk_set h) hte (owns_set h hte hr))
theorem sets6 {w : World} {b c : Nat} {o : Obj} {v0 v1 v2 v3 v4 v5 : Value} (h : w.heap[c]? = some o) (hne : c ≠ b) :
    (World.setCell (World.setCell (World.setCell (World.setCell (World.setCell (World.setCell w ⟨b, 0, none⟩ v0) ⟨b, 1, none⟩ v1) ⟨b, 2, none⟩ v2) ⟨b, 3, none⟩ v3) ⟨b, 4, none⟩ v4) ⟨b, 5, none⟩ v5).heap[c]? = some o :=
  block_set (block_set (block_set (block_set (block_set (block_set h hne) hne) hne) hne) hne) hne
theorem owns_sets6 {w : World} {b : Nat} {v0 v1 v2 v3 v4 v5 : Value} {base e size k : Nat} {v : Value} {xs : List Value} (hr : w.ownsRow base e size v k xs) (hb : b < base) :
    (World.setCell (World.setCell (World.setCell (World.setCell (World.setCell (World.setCell w ⟨b, 0, none⟩ v0) ⟨b, 1, none⟩ v1) ⟨b, 2, none⟩ v2) ⟨b, 3, none⟩ v3) ⟨b, 4, none⟩ v4) ⟨b, 5, none⟩ v5).ownsRow base e size v k xs :=
  ownsRow_setCell_below (ownsRow_setCell_below (ownsRow_setCell_below (ownsRow_setCell_below (ownsRow_setCell_below (ownsRow_setCell_below hr hb _) hb _) hb _) hb _) hb _) hb _
theorem grownBy_trans {a b c : World} {row : Option Nat} (h : a.grownBy b row) (k : b.grownBy c row) : a.grownBy c row :=
  ⟨k.os.trans h.os, k.tape.trans h.tape, k.output.trans h.output, Nat.le_trans h.size k.size, fun i hi hne => (k.block i (Nat.lt_of_lt_of_le hi h.size) hne).trans (h.block i hi hne)⟩
theorem grownBy_below {a b : World} (h : Below a.heap.size a b) (row : Option Nat) : a.grownBy b row := ⟨h.os, h.tape, h.output, h.size, fun i hi _ => h.block i hi⟩
theorem grownBy_sets6 (w : World) (b : Nat) (v0 v1 v2 v3 v4 v5 : Value) : w.grownBy (World.setCell (World.setCell (World.setCell (World.setCell (World.setCell (World.setCell w ⟨b, 0, none⟩ v0) ⟨b, 1, none⟩ v1) ⟨b, 2, none⟩ v2) ⟨b, 3, none⟩ v3) ⟨b, 4, none⟩ v4) ⟨b, 5, none⟩ v5) (some b) :=
  grownBy_trans (grownBy_trans (grownBy_trans (grownBy_trans (grownBy_trans (grownBy_set _ _ _ _) (grownBy_set _ _ _ _)) (grownBy_set _ _ _ _)) (grownBy_set _ _ _ _)) (grownBy_set _ _ _ _)) (grownBy_set _ _ _ _)
theorem taken {w4 : World} {B Bm : Nat} {c s b c0 c1 c2 c3 c4 c5 : Value} (hB : w4.heap[B]? = some (.cells #[c, s, b] 26)) (hM : w4.heap[Bm]? = some (.cells #[c0, c1, c2, c3, c4, c5] 32)) (hne : Bm ≠ B) (v0 v1 v2 v3 v4 v5 u : Value) :
    ∃ U : World, (World.setCell (World.setCell (World.setCell (World.setCell (World.setCell (World.setCell (World.setCell w4 ⟨Bm, 0, none⟩ v0) ⟨Bm, 1, none⟩ v1) ⟨Bm, 2, none⟩ v2) ⟨Bm, 3, none⟩ v3) ⟨Bm, 4, none⟩ v4) ⟨Bm, 5, none⟩ v5) ⟨B, 1, none⟩ u) = U ∧
      U.heap[B]? = some (.cells #[c, u, b] 26) ∧ U.heap[Bm]? = some (.cells #[v0, v1, v2, v3, v4, v5] 32) ∧ (∀ k, k ≠ B → k ≠ Bm → U.heap[k]? = w4.heap[k]?) ∧ U.heap.size = w4.heap.size ∧ U.os = w4.os ∧ U.tape = w4.tape ∧ U.output = w4.output ∧
      (∀ base n v xs, Bm < base → w4.ownsRow base 32 6 v n xs → U.ownsRow base 32 6 v n xs) := by
  have g := grownBy_sets6 w4 Bm v0 v1 v2 v3 v4 v5
  have e1 := sets6 (v0 := v0) (v1 := v1) (v2 := v2) (v3 := v3) (v4 := v4) (v5 := v5) hB (Ne.symm hne)
  have e2 := store6 (v0 := v0) (v1 := v1) (v2 := v2) (v3 := v3) (v4 := v4) (v5 := v5) hM
  have e3 : ∀ base n v xs, Bm < base → w4.ownsRow base 32 6 v n xs → _ := fun base n v xs hb h => owns_sets6 (v0 := v0) (v1 := v1) (v2 := v2) (v3 := v3) (v4 := v4) (v5 := v5) h hb
  have e4 : (World.setCell (World.setCell (World.setCell (World.setCell (World.setCell (World.setCell w4 ⟨Bm, 0, none⟩ v0) ⟨Bm, 1, none⟩ v1) ⟨Bm, 2, none⟩ v2) ⟨Bm, 3, none⟩ v3) ⟨Bm, 4, none⟩ v4) ⟨Bm, 5, none⟩ v5).heap.size = w4.heap.size := by simp only [setCell_size]
  have e5 : ∀ k, k ≠ Bm → (World.setCell (World.setCell (World.setCell (World.setCell (World.setCell (World.setCell w4 ⟨Bm, 0, none⟩ v0) ⟨Bm, 1, none⟩ v1) ⟨Bm, 2, none⟩ v2) ⟨Bm, 3, none⟩ v3) ⟨Bm, 4, none⟩ v4) ⟨Bm, 5, none⟩ v5).heap[k]? = w4.heap[k]? := fun k hk =>
    (Below.heap_setCell _ _ _ k hk).trans ((Below.heap_setCell _ _ _ k hk).trans ((Below.heap_setCell _ _ _ k hk).trans ((Below.heap_setCell _ _ _ k hk).trans ((Below.heap_setCell _ _ _ k hk).trans (Below.heap_setCell _ _ _ k hk)))))
  generalize (World.setCell (World.setCell (World.setCell (World.setCell (World.setCell (World.setCell w4 ⟨Bm, 0, none⟩ v0) ⟨Bm, 1, none⟩ v1) ⟨Bm, 2, none⟩ v2) ⟨Bm, 3, none⟩ v3) ⟨Bm, 4, none⟩ v4) ⟨Bm, 5, none⟩ v5) = V at *
  refine ⟨_, rfl, by simpa using blk_set (i := 1) (v := u) e1, block_set e2 hne, fun k h1 h2 => (Below.heap_setCell _ _ _ k h1).trans (e5 k h2), by rw [setCell_size]; exact e4, g.os, g.tape, g.output, fun base n v xs hb h => owns_set e1 (by decide) (e3 base n v xs hb h)⟩

set_option maxHeartbeats 4000000 in
theorem does27_put_ok (c : Int) (a : Option Addr) (n : Nat) (p : Nat) (l : List Lt) (Bl : Nat) (au : Option Addr) (m pu : Nat) (l2 : List Lt) (w : World) (h1 : 0 ≤ c) (h2 : c ≤ 64) (h3 : ((n : Nat) : Int) ≤ c) (hl : RdL w (.slice a n p) l) (hBl : Bl < w.heap.size) (hcl : w.cell? ⟨Bl, 0, none⟩ = some (.slice au m pu)) (hroom : (m : Int) ≤ c - n) (HM : Hid (m = l2.length)) (HUU : Hid (RdF w 6 (.slice au m pu) m (ltCells l2))) :
    Calls Try.prog 27 #[.agg #[.int .i64 c, .slice a n p, .bool false], .func (.func 28) #[] #[.pointer (some ⟨Bl, 0, none⟩)]] w fun r w' => ∃ a' p', r = .returned (.tuple #[.agg #[.int .i64 c, .slice a' (n + m) p', .bool false], .int .i64 0]) ∧ w'.ownsRow w.heap.size 32 6 (.slice a' (n + m) p') (n + m) (ltCells (l ++ l2)) ∧ Below w.heap.size w w' := by
  have hnl : n = (l : List Lt).length := hl.len
  have HL := Lib.hid hl
  have HN := Lib.hid hnl
  clear hl hnl
  go_enter Try.func27, Try.ntmps27
  go_wp2_with fail
  refine (may13_yes _ c a n p false _ (by (repeat' (first | (with_reducible assumption) | (with_reducible refine hm_new ?_; (first | rfl | (simp; done) | (simp [more_size]; done) | (simp [more_size]; omega))) | (with_reducible refine block_alloc ?_) | (with_reducible refine hm_more ?_) | (with_reducible refine hm_drew ?_)))) h1 h2 h3).mono ?_
  rintro r w1 ⟨rfl, hb⟩
  have kD : w1.heap[w.heap.size]? = some (.cells #[.int .i64 c, .slice a n p, .bool false] 26) := block_keep' hb (by (repeat' (first | (with_reducible assumption) | (with_reducible refine hm_new ?_; (first | rfl | (simp; done) | (simp [more_size]; done) | (simp [more_size]; omega))) | (with_reducible refine block_alloc ?_) | (with_reducible refine hm_more ?_) | (with_reducible refine hm_drew ?_))))
  have kR : w1.heap[w.heap.size + 1]? = some (.cells #[.int .i64 0, .slice none 0 0, .bool false] 26) := block_keep' hb (by (repeat' (first | (with_reducible assumption) | (with_reducible refine hm_new ?_; (first | rfl | (simp; done) | (simp [more_size]; done) | (simp [more_size]; omega))) | (with_reducible refine block_alloc ?_) | (with_reducible refine hm_more ?_) | (with_reducible refine hm_drew ?_))))
  have hB1 : Below w.heap.size w w1 := by (repeat' (first | (with_reducible exact Below.refl _ _) | (with_reducible assumption) | (with_reducible refine Below.drew ?_) | (with_reducible refine Below.alloc ?_ ?_ _) | (with_reducible refine below_more ?_ ?_ _ _) | (with_reducible refine Below.setCell ?_ ?_ _) | (with_reducible refine Below.trans ?_ (Below.mono (by assumption) ?_)))) <;> first | omega | (simp; done) | (simp; omega) | (simp [more_size]; done) | (simp [more_size]; omega)
  have oR := block_lt kR
  have oD := block_lt kD
  have oD' : Old w1 w.heap.size := oD
  have cD := cell_block kD
  have HD := Lib.hid kD
  have HR := Lib.hid kR
  have HB1 := Lib.hid hB1
  clear kD kR hb hB1
  go_wp2_with fail
  refine (clone26 _ l _ (by have := HN.out; omega) (HL.out.below (by have hb := HB1.out; have hz := hb.size; (repeat' (first | (with_reducible exact Below.refl _ _) | (with_reducible assumption) | (with_reducible refine Below.drew ?_) | (with_reducible refine Below.alloc ?_ ?_ _) | (with_reducible refine below_more ?_ ?_ _ _) | (with_reducible refine Below.setCell ?_ ?_ _) | (with_reducible refine Below.trans ?_ (Below.mono (by assumption) ?_)))) <;> first | omega | (simp; done) | (simp; omega) | (simp [more_size]; done) | (simp [more_size]; omega)))).mono ?_
  rintro r w2 ⟨v2, rfl, hown, hb⟩
  obtain ⟨a2, p2, rfl⟩ := (RdL.of_owns hown).shape (n := n) HN.out.symm
  have kO : w2.heap[w1.heap.size]? = some (.cells #[.int .i64 c, .slice a n p, .bool false] 26) := block_keep' hb (by (repeat' (first | (with_reducible assumption) | (with_reducible refine hm_new ?_; (first | rfl | (simp; done) | (simp [more_size]; done) | (simp [more_size]; omega))) | (with_reducible refine block_alloc ?_) | (with_reducible refine hm_more ?_) | (with_reducible refine hm_drew ?_))))
  have kD : w2.heap[w.heap.size]? = some (.cells #[.int .i64 c, .slice a n p, .bool false] 26) := block_keep' hb (block_alloc HD.out)
  have kR : w2.heap[w.heap.size + 1]? = some (.cells #[.int .i64 0, .slice none 0 0, .bool false] 26) := block_keep' hb (block_alloc HR.out)
  have hB2 : Below w.heap.size w w2 := by
    have hb1 := HB1.out
    have hz := hb1.size
    (repeat' (first | (with_reducible exact Below.refl _ _) | (with_reducible assumption) | (with_reducible refine Below.drew ?_) | (with_reducible refine Below.alloc ?_ ?_ _) | (with_reducible refine below_more ?_ ?_ _ _) | (with_reducible refine Below.setCell ?_ ?_ _) | (with_reducible refine Below.trans ?_ (Below.mono (by assumption) ?_)))) <;> first | omega | (simp; done) | (simp; omega) | (simp [more_size]; done) | (simp [more_size]; omega)
  have hz2 : w1.heap.size < w2.heap.size := block_lt kO
  have hz1 : w.heap.size ≤ w1.heap.size := by omega
  have cO := cell_block kO
  have fO := free_block kO
  have HD := Lib.hid kD
  have HR := Lib.hid kR
  have HO := Lib.hid kO
  have HB2 := Lib.hid hB2
  have hown' : w2.ownsRow w1.heap.size 32 6 (.slice a2 n p2) n (ltCells l) := by rw [HN.out] at hown ⊢; exact owns_base hown (by simp)
  have HOW := Lib.hid hown'
  have HBS := Lib.hid (hB2.setCell (p := ⟨w1.heap.size, 1, none⟩) hz1 (.slice a2 n p2))
  have kO2 : (w2.setCell ⟨w1.heap.size, 1, none⟩ (.slice a2 n p2)).heap[w1.heap.size]? = some (.cells #[.int .i64 c, .slice a2 n p2, .bool false] 26) := by simpa using blk_set (i := 1) (v := .slice a2 n p2) kO
  have HO2 := Lib.hid kO2
  have HOW2 := Lib.hid (owns_set (i := 1) (u := .slice a2 n p2) kO (by decide) hown')
  have HZ2 : Hid (w1.heap.size < (w2.setCell ⟨w1.heap.size, 1, none⟩ (.slice a2 n p2)).heap.size) := by show _ < _; rw [setCell_size]; exact hz2
  clear kD kR kO hb hB2 HB1 cD hown hown' kO2
  go_wp2_with fail
  refine (put28_ok _ Bl w1.heap.size c a2 au n p2 m pu (ltCells l) (ltCells l2) _ HO2.out ((HBS.out.cell (p := ⟨Bl, 0, none⟩) hBl).trans hcl) (Nat.lt_of_lt_of_le hBl HBS.out.size) h3 h2 hroom HOW2.out (RdF.below HUU.out HBS.out) (ltCells_one l2) (Nat.le_refl _) (Nat.le_of_lt HZ2.out)).mono ?_
  rintro r w3 ⟨rfl, a3, p3, kO3, hown3, hb3⟩
  have kR3 := block_keep hb3 (block_set HR.out (by show w.heap.size + 1 ≠ w1.heap.size; omega)) oR
  have hB3 : Below w.heap.size w w3 := HBS.out.trans (hb3.mono hz1)
  have cO3 := cell_block kO3
  have cR3 := cell_block kR3
  have fR3 := free_block kR3
  have HB3 := Lib.hid hB3
  have HO3 := Lib.hid (owns_set3 (u0 := .int .i64 c) (u1 := .slice a3 (n + m) p3) (u2 := .bool false) kR3 (by decide) hown3)
  clear kO3 kR3 hB3 hb3 hown3 HB2 HD HR HO cO fO
  go_wp2
  refine bodyPost_ret ?_ rfl ⟨a3, p3, rfl, ?_, ?_⟩
  · simp [results, Try.results27, go_sem, cR3, fR3]
  · rw [ltCells_app]; exact owns_base HO3.out hz1
  · have hb := HB3.out
    (repeat' (first | (with_reducible exact Below.refl _ _) | (with_reducible assumption) | (with_reducible refine Below.drew ?_) | (with_reducible refine Below.alloc ?_ ?_ _) | (with_reducible refine below_more ?_ ?_ _ _) | (with_reducible refine Below.setCell ?_ ?_ _) | (with_reducible refine Below.trans ?_ (Below.mono (by assumption) ?_)))) <;> first | omega | (simp; done) | (simp; omega) | (simp [more_size]; done) | (simp [more_size]; omega)

set_option maxHeartbeats 4000000 in
theorem does27_take_shut (c : Int) (a : Option Addr) (p : Nat)  (Bm : Nat) (w : World) (h1 : 0 ≤ c) (h2 : c ≤ 64) (h3 : ((0 : Nat) : Int) ≤ c) (hl : RdL w (.slice a 0 p) [])  :
    Calls Try.prog 27 #[.agg #[.int .i64 c, .slice a 0 p, .bool true], .func (.func 29) #[] #[.pointer (some ⟨Bm, 0, none⟩)]] w fun r w' => ∃ a' p', r = .returned (.tuple #[.agg #[.int .i64 c, .slice a' 0 p', .bool true], .int .i64 0]) ∧ RdL w' (.slice a' 0 p') [] ∧ Below w.heap.size w w' := by
  have hnl : 0 = ([] : List Lt).length := hl.len
  have HL := Lib.hid hl
  have HN := Lib.hid hnl
  clear hl hnl
  go_enter Try.func27, Try.ntmps27
  go_wp2_with fail
  refine (may13_yes _ c a 0 p true _ (by (repeat' (first | (with_reducible assumption) | (with_reducible refine hm_new ?_; (first | rfl | (simp; done) | (simp [more_size]; done) | (simp [more_size]; omega))) | (with_reducible refine block_alloc ?_) | (with_reducible refine hm_more ?_) | (with_reducible refine hm_drew ?_)))) h1 h2 h3).mono ?_
  rintro r w1 ⟨rfl, hb⟩
  have kD : w1.heap[w.heap.size]? = some (.cells #[.int .i64 c, .slice a 0 p, .bool true] 26) := block_keep' hb (by (repeat' (first | (with_reducible assumption) | (with_reducible refine hm_new ?_; (first | rfl | (simp; done) | (simp [more_size]; done) | (simp [more_size]; omega))) | (with_reducible refine block_alloc ?_) | (with_reducible refine hm_more ?_) | (with_reducible refine hm_drew ?_))))
  have kR : w1.heap[w.heap.size + 1]? = some (.cells #[.int .i64 0, .slice none 0 0, .bool false] 26) := block_keep' hb (by (repeat' (first | (with_reducible assumption) | (with_reducible refine hm_new ?_; (first | rfl | (simp; done) | (simp [more_size]; done) | (simp [more_size]; omega))) | (with_reducible refine block_alloc ?_) | (with_reducible refine hm_more ?_) | (with_reducible refine hm_drew ?_))))
  have hB1 : Below w.heap.size w w1 := by (repeat' (first | (with_reducible exact Below.refl _ _) | (with_reducible assumption) | (with_reducible refine Below.drew ?_) | (with_reducible refine Below.alloc ?_ ?_ _) | (with_reducible refine below_more ?_ ?_ _ _) | (with_reducible refine Below.setCell ?_ ?_ _) | (with_reducible refine Below.trans ?_ (Below.mono (by assumption) ?_)))) <;> first | omega | (simp; done) | (simp; omega) | (simp [more_size]; done) | (simp [more_size]; omega)
  have oR := block_lt kR
  have oD := block_lt kD
  have oD' : Old w1 w.heap.size := oD
  have cD := cell_block kD
  have HD := Lib.hid kD
  have HR := Lib.hid kR
  have HB1 := Lib.hid hB1
  clear kD kR hb hB1
  go_wp2_with fail
  refine (clone26 _ [] _ (by have := HN.out; omega) (HL.out.below (by have hb := HB1.out; have hz := hb.size; (repeat' (first | (with_reducible exact Below.refl _ _) | (with_reducible assumption) | (with_reducible refine Below.drew ?_) | (with_reducible refine Below.alloc ?_ ?_ _) | (with_reducible refine below_more ?_ ?_ _ _) | (with_reducible refine Below.setCell ?_ ?_ _) | (with_reducible refine Below.trans ?_ (Below.mono (by assumption) ?_)))) <;> first | omega | (simp; done) | (simp; omega) | (simp [more_size]; done) | (simp [more_size]; omega)))).mono ?_
  rintro r w2 ⟨v2, rfl, hown, hb⟩
  obtain ⟨a2, p2, rfl⟩ := (RdL.of_owns hown).shape (n := 0) HN.out.symm
  have kO : w2.heap[w1.heap.size]? = some (.cells #[.int .i64 c, .slice a 0 p, .bool true] 26) := block_keep' hb (by (repeat' (first | (with_reducible assumption) | (with_reducible refine hm_new ?_; (first | rfl | (simp; done) | (simp [more_size]; done) | (simp [more_size]; omega))) | (with_reducible refine block_alloc ?_) | (with_reducible refine hm_more ?_) | (with_reducible refine hm_drew ?_))))
  have kD : w2.heap[w.heap.size]? = some (.cells #[.int .i64 c, .slice a 0 p, .bool true] 26) := block_keep' hb (block_alloc HD.out)
  have kR : w2.heap[w.heap.size + 1]? = some (.cells #[.int .i64 0, .slice none 0 0, .bool false] 26) := block_keep' hb (block_alloc HR.out)
  have hB2 : Below w.heap.size w w2 := by
    have hb1 := HB1.out
    have hz := hb1.size
    (repeat' (first | (with_reducible exact Below.refl _ _) | (with_reducible assumption) | (with_reducible refine Below.drew ?_) | (with_reducible refine Below.alloc ?_ ?_ _) | (with_reducible refine below_more ?_ ?_ _ _) | (with_reducible refine Below.setCell ?_ ?_ _) | (with_reducible refine Below.trans ?_ (Below.mono (by assumption) ?_)))) <;> first | omega | (simp; done) | (simp; omega) | (simp [more_size]; done) | (simp [more_size]; omega)
  have hz2 : w1.heap.size < w2.heap.size := block_lt kO
  have hz1 : w.heap.size ≤ w1.heap.size := by omega
  have cO := cell_block kO
  have fO := free_block kO
  have HD := Lib.hid kD
  have HR := Lib.hid kR
  have HO := Lib.hid kO
  have HB2 := Lib.hid hB2
  have hown' : w2.ownsRow w1.heap.size 32 6 (.slice a2 0 p2) 0 (ltCells []) := by rw [HN.out] at hown ⊢; exact owns_base hown (by simp)
  have HOW := Lib.hid hown'
  have HBS := Lib.hid (hB2.setCell (p := ⟨w1.heap.size, 1, none⟩) hz1 (.slice a2 0 p2))
  have kO2 : (w2.setCell ⟨w1.heap.size, 1, none⟩ (.slice a2 0 p2)).heap[w1.heap.size]? = some (.cells #[.int .i64 c, .slice a2 0 p2, .bool true] 26) := by simpa using blk_set (i := 1) (v := .slice a2 0 p2) kO
  have HO2 := Lib.hid kO2
  have HOW2 := Lib.hid (owns_set (i := 1) (u := .slice a2 0 p2) kO (by decide) hown')
  have HZ2 : Hid (w1.heap.size < (w2.setCell ⟨w1.heap.size, 1, none⟩ (.slice a2 0 p2)).heap.size) := by show _ < _; rw [setCell_size]; exact hz2
  clear kD kR kO hb hB2 HB1 cD hown hown' kO2
  go_wp2_with fail
  refine (take29_shut _ Bm c a2 p2 _ HO2.out).mono ?_
  rintro r w3 ⟨rfl, hb⟩
  have kO3 := block_keep' hb HO2.out
  have kR3 := block_keep' hb (block_set HR.out (by show w.heap.size + 1 ≠ w1.heap.size; omega))
  have hB3 : Below w.heap.size w w3 := HBS.out.trans (hb.mono HBS.out.size)
  have cO3 := cell_block kO3
  have cR3 := cell_block kR3
  have fR3 := free_block kR3
  have HB3 := Lib.hid hB3
  clear kO3 kR3 hB3 hb HB2 HD HR HO cO fO
  go_wp2
  refine bodyPost_ret ?_ rfl ⟨a2, p2, rfl, ?_, ?_⟩
  · simp [results, Try.results27, go_sem, cR3, fR3]
  · exact RdF.any0 (RdF.of_owns HOW2.out)
  · have hb := HB3.out
    (repeat' (first | (with_reducible exact Below.refl _ _) | (with_reducible assumption) | (with_reducible refine Below.drew ?_) | (with_reducible refine Below.alloc ?_ ?_ _) | (with_reducible refine below_more ?_ ?_ _ _) | (with_reducible refine Below.setCell ?_ ?_ _) | (with_reducible refine Below.trans ?_ (Below.mono (by assumption) ?_)))) <;> first | omega | (simp; done) | (simp; omega) | (simp [more_size]; done) | (simp [more_size]; omega)

set_option maxHeartbeats 4000000 in
theorem does27_close_open (c : Int) (a : Option Addr) (n : Nat) (p : Nat) (l : List Lt)  (w : World) (h1 : 0 ≤ c) (h2 : c ≤ 64) (h3 : ((n : Nat) : Int) ≤ c) (hl : RdL w (.slice a n p) l)  :
    Calls Try.prog 27 #[.agg #[.int .i64 c, .slice a n p, .bool false], .func (.func 30) #[] #[]] w fun r w' => ∃ a' p', r = .returned (.tuple #[.agg #[.int .i64 c, .slice a' n p', .bool true], .int .i64 0]) ∧ w'.ownsRow w.heap.size 32 6 (.slice a' n p') n (ltCells l) ∧ Below w.heap.size w w' := by
  have hnl : n = (l : List Lt).length := hl.len
  have HL := Lib.hid hl
  have HN := Lib.hid hnl
  clear hl hnl
  go_enter Try.func27, Try.ntmps27
  go_wp2_with fail
  refine (may13_yes _ c a n p false _ (by (repeat' (first | (with_reducible assumption) | (with_reducible refine hm_new ?_; (first | rfl | (simp; done) | (simp [more_size]; done) | (simp [more_size]; omega))) | (with_reducible refine block_alloc ?_) | (with_reducible refine hm_more ?_) | (with_reducible refine hm_drew ?_)))) h1 h2 h3).mono ?_
  rintro r w1 ⟨rfl, hb⟩
  have kD : w1.heap[w.heap.size]? = some (.cells #[.int .i64 c, .slice a n p, .bool false] 26) := block_keep' hb (by (repeat' (first | (with_reducible assumption) | (with_reducible refine hm_new ?_; (first | rfl | (simp; done) | (simp [more_size]; done) | (simp [more_size]; omega))) | (with_reducible refine block_alloc ?_) | (with_reducible refine hm_more ?_) | (with_reducible refine hm_drew ?_))))
  have kR : w1.heap[w.heap.size + 1]? = some (.cells #[.int .i64 0, .slice none 0 0, .bool false] 26) := block_keep' hb (by (repeat' (first | (with_reducible assumption) | (with_reducible refine hm_new ?_; (first | rfl | (simp; done) | (simp [more_size]; done) | (simp [more_size]; omega))) | (with_reducible refine block_alloc ?_) | (with_reducible refine hm_more ?_) | (with_reducible refine hm_drew ?_))))
  have hB1 : Below w.heap.size w w1 := by (repeat' (first | (with_reducible exact Below.refl _ _) | (with_reducible assumption) | (with_reducible refine Below.drew ?_) | (with_reducible refine Below.alloc ?_ ?_ _) | (with_reducible refine below_more ?_ ?_ _ _) | (with_reducible refine Below.setCell ?_ ?_ _) | (with_reducible refine Below.trans ?_ (Below.mono (by assumption) ?_)))) <;> first | omega | (simp; done) | (simp; omega) | (simp [more_size]; done) | (simp [more_size]; omega)
  have oR := block_lt kR
  have oD := block_lt kD
  have oD' : Old w1 w.heap.size := oD
  have cD := cell_block kD
  have HD := Lib.hid kD
  have HR := Lib.hid kR
  have HB1 := Lib.hid hB1
  clear kD kR hb hB1
  go_wp2_with fail
  refine (clone26 _ l _ (by have := HN.out; omega) (HL.out.below (by have hb := HB1.out; have hz := hb.size; (repeat' (first | (with_reducible exact Below.refl _ _) | (with_reducible assumption) | (with_reducible refine Below.drew ?_) | (with_reducible refine Below.alloc ?_ ?_ _) | (with_reducible refine below_more ?_ ?_ _ _) | (with_reducible refine Below.setCell ?_ ?_ _) | (with_reducible refine Below.trans ?_ (Below.mono (by assumption) ?_)))) <;> first | omega | (simp; done) | (simp; omega) | (simp [more_size]; done) | (simp [more_size]; omega)))).mono ?_
  rintro r w2 ⟨v2, rfl, hown, hb⟩
  obtain ⟨a2, p2, rfl⟩ := (RdL.of_owns hown).shape (n := n) HN.out.symm
  have kO : w2.heap[w1.heap.size]? = some (.cells #[.int .i64 c, .slice a n p, .bool false] 26) := block_keep' hb (by (repeat' (first | (with_reducible assumption) | (with_reducible refine hm_new ?_; (first | rfl | (simp; done) | (simp [more_size]; done) | (simp [more_size]; omega))) | (with_reducible refine block_alloc ?_) | (with_reducible refine hm_more ?_) | (with_reducible refine hm_drew ?_))))
  have kD : w2.heap[w.heap.size]? = some (.cells #[.int .i64 c, .slice a n p, .bool false] 26) := block_keep' hb (block_alloc HD.out)
  have kR : w2.heap[w.heap.size + 1]? = some (.cells #[.int .i64 0, .slice none 0 0, .bool false] 26) := block_keep' hb (block_alloc HR.out)
  have hB2 : Below w.heap.size w w2 := by
    have hb1 := HB1.out
    have hz := hb1.size
    (repeat' (first | (with_reducible exact Below.refl _ _) | (with_reducible assumption) | (with_reducible refine Below.drew ?_) | (with_reducible refine Below.alloc ?_ ?_ _) | (with_reducible refine below_more ?_ ?_ _ _) | (with_reducible refine Below.setCell ?_ ?_ _) | (with_reducible refine Below.trans ?_ (Below.mono (by assumption) ?_)))) <;> first | omega | (simp; done) | (simp; omega) | (simp [more_size]; done) | (simp [more_size]; omega)
  have hz2 : w1.heap.size < w2.heap.size := block_lt kO
  have hz1 : w.heap.size ≤ w1.heap.size := by omega
  have cO := cell_block kO
  have fO := free_block kO
  have HD := Lib.hid kD
  have HR := Lib.hid kR
  have HO := Lib.hid kO
  have HB2 := Lib.hid hB2
  have hown' : w2.ownsRow w1.heap.size 32 6 (.slice a2 n p2) n (ltCells l) := by rw [HN.out] at hown ⊢; exact owns_base hown (by simp)
  have HOW := Lib.hid hown'
  have HBS := Lib.hid (hB2.setCell (p := ⟨w1.heap.size, 1, none⟩) hz1 (.slice a2 n p2))
  have kO2 : (w2.setCell ⟨w1.heap.size, 1, none⟩ (.slice a2 n p2)).heap[w1.heap.size]? = some (.cells #[.int .i64 c, .slice a2 n p2, .bool false] 26) := by simpa using blk_set (i := 1) (v := .slice a2 n p2) kO
  have HO2 := Lib.hid kO2
  have HOW2 := Lib.hid (owns_set (i := 1) (u := .slice a2 n p2) kO (by decide) hown')
  have HZ2 : Hid (w1.heap.size < (w2.setCell ⟨w1.heap.size, 1, none⟩ (.slice a2 n p2)).heap.size) := by show _ < _; rw [setCell_size]; exact hz2
  clear kD kR kO hb hB2 HB1 cD hown hown' kO2
  go_wp2_with fail
  refine (close30_open _ c a2 n p2 _ HO2.out).mono ?_
  rintro r w3 ⟨rfl, rfl⟩
  have kO3 : ((w2.setCell ⟨w1.heap.size, 1, none⟩ (.slice a2 n p2)).setCell ⟨w1.heap.size, 2, none⟩ (.bool true)).heap[w1.heap.size]? = some (.cells #[.int .i64 c, .slice a2 n p2, .bool true] 26) := by simpa using blk_set (i := 2) (v := .bool true) HO2.out
  have kR3 : ((w2.setCell ⟨w1.heap.size, 1, none⟩ (.slice a2 n p2)).setCell ⟨w1.heap.size, 2, none⟩ (.bool true)).heap[w.heap.size + 1]? = some (.cells #[.int .i64 0, .slice none 0 0, .bool false] 26) := block_set (block_set HR.out (by show w.heap.size + 1 ≠ w1.heap.size; omega)) (by show w.heap.size + 1 ≠ w1.heap.size; omega)
  have hown3 := owns_set (i := 2) (u := .bool true) HO2.out (by decide) HOW2.out
  have hB3 : Below w.heap.size w ((w2.setCell ⟨w1.heap.size, 1, none⟩ (.slice a2 n p2)).setCell ⟨w1.heap.size, 2, none⟩ (.bool true)) := HBS.out.setCell (by exact hz1) _
  generalize ((w2.setCell ⟨w1.heap.size, 1, none⟩ (.slice a2 n p2)).setCell ⟨w1.heap.size, 2, none⟩ (.bool true)) = w3 at *
  have cO3 := cell_block kO3
  have cR3 := cell_block kR3
  have fR3 := free_block kR3
  have HB3 := Lib.hid hB3
  have HO3 := Lib.hid (owns_set3 (u0 := .int .i64 c) (u1 := .slice a2 n p2) (u2 := .bool true) kR3 (by decide) hown3)
  clear kO3 kR3 hB3 hown3 HB2 HD HR HO cO fO
  go_wp2
  refine bodyPost_ret ?_ rfl ⟨a2, p2, rfl, ?_, ?_⟩
  · simp [results, Try.results27, go_sem, cR3, fR3]
  · exact owns_base HO3.out hz1
  · have hb := HB3.out
    (repeat' (first | (with_reducible exact Below.refl _ _) | (with_reducible assumption) | (with_reducible refine Below.drew ?_) | (with_reducible refine Below.alloc ?_ ?_ _) | (with_reducible refine below_more ?_ ?_ _ _) | (with_reducible refine Below.setCell ?_ ?_ _) | (with_reducible refine Below.trans ?_ (Below.mono (by assumption) ?_)))) <;> first | omega | (simp; done) | (simp; omega) | (simp [more_size]; done) | (simp [more_size]; omega)

set_option maxHeartbeats 4000000 in
theorem does27_take_some (c : Int) (a : Option Addr) (n : Nat) (p : Nat) (l : List Lt) (b : Bool) (Bm : Nat) (x : Lt) (w : World) (h1 : 0 ≤ c) (h2 : c ≤ 64) (h3 : ((n : Nat) : Int) ≤ c) (hl : RdL w (.slice a n p) (x :: l)) (hBm : w.heap[Bm]? = some (.cells #[.int .i8 0, .int .i64 0, .int .i64 0, .int .i64 0, .string ⟨#[]⟩, .int .i64 0] 32)) :
    Calls Try.prog 27 #[.agg #[.int .i64 c, .slice a n p, .bool b], .func (.func 29) #[] #[.pointer (some ⟨Bm, 0, none⟩)]] w fun r w' => ∃ a2 p2, r = .returned (.tuple #[.agg #[.int .i64 c, .slice (cutA a2 1 p2 6) (n - 1) (p2 - 1), .bool b], .int .i64 0]) ∧ w'.ownsRow w.heap.size 32 6 (.slice a2 n p2) n (ltCells (x :: l)) ∧ w'.heap[Bm]? = some (.cells #[.int .i8 x.k, .int .i64 x.f, .int .i64 x.n, .int .i64 x.s, .string x.t, .int .i64 x.e] 32) ∧ w.grownBy w' (some Bm) := by
  have hnl : n = ((x :: l) : List Lt).length := hl.len
  have HL := Lib.hid hl
  have HN := Lib.hid hnl
  clear hl hnl
  go_enter Try.func27, Try.ntmps27
  go_wp2_with fail
  refine (may13_yes _ c a n p b _ (by (repeat' (first | (with_reducible assumption) | (with_reducible refine hm_new ?_; (first | rfl | (simp; done) | (simp [more_size]; done) | (simp [more_size]; omega))) | (with_reducible refine block_alloc ?_) | (with_reducible refine hm_more ?_) | (with_reducible refine hm_drew ?_)))) h1 h2 h3).mono ?_
  rintro r w1 ⟨rfl, hb⟩
  have kD : w1.heap[w.heap.size]? = some (.cells #[.int .i64 c, .slice a n p, .bool b] 26) := block_keep' hb (by (repeat' (first | (with_reducible assumption) | (with_reducible refine hm_new ?_; (first | rfl | (simp; done) | (simp [more_size]; done) | (simp [more_size]; omega))) | (with_reducible refine block_alloc ?_) | (with_reducible refine hm_more ?_) | (with_reducible refine hm_drew ?_))))
  have kR : w1.heap[w.heap.size + 1]? = some (.cells #[.int .i64 0, .slice none 0 0, .bool false] 26) := block_keep' hb (by (repeat' (first | (with_reducible assumption) | (with_reducible refine hm_new ?_; (first | rfl | (simp; done) | (simp [more_size]; done) | (simp [more_size]; omega))) | (with_reducible refine block_alloc ?_) | (with_reducible refine hm_more ?_) | (with_reducible refine hm_drew ?_))))
  have hB1 : Below w.heap.size w w1 := by (repeat' (first | (with_reducible exact Below.refl _ _) | (with_reducible assumption) | (with_reducible refine Below.drew ?_) | (with_reducible refine Below.alloc ?_ ?_ _) | (with_reducible refine below_more ?_ ?_ _ _) | (with_reducible refine Below.setCell ?_ ?_ _) | (with_reducible refine Below.trans ?_ (Below.mono (by assumption) ?_)))) <;> first | omega | (simp; done) | (simp; omega) | (simp [more_size]; done) | (simp [more_size]; omega)
  have oR := block_lt kR
  have oD := block_lt kD
  have oD' : Old w1 w.heap.size := oD
  have cD := cell_block kD
  have HD := Lib.hid kD
  have HR := Lib.hid kR
  have HB1 := Lib.hid hB1
  clear kD kR hb hB1
  go_wp2_with fail
  refine (clone26 _ (x :: l) _ (by have := HN.out; omega) (HL.out.below (by have hb := HB1.out; have hz := hb.size; (repeat' (first | (with_reducible exact Below.refl _ _) | (with_reducible assumption) | (with_reducible refine Below.drew ?_) | (with_reducible refine Below.alloc ?_ ?_ _) | (with_reducible refine below_more ?_ ?_ _ _) | (with_reducible refine Below.setCell ?_ ?_ _) | (with_reducible refine Below.trans ?_ (Below.mono (by assumption) ?_)))) <;> first | omega | (simp; done) | (simp; omega) | (simp [more_size]; done) | (simp [more_size]; omega)))).mono ?_
  rintro r w2 ⟨v2, rfl, hown, hb⟩
  obtain ⟨a2, p2, rfl⟩ := (RdL.of_owns hown).shape (n := n) HN.out.symm
  have kO : w2.heap[w1.heap.size]? = some (.cells #[.int .i64 c, .slice a n p, .bool b] 26) := block_keep' hb (by (repeat' (first | (with_reducible assumption) | (with_reducible refine hm_new ?_; (first | rfl | (simp; done) | (simp [more_size]; done) | (simp [more_size]; omega))) | (with_reducible refine block_alloc ?_) | (with_reducible refine hm_more ?_) | (with_reducible refine hm_drew ?_))))
  have kD : w2.heap[w.heap.size]? = some (.cells #[.int .i64 c, .slice a n p, .bool b] 26) := block_keep' hb (block_alloc HD.out)
  have kR : w2.heap[w.heap.size + 1]? = some (.cells #[.int .i64 0, .slice none 0 0, .bool false] 26) := block_keep' hb (block_alloc HR.out)
  have hB2 : Below w.heap.size w w2 := by
    have hb1 := HB1.out
    have hz := hb1.size
    (repeat' (first | (with_reducible exact Below.refl _ _) | (with_reducible assumption) | (with_reducible refine Below.drew ?_) | (with_reducible refine Below.alloc ?_ ?_ _) | (with_reducible refine below_more ?_ ?_ _ _) | (with_reducible refine Below.setCell ?_ ?_ _) | (with_reducible refine Below.trans ?_ (Below.mono (by assumption) ?_)))) <;> first | omega | (simp; done) | (simp; omega) | (simp [more_size]; done) | (simp [more_size]; omega)
  have hz2 : w1.heap.size < w2.heap.size := block_lt kO
  have hz1 : w.heap.size ≤ w1.heap.size := by omega
  have cO := cell_block kO
  have fO := free_block kO
  have HD := Lib.hid kD
  have HR := Lib.hid kR
  have HO := Lib.hid kO
  have HB2 := Lib.hid hB2
  have hown' : w2.ownsRow w1.heap.size 32 6 (.slice a2 n p2) n (ltCells (x :: l)) := by rw [HN.out] at hown ⊢; exact owns_base hown (by simp)
  have HOW := Lib.hid hown'
  have HBS := Lib.hid (hB2.setCell (p := ⟨w1.heap.size, 1, none⟩) hz1 (.slice a2 n p2))
  have kO2 : (w2.setCell ⟨w1.heap.size, 1, none⟩ (.slice a2 n p2)).heap[w1.heap.size]? = some (.cells #[.int .i64 c, .slice a2 n p2, .bool b] 26) := by simpa using blk_set (i := 1) (v := .slice a2 n p2) kO
  have HO2 := Lib.hid kO2
  have HOW2 := Lib.hid (owns_set (i := 1) (u := .slice a2 n p2) kO (by decide) hown')
  have HZ2 : Hid (w1.heap.size < (w2.setCell ⟨w1.heap.size, 1, none⟩ (.slice a2 n p2)).heap.size) := by show _ < _; rw [setCell_size]; exact hz2
  clear kD kR kO hb hB2 HB1 cD hown hown' kO2
  go_wp2_with fail
  have hBlt := block_lt hBm
  have hneq : Bm ≠ w1.heap.size := by omega
  have hn1 : n = l.length + 1 := HN.out
  have HN1 := Lib.hid hn1
  clear hn1
  refine (take29_some _ Bm c a2 n p2 b l x #[] _ HO2.out (block_keep HBS.out hBm hBlt) hneq HN1.out (rdL_mk (RdF.of_owns HOW2.out) HN.out.symm rfl)).mono ?_
  rintro r w3 ⟨rfl, w4, hb4, rfl⟩
  have kO4 := block_keep' hb4 HO2.out
  have kM4 := block_keep' hb4 (block_keep HBS.out hBm hBlt)
  have kR4 := block_keep' hb4 (block_set HR.out (by show w.heap.size + 1 ≠ w1.heap.size; omega))
  have hOW4 := owns_below HOW2.out hb4
  have hneR : w.heap.size + 1 ≠ Bm := by omega
  have hneR' : w.heap.size + 1 ≠ w1.heap.size := by omega
  have hB4 : Below w.heap.size w w4 := HBS.out.trans (hb4.mono HBS.out.size)
  obtain ⟨U, eU, kO, kM, kX, sU, oU, tU, pU, rU⟩ := taken kO4 kM4 hneq (.int .i8 x.k) (.int .i64 x.f) (.int .i64 x.n) (.int .i64 x.s) (.string x.t) (.int .i64 x.e) (.slice (cutA a2 1 p2 6) (n - 1) (p2 - 1))
  rw [eU]
  clear eU
  have kR := (kX _ hneR' hneR).trans kR4
  have hown := rU _ _ _ _ (by omega) hOW4
  have hg : w.grownBy U (some Bm) := ⟨oU.trans hB4.os, tU.trans hB4.tape, pU.trans hB4.output, by rw [sU]; exact hB4.size, fun i hi hne => (kX i (by omega) (fun e => hne (by rw [e]))).trans (hB4.block i hi)⟩
  have kR3 : U.drew.heap[w.heap.size + 1]? = some (.cells #[.int .i64 0, .slice none 0 0, .bool false] 26) := kR
  have kO3 : U.drew.heap[w1.heap.size]? = some (.cells #[.int .i64 c, .slice (cutA a2 1 p2 6) (n - 1) (p2 - 1), .bool b] 26) := kO
  have kM3 : U.drew.heap[Bm]? = some (.cells #[.int .i8 x.k, .int .i64 x.f, .int .i64 x.n, .int .i64 x.s, .string x.t, .int .i64 x.e] 32) := kM
  have hown3 := hown.drew
  have hg3 : w.grownBy U.drew (some Bm) := ⟨hg.os, hg.tape, hg.output, hg.size, hg.block⟩
  clear kR kO kM hown hg
  generalize U.drew = w3 at *
  have cO3 := cell_block kO3
  have cR3 := cell_block kR3
  have fR3 := free_block kR3
  have HM3 := Lib.hid kM3
  have HG3 := Lib.hid hg3
  have HO3 := Lib.hid (owns_set3 (u0 := .int .i64 c) (u1 := .slice (cutA a2 1 p2 6) (n - 1) (p2 - 1)) (u2 := .bool b) kR3 (by decide) hown3)
  clear kO3 kM3 kR3 hg3 hown3 HB2 HD HR HO cO fO kO4 kM4 kR4 hOW4 hb4 hBm hB4 kX sU oU tU pU rU
  go_wp2
  refine bodyPost_ret ?_ rfl ⟨a2, p2, rfl, ?_, ?_, ?_⟩
  · simp [results, Try.results27, go_sem, cR3, fR3]
  · exact owns_base HO3.out hz1
  · exact block_set (block_set (block_set HM3.out (Ne.symm hneR)) (Ne.symm hneR)) (Ne.symm hneR)
  · have hg := HG3.out
    have step : ∀ (W : World) (i : Nat) (v : Value), w.grownBy W (some Bm) → w.grownBy (W.setCell ⟨w.heap.size + 1, i, none⟩ v) (some Bm) := fun W i v h => ⟨h.os, h.tape, h.output, by rw [setCell_size]; exact h.size, fun j hj hne => (Below.heap_setCell _ _ _ j (by show j ≠ w.heap.size + 1; omega)).trans (h.block j hj hne)⟩
    exact step _ _ _ (step _ _ _ (step _ _ _ hg))
end Go.Proofs.Ytkffmjcipnlbhaa
