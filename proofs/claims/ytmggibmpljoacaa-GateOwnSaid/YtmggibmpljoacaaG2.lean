
/- Walks of the seat of chapter 06: New, Gate, Enter, Leave, Cut. -/
import Derived.Test.YtmggibmpljoacaaG1
namespace Go.Proofs.Ytmggibmpljoacaa
open Go.RowKit
attribute [local go_sem ↓] Go.wp_at_zero Go.wp_at_succ
attribute [local go_sem] more_size cell_more_old frozen_more_old setCell_more_old more_drew drew_more old_alloc old_more old_drew old_setCell cell_alloc_old frozen_alloc_old setCell_alloc_old
attribute [local go_sem ↓] load25 store25
attribute [local go_sem] run25 runs25 blk_drew has_drew blk_drewN has_drewN old_drewN blk_alloc_old has_alloc_old blk_alloc_new has_alloc_new setBlk_size setBlk_drew old_setBlk cell_setBlk' cell_setBlk_ne frozen_setBlk blk_setBlk' blk_setBlk_ne has_setBlk' has_setBlk_ne setBlk_alloc_old setBlk_new

def zLt : Lt := ⟨0, 0, 0, 0, 0, ⟨#[]⟩⟩
/-- A duct and an error; its letters lie in new memory. -/
def DuctR (c : Int) (n : Nat) (b : Bool) (l : List Lt) (e : Int) (w : World) (r : Ending) (w' : World) : Prop :=
  ∃ a p, r = .returned (.tuple #[.agg #[.int .i64 c, .slice a n p, .bool b], .int .i64 e]) ∧ w'.ownsRow w.heap.size 38 6 (.slice a n p) n (ltCells l) ∧ Below w.heap.size w w'
/-- No duct, an error. -/
def NoR (e : Int) (w : World) (r : Ending) (w' : World) : Prop := r = .returned (.tuple #[.agg #[.int .i64 0, .slice none 0 0, .bool false], .int .i64 e]) ∧ Below w.heap.size w w'

set_option maxHeartbeats 2000000 in
theorem new16 (c : Int) (w : World) (h1 : 1 ≤ c) (h2 : c ≤ 64) : Calls Try.prog 16 #[.int .i64 c, .slice none 0 0] w (DuctR c 0 false [] 0 w) := by
  go_enter Try.func16, Try.ntmps16
  go_wp2_with fail
  refine (clone24 _ [] _ (by decide) (RdL.nil _)).mono ?_
  rintro r w1 ⟨v2, rfl, hown, hb⟩
  obtain ⟨a2, p2, rfl⟩ := (RdL.of_owns hown).shape (n := 0) rfl
  have kR : w1.heap[w.heap.size]? = some (.cells #[.int .i64 0, .slice none 0 0, .bool false] 25) := block_keep' hb (by (repeat' (first | (with_reducible assumption) | (with_reducible refine hm_new ?_; (first | rfl | (simp; done) | (simp [more_size]; done) | (simp [more_size]; omega))) | (with_reducible refine block_alloc ?_) | (with_reducible refine hm_more ?_) | (with_reducible refine hm_drew ?_))))
  have hB : Below w.heap.size w w1 := by (repeat' (first | (with_reducible exact Below.refl _ _) | (with_reducible assumption) | (with_reducible refine Below.drew ?_) | (with_reducible refine Below.alloc ?_ ?_ _) | (with_reducible refine below_more ?_ ?_ _ _) | (with_reducible refine Below.setCell ?_ ?_ _) | (with_reducible refine Below.trans ?_ (Below.mono (by assumption) ?_)))) <;> first | omega | (simp; done) | (simp; omega) | (simp [more_size]; done) | (simp [more_size]; omega)
  have HO := Lib.hid (owns_base hown (show w.heap.size + 1 ≤ _ by simp))
  have KR := Lib.hid kR
  have HB := Lib.hid hB
  have oR := block_lt kR
  have qR : Old w1 w.heap.size := oR
  clear kR hb hB hown
  go_wp2_with fail
  refine (may25_yes _ c a2 0 p2 false _ (by (repeat' (first | (with_reducible assumption) | (with_reducible refine hm_new ?_; (first | rfl | (simp; done) | (simp [more_size]; done) | (simp [more_size]; omega))) | (with_reducible refine block_alloc ?_) | (with_reducible refine hm_more ?_) | (with_reducible refine hm_drew ?_)))) (by omega) h2 (by omega)).mono ?_
  rintro r w2 ⟨rfl, hb⟩
  have kD : w2.heap[w1.heap.size]? = some (.cells #[.int .i64 c, .slice a2 0 p2, .bool false] 25) := block_keep' hb (by (repeat' (first | (with_reducible assumption) | (with_reducible refine hm_new ?_; (first | rfl | (simp; done) | (simp [more_size]; done) | (simp [more_size]; omega))) | (with_reducible refine block_alloc ?_) | (with_reducible refine hm_more ?_) | (with_reducible refine hm_drew ?_))))
  have hb2 : Below w1.heap.size w1 w2 := by (repeat' (first | (with_reducible exact Below.refl _ _) | (with_reducible assumption) | (with_reducible refine Below.drew ?_) | (with_reducible refine Below.alloc ?_ ?_ _) | (with_reducible refine below_more ?_ ?_ _ _) | (with_reducible refine Below.setCell ?_ ?_ _) | (with_reducible refine Below.trans ?_ (Below.mono (by assumption) ?_)))) <;> first | omega | (simp; done) | (simp; omega) | (simp [more_size]; done) | (simp [more_size]; omega)
  have kR2 := block_keep' hb2 KR.out
  have lD := blk_of kD
  have mD : Has w2 w1.heap.size 3 := has_of kD
  have mR : Has w2 w.heap.size 3 := has_of kR2
  have HO2 := Lib.hid (owns_base (owns_setBlk (owns_below HO.out hb2) (Nat.lt_succ_self _) #[.int .i64 c, .slice a2 0 p2, .bool false]) (Nat.le_succ w.heap.size))
  have cU : ∀ o, (setBlk w2 w.heap.size #[.int .i64 c, .slice a2 0 p2, .bool false]).cell? ⟨w.heap.size, o, none⟩ = (#[.int .i64 c, .slice a2 0 p2, .bool false] : Array Value)[o]? := fun o => cell_setBlk _ _ _ 3 _ mR rfl
  have HB2 := Lib.hid (Below.setBlk (HB.out.trans (hb2.mono HB.out.size)) (Nat.le_refl _) #[.int .i64 c, .slice a2 0 p2, .bool false])
  clear kD kR2 hb hb2 HO HB KR
  go_wp2_with fail
  refine bodyPost_ret (v := .tuple #[.agg #[.int .i64 c, .slice a2 0 p2, .bool false], .int .i64 0]) ?_ rfl ⟨a2, p2, rfl, HO2.out, HB2.out⟩
  simp [results, Try.results16, go_sem, cU]
set_option maxHeartbeats 2000000 in
theorem new16_no (c : Int) (w : World) (h1 : 64 < c) : Calls Try.prog 16 #[.int .i64 c, .slice none 0 0] w (NoR 2 w) := by
  go_enter Try.func16, Try.ntmps16
  go_wp2_with fail
  refine (clone24 _ [] _ (by decide) (RdL.nil _)).mono ?_
  rintro r w1 ⟨v2, rfl, hown, hb⟩
  obtain ⟨a2, p2, rfl⟩ := (RdL.of_owns hown).shape (n := 0) rfl
  have kR : w1.heap[w.heap.size]? = some (.cells #[.int .i64 0, .slice none 0 0, .bool false] 25) := block_keep' hb (by (repeat' (first | (with_reducible assumption) | (with_reducible refine hm_new ?_; (first | rfl | (simp; done) | (simp [more_size]; done) | (simp [more_size]; omega))) | (with_reducible refine block_alloc ?_) | (with_reducible refine hm_more ?_) | (with_reducible refine hm_drew ?_))))
  have hB : Below w.heap.size w w1 := by (repeat' (first | (with_reducible exact Below.refl _ _) | (with_reducible assumption) | (with_reducible refine Below.drew ?_) | (with_reducible refine Below.alloc ?_ ?_ _) | (with_reducible refine below_more ?_ ?_ _ _) | (with_reducible refine Below.setCell ?_ ?_ _) | (with_reducible refine Below.trans ?_ (Below.mono (by assumption) ?_)))) <;> first | omega | (simp; done) | (simp; omega) | (simp [more_size]; done) | (simp [more_size]; omega)
  have KR := Lib.hid kR
  have HB := Lib.hid hB
  have oR := block_lt kR
  have qR : Old w1 w.heap.size := oR
  clear kR hb hB hown
  go_wp2_with fail
  refine (may25_no _ c a2 0 p2 false _ (by (repeat' (first | (with_reducible assumption) | (with_reducible refine hm_new ?_; (first | rfl | (simp; done) | (simp [more_size]; done) | (simp [more_size]; omega))) | (with_reducible refine block_alloc ?_) | (with_reducible refine hm_more ?_) | (with_reducible refine hm_drew ?_)))) (by omega)).mono ?_
  rintro r w2 ⟨rfl, hb⟩
  have hb2 : Below w1.heap.size w1 w2 := by (repeat' (first | (with_reducible exact Below.refl _ _) | (with_reducible assumption) | (with_reducible refine Below.drew ?_) | (with_reducible refine Below.alloc ?_ ?_ _) | (with_reducible refine below_more ?_ ?_ _ _) | (with_reducible refine Below.setCell ?_ ?_ _) | (with_reducible refine Below.trans ?_ (Below.mono (by assumption) ?_)))) <;> first | omega | (simp; done) | (simp; omega) | (simp [more_size]; done) | (simp [more_size]; omega)
  have kR2 := block_keep' hb2 KR.out
  have mR : Has w2 w.heap.size 3 := has_of kR2
  have cU : ∀ o, (setBlk w2 w.heap.size #[.int .i64 0, .slice none 0 0, .bool false]).cell? ⟨w.heap.size, o, none⟩ = (#[.int .i64 0, .slice none 0 0, .bool false] : Array Value)[o]? := fun o => cell_setBlk _ _ _ 3 _ mR rfl
  have HB2 := Lib.hid (Below.setBlk (HB.out.trans (hb2.mono HB.out.size)) (Nat.le_refl _) #[.int .i64 0, .slice none 0 0, .bool false])
  clear kR2 hb hb2 HB KR
  go_wp2_with fail
  refine bodyPost_ret (v := .tuple #[.agg #[.int .i64 0, .slice none 0 0, .bool false], .int .i64 2]) ?_ rfl ⟨rfl, HB2.out⟩
  simp [results, Try.results16, go_sem, cU]
theorem gate6_low (c : Int) (w : World) (h1 : c < 1) : Calls Try.prog 6 #[.int .i64 c] w (NoR 2 w) := by
  go_enter Try.func6, Try.ntmps6
  go_wp2_with fail
  refine bodyPost_ret (v := .tuple #[.agg #[.int .i64 0, .slice none 0 0, .bool false], .int .i64 2]) ?_ rfl ⟨rfl, by (repeat' (first | (with_reducible exact Below.refl _ _) | (with_reducible assumption) | (with_reducible refine Below.drew ?_) | (with_reducible refine Below.alloc ?_ ?_ _) | (with_reducible refine below_more ?_ ?_ _ _) | (with_reducible refine Below.setCell ?_ ?_ _) | (with_reducible refine Below.trans ?_ (Below.mono (by assumption) ?_)))) <;> first | omega | (simp; done) | (simp; omega) | (simp [more_size]; done) | (simp [more_size]; omega)⟩
  simp [results, Try.results6, go_sem]
theorem gate6_high (c : Int) (w : World) (h1 : 64 < c) : Calls Try.prog 6 #[.int .i64 c] w (NoR 2 w) := by
  have h2 : 1 ≤ c := by omega
  go_enter Try.func6, Try.ntmps6
  go_wp2_with fail
  refine (new16_no c _ h1).mono ?_
  rintro r w1 ⟨rfl, hb⟩
  have kR : w1.heap[w.heap.size]? = some (.cells #[.int .i64 0, .slice none 0 0, .bool false] 25) := block_keep' hb (by (repeat' (first | (with_reducible assumption) | (with_reducible refine hm_new ?_; (first | rfl | (simp; done) | (simp [more_size]; done) | (simp [more_size]; omega))) | (with_reducible refine block_alloc ?_) | (with_reducible refine hm_more ?_) | (with_reducible refine hm_drew ?_))))
  have hB : Below w.heap.size w w1 := by (repeat' (first | (with_reducible exact Below.refl _ _) | (with_reducible assumption) | (with_reducible refine Below.drew ?_) | (with_reducible refine Below.alloc ?_ ?_ _) | (with_reducible refine below_more ?_ ?_ _ _) | (with_reducible refine Below.setCell ?_ ?_ _) | (with_reducible refine Below.trans ?_ (Below.mono (by assumption) ?_)))) <;> first | omega | (simp; done) | (simp; omega) | (simp [more_size]; done) | (simp [more_size]; omega)
  have mR : Has w1 w.heap.size 3 := has_of kR
  have cU : ∀ o, (setBlk w1 w.heap.size #[.int .i64 0, .slice none 0 0, .bool false]).cell? ⟨w.heap.size, o, none⟩ = (#[.int .i64 0, .slice none 0 0, .bool false] : Array Value)[o]? := fun o => cell_setBlk _ _ _ 3 _ mR rfl
  have HB2 := Lib.hid (Below.setBlk hB (Nat.le_refl _) #[.int .i64 0, .slice none 0 0, .bool false])
  clear kR hb hB
  go_wp2_with fail
  refine bodyPost_ret (v := .tuple #[.agg #[.int .i64 0, .slice none 0 0, .bool false], .int .i64 2]) ?_ rfl ⟨rfl, HB2.out⟩
  simp [results, Try.results6, go_sem, cU]
theorem gate6 (c : Int) (w : World) (h1 : 1 ≤ c) (h2 : c ≤ 64) : Calls Try.prog 6 #[.int .i64 c] w (DuctR c 0 false [] 0 w) := by
  go_enter Try.func6, Try.ntmps6
  go_wp2_with fail
  refine (new16 c _ h1 h2).mono ?_
  rintro r w1 ⟨a2, p2, rfl, ho, hb⟩
  have kR : w1.heap[w.heap.size]? = some (.cells #[.int .i64 0, .slice none 0 0, .bool false] 25) := block_keep' hb (by (repeat' (first | (with_reducible assumption) | (with_reducible refine hm_new ?_; (first | rfl | (simp; done) | (simp [more_size]; done) | (simp [more_size]; omega))) | (with_reducible refine block_alloc ?_) | (with_reducible refine hm_more ?_) | (with_reducible refine hm_drew ?_))))
  have hB : Below w.heap.size w w1 := by (repeat' (first | (with_reducible exact Below.refl _ _) | (with_reducible assumption) | (with_reducible refine Below.drew ?_) | (with_reducible refine Below.alloc ?_ ?_ _) | (with_reducible refine below_more ?_ ?_ _ _) | (with_reducible refine Below.setCell ?_ ?_ _) | (with_reducible refine Below.trans ?_ (Below.mono (by assumption) ?_)))) <;> first | omega | (simp; done) | (simp; omega) | (simp [more_size]; done) | (simp [more_size]; omega)
  have mR : Has w1 w.heap.size 3 := has_of kR
  have cU : ∀ o, (setBlk w1 w.heap.size #[.int .i64 c, .slice a2 0 p2, .bool false]).cell? ⟨w.heap.size, o, none⟩ = (#[.int .i64 c, .slice a2 0 p2, .bool false] : Array Value)[o]? := fun o => cell_setBlk _ _ _ 3 _ mR rfl
  have HB2 := Lib.hid (Below.setBlk hB (Nat.le_refl _) #[.int .i64 c, .slice a2 0 p2, .bool false])
  have HO2 := Lib.hid (owns_base (owns_setBlk ho (show w.heap.size < _ by simp) #[.int .i64 c, .slice a2 0 p2, .bool false]) (show w.heap.size ≤ _ by simp))
  clear kR hb hB ho
  go_wp2_with fail
  refine bodyPost_ret (v := .tuple #[.agg #[.int .i64 c, .slice a2 0 p2, .bool false], .int .i64 0]) ?_ rfl ⟨a2, p2, rfl, HO2.out, HB2.out⟩
  simp [results, Try.results6, go_sem, cU]

theorem token17 (w : World) : Calls Try.prog 17 #[] w fun r w' => r = .returned (.agg #[.int .i64 0, .slice none 0 0, .bool false]) ∧ Below w.heap.size w w' := by
  go_enter Try.func17, Try.ntmps17
  go_wp2_with fail
  refine bodyPost_ret ?_ rfl ⟨rfl, by (repeat' (first | (with_reducible exact Below.refl _ _) | (with_reducible assumption) | (with_reducible refine Below.drew ?_) | (with_reducible refine Below.alloc ?_ ?_ _) | (with_reducible refine below_more ?_ ?_ _ _) | (with_reducible refine Below.setCell ?_ ?_ _) | (with_reducible refine Below.trans ?_ (Below.mono (by assumption) ?_)))) <;> first | omega | (simp; done) | (simp; omega) | (simp [more_size]; done) | (simp [more_size]; omega)⟩
  simp [results, Try.results17, go_sem]
theorem cut13_shut (c : Int) (a : Option Addr) (n p : Nat) (w : World) : Calls Try.prog 13 #[.agg #[.int .i64 c, .slice a n p, .bool true]] w (NoR 52 w) := by
  go_enter Try.func13, Try.ntmps13
  go_wp2_with fail
  refine bodyPost_ret (v := .tuple #[.agg #[.int .i64 0, .slice none 0 0, .bool false], .int .i64 52]) ?_ rfl ⟨rfl, by (repeat' (first | (with_reducible exact Below.refl _ _) | (with_reducible assumption) | (with_reducible refine Below.drew ?_) | (with_reducible refine Below.alloc ?_ ?_ _) | (with_reducible refine below_more ?_ ?_ _ _) | (with_reducible refine Below.setCell ?_ ?_ _) | (with_reducible refine Below.trans ?_ (Below.mono (by assumption) ?_)))) <;> first | omega | (simp; done) | (simp; omega) | (simp [more_size]; done) | (simp [more_size]; omega)⟩
  simp [results, Try.results13, go_sem]
theorem cut13 (c : Int) (a : Option Addr) (n p : Nat) (w : World) : Calls Try.prog 13 #[.agg #[.int .i64 c, .slice a n p, .bool false]] w fun r w' => r = .returned (.tuple #[.agg #[.int .i64 c, .slice a n p, .bool true], .int .i64 0]) ∧ Below w.heap.size w w' := by
  go_enter Try.func13, Try.ntmps13
  go_wp2_with fail
  refine bodyPost_ret (v := .tuple #[.agg #[.int .i64 c, .slice a n p, .bool true], .int .i64 0]) ?_ rfl ⟨rfl, by (repeat' (first | (with_reducible exact Below.refl _ _) | (with_reducible assumption) | (with_reducible refine Below.drew ?_) | (with_reducible refine Below.alloc ?_ ?_ _) | (with_reducible refine below_more ?_ ?_ _ _) | (with_reducible refine Below.setCell ?_ ?_ _) | (with_reducible refine Below.trans ?_ (Below.mono (by assumption) ?_)))) <;> first | omega | (simp; done) | (simp; omega) | (simp [more_size]; done) | (simp [more_size]; omega)⟩
  simp [results, Try.results13, go_sem]
theorem free11_shut (c : Int) (a : Option Addr) (n p : Nat) (w : World) : Calls Try.prog 11 #[.agg #[.int .i64 c, .slice a n p, .bool true]] w fun r w' => r = .returned (.int .i64 0) ∧ Below w.heap.size w w' := by
  go_enter Try.func11, Try.ntmps11
  go_wp2_with fail
  refine (room18_shut c a n p _).mono ?_
  rintro r w1 ⟨rfl, hb⟩
  go_wp2_with fail
  go_ret
  exact ⟨rfl, by (repeat' (first | (with_reducible exact Below.refl _ _) | (with_reducible assumption) | (with_reducible refine Below.drew ?_) | (with_reducible refine Below.alloc ?_ ?_ _) | (with_reducible refine below_more ?_ ?_ _ _) | (with_reducible refine Below.setCell ?_ ?_ _) | (with_reducible refine Below.trans ?_ (Below.mono (by assumption) ?_)))) <;> first | omega | (simp; done) | (simp; omega) | (simp [more_size]; done) | (simp [more_size]; omega)⟩
theorem free11_some (c : Int) (a : Option Addr) (n p : Nat) (w : World) (h1 : (n : Int) < c) (h2 : c ≤ 9223372036854775807) : Calls Try.prog 11 #[.agg #[.int .i64 c, .slice a n p, .bool false]] w fun r w' => r = .returned (.int .i64 (c - n)) ∧ Below w.heap.size w w' := by
  go_enter Try.func11, Try.ntmps11
  go_wp2_with fail
  refine (room18_some c a n p _ h1 h2).mono ?_
  rintro r w1 ⟨rfl, hb⟩
  go_wp2_with fail
  go_ret
  exact ⟨rfl, by (repeat' (first | (with_reducible exact Below.refl _ _) | (with_reducible assumption) | (with_reducible refine Below.drew ?_) | (with_reducible refine Below.alloc ?_ ?_ _) | (with_reducible refine below_more ?_ ?_ _ _) | (with_reducible refine Below.setCell ?_ ?_ _) | (with_reducible refine Below.trans ?_ (Below.mono (by assumption) ?_)))) <;> first | omega | (simp; done) | (simp; omega) | (simp [more_size]; done) | (simp [more_size]; omega)⟩
theorem free11_none (c : Int) (a : Option Addr) (n p : Nat) (w : World) (h1 : c ≤ (n : Int)) (h2 : -1099511627776 ≤ c) (h3 : (n : Int) ≤ 1000) : Calls Try.prog 11 #[.agg #[.int .i64 c, .slice a n p, .bool false]] w fun r w' => r = .returned (.int .i64 0) ∧ Below w.heap.size w w' := by
  go_enter Try.func11, Try.ntmps11
  go_wp2_with fail
  refine (room18_none c a n p _ h1 h2 h3).mono ?_
  rintro r w1 ⟨rfl, hb⟩
  go_wp2_with fail
  go_ret
  exact ⟨rfl, by (repeat' (first | (with_reducible exact Below.refl _ _) | (with_reducible assumption) | (with_reducible refine Below.drew ?_) | (with_reducible refine Below.alloc ?_ ?_ _) | (with_reducible refine below_more ?_ ?_ _ _) | (with_reducible refine Below.setCell ?_ ?_ _) | (with_reducible refine Below.trans ?_ (Below.mono (by assumption) ?_)))) <;> first | omega | (simp; done) | (simp; omega) | (simp [more_size]; done) | (simp [more_size]; omega)⟩
end Go.Proofs.Ytmggibmpljoacaa
