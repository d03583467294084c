
/- Walks of the seat of chapter 06: Inside, IsCut, Great, Same. -/
import Derived.Test.YtmggibmpljoacaaG4
namespace Go.Proofs.Ytmggibmpljoacaa
open Go.RowKit
attribute [local go_sem ↓] Go.wp_at_zero Go.wp_at_succ
attribute [local go_sem] more_size cell_more_old frozen_more_old setCell_more_old more_drew drew_more old_alloc old_more old_drew old_setCell cell_alloc_old frozen_alloc_old setCell_alloc_old
attribute [local go_sem ↓] load25 store25
attribute [local go_sem] run25 runs25 blk_drew has_drew blk_drewN has_drewN old_drewN blk_alloc_old has_alloc_old blk_alloc_new has_alloc_new setBlk_size setBlk_drew old_setBlk cell_setBlk' cell_setBlk_ne frozen_setBlk blk_setBlk' blk_setBlk_ne has_setBlk' has_setBlk_ne setBlk_alloc_old setBlk_new

theorem inside21 (c : Int) (a : Option Addr) (n p : Nat) (b : Bool) (B : Nat) (x : Int) (w : World) (h : w.heap[B]? = some (.cells #[.int .i64 x] 3)) (h0 : 0 ≤ x) (h1 : x ≤ 100000) (h2 : n ≤ 100000) :
    Calls Try.prog 21 #[.agg #[.int .i64 c, .slice a n p, .bool b], .pointer (some ⟨B, 0, none⟩)] w fun r w' => (∃ v, r = .returned v) ∧ w'.heap[B]? = some (.cells #[.int .i64 (x + n)] 3) ∧ Below B w w' := by
  have cB := cell_block h
  have fB := free_block h
  have oB := block_lt h
  have qB : Old w B := oB
  have H := Lib.hid h
  clear h
  go_enter Try.func21, Try.ntmps21
  go_wp2_with fail
  go_end0
  refine ⟨⟨_, rfl⟩, ?_, ?_⟩
  · exact block_alloc (by simpa using blk_set (i := 0) (v := .int .i64 (x + n)) H.out)
  · exact ((Below.refl B w).setCell (p := ⟨B, 0, none⟩) (Nat.le_refl _) _).alloc (by simp only [setCell_size]; omega) _
theorem inside10 (c : Int) (a : Option Addr) (n p : Nat) (b : Bool) (B : Nat) (T : TypeId) (w : World) (h : w.heap[B]? = some (.cells #[.int .i64 c, .slice a n p, .bool b] T)) (h2 : n ≤ 1000) :
    Calls Try.prog 10 #[.slice (some ⟨B, 0, none⟩) 1 1] w fun r w' => r = .returned (.int .i64 n) ∧ Below w.heap.size w w' := by
  have cB := cell_block h
  have oB := block_lt h
  have qB : Old w B := oB
  have lB := blk_of h
  have mB : Has w B 3 := has_of h
  have h2' : (n : Int) ≤ 1000 := by omega
  clear h
  go_enter Try.func10, Try.ntmps10
  go_wp2_with fail
  refine wp_loop_rounds 2 ?_
  rw [rounds_succ]
  go_wp2_with fail
  refine (inside21 c a n p b w.heap.size 0 _ (by (repeat' (first | (with_reducible assumption) | (with_reducible refine hm_new ?_; (first | rfl | (simp; done) | (simp [more_size]; done) | (simp [more_size]; omega))) | (with_reducible refine block_alloc ?_) | (with_reducible refine hm_more ?_) | (with_reducible refine hm_drew ?_)))) (by decide) (by decide) (by omega)).mono ?_
  rintro r w1 ⟨⟨v, rfl⟩, k1, hb⟩
  have c1 := cell_block k1
  have f1 := free_block k1
  have o1 := block_lt k1
  have HB : Hid (Below w.heap.size w w1) := Lib.hid (((((Below.refl w.heap.size w).alloc (Nat.le_refl _) _).alloc (by simp) _)).trans hb)
  rw [Int.zero_add] at c1
  clear k1 hb lB mB cB
  go_wp2_with fail
  rw [rounds_succ]
  go_wp2_with fail
  refine bodyPost_ret (v := .int .i64 n) ?_ rfl ⟨rfl, HB.out.setCell (p := ⟨w.heap.size, 0, none⟩) (Nat.le_refl _) _⟩
  simp [results, Try.results10, go_sem, c1]
theorem cut23 (c : Int) (a : Option Addr) (n p : Nat) (b : Bool) (w : World) : Calls Try.prog 23 #[.agg #[.int .i64 c, .slice a n p, .bool b]] w fun r w' => r = .returned (.bool (!b)) ∧ Below w.heap.size w w' := by
  go_enter Try.func23, Try.ntmps23
  go_wp2_with fail
  go_ret
  exact ⟨rfl, by (repeat' (first | (with_reducible exact Below.refl _ _) | (with_reducible assumption) | (with_reducible refine Below.drew ?_) | (with_reducible refine Below.alloc ?_ ?_ _) | (with_reducible refine below_more ?_ ?_ _ _) | (with_reducible refine Below.setCell ?_ ?_ _) | (with_reducible refine Below.trans ?_ (Below.mono (by assumption) ?_)))) <;> first | omega | (simp; done) | (simp; omega) | (simp [more_size]; done) | (simp [more_size]; omega)⟩
theorem index26 (c : Int) (a : Option Addr) (n p : Nat) (b : Bool) (B : Nat) (T : TypeId) (w : World) (h : w.heap[B]? = some (.cells #[.int .i64 c, .slice a n p, .bool b] T)) :
    Calls Try.prog 26 #[.slice (some ⟨B, 0, none⟩) 1 1, .func (.func 23) #[] #[]] w fun r w' => r = .returned (.int .i64 (if b then -1 else 0)) ∧ Below w.heap.size w w' := by
  have cB := cell_block h
  have oB := block_lt h
  have qB : Old w B := oB
  have lB := blk_of h
  have mB : Has w B 3 := has_of h
  have HK := Lib.hid h
  clear h
  cases b
  · go_enter Try.func26, Try.ntmps26
    go_wp2_with fail
    refine wp_loop_rounds 1 ?_
    rw [rounds_succ]
    go_wp2_with fail
    refine (cut23 c a n p false _).mono ?_
    rintro r w1 ⟨rfl, hb⟩
    go_wp2_with fail
    go_ret
    exact ⟨rfl, hb⟩
  · go_enter Try.func26, Try.ntmps26
    go_wp2_with fail
    refine wp_loop_rounds 2 ?_
    rw [rounds_succ]
    go_wp2_with fail
    refine (cut23 c a n p true _).mono ?_
    rintro r w1 ⟨rfl, hb⟩
    have HB := Lib.hid hb
    clear hb
    go_wp2_with fail
    rw [rounds_succ]
    go_wp2_with fail
    go_ret
    exact ⟨rfl, HB.out⟩
theorem iscut14 (c : Int) (a : Option Addr) (n p : Nat) (b : Bool) (B : Nat) (T : TypeId) (w : World) (h : w.heap[B]? = some (.cells #[.int .i64 c, .slice a n p, .bool b] T)) :
    Calls Try.prog 14 #[.slice (some ⟨B, 0, none⟩) 1 1] w fun r w' => r = .returned (.bool b) ∧ Below w.heap.size w w' := by
  have h22 : ∀ w0 : World, w0.heap[B]? = some (.cells #[.int .i64 c, .slice a n p, .bool b] T) → Calls Try.prog 22 #[.slice (some ⟨B, 0, none⟩) 1 1, .func (.func 23) #[] #[]] w0 fun r w' => r = .returned (.bool (!b)) ∧ Below w0.heap.size w0 w' := by
    intro w0 h
    have H := Lib.hid h
    clear h
    go_enter Try.func22, Try.ntmps22
    go_wp2_with fail
    refine (index26 c a n p b B T _ H.out).mono ?_
    rintro r w1 ⟨rfl, hb⟩
    cases b
    all_goals
      go_wp2_with fail
      go_ret
      exact ⟨rfl, hb⟩
  have H22 := Lib.hid h22
  have HK := Lib.hid h
  clear h22 h
  go_enter Try.func14, Try.ntmps14
  go_wp2_with fail
  refine (H22.out _ HK.out).mono ?_
  rintro r w1 ⟨rfl, hb⟩
  cases b
  all_goals
    go_wp2_with fail
    go_ret
    exact ⟨rfl, hb⟩
end Go.Proofs.Ytmggibmpljoacaa
