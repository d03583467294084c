
/- Walks of the seat of chapter 16: AttemptOnce, out of bounds, and all. -/
import Derived.Test.YtfenloempdhknaaT15M
namespace Go.Proofs.Ytfenloempdhknaa
open Go.RowKit
attribute [local go_sem ↓] Go.wp_at_zero Go.wp_at_succ
attribute [local go_sem] more_size cell_more_old frozen_more_old setCell_more_old more_drew drew_more old_alloc old_more old_drew old_setCell cell_alloc_old frozen_alloc_old setCell_alloc_old
attribute [local go_sem ↓] load30 store30
attribute [local go_sem] run30 runs30 blk_drew has_drew blk_drewN has_drewN old_drewN blk_alloc_old has_alloc_old blk_alloc_new has_alloc_new setBlk_size setBlk_drew old_setBlk cell_setBlk' cell_setBlk_ne frozen_setBlk blk_setBlk' blk_setBlk_ne has_setBlk' has_setBlk_ne setBlk_alloc_old setBlk_new
attribute [local go_sem high] run_mn4 run_mx4

set_option maxRecDepth 100000 in
set_option maxHeartbeats 4000000 in
theorem once3_out (id rc ow n : Int) (a : Option Addr) (m p : Nat) (w : World) (h : (m : Int) < 3 ∨ (decide ((m : Int) < 3) = false ∧ mn4 id rc ow n < 0) ∨ (decide ((m : Int) < 3) = false ∧ decide (mn4 id rc ow n < 0) = false ∧ 1000 < mx4 id rc ow n)) :
    Calls Try.prog 3 #[.int .i64 id, .int .i64 rc, .int .i64 ow, .int .i64 n, .slice a m p] w fun r w' => r = .returned (.bool true) ∧ Below w.heap.size w w' := by
  rcases h with h | ⟨h1, h⟩ | ⟨h1, h2, h⟩
  all_goals
    go_enter Try.func3, Try.ntmps3
    go_wp2_with fail
    refine (wakes6 _).mono ?_
    rintro r w1 ⟨rfl, hb⟩
    go_wp2_with fail
    go_ret
    exact ⟨rfl, by (repeat' (first | (with_reducible exact Below.refl _ _) | (with_reducible assumption) | (with_reducible refine Below.drew ?_) | (with_reducible refine Below.alloc ?_ ?_ _) | (with_reducible refine below_more ?_ ?_ _ _) | (with_reducible refine Below.setCell ?_ ?_ _) | (with_reducible refine Below.trans ?_ (Below.mono (by assumption) ?_)))) <;> first | omega | (simp; done) | (simp; omega) | (simp [more_size]; done) | (simp [more_size]; omega)⟩
theorem once3_all (id rc ow n : Int) (a : Option Addr) (m p : Nat) (l : List Pk) (w : World) (hl : RdP w (.slice a m p) l) :
    Calls Try.prog 3 #[.int .i64 id, .int .i64 rc, .int .i64 ow, .int .i64 n, .slice a m p] w fun r w' => r = .returned (.bool true) ∧ Below w.heap.size w w' := by
  by_cases h3 : (m : Int) < 3
  · exact once3_out id rc ow n a m p w (.inl h3)
  by_cases h1 : mn4 id rc ow n < 0
  · exact once3_out id rc ow n a m p w (.inr (.inl ⟨decide_eq_false h3, h1⟩))
  by_cases h2 : 1000 < mx4 id rc ow n
  · exact once3_out id rc ow n a m p w (.inr (.inr ⟨decide_eq_false h3, decide_eq_false h1, h2⟩))
  exact once3 id rc ow n a m p l w hl (by omega) (decide_eq_false h1) (decide_eq_false h2) (by unfold mx4 at h2; omega) (by unfold mx4 at h2; omega)
end Go.Proofs.Ytfenloempdhknaa
