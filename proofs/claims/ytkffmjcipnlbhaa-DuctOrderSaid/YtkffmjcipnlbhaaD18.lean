
/- Walks of the seat of chapter 05: DuctOrder, for every size and slice of acts. -/
import Derived.Test.YtkffmjcipnlbhaaO5
namespace Go.Proofs.Ytkffmjcipnlbhaa
open Go.RowKit
attribute [local go_sem ↓] Go.wp_at_zero Go.wp_at_succ
attribute [local go_sem] more_size cell_more_old frozen_more_old setCell_more_old more_drew drew_more old_alloc old_more old_drew old_setCell cell_alloc_old frozen_alloc_old setCell_alloc_old

set_option maxRecDepth 100000 in
set_option maxHeartbeats 4000000 in
theorem order3_out (size : Int) (a : Option Addr) (n p : Nat) (l : List Ac) (w : World) (h : (200 : Int) < (n : Int) ∨ ((n : Int) ≤ 200 ∧ size < 0) ∨ ((n : Int) ≤ 200 ∧ 0 ≤ size ∧ 64 < size)) (hl : RdC w (.slice a n p) l) :
    Calls Try.prog 3 #[.int .i64 size, .slice a n p] w fun r w' => r = .returned (.bool true) ∧ Below w.heap.size w w' := by
  clear hl
  rcases h with h | ⟨h1, h⟩ | ⟨h1, h2, h⟩
  all_goals
    go_enter Try.func3, Try.ntmps3
    go_wp2_with fail
    refine (wakes7 _).mono ?_
    rintro r w6 ⟨rfl, hb⟩
    go_wp2_with fail
    go_ret
    exact ⟨rfl, hb⟩
theorem order3_all (size : Int) (a : Option Addr) (n p : Nat) (l : List Ac) (w : World) (hl : RdC w (.slice a n p) l) :
    Calls Try.prog 3 #[.int .i64 size, .slice a n p] w fun r w' => r = .returned (.bool true) ∧ Below w.heap.size w w' := by
  by_cases h : (200 : Int) < (n : Int) ∨ ((n : Int) ≤ 200 ∧ size < 0) ∨ ((n : Int) ≤ 200 ∧ 0 ≤ size ∧ 64 < size)
  · exact order3_out size a n p l w h hl
  · exact order3 size a n p l w (by omega) (by omega) (by omega) hl
end Go.Proofs.Ytkffmjcipnlbhaa
