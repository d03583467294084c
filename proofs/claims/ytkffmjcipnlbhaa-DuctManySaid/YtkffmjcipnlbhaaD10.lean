
/- Walks of the seat of chapter 05: the reference's May. -/
import Derived.Test.YtkffmjcipnlbhaaD1
namespace Go.Proofs.Ytkffmjcipnlbhaa
open Go.RowKit
attribute [local go_sem ↓] Go.wp_at_zero Go.wp_at_succ
attribute [local go_sem] more_size cell_more_old frozen_more_old setCell_more_old more_drew drew_more old_alloc old_more old_drew old_setCell cell_alloc_old frozen_alloc_old setCell_alloc_old

set_option maxHeartbeats 4000000 in
theorem may15_yes (b : Nat) (c : Int) (a : Option Addr) (n p : Nat) (cl : Bool) (w : World) (h : w.heap[b]? = some (.cells #[.int .i64 c, .slice a n p, .bool cl] 26)) (h1 : 0 ≤ c) (h2 : c ≤ 64) (h3 : (n : Int) ≤ c) :
    Calls Try.prog 15 #[.slice (some ⟨b, 0, none⟩) 1 1] w fun r w' => r = .returned (.bool true) ∧ Below w.heap.size w w' := by
  have hc := cell_block h
  have hlt := block_lt h
  clear h
  go_enter Try.func15, Try.ntmps15
  go_wp2
  refine wp_loop_rounds 2 ?_
  rw [rounds_succ]
  go_wp2
  go_quiet (fail)
  go_wp2
  rw [rounds_succ]
  go_wp2
  go_ret
  exact ⟨rfl, by first | exact below_drewN'' _ | exact (below_drewN'' _).drew⟩
set_option maxHeartbeats 4000000 in
theorem may15_no1 (b : Nat) (c : Int) (a : Option Addr) (n p : Nat) (cl : Bool) (w : World) (h : w.heap[b]? = some (.cells #[.int .i64 c, .slice a n p, .bool cl] 26)) (hn : c < 0) :
    Calls Try.prog 15 #[.slice (some ⟨b, 0, none⟩) 1 1] w fun r w' => r = .returned (.bool false) ∧ Below w.heap.size w w' := by
  have hc := cell_block h
  have hlt := block_lt h
  clear h
  go_enter Try.func15, Try.ntmps15
  go_wp2
  refine wp_loop_rounds 2 ?_
  rw [rounds_succ]
  go_wp2
  go_quiet (fail)
  go_wp2
  go_ret
  exact ⟨rfl, by first | exact below_drewN'' _ | exact (below_drewN'' _).drew⟩
set_option maxHeartbeats 4000000 in
theorem may15_no2 (b : Nat) (c : Int) (a : Option Addr) (n p : Nat) (cl : Bool) (w : World) (h : w.heap[b]? = some (.cells #[.int .i64 c, .slice a n p, .bool cl] 26)) (h1 : 0 ≤ c) (hn : 64 < c) :
    Calls Try.prog 15 #[.slice (some ⟨b, 0, none⟩) 1 1] w fun r w' => r = .returned (.bool false) ∧ Below w.heap.size w w' := by
  have hc := cell_block h
  have hlt := block_lt h
  have hd : decide (c < 0) = false := by simp; omega
  clear h
  go_enter Try.func15, Try.ntmps15
  go_wp2
  refine wp_loop_rounds 2 ?_
  rw [rounds_succ]
  go_wp2
  go_quiet (fail)
  go_wp2
  go_ret
  exact ⟨rfl, by first | exact below_drewN'' _ | exact (below_drewN'' _).drew⟩
set_option maxHeartbeats 4000000 in
theorem may15_no3 (b : Nat) (c : Int) (a : Option Addr) (n p : Nat) (cl : Bool) (w : World) (h : w.heap[b]? = some (.cells #[.int .i64 c, .slice a n p, .bool cl] 26)) (h1 : 0 ≤ c) (h2 : c ≤ 64) (hn : c < (n : Int)) :
    Calls Try.prog 15 #[.slice (some ⟨b, 0, none⟩) 1 1] w fun r w' => r = .returned (.bool false) ∧ Below w.heap.size w w' := by
  have hc := cell_block h
  have hlt := block_lt h
  have hd : decide (c < 0) = false := by simp; omega
  have hd2 : decide (64 < c) = false := by simp; omega
  clear h
  go_enter Try.func15, Try.ntmps15
  go_wp2
  refine wp_loop_rounds 2 ?_
  rw [rounds_succ]
  go_wp2
  go_quiet (fail)
  go_wp2
  go_ret
  exact ⟨rfl, by first | exact below_drewN'' _ | exact (below_drewN'' _).drew⟩
end Go.Proofs.Ytkffmjcipnlbhaa
