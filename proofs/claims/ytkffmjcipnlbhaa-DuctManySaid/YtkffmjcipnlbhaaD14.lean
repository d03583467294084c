
/- Walks of the seat of chapter 05: DuctMany. -/
import Derived.Test.YtkffmjcipnlbhaaD12
import Derived.Test.YtkffmjcipnlbhaaD13
namespace Go.Proofs.Ytkffmjcipnlbhaa
open Go.RowKit
attribute [local go_sem ↓] Go.wp_at_zero Go.wp_at_succ
attribute [local go_sem] more_size cell_more_old frozen_more_old setCell_more_old more_drew drew_more old_alloc old_more old_drew old_setCell cell_alloc_old frozen_alloc_old setCell_alloc_old

theorem many4 (c : Int) (a au : Option Addr) (n p m pu : Nat) (cl : Bool) (l l2 : List Lt) (w : World) (hl : RdL w (.slice a n p) l) (hu : RdL w (.slice au m pu) l2) :
    Calls Try.prog 4 #[.agg #[.int .i64 c, .slice a n p, .bool cl], .slice au m pu] w fun r w' => r = .returned (.bool true) ∧ Below w.heap.size w w' := by
  by_cases hbad : (60 : Int) < (m : Int) ∨ ¬ (0 ≤ c ∧ c ≤ 64 ∧ (n : Int) ≤ c)
  · exact many4_bad c a au n p m pu cl l l2 w hl hu hbad
  have h60 : m ≤ 60 := by omega
  have h1 : 0 ≤ c := by omega
  have h2 : c ≤ 64 := by omega
  have h3 : (n : Int) ≤ c := by omega
  cases cl
  · rcases Nat.eq_zero_or_pos m with rfl | hm
    · have : l2 = [] := List.length_eq_zero_iff.1 hu.len.symm
      subst this
      exact many4_open0 c a au n p pu l w h1 h2 h3 hl hu
    · by_cases hr : (m : Int) ≤ c - n
      · exact many4_ok c a au n p m pu l l2 w h1 h2 h3 hl hu h60 hm hr
      · exact many4_full c a au n p m pu (c - n).toNat l l2 w h1 h2 h3 hl hu h60 (by omega) (by omega)
  · rcases Nat.eq_zero_or_pos m with rfl | hm
    · have : l2 = [] := List.length_eq_zero_iff.1 hu.len.symm
      subst this
      exact many4_shut0 c a au n p pu l w h1 h2 h3 hl hu
    · exact many4_shut c a au n p m pu l l2 w h1 h2 h3 hl hu h60 hm
end Go.Proofs.Ytkffmjcipnlbhaa
