/-
  PROVED: whatever happens, in three events at most an attempt is over; its slot is given back just once, or goes with the socket that it told; what it opened is told, or shut, just once; a socket told is the one that it opened: 'AttemptOnce' returns true for every four numbers and slice of picks, and what came in reads as it did.
  No condition.
-/
import Derived.Test.YtfenloempdhknaaPp
import Derived.Test.YtfenloempdhknaaT16
namespace Go.Proofs.Ytfenloempdhknaa
open Go.ChangeShapes Go.WideShapes Go.ChangeAt Go.RowKit

set_option maxRecDepth 100000 in
theorem attemptOnce_lifted (os : Os) (started : os.Started) (H : Type) (enc : TypeId × Value → H) :
    ReturnsInHanded {} Try.checked os 3 .any (Rows.attemptOnceSpec.pre6 enc Try.prog Try.f3 Rows.attemptOnceRow.domain false) (Rows.attemptOnceSpec.post enc Try.prog Try.f3 false true false false) := by
  refine lift_law (C := Try.checked) (tb := 4) Try.own started (by kernel_rfl) Try.func3
    (ChangeSpec.witness6 (enc := enc) (C := Try.checked) false ⟨#[], #[.int .i64 0, .int .i64 0, .int .i64 0, .int .i64 0, .slice none 0 0], []⟩ 8 (by kernel_rfl) (by kernel_rfl) (by kernel_rfl) (by kernel_rfl))
    rfl Try.laidOut (fun t ht => ?_) rfl Try.underlying4 (fun ds hd => ?_) ?_
  · have hp : Try.f3.params.toList = [3, 3, 3, 3, 22] := rfl
    rw [hp] at ht
    rcases (show t = 3 ∨ t = 22 from by simp only [List.mem_cons, List.mem_nil_iff, or_false] at ht; rcases ht with h | h | h | h | h <;> simp [h]) with rfl | rfl
    · exact ⟨by kernel_rfl, of_decide_eq_true (by kernel_rfl)⟩
    · exact ⟨by kernel_rfl, of_decide_eq_true (by kernel_rfl)⟩
  · match ds, hd with
    | [_, _, _, _, _], _ => rfl
  · intro W base args ds ps hval0 hA0 hlt hsz0
    have hval : ∀ (j : Nat) t v, (#[3, 3, 3, 3, 22] : Array TypeId)[j]? = some t → args[j]? = some v → Value.okWide Try.prog W .any base t v := hval0
    have hA : DataW.TrodAll enc Try.prog W 0 (fun _ => true) true [3, 3, 3, 3, 22] args.toList ds ps := hA0
    have hsz : (DataW.weightsEach Try.prog [3, 3, 3, 3, 22] ds).all (· ≤ reachBytes) = true := hsz0
    clear hval0 hA0 hsz0
    obtain ⟨v0, vs0, d0, ds0, p0, q0, hargs, rfl, rfl, t0, r0⟩ := trodAll_cons hA
    obtain ⟨v1, vs1, d1, ds1, p1, q1, rfl, rfl, rfl, t1, r1⟩ := trodAll_cons r0
    obtain ⟨v2, vs2, d2, ds2, p2, q2, rfl, rfl, rfl, t2, r2⟩ := trodAll_cons r1
    obtain ⟨v3, vs3, d3, ds3, p3, q3, rfl, rfl, rfl, t3, r3⟩ := trodAll_cons r2
    obtain ⟨v4, vs4, d4, ds4, p4, q4, rfl, rfl, rfl, t4, r4⟩ := trodAll_cons r3
    obtain ⟨rfl, rfl, rfl⟩ := trodAll_nil r4
    obtain rfl : args = #[v0, v1, v2, v3, v4] := by cases args; simp_all
    obtain ⟨id, rfl⟩ := okWide_int Try.underlying3 (hval 0 3 v0 rfl rfl)
    obtain ⟨rc, rfl⟩ := okWide_int Try.underlying3 (hval 1 3 v1 rfl rfl)
    obtain ⟨ow, rfl⟩ := okWide_int Try.underlying3 (hval 2 3 v2 rfl rfl)
    obtain ⟨n, rfl⟩ := okWide_int Try.underlying3 (hval 3 3 v3 rfl rfl)
    obtain ⟨a4, n4, c4, rfl⟩ := okWide_slice Try.underlying22 (hval 4 22 v4 rfl rfl)
    obtain ⟨l4, hl4⟩ := open_rdP (leaf_slice_arg t4)
    exact once3_all id rc ow n _ _ _ l4 W hl4

theorem attemptOnce_holds : Rows.AttemptOnceSaid :=
  OpenClaim.holds_of_wide 3 Try.f3 rfl rfl rfl rfl rfl rfl rfl ⟨rfl, rfl, rfl, rfl, rfl⟩ rfl rfl rfl rfl rfl (by kernel_rfl) Try.func3 (by kernel_rfl)
    (of_decide_eq_true (by kernel_rfl)) (by unfold Func.isWrapper; first | (rw [if_pos (by decide +kernel)]; kernel_rfl) | (rw [if_neg (by decide +kernel)]; exact ⟨rfl, rfl⟩))
    (fun os started H enc _ => attemptOnce_lifted os started H enc)
#print axioms attemptOnce_holds
end Go.Proofs.Ytfenloempdhknaa
