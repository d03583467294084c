/-
  PROVED: letters that go through an open duct one at a time come out as they are, the duct being as it was, and a duct of Cap 0 takes none: 'DuctTurns' returns true for every number and slice of letters, and what came in reads as it did.
  No condition beyond the slice's own reach.
-/
import Derived.Test.YtkffmjcipnlbhaaPl
import Derived.Test.YtkffmjcipnlbhaaD7
namespace Go.Proofs.Ytkffmjcipnlbhaa
open Go.ChangeShapes Go.WideShapes Go.ChangeAt Go.RowKit

set_option maxRecDepth 100000 in
theorem ductTurns_lifted (os : Os) (started : os.Started) (H : Type) (enc : TypeId × Value → H) :
    ReturnsInHanded {} Try.checked os 5 .any (Rows.ductTurnsSpec.pre6 enc Try.prog Try.f5 Rows.ductTurnsRow.domain false) (Rows.ductTurnsSpec.post enc Try.prog Try.f5 false true false false) := by
  refine lift_law (C := Try.checked) (tb := 4) Try.own started (by kernel_rfl) Try.func5
    (ChangeSpec.witness6 (enc := enc) (C := Try.checked) false ⟨#[], #[.int .i64 0, .slice none 0 0], []⟩ 8 (by kernel_rfl) (by kernel_rfl) (by kernel_rfl) (by kernel_rfl))
    rfl Try.laidOut (fun t ht => ?_) rfl Try.underlying4 (fun ds hd => ?_) ?_
  · have hp : Try.f5.params.toList = [3, 24] := rfl
    rw [hp] at ht
    rcases (show t = 3 ∨ t = 24 from by simp only [List.mem_cons, List.mem_nil_iff, or_false] at ht; rcases ht with h | h <;> simp [h]) with rfl | rfl
    · exact ⟨by kernel_rfl, of_decide_eq_true (by kernel_rfl)⟩
    · exact ⟨by kernel_rfl, of_decide_eq_true (by kernel_rfl)⟩
  · match ds, hd with
    | [_, _], _ => rfl
  · intro W base args ds ps hval0 hA0 hlt hsz0
    have hval : ∀ (j : Nat) t v, (#[3, 24] : Array TypeId)[j]? = some t → args[j]? = some v → Value.okWide Try.prog W .any base t v := hval0
    have hA : DataW.TrodAll enc Try.prog W 0 (fun _ => true) true [3, 24] args.toList ds ps := hA0
    have hsz : (DataW.weightsEach Try.prog [3, 24] ds).all (· ≤ reachBytes) = true := hsz0
    clear hval0 hA0 hsz0
    obtain ⟨v0, vs0, d0, ds0, p0, q0, hargs, rfl, rfl, t0, r0⟩ := trodAll_cons hA
    obtain ⟨v1, vs1, d1, ds1, p1, q1, rfl, rfl, rfl, t1, r1⟩ := trodAll_cons r0
    obtain ⟨rfl, rfl, rfl⟩ := trodAll_nil r1
    obtain rfl : args = #[v0, v1] := by cases args; simp_all
    obtain ⟨size, rfl⟩ := okWide_int Try.underlying3 (hval 0 3 v0 rfl rfl)
    obtain ⟨a1, n1, c1, rfl⟩ := okWide_slice Try.underlying24 (hval 1 24 v1 rfl rfl)
    obtain ⟨l, hl⟩ := open_rdL (leaf_slice_arg t1)
    exact turns5 size _ _ _ l W hl

theorem ductTurns_holds : Rows.DuctTurnsSaid :=
  OpenClaim.holds_of_wide 5 Try.f5 rfl rfl rfl rfl rfl rfl rfl ⟨rfl, rfl, rfl, rfl, rfl⟩ rfl rfl rfl rfl rfl (by kernel_rfl) Try.func5 (by kernel_rfl)
    (of_decide_eq_true (by kernel_rfl)) (by unfold Func.isWrapper; first | (rw [if_pos (by decide +kernel)]; kernel_rfl) | (rw [if_neg (by decide +kernel)]; exact ⟨rfl, rfl⟩))
    (fun os started H enc _ => ductTurns_lifted os started H enc)
#print axioms ductTurns_holds
end Go.Proofs.Ytkffmjcipnlbhaa
