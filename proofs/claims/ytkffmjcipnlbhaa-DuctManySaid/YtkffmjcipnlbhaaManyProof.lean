/-
  PROVED: letters put at once are letters put one by one, all or none: 'DuctMany' returns true for every duct and slice of letters, and what came in reads as it did.
  No condition.
-/
import Derived.Test.YtkffmjcipnlbhaaPd
import Derived.Test.YtkffmjcipnlbhaaD14
namespace Go.Proofs.Ytkffmjcipnlbhaa
open Go.ChangeShapes Go.WideShapes Go.ChangeAt Go.RowKit

set_option maxRecDepth 100000 in
theorem ductMany_lifted (os : Os) (started : os.Started) (H : Type) (enc : TypeId × Value → H) :
    ReturnsInHanded {} Try.checked os 4 .any (Rows.ductManySpec.pre6 enc Try.prog Try.f4 Rows.ductManyRow.domain false) (Rows.ductManySpec.post enc Try.prog Try.f4 false true false false) := by
  refine lift_law (C := Try.checked) (tb := 4) Try.own started (by kernel_rfl) Try.func4
    (ChangeSpec.witness6 (enc := enc) (C := Try.checked) false ⟨#[], #[.agg #[.int .i64 0, .slice none 0 0, .bool false], .slice none 0 0], []⟩ 8 (by kernel_rfl) (by kernel_rfl) (by kernel_rfl) (by kernel_rfl))
    rfl Try.laidOut (fun t ht => ?_) rfl Try.underlying4 (fun ds hd => ?_) ?_
  · have hp : Try.f4.params.toList = [26, 24] := rfl
    rw [hp] at ht
    rcases (show t = 24 ∨ t = 26 from by simp only [List.mem_cons, List.mem_nil_iff, or_false] at ht; rcases ht with h | h <;> simp [h]) with rfl | rfl
    · exact ⟨by kernel_rfl, of_decide_eq_true (by kernel_rfl)⟩
    · exact ⟨by kernel_rfl, of_decide_eq_true (by kernel_rfl)⟩
  · match ds, hd with
    | [_, _], _ => rfl
  · intro W base args ds ps hval0 hA0 hlt hsz0
    have hval : ∀ (j : Nat) t v, (#[26, 24] : Array TypeId)[j]? = some t → args[j]? = some v → Value.okWide Try.prog W .any base t v := hval0
    have hA : DataW.TrodAll enc Try.prog W 0 (fun _ => true) true [26, 24] args.toList ds ps := hA0
    have hsz : (DataW.weightsEach Try.prog [26, 24] ds).all (· ≤ reachBytes) = true := hsz0
    clear hval0 hA0 hsz0
    obtain ⟨v0, vs0, d0, ds0, p0, q0, hargs, rfl, rfl, t0, r0⟩ := trodAll_cons hA
    obtain ⟨v1, vs1, d1, ds1, p1, q1, rfl, rfl, rfl, t1, r1⟩ := trodAll_cons r0
    obtain ⟨rfl, rfl, rfl⟩ := trodAll_nil r1
    obtain rfl : args = #[v0, v1] := by cases args; simp_all
    obtain ⟨c, a, n, p, b, ld, rfl, hd⟩ := open_duct (hval 0 26 v0 rfl rfl) t0
    obtain ⟨a1, n1, c1, rfl⟩ := okWide_slice Try.underlying24 (hval 1 24 v1 rfl rfl)
    obtain ⟨l, hl⟩ := open_rdL (leaf_slice_arg t1)
    exact many4 c a _ n p _ _ b ld l W hd hl

theorem ductMany_holds : Rows.DuctManySaid :=
  OpenClaim.holds_of_wide 4 Try.f4 rfl rfl rfl rfl rfl rfl rfl ⟨rfl, rfl, rfl, rfl, rfl⟩ rfl rfl rfl rfl rfl (by kernel_rfl) Try.func4 (by kernel_rfl)
    (of_decide_eq_true (by kernel_rfl)) (by unfold Func.isWrapper; first | (rw [if_pos (by decide +kernel)]; kernel_rfl) | (rw [if_neg (by decide +kernel)]; exact ⟨rfl, rfl⟩))
    (fun os started H enc _ => ductMany_lifted os started H enc)
#print axioms ductMany_holds
end Go.Proofs.Ytkffmjcipnlbhaa
