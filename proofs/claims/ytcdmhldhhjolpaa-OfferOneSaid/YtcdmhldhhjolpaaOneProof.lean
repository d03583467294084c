/-
  PROVED: of one goroutine alone what is ready is what is ready by itself, case by case, in order; and two who are one the other's turned about meet as often: 'OfferOne' returns true for all two rows of cases, ducts, clocks and truths, and what came in reads as it did.
  No condition.
-/
import Derived.Test.YtcdmhldhhjolpaaPq
import Derived.Test.YtcdmhldhhjolpaaO25
namespace Go.Proofs.Ytcdmhldhhjolpaa
open Go.ChangeShapes Go.WideShapes Go.ChangeAt Go.RowKit

set_option maxRecDepth 100000 in
theorem offerOne_lifted (os : Os) (started : os.Started) (H : Type) (enc : TypeId × Value → H) :
    ReturnsInHanded {} Try.checked os 4 .any (Rows.offerOneSpec.pre6 enc Try.prog Try.f4 Rows.offerOneRow.domain false) (Rows.offerOneSpec.post enc Try.prog Try.f4 false true false false) := by
  refine lift_law (C := Try.checked) (tb := 4) Try.own started (by kernel_rfl) Try.func4
    (ChangeSpec.witness6 (enc := enc) (C := Try.checked) false ⟨#[], #[.slice none 0 0, .slice none 0 0, .slice none 0 0, .int .i64 0, .bool false, .bool false], []⟩ 8 (by kernel_rfl) (by kernel_rfl) (by kernel_rfl) (by kernel_rfl))
    rfl Try.laidOut (fun t ht => ?_) rfl Try.underlying4 (fun ds hd => ?_) ?_
  · have hp : Try.f4.params.toList = [31, 31, 23, 3, 4, 4] := rfl
    rw [hp] at ht
    rcases (show t = 3 ∨ t = 4 ∨ t = 23 ∨ t = 31 from by simp only [List.mem_cons, List.mem_nil_iff, or_false] at ht; rcases ht with h | h | h | h | h | h <;> simp [h]) with rfl | rfl | rfl | rfl
    · exact ⟨by kernel_rfl, of_decide_eq_true (by kernel_rfl)⟩
    · exact ⟨by kernel_rfl, of_decide_eq_true (by kernel_rfl)⟩
    · exact ⟨by kernel_rfl, of_decide_eq_true (by kernel_rfl)⟩
    · exact ⟨by kernel_rfl, of_decide_eq_true (by kernel_rfl)⟩
  · match ds, hd with
    | [_, _, _, _, _, _], _ => rfl
  · intro W base args ds ps hval0 hA0 hlt hsz0
    have hval : ∀ (j : Nat) t v, (#[31, 31, 23, 3, 4, 4] : Array TypeId)[j]? = some t → args[j]? = some v → Value.okWide Try.prog W .any base t v := hval0
    have hA : DataW.TrodAll enc Try.prog W 0 (fun _ => true) true [31, 31, 23, 3, 4, 4] args.toList ds ps := hA0
    have hsz : (DataW.weightsEach Try.prog [31, 31, 23, 3, 4, 4] ds).all (· ≤ reachBytes) = true := hsz0
    clear hval0 hA0 hsz0
    obtain ⟨v0, vs0, d0, ds0, p0, q0, hargs, rfl, rfl, t0, r0⟩ := trodAll_cons hA
    obtain ⟨v1, vs1, d1, ds1, p1, q1, rfl, rfl, rfl, t1, r1⟩ := trodAll_cons r0
    obtain ⟨v2, vs2, d2, ds2, p2, q2, rfl, rfl, rfl, t2, r2⟩ := trodAll_cons r1
    obtain ⟨v3, vs3, d3, ds3, p3, q3, rfl, rfl, rfl, t3, r3⟩ := trodAll_cons r2
    obtain ⟨v4, vs4, d4, ds4, p4, q4, rfl, rfl, rfl, t4, r4⟩ := trodAll_cons r3
    obtain ⟨v5, vs5, d5, ds5, p5, q5, rfl, rfl, rfl, t5, r5⟩ := trodAll_cons r4
    obtain ⟨rfl, rfl, rfl⟩ := trodAll_nil r5
    obtain rfl : args = #[v0, v1, v2, v3, v4, v5] := by cases args; simp_all
    obtain ⟨a0, n0, c0, rfl⟩ := okWide_slice Try.underlying31 (hval 0 31 v0 rfl rfl)
    obtain ⟨l0, hl0, hk0⟩ := open_rdO (leaf_slice_arg t0)
    obtain ⟨a1, n1, c1, rfl⟩ := okWide_slice Try.underlying31 (hval 1 31 v1 rfl rfl)
    obtain ⟨l1, hl1, hk1⟩ := open_rdO (leaf_slice_arg t1)
    obtain ⟨a2, n2, c2, rfl⟩ := okWide_slice Try.underlying23 (hval 2 23 v2 rfl rfl)
    obtain ⟨l2, hl2⟩ := open_rdU (leaf_slice_arg t2)
    obtain ⟨ck, rfl⟩ := okWide_int Try.underlying3 (hval 3 3 v3 rfl rfl)
    obtain ⟨dl, rfl⟩ := okWide_bool Try.underlying4 (hval 4 4 v4 rfl rfl)
    obtain ⟨lk, rfl⟩ := okWide_bool Try.underlying4 (hval 5 4 v5 rfl rfl)
    exact one4_all _ _ _ _ _ _ _ _ _ ck dl lk l0 l1 l2 W hl0 hl1 hl2 hk0 hk1

theorem offerOne_holds : Rows.OfferOneSaid :=
  OpenClaim.holds_of_wide 4 Try.f4 rfl rfl rfl rfl rfl rfl rfl ⟨rfl, rfl, rfl, rfl, rfl⟩ rfl rfl rfl rfl rfl (by kernel_rfl) Try.func4 (by kernel_rfl)
    (of_decide_eq_true (by kernel_rfl)) (by unfold Func.isWrapper; first | (rw [if_pos (by decide +kernel)]; kernel_rfl) | (rw [if_neg (by decide +kernel)]; exact ⟨rfl, rfl⟩))
    (fun os started H enc _ => offerOne_lifted os started H enc)
#print axioms offerOne_holds
end Go.Proofs.Ytcdmhldhhjolpaa
