/-
  PROVED: what is ready is told once, rising, of cases that there are; nobody meets itself; and who meets puts into, and takes out of, one open duct of Cap 0: 'OfferOnce' returns true for all rows of cases, ducts, clocks and truths, and what came in reads as it did.
  No condition.
-/
import Derived.Test.YtcdmhldhhjolpaaPq
import Derived.Test.YtcdmhldhhjolpaaO23
namespace Go.Proofs.Ytcdmhldhhjolpaa
open Go.ChangeShapes Go.WideShapes Go.ChangeAt Go.RowKit

set_option maxRecDepth 100000 in
theorem offerOnce_lifted (os : Os) (started : os.Started) (H : Type) (enc : TypeId × Value → H) :
    ReturnsInHanded {} Try.checked os 3 .any (Rows.offerOnceSpec.pre6 enc Try.prog Try.f3 Rows.offerOnceRow.domain false) (Rows.offerOnceSpec.post enc Try.prog Try.f3 false true false false) := by
  refine lift_law (C := Try.checked) (tb := 4) Try.own started (by kernel_rfl) Try.func3
    (ChangeSpec.witness6 (enc := enc) (C := Try.checked) false ⟨#[], #[.slice none 0 0, .slice none 0 0, .int .i64 0, .slice none 0 0, .slice none 0 0], []⟩ 8 (by kernel_rfl) (by kernel_rfl) (by kernel_rfl) (by kernel_rfl))
    rfl Try.laidOut (fun t ht => ?_) rfl Try.underlying4 (fun ds hd => ?_) ?_
  · have hp : Try.f3.params.toList = [22, 23, 3, 24, 24] := rfl
    rw [hp] at ht
    rcases (show t = 3 ∨ t = 22 ∨ t = 23 ∨ t = 24 from by simp only [List.mem_cons, List.mem_nil_iff, or_false] at ht; rcases ht with h | h | h | h | h <;> simp [h]) with rfl | rfl | rfl | rfl
    · exact ⟨by kernel_rfl, of_decide_eq_true (by kernel_rfl)⟩
    · exact ⟨by kernel_rfl, of_decide_eq_true (by kernel_rfl)⟩
    · exact ⟨by kernel_rfl, of_decide_eq_true (by kernel_rfl)⟩
    · exact ⟨by kernel_rfl, of_decide_eq_true (by kernel_rfl)⟩
  · match ds, hd with
    | [_, _, _, _, _], _ => rfl
  · intro W base args ds ps hval0 hA0 hlt hsz0
    have hval : ∀ (j : Nat) t v, (#[22, 23, 3, 24, 24] : Array TypeId)[j]? = some t → args[j]? = some v → Value.okWide Try.prog W .any base t v := hval0
    have hA : DataW.TrodAll enc Try.prog W 0 (fun _ => true) true [22, 23, 3, 24, 24] args.toList ds ps := hA0
    have hsz : (DataW.weightsEach Try.prog [22, 23, 3, 24, 24] ds).all (· ≤ reachBytes) = true := hsz0
    clear hval0 hA0 hsz0
    obtain ⟨v0, vs0, d0, ds0, p0, q0, hargs, rfl, rfl, t0, r0⟩ := trodAll_cons hA
    obtain ⟨v1, vs1, d1, ds1, p1, q1, rfl, rfl, rfl, t1, r1⟩ := trodAll_cons r0
    obtain ⟨v2, vs2, d2, ds2, p2, q2, rfl, rfl, rfl, t2, r2⟩ := trodAll_cons r1
    obtain ⟨v3, vs3, d3, ds3, p3, q3, rfl, rfl, rfl, t3, r3⟩ := trodAll_cons r2
    obtain ⟨v4, vs4, d4, ds4, p4, q4, rfl, rfl, rfl, t4, r4⟩ := trodAll_cons r3
    obtain ⟨rfl, rfl, rfl⟩ := trodAll_nil r4
    obtain rfl : args = #[v0, v1, v2, v3, v4] := by cases args; simp_all
    obtain ⟨a0, n0, c0, rfl⟩ := okWide_slice Try.underlying22 (hval 0 22 v0 rfl rfl)
    obtain ⟨l0, hl0, hk0⟩ := open_rdRR (leaf_slice_arg t0)
    obtain ⟨a1, n1, c1, rfl⟩ := okWide_slice Try.underlying23 (hval 1 23 v1 rfl rfl)
    obtain ⟨l1, hl1⟩ := open_rdU (leaf_slice_arg t1)
    obtain ⟨ck, rfl⟩ := okWide_int Try.underlying3 (hval 2 3 v2 rfl rfl)
    obtain ⟨a3, n3, c3, rfl⟩ := okWide_slice Try.underlying24 (hval 3 24 v3 rfl rfl)
    obtain ⟨l3, hl3⟩ := open_rdB (leaf_slice_arg t3)
    obtain ⟨a4, n4, c4, rfl⟩ := okWide_slice Try.underlying24 (hval 4 24 v4 rfl rfl)
    obtain ⟨l4, hl4⟩ := open_rdB (leaf_slice_arg t4)
    exact once3_all _ _ _ _ _ _ _ _ _ _ _ _ ck l0 l1 l3 l4 W hl0 hl1 hl3 hl4 hk0

theorem offerOnce_holds : Rows.OfferOnceSaid :=
  OpenClaim.holds_of_wide 3 Try.f3 rfl rfl rfl rfl rfl rfl rfl ⟨rfl, rfl, rfl, rfl, rfl⟩ rfl rfl rfl rfl rfl (by kernel_rfl) Try.func3 (by kernel_rfl)
    (of_decide_eq_true (by kernel_rfl)) (by unfold Func.isWrapper; first | (rw [if_pos (by decide +kernel)]; kernel_rfl) | (rw [if_neg (by decide +kernel)]; exact ⟨rfl, rfl⟩))
    (fun os started H enc _ => offerOnce_lifted os started H enc)
#print axioms offerOnce_holds
end Go.Proofs.Ytcdmhldhhjolpaa
