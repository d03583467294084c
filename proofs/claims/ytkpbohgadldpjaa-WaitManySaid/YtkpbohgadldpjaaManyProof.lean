/-
  PROVED: sockets served at once are served one by one, replies and who is left are all, and who is told is each that waits, in order: 'WaitMany' returns true for every row, sockets and error, and what came in reads as it did.
  No condition beyond the row's own reach.
-/
import Derived.Test.YtkpbohgadldpjaaPgen
import Derived.Test.YtkpbohgadldpjaaA9
namespace Go.Proofs.Ytkpbohgadldpjaa
open Go.ChangeShapes Go.WideShapes Go.ChangeAt Go.RowKit

set_option maxRecDepth 100000 in
theorem waitMany_lifted (os : Os) (started : os.Started) (H : Type) (enc : TypeId × Value → H) :
    ReturnsInHanded {} Try.checked os 3 .any (Rows.waitManySpec.pre6 enc Try.prog Try.f3 Rows.waitManyRow.domain false) (Rows.waitManySpec.post enc Try.prog Try.f3 false true false false) := by
  refine lift_law (C := Try.checked) (tb := 4) Try.own started (by kernel_rfl) Try.func3
    (ChangeSpec.witness6 (enc := enc) (C := Try.checked) false ⟨#[], #[.slice none 0 0, .slice none 0 0, .int .i64 0], []⟩ 8 (by kernel_rfl) (by kernel_rfl) (by kernel_rfl) (by kernel_rfl))
    rfl Try.laidOut (fun t ht => ?_) rfl Try.underlying4 (fun ds hd => ?_) ?_
  · have hp : Try.f3.params.toList = [22, 22, 23] := rfl
    rw [hp] at ht
    rcases (show t = 22 ∨ t = 23 from by simp only [List.mem_cons, List.mem_nil_iff, or_false] at ht; rcases ht with h | h | h <;> simp [h]) with rfl | rfl
    · exact ⟨by kernel_rfl, of_decide_eq_true (by kernel_rfl)⟩
    · exact ⟨by kernel_rfl, of_decide_eq_true (by kernel_rfl)⟩
  · match ds, hd with
    | [_, _, _], _ => rfl
  · intro W base args ds ps hval0 hA0 hlt hsz0
    have hval : ∀ (j : Nat) t v, (#[22, 22, 23] : Array TypeId)[j]? = some t → args[j]? = some v → Value.okWide Try.prog W .any base t v := hval0
    have hA : DataW.TrodAll enc Try.prog W 0 (fun _ => true) true [22, 22, 23] args.toList ds ps := hA0
    have hsz : (DataW.weightsEach Try.prog [22, 22, 23] ds).all (· ≤ reachBytes) = true := hsz0
    clear hval0 hA0 hsz0
    obtain ⟨v0, vs0, d0, ds0, p0, q0, hargs, rfl, rfl, t0, r0⟩ := trodAll_cons hA
    obtain ⟨v1, vs1, d1, ds1, p1, q1, rfl, rfl, rfl, t1, r1⟩ := trodAll_cons r0
    obtain ⟨v2, vs2, d2, ds2, p2, q2, rfl, rfl, rfl, t2, r2⟩ := trodAll_cons r1
    obtain ⟨rfl, rfl, rfl⟩ := trodAll_nil r2
    obtain rfl : args = #[v0, v1, v2] := by cases args; simp_all
    obtain ⟨a0, n0, c0, rfl⟩ := okWide_slice Try.underlying22 (hval 0 22 v0 rfl rfl)
    obtain ⟨l, hl, bl⟩ := open_rdI Try.underlying22 Try.underlying3 (by kernel_rfl) (by kernel_rfl) (leaf_slice_arg t0)
    have zl : l.length ≤ 4611686018427387904 := by
      rcases bl with rfl | ⟨c, hc, hw⟩
      · simp
      · have := reach_of hsz 0 rfl rfl hw; omega
    obtain ⟨a1, n1, c1, rfl⟩ := okWide_slice Try.underlying22 (hval 1 22 v1 rfl rfl)
    obtain ⟨s, hs, bs⟩ := open_rdI Try.underlying22 Try.underlying3 (by kernel_rfl) (by kernel_rfl) (leaf_slice_arg t1)
    have zs : s.length ≤ 4611686018427387904 := by
      rcases bs with rfl | ⟨c, hc, hw⟩
      · simp
      · have := reach_of hsz 1 rfl rfl hw; omega
    obtain ⟨e, rfl⟩ := okWide_int Try.underlying23 (hval 2 23 v2 rfl rfl)
    exact many3 _ _ l s e W zl zs hl hs

theorem waitMany_holds : Rows.WaitManySaid :=
  OpenClaim.holds_of_wide 3 Try.f3 rfl rfl rfl rfl rfl rfl rfl ⟨rfl, rfl, rfl, rfl, rfl⟩ rfl rfl rfl rfl rfl (by kernel_rfl) Try.func3 (by kernel_rfl)
    (of_decide_eq_true (by kernel_rfl)) (by unfold Func.isWrapper; first | (rw [if_pos (by decide +kernel)]; kernel_rfl) | (rw [if_neg (by decide +kernel)]; exact ⟨rfl, rfl⟩))
    (fun os started H enc _ => waitMany_lifted os started H enc)
#print axioms waitMany_holds
end Go.Proofs.Ytkpbohgadldpjaa
