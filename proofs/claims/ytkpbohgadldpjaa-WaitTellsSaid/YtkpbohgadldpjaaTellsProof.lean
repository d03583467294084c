/-
  PROVED: who joins, is next, quits, is served, is told, waits are what the document says: 'WaitTells' returns true for every row, numbers, callers, sockets and error, and what came in reads as it did.
  No condition beyond the row's own reach.
-/
import Derived.Test.YtkpbohgadldpjaaPgen
import Derived.Test.YtkpbohgadldpjaaA17
namespace Go.Proofs.Ytkpbohgadldpjaa
open Go.ChangeShapes Go.WideShapes Go.ChangeAt Go.RowKit

set_option maxRecDepth 100000 in
theorem waitTells_lifted (os : Os) (started : os.Started) (H : Type) (enc : TypeId × Value → H) :
    ReturnsInHanded {} Try.checked os 6 .any (Rows.waitTellsSpec.pre6 enc Try.prog Try.f6 Rows.waitTellsRow.domain false) (Rows.waitTellsSpec.post enc Try.prog Try.f6 false true false false) := by
  refine lift_law (C := Try.checked) (tb := 4) Try.own started (by kernel_rfl) Try.func6
    (ChangeSpec.witness6 (enc := enc) (C := Try.checked) false ⟨#[], #[.slice none 0 0, .int .i64 0, .slice none 0 0, .slice none 0 0, .int .i64 0], []⟩ 8 (by kernel_rfl) (by kernel_rfl) (by kernel_rfl) (by kernel_rfl))
    rfl Try.laidOut (fun t ht => ?_) rfl Try.underlying4 (fun ds hd => ?_) ?_
  · have hp : Try.f6.params.toList = [22, 3, 22, 22, 23] := rfl
    rw [hp] at ht
    rcases (show t = 3 ∨ t = 22 ∨ t = 23 from by simp only [List.mem_cons, List.mem_nil_iff, or_false] at ht; rcases ht with h | h | h | h | h <;> simp [h]) with rfl | rfl | rfl
    · exact ⟨by kernel_rfl, of_decide_eq_true (by kernel_rfl)⟩
    · exact ⟨by kernel_rfl, of_decide_eq_true (by kernel_rfl)⟩
    · exact ⟨by kernel_rfl, of_decide_eq_true (by kernel_rfl)⟩
  · match ds, hd with
    | [_, _, _, _, _], _ => rfl
  · intro W base args ds ps hval0 hA0 hlt hsz0
    have hval : ∀ (j : Nat) t v, (#[22, 3, 22, 22, 23] : Array TypeId)[j]? = some t → args[j]? = some v → Value.okWide Try.prog W .any base t v := hval0
    have hA : DataW.TrodAll enc Try.prog W 0 (fun _ => true) true [22, 3, 22, 22, 23] args.toList ds ps := hA0
    have hsz : (DataW.weightsEach Try.prog [22, 3, 22, 22, 23] ds).all (· ≤ reachBytes) = true := hsz0
    clear hval0 hA0 hsz0
    obtain ⟨v0, vs0, d0, ds0, p0, q0, hargs, rfl, rfl, t0, r0⟩ := trodAll_cons hA
    obtain ⟨v1, vs1, d1, ds1, p1, q1, rfl, rfl, rfl, t1, r1⟩ := trodAll_cons r0
    obtain ⟨v2, vs2, d2, ds2, p2, q2, rfl, rfl, rfl, t2, r2⟩ := trodAll_cons r1
    obtain ⟨v3, vs3, d3, ds3, p3, q3, rfl, rfl, rfl, t3, r3⟩ := trodAll_cons r2
    obtain ⟨v4, vs4, d4, ds4, p4, q4, rfl, rfl, rfl, t4, r4⟩ := trodAll_cons r3
    obtain ⟨rfl, rfl, rfl⟩ := trodAll_nil r4
    obtain rfl : args = #[v0, v1, v2, v3, v4] := by cases args; simp_all
    obtain ⟨a0, n0, c0, rfl⟩ := okWide_slice Try.underlying22 (hval 0 22 v0 rfl rfl)
    obtain ⟨l, hl, bl⟩ := open_rdI Try.underlying22 Try.underlying3 (by kernel_rfl) (by kernel_rfl) (leaf_slice_arg t0)
    have zl : l.length ≤ 4611686018427387904 := by
      rcases bl with rfl | ⟨c, hc, hw⟩
      · simp
      · have := reach_of hsz 0 rfl rfl hw; omega
    obtain ⟨most, rfl⟩ := okWide_int Try.underlying3 (hval 1 3 v1 rfl rfl)
    obtain ⟨a2, n2, c2, rfl⟩ := okWide_slice Try.underlying22 (hval 2 22 v2 rfl rfl)
    obtain ⟨cs, hcs, bcs⟩ := open_rdI Try.underlying22 Try.underlying3 (by kernel_rfl) (by kernel_rfl) (leaf_slice_arg t2)
    have zcs : cs.length ≤ 4611686018427387904 := by
      rcases bcs with rfl | ⟨c, hc, hw⟩
      · simp
      · have := reach_of hsz 2 rfl rfl hw; omega
    obtain ⟨a3, n3, c3, rfl⟩ := okWide_slice Try.underlying22 (hval 3 22 v3 rfl rfl)
    obtain ⟨s, hs, bs⟩ := open_rdI Try.underlying22 Try.underlying3 (by kernel_rfl) (by kernel_rfl) (leaf_slice_arg t3)
    have zs : s.length ≤ 4611686018427387904 := by
      rcases bs with rfl | ⟨c, hc, hw⟩
      · simp
      · have := reach_of hsz 3 rfl rfl hw; omega
    obtain ⟨e, rfl⟩ := okWide_int Try.underlying23 (hval 4 23 v4 rfl rfl)
    exact tells6 _ _ _ l cs s most e W zl zcs zs hl hcs hs

theorem waitTells_holds : Rows.WaitTellsSaid :=
  OpenClaim.holds_of_wide 6 Try.f6 rfl rfl rfl rfl rfl rfl rfl ⟨rfl, rfl, rfl, rfl, rfl⟩ rfl rfl rfl rfl rfl (by kernel_rfl) Try.func6 (by kernel_rfl)
    (of_decide_eq_true (by kernel_rfl)) (by unfold Func.isWrapper; first | (rw [if_pos (by decide +kernel)]; kernel_rfl) | (rw [if_neg (by decide +kernel)]; exact ⟨rfl, rfl⟩))
    (fun os started H enc _ => waitTells_lifted os started H enc)
#print axioms waitTells_holds
end Go.Proofs.Ytkpbohgadldpjaa
