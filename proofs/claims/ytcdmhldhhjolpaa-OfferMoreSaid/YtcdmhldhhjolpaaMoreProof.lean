/-
  PROVED: with a clock that is later, with one goroutine more behind all, what was ready is ready still, and a goroutine that ends takes away just what it was in: 'OfferMore' returns true for all rows of cases, ducts, clocks, truths, rows and numbers, and what came in reads as it did.
  No condition.
-/
import Derived.Test.YtcdmhldhhjolpaaPq
import Derived.Test.YtcdmhldhhjolpaaO29
namespace Go.Proofs.Ytcdmhldhhjolpaa
open Go.ChangeShapes Go.WideShapes Go.ChangeAt Go.RowKit

theorem bytes31 : Try.prog.bytesOf 31 = 24 := by kernel_rfl
theorem size_rr {H : Type} {enc : TypeId × Value → H} {W : World} {ws : List Nat} {ps : List MemPlace} {a : Option Addr} {n c : Nat} (h : LeafIn enc Try.prog W ws ps 22 (.slice a n c)) : n = 0 ∨ ∃ cap, n ≤ cap ∧ cap * 24 ∈ ws := by
  rcases open_slice' Try.underlying22 h with he | ⟨a, len, cap, fuel, he, hle, hmax, hw, hel⟩
  · cases he
    exact .inl rfl
  · cases he
    rw [bytes31] at hw
    exact .inr ⟨c, hle, hw⟩

set_option maxRecDepth 100000 in
theorem offerMore_lifted (os : Os) (started : os.Started) (H : Type) (enc : TypeId × Value → H) :
    ReturnsInHanded {} Try.checked os 5 .any (Rows.offerMoreSpec.pre6 enc Try.prog Try.f5 Rows.offerMoreRow.domain false) (Rows.offerMoreSpec.post enc Try.prog Try.f5 false true false false) := by
  refine lift_law (C := Try.checked) (tb := 4) Try.own started (by kernel_rfl) Try.func5
    (ChangeSpec.witness6 (enc := enc) (C := Try.checked) false ⟨#[], #[.slice none 0 0, .slice none 0 0, .int .i64 0, .int .i64 0, .slice none 0 0, .slice none 0 0, .slice none 0 0, .int .i64 0], []⟩ 8 (by kernel_rfl) (by kernel_rfl) (by kernel_rfl) (by kernel_rfl))
    rfl Try.laidOut (fun t ht => ?_) rfl Try.underlying4 (fun ds hd => ?_) ?_
  · have hp : Try.f5.params.toList = [22, 23, 3, 3, 24, 24, 31, 3] := rfl
    rw [hp] at ht
    rcases (show t = 3 ∨ t = 22 ∨ t = 23 ∨ t = 24 ∨ t = 31 from by simp only [List.mem_cons, List.mem_nil_iff, or_false] at ht; rcases ht with h | h | h | h | h | h | h | h <;> simp [h]) with rfl | rfl | rfl | rfl | rfl
    · exact ⟨by kernel_rfl, of_decide_eq_true (by kernel_rfl)⟩
    · exact ⟨by kernel_rfl, of_decide_eq_true (by kernel_rfl)⟩
    · exact ⟨by kernel_rfl, of_decide_eq_true (by kernel_rfl)⟩
    · exact ⟨by kernel_rfl, of_decide_eq_true (by kernel_rfl)⟩
    · exact ⟨by kernel_rfl, of_decide_eq_true (by kernel_rfl)⟩
  · match ds, hd with
    | [_, _, _, _, _, _, _, _], _ => rfl
  · intro W base args ds ps hval0 hA0 hlt hsz0
    have hval : ∀ (j : Nat) t v, (#[22, 23, 3, 3, 24, 24, 31, 3] : Array TypeId)[j]? = some t → args[j]? = some v → Value.okWide Try.prog W .any base t v := hval0
    have hA : DataW.TrodAll enc Try.prog W 0 (fun _ => true) true [22, 23, 3, 3, 24, 24, 31, 3] args.toList ds ps := hA0
    have hsz : (DataW.weightsEach Try.prog [22, 23, 3, 3, 24, 24, 31, 3] ds).all (· ≤ reachBytes) = true := hsz0
    clear hval0 hA0 hsz0
    obtain ⟨v0, vs0, d0, ds0, p0, q0, hargs, rfl, rfl, t0, r0⟩ := trodAll_cons hA
    obtain ⟨v1, vs1, d1, ds1, p1, q1, rfl, rfl, rfl, t1, r1⟩ := trodAll_cons r0
    obtain ⟨v2, vs2, d2, ds2, p2, q2, rfl, rfl, rfl, t2, r2⟩ := trodAll_cons r1
    obtain ⟨v3, vs3, d3, ds3, p3, q3, rfl, rfl, rfl, t3, r3⟩ := trodAll_cons r2
    obtain ⟨v4, vs4, d4, ds4, p4, q4, rfl, rfl, rfl, t4, r4⟩ := trodAll_cons r3
    obtain ⟨v5, vs5, d5, ds5, p5, q5, rfl, rfl, rfl, t5, r5⟩ := trodAll_cons r4
    obtain ⟨v6, vs6, d6, ds6, p6, q6, rfl, rfl, rfl, t6, r6⟩ := trodAll_cons r5
    obtain ⟨v7, vs7, d7, ds7, p7, q7, rfl, rfl, rfl, t7, r7⟩ := trodAll_cons r6
    obtain ⟨rfl, rfl, rfl⟩ := trodAll_nil r7
    obtain rfl : args = #[v0, v1, v2, v3, v4, v5, v6, v7] := by cases args; simp_all
    obtain ⟨a0, n0, c0, rfl⟩ := okWide_slice Try.underlying22 (hval 0 22 v0 rfl rfl)
    obtain ⟨l0, hl0, hk0⟩ := open_rdRR (leaf_slice_arg t0)
    have z0 : n0 * 24 ≤ 140737488351232 := by
      rcases size_rr (leaf_slice_arg t0) with h | ⟨cap, h1, h2⟩
      · omega
      · have := reach_of hsz 0 rfl rfl h2
        omega
    obtain ⟨a1, n1, c1, rfl⟩ := okWide_slice Try.underlying23 (hval 1 23 v1 rfl rfl)
    obtain ⟨l1, hl1⟩ := open_rdU (leaf_slice_arg t1)
    obtain ⟨ck, rfl⟩ := okWide_int Try.underlying3 (hval 2 3 v2 rfl rfl)
    obtain ⟨lt, rfl⟩ := okWide_int Try.underlying3 (hval 3 3 v3 rfl rfl)
    obtain ⟨a4, n4, c4, rfl⟩ := okWide_slice Try.underlying24 (hval 4 24 v4 rfl rfl)
    obtain ⟨l4, hl4⟩ := open_rdB (leaf_slice_arg t4)
    obtain ⟨a5, n5, c5, rfl⟩ := okWide_slice Try.underlying24 (hval 5 24 v5 rfl rfl)
    obtain ⟨l5, hl5⟩ := open_rdB (leaf_slice_arg t5)
    obtain ⟨a6, n6, c6, rfl⟩ := okWide_slice Try.underlying31 (hval 6 31 v6 rfl rfl)
    obtain ⟨l6, hl6, hk6⟩ := open_rdO (leaf_slice_arg t6)
    obtain ⟨gn, rfl⟩ := okWide_int Try.underlying3 (hval 7 3 v7 rfl rfl)
    exact more5_all _ _ _ _ _ _ _ _ _ _ _ _ _ _ _ ck lt gn l0 l1 l4 l5 l6 W hl0 hl1 hl4 hl5 hl6 hk0 hk6 z0

theorem offerMore_holds : Rows.OfferMoreSaid :=
  OpenClaim.holds_of_wide 5 Try.f5 rfl rfl rfl rfl rfl rfl rfl ⟨rfl, rfl, rfl, rfl, rfl⟩ rfl rfl rfl rfl rfl (by kernel_rfl) Try.func5 (by kernel_rfl)
    (of_decide_eq_true (by kernel_rfl)) (by unfold Func.isWrapper; first | (rw [if_pos (by decide +kernel)]; kernel_rfl) | (rw [if_neg (by decide +kernel)]; exact ⟨rfl, rfl⟩))
    (fun os started H enc _ => offerMore_lifted os started H enc)
#print axioms offerMore_holds
end Go.Proofs.Ytcdmhldhhjolpaa
