
/-
  PROVED: where a seeker begins, its cases and what comes of each are what the document says: 'SeekTells' returns true for every seeker, numbers, name and letter, and what came in reads as it did.
  No condition beyond the row's own reach.
-/
import Derived.Test.YthmeilgfdfkacaaP1
import Derived.Test.YthmeilgfdfkacaaW11
namespace Go.Proofs.Ythmeilgfdfkacaa
open Go.ChangeShapes Go.WideShapes Go.ChangeAt Go.RowKit

set_option maxRecDepth 100000 in
theorem tells_lifted (os : Os) (started : os.Started) (H : Type) (enc : TypeId × Value → H) :
    ReturnsInHanded {} Try.checked os 3 .any (Rows.seekTellsSpec.pre6 enc Try.prog Try.f3 Rows.seekTellsRow.domain false) (Rows.seekTellsSpec.post enc Try.prog Try.f3 false true false false) := by
  refine lift_law (C := Try.checked) (tb := 4) Try.own started (by kernel_rfl) Try.func3
    (ChangeSpec.witness6 (enc := enc) (C := Try.checked) false ⟨#[], #[.agg #[.int .i64 0, .int .i64 0, .string ⟨#[]⟩, .int .i8 0, .int .i8 0, .int .i64 0, .int .i64 0, .int .i64 0, .string ⟨#[]⟩, .int .i64 0], .int .i64 0, .int .i64 0, .string ⟨#[]⟩, .int .i64 0, .agg #[.int .i8 0, .int .i64 0, .int .i64 0, .int .i64 0, .string ⟨#[]⟩, .int .i64 0]], []⟩ 8 (by kernel_rfl) (by kernel_rfl) (by kernel_rfl) (by kernel_rfl))
    rfl Try.laidOut (fun t ht => ?_) rfl Try.underlying4 (fun ds hd => ?_) ?_
  · have hp : Try.f3.params.toList = [27, 3, 3, 9, 3, 25] := rfl
    rw [hp] at ht
    rcases (show t = 27 ∨ t = 3 ∨ t = 9 ∨ t = 25 from by simp only [List.mem_cons, List.mem_nil_iff, or_false] at ht; rcases ht with h | h | h | h | h | h <;> simp [h]) with rfl | rfl | rfl | rfl
    · exact ⟨by kernel_rfl, of_decide_eq_true (by kernel_rfl)⟩
    · exact ⟨by kernel_rfl, of_decide_eq_true (by kernel_rfl)⟩
    · exact ⟨by kernel_rfl, of_decide_eq_true (by kernel_rfl)⟩
    · exact ⟨by kernel_rfl, of_decide_eq_true (by kernel_rfl)⟩
  · match ds, hd with
    | [_, _, _, _, _, _], _ => rfl
  · intro W base args ds ps hval0 hA0 hlt hsz0
    have hval : ∀ (j : Nat) t v, (#[27, 3, 3, 9, 3, 25] : Array TypeId)[j]? = some t → args[j]? = some v → Value.okWide Try.prog W .any base t v := hval0
    have hA : DataW.TrodAll enc Try.prog W 0 (fun _ => true) true [27, 3, 3, 9, 3, 25] args.toList ds ps := hA0
    have hsz : (DataW.weightsEach Try.prog [27, 3, 3, 9, 3, 25] ds).all (· ≤ reachBytes) = true := hsz0
    clear hval0 hA0 hsz0
    obtain ⟨v0, vs0, d0, ds0, p0, q0, hargs, rfl, rfl, t0, r0⟩ := trodAll_cons hA
    obtain ⟨v1, vs1, d1, ds1, p1, q1, rfl, rfl, rfl, t1, r1⟩ := trodAll_cons r0
    obtain ⟨v2, vs2, d2, ds2, p2, q2, rfl, rfl, rfl, t2, r2⟩ := trodAll_cons r1
    obtain ⟨v3, vs3, d3, ds3, p3, q3, rfl, rfl, rfl, t3, r3⟩ := trodAll_cons r2
    obtain ⟨v4, vs4, d4, ds4, p4, q4, rfl, rfl, rfl, t4, r4⟩ := trodAll_cons r3
    obtain ⟨v5, vs5, d5, ds5, p5, q5, rfl, rfl, rfl, t5, r5⟩ := trodAll_cons r4
    obtain ⟨rfl, rfl, rfl⟩ := trodAll_nil r5
    obtain rfl : args = #[v0, v1, v2, v3, v4, v5] := by cases args; simp_all
    obtain ⟨s, rfl, hl, hu, hn, hm⟩ := open_seeker (hval 0 27 v0 rfl rfl) t0
    obtain ⟨id, rfl⟩ := okWide_int Try.underlying3 (hval 1 3 v1 rfl rfl)
    obtain ⟨namer, rfl⟩ := okWide_int Try.underlying3 (hval 2 3 v2 rfl rfl)
    obtain ⟨nme, rfl, hnme⟩ := open_text (hval 3 9 v3 rfl rfl) t3
    obtain ⟨i, rfl⟩ := okWide_int Try.underlying3 (hval 4 3 v4 rfl rfl)
    obtain ⟨k, f, n, sk, e, t, rfl, ht⟩ := open_letter (hval 5 25 v5 rfl rfl) t5
    exact tells3 s id namer nme i k f n sk e t W (reach_of hsz 0 rfl rfl hn) (reach_of hsz 0 rfl rfl hm) (reach_of hsz 5 rfl rfl ht) (reach_of hsz 3 rfl rfl hnme) hl hu

theorem seekTells_holds : Rows.SeekTellsSaid :=
  OpenClaim.holds_of_wide 3 Try.f3 rfl rfl rfl rfl rfl rfl rfl ⟨rfl, rfl, rfl, rfl, rfl⟩ rfl rfl rfl rfl rfl (by kernel_rfl) Try.func3 (by kernel_rfl)
    (of_decide_eq_true (by kernel_rfl)) (by unfold Func.isWrapper; first | (rw [if_pos (by decide +kernel)]; kernel_rfl) | (rw [if_neg (by decide +kernel)]; exact ⟨rfl, rfl⟩))
    (fun os started H enc _ => tells_lifted os started H enc)
#print axioms seekTells_holds
end Go.Proofs.Ythmeilgfdfkacaa
