
/-
  PROVED: in two events a seeker is over, whichever they are, it tells what it was answered, and does nothing besides: 'SeekEnds' returns true for every numbers, name and letter, and what came in reads as it did.
  No condition beyond the row's own reach.
-/
import Derived.Test.YthmeilgfdfkacaaP1
import Derived.Test.YthmeilgfdfkacaaW13
namespace Go.Proofs.Ythmeilgfdfkacaa
open Go.ChangeShapes Go.WideShapes Go.ChangeAt Go.RowKit

theorem ends4 (id namer : Int) (nme : ByteArray) (k f n sk e i : Int) (t : ByteArray) (w : World) (h3 : t.size ≤ 140737488351232) (h4 : nme.size ≤ 140737488351232) :
    Calls Try.prog 4 #[.int .i64 id, .int .i64 namer, .string nme, .agg #[.int .i8 k, .int .i64 f, .int .i64 n, .int .i64 sk, .string t, .int .i64 e], .int .i64 i] w fun r w' => r = .returned (.bool true) ∧ Below w.heap.size w w' := by
  by_cases h : e = 0
  · subst h
    exact ends4_ok _ _ _ _ _ _ _ _ _ _ h3 h4
  · exact ends4_err _ _ _ _ _ _ _ _ _ _ _ h3 h4 (by simpa using h)

set_option maxRecDepth 100000 in
theorem ends_lifted (os : Os) (started : os.Started) (H : Type) (enc : TypeId × Value → H) :
    ReturnsInHanded {} Try.checked os 4 .any (Rows.seekEndsSpec.pre6 enc Try.prog Try.f4 Rows.seekEndsRow.domain false) (Rows.seekEndsSpec.post enc Try.prog Try.f4 false true false false) := by
  refine lift_law (C := Try.checked) (tb := 4) Try.own started (by kernel_rfl) Try.func4
    (ChangeSpec.witness6 (enc := enc) (C := Try.checked) false ⟨#[], #[.int .i64 0, .int .i64 0, .string ⟨#[]⟩, .agg #[.int .i8 0, .int .i64 0, .int .i64 0, .int .i64 0, .string ⟨#[]⟩, .int .i64 0], .int .i64 0], []⟩ 8 (by kernel_rfl) (by kernel_rfl) (by kernel_rfl) (by kernel_rfl))
    rfl Try.laidOut (fun t ht => ?_) rfl Try.underlying4 (fun ds hd => ?_) ?_
  · have hp : Try.f4.params.toList = [3, 3, 9, 25, 3] := rfl
    rw [hp] at ht
    rcases (show t = 3 ∨ t = 9 ∨ t = 25 from by simp only [List.mem_cons, List.mem_nil_iff, or_false] at ht; rcases ht with h | h | h | h | h <;> simp [h]) with rfl | rfl | rfl
    · exact ⟨by kernel_rfl, of_decide_eq_true (by kernel_rfl)⟩
    · exact ⟨by kernel_rfl, of_decide_eq_true (by kernel_rfl)⟩
    · exact ⟨by kernel_rfl, of_decide_eq_true (by kernel_rfl)⟩
  · match ds, hd with
    | [_, _, _, _, _], _ => rfl
  · intro W base args ds ps hval0 hA0 hlt hsz0
    have hval : ∀ (j : Nat) t v, (#[3, 3, 9, 25, 3] : Array TypeId)[j]? = some t → args[j]? = some v → Value.okWide Try.prog W .any base t v := hval0
    have hA : DataW.TrodAll enc Try.prog W 0 (fun _ => true) true [3, 3, 9, 25, 3] args.toList ds ps := hA0
    have hsz : (DataW.weightsEach Try.prog [3, 3, 9, 25, 3] ds).all (· ≤ reachBytes) = true := hsz0
    clear hval0 hA0 hsz0
    obtain ⟨v0, vs0, d0, ds0, p0, q0, hargs, rfl, rfl, t0, r0⟩ := trodAll_cons hA
    obtain ⟨v1, vs1, d1, ds1, p1, q1, rfl, rfl, rfl, t1, r1⟩ := trodAll_cons r0
    obtain ⟨v2, vs2, d2, ds2, p2, q2, rfl, rfl, rfl, t2, r2⟩ := trodAll_cons r1
    obtain ⟨v3, vs3, d3, ds3, p3, q3, rfl, rfl, rfl, t3, r3⟩ := trodAll_cons r2
    obtain ⟨v4, vs4, d4, ds4, p4, q4, rfl, rfl, rfl, t4, r4⟩ := trodAll_cons r3
    obtain ⟨rfl, rfl, rfl⟩ := trodAll_nil r4
    obtain rfl : args = #[v0, v1, v2, v3, v4] := by cases args; simp_all
    obtain ⟨id, rfl⟩ := okWide_int Try.underlying3 (hval 0 3 v0 rfl rfl)
    obtain ⟨namer, rfl⟩ := okWide_int Try.underlying3 (hval 1 3 v1 rfl rfl)
    obtain ⟨nme, rfl, hnme⟩ := open_text (hval 2 9 v2 rfl rfl) t2
    obtain ⟨k, f, n, sk, e, t, rfl, ht⟩ := open_letter (hval 3 25 v3 rfl rfl) t3
    obtain ⟨i, rfl⟩ := okWide_int Try.underlying3 (hval 4 3 v4 rfl rfl)
    exact ends4 id namer nme k f n sk e i t W (reach_of hsz 3 rfl rfl ht) (reach_of hsz 2 rfl rfl hnme)

theorem seekEnds_holds : Rows.SeekEndsSaid :=
  OpenClaim.holds_of_wide 4 Try.f4 rfl rfl rfl rfl rfl rfl rfl ⟨rfl, rfl, rfl, rfl, rfl⟩ rfl rfl rfl rfl rfl (by kernel_rfl) Try.func4 (by kernel_rfl)
    (of_decide_eq_true (by kernel_rfl)) (by unfold Func.isWrapper; first | (rw [if_pos (by decide +kernel)]; kernel_rfl) | (rw [if_neg (by decide +kernel)]; exact ⟨rfl, rfl⟩))
    (fun os started H enc _ => ends_lifted os started H enc)
#print axioms seekEnds_holds
end Go.Proofs.Ythmeilgfdfkacaa
