
/-
  PROVED: a case that is none changes nothing, wherever a seeker stands: 'SeekStays' returns true for every seeker, every number and every letter, and what came in reads as it did.
  No condition beyond the row's own reach.
-/
import Derived.Test.YthmeilgfdfkacaaP1
namespace Go.Proofs.Ythmeilgfdfkacaa
open Go.ChangeShapes Go.WideShapes Go.ChangeAt Go.RowKit

theorem stays5 (s : Sk) (i k f n sk e : Int) (t : ByteArray) (w : World) (h1 : s.name.size ≤ 140737488351232) (h2 : s.mt.size ≤ 140737488351232) (h3 : t.size ≤ 140737488351232) (hl : -128 ≤ s.a) (hu : s.a ≤ 127) :
    Calls Try.prog 5 #[.agg #[.int .i64 s.id, .int .i64 s.nm, .string s.name, .int .i8 s.a, .int .i8 s.mkd, .int .i64 s.mf, .int .i64 s.mn, .int .i64 s.ms, .string s.mt, .int .i64 s.me], .int .i64 i, .agg #[.int .i8 k, .int .i64 f, .int .i64 n, .int .i64 sk, .string t, .int .i64 e]] w fun r w' => r = .returned (.bool true) ∧ Below w.heap.size w w' := by
  obtain ⟨id, nm, a, mk, mf, mn, ms, me, name, mt⟩ := s
  simp only at h1 h2 hl hu ⊢
  rcases (show (a < 0 ∨ 2 ≤ a) ∨ a = 0 ∨ a = 1 from by omega) with h | rfl | rfl
  · exact stays5_no _ _ _ _ _ _ _ _ _ _ _ _ _ _ _ _ _ _ h1 h2 h3 hl hu h
  · exact stays5_zero _ _ _ _ _ _ _ _ _ _ _ _ _ _ _ _ _ h1 h2 h3
  · exact stays5_one _ _ _ _ _ _ _ _ _ _ _ _ _ _ _ _ _ h1 h2 h3

set_option maxRecDepth 100000 in
theorem stays_lifted (os : Os) (started : os.Started) (H : Type) (enc : TypeId × Value → H) :
    ReturnsInHanded {} Try.checked os 5 .any (Rows.seekStaysSpec.pre6 enc Try.prog Try.f5 Rows.seekStaysRow.domain false) (Rows.seekStaysSpec.post enc Try.prog Try.f5 false true false false) := by
  refine lift_law (C := Try.checked) (tb := 4) Try.own started (by kernel_rfl) Try.func5
    (ChangeSpec.witness6 (enc := enc) (C := Try.checked) false ⟨#[], #[.agg #[.int .i64 0, .int .i64 0, .string ⟨#[]⟩, .int .i8 0, .int .i8 0, .int .i64 0, .int .i64 0, .int .i64 0, .string ⟨#[]⟩, .int .i64 0], .int .i64 0, .agg #[.int .i8 0, .int .i64 0, .int .i64 0, .int .i64 0, .string ⟨#[]⟩, .int .i64 0]], []⟩ 8 (by kernel_rfl) (by kernel_rfl) (by kernel_rfl) (by kernel_rfl))
    rfl Try.laidOut (fun t ht => ?_) rfl Try.underlying4 (fun ds hd => ?_) ?_
  · have hp : Try.f5.params.toList = [27, 3, 25] := rfl
    rw [hp] at ht
    rcases (show t = 27 ∨ t = 3 ∨ t = 25 from by simpa using ht) with rfl | rfl | rfl
    · exact ⟨by kernel_rfl, of_decide_eq_true (by kernel_rfl)⟩
    · exact ⟨by kernel_rfl, of_decide_eq_true (by kernel_rfl)⟩
    · exact ⟨by kernel_rfl, of_decide_eq_true (by kernel_rfl)⟩
  · match ds, hd with
    | [_, _, _], _ => rfl
  · intro W base args ds ps hval0 hA0 hlt hsz0
    have hval : ∀ (j : Nat) t v, (#[27, 3, 25] : Array TypeId)[j]? = some t → args[j]? = some v → Value.okWide Try.prog W .any base t v := hval0
    have hA : DataW.TrodAll enc Try.prog W 0 (fun _ => true) true [27, 3, 25] args.toList ds ps := hA0
    have hsz : (DataW.weightsEach Try.prog [27, 3, 25] ds).all (· ≤ reachBytes) = true := hsz0
    clear hval0 hA0 hsz0
    obtain ⟨v0, vs0, d0, ds0, p0, q0, hargs, rfl, rfl, t0, r0⟩ := trodAll_cons hA
    obtain ⟨v1, vs1, d1, ds1, p1, q1, rfl, rfl, rfl, t1, r1⟩ := trodAll_cons r0
    obtain ⟨v2, vs2, d2, ds2, p2, q2, rfl, rfl, rfl, t2, r2⟩ := trodAll_cons r1
    obtain ⟨rfl, rfl, rfl⟩ := trodAll_nil r2
    obtain rfl : args = #[v0, v1, v2] := by cases args; simp_all
    obtain ⟨s, rfl, hl, hu, hn, hm⟩ := open_seeker (hval 0 27 v0 rfl rfl) t0
    obtain ⟨i, rfl⟩ := okWide_int Try.underlying3 (hval 1 3 v1 rfl rfl)
    obtain ⟨k, f, n, sk, e, t, rfl, ht⟩ := open_letter (hval 2 25 v2 rfl rfl) t2
    exact stays5 s i k f n sk e t W (reach_of hsz 0 rfl rfl hn) (reach_of hsz 0 rfl rfl hm) (reach_of hsz 2 rfl rfl ht) hl hu

theorem seekStays_holds : Rows.SeekStaysSaid :=
  OpenClaim.holds_of_wide 5 Try.f5 rfl rfl rfl rfl rfl rfl rfl ⟨rfl, rfl, rfl, rfl, rfl⟩ rfl rfl rfl rfl rfl (by kernel_rfl) Try.func5 (by kernel_rfl)
    (of_decide_eq_true (by kernel_rfl)) (by unfold Func.isWrapper; first | (rw [if_pos (by decide +kernel)]; kernel_rfl) | (rw [if_neg (by decide +kernel)]; exact ⟨rfl, rfl⟩))
    (fun os started H enc _ => stays_lifted os started H enc)
#print axioms seekStays_holds
end Go.Proofs.Ythmeilgfdfkacaa
