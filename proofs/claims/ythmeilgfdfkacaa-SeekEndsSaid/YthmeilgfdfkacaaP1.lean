
/- Opening a seeker and a letter; what all three laws of this seat share. -/
import Derived.Test.YthmeilgfdfkacaaOpen
import Derived.Test.YthmeilgfdfkacaaW9
namespace Go.Proofs.Ythmeilgfdfkacaa
open Go.ChangeShapes Go.WideShapes Go.ChangeAt Go.RowKit

theorem Try.own : ownKnob Try.prog.godebug = none := by kernel_rfl
theorem Try.laidOut : laidOutB Try.prog = true := by kernel_rfl
theorem leaves27 : leaves Try.prog 8 27 = some [(0, 3), (1, 3), (2, 9), (3, 22), (4, 22), (5, 3), (6, 3), (7, 3), (8, 9), (9, 23)] := by kernel_rfl
theorem leaves25 : leaves Try.prog 8 25 = some [(0, 22), (1, 3), (2, 3), (3, 3), (4, 9), (5, 23)] := by kernel_rfl
theorem cells27 : Try.prog.cellsOf 27 = 10 := by kernel_rfl
theorem cells25 : Try.prog.cellsOf 25 = 6 := by kernel_rfl

section
variable {H : Type} {enc : TypeId × Value → H} {W : World}

theorem open_int' {base : Nat} {u : TypeId} {v : Value} {k : IntKind} {d : DataW H} {ps : List MemPlace} (hu : Try.prog.underlying u = some (.int k)) (hval : Value.okWide Try.prog W .any base u v) : ∃ n, v = .int k n := okWide_int hu hval

theorem reach_of {d : DataW H} {t : TypeId} {ts : List TypeId} {ds : List (DataW H)} (hsz : (DataW.weightsEach Try.prog ts ds).all (· ≤ reachBytes) = true) (j : Nat) (ht : ts[j]? = some t) (hd : ds[j]? = some d) {n : Nat} (hn : n ∈ d.weights Try.prog t) : n ≤ 140737488351232 := by
  have := List.all_eq_true.1 hsz _ (DataW.weights_mem_each ht hd n hn)
  exact of_decide_eq_true this

theorem open_seeker {base : Nat} {v : Value} {d : DataW H} {ps : List MemPlace} (hval : Value.okWide Try.prog W .any base 27 v) (hT : DataW.Trod enc Try.prog W 0 (fun _ => true) true 27 v d ps) :
    ∃ s : Sk, v = .agg #[.int .i64 s.id, .int .i64 s.nm, .string s.name, .int .i8 s.a, .int .i8 s.mkd, .int .i64 s.mf, .int .i64 s.mn, .int .i64 s.ms, .string s.mt, .int .i64 s.me] ∧ -128 ≤ s.a ∧ s.a ≤ 127 ∧ s.name.size ∈ d.weights Try.prog 27 ∧ s.mt.size ∈ d.weights Try.prog 27 := by
  obtain ⟨l, rfl, hl, hx⟩ := open_struct Try.underlying27 leaves27 hval hT
  rw [cells27] at hl
  obtain ⟨c0, c1, c2, c3, c4, c5, c6, c7, c8, c9, rfl⟩ := list10 hl
  have h0 := leaf_at hx 0 3 rfl (by simp)
  have h1 := leaf_at hx 1 3 rfl (by simp)
  have h2 := leaf_at hx 2 9 rfl (by simp)
  have h3 := leaf_at hx 3 22 rfl (by simp)
  have h4 := leaf_at hx 4 22 rfl (by simp)
  have h5 := leaf_at hx 5 3 rfl (by simp)
  have h6 := leaf_at hx 6 3 rfl (by simp)
  have h7 := leaf_at hx 7 3 rfl (by simp)
  have h8 := leaf_at hx 8 9 rfl (by simp)
  have h9 := leaf_at hx 9 23 rfl (by simp)
  obtain ⟨id, rfl, _⟩ := leaf_int Try.underlying3 h0
  obtain ⟨nm, rfl, _⟩ := leaf_int Try.underlying3 h1
  obtain ⟨name, rfl, _, hn⟩ := leaf_string Try.underlying9 h2
  obtain ⟨a, rfl, wa⟩ := leaf_int Try.underlying22 h3
  obtain ⟨mk, rfl, _⟩ := leaf_int Try.underlying22 h4
  obtain ⟨mf, rfl, _⟩ := leaf_int Try.underlying3 h5
  obtain ⟨mn, rfl, _⟩ := leaf_int Try.underlying3 h6
  obtain ⟨ms, rfl, _⟩ := leaf_int Try.underlying3 h7
  obtain ⟨mt, rfl, _, hm⟩ := leaf_string Try.underlying9 h8
  obtain ⟨me, rfl, _⟩ := leaf_int Try.underlying23 h9
  have hb : -128 ≤ a ∧ a ≤ 127 := by simpa [Lit.wf, IntKind.min, IntKind.max, IntKind.bits, IntKind.signed] using wa
  exact ⟨⟨id, nm, a, mk, mf, mn, ms, me, name, mt⟩, rfl, hb.1, hb.2, hn, hm⟩

theorem open_letter {base : Nat} {v : Value} {d : DataW H} {ps : List MemPlace} (hval : Value.okWide Try.prog W .any base 25 v) (hT : DataW.Trod enc Try.prog W 0 (fun _ => true) true 25 v d ps) :
    ∃ (k f n s e : Int) (t : ByteArray), v = .agg #[.int .i8 k, .int .i64 f, .int .i64 n, .int .i64 s, .string t, .int .i64 e] ∧ t.size ∈ d.weights Try.prog 25 := by
  obtain ⟨l, rfl, hl, hx⟩ := open_struct Try.underlying25 leaves25 hval hT
  rw [cells25] at hl
  obtain ⟨c0, c1, c2, c3, c4, c5, rfl⟩ := list6 hl
  have h0 := leaf_at hx 0 22 rfl (by simp)
  have h1 := leaf_at hx 1 3 rfl (by simp)
  have h2 := leaf_at hx 2 3 rfl (by simp)
  have h3 := leaf_at hx 3 3 rfl (by simp)
  have h4 := leaf_at hx 4 9 rfl (by simp)
  have h5 := leaf_at hx 5 23 rfl (by simp)
  obtain ⟨k, rfl, _⟩ := leaf_int Try.underlying22 h0
  obtain ⟨f, rfl, _⟩ := leaf_int Try.underlying3 h1
  obtain ⟨n, rfl, _⟩ := leaf_int Try.underlying3 h2
  obtain ⟨s, rfl, _⟩ := leaf_int Try.underlying3 h3
  obtain ⟨t, rfl, _, ht⟩ := leaf_string Try.underlying9 h4
  obtain ⟨e, rfl, _⟩ := leaf_int Try.underlying23 h5
  exact ⟨k, f, n, s, e, t, rfl, ht⟩
theorem open_text {base : Nat} {v : Value} {d : DataW H} {ps : List MemPlace} (hval : Value.okWide Try.prog W .any base 9 v) (hT : DataW.Trod enc Try.prog W 0 (fun _ => true) true 9 v d ps) : ∃ t : ByteArray, v = .string t ∧ t.size ∈ d.weights Try.prog 9 := by
  obtain ⟨s, rfl⟩ := okWide_string Try.underlying9 hval
  obtain ⟨fuel, hf⟩ := hT
  obtain ⟨t, ht, _, hw⟩ := leaf_string (P := Try.prog) (W := W) (enc := enc) (ws := d.weights Try.prog 9) (ps := ps) (v := .string s) Try.underlying9 ⟨fuel, d, ps, hf, fun _ h => h, fun _ h => h⟩
  cases ht
  exact ⟨s, rfl, hw⟩
end
end Go.Proofs.Ythmeilgfdfkacaa
