/- What every law's proof of a seat shares: the program's own facts, the reach; a slice of numbers that came in. -/
import Derived.Test.YtcdmhldhhjolpaaOpen
import Derived.Test.YtcdmhldhhjolpaaRows
import Derived.Test.YtcdmhldhhjolpaaRds
namespace Go.Proofs.Ytcdmhldhhjolpaa
open Go.ChangeShapes Go.WideShapes Go.ChangeAt Go.RowKit

theorem Try.own : ownKnob Try.prog.godebug = none := by kernel_rfl
theorem Try.laidOut : laidOutB Try.prog = true := by kernel_rfl

section
variable {H : Type} {enc : TypeId × Value → H} {W : World}

theorem reach_of {d : DataW H} {t : TypeId} {ts : List TypeId} {ds : List (DataW H)} (hsz : (DataW.weightsEach Try.prog ts ds).all (· ≤ reachBytes) = true) (j : Nat) (ht : ts[j]? = some t) (hd : ds[j]? = some d) {n : Nat} (hn : n ∈ d.weights Try.prog t) : n ≤ 140737488351232 := by
  have := List.all_eq_true.1 hsz _ (DataW.weights_mem_each ht hd n hn)
  exact of_decide_eq_true this

/-- An argument as its own leaf. -/
theorem leaf_arg {P : Program} {t : TypeId} {v : Value} {d : DataW H} {ps : List MemPlace} {cs : List Value} (hc : v.cells = cs.toArray) (hcs : cs = [v]) (hT : DataW.Trod enc P W 0 (fun _ => true) true t v d ps) : LeafIn enc P W (d.weights P t) ps t v := by
  obtain ⟨fuel, hf⟩ := hT
  rw [hc, hcs] at hf
  exact ⟨fuel, d, ps, by simpa using hf, fun _ h => h, fun _ h => h⟩

theorem leaf_slice_arg {P : Program} {t : TypeId} {a : Option Addr} {n c : Nat} {d : DataW H} {ps : List MemPlace} (hT : DataW.Trod enc P W 0 (fun _ => true) true t (.slice a n c) d ps) : LeafIn enc P W (d.weights P t) ps t (.slice a n c) :=
  leaf_arg (cs := [.slice a n c]) rfl rfl hT

/-- A slice of numbers that came in. -/
theorem open_rdI {P : Program} {t e : TypeId} {ws : List Nat} {ps : List MemPlace} {v : Value} (hu : P.underlying t = some (.slice e)) (he : P.underlying e = some (.int .i64)) (hc : P.cellsOf e = 1) (hby : P.bytesOf e = 8) (h : LeafIn enc P W ws ps t v) :
    ∃ l : List Int, RdI W v l ∧ (l = [] ∨ ∃ c, l.length ≤ c ∧ c * 8 ∈ ws) := by
  rcases open_slice' hu h with rfl | ⟨a, len, cap, fuel, rfl, hle, hmax, hw, hel⟩
  · exact ⟨[], .inl ⟨rfl, _, _, rfl, fun _ => rfl⟩, .inl rfl⟩
  · have each : ∀ i, i < cap → ∃ n, W.cell? (a.add i) = some (.int .i64 n) := by
      intro i hi
      obtain ⟨cs, d, q, hcs, hd, _, _⟩ := hel i hi
      rw [hc] at hcs
      obtain ⟨h1, h2⟩ := cells_all hcs
      obtain ⟨x, hx1, hx2⟩ := h2 0 (by omega)
      obtain ⟨n, hn, _⟩ := DataW.trod_int he hd
      rw [hn] at hx1
      simp only [List.getElem?_cons_zero, Option.some.injEq] at hx1
      rw [Nat.mul_one, show (a.add i).add 0 = a.add i from by simp [Addr.add]] at hx2
      exact ⟨n, by rw [hx2, ← hx1]⟩
    refine ⟨(List.range len).map fun i => match W.cell? (a.add i) with | some (.int _ n) => n | _ => 0, ?_, .inr ⟨cap, by simpa using hle, by rw [← hby]; exact hw⟩⟩
    by_cases h0 : len = 0
    · subst h0
      exact .inl ⟨rfl, _, _, rfl, fun h => by cases h⟩
    · obtain ⟨b, off, spot⟩ := a
      obtain ⟨n0, hn0⟩ := each 0 (by omega)
      have hspot : spot = none := by simpa [Addr.add] using World.cell?_spot hn0
      subst hspot
      refine .inr ⟨by simp; exact h0, b, off, cap, by simp, by simpa using hle, ?_, fun j x hj => ?_⟩
      · simp only [Addr.add, World.cell?] at hn0
        split at hn0
        · rename_i hb; exact (Array.getElem?_eq_some_iff.1 hb).1
        · cases hn0
      · rw [List.getElem?_map] at hj
        obtain ⟨i, hi, hix⟩ := Option.map_eq_some_iff.1 hj
        have hil : i = j ∧ j < len := by
          have := List.getElem?_eq_some_iff.1 hi
          obtain ⟨h1, h2⟩ := this
          simp at h1 h2
          exact ⟨h2.symm, h1⟩
        obtain ⟨rfl, hil⟩ := hil
        obtain ⟨n, hn⟩ := each i (by omega)
        rw [hn] at hix
        simp only at hix
        subst hix
        rw [Addr.add_lit] at hn
        exact hn
end
end Go.Proofs.Ytcdmhldhhjolpaa
