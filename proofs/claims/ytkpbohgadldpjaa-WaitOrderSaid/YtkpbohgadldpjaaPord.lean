/- A slice of deeds that came in. -/
import Derived.Test.YtkpbohgadldpjaaPgen
import Derived.Test.YtkpbohgadldpjaaA14
namespace Go.Proofs.Ytkpbohgadldpjaa
open Go.ChangeShapes Go.WideShapes Go.ChangeAt Go.RowKit

theorem leaves37 : leaves Try.prog 8 37 = some [(0, 3), (1, 3)] := by kernel_rfl
theorem cells37 : Try.prog.cellsOf 37 = 2 := by kernel_rfl
theorem bytes37 : Try.prog.bytesOf 37 = 16 := by kernel_rfl

section
variable {H : Type} {enc : TypeId × Value → H} {W : World}
theorem open_rdD {ws : List Nat} {ps : List MemPlace} {v : Value} (h : LeafIn enc Try.prog W ws ps 35 v) :
    ∃ l : List (Int × Int), RdD W v l ∧ (l = [] ∨ ∃ c, l.length ≤ c ∧ c * 16 ∈ ws) := by
  rcases open_slice' Try.underlying35 h with rfl | ⟨a, len, cap, fuel, rfl, hle, hmax, hw, hel⟩
  · exact ⟨[], .inl ⟨rfl, _, _, rfl⟩, .inl rfl⟩
  · have each : ∀ i, i < cap → ∃ x y, W.cell? (a.add (i * 2)) = some (.int .i64 x) ∧ W.cell? ((a.add (i * 2)).add 1) = some (.int .i64 y) := by
      intro i hi
      obtain ⟨cs, d, q, hcs, hd, _, _⟩ := hel i hi
      rw [cells37] at hcs
      obtain ⟨h1, h2⟩ := cells_all hcs
      obtain ⟨x0, hx0, hc0⟩ := h2 0 (by omega)
      obtain ⟨x1, hx1, hc1⟩ := h2 1 (by omega)
      have hl := trod_leaves 8 37 _ leaves37 fuel cs d q hd
      obtain ⟨y0, hy0, hl0⟩ := hl (0, 3) (by simp)
      obtain ⟨y1, hy1, hl1⟩ := hl (1, 3) (by simp)
      obtain ⟨n0, rfl, _⟩ := leaf_int Try.underlying3 hl0
      obtain ⟨n1, rfl, _⟩ := leaf_int Try.underlying3 hl1
      obtain rfl := Option.some.inj (hx0.symm.trans hy0)
      obtain rfl := Option.some.inj (hx1.symm.trans hy1)
      exact ⟨n0, n1, by simpa [Addr.add] using hc0, hc1⟩
    refine ⟨(List.range len).map fun i => (match W.cell? (a.add (i * 2)) with | some (.int _ n) => n | _ => 0, match W.cell? ((a.add (i * 2)).add 1) with | some (.int _ n) => n | _ => 0), ?_, .inr ⟨cap, by simpa using hle, by rw [← bytes37]; exact hw⟩⟩
    by_cases h0 : len = 0
    · subst h0
      exact .inl ⟨rfl, _, _, rfl⟩
    · obtain ⟨b, off, spot⟩ := a
      obtain ⟨n0, n1, hn0, _⟩ := each 0 (by omega)
      have hspot : spot = none := by simpa [Addr.add] using World.cell?_spot hn0
      subst hspot
      refine .inr ⟨by simp; exact h0, b, off, cap, by simp, by simpa using hle, ?_, fun j x hj => ?_⟩
      · simp only [Addr.add, World.cell?] at hn0
        split at hn0
        · rename_i hb; exact (Array.getElem?_eq_some_iff.1 hb).1
        · cases hn0
      · rw [List.getElem?_map] at hj
        obtain ⟨i, hi, hix⟩ := Option.map_eq_some_iff.1 hj
        have hil : i = j ∧ j < len := by
          have := List.getElem?_eq_some_iff.1 hi
          obtain ⟨h1, h2⟩ := this
          simp at h1 h2
          exact ⟨h2.symm, h1⟩
        obtain ⟨rfl, hil⟩ := hil
        obtain ⟨m0, m1, hm0, hm1⟩ := each i (by omega)
        rw [hm0, hm1] at hix
        simp only at hix
        subst hix
        rw [Addr.add_lit] at hm0 hm1
        rw [Addr.add_lit] at hm1
        exact ⟨hm0, hm1⟩
end
end Go.Proofs.Ytkpbohgadldpjaa
