/- A slice of picks that came in. -/
import Derived.Test.YtfenloempdhknaaPgen
import Derived.Test.YtfenloempdhknaaT14
namespace Go.Proofs.Ytfenloempdhknaa
open Go.ChangeShapes Go.WideShapes Go.ChangeAt Go.RowKit

theorem open_rdP_leaves : leaves Try.prog 8 44 = some [(0, 3), (1, 4), (2, 3)] := by kernel_rfl
theorem open_rdP_cells : Try.prog.cellsOf 44 = 3 := by kernel_rfl
section
variable {H : Type} {enc : TypeId × Value → H} {W : World}
def open_rdP_At (W : World) (a : Addr) (x : Pk) : Prop :=
  W.cell? (a.add 0) = some (.int .i64 x.i) ∧ W.cell? (a.add 1) = some (.bool x.wl) ∧ W.cell? (a.add 2) = some (.int .i64 x.s)
theorem open_rdP {ws : List Nat} {ps : List MemPlace} {v : Value} (h : LeafIn enc Try.prog W ws ps 22 v) : ∃ l : List Pk, RdP W v l := by
  rcases open_slice' Try.underlying22 h with rfl | ⟨a, len, cap, fuel, rfl, hle, hmax, hw, hel⟩
  · exact ⟨[], RdF.nil W 3⟩
  · have each : ∀ i, ∃ x : Pk, i < cap → open_rdP_At W (a.add (i * 3)) x := by
      intro i
      by_cases hi : i < cap
      · obtain ⟨cs, d, q, hcs, hd, _, _⟩ := hel i hi
        rw [open_rdP_cells] at hcs
        obtain ⟨h1, h2⟩ := cells_all hcs
        obtain ⟨x0, hx0, hc0⟩ := h2 0 (by omega)
        obtain ⟨x1, hx1, hc1⟩ := h2 1 (by omega)
        obtain ⟨x2, hx2, hc2⟩ := h2 2 (by omega)
        have hl := trod_leaves 8 44 _ open_rdP_leaves fuel cs d q hd
        obtain ⟨y0, hy0, hl0⟩ := hl (0, 3) (by simp)
        obtain ⟨y1, hy1, hl1⟩ := hl (1, 4) (by simp)
        obtain ⟨y2, hy2, hl2⟩ := hl (2, 3) (by simp)
        obtain ⟨n0, rfl, _⟩ := leaf_int Try.underlying3 hl0
        obtain ⟨n1, rfl⟩ := leaf_bool Try.underlying4 hl1
        obtain ⟨n2, rfl, _⟩ := leaf_int Try.underlying3 hl2
        obtain rfl := Option.some.inj (hx0.symm.trans hy0)
        obtain rfl := Option.some.inj (hx1.symm.trans hy1)
        obtain rfl := Option.some.inj (hx2.symm.trans hy2)
        exact ⟨⟨n0, n1, n2⟩, fun _ => ⟨hc0, hc1, hc2⟩⟩
      · exact ⟨⟨0, false, 0⟩, fun h => absurd h hi⟩
    obtain ⟨F, hF⟩ := Classical.axiomOfChoice each
    have hlen : ((List.range len).map F).length = len := by simp
    have hlx : (pkCells ((List.range len).map F)).length = len * 3 := by rw [pkCells_len, hlen]
    refine ⟨(List.range len).map F, ?_⟩
    show RdF W 3 _ ((List.range len).map F).length _
    rw [hlen]
    by_cases h0 : len = 0
    · subst h0
      exact ⟨by simp [pkCells], .inl ⟨rfl, _, _, rfl, fun h => by cases h⟩⟩
    · obtain ⟨b, off, spot⟩ := a
      have h00 := (hF 0 (by omega)).1
      have hspot : spot = none := by simpa [Addr.add] using World.cell?_spot h00
      subst hspot
      refine ⟨hlx, .inr ⟨by omega, b, off, cap, rfl, hle, ?_, fun j u hj => ?_⟩⟩
      · simp only [Addr.add, World.cell?] at h00
        split at h00
        · rename_i hb; exact (Array.getElem?_eq_some_iff.1 hb).1
        · cases h00
      · have hjl : j < len * 3 := by rw [← hlx]; exact (List.getElem?_eq_some_iff.1 hj).1
        have hi : j / 3 < len := by omega
        have hat : ((List.range len).map F)[j / 3]? = some (F (j / 3)) := by simp [hi]
        obtain ⟨g0, g1, g2⟩ := pkCells_at hat
        obtain ⟨k0, k1, k2⟩ := hF (j / 3) (by omega)
        simp only [Addr.add_lit] at k0 k1 k2
        rcases (show j = j / 3 * 3 ∨ j = j / 3 * 3 + 1 ∨ j = j / 3 * 3 + 2 from by omega) with e | e | e
        · rw [e] at hj ⊢; rw [g0] at hj; cases hj; simpa using k0
        · rw [e] at hj ⊢; rw [g1] at hj; cases hj; simpa [Nat.add_assoc] using k1
        · rw [e] at hj ⊢; rw [g2] at hj; cases hj; simpa [Nat.add_assoc] using k2
end
end Go.Proofs.Ytfenloempdhknaa
