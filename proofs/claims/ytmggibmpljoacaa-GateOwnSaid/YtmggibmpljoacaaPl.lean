/- A slice of letters that came in. -/
import Derived.Test.YtmggibmpljoacaaPgen
import Derived.Test.YtmggibmpljoacaaG1
namespace Go.Proofs.Ytmggibmpljoacaa
open Go.ChangeShapes Go.WideShapes Go.ChangeAt Go.RowKit

theorem leaves32 : leaves Try.prog 8 38 = some [(0, 36), (1, 3), (2, 3), (3, 3), (4, 9), (5, 26)] := by kernel_rfl
theorem cells32 : Try.prog.cellsOf 38 = 6 := by kernel_rfl
theorem bytes32 : Try.prog.bytesOf 38 = 56 := by kernel_rfl

section
variable {H : Type} {enc : TypeId × Value → H} {W : World}
def LtAt (W : World) (a : Addr) (x : Lt) : Prop :=
  W.cell? (a.add 0) = some (.int .i8 x.k) ∧ W.cell? (a.add 1) = some (.int .i64 x.f) ∧ W.cell? (a.add 2) = some (.int .i64 x.n) ∧ W.cell? (a.add 3) = some (.int .i64 x.s) ∧ W.cell? (a.add 4) = some (.string x.t) ∧ W.cell? (a.add 5) = some (.int .i64 x.e)
theorem open_rdL {ws : List Nat} {ps : List MemPlace} {v : Value} (h : LeafIn enc Try.prog W ws ps 23 v) : ∃ l : List Lt, RdL W v l := by
  rcases open_slice' Try.underlying23 h with rfl | ⟨a, len, cap, fuel, rfl, hle, hmax, hw, hel⟩
  · exact ⟨[], RdL.nil W⟩
  · have each : ∀ i, ∃ x : Lt, i < cap → LtAt W (a.add (i * 6)) x := by
      intro i
      by_cases hi : i < cap
      · obtain ⟨cs, d, q, hcs, hd, _, _⟩ := hel i hi
        rw [cells32] at hcs
        obtain ⟨h1, h2⟩ := cells_all hcs
        obtain ⟨x0, hx0, hc0⟩ := h2 0 (by omega)
        obtain ⟨x1, hx1, hc1⟩ := h2 1 (by omega)
        obtain ⟨x2, hx2, hc2⟩ := h2 2 (by omega)
        obtain ⟨x3, hx3, hc3⟩ := h2 3 (by omega)
        obtain ⟨x4, hx4, hc4⟩ := h2 4 (by omega)
        obtain ⟨x5, hx5, hc5⟩ := h2 5 (by omega)
        have hl := trod_leaves 8 38 _ leaves32 fuel cs d q hd
        obtain ⟨y0, hy0, hl0⟩ := hl (0, 36) (by simp)
        obtain ⟨y1, hy1, hl1⟩ := hl (1, 3) (by simp)
        obtain ⟨y2, hy2, hl2⟩ := hl (2, 3) (by simp)
        obtain ⟨y3, hy3, hl3⟩ := hl (3, 3) (by simp)
        obtain ⟨y4, hy4, hl4⟩ := hl (4, 9) (by simp)
        obtain ⟨y5, hy5, hl5⟩ := hl (5, 26) (by simp)
        obtain ⟨n0, rfl, _⟩ := leaf_int Try.underlying36 hl0
        obtain ⟨n1, rfl, _⟩ := leaf_int Try.underlying3 hl1
        obtain ⟨n2, rfl, _⟩ := leaf_int Try.underlying3 hl2
        obtain ⟨n3, rfl, _⟩ := leaf_int Try.underlying3 hl3
        obtain ⟨n4, rfl, _⟩ := leaf_string Try.underlying9 hl4
        obtain ⟨n5, rfl, _⟩ := leaf_int Try.underlying26 hl5
        obtain rfl := Option.some.inj (hx0.symm.trans hy0)
        obtain rfl := Option.some.inj (hx1.symm.trans hy1)
        obtain rfl := Option.some.inj (hx2.symm.trans hy2)
        obtain rfl := Option.some.inj (hx3.symm.trans hy3)
        obtain rfl := Option.some.inj (hx4.symm.trans hy4)
        obtain rfl := Option.some.inj (hx5.symm.trans hy5)
        exact ⟨⟨n0, n1, n2, n3, n5, n4⟩, fun _ => ⟨hc0, hc1, hc2, hc3, hc4, hc5⟩⟩
      · exact ⟨⟨0, 0, 0, 0, 0, ⟨#[]⟩⟩, fun h => absurd h hi⟩
    obtain ⟨F, hF⟩ := Classical.axiomOfChoice each
    have hlen : ((List.range len).map F).length = len := by simp
    have hlx : (ltCells ((List.range len).map F)).length = len * 6 := by rw [ltCells_len, hlen]
    refine ⟨(List.range len).map F, ?_⟩
    show RdF W 6 _ ((List.range len).map F).length _
    rw [hlen]
    by_cases h0 : len = 0
    · subst h0
      exact ⟨by simp [ltCells], .inl ⟨rfl, _, _, rfl, fun h => by cases h⟩⟩
    · obtain ⟨b, off, spot⟩ := a
      have h00 := (hF 0 (by omega)).1
      have hspot : spot = none := by simpa [Addr.add] using World.cell?_spot h00
      subst hspot
      refine ⟨hlx, .inr ⟨by omega, b, off, cap, rfl, hle, ?_, fun j u hj => ?_⟩⟩
      · simp only [Addr.add, World.cell?] at h00
        split at h00
        · rename_i hb; exact (Array.getElem?_eq_some_iff.1 hb).1
        · cases h00
      · have hjl : j < len * 6 := by rw [← hlx]; exact (List.getElem?_eq_some_iff.1 hj).1
        have hi : j / 6 < len := by omega
        have hat : ((List.range len).map F)[j / 6]? = some (F (j / 6)) := by simp [hi]
        obtain ⟨g0, g1, g2, g3, g4, g5⟩ := ltCells_at hat
        obtain ⟨k0, k1, k2, k3, k4, k5⟩ := hF (j / 6) (by omega)
        simp only [Addr.add_lit] at k0 k1 k2 k3 k4 k5
        rcases (show j = j / 6 * 6 ∨ j = j / 6 * 6 + 1 ∨ j = j / 6 * 6 + 2 ∨ j = j / 6 * 6 + 3 ∨ j = j / 6 * 6 + 4 ∨ j = j / 6 * 6 + 5 from by omega) with e | e | e | e | e | e
        · rw [e] at hj ⊢; rw [g0] at hj; cases hj; simpa using k0
        · rw [e] at hj ⊢; rw [g1] at hj; cases hj; simpa [Nat.add_assoc] using k1
        · rw [e] at hj ⊢; rw [g2] at hj; cases hj; simpa [Nat.add_assoc] using k2
        · rw [e] at hj ⊢; rw [g3] at hj; cases hj; simpa [Nat.add_assoc] using k3
        · rw [e] at hj ⊢; rw [g4] at hj; cases hj; simpa [Nat.add_assoc] using k4
        · rw [e] at hj ⊢; rw [g5] at hj; cases hj; simpa [Nat.add_assoc] using k5
end
end Go.Proofs.Ytmggibmpljoacaa
