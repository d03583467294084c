/- A slice of attempts that came in. -/
import Derived.Test.YtfenloempdhknaaPgen
import Derived.Test.YtfenloempdhknaaT1
namespace Go.Proofs.Ytfenloempdhknaa
open Go.ChangeShapes Go.WideShapes Go.ChangeAt Go.RowKit

theorem open_rdA_leaves : leaves Try.prog 8 30 = some [(0, 3), (1, 3), (2, 3), (3, 3), (4, 24), (5, 25), (6, 25), (7, 25), (8, 25), (9, 25), (10, 25), (11, 25), (12, 25), (13, 3), (14, 24), (15, 3)] := by kernel_rfl
theorem open_rdA_cells : Try.prog.cellsOf 30 = 16 := by kernel_rfl
section
variable {H : Type} {enc : TypeId × Value → H} {W : World}
def open_rdA_At (W : World) (a : Addr) (x : At) : Prop :=
  W.cell? (a.add 0) = some (.int .i64 x.id) ∧ W.cell? (a.add 1) = some (.int .i64 x.rc) ∧ W.cell? (a.add 2) = some (.int .i64 x.ow) ∧ W.cell? (a.add 3) = some (.int .i64 x.n) ∧ W.cell? (a.add 4) = some (.int .i8 x.f) ∧ W.cell? (a.add 5) = some (.int .u16 x.g0) ∧ W.cell? (a.add 6) = some (.int .u16 x.g1) ∧ W.cell? (a.add 7) = some (.int .u16 x.g2) ∧ W.cell? (a.add 8) = some (.int .u16 x.g3) ∧ W.cell? (a.add 9) = some (.int .u16 x.g4) ∧ W.cell? (a.add 10) = some (.int .u16 x.g5) ∧ W.cell? (a.add 11) = some (.int .u16 x.g6) ∧ W.cell? (a.add 12) = some (.int .u16 x.g7) ∧ W.cell? (a.add 13) = some (.int .i64 x.p) ∧ W.cell? (a.add 14) = some (.int .i8 x.st) ∧ W.cell? (a.add 15) = some (.int .i64 x.sk)
theorem open_rdA {ws : List Nat} {ps : List MemPlace} {v : Value} (h : LeafIn enc Try.prog W ws ps 52 v) : ∃ l : List At, RdA W v l := by
  rcases open_slice' Try.underlying52 h with rfl | ⟨a, len, cap, fuel, rfl, hle, hmax, hw, hel⟩
  · exact ⟨[], RdF.nil W 16⟩
  · have each : ∀ i, ∃ x : At, i < cap → open_rdA_At W (a.add (i * 16)) x := by
      intro i
      by_cases hi : i < cap
      · obtain ⟨cs, d, q, hcs, hd, _, _⟩ := hel i hi
        rw [open_rdA_cells] at hcs
        obtain ⟨h1, h2⟩ := cells_all hcs
        obtain ⟨x0, hx0, hc0⟩ := h2 0 (by omega)
        obtain ⟨x1, hx1, hc1⟩ := h2 1 (by omega)
        obtain ⟨x2, hx2, hc2⟩ := h2 2 (by omega)
        obtain ⟨x3, hx3, hc3⟩ := h2 3 (by omega)
        obtain ⟨x4, hx4, hc4⟩ := h2 4 (by omega)
        obtain ⟨x5, hx5, hc5⟩ := h2 5 (by omega)
        obtain ⟨x6, hx6, hc6⟩ := h2 6 (by omega)
        obtain ⟨x7, hx7, hc7⟩ := h2 7 (by omega)
        obtain ⟨x8, hx8, hc8⟩ := h2 8 (by omega)
        obtain ⟨x9, hx9, hc9⟩ := h2 9 (by omega)
        obtain ⟨x10, hx10, hc10⟩ := h2 10 (by omega)
        obtain ⟨x11, hx11, hc11⟩ := h2 11 (by omega)
        obtain ⟨x12, hx12, hc12⟩ := h2 12 (by omega)
        obtain ⟨x13, hx13, hc13⟩ := h2 13 (by omega)
        obtain ⟨x14, hx14, hc14⟩ := h2 14 (by omega)
        obtain ⟨x15, hx15, hc15⟩ := h2 15 (by omega)
        have hl := trod_leaves 8 30 _ open_rdA_leaves fuel cs d q hd
        obtain ⟨y0, hy0, hl0⟩ := hl (0, 3) (by simp)
        obtain ⟨y1, hy1, hl1⟩ := hl (1, 3) (by simp)
        obtain ⟨y2, hy2, hl2⟩ := hl (2, 3) (by simp)
        obtain ⟨y3, hy3, hl3⟩ := hl (3, 3) (by simp)
        obtain ⟨y4, hy4, hl4⟩ := hl (4, 24) (by simp)
        obtain ⟨y5, hy5, hl5⟩ := hl (5, 25) (by simp)
        obtain ⟨y6, hy6, hl6⟩ := hl (6, 25) (by simp)
        obtain ⟨y7, hy7, hl7⟩ := hl (7, 25) (by simp)
        obtain ⟨y8, hy8, hl8⟩ := hl (8, 25) (by simp)
        obtain ⟨y9, hy9, hl9⟩ := hl (9, 25) (by simp)
        obtain ⟨y10, hy10, hl10⟩ := hl (10, 25) (by simp)
        obtain ⟨y11, hy11, hl11⟩ := hl (11, 25) (by simp)
        obtain ⟨y12, hy12, hl12⟩ := hl (12, 25) (by simp)
        obtain ⟨y13, hy13, hl13⟩ := hl (13, 3) (by simp)
        obtain ⟨y14, hy14, hl14⟩ := hl (14, 24) (by simp)
        obtain ⟨y15, hy15, hl15⟩ := hl (15, 3) (by simp)
        obtain ⟨n0, rfl, _⟩ := leaf_int Try.underlying3 hl0
        obtain ⟨n1, rfl, _⟩ := leaf_int Try.underlying3 hl1
        obtain ⟨n2, rfl, _⟩ := leaf_int Try.underlying3 hl2
        obtain ⟨n3, rfl, _⟩ := leaf_int Try.underlying3 hl3
        obtain ⟨n4, rfl, _⟩ := leaf_int Try.underlying24 hl4
        obtain ⟨n5, rfl, _⟩ := leaf_int Try.underlying25 hl5
        obtain ⟨n6, rfl, _⟩ := leaf_int Try.underlying25 hl6
        obtain ⟨n7, rfl, _⟩ := leaf_int Try.underlying25 hl7
        obtain ⟨n8, rfl, _⟩ := leaf_int Try.underlying25 hl8
        obtain ⟨n9, rfl, _⟩ := leaf_int Try.underlying25 hl9
        obtain ⟨n10, rfl, _⟩ := leaf_int Try.underlying25 hl10
        obtain ⟨n11, rfl, _⟩ := leaf_int Try.underlying25 hl11
        obtain ⟨n12, rfl, _⟩ := leaf_int Try.underlying25 hl12
        obtain ⟨n13, rfl, _⟩ := leaf_int Try.underlying3 hl13
        obtain ⟨n14, rfl, _⟩ := leaf_int Try.underlying24 hl14
        obtain ⟨n15, rfl, _⟩ := leaf_int Try.underlying3 hl15
        obtain rfl := Option.some.inj (hx0.symm.trans hy0)
        obtain rfl := Option.some.inj (hx1.symm.trans hy1)
        obtain rfl := Option.some.inj (hx2.symm.trans hy2)
        obtain rfl := Option.some.inj (hx3.symm.trans hy3)
        obtain rfl := Option.some.inj (hx4.symm.trans hy4)
        obtain rfl := Option.some.inj (hx5.symm.trans hy5)
        obtain rfl := Option.some.inj (hx6.symm.trans hy6)
        obtain rfl := Option.some.inj (hx7.symm.trans hy7)
        obtain rfl := Option.some.inj (hx8.symm.trans hy8)
        obtain rfl := Option.some.inj (hx9.symm.trans hy9)
        obtain rfl := Option.some.inj (hx10.symm.trans hy10)
        obtain rfl := Option.some.inj (hx11.symm.trans hy11)
        obtain rfl := Option.some.inj (hx12.symm.trans hy12)
        obtain rfl := Option.some.inj (hx13.symm.trans hy13)
        obtain rfl := Option.some.inj (hx14.symm.trans hy14)
        obtain rfl := Option.some.inj (hx15.symm.trans hy15)
        exact ⟨⟨n0, n1, n2, n3, n4, n5, n6, n7, n8, n9, n10, n11, n12, n13, n14, n15⟩, fun _ => ⟨hc0, hc1, hc2, hc3, hc4, hc5, hc6, hc7, hc8, hc9, hc10, hc11, hc12, hc13, hc14, hc15⟩⟩
      · exact ⟨⟨0, 0, 0, 0, 0, 0, 0, 0, 0, 0, 0, 0, 0, 0, 0, 0⟩, fun h => absurd h hi⟩
    obtain ⟨F, hF⟩ := Classical.axiomOfChoice each
    have hlen : ((List.range len).map F).length = len := by simp
    have hlx : (atCells ((List.range len).map F)).length = len * 16 := by rw [atCells_len, hlen]
    refine ⟨(List.range len).map F, ?_⟩
    show RdF W 16 _ ((List.range len).map F).length _
    rw [hlen]
    by_cases h0 : len = 0
    · subst h0
      exact ⟨by simp [atCells], .inl ⟨rfl, _, _, rfl, fun h => by cases h⟩⟩
    · obtain ⟨b, off, spot⟩ := a
      have h00 := (hF 0 (by omega)).1
      have hspot : spot = none := by simpa [Addr.add] using World.cell?_spot h00
      subst hspot
      refine ⟨hlx, .inr ⟨by omega, b, off, cap, rfl, hle, ?_, fun j u hj => ?_⟩⟩
      · simp only [Addr.add, World.cell?] at h00
        split at h00
        · rename_i hb; exact (Array.getElem?_eq_some_iff.1 hb).1
        · cases h00
      · have hjl : j < len * 16 := by rw [← hlx]; exact (List.getElem?_eq_some_iff.1 hj).1
        have hi : j / 16 < len := by omega
        have hat : ((List.range len).map F)[j / 16]? = some (F (j / 16)) := by simp [hi]
        obtain ⟨g0, g1, g2, g3, g4, g5, g6, g7, g8, g9, g10, g11, g12, g13, g14, g15⟩ := atCells_at hat
        obtain ⟨k0, k1, k2, k3, k4, k5, k6, k7, k8, k9, k10, k11, k12, k13, k14, k15⟩ := hF (j / 16) (by omega)
        simp only [Addr.add_lit] at k0 k1 k2 k3 k4 k5 k6 k7 k8 k9 k10 k11 k12 k13 k14 k15
        rcases (show j = j / 16 * 16 ∨ j = j / 16 * 16 + 1 ∨ j = j / 16 * 16 + 2 ∨ j = j / 16 * 16 + 3 ∨ j = j / 16 * 16 + 4 ∨ j = j / 16 * 16 + 5 ∨ j = j / 16 * 16 + 6 ∨ j = j / 16 * 16 + 7 ∨ j = j / 16 * 16 + 8 ∨ j = j / 16 * 16 + 9 ∨ j = j / 16 * 16 + 10 ∨ j = j / 16 * 16 + 11 ∨ j = j / 16 * 16 + 12 ∨ j = j / 16 * 16 + 13 ∨ j = j / 16 * 16 + 14 ∨ j = j / 16 * 16 + 15 from by omega) with e | e | e | e | e | e | e | e | e | e | e | e | e | e | e | e
        · rw [e] at hj ⊢; rw [g0] at hj; cases hj; simpa using k0
        · rw [e] at hj ⊢; rw [g1] at hj; cases hj; simpa [Nat.add_assoc] using k1
        · rw [e] at hj ⊢; rw [g2] at hj; cases hj; simpa [Nat.add_assoc] using k2
        · rw [e] at hj ⊢; rw [g3] at hj; cases hj; simpa [Nat.add_assoc] using k3
        · rw [e] at hj ⊢; rw [g4] at hj; cases hj; simpa [Nat.add_assoc] using k4
        · rw [e] at hj ⊢; rw [g5] at hj; cases hj; simpa [Nat.add_assoc] using k5
        · rw [e] at hj ⊢; rw [g6] at hj; cases hj; simpa [Nat.add_assoc] using k6
        · rw [e] at hj ⊢; rw [g7] at hj; cases hj; simpa [Nat.add_assoc] using k7
        · rw [e] at hj ⊢; rw [g8] at hj; cases hj; simpa [Nat.add_assoc] using k8
        · rw [e] at hj ⊢; rw [g9] at hj; cases hj; simpa [Nat.add_assoc] using k9
        · rw [e] at hj ⊢; rw [g10] at hj; cases hj; simpa [Nat.add_assoc] using k10
        · rw [e] at hj ⊢; rw [g11] at hj; cases hj; simpa [Nat.add_assoc] using k11
        · rw [e] at hj ⊢; rw [g12] at hj; cases hj; simpa [Nat.add_assoc] using k12
        · rw [e] at hj ⊢; rw [g13] at hj; cases hj; simpa [Nat.add_assoc] using k13
        · rw [e] at hj ⊢; rw [g14] at hj; cases hj; simpa [Nat.add_assoc] using k14
        · rw [e] at hj ⊢; rw [g15] at hj; cases hj; simpa [Nat.add_assoc] using k15
end
end Go.Proofs.Ytfenloempdhknaa
