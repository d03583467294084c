/- Rows of cases, ducts, truths that came in. -/
import Derived.Test.YtcdmhldhhjolpaaPgen
import Derived.Test.YtcdmhldhhjolpaaO1
import Derived.DataShut
namespace Go.Proofs.Ytcdmhldhhjolpaa
open Go.ChangeShapes Go.WideShapes Go.ChangeAt Go.RowKit

theorem open_rdO_leaves : leaves Try.prog 8 38 = some [(0, 33), (1, 3), (2, 33), (3, 3), (4, 3), (5, 3), (6, 9), (7, 34), (8, 3)] := by kernel_rfl
theorem open_rdO_cells : Try.prog.cellsOf 38 = 9 := by kernel_rfl
section
variable {H : Type} {enc : TypeId × Value → H} {W : World}
def open_rdO_At (W : World) (a : Addr) (x : Ofr) : Prop :=
  W.cell? (a.add 0) = some (.int .i8 x.k) ∧ W.cell? (a.add 1) = some (.int .i64 x.d) ∧ W.cell? (a.add 2) = some (.int .i8 x.m.k) ∧ W.cell? (a.add 3) = some (.int .i64 x.m.f) ∧ W.cell? (a.add 4) = some (.int .i64 x.m.n) ∧ W.cell? (a.add 5) = some (.int .i64 x.m.s) ∧ W.cell? (a.add 6) = some (.string x.m.t) ∧ W.cell? (a.add 7) = some (.int .i64 x.m.e) ∧ W.cell? (a.add 8) = some (.int .i64 x.t) ∧ x.k ≤ 127
theorem open_rdO {ws : List Nat} {ps : List MemPlace} {v : Value} (h : LeafIn enc Try.prog W ws ps 31 v) : ∃ l : List Ofr, RdO W v l ∧ ∀ o ∈ l, o.k ≤ 127 := by
  rcases open_slice' Try.underlying31 h with rfl | ⟨a, len, cap, fuel, rfl, hle, hmax, hw, hel⟩
  · exact ⟨[], RdF.nil W 9, by simp⟩
  · have each : ∀ i, ∃ x : Ofr, i < cap → open_rdO_At W (a.add (i * 9)) x := by
      intro i
      by_cases hi : i < cap
      · obtain ⟨cs, d, q, hcs, hd, _, _⟩ := hel i hi
        rw [open_rdO_cells] at hcs
        obtain ⟨h1, h2⟩ := cells_all hcs
        obtain ⟨x0, hx0, hc0⟩ := h2 0 (by omega)
        obtain ⟨x1, hx1, hc1⟩ := h2 1 (by omega)
        obtain ⟨x2, hx2, hc2⟩ := h2 2 (by omega)
        obtain ⟨x3, hx3, hc3⟩ := h2 3 (by omega)
        obtain ⟨x4, hx4, hc4⟩ := h2 4 (by omega)
        obtain ⟨x5, hx5, hc5⟩ := h2 5 (by omega)
        obtain ⟨x6, hx6, hc6⟩ := h2 6 (by omega)
        obtain ⟨x7, hx7, hc7⟩ := h2 7 (by omega)
        obtain ⟨x8, hx8, hc8⟩ := h2 8 (by omega)
        have hl := trod_leaves 8 38 _ open_rdO_leaves fuel cs d q hd
        obtain ⟨y0, hy0, hl0⟩ := hl (0, 33) (by simp)
        obtain ⟨y1, hy1, hl1⟩ := hl (1, 3) (by simp)
        obtain ⟨y2, hy2, hl2⟩ := hl (2, 33) (by simp)
        obtain ⟨y3, hy3, hl3⟩ := hl (3, 3) (by simp)
        obtain ⟨y4, hy4, hl4⟩ := hl (4, 3) (by simp)
        obtain ⟨y5, hy5, hl5⟩ := hl (5, 3) (by simp)
        obtain ⟨y6, hy6, hl6⟩ := hl (6, 9) (by simp)
        obtain ⟨y7, hy7, hl7⟩ := hl (7, 34) (by simp)
        obtain ⟨y8, hy8, hl8⟩ := hl (8, 3) (by simp)
        obtain ⟨n0, rfl, w0⟩ := leaf_int Try.underlying33 hl0
        obtain ⟨n1, rfl, _⟩ := leaf_int Try.underlying3 hl1
        obtain ⟨n2, rfl, _⟩ := leaf_int Try.underlying33 hl2
        obtain ⟨n3, rfl, _⟩ := leaf_int Try.underlying3 hl3
        obtain ⟨n4, rfl, _⟩ := leaf_int Try.underlying3 hl4
        obtain ⟨n5, rfl, _⟩ := leaf_int Try.underlying3 hl5
        obtain ⟨n6, rfl, _⟩ := leaf_string Try.underlying9 hl6
        obtain ⟨n7, rfl, _⟩ := leaf_int Try.underlying34 hl7
        obtain ⟨n8, rfl, _⟩ := leaf_int Try.underlying3 hl8
        obtain rfl := Option.some.inj (hx0.symm.trans hy0)
        obtain rfl := Option.some.inj (hx1.symm.trans hy1)
        obtain rfl := Option.some.inj (hx2.symm.trans hy2)
        obtain rfl := Option.some.inj (hx3.symm.trans hy3)
        obtain rfl := Option.some.inj (hx4.symm.trans hy4)
        obtain rfl := Option.some.inj (hx5.symm.trans hy5)
        obtain rfl := Option.some.inj (hx6.symm.trans hy6)
        obtain rfl := Option.some.inj (hx7.symm.trans hy7)
        obtain rfl := Option.some.inj (hx8.symm.trans hy8)
        exact ⟨⟨n0, n1, ⟨n2, n3, n4, n5, n6, n7⟩, n8⟩, fun _ => ⟨hc0, hc1, hc2, hc3, hc4, hc5, hc6, hc7, hc8, ((Lit.wf_int_iff _ _).1 w0).2⟩⟩
      · exact ⟨⟨0, 0, ⟨0, 0, 0, 0, ⟨#[]⟩, 0⟩, 0⟩, fun h => absurd h hi⟩
    obtain ⟨F, hF⟩ := Classical.axiomOfChoice each
    have hlen : ((List.range len).map F).length = len := by simp
    have hlx : (ofCells ((List.range len).map F)).length = len * 9 := by rw [ofCells_len, hlen]
    refine ⟨(List.range len).map F, ?_, fun o ho => by obtain ⟨i, hi, rfl⟩ := List.mem_map.1 ho; exact (hF i (by have := List.mem_range.1 hi; omega)).2.2.2.2.2.2.2.2.2⟩
    show RdF W 9 _ ((List.range len).map F).length _
    rw [hlen]
    by_cases h0 : len = 0
    · subst h0
      exact ⟨by simp [ofCells], .inl ⟨rfl, _, _, rfl, fun h => by cases h⟩⟩
    · obtain ⟨b, off, spot⟩ := a
      have h00 := (hF 0 (by omega)).1
      have hspot : spot = none := by simpa [Addr.add] using World.cell?_spot h00
      subst hspot
      refine ⟨hlx, .inr ⟨by omega, b, off, cap, rfl, hle, ?_, fun j u hj => ?_⟩⟩
      · simp only [Addr.add, World.cell?] at h00
        split at h00
        · rename_i hb; exact (Array.getElem?_eq_some_iff.1 hb).1
        · cases h00
      · have hjl : j < len * 9 := by rw [← hlx]; exact (List.getElem?_eq_some_iff.1 hj).1
        have hi : j / 9 < len := by omega
        have hat : ((List.range len).map F)[j / 9]? = some (F (j / 9)) := by simp [hi]
        obtain ⟨g0, g1, g2, g3, g4, g5, g6, g7, g8⟩ := ofCells_at hat
        obtain ⟨k0, k1, k2, k3, k4, k5, k6, k7, k8, _⟩ := hF (j / 9) (by omega)
        simp only [Addr.add_lit] at k0 k1 k2 k3 k4 k5 k6 k7 k8
        rcases (show j = j / 9 * 9 ∨ j = j / 9 * 9 + 1 ∨ j = j / 9 * 9 + 2 ∨ j = j / 9 * 9 + 3 ∨ j = j / 9 * 9 + 4 ∨ j = j / 9 * 9 + 5 ∨ j = j / 9 * 9 + 6 ∨ j = j / 9 * 9 + 7 ∨ j = j / 9 * 9 + 8 from by omega) with e | e | e | e | e | e | e | e | e
        · rw [e] at hj ⊢; rw [g0] at hj; cases hj; simpa using k0
        · rw [e] at hj ⊢; rw [g1] at hj; cases hj; simpa [Nat.add_assoc] using k1
        · rw [e] at hj ⊢; rw [g2] at hj; cases hj; simpa [Nat.add_assoc] using k2
        · rw [e] at hj ⊢; rw [g3] at hj; cases hj; simpa [Nat.add_assoc] using k3
        · rw [e] at hj ⊢; rw [g4] at hj; cases hj; simpa [Nat.add_assoc] using k4
        · rw [e] at hj ⊢; rw [g5] at hj; cases hj; simpa [Nat.add_assoc] using k5
        · rw [e] at hj ⊢; rw [g6] at hj; cases hj; simpa [Nat.add_assoc] using k6
        · rw [e] at hj ⊢; rw [g7] at hj; cases hj; simpa [Nat.add_assoc] using k7
        · rw [e] at hj ⊢; rw [g8] at hj; cases hj; simpa [Nat.add_assoc] using k8
end

section
variable {H : Type} {enc : TypeId × Value → H} {W : World}
theorem leaf_slice_shape {ws : List Nat} {ps : List MemPlace} {t e : TypeId} {v : Value} (hu : Try.prog.underlying t = some (.slice e)) (h : LeafIn enc Try.prog W ws ps t v) : ∃ a n c, v = .slice a n c := by
  rcases open_slice' hu h with rfl | ⟨a, len, cap, fuel, rfl, _⟩
  · exact ⟨_, _, _, rfl⟩
  · exact ⟨_, _, _, rfl⟩
end

theorem open_rdU_leaves : leaves Try.prog 8 42 = some [(0, 3), (1, 40), (2, 4)] := by kernel_rfl
theorem open_rdU_cells : Try.prog.cellsOf 42 = 3 := by kernel_rfl
section
variable {H : Type} {enc : TypeId × Value → H} {W : World}
def open_rdU_At (W : World) (a : Addr) (x : Du) : Prop :=
  W.cell? (a.add 0) = some (.int .i64 x.c) ∧ W.cell? (a.add 1) = some (.slice x.a x.n x.p) ∧ W.cell? (a.add 2) = some (.bool x.b)
theorem open_rdU {ws : List Nat} {ps : List MemPlace} {v : Value} (h : LeafIn enc Try.prog W ws ps 23 v) : ∃ l : List Du, RdU W v l := by
  rcases open_slice' Try.underlying23 h with rfl | ⟨a, len, cap, fuel, rfl, hle, hmax, hw, hel⟩
  · exact ⟨[], RdF.nil W 3⟩
  · have each : ∀ i, ∃ x : Du, i < cap → open_rdU_At W (a.add (i * 3)) x := by
      intro i
      by_cases hi : i < cap
      · obtain ⟨cs, d, q, hcs, hd, _, _⟩ := hel i hi
        rw [open_rdU_cells] at hcs
        obtain ⟨h1, h2⟩ := cells_all hcs
        obtain ⟨x0, hx0, hc0⟩ := h2 0 (by omega)
        obtain ⟨x1, hx1, hc1⟩ := h2 1 (by omega)
        obtain ⟨x2, hx2, hc2⟩ := h2 2 (by omega)
        have hl := trod_leaves 8 42 _ open_rdU_leaves fuel cs d q hd
        obtain ⟨y0, hy0, hl0⟩ := hl (0, 3) (by simp)
        obtain ⟨y1, hy1, hl1⟩ := hl (1, 40) (by simp)
        obtain ⟨y2, hy2, hl2⟩ := hl (2, 4) (by simp)
        obtain ⟨n0, rfl, _⟩ := leaf_int Try.underlying3 hl0
        obtain ⟨a1, m1, c1, rfl⟩ := leaf_slice_shape Try.underlying40 hl1
        obtain ⟨n2, rfl⟩ := leaf_bool Try.underlying4 hl2
        obtain rfl := Option.some.inj (hx0.symm.trans hy0)
        obtain rfl := Option.some.inj (hx1.symm.trans hy1)
        obtain rfl := Option.some.inj (hx2.symm.trans hy2)
        exact ⟨⟨n0, a1, m1, c1, n2⟩, fun _ => ⟨hc0, hc1, hc2⟩⟩
      · exact ⟨⟨0, none, 0, 0, false⟩, fun h => absurd h hi⟩
    obtain ⟨F, hF⟩ := Classical.axiomOfChoice each
    have hlen : ((List.range len).map F).length = len := by simp
    have hlx : (duCells ((List.range len).map F)).length = len * 3 := by rw [duCells_len, hlen]
    refine ⟨(List.range len).map F, ?_⟩
    show RdF W 3 _ ((List.range len).map F).length _
    rw [hlen]
    by_cases h0 : len = 0
    · subst h0
      exact ⟨by simp [duCells], .inl ⟨rfl, _, _, rfl, fun h => by cases h⟩⟩
    · obtain ⟨b, off, spot⟩ := a
      have h00 := (hF 0 (by omega)).1
      have hspot : spot = none := by simpa [Addr.add] using World.cell?_spot h00
      subst hspot
      refine ⟨hlx, .inr ⟨by omega, b, off, cap, rfl, hle, ?_, fun j u hj => ?_⟩⟩
      · simp only [Addr.add, World.cell?] at h00
        split at h00
        · rename_i hb; exact (Array.getElem?_eq_some_iff.1 hb).1
        · cases h00
      · have hjl : j < len * 3 := by rw [← hlx]; exact (List.getElem?_eq_some_iff.1 hj).1
        have hi : j / 3 < len := by omega
        have hat : ((List.range len).map F)[j / 3]? = some (F (j / 3)) := by simp [hi]
        obtain ⟨g0, g1, g2⟩ := duCells_at hat
        obtain ⟨k0, k1, k2⟩ := hF (j / 3) (by omega)
        simp only [Addr.add_lit] at k0 k1 k2
        rcases (show j = j / 3 * 3 ∨ j = j / 3 * 3 + 1 ∨ j = j / 3 * 3 + 2 from by omega) with e | e | e
        · rw [e] at hj ⊢; rw [g0] at hj; cases hj; simpa using k0
        · rw [e] at hj ⊢; rw [g1] at hj; cases hj; simpa [Nat.add_assoc] using k1
        · rw [e] at hj ⊢; rw [g2] at hj; cases hj; simpa [Nat.add_assoc] using k2
end

def bCells (l : List Bool) : List Value := l.map Value.bool
theorem bCells_len (l : List Bool) : (bCells l).length = l.length * 1 := by simp [bCells]
theorem bCells_at {l : List Bool} {k : Nat} {x : Bool} (h : l[k]? = some x) : (bCells l)[k * 1]? = some (.bool x) := by rw [Nat.mul_one, bCells, List.getElem?_map, h]; rfl

theorem open_rdB_leaves : leaves Try.prog 8 4 = some [(0, 4)] := by kernel_rfl
theorem open_rdB_cells : Try.prog.cellsOf 4 = 1 := by kernel_rfl
section
variable {H : Type} {enc : TypeId × Value → H} {W : World}
def open_rdB_At (W : World) (a : Addr) (x : Bool) : Prop :=
  W.cell? (a.add 0) = some (.bool x)
theorem open_rdB {ws : List Nat} {ps : List MemPlace} {v : Value} (h : LeafIn enc Try.prog W ws ps 24 v) : ∃ l : List Bool, RdB W v l := by
  rcases open_slice' Try.underlying24 h with rfl | ⟨a, len, cap, fuel, rfl, hle, hmax, hw, hel⟩
  · exact ⟨[], RdF.nil W 1⟩
  · have each : ∀ i, ∃ x : Bool, i < cap → open_rdB_At W (a.add (i * 1)) x := by
      intro i
      by_cases hi : i < cap
      · obtain ⟨cs, d, q, hcs, hd, _, _⟩ := hel i hi
        rw [open_rdB_cells] at hcs
        obtain ⟨h1, h2⟩ := cells_all hcs
        obtain ⟨x0, hx0, hc0⟩ := h2 0 (by omega)
        have hl := trod_leaves 8 4 _ open_rdB_leaves fuel cs d q hd
        obtain ⟨y0, hy0, hl0⟩ := hl (0, 4) (by simp)
        obtain ⟨n0, rfl⟩ := leaf_bool Try.underlying4 hl0
        obtain rfl := Option.some.inj (hx0.symm.trans hy0)
        exact ⟨n0, fun _ => hc0⟩
      · exact ⟨false, fun h => absurd h hi⟩
    obtain ⟨F, hF⟩ := Classical.axiomOfChoice each
    have hlen : ((List.range len).map F).length = len := by simp
    have hlx : (bCells ((List.range len).map F)).length = len * 1 := by rw [bCells_len, hlen]
    refine ⟨(List.range len).map F, ?_⟩
    show RdF W 1 _ ((List.range len).map F).length _
    rw [hlen]
    by_cases h0 : len = 0
    · subst h0
      exact ⟨by simp [bCells], .inl ⟨rfl, _, _, rfl, fun h => by cases h⟩⟩
    · obtain ⟨b, off, spot⟩ := a
      have h00 := hF 0 (by omega)
      have hspot : spot = none := by simpa [Addr.add] using World.cell?_spot h00
      subst hspot
      refine ⟨hlx, .inr ⟨by omega, b, off, cap, rfl, hle, ?_, fun j u hj => ?_⟩⟩
      · simp only [open_rdB_At, Addr.add, World.cell?] at h00
        split at h00
        · rename_i hb; exact (Array.getElem?_eq_some_iff.1 hb).1
        · cases h00
      · have hjl : j < len * 1 := by rw [← hlx]; exact (List.getElem?_eq_some_iff.1 hj).1
        have hi : j / 1 < len := by omega
        have hil : j < len := by omega
        have k0 := hF j (by omega)
        have hjj : ((List.range len).map F)[j]? = some (F j) := by rw [List.getElem?_map, List.getElem?_range hil]; rfl
        rw [List.getElem?_map, hjj] at hj
        cases hj
        simp only [open_rdB_At, Addr.add_lit, Nat.mul_one] at k0
        exact k0
end

theorem open_rdRR_leaves : leaves Try.prog 8 31 = some [(0, 31)] := by kernel_rfl
theorem open_rdRR_cells : Try.prog.cellsOf 31 = 1 := by kernel_rfl
section
variable {H : Type} {enc : TypeId × Value → H} {W : World}
theorem open_rdRR {ws : List Nat} {ps : List MemPlace} {v : Value} (h : LeafIn enc Try.prog W ws ps 22 v) : ∃ l : List (List Ofr), RdRR W v l ∧ ∀ r ∈ l, ∀ o ∈ r, o.k ≤ 127 := by
  rcases open_slice' Try.underlying22 h with rfl | ⟨a, len, cap, fuel, rfl, hle, hmax, hw, hel⟩
  · exact ⟨[], ⟨[], RdF.nil W 1, fun i r hr => by simp at hr⟩, by simp⟩
  · have each : ∀ i, ∃ x : Value × List Ofr, i < cap → W.cell? (a.add (i * 1)) = some x.1 ∧ RdO W x.1 x.2 ∧ ∀ o ∈ x.2, o.k ≤ 127 := by
      intro i
      by_cases hi : i < cap
      · obtain ⟨cs, d, q, hcs, hd, _, _⟩ := hel i hi
        rw [open_rdRR_cells] at hcs
        obtain ⟨h1, h2⟩ := cells_all hcs
        obtain ⟨x0, hx0, hc0⟩ := h2 0 (by omega)
        have hl := trod_leaves 8 31 _ open_rdRR_leaves fuel cs d q hd
        obtain ⟨y0, hy0, hl0⟩ := hl (0, 31) (by simp)
        obtain rfl := Option.some.inj (hx0.symm.trans hy0)
        obtain ⟨l, hl, hk⟩ := open_rdO hl0
        exact ⟨(x0, l), fun _ => ⟨hc0, hl, hk⟩⟩
      · exact ⟨(undef, []), fun h => absurd h hi⟩
    obtain ⟨F, hF⟩ := Classical.axiomOfChoice each
    have hlen : ((List.range len).map fun i => (F i).2).length = len := by simp
    refine ⟨(List.range len).map fun i => (F i).2, ⟨(List.range len).map fun i => (F i).1, ?_, fun i r hr => ?_⟩, fun r hr o ho => ?_⟩
    · rw [hlen]
      by_cases h0 : len = 0
      · subst h0
        exact ⟨by simp, .inl ⟨rfl, _, _, rfl, fun h => by cases h⟩⟩
      · obtain ⟨b, off, spot⟩ := a
        have h00 := (hF 0 (by omega)).1
        have hspot : spot = none := by simpa [Addr.add] using World.cell?_spot h00
        subst hspot
        refine ⟨by simp, .inr ⟨by omega, b, off, cap, rfl, hle, ?_, fun j u hj => ?_⟩⟩
        · simp only [Addr.add, World.cell?] at h00
          split at h00
          · rename_i hb; exact (Array.getElem?_eq_some_iff.1 hb).1
          · cases h00
        · rw [List.getElem?_map] at hj
          obtain ⟨i, hi, hix⟩ := Option.map_eq_some_iff.1 hj
          have hil : i = j ∧ j < len := by
            obtain ⟨h1, h2⟩ := List.getElem?_eq_some_iff.1 hi
            simp at h1 h2
            exact ⟨h2.symm, h1⟩
          obtain ⟨rfl, hil⟩ := hil
          have k0 := (hF i (by omega)).1
          rw [Addr.add_lit, Nat.mul_one, hix] at k0
          exact k0
    · rw [List.getElem?_map] at hr
      obtain ⟨j, hj, hjx⟩ := Option.map_eq_some_iff.1 hr
      have hil : j = i ∧ i < len := by
        obtain ⟨h1, h2⟩ := List.getElem?_eq_some_iff.1 hj
        simp at h1 h2
        exact ⟨h2.symm, h1⟩
      obtain ⟨rfl, hil⟩ := hil
      exact ⟨(F j).1, by rw [List.getElem?_map, hj]; rfl, hjx ▸ (hF j (by omega)).2.1⟩
    · obtain ⟨i, hi, rfl⟩ := List.mem_map.1 hr
      exact (hF i (by have := List.mem_range.1 hi; omega)).2.2 o ho
end
end Go.Proofs.Ytcdmhldhhjolpaa
