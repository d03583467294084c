/- A slice of truths that came in. -/
import Derived.Test.YtmggibmpljoacaaPgen
import Derived.Test.YtmggibmpljoacaaG8
namespace Go.Proofs.Ytmggibmpljoacaa
open Go.ChangeShapes Go.WideShapes Go.ChangeAt Go.RowKit

theorem leaves4 : leaves Try.prog 8 4 = some [(0, 4)] := by kernel_rfl
theorem cells4 : Try.prog.cellsOf 4 = 1 := by kernel_rfl
section
variable {H : Type} {enc : TypeId × Value → H} {W : World}
theorem open_rdB {ws : List Nat} {ps : List MemPlace} {v : Value} (h : LeafIn enc Try.prog W ws ps 22 v) : ∃ l : List Bool, RdB W v l := by
  rcases open_slice' Try.underlying22 h with rfl | ⟨a, len, cap, fuel, rfl, hle, hmax, hw, hel⟩
  · exact ⟨[], RdF.nil W 1⟩
  · have each : ∀ i, ∃ x : Bool, i < cap → W.cell? (a.add i) = some (.bool x) := by
      intro i
      by_cases hi : i < cap
      · obtain ⟨cs, d, q, hcs, hd, _, _⟩ := hel i hi
        rw [cells4] at hcs
        obtain ⟨h1, h2⟩ := cells_all hcs
        obtain ⟨x0, hx0, hc0⟩ := h2 0 (by omega)
        have hl := trod_leaves 8 4 _ leaves4 fuel cs d q hd
        obtain ⟨y0, hy0, hl0⟩ := hl (0, 4) (by simp)
        obtain ⟨n0, rfl⟩ := leaf_bool Try.underlying4 hl0
        obtain rfl := Option.some.inj (hx0.symm.trans hy0)
        rw [Nat.mul_one, show (a.add i).add 0 = a.add i from by simp [Addr.add]] at hc0
        exact ⟨n0, fun _ => hc0⟩
      · exact ⟨false, fun h => absurd h hi⟩
    obtain ⟨F, hF⟩ := Classical.axiomOfChoice each
    have hlen : ((List.range len).map F).length = len := by simp
    have hlx : (((List.range len).map F).map Value.bool).length = len * 1 := by simp
    refine ⟨(List.range len).map F, ?_⟩
    show RdF W 1 _ ((List.range len).map F).length _
    rw [hlen]
    by_cases h0 : len = 0
    · subst h0
      exact ⟨by simp, .inl ⟨rfl, _, _, rfl, fun h => by cases h⟩⟩
    · obtain ⟨b, off, spot⟩ := a
      have h00 := hF 0 (by omega)
      have hspot : spot = none := by simpa [Addr.add] using World.cell?_spot h00
      subst hspot
      refine ⟨hlx, .inr ⟨by omega, b, off, cap, rfl, hle, ?_, fun j u hj => ?_⟩⟩
      · simp only [Addr.add, World.cell?] at h00
        split at h00
        · rename_i hb; exact (Array.getElem?_eq_some_iff.1 hb).1
        · cases h00
      · have hjl : j < len := by
          have := (List.getElem?_eq_some_iff.1 hj).1
          omega
        have k0 := hF j (by omega)
        simp only [Addr.add_lit] at k0
        rw [k0]
        simpa [hjl] using hj
end
end Go.Proofs.Ytmggibmpljoacaa
