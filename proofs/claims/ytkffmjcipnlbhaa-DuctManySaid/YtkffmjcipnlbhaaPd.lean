/- A duct that came in. -/
import Derived.Test.YtkffmjcipnlbhaaPl
namespace Go.Proofs.Ytkffmjcipnlbhaa
open Go.ChangeShapes Go.WideShapes Go.ChangeAt Go.RowKit

theorem leaves26 : leaves Try.prog 8 26 = some [(0, 3), (1, 24), (2, 4)] := by kernel_rfl
theorem cells26 : Try.prog.cellsOf 26 = 3 := by kernel_rfl

section
variable {H : Type} {enc : TypeId × Value → H} {W : World}
theorem list3 {α : Type} {l : List α} (h : l.length = 3) : ∃ a b c, l = [a, b, c] := by
  match l, h with
  | [a, b, c], _ => exact ⟨a, b, c, rfl⟩
theorem open_duct {base : Nat} {v : Value} {d : DataW H} {ps : List MemPlace} (hval : Value.okWide Try.prog W .any base 26 v) (hT : DataW.Trod enc Try.prog W 0 (fun _ => true) true 26 v d ps) :
    ∃ (c : Int) (a : Option Addr) (n p : Nat) (b : Bool) (l : List Lt), v = .agg #[.int .i64 c, .slice a n p, .bool b] ∧ RdL W (.slice a n p) l := by
  obtain ⟨l, rfl, hl, hx⟩ := open_struct Try.underlying26 leaves26 hval hT
  rw [cells26] at hl
  obtain ⟨x0, x1, x2, rfl⟩ := list3 hl
  obtain ⟨n0, rfl, _⟩ := leaf_int Try.underlying3 (leaf_at hx 0 3 rfl (by simp))
  obtain ⟨l1, h1⟩ := open_rdL (leaf_at hx 1 24 rfl (by simp))
  obtain ⟨b2, rfl⟩ := leaf_bool Try.underlying4 (leaf_at hx 2 4 rfl (by simp))
  obtain ⟨a, c, rfl⟩ := RdF.shape h1
  exact ⟨n0, a, _, c, b2, l1, rfl, h1⟩
end
end Go.Proofs.Ytkffmjcipnlbhaa
