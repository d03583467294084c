/- A duct that came in. -/
import Derived.Test.YtmggibmpljoacaaPl
import Derived.DataShut
namespace Go.Proofs.Ytmggibmpljoacaa
open Go.ChangeShapes Go.WideShapes Go.ChangeAt Go.RowKit

theorem leaves26 : leaves Try.prog 8 25 = some [(0, 3), (1, 23), (2, 4)] := by kernel_rfl
theorem cells26 : Try.prog.cellsOf 25 = 3 := by kernel_rfl

section
variable {H : Type} {enc : TypeId × Value → H} {W : World}
theorem list3 {α : Type} {l : List α} (h : l.length = 3) : ∃ a b c, l = [a, b, c] := by
  match l, h with
  | [a, b, c], _ => exact ⟨a, b, c, rfl⟩
theorem open_duct {base : Nat} {v : Value} {d : DataW H} {ps : List MemPlace} (hval : Value.okWide Try.prog W .any base 25 v) (hT : DataW.Trod enc Try.prog W 0 (fun _ => true) true 25 v d ps) :
    ∃ (c : Int) (a : Option Addr) (n p : Nat) (b : Bool) (l : List Lt), v = .agg #[.int .i64 c, .slice a n p, .bool b] ∧ RdL W (.slice a n p) l ∧ -9223372036854775808 ≤ c ∧ c ≤ 9223372036854775807 := by
  obtain ⟨l, rfl, hl, hx⟩ := open_struct Try.underlying25 leaves26 hval hT
  rw [cells26] at hl
  obtain ⟨x0, x1, x2, rfl⟩ := list3 hl
  obtain ⟨n0, rfl, hw0⟩ := leaf_int Try.underlying3 (leaf_at hx 0 3 rfl (by simp))
  obtain ⟨l1, h1⟩ := open_rdL (leaf_at hx 1 23 rfl (by simp))
  obtain ⟨b2, rfl⟩ := leaf_bool Try.underlying4 (leaf_at hx 2 4 rfl (by simp))
  obtain ⟨a, c, rfl⟩ := RdF.shape h1
  have := hw0
  exact ⟨n0, a, _, c, b2, l1, rfl, h1, (Lit.wf_int_iff _ _).1 hw0⟩
end
end Go.Proofs.Ytmggibmpljoacaa
