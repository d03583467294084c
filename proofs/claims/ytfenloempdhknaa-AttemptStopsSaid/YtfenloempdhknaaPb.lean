/- An attempt that came in. -/
import Derived.Test.YtfenloempdhknaaPgen
import Derived.Test.YtfenloempdhknaaT1
namespace Go.Proofs.Ytfenloempdhknaa
open Go.ChangeShapes Go.WideShapes Go.ChangeAt Go.RowKit


theorem leaves30 : leaves Try.prog 8 30 = some [(0, 3), (1, 3), (2, 3), (3, 3), (4, 24), (5, 25), (6, 25), (7, 25), (8, 25), (9, 25), (10, 25), (11, 25), (12, 25), (13, 3), (14, 24), (15, 3)] := by kernel_rfl
theorem cells30 : Try.prog.cellsOf 30 = 16 := by kernel_rfl
section
variable {H : Type} {enc : TypeId × Value → H} {W : World}
set_option maxRecDepth 100000 in
theorem list16 {α : Type} {l : List α} (h : l.length = 16) : ∃ x0 x1 x2 x3 x4 x5 x6 x7 x8 x9 x10 x11 x12 x13 x14 x15, l = [x0, x1, x2, x3, x4, x5, x6, x7, x8, x9, x10, x11, x12, x13, x14, x15] := by
  rcases l with _ | ⟨x0, l⟩
  · simp at h
  rcases l with _ | ⟨x1, l⟩
  · simp at h
  rcases l with _ | ⟨x2, l⟩
  · simp at h
  rcases l with _ | ⟨x3, l⟩
  · simp at h
  rcases l with _ | ⟨x4, l⟩
  · simp at h
  rcases l with _ | ⟨x5, l⟩
  · simp at h
  rcases l with _ | ⟨x6, l⟩
  · simp at h
  rcases l with _ | ⟨x7, l⟩
  · simp at h
  rcases l with _ | ⟨x8, l⟩
  · simp at h
  rcases l with _ | ⟨x9, l⟩
  · simp at h
  rcases l with _ | ⟨x10, l⟩
  · simp at h
  rcases l with _ | ⟨x11, l⟩
  · simp at h
  rcases l with _ | ⟨x12, l⟩
  · simp at h
  rcases l with _ | ⟨x13, l⟩
  · simp at h
  rcases l with _ | ⟨x14, l⟩
  · simp at h
  rcases l with _ | ⟨x15, l⟩
  · simp at h
  rcases l with _ | ⟨x, l⟩
  · exact ⟨x0, x1, x2, x3, x4, x5, x6, x7, x8, x9, x10, x11, x12, x13, x14, x15, rfl⟩
  · simp at h
set_option maxRecDepth 100000 in
theorem open_at {base : Nat} {v : Value} {d : DataW H} {ps : List MemPlace} (hval : Value.okWide Try.prog W .any base 30 v) (hT : DataW.Trod enc Try.prog W 0 (fun _ => true) true 30 v d ps) :
    ∃ x : At, v = .agg #[.int .i64 x.id, .int .i64 x.rc, .int .i64 x.ow, .int .i64 x.n, .int .i8 x.f, .int .u16 x.g0, .int .u16 x.g1, .int .u16 x.g2, .int .u16 x.g3, .int .u16 x.g4, .int .u16 x.g5, .int .u16 x.g6, .int .u16 x.g7, .int .i64 x.p, .int .i8 x.st, .int .i64 x.sk] := by
  obtain ⟨l, rfl, hl, hx⟩ := open_struct Try.underlying30 leaves30 hval hT
  rw [cells30] at hl
  obtain ⟨x0, x1, x2, x3, x4, x5, x6, x7, x8, x9, x10, x11, x12, x13, x14, x15, rfl⟩ := list16 hl
  obtain ⟨n0, rfl, _⟩ := leaf_int Try.underlying3 (leaf_at hx 0 3 rfl (by simp))
  obtain ⟨n1, rfl, _⟩ := leaf_int Try.underlying3 (leaf_at hx 1 3 rfl (by simp))
  obtain ⟨n2, rfl, _⟩ := leaf_int Try.underlying3 (leaf_at hx 2 3 rfl (by simp))
  obtain ⟨n3, rfl, _⟩ := leaf_int Try.underlying3 (leaf_at hx 3 3 rfl (by simp))
  obtain ⟨n4, rfl, _⟩ := leaf_int Try.underlying24 (leaf_at hx 4 24 rfl (by simp))
  obtain ⟨n5, rfl, _⟩ := leaf_int Try.underlying25 (leaf_at hx 5 25 rfl (by simp))
  obtain ⟨n6, rfl, _⟩ := leaf_int Try.underlying25 (leaf_at hx 6 25 rfl (by simp))
  obtain ⟨n7, rfl, _⟩ := leaf_int Try.underlying25 (leaf_at hx 7 25 rfl (by simp))
  obtain ⟨n8, rfl, _⟩ := leaf_int Try.underlying25 (leaf_at hx 8 25 rfl (by simp))
  obtain ⟨n9, rfl, _⟩ := leaf_int Try.underlying25 (leaf_at hx 9 25 rfl (by simp))
  obtain ⟨n10, rfl, _⟩ := leaf_int Try.underlying25 (leaf_at hx 10 25 rfl (by simp))
  obtain ⟨n11, rfl, _⟩ := leaf_int Try.underlying25 (leaf_at hx 11 25 rfl (by simp))
  obtain ⟨n12, rfl, _⟩ := leaf_int Try.underlying25 (leaf_at hx 12 25 rfl (by simp))
  obtain ⟨n13, rfl, _⟩ := leaf_int Try.underlying3 (leaf_at hx 13 3 rfl (by simp))
  obtain ⟨n14, rfl, _⟩ := leaf_int Try.underlying24 (leaf_at hx 14 24 rfl (by simp))
  obtain ⟨n15, rfl, _⟩ := leaf_int Try.underlying3 (leaf_at hx 15 3 rfl (by simp))
  exact ⟨⟨n0, n1, n2, n3, n4, n5, n6, n7, n8, n9, n10, n11, n12, n13, n14, n15⟩, rfl⟩
end
end Go.Proofs.Ytfenloempdhknaa
