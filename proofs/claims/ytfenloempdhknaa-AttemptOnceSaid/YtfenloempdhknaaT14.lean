
/- Walks of the seat of chapter 16: AttemptOnce: picks; what an attempt stands at. -/
import Derived.Test.YtfenloempdhknaaT10
import Derived.Deep.DeepCutAuto
import Derived.BigQuiet
import Derived.Deep.QuietTactic
import Derived.Outline
namespace Go.Proofs.Ytfenloempdhknaa
open Go.RowKit
attribute [local go_sem ↓] Go.wp_at_zero Go.wp_at_succ
attribute [local go_sem] more_size cell_more_old frozen_more_old setCell_more_old more_drew drew_more old_alloc old_more old_drew old_setCell cell_alloc_old frozen_alloc_old setCell_alloc_old
attribute [local go_sem ↓] load30 store30
attribute [local go_sem] run30 runs30 blk_drew has_drew blk_drewN has_drewN old_drewN blk_alloc_old has_alloc_old blk_alloc_new has_alloc_new setBlk_size setBlk_drew old_setBlk cell_setBlk' cell_setBlk_ne frozen_setBlk blk_setBlk' blk_setBlk_ne has_setBlk' has_setBlk_ne setBlk_alloc_old setBlk_new

/-- Take, of an attempt whose address is plain; the deeds lie in new memory. -/
def TakeP (i r o n p s k : Int) (l : List De) (w : World) (e : Ending) (w' : World) : Prop :=
  ∃ (a : Option Addr) (c q : Nat), e = .returned (.tuple #[.agg #[.int .i64 i, .int .i64 r, .int .i64 o, .int .i64 n, .int .i8 0, .int .u16 0, .int .u16 0, .int .u16 0, .int .u16 0, .int .u16 0, .int .u16 0, .int .u16 0, .int .u16 0, .int .i64 p, .int .i8 s, .int .i64 (k)], .slice a c q]) ∧ c = l.length ∧ w'.ownsRow w.heap.size 39 19 (.slice a c q) c (deCells l) ∧ Below w.heap.size w w'
theorem tk_dc (i r o n p k : Int) (m : Lt) (w : World) : Calls Try.prog 11 #[.agg #[.int .i64 i, .int .i64 r, .int .i64 o, .int .i64 n, .int .i8 0, .int .u16 0, .int .u16 0, .int .u16 0, .int .u16 0, .int .u16 0, .int .u16 0, .int .u16 0, .int .u16 0, .int .i64 p, .int .i8 0, .int .i64 (k)], .int .i64 1, .agg #[.int .i8 m.k, .int .i64 m.f, .int .i64 m.n, .int .i64 m.s, .string m.t, .int .i64 m.e]] w (TakeP i r o n p 1 k [⟨5, i⟩] w) :=
  take11_dc ⟨i, r, o, n, 0, 0, 0, 0, 0, 0, 0, 0, 0, p, 0, k⟩ m w
theorem tk_de (i r o n p k : Int) (m : Lt) (w : World) (hw : o ≤ 1125899906842624) : Calls Try.prog 11 #[.agg #[.int .i64 i, .int .i64 r, .int .i64 o, .int .i64 n, .int .i8 0, .int .u16 0, .int .u16 0, .int .u16 0, .int .u16 0, .int .u16 0, .int .u16 0, .int .u16 0, .int .u16 0, .int .i64 p, .int .i8 0, .int .i64 (k)], .int .i64 0, .agg #[.int .i8 m.k, .int .i64 m.f, .int .i64 m.n, .int .i64 m.s, .string m.t, .int .i64 m.e]] w (TakeP i r o n p 2 (endV m) (backL m.e o) w) :=
  take11_de ⟨i, r, o, n, 0, 0, 0, 0, 0, 0, 0, 0, 0, p, 0, k⟩ m w hw
theorem tk_ab (i r o n p k : Int) (m : Lt) (w : World) (hw : o ≤ 1125899906842624) : Calls Try.prog 11 #[.agg #[.int .i64 i, .int .i64 r, .int .i64 o, .int .i64 n, .int .i8 0, .int .u16 0, .int .u16 0, .int .u16 0, .int .u16 0, .int .u16 0, .int .u16 0, .int .u16 0, .int .u16 0, .int .i64 p, .int .i8 1, .int .i64 (k)], .int .i64 0, .agg #[.int .i8 m.k, .int .i64 m.f, .int .i64 m.n, .int .i64 m.s, .string m.t, .int .i64 m.e]] w (TakeP i r o n p 3 k (dropL (endV m) ++ [⟨3, ofV o 4⟩]) w) :=
  take11_ab ⟨i, r, o, n, 0, 0, 0, 0, 0, 0, 0, 0, 0, p, 1, k⟩ m w hw
theorem tk_tn (i r o n p k : Int) (m : Lt) (w : World) : Calls Try.prog 11 #[.agg #[.int .i64 i, .int .i64 r, .int .i64 o, .int .i64 n, .int .i8 0, .int .u16 0, .int .u16 0, .int .u16 0, .int .u16 0, .int .u16 0, .int .u16 0, .int .u16 0, .int .u16 0, .int .i64 p, .int .i8 2, .int .i64 (k)], .int .i64 0, .agg #[.int .i8 m.k, .int .i64 m.f, .int .i64 m.n, .int .i64 m.s, .string m.t, .int .i64 m.e]] w (TakeP i r o n p 3 k [] w) :=
  take11_tn ⟨i, r, o, n, 0, 0, 0, 0, 0, 0, 0, 0, 0, p, 2, k⟩ m w
theorem tk_td (i r o n p k : Int) (m : Lt) (w : World) (hs : 0 ≤ k) (hw : o ≤ 1125899906842624) : Calls Try.prog 11 #[.agg #[.int .i64 i, .int .i64 r, .int .i64 o, .int .i64 n, .int .i8 0, .int .u16 0, .int .u16 0, .int .u16 0, .int .u16 0, .int .u16 0, .int .u16 0, .int .u16 0, .int .u16 0, .int .i64 p, .int .i8 2, .int .i64 (k)], .int .i64 1, .agg #[.int .i8 m.k, .int .i64 m.f, .int .i64 m.n, .int .i64 m.s, .string m.t, .int .i64 m.e]] w (TakeP i r o n p 3 k ([⟨6, k⟩] ++ [⟨3, ofV o 4⟩]) w) :=
  take11_td ⟨i, r, o, n, 0, 0, 0, 0, 0, 0, 0, 0, 0, p, 2, k⟩ m w hs hw
theorem tk_tz (i r o n p k : Int) (m : Lt) (w : World) (hs : k < 0) : Calls Try.prog 11 #[.agg #[.int .i64 i, .int .i64 r, .int .i64 o, .int .i64 n, .int .i8 0, .int .u16 0, .int .u16 0, .int .u16 0, .int .u16 0, .int .u16 0, .int .u16 0, .int .u16 0, .int .u16 0, .int .i64 p, .int .i8 2, .int .i64 (k)], .int .i64 1, .agg #[.int .i8 m.k, .int .i64 m.f, .int .i64 m.n, .int .i64 m.s, .string m.t, .int .i64 m.e]] w (TakeP i r o n p 3 k [] w) :=
  take11_tz ⟨i, r, o, n, 0, 0, 0, 0, 0, 0, 0, 0, 0, p, 2, k⟩ m w hs

/-- A pick. -/
structure Pk where
  (i : Int)
  (wl : Bool)
  (s : Int)
def pkCells : List Pk → List Value
  | [] => []
  | m :: l => .int .i64 m.i :: .bool m.wl :: .int .i64 m.s :: pkCells l
theorem pkCells_len (l : List Pk) : (pkCells l).length = l.length * 3 := by
  induction l with
  | nil => rfl
  | cons r l ih => simp only [pkCells, List.length_cons, ih]; omega
theorem pkCells_at {l : List Pk} {k : Nat} {m : Pk} (h : l[k]? = some m) : (pkCells l)[k * 3]? = some (.int .i64 m.i) ∧ (pkCells l)[k * 3 + 1]? = some (.bool m.wl) ∧ (pkCells l)[k * 3 + 2]? = some (.int .i64 m.s) := by
  induction l generalizing k with
  | nil => simp at h
  | cons x l ih =>
    cases k with
    | zero => simp at h; subst h; simp [pkCells]
    | succ k =>
      have := ih (k := k) (by simpa using h)
      rw [show (k + 1) * 3 = k * 3 + 3 from by omega]
      simpa [pkCells] using this
def RdP (w : World) (v : Value) (l : List Pk) : Prop := RdF w 3 v l.length (pkCells l)
theorem RdP.below {w w' : World} {v : Value} {l : List Pk} (h : RdP w v l) (hb : Below w.heap.size w w') : RdP w' v l := RdF.below h hb
theorem RdP.len {w : World} {a : Option Addr} {m c : Nat} {l : List Pk} (h : RdP w (.slice a m c) l) : m = l.length := (RdF.le h).1
theorem RdP.at {w : World} {a : Option Addr} {m c : Nat} {l : List Pk} (h : RdP w (.slice a m c) l) {k : Nat} {x : Pk} (hk : l[k]? = some x) : ∃ b off, a = some ⟨b, off, none⟩ ∧ b < w.heap.size ∧
    w.cell? ⟨b, off + k * 3, none⟩ = some (.int .i64 x.i) ∧ w.cell? ⟨b, off + k * 3 + 1, none⟩ = some (.bool x.wl) ∧ w.cell? ⟨b, off + k * 3 + 2, none⟩ = some (.int .i64 x.s) := by
  have hlt : k < l.length := (List.getElem?_eq_some_iff.1 hk).1
  obtain ⟨b, off, rfl, hb, hx⟩ := RdF.lies h (by omega)
  obtain ⟨h0, h1, h2⟩ := pkCells_at hk
  exact ⟨b, off, rfl, hb, hx _ _ h0, by rw [Nat.add_assoc]; exact hx _ _ h1, by rw [Nat.add_assoc]; exact hx _ _ h2⟩

/-- Where an attempt stands behind i events: its place, its socket; what was given back, shut, told; what was opened. -/
def OnceS (st sk bk sh td op i : Int) : Prop :=
  (i = 0 ∧ st = 0 ∧ sk = -1 ∧ bk = 0 ∧ sh = 0 ∧ td = 0 ∧ op = -1) ∨ (i = 1 ∧ st = 1 ∧ sk = -1 ∧ bk = 0 ∧ sh = 0 ∧ td = 0 ∧ op = -1) ∨
  (i = 1 ∧ st = 2 ∧ 0 ≤ sk ∧ sk ≤ 1000 ∧ bk = 0 ∧ sh = 0 ∧ td = 0 ∧ op = sk) ∨ (i = 1 ∧ st = 2 ∧ sk = -1 ∧ bk = 1 ∧ sh = 0 ∧ td = 0 ∧ op = -1) ∨
  (i = 2 ∧ st = 3 ∧ bk = 1 ∧ sh = 0 ∧ td = 0 ∧ op = -1) ∨ (i = 2 ∧ st = 3 ∧ bk = 1 ∧ sh = 1 ∧ td = 0 ∧ 0 ≤ op) ∨ (i = 2 ∧ st = 3 ∧ bk = 0 ∧ sh = 0 ∧ td = 1 ∧ 0 ≤ op)
def OnceR (id rc ow n : Int) (B : Nat) (w : World) (s13 s14 s15 s16 s17 : Value) (wr : World) : Prop :=
  ∃ st sk bk sh td op i : Int, s13 = .int .i64 bk ∧ s14 = .int .i64 sh ∧ s15 = .int .i64 td ∧ s16 = .int .i64 op ∧ s17 = .int .i64 i ∧ OnceS st sk bk sh td op i ∧ wr.heap[B]? = some (.cells #[.int .i64 id, .int .i64 rc, .int .i64 ow, .int .i64 n, .int .i8 0, .int .u16 0, .int .u16 0, .int .u16 0, .int .u16 0, .int .u16 0, .int .u16 0, .int .u16 0, .int .u16 0, .int .i64 1, .int .i8 st, .int .i64 (sk)] 30) ∧ Below w.heap.size w wr
end Go.Proofs.Ytfenloempdhknaa
