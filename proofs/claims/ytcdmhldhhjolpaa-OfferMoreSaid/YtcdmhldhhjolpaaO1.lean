
/- Walks of the seat of chapter 07: cases, ducts, rows of rows; what is ready. -/
import Derived.Test.YtcdmhldhhjolpaaRows
import Derived.Test.YtcdmhldhhjolpaaRdf
import Derived.Test.YtcdmhldhhjolpaaCls2
import Derived.Test.YtcdmhldhhjolpaaBlk
import Derived.WalkKit
import Derived.WalkSpells
import Derived.WalkLawsBesides
import Derived.BigQuiet
import Derived.Deep.QuietTactic
import Derived.Deep.RegionHeld3
import Derived.Deep.DrawnRows
import Derived.Laws.EntriesVeiled
import Derived.Lib.SliceRun
namespace Go.Proofs.Ytcdmhldhhjolpaa
open Go.RowKit
attribute [local go_sem ↓] Go.wp_at_zero Go.wp_at_succ
attribute [local go_sem] more_size cell_more_old frozen_more_old setCell_more_old more_drew drew_more old_alloc old_more old_drew old_setCell cell_alloc_old frozen_alloc_old setCell_alloc_old

/-- A letter; a case. -/
structure Lt where
  (k f n s : Int)
  (t : ByteArray)
  (e : Int)
structure Ofr where
  (k d : Int)
  (m : Lt)
  (t : Int)
def ofCells : List Ofr → List Value
  | [] => []
  | m :: l => .int .i8 m.k :: .int .i64 m.d :: .int .i8 m.m.k :: .int .i64 m.m.f :: .int .i64 m.m.n :: .int .i64 m.m.s :: .string m.m.t :: .int .i64 m.m.e :: .int .i64 m.t :: ofCells l
theorem ofCells_len (l : List Ofr) : (ofCells l).length = l.length * 9 := by
  induction l with
  | nil => rfl
  | cons r l ih => simp only [ofCells, List.length_cons, ih]; omega
theorem ofCells_at {l : List Ofr} {k : Nat} {m : Ofr} (h : l[k]? = some m) : (ofCells l)[k * 9]? = some (.int .i8 m.k) ∧ (ofCells l)[k * 9 + 1]? = some (.int .i64 m.d) ∧ (ofCells l)[k * 9 + 2]? = some (.int .i8 m.m.k) ∧ (ofCells l)[k * 9 + 3]? = some (.int .i64 m.m.f) ∧ (ofCells l)[k * 9 + 4]? = some (.int .i64 m.m.n) ∧ (ofCells l)[k * 9 + 5]? = some (.int .i64 m.m.s) ∧ (ofCells l)[k * 9 + 6]? = some (.string m.m.t) ∧ (ofCells l)[k * 9 + 7]? = some (.int .i64 m.m.e) ∧ (ofCells l)[k * 9 + 8]? = some (.int .i64 m.t) := by
  induction l generalizing k with
  | nil => simp at h
  | cons x l ih =>
    cases k with
    | zero => simp at h; subst h; simp [ofCells]
    | succ k =>
      have := ih (k := k) (by simpa using h)
      rw [show (k + 1) * 9 = k * 9 + 9 from by omega]
      simpa [ofCells] using this
def RdO (w : World) (v : Value) (l : List Ofr) : Prop := RdF w 9 v l.length (ofCells l)
theorem RdO.below {w w' : World} {v : Value} {l : List Ofr} (h : RdO w v l) (hb : Below w.heap.size w w') : RdO w' v l := RdF.below h hb
theorem RdO.len {w : World} {a : Option Addr} {m c : Nat} {l : List Ofr} (h : RdO w (.slice a m c) l) : m = l.length := (RdF.le h).1
theorem RdO.shape {w : World} {v : Value} {l : List Ofr} (h : RdO w v l) : ∃ a c, v = .slice a l.length c := RdF.shape h
theorem RdO.at {w : World} {a : Option Addr} {m c : Nat} {l : List Ofr} (h : RdO w (.slice a m c) l) {k : Nat} {x : Ofr} (hk : l[k]? = some x) : ∃ b off, a = some ⟨b, off, none⟩ ∧ b < w.heap.size ∧
    w.cell? ⟨b, off + k * 9, none⟩ = some (.int .i8 x.k) ∧ w.cell? ⟨b, off + k * 9 + 1, none⟩ = some (.int .i64 x.d) ∧ w.cell? ⟨b, off + k * 9 + 2, none⟩ = some (.int .i8 x.m.k) ∧ w.cell? ⟨b, off + k * 9 + 3, none⟩ = some (.int .i64 x.m.f) ∧ w.cell? ⟨b, off + k * 9 + 4, none⟩ = some (.int .i64 x.m.n) ∧ w.cell? ⟨b, off + k * 9 + 5, none⟩ = some (.int .i64 x.m.s) ∧ w.cell? ⟨b, off + k * 9 + 6, none⟩ = some (.string x.m.t) ∧ w.cell? ⟨b, off + k * 9 + 7, none⟩ = some (.int .i64 x.m.e) ∧ w.cell? ⟨b, off + k * 9 + 8, none⟩ = some (.int .i64 x.t) := by
  have hlt : k < l.length := (List.getElem?_eq_some_iff.1 hk).1
  obtain ⟨b, off, rfl, hb, hx⟩ := RdF.lies h (by omega)
  obtain ⟨h0, h1, h2, h3, h4, h5, h6, h7, h8⟩ := ofCells_at hk
  exact ⟨b, off, rfl, hb, hx _ _ h0, by rw [Nat.add_assoc]; exact hx _ _ h1, by rw [Nat.add_assoc]; exact hx _ _ h2, by rw [Nat.add_assoc]; exact hx _ _ h3, by rw [Nat.add_assoc]; exact hx _ _ h4, by rw [Nat.add_assoc]; exact hx _ _ h5, by rw [Nat.add_assoc]; exact hx _ _ h6, by rw [Nat.add_assoc]; exact hx _ _ h7, by rw [Nat.add_assoc]; exact hx _ _ h8⟩
/-- A duct, as it lies. -/
structure Du where
  (c : Int)
  (a : Option Addr)
  (n p : Nat)
  (b : Bool)
def duCells : List Du → List Value
  | [] => []
  | d :: l => .int .i64 d.c :: .slice d.a d.n d.p :: .bool d.b :: duCells l
theorem duCells_len (l : List Du) : (duCells l).length = l.length * 3 := by
  induction l with
  | nil => rfl
  | cons r l ih => simp only [duCells, List.length_cons, ih]; omega
theorem duCells_at {l : List Du} {k : Nat} {d : Du} (h : l[k]? = some d) : (duCells l)[k * 3]? = some (.int .i64 d.c) ∧ (duCells l)[k * 3 + 1]? = some (.slice d.a d.n d.p) ∧ (duCells l)[k * 3 + 2]? = some (.bool d.b) := by
  induction l generalizing k with
  | nil => simp at h
  | cons x l ih =>
    cases k with
    | zero => simp at h; subst h; simp [duCells]
    | succ k =>
      have := ih (k := k) (by simpa using h)
      rw [show (k + 1) * 3 = k * 3 + 3 from by omega]
      simpa [duCells] using this
def RdU (w : World) (v : Value) (l : List Du) : Prop := RdF w 3 v l.length (duCells l)
theorem RdU.below {w w' : World} {v : Value} {l : List Du} (h : RdU w v l) (hb : Below w.heap.size w w') : RdU w' v l := RdF.below h hb
theorem RdU.len {w : World} {a : Option Addr} {m c : Nat} {l : List Du} (h : RdU w (.slice a m c) l) : m = l.length := (RdF.le h).1
theorem RdU.at {w : World} {a : Option Addr} {m c : Nat} {l : List Du} (h : RdU w (.slice a m c) l) {k : Nat} {d : Du} (hk : l[k]? = some d) : ∃ b off, a = some ⟨b, off, none⟩ ∧ b < w.heap.size ∧
    w.cell? ⟨b, off + k * 3, none⟩ = some (.int .i64 d.c) ∧ w.cell? ⟨b, off + k * 3 + 1, none⟩ = some (.slice d.a d.n d.p) ∧ w.cell? ⟨b, off + k * 3 + 2, none⟩ = some (.bool d.b) := by
  have hlt : k < l.length := (List.getElem?_eq_some_iff.1 hk).1
  obtain ⟨b, off, rfl, hb, hx⟩ := RdF.lies h (by omega)
  obtain ⟨h0, h1, h2⟩ := duCells_at hk
  exact ⟨b, off, rfl, hb, hx _ _ h0, by rw [Nat.add_assoc]; exact hx _ _ h1, by rw [Nat.add_assoc]; exact hx _ _ h2⟩
/-- Truths. -/
def RdB (w : World) (v : Value) (l : List Bool) : Prop := RdF w 1 v l.length (l.map Value.bool)
theorem RdB.below {w w' : World} {v : Value} {l : List Bool} (h : RdB w v l) (hb : Below w.heap.size w w') : RdB w' v l := RdF.below h hb
theorem RdB.len {w : World} {a : Option Addr} {m c : Nat} {l : List Bool} (h : RdB w (.slice a m c) l) : m = l.length := (RdF.le h).1
theorem RdB.at {w : World} {a : Option Addr} {m c : Nat} {l : List Bool} (h : RdB w (.slice a m c) l) {k : Nat} {x : Bool} (hk : l[k]? = some x) : ∃ b off, a = some ⟨b, off, none⟩ ∧ b < w.heap.size ∧ w.cell? ⟨b, off + k, none⟩ = some (.bool x) := by
  have hlt : k < l.length := (List.getElem?_eq_some_iff.1 hk).1
  obtain ⟨b, off, rfl, hb, hx⟩ := RdF.lies h (by omega)
  exact ⟨b, off, rfl, hb, hx _ _ (by rw [List.getElem?_map, hk]; rfl)⟩
/-- Rows of cases. -/
def RdRR (w : World) (v : Value) (rows : List (List Ofr)) : Prop :=
  ∃ vs : List Value, RdF w 1 v rows.length vs ∧ ∀ (i : Nat) (r : List Ofr), rows[i]? = some r → ∃ u, vs[i]? = some u ∧ RdO w u r
theorem RdRR.below {w w' : World} {v : Value} {rows : List (List Ofr)} (h : RdRR w v rows) (hb : Below w.heap.size w w') : RdRR w' v rows := by
  obtain ⟨vs, h1, h2⟩ := h
  exact ⟨vs, h1.below hb, fun i r hr => let ⟨u, hu, ho⟩ := h2 i r hr; ⟨u, hu, ho.below hb⟩⟩
theorem RdRR.len {w : World} {a : Option Addr} {m c : Nat} {l : List (List Ofr)} (h : RdRR w (.slice a m c) l) : m = l.length := by
  obtain ⟨vs, h1, _⟩ := h
  exact (RdF.le h1).1
theorem RdRR.at {w : World} {a : Option Addr} {m c : Nat} {l : List (List Ofr)} (h : RdRR w (.slice a m c) l) {k : Nat} {r : List Ofr} (hk : l[k]? = some r) : ∃ b off a' c', a = some ⟨b, off, none⟩ ∧ b < w.heap.size ∧
    w.cell? ⟨b, off + k, none⟩ = some (.slice a' r.length c') ∧ RdO w (.slice a' r.length c') r := by
  obtain ⟨vs, h1, h2⟩ := h
  have hlt : k < l.length := (List.getElem?_eq_some_iff.1 hk).1
  obtain ⟨b, off, rfl, hb, hx⟩ := RdF.lies h1 (by omega)
  obtain ⟨u, hu, ho⟩ := h2 k r hk
  obtain ⟨a', c', rfl⟩ := ho.shape
  exact ⟨b, off, a', c', rfl, hb, hx _ _ hu, ho⟩

/-! What is ready. -/
def duAt (du : List Du) (i : Int) : Option Du := if i < 0 then none else du[i.toNat]?
def roomB (d : Du) : Bool := if d.b then false else decide (0 < max (wrap64 (d.c - d.n)) 0)
def readyB (d : Du) : Bool := d.b || (d.n != 0)
def clampV (x : Int) : Int := min (max x 0) 1073741824
def aloneB (du : List Du) (ck : Int) (dial look : Bool) (o : Ofr) : Bool :=
  if o.k = 0 then (match duAt du o.d with | some d => roomB d | none => false)
  else if o.k = 1 then (match duAt du o.d with | some d => readyB d | none => false)
  else if o.k = 2 then decide (clampV o.t ≤ clampV ck)
  else if o.k = 3 then dial
  else if o.k = 4 then look
  else false
def meetB (du : List Du) (a b : Ofr) : Bool :=
  if a.k = 0 ∧ b.k = 1 ∧ a.d = b.d then (match duAt du a.d with | some d => !d.b && d.c == 0 | none => false) else false

theorem load42 (p : Value) : Instr.loadAt 42 p = loadS 42 p := rfl
theorem store42 (p v : Value) : Instr.storeAt 42 p v = storeS 42 p v := rfl
theorem run42 {w : World} {b : Nat} (h : Has w b 3) : (loadS 42 (.pointer (some ⟨b, 0, none⟩))).run Try.prog w = .ok (.agg (blk w b)) w := run_loadS Try.underlying42 (by kernel_rfl) h
theorem runs42 {w : World} {b : Nat} {c : Int} {a : Option Addr} {n p : Nat} {x : Bool} (h : Has w b 3) : (storeS 42 (.pointer (some ⟨b, 0, none⟩)) (.agg #[.int .i64 c, .slice a n p, .bool x])).run Try.prog w = .ok () (setBlk w b #[.int .i64 c, .slice a n p, .bool x]) := run_storeS (by kernel_rfl) h rfl (by simp [Value.oneCell'])
theorem load61 (p : Value) : Instr.loadAt 61 p = loadS 61 p := rfl
theorem store61 (p v : Value) : Instr.storeAt 61 p v = storeS 61 p v := rfl
theorem run61 {w : World} {b : Nat} (h : Has w b 4) : (loadS 61 (.pointer (some ⟨b, 0, none⟩))).run Try.prog w = .ok (.agg (blk w b)) w := run_loadS Try.underlying61 (by kernel_rfl) h
theorem load38 (p : Value) : Instr.loadAt 38 p = loadS 38 p := rfl
theorem store38 (p v : Value) : Instr.storeAt 38 p v = storeS 38 p v := rfl
theorem run38 {w : World} {b : Nat} (h : Has w b 9) : (loadS 38 (.pointer (some ⟨b, 0, none⟩))).run Try.prog w = .ok (.agg (blk w b)) w := run_loadS Try.underlying38 (by kernel_rfl) h
theorem runs61 {w : World} {b : Nat} {c : Int} {a : Option Addr} {n p : Nat} {x y : Bool} (h : Has w b 4) : (storeS 61 (.pointer (some ⟨b, 0, none⟩)) (.agg #[.slice a n p, .int .i64 c, .bool x, .bool y])).run Try.prog w = .ok () (setBlk w b #[.slice a n p, .int .i64 c, .bool x, .bool y]) := run_storeS (by kernel_rfl) h rfl (by simp [Value.oneCell'])
theorem runs38 {w : World} {b : Nat} {k d mk mf mn ms me t : Int} {mt : ByteArray} (h : Has w b 9) : (storeS 38 (.pointer (some ⟨b, 0, none⟩)) (.agg #[.int .i8 k, .int .i64 d, .int .i8 mk, .int .i64 mf, .int .i64 mn, .int .i64 ms, .string mt, .int .i64 me, .int .i64 t])).run Try.prog w = .ok () (setBlk w b #[.int .i8 k, .int .i64 d, .int .i8 mk, .int .i64 mf, .int .i64 mn, .int .i64 ms, .string mt, .int .i64 me, .int .i64 t]) := run_storeS (by kernel_rfl) h rfl (by simp [Value.oneCell'])
theorem load30 (p : Value) : Instr.loadAt 30 p = loadS 30 p := rfl
theorem store30 (p v : Value) : Instr.storeAt 30 p v = storeS 30 p v := rfl
theorem run30 {w : World} {b : Nat} (h : Has w b 4) : (loadS 30 (.pointer (some ⟨b, 0, none⟩))).run Try.prog w = .ok (.agg (blk w b)) w := run_loadS Try.underlying30 (by kernel_rfl) h
theorem runs30 {w : World} {b : Nat} {n0 n1 n2 n3 : Int} (h : Has w b 4) : (storeS 30 (.pointer (some ⟨b, 0, none⟩)) (.agg #[.int .i64 n0, .int .i64 n1, .int .i64 n2, .int .i64 n3])).run Try.prog w = .ok () (setBlk w b #[.int .i64 n0, .int .i64 n1, .int .i64 n2, .int .i64 n3]) := run_storeS (by kernel_rfl) h rfl (by simp [Value.oneCell'])
theorem runDu {w : World} {b off n p : Nat} {l : List Du} (h : RdU w (.slice (some ⟨b, off, none⟩) n p) l) {k : Nat} {x : Du} (hk : l[k]? = some x) :
    (loadS 42 (.pointer (some ⟨b, off + k * 3, none⟩))).run Try.prog w = .ok (.agg #[.int .i64 x.c, .slice x.a x.n x.p, .bool x.b]) w := by
  obtain ⟨b', off', he, _, c0, c1, c2⟩ := h.at hk
  cases he
  refine run_loadAt_mid (P := Try.prog) w b (off + k * 3) 42 [.int .i64 x.c, .slice x.a x.n x.p, .bool x.b] _ (fun j v hv => ?_) Try.underlying42 rfl (by kernel_rfl)
  match j, hv with
  | 0, hv => cases hv; exact c0
  | 1, hv => cases hv; exact c1
  | 2, hv => cases hv; exact c2
theorem runOf {w : World} {b off n p : Nat} {l : List Ofr} (h : RdO w (.slice (some ⟨b, off, none⟩) n p) l) {k : Nat} {x : Ofr} (hk : l[k]? = some x) :
    (loadS 38 (.pointer (some ⟨b, off + k * 9, none⟩))).run Try.prog w = .ok (.agg #[.int .i8 x.k, .int .i64 x.d, .int .i8 x.m.k, .int .i64 x.m.f, .int .i64 x.m.n, .int .i64 x.m.s, .string x.m.t, .int .i64 x.m.e, .int .i64 x.t]) w := by
  obtain ⟨b', off', he, _, c0, c1, c2, c3, c4, c5, c6, c7, c8⟩ := h.at hk
  cases he
  refine run_loadAt_mid (P := Try.prog) w b (off + k * 9) 38 [.int .i8 x.k, .int .i64 x.d, .int .i8 x.m.k, .int .i64 x.m.f, .int .i64 x.m.n, .int .i64 x.m.s, .string x.m.t, .int .i64 x.m.e, .int .i64 x.t] _ (fun j v hv => ?_) Try.underlying38 rfl (by kernel_rfl)
  match j, hv with
  | 0, hv => cases hv; exact c0
  | 1, hv => cases hv; exact c1
  | 2, hv => cases hv; exact c2
  | 3, hv => cases hv; exact c3
  | 4, hv => cases hv; exact c4
  | 5, hv => cases hv; exact c5
  | 6, hv => cases hv; exact c6
  | 7, hv => cases hv; exact c7
  | 8, hv => cases hv; exact c8
end Go.Proofs.Ytcdmhldhhjolpaa
