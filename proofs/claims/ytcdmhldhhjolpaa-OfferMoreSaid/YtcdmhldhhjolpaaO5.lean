
/- What is ready, as a list; what a round keeps. Chapter 07. -/
import Derived.Test.YtcdmhldhhjolpaaO4
import Derived.RangeFuncBox
import Derived.RangeFuncNested
import Derived.RangeFuncLeaves
import Derived.Shelf.Abstract
import Derived.OwnWalkIn
import Derived.TacticsInMore
import Derived.LoopNIn
import Derived.LoopIn
import Derived.Maps.AppendAt
import Derived.RegionIn
import Derived.Stop.RegionWithIn
import Derived.BigRegionIn
import Derived.Test.YtcdmhldhhjolpaaHeadMid
namespace Go.Proofs.Ytcdmhldhhjolpaa
open Go.RowKit
attribute [local go_sem ↓] Go.wp_at_zero Go.wp_at_succ
attribute [local go_sem] more_size cell_more_old frozen_more_old setCell_more_old more_drew drew_more old_alloc old_more old_drew old_setCell cell_alloc_old frozen_alloc_old setCell_alloc_old

/-- A meeting. -/
structure Mt where
  (p i q j : Int)
deriving DecidableEq
def mtCells : List Mt → List Value
  | [] => []
  | m :: l => .int .i64 m.p :: .int .i64 m.i :: .int .i64 m.q :: .int .i64 m.j :: mtCells l
theorem mtCells_len (l : List Mt) : (mtCells l).length = l.length * 4 := by
  induction l with
  | nil => rfl
  | cons r l ih => simp only [mtCells, List.length_cons, ih]; omega
theorem mtCells_app (l m : List Mt) : mtCells (l ++ m) = mtCells l ++ mtCells m := by
  induction l with
  | nil => rfl
  | cons r l ih => simp [mtCells, ih]
theorem mtCells_one (l : List Mt) : ∀ u ∈ mtCells l, u.oneCell' = true := by
  induction l with
  | nil => intro u hu; cases hu
  | cons r l ih =>
    intro u hu
    simp only [mtCells, List.mem_cons] at hu
    rcases hu with rfl | rfl | rfl | rfl | hu
    all_goals first | rfl | exact ih u hu
theorem mtCells_at {l : List Mt} {k : Nat} {m : Mt} (h : l[k]? = some m) : (mtCells l)[k * 4]? = some (.int .i64 m.p) ∧ (mtCells l)[k * 4 + 1]? = some (.int .i64 m.i) ∧ (mtCells l)[k * 4 + 2]? = some (.int .i64 m.q) ∧ (mtCells l)[k * 4 + 3]? = some (.int .i64 m.j) := by
  induction l generalizing k with
  | nil => simp at h
  | cons x l ih =>
    cases k with
    | zero => simp at h; subst h; simp [mtCells]
    | succ k =>
      have := ih (k := k) (by simpa using h)
      rw [show (k + 1) * 4 = k * 4 + 4 from by omega]
      simpa [mtCells] using this
def RdM (w : World) (v : Value) (l : List Mt) : Prop := RdF w 4 v l.length (mtCells l)
theorem RdM.below {w w' : World} {v : Value} {l : List Mt} (h : RdM w v l) (hb : Below w.heap.size w w') : RdM w' v l := RdF.below h hb
theorem RdM.len {w : World} {a : Option Addr} {m c : Nat} {l : List Mt} (h : RdM w (.slice a m c) l) : m = l.length := (RdF.le h).1
theorem RdM.at {w : World} {a : Option Addr} {m c : Nat} {l : List Mt} (h : RdM w (.slice a m c) l) {k : Nat} {x : Mt} (hk : l[k]? = some x) : ∃ b off, a = some ⟨b, off, none⟩ ∧ b < w.heap.size ∧
    w.cell? ⟨b, off + k * 4, none⟩ = some (.int .i64 x.p) ∧ w.cell? ⟨b, off + k * 4 + 1, none⟩ = some (.int .i64 x.i) ∧ w.cell? ⟨b, off + k * 4 + 2, none⟩ = some (.int .i64 x.q) ∧ w.cell? ⟨b, off + k * 4 + 3, none⟩ = some (.int .i64 x.j) := by
  have hlt : k < l.length := (List.getElem?_eq_some_iff.1 hk).1
  obtain ⟨b, off, rfl, hb, hx⟩ := RdF.lies h (by omega)
  obtain ⟨h0, h1, h2, h3⟩ := mtCells_at hk
  exact ⟨b, off, rfl, hb, hx _ _ h0, by rw [Nat.add_assoc]; exact hx _ _ h1, by rw [Nat.add_assoc]; exact hx _ _ h2, by rw [Nat.add_assoc]; exact hx _ _ h3⟩

/-- Whom a case meets in a row; in all rows. -/
def mOne (du : List Du) (o : Ofr) (p i : Int) (q : Nat) (b : Ofr) (j : Nat) : List Mt := if ((q : Int) ≠ p ∧ meetB du o b = true) then [⟨p, i, q, j⟩] else []
def mRow (du : List Du) (o : Ofr) (p i : Int) (q : Nat) (row : List Ofr) : List Mt := row.zipIdx.flatMap fun x => mOne du o p i q x.1 x.2
def mAll (du : List Du) (o : Ofr) (p i : Int) (rows : List (List Ofr)) : List Mt := rows.zipIdx.flatMap fun x => mRow du o p i x.2 x.1
/-- What is ready of a case; of a row; of all rows. -/
def rOne (du : List Du) (ck : Int) (dl lk : Bool) (rows : List (List Ofr)) (p : Nat) (o : Ofr) (i : Nat) : List Mt := (if aloneB du ck dl lk o then [⟨p, i, -1, -1⟩] else []) ++ mAll du o p i rows
def rRow (du : List Du) (ck : Int) (dl lk : Bool) (rows : List (List Ofr)) (p : Nat) (row : List Ofr) : List Mt := row.zipIdx.flatMap fun x => rOne du ck dl lk rows p x.1 x.2
def rAt (du : List Du) (ck : Int) (dial look : List Bool) (rows : List (List Ofr)) (row : List Ofr) (p : Nat) : List Mt := rRow du ck (dial[p]?.getD false) (look[p]?.getD false) rows p row
def rTo (du : List Du) (ck : Int) (dial look : List Bool) (rows l : List (List Ofr)) : List Mt := l.zipIdx.flatMap fun x => rAt du ck dial look rows x.1 x.2
def rAll (du : List Du) (ck : Int) (dial look : List Bool) (rows : List (List Ofr)) : List Mt := rTo du ck dial look rows rows

theorem flat_succ {α β : Type} (f : α × Nat → List β) {l : List α} {k : Nat} {x : α} (h : l[k]? = some x) : (l.take (k + 1)).zipIdx.flatMap f = (l.take k).zipIdx.flatMap f ++ f (x, k) := by
  have hk : k < l.length := (List.getElem?_eq_some_iff.1 h).1
  rw [List.take_add_one, h, List.zipIdx_append, List.flatMap_append]
  simp [Nat.min_eq_left (Nat.le_of_lt hk)]
theorem flat_le {α β : Type} (f : α × Nat → List β) (l : List α) (k : Nat) : ((l.take k).zipIdx.flatMap f).length ≤ (l.zipIdx.flatMap f).length := by
  conv => rhs; rw [← List.take_append_drop k l]
  rw [List.zipIdx_append, List.flatMap_append, List.length_append]
  omega
theorem mRow_succ {du : List Du} {o : Ofr} {p i : Int} {q : Nat} {row : List Ofr} {j : Nat} {b : Ofr} (h : row[j]? = some b) : mRow du o p i q (row.take (j + 1)) = mRow du o p i q (row.take j) ++ mOne du o p i q b j := flat_succ _ h
theorem mAll_succ {du : List Du} {o : Ofr} {p i : Int} {rows : List (List Ofr)} {q : Nat} {row : List Ofr} (h : rows[q]? = some row) : mAll du o p i (rows.take (q + 1)) = mAll du o p i (rows.take q) ++ mRow du o p i q row := flat_succ _ h
theorem rRow_succ {du : List Du} {ck : Int} {dl lk : Bool} {rows : List (List Ofr)} {p : Nat} {row : List Ofr} {i : Nat} {o : Ofr} (h : row[i]? = some o) : rRow du ck dl lk rows p (row.take (i + 1)) = rRow du ck dl lk rows p (row.take i) ++ rOne du ck dl lk rows p o i := flat_succ _ h
theorem rTo_succ {du : List Du} {ck : Int} {dial look : List Bool} {rows l : List (List Ofr)} {p : Nat} {row : List Ofr} (h : l[p]? = some row) : rTo du ck dial look rows (l.take (p + 1)) = rTo du ck dial look rows (l.take p) ++ rAt du ck dial look rows row p := flat_succ _ h
theorem mAll_lt {du : List Du} {o : Ofr} {p i : Int} {rows : List (List Ofr)} {q : Nat} {row : List Ofr} (h : rows[q]? = some row) {j : Nat} {b : Ofr} (hb : row[j]? = some b) :
    (mAll du o p i (rows.take q) ++ mRow du o p i q (row.take j)).length + (mOne du o p i q b j).length ≤ (mAll du o p i rows).length := by
  have h1 : (mAll du o p i (rows.take (q + 1))).length ≤ (mAll du o p i rows).length := flat_le _ _ _
  have h2 : (mRow du o p i q (row.take (j + 1))).length ≤ (mRow du o p i q row).length := flat_le _ _ _
  rw [mAll_succ h, List.length_append] at h1
  rw [mRow_succ hb, List.length_append] at h2
  rw [List.length_append]
  omega

/-- No cells of meetings, nor the box of their slice. -/
def notM : Obj → Bool
  | .cells _ t _ => t != 27 && t != 30
  | _ => false
/-- What a round keeps: what lay below n₀, and all that is not of meetings. -/
def KpT (n₀ : Nat) (W W' : World) : Prop := Below n₀ W W' ∧ ∀ (k : Nat) (o : Obj), W.heap[k]? = some o → notM o = true → W'.heap[k]? = some o
theorem KpT.refl (n₀ : Nat) (W : World) : KpT n₀ W W := ⟨Below.refl _ _, fun _ _ h _ => h⟩
theorem KpT.trans {n₀ : Nat} {A B C : World} (h : KpT n₀ A B) (k : KpT n₀ B C) : KpT n₀ A C := ⟨h.1.trans k.1, fun i o hi ho => k.2 i o (h.2 i o hi ho) ho⟩
theorem KpT.drew {n₀ : Nat} {A B : World} (h : KpT n₀ A B) : KpT n₀ A B.drew := ⟨h.1.drew, h.2⟩
theorem KpT.more {n₀ : Nat} {A B C : World} (h : KpT n₀ A B) (hn : n₀ ≤ B.heap.size) (hb : Below B.heap.size B C) : KpT n₀ A C :=
  ⟨h.1.trans (hb.mono hn), fun i o hi ho => block_keep' hb (h.2 i o hi ho)⟩
theorem KpT.alloc {n₀ : Nat} {A B : World} (h : KpT n₀ A B) (hn : n₀ ≤ B.heap.size) (o : Obj) : KpT n₀ A (B.alloc o) := h.more hn ((Below.refl _ _).alloc (Nat.le_refl _) _)
theorem below_grown {A B : World} (hb : Below A.heap.size A B) : A.grownBy B none := ⟨hb.os, hb.tape, hb.output, hb.size, fun k hk _ => hb.block k hk⟩
theorem yield_wide {m m' : Nat} {P : Program} {l : Nat} {args : Array Value} {W : World} {R : Ending → World → Prop} (h : YieldAt Fence.wide m P l args W R) : YieldAt Fence.wide m' P l args W R := by
  obtain ⟨fn, tmps, assign, body, hy, hf, hr⟩ := h
  exact ⟨fn, tmps, assign, body, hy, hf, fun c cs _ => hr c cs (room_wide _)⟩
end Go.Proofs.Ytcdmhldhhjolpaa
