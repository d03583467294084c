
/- Walks of the seat of chapter 16: cases, deeds; Offers. -/
import Derived.Test.YtfenloempdhknaaT2
namespace Go.Proofs.Ytfenloempdhknaa
open Go.RowKit
attribute [local go_sem ↓] Go.wp_at_zero Go.wp_at_succ
attribute [local go_sem] more_size cell_more_old frozen_more_old setCell_more_old more_drew drew_more old_alloc old_more old_drew old_setCell cell_alloc_old frozen_alloc_old setCell_alloc_old

/-- A letter; a case; a deed. -/
structure Lt where
  (k f n s : Int)
  (t : ByteArray)
  (e : Int)
structure Ofr where
  (k d : Int)
  (m : Lt)
  (t : Int)
structure De where
  (k a : Int)
def zLt : Lt := ⟨0, 0, 0, 0, ⟨#[]⟩, 0⟩
def ofCells : List Ofr → List Value
  | [] => []
  | m :: l => .int .i8 m.k :: .int .i64 m.d :: .int .i8 m.m.k :: .int .i64 m.m.f :: .int .i64 m.m.n :: .int .i64 m.m.s :: .string m.m.t :: .int .i64 m.m.e :: .int .i64 m.t :: ofCells l
theorem ofCells_len (l : List Ofr) : (ofCells l).length = l.length * 9 := by
  induction l with
  | nil => rfl
  | cons r l ih => simp only [ofCells, List.length_cons, ih]; omega
theorem ofCells_app (l m : List Ofr) : ofCells (l ++ m) = ofCells l ++ ofCells m := by
  induction l with
  | nil => rfl
  | cons r l ih => simp [ofCells, ih]
theorem ofCells_one (l : List Ofr) : ∀ u ∈ ofCells l, u.oneCell' = true := by
  induction l with
  | nil => intro u hu; cases hu
  | cons r l ih =>
    intro u hu
    simp only [ofCells, List.mem_cons] at hu
    rcases hu with rfl | rfl | rfl | rfl | rfl | rfl | rfl | rfl | rfl | hu
    all_goals first | rfl | exact ih u hu
theorem ofCells_at {l : List Ofr} {k : Nat} {m : Ofr} (h : l[k]? = some m) : (ofCells l)[k * 9]? = some (.int .i8 m.k) ∧ (ofCells l)[k * 9 + 1]? = some (.int .i64 m.d) ∧ (ofCells l)[k * 9 + 2]? = some (.int .i8 m.m.k) ∧ (ofCells l)[k * 9 + 3]? = some (.int .i64 m.m.f) ∧ (ofCells l)[k * 9 + 4]? = some (.int .i64 m.m.n) ∧ (ofCells l)[k * 9 + 5]? = some (.int .i64 m.m.s) ∧ (ofCells l)[k * 9 + 6]? = some (.string m.m.t) ∧ (ofCells l)[k * 9 + 7]? = some (.int .i64 m.m.e) ∧ (ofCells l)[k * 9 + 8]? = some (.int .i64 m.t) := by
  induction l generalizing k with
  | nil => simp at h
  | cons x l ih =>
    cases k with
    | zero => simp at h; subst h; simp [ofCells]
    | succ k =>
      have := ih (k := k) (by simpa using h)
      rw [show (k + 1) * 9 = k * 9 + 9 from by omega]
      simpa [ofCells] using this
def RdO (w : World) (v : Value) (l : List Ofr) : Prop := RdF w 9 v l.length (ofCells l)
theorem RdO.below {w w' : World} {v : Value} {l : List Ofr} (h : RdO w v l) (hb : Below w.heap.size w w') : RdO w' v l := RdF.below h hb
theorem RdO.len {w : World} {a : Option Addr} {m c : Nat} {l : List Ofr} (h : RdO w (.slice a m c) l) : m = l.length := (RdF.le h).1
theorem RdO.at {w : World} {a : Option Addr} {m c : Nat} {l : List Ofr} (h : RdO w (.slice a m c) l) {k : Nat} {x : Ofr} (hk : l[k]? = some x) : ∃ b off, a = some ⟨b, off, none⟩ ∧ b < w.heap.size ∧
    w.cell? ⟨b, off + k * 9, none⟩ = some (.int .i8 x.k) ∧ w.cell? ⟨b, off + k * 9 + 1, none⟩ = some (.int .i64 x.d) ∧ w.cell? ⟨b, off + k * 9 + 2, none⟩ = some (.int .i8 x.m.k) ∧ w.cell? ⟨b, off + k * 9 + 3, none⟩ = some (.int .i64 x.m.f) ∧ w.cell? ⟨b, off + k * 9 + 4, none⟩ = some (.int .i64 x.m.n) ∧ w.cell? ⟨b, off + k * 9 + 5, none⟩ = some (.int .i64 x.m.s) ∧ w.cell? ⟨b, off + k * 9 + 6, none⟩ = some (.string x.m.t) ∧ w.cell? ⟨b, off + k * 9 + 7, none⟩ = some (.int .i64 x.m.e) ∧ w.cell? ⟨b, off + k * 9 + 8, none⟩ = some (.int .i64 x.t) := by
  have hlt : k < l.length := (List.getElem?_eq_some_iff.1 hk).1
  obtain ⟨b, off, rfl, hb, hx⟩ := RdF.lies h (by omega)
  obtain ⟨h0, h1, h2, h3, h4, h5, h6, h7, h8⟩ := ofCells_at hk
  exact ⟨b, off, rfl, hb, hx _ _ h0, by rw [Nat.add_assoc]; exact hx _ _ h1, by rw [Nat.add_assoc]; exact hx _ _ h2, by rw [Nat.add_assoc]; exact hx _ _ h3, by rw [Nat.add_assoc]; exact hx _ _ h4, by rw [Nat.add_assoc]; exact hx _ _ h5, by rw [Nat.add_assoc]; exact hx _ _ h6, by rw [Nat.add_assoc]; exact hx _ _ h7, by rw [Nat.add_assoc]; exact hx _ _ h8⟩
def deCells : List De → List Value
  | [] => []
  | m :: l => .int .i8 m.k :: .int .i64 m.a :: .int .i8 0 :: .int .i64 0 :: .int .i64 0 :: .int .i64 0 :: .string ⟨#[]⟩ :: .int .i64 0 :: .int .i8 0 :: .int .u16 0 :: .int .u16 0 :: .int .u16 0 :: .int .u16 0 :: .int .u16 0 :: .int .u16 0 :: .int .u16 0 :: .int .u16 0 :: .int .i64 0 :: .pointer none :: deCells l
theorem deCells_len (l : List De) : (deCells l).length = l.length * 19 := by
  induction l with
  | nil => rfl
  | cons r l ih => simp only [deCells, List.length_cons, ih]; omega
theorem deCells_app (l m : List De) : deCells (l ++ m) = deCells l ++ deCells m := by
  induction l with
  | nil => rfl
  | cons r l ih => simp [deCells, ih]
theorem deCells_one (l : List De) : ∀ u ∈ deCells l, u.oneCell' = true := by
  induction l with
  | nil => intro u hu; cases hu
  | cons r l ih =>
    intro u hu
    simp only [deCells, List.mem_cons] at hu
    rcases hu with rfl | rfl | rfl | rfl | rfl | rfl | rfl | rfl | rfl | rfl | rfl | rfl | rfl | rfl | rfl | rfl | rfl | rfl | rfl | hu
    all_goals first | rfl | exact ih u hu
theorem deCells_at {l : List De} {k : Nat} {m : De} (h : l[k]? = some m) : (deCells l)[k * 19]? = some (.int .i8 m.k) ∧ (deCells l)[k * 19 + 1]? = some (.int .i64 m.a) ∧ (deCells l)[k * 19 + 2]? = some (.int .i8 0) ∧ (deCells l)[k * 19 + 3]? = some (.int .i64 0) ∧ (deCells l)[k * 19 + 4]? = some (.int .i64 0) ∧ (deCells l)[k * 19 + 5]? = some (.int .i64 0) ∧ (deCells l)[k * 19 + 6]? = some (.string ⟨#[]⟩) ∧ (deCells l)[k * 19 + 7]? = some (.int .i64 0) ∧ (deCells l)[k * 19 + 8]? = some (.int .i8 0) ∧ (deCells l)[k * 19 + 9]? = some (.int .u16 0) ∧ (deCells l)[k * 19 + 10]? = some (.int .u16 0) ∧ (deCells l)[k * 19 + 11]? = some (.int .u16 0) ∧ (deCells l)[k * 19 + 12]? = some (.int .u16 0) ∧ (deCells l)[k * 19 + 13]? = some (.int .u16 0) ∧ (deCells l)[k * 19 + 14]? = some (.int .u16 0) ∧ (deCells l)[k * 19 + 15]? = some (.int .u16 0) ∧ (deCells l)[k * 19 + 16]? = some (.int .u16 0) ∧ (deCells l)[k * 19 + 17]? = some (.int .i64 0) ∧ (deCells l)[k * 19 + 18]? = some (.pointer none) := by
  induction l generalizing k with
  | nil => simp at h
  | cons x l ih =>
    cases k with
    | zero => simp at h; subst h; simp [deCells]
    | succ k =>
      have := ih (k := k) (by simpa using h)
      rw [show (k + 1) * 19 = k * 19 + 19 from by omega]
      simpa [deCells] using this
def RdD (w : World) (v : Value) (l : List De) : Prop := RdF w 19 v l.length (deCells l)
theorem RdD.below {w w' : World} {v : Value} {l : List De} (h : RdD w v l) (hb : Below w.heap.size w w') : RdD w' v l := RdF.below h hb
theorem RdD.len {w : World} {a : Option Addr} {m c : Nat} {l : List De} (h : RdD w (.slice a m c) l) : m = l.length := (RdF.le h).1
theorem RdD.at {w : World} {a : Option Addr} {m c : Nat} {l : List De} (h : RdD w (.slice a m c) l) {k : Nat} {x : De} (hk : l[k]? = some x) : ∃ b off, a = some ⟨b, off, none⟩ ∧ b < w.heap.size ∧
    w.cell? ⟨b, off + k * 19, none⟩ = some (.int .i8 x.k) ∧ w.cell? ⟨b, off + k * 19 + 1, none⟩ = some (.int .i64 x.a) ∧ w.cell? ⟨b, off + k * 19 + 2, none⟩ = some (.int .i8 0) ∧ w.cell? ⟨b, off + k * 19 + 3, none⟩ = some (.int .i64 0) ∧ w.cell? ⟨b, off + k * 19 + 4, none⟩ = some (.int .i64 0) ∧ w.cell? ⟨b, off + k * 19 + 5, none⟩ = some (.int .i64 0) ∧ w.cell? ⟨b, off + k * 19 + 6, none⟩ = some (.string ⟨#[]⟩) ∧ w.cell? ⟨b, off + k * 19 + 7, none⟩ = some (.int .i64 0) ∧ w.cell? ⟨b, off + k * 19 + 8, none⟩ = some (.int .i8 0) ∧ w.cell? ⟨b, off + k * 19 + 9, none⟩ = some (.int .u16 0) ∧ w.cell? ⟨b, off + k * 19 + 10, none⟩ = some (.int .u16 0) ∧ w.cell? ⟨b, off + k * 19 + 11, none⟩ = some (.int .u16 0) ∧ w.cell? ⟨b, off + k * 19 + 12, none⟩ = some (.int .u16 0) ∧ w.cell? ⟨b, off + k * 19 + 13, none⟩ = some (.int .u16 0) ∧ w.cell? ⟨b, off + k * 19 + 14, none⟩ = some (.int .u16 0) ∧ w.cell? ⟨b, off + k * 19 + 15, none⟩ = some (.int .u16 0) ∧ w.cell? ⟨b, off + k * 19 + 16, none⟩ = some (.int .u16 0) ∧ w.cell? ⟨b, off + k * 19 + 17, none⟩ = some (.int .i64 0) ∧ w.cell? ⟨b, off + k * 19 + 18, none⟩ = some (.pointer none) := by
  have hlt : k < l.length := (List.getElem?_eq_some_iff.1 hk).1
  obtain ⟨b, off, rfl, hb, hx⟩ := RdF.lies h (by omega)
  obtain ⟨h0, h1, h2, h3, h4, h5, h6, h7, h8, h9, h10, h11, h12, h13, h14, h15, h16, h17, h18⟩ := deCells_at hk
  exact ⟨b, off, rfl, hb, hx _ _ h0, by rw [Nat.add_assoc]; exact hx _ _ h1, by rw [Nat.add_assoc]; exact hx _ _ h2, by rw [Nat.add_assoc]; exact hx _ _ h3, by rw [Nat.add_assoc]; exact hx _ _ h4, by rw [Nat.add_assoc]; exact hx _ _ h5, by rw [Nat.add_assoc]; exact hx _ _ h6, by rw [Nat.add_assoc]; exact hx _ _ h7, by rw [Nat.add_assoc]; exact hx _ _ h8, by rw [Nat.add_assoc]; exact hx _ _ h9, by rw [Nat.add_assoc]; exact hx _ _ h10, by rw [Nat.add_assoc]; exact hx _ _ h11, by rw [Nat.add_assoc]; exact hx _ _ h12, by rw [Nat.add_assoc]; exact hx _ _ h13, by rw [Nat.add_assoc]; exact hx _ _ h14, by rw [Nat.add_assoc]; exact hx _ _ h15, by rw [Nat.add_assoc]; exact hx _ _ h16, by rw [Nat.add_assoc]; exact hx _ _ h17, by rw [Nat.add_assoc]; exact hx _ _ h18⟩

/-- What an attempt offers (d4, d0: its race's ducts). -/
def lostL (x : At) : Lt := if x.sk < 0 then ⟨9, x.id, x.n, 0, ⟨#[]⟩, 160⟩ else ⟨8, x.id, x.n, x.sk, ⟨#[]⟩, 0⟩
def offersL (x : At) (d4 d0 : Int) : List Ofr :=
  if x.st = 0 then [⟨3, 0, zLt, 0⟩, ⟨1, d4, zLt, 0⟩] else if x.st = 1 then [⟨3, 0, zLt, 0⟩] else if x.st = 2 then [⟨0, d0, lostL x, 0⟩, ⟨1, d4, zLt, 0⟩] else []
theorem offers0 {x : At} (d4 d0 : Int) (h : x.st = 0) : offersL x d4 d0 = [⟨3, 0, zLt, 0⟩, ⟨1, d4, zLt, 0⟩] := by simp [offersL, h]
theorem offers1 {x : At} (d4 d0 : Int) (h : x.st = 1) : offersL x d4 d0 = [⟨3, 0, zLt, 0⟩] := by simp [offersL, h]
theorem offers2 {x : At} (d4 d0 : Int) (h : x.st = 2) : offersL x d4 d0 = [⟨0, d0, lostL x, 0⟩, ⟨1, d4, zLt, 0⟩] := by simp [offersL, h]
theorem offers3 {x : At} (d4 d0 : Int) (h0 : x.st ≠ 0) (h1 : x.st ≠ 1) (h2 : x.st ≠ 2) : offersL x d4 d0 = [] := by simp [offersL, h0, h1, h2]

/-- A goroutine's duct, of any number. -/
def OfR (p i : Int) (r : Ending) : Prop := ∃ n : Int, r = .returned (.int .i64 n) ∧ (p ≤ 1125899906842624 → n = ofV p i)
set_option maxHeartbeats 400000 in
theorem of17_any (p i : Int) (w : World) (h0 : 0 ≤ i) (h4 : i ≤ 4) : Calls Try.prog 17 #[.int .i64 p, .int .i64 i] w fun r w' => OfR p i r ∧ w = w' := by
  by_cases hp : p ≤ 1125899906842624
  · exact (of17 p i w h0 h4 hp).mono fun r w' ⟨h1, h2⟩ => ⟨⟨_, h1, fun _ => rfl⟩, h2⟩
  · have hi1 : decide (i < 0) = false := by simp; omega
    have hi2 : decide (5 ≤ i) = false := by simp; omega
    have hd : decide (p < 0) = false := by simp; omega
    have HP := Lib.hid hp
    clear hp
    go_enter Try.func17, Try.ntmps17
    go_wp2
    go_ret
    exact ⟨⟨_, rfl, fun h => absurd h (by have := HP.out; omega)⟩, rfl⟩

def OffersR (x : At) (w : World) (r : Ending) (w' : World) : Prop := ∃ (d4 d0 : Int) (a : Option Addr) (n p : Nat), r = .returned (.slice a n p) ∧ n = (offersL x d4 d0).length ∧ RdO w' (.slice a n p) (offersL x d4 d0) ∧ (x.rc ≤ 1125899906842624 → d4 = ofV x.rc 4 ∧ d0 = ofV x.rc 0) ∧ Below w.heap.size w w'
theorem rdO_blk {w : World} {b n : Nat} {T : TypeId} {cs : Array Value} {l : List Ofr} (h : w.heap[b]? = some (.cells cs T)) (hcs : cs = (ofCells l).toArray) (hn : n = l.length) (h0 : 0 < n) : RdO w (.slice (some ⟨b, 0, none⟩) n n) l := by
  subst hcs hn
  exact RdF.of_block (xs := ofCells l) h (ofCells_len l) h0

set_option maxRecDepth 100000 in
set_option maxHeartbeats 4000000 in
theorem offers9_0 (x : At) (w : World) (h : x.st = 0) : Calls Try.prog 9 #[.agg #[.int .i64 x.id, .int .i64 x.rc, .int .i64 x.ow, .int .i64 x.n, .int .i8 x.f, .int .u16 x.g0, .int .u16 x.g1, .int .u16 x.g2, .int .u16 x.g3, .int .u16 x.g4, .int .u16 x.g5, .int .u16 x.g6, .int .u16 x.g7, .int .i64 x.p, .int .i8 x.st, .int .i64 x.sk]] w (OffersR x w) := by
  have HO : Hid (∀ d4 d0, offersL x d4 d0 = _) := Lib.hid fun d4 d0 => offers0 d4 d0 h
  have hs : decide (x.sk < 0) = true ∨ decide (x.sk < 0) = false := by cases decide (x.sk < 0) <;> simp
  go_enter Try.func9, Try.ntmps9
  go_wp2_with fail
  refine (of17_any x.rc 4 _ (by decide) (by decide)).mono ?_
  rintro r w1 ⟨⟨d4, rfl, h4⟩, rfl⟩
  have H4 := Lib.hid h4
  clear h4
  go_wp2_with fail
  all_goals
    go_ret
    exact ⟨d4, ofV x.rc 0, _, _, _, rfl, by rw [HO.out]; rfl, rdO_blk (by (repeat' (first | (with_reducible assumption) | (with_reducible refine hm_new ?_; (first | rfl | (simp; done) | (simp [more_size]; done) | (simp [more_size]; omega))) | (with_reducible refine block_alloc ?_) | (with_reducible refine hm_more ?_) | (with_reducible refine hm_drew ?_)))) (by rw [HO.out]; rfl) (by rw [HO.out]; rfl) (by decide), fun h => ⟨H4.out h, rfl⟩, by (repeat' (first | (with_reducible exact Below.refl _ _) | (with_reducible assumption) | (with_reducible refine Below.drew ?_) | (with_reducible refine Below.alloc ?_ ?_ _) | (with_reducible refine below_more ?_ ?_ _ _) | (with_reducible refine Below.setCell ?_ ?_ _) | (with_reducible refine Below.trans ?_ (Below.mono (by assumption) ?_)))) <;> first | omega | (simp; done) | (simp; omega) | (simp [more_size]; done) | (simp [more_size]; omega)⟩

set_option maxRecDepth 100000 in
set_option maxHeartbeats 4000000 in
theorem offers9_1 (x : At) (w : World) (h : x.st = 1) : Calls Try.prog 9 #[.agg #[.int .i64 x.id, .int .i64 x.rc, .int .i64 x.ow, .int .i64 x.n, .int .i8 x.f, .int .u16 x.g0, .int .u16 x.g1, .int .u16 x.g2, .int .u16 x.g3, .int .u16 x.g4, .int .u16 x.g5, .int .u16 x.g6, .int .u16 x.g7, .int .i64 x.p, .int .i8 x.st, .int .i64 x.sk]] w (OffersR x w) := by
  have HO : Hid (∀ d4 d0, offersL x d4 d0 = _) := Lib.hid fun d4 d0 => offers1 d4 d0 h
  go_enter Try.func9, Try.ntmps9
  go_wp2_with fail
  refine (of17_any x.rc 4 _ (by decide) (by decide)).mono ?_
  rintro r w1 ⟨⟨d4, rfl, h4⟩, rfl⟩
  have H4 := Lib.hid h4
  clear h4
  go_wp2_with fail
  all_goals
    go_ret
    exact ⟨d4, ofV x.rc 0, _, _, _, rfl, by rw [HO.out]; rfl, rdO_blk (by (repeat' (first | (with_reducible assumption) | (with_reducible refine hm_new ?_; (first | rfl | (simp; done) | (simp [more_size]; done) | (simp [more_size]; omega))) | (with_reducible refine block_alloc ?_) | (with_reducible refine hm_more ?_) | (with_reducible refine hm_drew ?_)))) (by rw [HO.out]; rfl) (by rw [HO.out]; rfl) (by decide), fun h => ⟨H4.out h, rfl⟩, by (repeat' (first | (with_reducible exact Below.refl _ _) | (with_reducible assumption) | (with_reducible refine Below.drew ?_) | (with_reducible refine Below.alloc ?_ ?_ _) | (with_reducible refine below_more ?_ ?_ _ _) | (with_reducible refine Below.setCell ?_ ?_ _) | (with_reducible refine Below.trans ?_ (Below.mono (by assumption) ?_)))) <;> first | omega | (simp; done) | (simp; omega) | (simp [more_size]; done) | (simp [more_size]; omega)⟩

set_option maxRecDepth 100000 in
set_option maxHeartbeats 4000000 in
theorem offers9_3 (x : At) (w : World) (h0 : x.st ≠ 0) (h1 : x.st ≠ 1) (h2 : x.st ≠ 2) : Calls Try.prog 9 #[.agg #[.int .i64 x.id, .int .i64 x.rc, .int .i64 x.ow, .int .i64 x.n, .int .i8 x.f, .int .u16 x.g0, .int .u16 x.g1, .int .u16 x.g2, .int .u16 x.g3, .int .u16 x.g4, .int .u16 x.g5, .int .u16 x.g6, .int .u16 x.g7, .int .i64 x.p, .int .i8 x.st, .int .i64 x.sk]] w (OffersR x w) := by
  have HO : Hid (∀ d4 d0, offersL x d4 d0 = _) := Lib.hid fun d4 d0 => offers3 d4 d0 h0 h1 h2
  have e0 : (x.st == 0) = false := by simp [h0]
  have e1 : (x.st == 1) = false := by simp [h1]
  have e2 : (x.st == 2) = false := by simp [h2]
  clear h0 h1 h2
  go_enter Try.func9, Try.ntmps9
  go_wp2_with fail
  refine (of17_any x.rc 4 _ (by decide) (by decide)).mono ?_
  rintro r w1 ⟨⟨d4, rfl, h4⟩, rfl⟩
  have H4 := Lib.hid h4
  clear h4
  go_wp2_with fail
  all_goals
    go_ret
    exact ⟨d4, ofV x.rc 0, _, _, _, rfl, by rw [HO.out]; rfl, by rw [HO.out]; exact RdF.nil _ 9, fun h => ⟨H4.out h, rfl⟩, by (repeat' (first | (with_reducible exact Below.refl _ _) | (with_reducible assumption) | (with_reducible refine Below.drew ?_) | (with_reducible refine Below.alloc ?_ ?_ _) | (with_reducible refine below_more ?_ ?_ _ _) | (with_reducible refine Below.setCell ?_ ?_ _) | (with_reducible refine Below.trans ?_ (Below.mono (by assumption) ?_)))) <;> first | omega | (simp; done) | (simp; omega) | (simp [more_size]; done) | (simp [more_size]; omega)⟩

set_option maxRecDepth 100000 in
set_option maxHeartbeats 4000000 in
theorem offers9_2n (x : At) (w : World) (h : x.st = 2) (hs : x.sk < 0) : Calls Try.prog 9 #[.agg #[.int .i64 x.id, .int .i64 x.rc, .int .i64 x.ow, .int .i64 x.n, .int .i8 x.f, .int .u16 x.g0, .int .u16 x.g1, .int .u16 x.g2, .int .u16 x.g3, .int .u16 x.g4, .int .u16 x.g5, .int .u16 x.g6, .int .u16 x.g7, .int .i64 x.p, .int .i8 x.st, .int .i64 x.sk]] w (OffersR x w) := by
  have HO : Hid (∀ d4 d0, offersL x d4 d0 = _) := Lib.hid fun d4 d0 => offers2 d4 d0 h
  have HLL : Hid (lostL x = _) := Lib.hid (by unfold lostL; rw [if_pos hs])
  go_enter Try.func9, Try.ntmps9
  go_wp2_with fail
  refine (of17_any x.rc 4 _ (by decide) (by decide)).mono ?_
  rintro r w1 ⟨⟨d4, rfl, h4⟩, rfl⟩
  have H4 := Lib.hid h4
  clear h4
  go_wp2_with fail
  have kA : (((w.alloc (.cells #[.int .i64 x.id, .int .i64 x.rc, .int .i64 x.ow, .int .i64 x.n, .int .i8 x.f, .int .u16 x.g0, .int .u16 x.g1, .int .u16 x.g2, .int .u16 x.g3, .int .u16 x.g4, .int .u16 x.g5, .int .u16 x.g6, .int .u16 x.g7, .int .i64 x.p, .int .i8 2, .int .i64 x.sk] 30)).alloc (.cells #[.int .i8 1, .int .i64 d4, .int .i8 0, .int .i64 0, .int .i64 0, .int .i64 0, .string ⟨#[]⟩, .int .i64 0, .int .i64 0] 46)).alloc (.cells #[.int .i8 9, .int .i64 x.id, .int .i64 x.n, .int .i64 0, .string ⟨#[]⟩, .int .i64 160] 36)).heap[w.heap.size]? = some (.cells #[.int .i64 x.id, .int .i64 x.rc, .int .i64 x.ow, .int .i64 x.n, .int .i8 x.f, .int .u16 x.g0, .int .u16 x.g1, .int .u16 x.g2, .int .u16 x.g3, .int .u16 x.g4, .int .u16 x.g5, .int .u16 x.g6, .int .u16 x.g7, .int .i64 x.p, .int .i8 2, .int .i64 x.sk] 30) := by (repeat' (first | (with_reducible assumption) | (with_reducible refine hm_new ?_; (first | rfl | (simp; done) | (simp [more_size]; done) | (simp [more_size]; omega))) | (with_reducible refine block_alloc ?_) | (with_reducible refine hm_more ?_) | (with_reducible refine hm_drew ?_)))
  have kS : (((w.alloc (.cells #[.int .i64 x.id, .int .i64 x.rc, .int .i64 x.ow, .int .i64 x.n, .int .i8 x.f, .int .u16 x.g0, .int .u16 x.g1, .int .u16 x.g2, .int .u16 x.g3, .int .u16 x.g4, .int .u16 x.g5, .int .u16 x.g6, .int .u16 x.g7, .int .i64 x.p, .int .i8 2, .int .i64 x.sk] 30)).alloc (.cells #[.int .i8 1, .int .i64 d4, .int .i8 0, .int .i64 0, .int .i64 0, .int .i64 0, .string ⟨#[]⟩, .int .i64 0, .int .i64 0] 46)).alloc (.cells #[.int .i8 9, .int .i64 x.id, .int .i64 x.n, .int .i64 0, .string ⟨#[]⟩, .int .i64 160] 36)).heap[w.heap.size + 1]? = some (.cells #[.int .i8 1, .int .i64 d4, .int .i8 0, .int .i64 0, .int .i64 0, .int .i64 0, .string ⟨#[]⟩, .int .i64 0, .int .i64 0] 46) := by (repeat' (first | (with_reducible assumption) | (with_reducible refine hm_new ?_; (first | rfl | (simp; done) | (simp [more_size]; done) | (simp [more_size]; omega))) | (with_reducible refine block_alloc ?_) | (with_reducible refine hm_more ?_) | (with_reducible refine hm_drew ?_)))
  have kM : (((w.alloc (.cells #[.int .i64 x.id, .int .i64 x.rc, .int .i64 x.ow, .int .i64 x.n, .int .i8 x.f, .int .u16 x.g0, .int .u16 x.g1, .int .u16 x.g2, .int .u16 x.g3, .int .u16 x.g4, .int .u16 x.g5, .int .u16 x.g6, .int .u16 x.g7, .int .i64 x.p, .int .i8 2, .int .i64 x.sk] 30)).alloc (.cells #[.int .i8 1, .int .i64 d4, .int .i8 0, .int .i64 0, .int .i64 0, .int .i64 0, .string ⟨#[]⟩, .int .i64 0, .int .i64 0] 46)).alloc (.cells #[.int .i8 9, .int .i64 x.id, .int .i64 x.n, .int .i64 0, .string ⟨#[]⟩, .int .i64 160] 36)).heap[w.heap.size + 1 + 1]? = some (.cells #[.int .i8 9, .int .i64 x.id, .int .i64 x.n, .int .i64 0, .string ⟨#[]⟩, .int .i64 160] 36) := by (repeat' (first | (with_reducible assumption) | (with_reducible refine hm_new ?_; (first | rfl | (simp; done) | (simp [more_size]; done) | (simp [more_size]; omega))) | (with_reducible refine block_alloc ?_) | (with_reducible refine hm_more ?_) | (with_reducible refine hm_drew ?_)))
  have hB : Below w.heap.size w (((w.alloc (.cells #[.int .i64 x.id, .int .i64 x.rc, .int .i64 x.ow, .int .i64 x.n, .int .i8 x.f, .int .u16 x.g0, .int .u16 x.g1, .int .u16 x.g2, .int .u16 x.g3, .int .u16 x.g4, .int .u16 x.g5, .int .u16 x.g6, .int .u16 x.g7, .int .i64 x.p, .int .i8 2, .int .i64 x.sk] 30)).alloc (.cells #[.int .i8 1, .int .i64 d4, .int .i8 0, .int .i64 0, .int .i64 0, .int .i64 0, .string ⟨#[]⟩, .int .i64 0, .int .i64 0] 46)).alloc (.cells #[.int .i8 9, .int .i64 x.id, .int .i64 x.n, .int .i64 0, .string ⟨#[]⟩, .int .i64 160] 36)) := by (repeat' (first | (with_reducible exact Below.refl _ _) | (with_reducible assumption) | (with_reducible refine Below.drew ?_) | (with_reducible refine Below.alloc ?_ ?_ _) | (with_reducible refine below_more ?_ ?_ _ _) | (with_reducible refine Below.setCell ?_ ?_ _) | (with_reducible refine Below.trans ?_ (Below.mono (by assumption) ?_)))) <;> first | omega | (simp; done) | (simp; omega) | (simp [more_size]; done) | (simp [more_size]; omega)
  generalize ((w.alloc (.cells #[.int .i64 x.id, .int .i64 x.rc, .int .i64 x.ow, .int .i64 x.n, .int .i8 x.f, .int .u16 x.g0, .int .u16 x.g1, .int .u16 x.g2, .int .u16 x.g3, .int .u16 x.g4, .int .u16 x.g5, .int .u16 x.g6, .int .u16 x.g7, .int .i64 x.p, .int .i8 2, .int .i64 x.sk] 30)).alloc (.cells #[.int .i8 1, .int .i64 d4, .int .i8 0, .int .i64 0, .int .i64 0, .int .i64 0, .string ⟨#[]⟩, .int .i64 0, .int .i64 0] 46)).alloc (.cells #[.int .i8 9, .int .i64 x.id, .int .i64 x.n, .int .i64 0, .string ⟨#[]⟩, .int .i64 160] 36) = w3 at *
  have cA := cell_block kA
  have cS := cell_block kS
  have cM := cell_block kM
  have oA := block_lt kA
  have oS := block_lt kS
  have oM := block_lt kM
  have HB := Lib.hid hB
  clear kA kS kM hB
  go_region_held3 (fun w' => (∀ b o, b < (w3).heap.size → w'.cell? ⟨b, o, none⟩ = (w3).cell? ⟨b, o, none⟩) ∧ Below ((w3).heap.size) w3 w') ((first | (with_reducible assumption) | (with_reducible exact cls_start) | (refine cls_of ?_; (repeat' (first | (with_reducible exact Below.refl _ _) | (with_reducible assumption) | (with_reducible refine Below.drew ?_) | (with_reducible refine Below.alloc ?_ ?_ _) | (with_reducible refine below_more ?_ ?_ _ _) | (with_reducible refine Below.setCell ?_ ?_ _) | (with_reducible refine Below.trans ?_ (Below.mono (by assumption) ?_)))) <;> first | omega | (simp; done) | (simp; omega) | (simp [more_size]; done) | (simp [more_size]; omega)))) (first
    | (go_at_call 17; refine (of17_any x.rc 0 _ (by decide) (by decide)).mono ?_; rintro e w' ⟨⟨d0, rfl, h0⟩, rfl⟩))
  all_goals
    have H0 := Lib.hid h0
    clear h0 cA cS cM
    have hb := HB.out
    have hzb := hb.size
    go_wp2_with fail
    go_ret
    exact ⟨d4, d0, _, _, _, rfl, by rw [HO.out]; rfl, rdO_blk (by (repeat' (first | (with_reducible assumption) | (with_reducible refine hm_new ?_; (first | rfl | (simp; done) | (simp [more_size]; done) | (simp [more_size]; omega))) | (with_reducible refine block_alloc ?_) | (with_reducible refine hm_more ?_) | (with_reducible refine hm_drew ?_)))) (by rw [HO.out, HLL.out]; rfl) (by rw [HO.out]; rfl) (by decide), fun h => ⟨H4.out h, H0.out h⟩, by (repeat' (first | (with_reducible exact Below.refl _ _) | (with_reducible assumption) | (with_reducible refine Below.drew ?_) | (with_reducible refine Below.alloc ?_ ?_ _) | (with_reducible refine below_more ?_ ?_ _ _) | (with_reducible refine Below.setCell ?_ ?_ _) | (with_reducible refine Below.trans ?_ (Below.mono (by assumption) ?_)))) <;> first | omega | (simp; done) | (simp; omega) | (simp [more_size]; done) | (simp [more_size]; omega)⟩

set_option maxRecDepth 100000 in
set_option maxHeartbeats 4000000 in
theorem offers9_2p (x : At) (w : World) (h : x.st = 2) (hs : 0 ≤ x.sk) : Calls Try.prog 9 #[.agg #[.int .i64 x.id, .int .i64 x.rc, .int .i64 x.ow, .int .i64 x.n, .int .i8 x.f, .int .u16 x.g0, .int .u16 x.g1, .int .u16 x.g2, .int .u16 x.g3, .int .u16 x.g4, .int .u16 x.g5, .int .u16 x.g6, .int .u16 x.g7, .int .i64 x.p, .int .i8 x.st, .int .i64 x.sk]] w (OffersR x w) := by
  have HO : Hid (∀ d4 d0, offersL x d4 d0 = _) := Lib.hid fun d4 d0 => offers2 d4 d0 h
  have HLL : Hid (lostL x = _) := Lib.hid (by unfold lostL; rw [if_neg (by omega)])
  go_enter Try.func9, Try.ntmps9
  go_wp2_with fail
  refine (of17_any x.rc 4 _ (by decide) (by decide)).mono ?_
  rintro r w1 ⟨⟨d4, rfl, h4⟩, rfl⟩
  have H4 := Lib.hid h4
  clear h4
  go_wp2_with fail
  have kA : (((w.alloc (.cells #[.int .i64 x.id, .int .i64 x.rc, .int .i64 x.ow, .int .i64 x.n, .int .i8 x.f, .int .u16 x.g0, .int .u16 x.g1, .int .u16 x.g2, .int .u16 x.g3, .int .u16 x.g4, .int .u16 x.g5, .int .u16 x.g6, .int .u16 x.g7, .int .i64 x.p, .int .i8 2, .int .i64 x.sk] 30)).alloc (.cells #[.int .i8 1, .int .i64 d4, .int .i8 0, .int .i64 0, .int .i64 0, .int .i64 0, .string ⟨#[]⟩, .int .i64 0, .int .i64 0] 46)).alloc (.cells #[.int .i8 8, .int .i64 x.id, .int .i64 x.n, .int .i64 x.sk, .string ⟨#[]⟩, .int .i64 0] 36)).heap[w.heap.size]? = some (.cells #[.int .i64 x.id, .int .i64 x.rc, .int .i64 x.ow, .int .i64 x.n, .int .i8 x.f, .int .u16 x.g0, .int .u16 x.g1, .int .u16 x.g2, .int .u16 x.g3, .int .u16 x.g4, .int .u16 x.g5, .int .u16 x.g6, .int .u16 x.g7, .int .i64 x.p, .int .i8 2, .int .i64 x.sk] 30) := by (repeat' (first | (with_reducible assumption) | (with_reducible refine hm_new ?_; (first | rfl | (simp; done) | (simp [more_size]; done) | (simp [more_size]; omega))) | (with_reducible refine block_alloc ?_) | (with_reducible refine hm_more ?_) | (with_reducible refine hm_drew ?_)))
  have kS : (((w.alloc (.cells #[.int .i64 x.id, .int .i64 x.rc, .int .i64 x.ow, .int .i64 x.n, .int .i8 x.f, .int .u16 x.g0, .int .u16 x.g1, .int .u16 x.g2, .int .u16 x.g3, .int .u16 x.g4, .int .u16 x.g5, .int .u16 x.g6, .int .u16 x.g7, .int .i64 x.p, .int .i8 2, .int .i64 x.sk] 30)).alloc (.cells #[.int .i8 1, .int .i64 d4, .int .i8 0, .int .i64 0, .int .i64 0, .int .i64 0, .string ⟨#[]⟩, .int .i64 0, .int .i64 0] 46)).alloc (.cells #[.int .i8 8, .int .i64 x.id, .int .i64 x.n, .int .i64 x.sk, .string ⟨#[]⟩, .int .i64 0] 36)).heap[w.heap.size + 1]? = some (.cells #[.int .i8 1, .int .i64 d4, .int .i8 0, .int .i64 0, .int .i64 0, .int .i64 0, .string ⟨#[]⟩, .int .i64 0, .int .i64 0] 46) := by (repeat' (first | (with_reducible assumption) | (with_reducible refine hm_new ?_; (first | rfl | (simp; done) | (simp [more_size]; done) | (simp [more_size]; omega))) | (with_reducible refine block_alloc ?_) | (with_reducible refine hm_more ?_) | (with_reducible refine hm_drew ?_)))
  have kM : (((w.alloc (.cells #[.int .i64 x.id, .int .i64 x.rc, .int .i64 x.ow, .int .i64 x.n, .int .i8 x.f, .int .u16 x.g0, .int .u16 x.g1, .int .u16 x.g2, .int .u16 x.g3, .int .u16 x.g4, .int .u16 x.g5, .int .u16 x.g6, .int .u16 x.g7, .int .i64 x.p, .int .i8 2, .int .i64 x.sk] 30)).alloc (.cells #[.int .i8 1, .int .i64 d4, .int .i8 0, .int .i64 0, .int .i64 0, .int .i64 0, .string ⟨#[]⟩, .int .i64 0, .int .i64 0] 46)).alloc (.cells #[.int .i8 8, .int .i64 x.id, .int .i64 x.n, .int .i64 x.sk, .string ⟨#[]⟩, .int .i64 0] 36)).heap[w.heap.size + 1 + 1]? = some (.cells #[.int .i8 8, .int .i64 x.id, .int .i64 x.n, .int .i64 x.sk, .string ⟨#[]⟩, .int .i64 0] 36) := by (repeat' (first | (with_reducible assumption) | (with_reducible refine hm_new ?_; (first | rfl | (simp; done) | (simp [more_size]; done) | (simp [more_size]; omega))) | (with_reducible refine block_alloc ?_) | (with_reducible refine hm_more ?_) | (with_reducible refine hm_drew ?_)))
  have hB : Below w.heap.size w (((w.alloc (.cells #[.int .i64 x.id, .int .i64 x.rc, .int .i64 x.ow, .int .i64 x.n, .int .i8 x.f, .int .u16 x.g0, .int .u16 x.g1, .int .u16 x.g2, .int .u16 x.g3, .int .u16 x.g4, .int .u16 x.g5, .int .u16 x.g6, .int .u16 x.g7, .int .i64 x.p, .int .i8 2, .int .i64 x.sk] 30)).alloc (.cells #[.int .i8 1, .int .i64 d4, .int .i8 0, .int .i64 0, .int .i64 0, .int .i64 0, .string ⟨#[]⟩, .int .i64 0, .int .i64 0] 46)).alloc (.cells #[.int .i8 8, .int .i64 x.id, .int .i64 x.n, .int .i64 x.sk, .string ⟨#[]⟩, .int .i64 0] 36)) := by (repeat' (first | (with_reducible exact Below.refl _ _) | (with_reducible assumption) | (with_reducible refine Below.drew ?_) | (with_reducible refine Below.alloc ?_ ?_ _) | (with_reducible refine below_more ?_ ?_ _ _) | (with_reducible refine Below.setCell ?_ ?_ _) | (with_reducible refine Below.trans ?_ (Below.mono (by assumption) ?_)))) <;> first | omega | (simp; done) | (simp; omega) | (simp [more_size]; done) | (simp [more_size]; omega)
  generalize ((w.alloc (.cells #[.int .i64 x.id, .int .i64 x.rc, .int .i64 x.ow, .int .i64 x.n, .int .i8 x.f, .int .u16 x.g0, .int .u16 x.g1, .int .u16 x.g2, .int .u16 x.g3, .int .u16 x.g4, .int .u16 x.g5, .int .u16 x.g6, .int .u16 x.g7, .int .i64 x.p, .int .i8 2, .int .i64 x.sk] 30)).alloc (.cells #[.int .i8 1, .int .i64 d4, .int .i8 0, .int .i64 0, .int .i64 0, .int .i64 0, .string ⟨#[]⟩, .int .i64 0, .int .i64 0] 46)).alloc (.cells #[.int .i8 8, .int .i64 x.id, .int .i64 x.n, .int .i64 x.sk, .string ⟨#[]⟩, .int .i64 0] 36) = w3 at *
  have cA := cell_block kA
  have cS := cell_block kS
  have cM := cell_block kM
  have oA := block_lt kA
  have oS := block_lt kS
  have oM := block_lt kM
  have HB := Lib.hid hB
  clear kA kS kM hB
  go_region_held3 (fun w' => (∀ b o, b < (w3).heap.size → w'.cell? ⟨b, o, none⟩ = (w3).cell? ⟨b, o, none⟩) ∧ Below ((w3).heap.size) w3 w') ((first | (with_reducible assumption) | (with_reducible exact cls_start) | (refine cls_of ?_; (repeat' (first | (with_reducible exact Below.refl _ _) | (with_reducible assumption) | (with_reducible refine Below.drew ?_) | (with_reducible refine Below.alloc ?_ ?_ _) | (with_reducible refine below_more ?_ ?_ _ _) | (with_reducible refine Below.setCell ?_ ?_ _) | (with_reducible refine Below.trans ?_ (Below.mono (by assumption) ?_)))) <;> first | omega | (simp; done) | (simp; omega) | (simp [more_size]; done) | (simp [more_size]; omega)))) (first
    | (go_at_call 17; refine (of17_any x.rc 0 _ (by decide) (by decide)).mono ?_; rintro e w' ⟨⟨d0, rfl, h0⟩, rfl⟩))
  all_goals
    have H0 := Lib.hid h0
    clear h0 cA cS cM
    have hb := HB.out
    have hzb := hb.size
    go_wp2_with fail
    go_ret
    exact ⟨d4, d0, _, _, _, rfl, by rw [HO.out]; rfl, rdO_blk (by (repeat' (first | (with_reducible assumption) | (with_reducible refine hm_new ?_; (first | rfl | (simp; done) | (simp [more_size]; done) | (simp [more_size]; omega))) | (with_reducible refine block_alloc ?_) | (with_reducible refine hm_more ?_) | (with_reducible refine hm_drew ?_)))) (by rw [HO.out, HLL.out]; rfl) (by rw [HO.out]; rfl) (by decide), fun h => ⟨H4.out h, H0.out h⟩, by (repeat' (first | (with_reducible exact Below.refl _ _) | (with_reducible assumption) | (with_reducible refine Below.drew ?_) | (with_reducible refine Below.alloc ?_ ?_ _) | (with_reducible refine below_more ?_ ?_ _ _) | (with_reducible refine Below.setCell ?_ ?_ _) | (with_reducible refine Below.trans ?_ (Below.mono (by assumption) ?_)))) <;> first | omega | (simp; done) | (simp; omega) | (simp [more_size]; done) | (simp [more_size]; omega)⟩

theorem offers9 (x : At) (w : World) : Calls Try.prog 9 #[.agg #[.int .i64 x.id, .int .i64 x.rc, .int .i64 x.ow, .int .i64 x.n, .int .i8 x.f, .int .u16 x.g0, .int .u16 x.g1, .int .u16 x.g2, .int .u16 x.g3, .int .u16 x.g4, .int .u16 x.g5, .int .u16 x.g6, .int .u16 x.g7, .int .i64 x.p, .int .i8 x.st, .int .i64 x.sk]] w (OffersR x w) := by
  by_cases h0 : x.st = 0
  · exact offers9_0 x w h0
  by_cases h1 : x.st = 1
  · exact offers9_1 x w h1
  by_cases h2 : x.st = 2
  · by_cases hs : x.sk < 0
    · exact offers9_2n x w h2 hs
    · exact offers9_2p x w h2 (by omega)
  exact offers9_3 x w h0 h1 h2
end Go.Proofs.Ytfenloempdhknaa
