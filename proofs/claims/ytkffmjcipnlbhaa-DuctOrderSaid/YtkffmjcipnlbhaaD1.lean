
/- Walks of the seat of chapter 05: letters, and the small functions of a duct. -/
import Derived.Test.YtkffmjcipnlbhaaRows
import Derived.Test.YtkffmjcipnlbhaaRdf
import Derived.Test.YtkffmjcipnlbhaaCls2
import Derived.WalkKit
import Derived.WalkSpells
import Derived.WalkLawsBesides
import Derived.BigQuiet
import Derived.Deep.QuietTactic
import Derived.Deep.RegionHeld3
import Derived.Deep.DrawnRows
import Derived.Laws.EntriesVeiled
import Derived.Lib.SliceRun
namespace Go.Proofs.Ytkffmjcipnlbhaa
open Go.RowKit
attribute [local go_sem ↓] Go.wp_at_zero Go.wp_at_succ
attribute [local go_sem] more_size cell_more_old frozen_more_old setCell_more_old more_drew drew_more old_alloc old_more old_drew old_setCell cell_alloc_old frozen_alloc_old setCell_alloc_old

/-- A letter's fields. -/
structure Lt where
  (k f n s e : Int)
  (t : ByteArray)
def ltCells : List Lt → List Value
  | [] => []
  | m :: l => .int .i8 m.k :: .int .i64 m.f :: .int .i64 m.n :: .int .i64 m.s :: .string m.t :: .int .i64 m.e :: ltCells l
theorem ltCells_len (l : List Lt) : (ltCells l).length = l.length * 6 := by
  induction l with
  | nil => rfl
  | cons r l ih => simp only [ltCells, List.length_cons, ih]; omega
theorem ltCells_app (l m : List Lt) : ltCells (l ++ m) = ltCells l ++ ltCells m := by
  induction l with
  | nil => rfl
  | cons r l ih => simp [ltCells, ih]
theorem ltCells_one (l : List Lt) : ∀ u ∈ ltCells l, u.oneCell' = true := by
  induction l with
  | nil => intro u hu; cases hu
  | cons r l ih =>
    intro u hu
    simp only [ltCells, List.mem_cons] at hu
    rcases hu with rfl | rfl | rfl | rfl | rfl | rfl | hu
    · rfl
    · rfl
    · rfl
    · rfl
    · rfl
    · rfl
    · exact ih u hu
theorem ltCells_drop (l : List Lt) (k : Nat) : (ltCells l).drop (k * 6) = ltCells (l.drop k) := by
  induction l generalizing k with
  | nil => simp [ltCells]
  | cons r l ih =>
    cases k with
    | zero => simp
    | succ k =>
      rw [show (k + 1) * 6 = k * 6 + 6 from by omega]
      simpa [ltCells] using ih k
theorem ltCells_at {l : List Lt} {k : Nat} {m : Lt} (h : l[k]? = some m) : (ltCells l)[k * 6]? = some (.int .i8 m.k) ∧ (ltCells l)[k * 6 + 1]? = some (.int .i64 m.f) ∧ (ltCells l)[k * 6 + 2]? = some (.int .i64 m.n) ∧
    (ltCells l)[k * 6 + 3]? = some (.int .i64 m.s) ∧ (ltCells l)[k * 6 + 4]? = some (.string m.t) ∧ (ltCells l)[k * 6 + 5]? = some (.int .i64 m.e) := by
  induction l generalizing k with
  | nil => simp at h
  | cons x l ih =>
    cases k with
    | zero => simp at h; subst h; simp [ltCells]
    | succ k =>
      have := ih (k := k) (by simpa using h)
      rw [show (k + 1) * 6 = k * 6 + 6 from by omega]
      simpa [ltCells] using this

/-- In the world w the value v is a slice of the letters l. -/
def RdL (w : World) (v : Value) (l : List Lt) : Prop := RdF w 6 v l.length (ltCells l)
theorem RdL.below {w w' : World} {v : Value} {l : List Lt} (h : RdL w v l) (hb : Below w.heap.size w w') : RdL w' v l := RdF.below h hb
theorem RdL.drewN {w : World} {v : Value} {l : List Lt} (h : RdL w v l) (k : Nat) : RdL (w.drewN k) v l := RdF.drewN h k
theorem RdL.shape {w : World} {v : Value} {l : List Lt} {n : Nat} (h : RdL w v l) (hn : l.length = n) : ∃ a c, v = .slice a n c := by subst hn; exact RdF.shape h
theorem RdL.len {w : World} {a : Option Addr} {m c : Nat} {l : List Lt} (h : RdL w (.slice a m c) l) : m = l.length := (RdF.le h).1
theorem RdL.of_owns {w : World} {base e : Nat} {v : Value} {l : List Lt} (h : w.ownsRow base e 6 v l.length (ltCells l)) : RdL w v l := RdF.of_owns h
theorem RdL.nil (w : World) : RdL w (.slice none 0 0) [] := RdF.nil w 6
/-- A letter among them, field by field. -/
theorem RdL.at {w : World} {a : Option Addr} {m c : Nat} {l : List Lt} (h : RdL w (.slice a m c) l) {k : Nat} {x : Lt} (hk : l[k]? = some x) : ∃ b off, a = some ⟨b, off, none⟩ ∧ b < w.heap.size ∧
    w.cell? ⟨b, off + k * 6, none⟩ = some (.int .i8 x.k) ∧ w.cell? ⟨b, off + k * 6 + 1, none⟩ = some (.int .i64 x.f) ∧ w.cell? ⟨b, off + k * 6 + 2, none⟩ = some (.int .i64 x.n) ∧
    w.cell? ⟨b, off + k * 6 + 3, none⟩ = some (.int .i64 x.s) ∧ w.cell? ⟨b, off + k * 6 + 4, none⟩ = some (.string x.t) ∧ w.cell? ⟨b, off + k * 6 + 5, none⟩ = some (.int .i64 x.e) := by
  have hlt : k < l.length := (List.getElem?_eq_some_iff.1 hk).1
  obtain ⟨b, off, rfl, hb, hx⟩ := RdF.lies h (by omega)
  obtain ⟨h0, h1, h2, h3, h4, h5⟩ := ltCells_at hk
  exact ⟨b, off, rfl, hb, hx _ _ h0, by rw [Nat.add_assoc]; exact hx _ _ h1, by rw [Nat.add_assoc]; exact hx _ _ h2, by rw [Nat.add_assoc]; exact hx _ _ h3, by rw [Nat.add_assoc]; exact hx _ _ h4, by rw [Nat.add_assoc]; exact hx _ _ h5⟩

theorem info32 : (Try.prog.info? 32).map (fun i => (i.zero, i.size, i.bytes)) = some (some (.agg #[.int .i8 0, .int .i64 0, .int .i64 0, .int .i64 0, .string ⟨#[]⟩, .int .i64 0]), 6, 56) := by kernel_rfl

theorem owns_empty' (w : World) : (w.alloc (.cells #[] 32)).ownsRow w.heap.size 32 6 (.slice (some ⟨w.heap.size, 0, none⟩) 0 0) 0 [] := owns_empty w _ 32 6 (Nat.le_refl _)

set_option maxHeartbeats 400000 in
theorem clone26 (v : Value) (l : List Lt) (w : World) (hl : l.length ≤ 1000) (h : RdL w v l) :
    Calls Try.prog 26 #[v] w fun r w' => ∃ v', r = .returned v' ∧ w'.ownsRow w.heap.size 32 6 v' l.length (ltCells l) ∧ Below w.heap.size w w' := by
  obtain ⟨i0, hi, hz0, hz1, hz2⟩ := info_parts info32
  have qT : ∀ (w : World) (a : Option Addr) (n c n' c' : Nat), (binOp .eql 24 (.slice a n c) (.slice none n' c')).run Try.prog w = .ok (.bool a.isNone) w := fun w a n c n' c' => Lib.run_eql_slice_nil w _ _ a n c n' c' Try.underlying24
  obtain ⟨a, c, rfl⟩ := h.shape rfl
  have H := Lib.hid h
  cases a with
  | none =>
    obtain ⟨h0, _, rfl, hx⟩ := RdF.nilcap h
    obtain rfl : l = [] := List.length_eq_zero_iff.1 h0
    clear h hx h0
    go_enter Try.func26, Try.ntmps26
    go_wp2
    go_ret
    exact ⟨_, rfl, World.ownsRow_nil _ _ _ _, Below.refl _ _⟩
  | some a =>
    clear h
    go_enter Try.func26, Try.ntmps26
    go_wp2_with (first
      | (at_builtin; refine wpList_append_rdF rfl (.tmp 5) (.tmp 6) 24 rfl w.heap.size 32 i0 (.agg #[.int .i8 0, .int .i64 0, .int .i64 0, .int .i64 0, .string ⟨#[]⟩, .int .i64 0]) 6 56 Try.underlying24 hi hz0 hz1 hz2 rfl (by decide) _ 0 [] rfl (owns_empty' w) _ l.length (ltCells l) rfl (RdF.below H.out (by (repeat' (first | (with_reducible exact Below.refl _ _) | (with_reducible assumption) | (with_reducible refine Below.drew ?_) | (with_reducible refine Below.alloc ?_ ?_ _) | (with_reducible refine below_more ?_ ?_ _ _) | (with_reducible refine Below.setCell ?_ ?_ _) | (with_reducible refine Below.trans ?_ (Below.mono (by assumption) ?_)))) <;> first | omega | (simp; done) | (simp; omega) | (simp [more_size]; done) | (simp [more_size]; omega))) (ltCells_one l) (by omega) (by omega) (by simp) ?_))
    intro v' w1 hown' hgrow
    have hb1 : Below w.heap.size w w1 := ((Below.refl _ w).alloc (Nat.le_refl _) _).grown hgrow (by simp) (fun j hj => by cases hj; exact Nat.le_refl _)
    clear hgrow
    go_wp2
    go_ret
    exact ⟨_, rfl, by simpa using hown', hb1⟩

/-- May a duct be? -/
def MayP (c : Int) (n : Nat) : Prop := 0 ≤ c ∧ c ≤ 64 ∧ (n : Int) ≤ c
set_option maxHeartbeats 1000000 in
theorem may13_yes (b : Nat) (c : Int) (a : Option Addr) (n p : Nat) (cl : Bool) (w : World) (h : w.heap[b]? = some (.cells #[.int .i64 c, .slice a n p, .bool cl] 26)) (h1 : 0 ≤ c) (h2 : c ≤ 64) (h3 : (n : Int) ≤ c) :
    Calls Try.prog 13 #[.slice (some ⟨b, 0, none⟩) 1 1] w fun r w' => r = .returned (.bool true) ∧ Below w.heap.size w w' := by
  have hc := cell_block h
  have hlt := block_lt h
  clear h
  go_enter Try.func13, Try.ntmps13
  go_wp2
  refine wp_loop_rounds 2 ?_
  rw [rounds_succ]
  go_wp2
  rw [rounds_succ]
  go_wp2
  go_ret
  exact ⟨rfl, by (repeat' (first | (with_reducible exact Below.refl _ _) | (with_reducible assumption) | (with_reducible refine Below.drew ?_) | (with_reducible refine Below.alloc ?_ ?_ _) | (with_reducible refine below_more ?_ ?_ _ _) | (with_reducible refine Below.setCell ?_ ?_ _) | (with_reducible refine Below.trans ?_ (Below.mono (by assumption) ?_)))) <;> first | omega | (simp; done) | (simp; omega) | (simp [more_size]; done) | (simp [more_size]; omega)⟩
set_option maxHeartbeats 1000000 in
theorem may13_no (b : Nat) (c : Int) (a : Option Addr) (n p : Nat) (cl : Bool) (w : World) (h : w.heap[b]? = some (.cells #[.int .i64 c, .slice a n p, .bool cl] 26)) (hn : ¬ (0 ≤ c ∧ c ≤ 64 ∧ (n : Int) ≤ c)) :
    Calls Try.prog 13 #[.slice (some ⟨b, 0, none⟩) 1 1] w fun r w' => r = .returned (.bool false) ∧ Below w.heap.size w w' := by
  have hc := cell_block h
  have hlt := block_lt h
  clear h
  rcases (show c < 0 ∨ (0 ≤ c ∧ 64 < c) ∨ (0 ≤ c ∧ c ≤ 64 ∧ c < (n : Int)) from by omega) with h | ⟨h1, h⟩ | ⟨h1, h2, h⟩
  all_goals
    clear hn
    go_enter Try.func13, Try.ntmps13
    go_wp2
    refine wp_loop_rounds 2 ?_
    rw [rounds_succ]
    go_wp2
    go_ret
    exact ⟨rfl, by (repeat' (first | (with_reducible exact Below.refl _ _) | (with_reducible assumption) | (with_reducible refine Below.drew ?_) | (with_reducible refine Below.alloc ?_ ?_ _) | (with_reducible refine below_more ?_ ?_ _ _) | (with_reducible refine Below.setCell ?_ ?_ _) | (with_reducible refine Below.trans ?_ (Below.mono (by assumption) ?_)))) <;> first | omega | (simp; done) | (simp; omega) | (simp [more_size]; done) | (simp [more_size]; omega)⟩

set_option maxHeartbeats 400000 in
theorem room17_shut (c : Int) (a : Option Addr) (n p : Nat) (w : World) : Calls Try.prog 17 #[.agg #[.int .i64 c, .slice a n p, .bool true]] w fun r w' => r = .returned (.int .i64 0) ∧ Below w.heap.size w w' := by
  go_enter Try.func17, Try.ntmps17
  go_wp2
  go_ret
  exact ⟨rfl, by (repeat' (first | (with_reducible exact Below.refl _ _) | (with_reducible assumption) | (with_reducible refine Below.drew ?_) | (with_reducible refine Below.alloc ?_ ?_ _) | (with_reducible refine below_more ?_ ?_ _ _) | (with_reducible refine Below.setCell ?_ ?_ _) | (with_reducible refine Below.trans ?_ (Below.mono (by assumption) ?_)))) <;> first | omega | (simp; done) | (simp; omega) | (simp [more_size]; done) | (simp [more_size]; omega)⟩
set_option maxHeartbeats 400000 in
theorem room17_open (c : Int) (a : Option Addr) (n p : Nat) (w : World) (h1 : (n : Int) ≤ c) (h2 : c ≤ 64) : Calls Try.prog 17 #[.agg #[.int .i64 c, .slice a n p, .bool false]] w fun r w' => r = .returned (.int .i64 (c - n)) ∧ Below w.heap.size w w' := by
  have hm : max (c - (n : Int)) 0 = c - n := by omega
  have HM := Lib.hid hm
  clear hm
  go_enter Try.func17, Try.ntmps17
  go_wp2
  go_ret
  exact ⟨by rfl, by (repeat' (first | (with_reducible exact Below.refl _ _) | (with_reducible assumption) | (with_reducible refine Below.drew ?_) | (with_reducible refine Below.alloc ?_ ?_ _) | (with_reducible refine below_more ?_ ?_ _ _) | (with_reducible refine Below.setCell ?_ ?_ _) | (with_reducible refine Below.trans ?_ (Below.mono (by assumption) ?_)))) <;> first | omega | (simp; done) | (simp; omega) | (simp [more_size]; done) | (simp [more_size]; omega)⟩
end Go.Proofs.Ytkffmjcipnlbhaa
