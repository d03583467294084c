
/- Walks of the seat of chapter 16: attempts; who is over, holds a socket, has a slot. -/
import Derived.Test.YtfenloempdhknaaRows
import Derived.Test.YtfenloempdhknaaRdf
import Derived.Test.YtfenloempdhknaaRds
import Derived.Test.YtfenloempdhknaaCls2
import Derived.WalkKit
import Derived.WalkSpells
import Derived.WalkLawsBesides
import Derived.BigQuiet
import Derived.Deep.QuietTactic
import Derived.Deep.RegionHeld3
import Derived.Deep.DrawnRows
import Derived.Laws.EntriesVeiled
import Derived.Lib.SliceRun
namespace Go.Proofs.Ytfenloempdhknaa
open Go.RowKit
attribute [local go_sem ↓] Go.wp_at_zero Go.wp_at_succ
attribute [local go_sem] more_size cell_more_old frozen_more_old setCell_more_old more_drew drew_more old_alloc old_more old_drew old_setCell cell_alloc_old frozen_alloc_old setCell_alloc_old

/-- An attempt's fields, laid flat. -/
structure At where
  (id rc ow n f g0 g1 g2 g3 g4 g5 g6 g7 p st sk : Int)
def atCells : List At → List Value
  | [] => []
  | m :: l => .int .i64 m.id :: .int .i64 m.rc :: .int .i64 m.ow :: .int .i64 m.n :: .int .i8 m.f :: .int .u16 m.g0 :: .int .u16 m.g1 :: .int .u16 m.g2 :: .int .u16 m.g3 :: .int .u16 m.g4 :: .int .u16 m.g5 :: .int .u16 m.g6 :: .int .u16 m.g7 :: .int .i64 m.p :: .int .i8 m.st :: .int .i64 m.sk :: atCells l
theorem atCells_len (l : List At) : (atCells l).length = l.length * 16 := by
  induction l with
  | nil => rfl
  | cons r l ih => simp only [atCells, List.length_cons, ih]; omega
theorem atCells_app (l m : List At) : atCells (l ++ m) = atCells l ++ atCells m := by
  induction l with
  | nil => rfl
  | cons r l ih => simp [atCells, ih]
theorem atCells_one (l : List At) : ∀ u ∈ atCells l, u.oneCell' = true := by
  induction l with
  | nil => intro u hu; cases hu
  | cons r l ih =>
    intro u hu
    simp only [atCells, List.mem_cons] at hu
    rcases hu with rfl | rfl | rfl | rfl | rfl | rfl | rfl | rfl | rfl | rfl | rfl | rfl | rfl | rfl | rfl | rfl | hu
    all_goals first | rfl | exact ih u hu
theorem atCells_at {l : List At} {k : Nat} {m : At} (h : l[k]? = some m) : (atCells l)[k * 16]? = some (.int .i64 m.id) ∧ (atCells l)[k * 16 + 1]? = some (.int .i64 m.rc) ∧ (atCells l)[k * 16 + 2]? = some (.int .i64 m.ow) ∧ (atCells l)[k * 16 + 3]? = some (.int .i64 m.n) ∧ (atCells l)[k * 16 + 4]? = some (.int .i8 m.f) ∧ (atCells l)[k * 16 + 5]? = some (.int .u16 m.g0) ∧ (atCells l)[k * 16 + 6]? = some (.int .u16 m.g1) ∧ (atCells l)[k * 16 + 7]? = some (.int .u16 m.g2) ∧ (atCells l)[k * 16 + 8]? = some (.int .u16 m.g3) ∧ (atCells l)[k * 16 + 9]? = some (.int .u16 m.g4) ∧ (atCells l)[k * 16 + 10]? = some (.int .u16 m.g5) ∧ (atCells l)[k * 16 + 11]? = some (.int .u16 m.g6) ∧ (atCells l)[k * 16 + 12]? = some (.int .u16 m.g7) ∧ (atCells l)[k * 16 + 13]? = some (.int .i64 m.p) ∧ (atCells l)[k * 16 + 14]? = some (.int .i8 m.st) ∧ (atCells l)[k * 16 + 15]? = some (.int .i64 m.sk) := by
  induction l generalizing k with
  | nil => simp at h
  | cons x l ih =>
    cases k with
    | zero => simp at h; subst h; simp [atCells]
    | succ k =>
      have := ih (k := k) (by simpa using h)
      rw [show (k + 1) * 16 = k * 16 + 16 from by omega]
      simpa [atCells] using this

/-- In the world w the value v is a slice of the attempts l. -/
def RdA (w : World) (v : Value) (l : List At) : Prop := RdF w 16 v l.length (atCells l)
theorem RdA.below {w w' : World} {v : Value} {l : List At} (h : RdA w v l) (hb : Below w.heap.size w w') : RdA w' v l := RdF.below h hb
theorem RdA.shape {w : World} {v : Value} {l : List At} {n : Nat} (h : RdA w v l) (hn : l.length = n) : ∃ a c, v = .slice a n c := by subst hn; exact RdF.shape h
theorem RdA.len {w : World} {a : Option Addr} {m c : Nat} {l : List At} (h : RdA w (.slice a m c) l) : m = l.length := (RdF.le h).1
theorem RdA.nil (w : World) : RdA w (.slice none 0 0) [] := RdF.nil w 16
theorem RdA.of_owns {w : World} {base e n : Nat} {v : Value} {l : List At} (h : w.ownsRow base e 16 v n (atCells l)) (hn : n = l.length) : RdA w v l := by subst hn; exact RdF.of_owns h
theorem rdA_blk {w : World} {b : Nat} {T : TypeId} (x : At) (h : w.heap[b]? = some (.cells #[.int .i64 x.id, .int .i64 x.rc, .int .i64 x.ow, .int .i64 x.n, .int .i8 x.f, .int .u16 x.g0, .int .u16 x.g1, .int .u16 x.g2, .int .u16 x.g3, .int .u16 x.g4, .int .u16 x.g5, .int .u16 x.g6, .int .u16 x.g7, .int .i64 x.p, .int .i8 x.st, .int .i64 x.sk] T)) : RdA w (.slice (some ⟨b, 0, none⟩) 1 1) [x] :=
  RdF.of_block (xs := atCells [x]) h rfl (by decide)
/-- An attempt among them, field by field. -/
theorem RdA.at {w : World} {a : Option Addr} {m c : Nat} {l : List At} (h : RdA w (.slice a m c) l) {k : Nat} {x : At} (hk : l[k]? = some x) : ∃ b off, a = some ⟨b, off, none⟩ ∧ b < w.heap.size ∧
    w.cell? ⟨b, off + k * 16, none⟩ = some (.int .i64 x.id) ∧ w.cell? ⟨b, off + k * 16 + 1, none⟩ = some (.int .i64 x.rc) ∧ w.cell? ⟨b, off + k * 16 + 2, none⟩ = some (.int .i64 x.ow) ∧ w.cell? ⟨b, off + k * 16 + 3, none⟩ = some (.int .i64 x.n) ∧ w.cell? ⟨b, off + k * 16 + 4, none⟩ = some (.int .i8 x.f) ∧ w.cell? ⟨b, off + k * 16 + 5, none⟩ = some (.int .u16 x.g0) ∧ w.cell? ⟨b, off + k * 16 + 6, none⟩ = some (.int .u16 x.g1) ∧ w.cell? ⟨b, off + k * 16 + 7, none⟩ = some (.int .u16 x.g2) ∧ w.cell? ⟨b, off + k * 16 + 8, none⟩ = some (.int .u16 x.g3) ∧ w.cell? ⟨b, off + k * 16 + 9, none⟩ = some (.int .u16 x.g4) ∧ w.cell? ⟨b, off + k * 16 + 10, none⟩ = some (.int .u16 x.g5) ∧ w.cell? ⟨b, off + k * 16 + 11, none⟩ = some (.int .u16 x.g6) ∧ w.cell? ⟨b, off + k * 16 + 12, none⟩ = some (.int .u16 x.g7) ∧ w.cell? ⟨b, off + k * 16 + 13, none⟩ = some (.int .i64 x.p) ∧ w.cell? ⟨b, off + k * 16 + 14, none⟩ = some (.int .i8 x.st) ∧ w.cell? ⟨b, off + k * 16 + 15, none⟩ = some (.int .i64 x.sk) := by
  have hlt : k < l.length := (List.getElem?_eq_some_iff.1 hk).1
  obtain ⟨b, off, rfl, hb, hx⟩ := RdF.lies h (by omega)
  obtain ⟨h0, h1, h2, h3, h4, h5, h6, h7, h8, h9, h10, h11, h12, h13, h14, h15⟩ := atCells_at hk
  exact ⟨b, off, rfl, hb, hx _ _ h0, by rw [Nat.add_assoc]; exact hx _ _ h1, by rw [Nat.add_assoc]; exact hx _ _ h2, by rw [Nat.add_assoc]; exact hx _ _ h3, by rw [Nat.add_assoc]; exact hx _ _ h4, by rw [Nat.add_assoc]; exact hx _ _ h5, by rw [Nat.add_assoc]; exact hx _ _ h6, by rw [Nat.add_assoc]; exact hx _ _ h7, by rw [Nat.add_assoc]; exact hx _ _ h8, by rw [Nat.add_assoc]; exact hx _ _ h9, by rw [Nat.add_assoc]; exact hx _ _ h10, by rw [Nat.add_assoc]; exact hx _ _ h11, by rw [Nat.add_assoc]; exact hx _ _ h12, by rw [Nat.add_assoc]; exact hx _ _ h13, by rw [Nat.add_assoc]; exact hx _ _ h14, by rw [Nat.add_assoc]; exact hx _ _ h15⟩

/-- Is an attempt under way? How many have a slot; which sockets are held. -/
def liveB (x : At) : Bool := decide (0 ≤ x.st ∧ x.st < 3)
def heldB (x : At) : Bool := decide (x.st = 2 ∧ 0 ≤ x.sk)
def slotB (x : At) : Bool := decide (x.st = 0 ∨ x.st = 1 ∨ (x.st = 2 ∧ 0 ≤ x.sk))
def slotsN (l : List At) : Nat := (l.filter slotB).length
def holdsL (l : List At) : List Int := (l.filter heldB).map (·.sk)
def overB (l : List At) : Bool := !(l.any liveB)

set_option maxHeartbeats 1000000 in
theorem live16 (x : At) (w : World) : Calls Try.prog 16 #[.agg #[.int .i64 x.id, .int .i64 x.rc, .int .i64 x.ow, .int .i64 x.n, .int .i8 x.f, .int .u16 x.g0, .int .u16 x.g1, .int .u16 x.g2, .int .u16 x.g3, .int .u16 x.g4, .int .u16 x.g5, .int .u16 x.g6, .int .u16 x.g7, .int .i64 x.p, .int .i8 x.st, .int .i64 x.sk]] w fun r w' => r = .returned (.bool (liveB x)) ∧ Below w.heap.size w w' := by
  by_cases h0 : 0 ≤ x.st
  · by_cases h3 : x.st < 3
    · have e : liveB x = true := by simp [liveB, h0, h3]
      have E := Lib.hid e
      clear e
      go_enter Try.func16, Try.ntmps16
      go_wp2
      go_ret
      exact ⟨by rw [E.out]; rfl, by (repeat' (first | (with_reducible exact Below.refl _ _) | (with_reducible assumption) | (with_reducible refine Below.drew ?_) | (with_reducible refine Below.alloc ?_ ?_ _) | (with_reducible refine below_more ?_ ?_ _ _) | (with_reducible refine Below.setCell ?_ ?_ _) | (with_reducible refine Below.trans ?_ (Below.mono (by assumption) ?_)))) <;> first | omega | (simp; done) | (simp; omega) | (simp [more_size]; done) | (simp [more_size]; omega)⟩
    · have e : liveB x = false := by simp [liveB]; omega
      have E := Lib.hid e
      clear e
      go_enter Try.func16, Try.ntmps16
      go_wp2
      go_ret
      exact ⟨by rw [E.out]; rfl, by (repeat' (first | (with_reducible exact Below.refl _ _) | (with_reducible assumption) | (with_reducible refine Below.drew ?_) | (with_reducible refine Below.alloc ?_ ?_ _) | (with_reducible refine below_more ?_ ?_ _ _) | (with_reducible refine Below.setCell ?_ ?_ _) | (with_reducible refine Below.trans ?_ (Below.mono (by assumption) ?_)))) <;> first | omega | (simp; done) | (simp; omega) | (simp [more_size]; done) | (simp [more_size]; omega)⟩
  · have e : liveB x = false := by simp [liveB]; omega
    have E := Lib.hid e
    clear e
    go_enter Try.func16, Try.ntmps16
    go_wp2
    go_ret
    exact ⟨by rw [E.out]; rfl, by (repeat' (first | (with_reducible exact Below.refl _ _) | (with_reducible assumption) | (with_reducible refine Below.drew ?_) | (with_reducible refine Below.alloc ?_ ?_ _) | (with_reducible refine below_more ?_ ?_ _ _) | (with_reducible refine Below.setCell ?_ ?_ _) | (with_reducible refine Below.trans ?_ (Below.mono (by assumption) ?_)))) <;> first | omega | (simp; done) | (simp; omega) | (simp [more_size]; done) | (simp [more_size]; omega)⟩

theorem any_take_succ {l : List At} {k : Nat} {x : At} (h : l[k]? = some x) : (l.take (k + 1)).any liveB = ((l.take k).any liveB || liveB x) := by
  rw [List.take_add_one, h]; simp
/-- IndexFunc, by Over's closure: some index, or -1. -/
def IdxR (b : Bool) (r : Ending) : Prop := ∃ n : Int, r = .returned (.int .i64 n) ∧ (0 ≤ n ↔ b = true)
set_option maxHeartbeats 2000000 in
theorem index19 (a : Option Addr) (n p : Nat) (l : List At) (w : World) (hn : n ≤ 1000) (hl : RdA w (.slice a n p) l) :
    Calls Try.prog 19 #[.slice a n p, .func (.func 16) #[] #[]] w fun r w' => IdxR (l.any liveB) r ∧ Below w.heap.size w w' := by
  have HL := Lib.hid hl
  have HN := Lib.hid hl.len
  clear hl
  go_enter Try.func19, Try.ntmps19
  go_wp2
  go_loopw [8] (fun i wr => ∃ k : Nat, k ≤ n ∧ i = .int .i64 k ∧ (l.take k).any liveB = false ∧ Below w.heap.size w wr) (fun i _ => n - (intOf i).toNat)
  case atStart => exact ⟨0, Nat.zero_le _, rfl, rfl, Below.refl _ _⟩
  case round =>
    obtain ⟨k, hk, rfl, hno, hbl⟩ := hrel
    have HNO := Lib.hid hno
    have HBL := Lib.hid hbl
    have hzr : w.heap.size ≤ wr.heap.size := hbl.size
    clear hno hbl
    by_cases hlt : k < n
    · have hi : (k : Int) < (n : Int) := by omega
      have hi0 : (0 : Int) ≤ (k : Int) := by omega
      obtain ⟨x, hx⟩ : ∃ x, l[k]? = some x := ⟨_, List.getElem?_eq_getElem (by have := HN.out; omega)⟩
      have HX := Lib.hid hx
      obtain ⟨b, off, rfl, hb0, c0, c1, c2, c3, c4, c5, c6, c7, c8, c9, c10, c11, c12, c13, c14, c15⟩ := (HL.out.below HBL.out).at hx
      clear hx
      go_wp2_with fail
      refine (live16 x _).mono ?_
      rintro r w1 ⟨rfl, hb⟩
      have HB1 := Lib.hid (HBL.out.trans (hb.mono hzr))
      clear hb c0 c1 c2 c3 c4 c5 c6 c7 c8 c9 c10 c11 c12 c13 c14 c15
      cases hv : liveB x
      · have HV := Lib.hid hv
        clear hv
        go_wp2
        go_roundw
        case rel => exact ⟨k + 1, by omega, by go_num, by rw [any_take_succ HX.out, HNO.out, HV.out]; rfl, HB1.out⟩
        case measure => first | (simp [intOf]; done) | (simp [intOf]; omega)
      · have HV := Lib.hid hv
        clear hv
        go_wp2
        go_ret
        refine ⟨⟨k, rfl, ?_⟩, HB1.out⟩
        refine ⟨fun _ => ?_, fun _ => by omega⟩
        exact List.any_eq_true.2 ⟨x, List.mem_of_getElem? HX.out, HV.out⟩
    · have hi : ¬ (k : Int) < (n : Int) := by omega
      go_wp2
      go_ret
      refine ⟨⟨-1, rfl, ?_⟩, HBL.out⟩
      have : l.take k = l := List.take_of_length_le (by have := HN.out; omega)
      rw [← this, HNO.out]
      simp
set_option maxHeartbeats 1000000 in
theorem over8 (a : Option Addr) (n p : Nat) (l : List At) (w : World) (hn : n ≤ 1000) (hl : RdA w (.slice a n p) l) :
    Calls Try.prog 8 #[.slice a n p] w fun r w' => r = .returned (.bool (overB l)) ∧ Below w.heap.size w w' := by
  have h15 : ∀ w0 : World, RdA w0 (.slice a n p) l → Calls Try.prog 15 #[.slice a n p, .func (.func 16) #[] #[]] w0 fun r w' => r = .returned (.bool (l.any liveB)) ∧ Below w0.heap.size w0 w' := by
    intro w0 h
    have H := Lib.hid h
    clear h
    go_enter Try.func15, Try.ntmps15
    go_wp2_with fail
    refine (index19 a n p l _ hn H.out).mono ?_
    rintro r w1 ⟨⟨m, rfl, hm⟩, hb⟩
    cases hv : l.any liveB
    · have h0 : ¬ 0 ≤ m := by rw [hm, hv]; simp
      have hd : decide (0 ≤ m) = false := by simpa using h0
      have HV := Lib.hid hv
      clear hm hv h0
      go_wp2
      go_ret
      exact ⟨by rw [HV.out]; rfl, hb⟩
    · have h0 : 0 ≤ m := by rw [hm, hv]
      have HV := Lib.hid hv
      clear hm hv
      go_wp2
      go_ret
      exact ⟨by rw [HV.out]; rfl, hb⟩
  have H15 := Lib.hid h15
  have HL := Lib.hid hl
  clear h15 hl
  go_enter Try.func8, Try.ntmps8
  go_wp2_with fail
  refine (H15.out _ HL.out).mono ?_
  rintro r w1 ⟨rfl, hb⟩
  cases hv : l.any liveB
  · have HE : Hid (overB l = true) := Lib.hid (by simp only [overB, hv, Bool.not_false])
    clear hv
    go_wp2
    go_ret
    exact ⟨by rw [HE.out]; rfl, hb⟩
  · have HE : Hid (overB l = false) := Lib.hid (by simp only [overB, hv, Bool.not_true])
    clear hv
    go_wp2
    go_ret
    exact ⟨by rw [HE.out]; rfl, hb⟩
end Go.Proofs.Ytfenloempdhknaa
