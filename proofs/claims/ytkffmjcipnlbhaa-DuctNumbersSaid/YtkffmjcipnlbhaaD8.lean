
/- Walks of the seat of chapter 05: the ducts' numbers, and the ducts that a goroutine has at first. -/
import Derived.Test.YtkffmjcipnlbhaaD6
namespace Go.Proofs.Ytkffmjcipnlbhaa
open Go.RowKit
attribute [local go_sem ↓] Go.wp_at_zero Go.wp_at_succ
attribute [local go_sem] more_size cell_more_old frozen_more_old setCell_more_old more_drew drew_more old_alloc old_more old_drew old_setCell cell_alloc_old frozen_alloc_old setCell_alloc_old

def ofV (p q : Int) : Int := if p < 0 ∨ q < 0 ∨ 5 ≤ q then -1 else 5 * p + q
def whoV (d : Int) : Int × Int := if d < 0 then (-1, -1) else (d / 5, d % 5)

set_option maxHeartbeats 400000 in
theorem of19 (p q : Int) (w : World) (hp : p ≤ 1125899906842624 ∨ p < 0 ∨ q < 0 ∨ 5 ≤ q ∨ 5 * p + q ≤ 1152921504606846976) : Calls Try.prog 19 #[.int .i64 p, .int .i64 q] w fun r w' => r = .returned (.int .i64 (ofV p q)) ∧ w = w' := by
  by_cases h1 : p < 0
  · have e : ofV p q = -1 := if_pos (.inl h1)
    rw [e]; clear e
    go_enter Try.func19, Try.ntmps19
    go_wp2
    go_ret
    exact ⟨rfl, rfl⟩
  by_cases h2 : q < 0
  · have e : ofV p q = -1 := if_pos (.inr (.inl h2))
    rw [e]; clear e
    go_enter Try.func19, Try.ntmps19
    go_wp2
    go_ret
    exact ⟨rfl, rfl⟩
  by_cases h3 : 5 ≤ q
  · have e : ofV p q = -1 := if_pos (.inr (.inr h3))
    rw [e]; clear e
    go_enter Try.func19, Try.ntmps19
    go_wp2
    go_ret
    exact ⟨rfl, rfl⟩
  have e : ofV p q = p * 5 + q := by rw [ofV, if_neg (by omega)]; omega
  rw [e]; clear e
  have h4 : p ≤ 1152921504606846976 := by omega
  have s1 : IntKind.i64.wrap (p * 5) = p * 5 := by rw [IntKind.wrap_i64]; omega
  have s2 : IntKind.i64.wrap (p * 5 + q) = p * 5 + q := by rw [IntKind.wrap_i64]; omega
  go_enter Try.func19, Try.ntmps19
  go_wp2
  go_ret
  exact ⟨rfl, rfl⟩

set_option maxHeartbeats 400000 in
theorem of20 (p q : Int) (w : World) (hp : p ≤ 1125899906842624) : Calls Try.prog 20 #[.int .i64 p, .int .i64 q] w fun r w' => r = .returned (.int .i64 (ofV p q)) ∧ w = w' := by
  by_cases h1 : p < 0
  · have e : ofV p q = -1 := if_pos (.inl h1)
    rw [e]; clear e
    go_enter Try.func20, Try.ntmps20
    go_wp2
    go_ret
    exact ⟨rfl, rfl⟩
  by_cases h2 : q < 0
  · have e : ofV p q = -1 := if_pos (.inr (.inl h2))
    rw [e]; clear e
    go_enter Try.func20, Try.ntmps20
    go_wp2
    go_ret
    exact ⟨rfl, rfl⟩
  by_cases h3 : 5 ≤ q
  · have e : ofV p q = -1 := if_pos (.inr (.inr h3))
    rw [e]; clear e
    go_enter Try.func20, Try.ntmps20
    go_wp2
    go_ret
    exact ⟨rfl, rfl⟩
  have e : ofV p q = 5 * p + q := by rw [ofV, if_neg (by omega)]
  rw [e]; clear e
  have s1 : IntKind.i64.wrap (5 * p) = 5 * p := by rw [IntKind.wrap_i64]; omega
  have s2 : IntKind.i64.wrap (5 * p + q) = 5 * p + q := by rw [IntKind.wrap_i64]; omega
  go_enter Try.func20, Try.ntmps20
  go_wp2
  go_ret
  exact ⟨rfl, rfl⟩

set_option maxHeartbeats 400000 in
theorem whose21 (d : Int) (w : World) (hd : d ≤ 1152921504606846976) : Calls Try.prog 21 #[.int .i64 d] w fun r w' => r = .returned (.tuple #[.int .i64 (whoV d).1, .int .i64 (whoV d).2]) ∧ w = w' := by
  by_cases h1 : d < 0
  · have e : whoV d = (-1, -1) := if_pos h1
    rw [e]; clear e
    go_enter Try.func21, Try.ntmps21
    go_wp2
    go_ret2
    exact ⟨rfl, rfl⟩
  · have e : whoV d = (d / 5, d % 5) := if_neg h1
    rw [e]; clear e
    go_enter Try.func21, Try.ntmps21
    go_wp2
    go_ret2
    exact ⟨rfl, rfl⟩
set_option maxHeartbeats 400000 in
theorem whose22 (d : Int) (w : World) (hd : d ≤ 1152921504606846976) : Calls Try.prog 22 #[.int .i64 d] w fun r w' => r = .returned (.tuple #[.int .i64 (whoV d).1, .int .i64 (whoV d).2]) ∧ w = w' := by
  by_cases h1 : d < 0
  · have e : whoV d = (-1, -1) := if_pos h1
    rw [e]; clear e
    go_enter Try.func22, Try.ntmps22
    go_wp2
    go_ret2
    exact ⟨rfl, rfl⟩
  · have e : whoV d = (d / 5, d % 5) := if_neg h1
    rw [e]; clear e
    go_enter Try.func22, Try.ntmps22
    go_wp2
    go_ret2
    exact ⟨rfl, rfl⟩

def ownS (f : Int) : Nat → Int
  | 0 => 0 | 1 => 0 | 2 => 1 | 3 => 1 | _ => min (max f 0) 64
def ownCells (f : Int) : Array Value := #[.int .i64 0, .slice none 0 0, .bool false, .int .i64 0, .slice none 0 0, .bool false, .int .i64 1, .slice none 0 0, .bool false, .int .i64 1, .slice none 0 0, .bool false, .int .i64 (min (max f 0) 64), .slice none 0 0, .bool false]
def dAt (w : World) (b o : Nat) (c : Int) : Prop := w.cell? ⟨b, o, none⟩ = some (.int .i64 c) ∧ w.cell? ⟨b, o + 1, none⟩ = some (.slice none 0 0) ∧ w.cell? ⟨b, o + 2, none⟩ = some (.bool false)
theorem dAt_own {w : World} {b : Nat} {f : Int} (h : w.heap[b]? = some (.cells (ownCells f) 26)) (k : Nat) (hk : k < 5) : dAt w b (k * 3) (ownS f k) := by
  have c := cell_block h
  rcases (show k = 0 ∨ k = 1 ∨ k = 2 ∨ k = 3 ∨ k = 4 from by omega) with rfl | rfl | rfl | rfl | rfl <;> exact ⟨c _, c _, c _⟩

set_option maxHeartbeats 1000000 in
theorem own25 (f : Int) (w : World) : Calls Try.prog 25 #[.int .i64 f] w fun r w' => ∃ b, r = .returned (.slice (some ⟨b, 0, none⟩) 5 5) ∧ w'.heap[b]? = some (.cells (ownCells f) 26) ∧ Below w.heap.size w w' := by
  rcases (show f < 0 ∨ f = 0 ∨ (0 < f ∧ f < 64) ∨ f = 64 ∨ 64 < f from by omega) with h | h | ⟨h, h'⟩ | h | h
  · have hs : min (max f 0) 64 = 0 := by omega
    have HS := Lib.hid hs
    clear hs
    go_enter Try.func25, Try.ntmps25
    go_wp2
    go_ret
    all_goals exact ⟨_, rfl, by rw [ownCells, HS.out]; exact hm_new rfl, by (repeat' (first | (with_reducible exact Below.refl _ _) | (with_reducible assumption) | (with_reducible refine Below.drew ?_) | (with_reducible refine Below.alloc ?_ ?_ _) | (with_reducible refine below_more ?_ ?_ _ _) | (with_reducible refine Below.setCell ?_ ?_ _) | (with_reducible refine Below.trans ?_ (Below.mono (by assumption) ?_)))) <;> first | omega | (simp; done) | (simp; omega) | (simp [more_size]; done) | (simp [more_size]; omega)⟩
  · subst h
    go_enter Try.func25, Try.ntmps25
    go_wp2
    go_ret
    all_goals exact ⟨_, rfl, by exact hm_new rfl, by (repeat' (first | (with_reducible exact Below.refl _ _) | (with_reducible assumption) | (with_reducible refine Below.drew ?_) | (with_reducible refine Below.alloc ?_ ?_ _) | (with_reducible refine below_more ?_ ?_ _ _) | (with_reducible refine Below.setCell ?_ ?_ _) | (with_reducible refine Below.trans ?_ (Below.mono (by assumption) ?_)))) <;> first | omega | (simp; done) | (simp; omega) | (simp [more_size]; done) | (simp [more_size]; omega)⟩
  · have hs : min (max f 0) 64 = f := by omega
    have HS := Lib.hid hs
    clear hs
    go_enter Try.func25, Try.ntmps25
    go_wp2
    go_ret
    all_goals exact ⟨_, rfl, by rw [ownCells, HS.out]; exact hm_new rfl, by (repeat' (first | (with_reducible exact Below.refl _ _) | (with_reducible assumption) | (with_reducible refine Below.drew ?_) | (with_reducible refine Below.alloc ?_ ?_ _) | (with_reducible refine below_more ?_ ?_ _ _) | (with_reducible refine Below.setCell ?_ ?_ _) | (with_reducible refine Below.trans ?_ (Below.mono (by assumption) ?_)))) <;> first | omega | (simp; done) | (simp; omega) | (simp [more_size]; done) | (simp [more_size]; omega)⟩
  · subst h
    go_enter Try.func25, Try.ntmps25
    go_wp2
    go_ret
    all_goals exact ⟨_, rfl, by exact hm_new rfl, by (repeat' (first | (with_reducible exact Below.refl _ _) | (with_reducible assumption) | (with_reducible refine Below.drew ?_) | (with_reducible refine Below.alloc ?_ ?_ _) | (with_reducible refine below_more ?_ ?_ _ _) | (with_reducible refine Below.setCell ?_ ?_ _) | (with_reducible refine Below.trans ?_ (Below.mono (by assumption) ?_)))) <;> first | omega | (simp; done) | (simp; omega) | (simp [more_size]; done) | (simp [more_size]; omega)⟩
  · have hs : min (max f 0) 64 = 64 := by omega
    have HS := Lib.hid hs
    clear hs
    go_enter Try.func25, Try.ntmps25
    go_wp2
    go_ret
    all_goals exact ⟨_, rfl, by rw [ownCells, HS.out]; exact hm_new rfl, by (repeat' (first | (with_reducible exact Below.refl _ _) | (with_reducible assumption) | (with_reducible refine Below.drew ?_) | (with_reducible refine Below.alloc ?_ ?_ _) | (with_reducible refine below_more ?_ ?_ _ _) | (with_reducible refine Below.setCell ?_ ?_ _) | (with_reducible refine Below.trans ?_ (Below.mono (by assumption) ?_)))) <;> first | omega | (simp; done) | (simp; omega) | (simp [more_size]; done) | (simp [more_size]; omega)⟩

set_option maxHeartbeats 1000000 in
theorem sameAll23 (b1 b2 : Nat) (F : Nat → Int) (w : World) (hb1 : b1 < w.heap.size) (hb2 : b2 < w.heap.size) (h1 : ∀ k, k < 5 → dAt w b1 (k * 3) (F k)) (h2 : ∀ k, k < 5 → dAt w b2 (k * 3) (F k)) :
    Calls Try.prog 23 #[.slice (some ⟨b1, 0, none⟩) 5 5, .slice (some ⟨b2, 0, none⟩) 5 5] w fun r w' => r = .returned (.bool true) ∧ Below w.heap.size w w' := by
  have H1 := Lib.hid h1
  have H2 := Lib.hid h2
  clear h1 h2
  go_enter Try.func23, Try.ntmps23
  go_wp2
  go_loopw [5] (fun i wr => ∃ k : Nat, k ≤ 5 ∧ i = .int .i64 k ∧ Below w.heap.size w wr) (fun i _ => 5 - (intOf i).toNat)
  case atStart => exact ⟨0, by omega, rfl, Below.refl _ _⟩
  case round =>
    obtain ⟨k, hk, rfl, hbl⟩ := hrel
    have HBL := Lib.hid hbl
    have hz := hbl.size
    clear hbl
    by_cases hlt : k < 5
    · obtain ⟨c0, c1, c2⟩ := H1.out k hlt
      obtain ⟨d0, d1, d2⟩ := H2.out k hlt
      have c0' := (HBL.out.cell (p := ⟨b1, k * 3, none⟩) hb1).trans c0
      have c1' := (HBL.out.cell (p := ⟨b1, k * 3 + 1, none⟩) hb1).trans c1
      have c2' := (HBL.out.cell (p := ⟨b1, k * 3 + 2, none⟩) hb1).trans c2
      have d0' := (HBL.out.cell (p := ⟨b2, k * 3, none⟩) hb2).trans d0
      have d1' := (HBL.out.cell (p := ⟨b2, k * 3 + 1, none⟩) hb2).trans d1
      have d2' := (HBL.out.cell (p := ⟨b2, k * 3 + 2, none⟩) hb2).trans d2
      have e1 : b1 < wr.heap.size := by omega
      have e2 : b2 < wr.heap.size := by omega
      have hi : (k : Int) < 5 := by omega
      have hi0 : (0 : Int) ≤ (k : Int) := by omega
      clear c0 c1 c2 d0 d1 d2
      go_wp2
      go_region_held3 (fun w' => (∀ b o, b < (wr).heap.size → w'.cell? ⟨b, o, none⟩ = (wr).cell? ⟨b, o, none⟩) ∧ Below ((wr).heap.size) wr w') ((with_reducible first | assumption | exact cls_start | exact cls_startN _ | exact cls_startN' _ | exact cls_step (by assumption) (by assumption) | exact cls_alloc (by assumption) | exact cls_drew (by assumption))) (first
        | (go_at_call 16; refine (same16 (F k) false none none 0 0 0 [] _ (by decide) (RdL.nil _) (RdL.nil _)).mono ?_; rintro e w' ⟨rfl, hb⟩))
      have hB' : Below w.heap.size w w' := HBL.out.trans (Below.mono (show Below wr.heap.size wr w' by (repeat' (first | (with_reducible exact Below.refl _ _) | (with_reducible assumption) | (with_reducible refine Below.drew ?_) | (with_reducible refine Below.alloc ?_ ?_ _) | (with_reducible refine below_more ?_ ?_ _ _) | (with_reducible refine Below.setCell ?_ ?_ _) | (with_reducible refine Below.trans ?_ (Below.mono (by assumption) ?_)))) <;> first | omega | (simp; done) | (simp; omega) | (simp [more_size]; done) | (simp [more_size]; omega)) hz)
      have HB' := Lib.hid hB'
      clear hb hB'
      go_wp2
      go_roundw
      case rel => exact ⟨k + 1, by omega, by go_num, HB'.out⟩
      case measure => simp [intOf]; omega
    · have hi : ¬ (k : Int) < 5 := by omega
      go_wp2
      go_ret
      exact ⟨rfl, HBL.out⟩
set_option maxHeartbeats 1000000 in
theorem sizes31 (f : Int) (w : World) : Calls Try.prog 31 #[.int .i64 f] w fun r w' => r = .returned (.agg #[.int .i64 0, .int .i64 0, .int .i64 1, .int .i64 1, .int .i64 (min (max f 0) 64)]) ∧ Below w.heap.size w w' := by
  rcases (show f < 0 ∨ f = 0 ∨ (0 < f ∧ f < 64) ∨ f = 64 ∨ 64 < f from by omega) with h | h | ⟨h, h'⟩ | h | h
  · have hs : min (max f 0) 64 = 0 := by omega
    rw [hs]
    clear hs
    go_enter Try.func31, Try.ntmps31
    go_wp2
    refine bodyPost_ret ?_ rfl ⟨rfl, ?_⟩
    · simp [results, Try.results31, go_sem]; try omega
    · (repeat' (first | (with_reducible exact Below.refl _ _) | (with_reducible assumption) | (with_reducible refine Below.drew ?_) | (with_reducible refine Below.alloc ?_ ?_ _) | (with_reducible refine below_more ?_ ?_ _ _) | (with_reducible refine Below.setCell ?_ ?_ _) | (with_reducible refine Below.trans ?_ (Below.mono (by assumption) ?_)))) <;> first | omega | (simp; done) | (simp; omega) | (simp [more_size]; done) | (simp [more_size]; omega)
  · subst h
    go_enter Try.func31, Try.ntmps31
    go_wp2
    refine bodyPost_ret ?_ rfl ⟨rfl, ?_⟩
    · simp [results, Try.results31, go_sem]; try omega
    · (repeat' (first | (with_reducible exact Below.refl _ _) | (with_reducible assumption) | (with_reducible refine Below.drew ?_) | (with_reducible refine Below.alloc ?_ ?_ _) | (with_reducible refine below_more ?_ ?_ _ _) | (with_reducible refine Below.setCell ?_ ?_ _) | (with_reducible refine Below.trans ?_ (Below.mono (by assumption) ?_)))) <;> first | omega | (simp; done) | (simp; omega) | (simp [more_size]; done) | (simp [more_size]; omega)
  · have hs : min (max f 0) 64 = f := by omega
    rw [hs]
    clear hs
    go_enter Try.func31, Try.ntmps31
    go_wp2
    refine bodyPost_ret ?_ rfl ⟨rfl, ?_⟩
    · simp [results, Try.results31, go_sem]; try omega
    · (repeat' (first | (with_reducible exact Below.refl _ _) | (with_reducible assumption) | (with_reducible refine Below.drew ?_) | (with_reducible refine Below.alloc ?_ ?_ _) | (with_reducible refine below_more ?_ ?_ _ _) | (with_reducible refine Below.setCell ?_ ?_ _) | (with_reducible refine Below.trans ?_ (Below.mono (by assumption) ?_)))) <;> first | omega | (simp; done) | (simp; omega) | (simp [more_size]; done) | (simp [more_size]; omega)
  · subst h
    go_enter Try.func31, Try.ntmps31
    go_wp2
    refine bodyPost_ret ?_ rfl ⟨rfl, ?_⟩
    · simp [results, Try.results31, go_sem]; try omega
    · (repeat' (first | (with_reducible exact Below.refl _ _) | (with_reducible assumption) | (with_reducible refine Below.drew ?_) | (with_reducible refine Below.alloc ?_ ?_ _) | (with_reducible refine below_more ?_ ?_ _ _) | (with_reducible refine Below.setCell ?_ ?_ _) | (with_reducible refine Below.trans ?_ (Below.mono (by assumption) ?_)))) <;> first | omega | (simp; done) | (simp; omega) | (simp [more_size]; done) | (simp [more_size]; omega)
  · have hs : min (max f 0) 64 = 64 := by omega
    rw [hs]
    clear hs
    go_enter Try.func31, Try.ntmps31
    go_wp2
    refine bodyPost_ret ?_ rfl ⟨rfl, ?_⟩
    · simp [results, Try.results31, go_sem]; try omega
    · (repeat' (first | (with_reducible exact Below.refl _ _) | (with_reducible assumption) | (with_reducible refine Below.drew ?_) | (with_reducible refine Below.alloc ?_ ?_ _) | (with_reducible refine below_more ?_ ?_ _ _) | (with_reducible refine Below.setCell ?_ ?_ _) | (with_reducible refine Below.trans ?_ (Below.mono (by assumption) ?_)))) <;> first | omega | (simp; done) | (simp; omega) | (simp [more_size]; done) | (simp [more_size]; omega)

def zero15 : Array Value := #[.int .i64 0, .slice none 0 0, .bool false, .int .i64 0, .slice none 0 0, .bool false, .int .i64 0, .slice none 0 0, .bool false, .int .i64 0, .slice none 0 0, .bool false, .int .i64 0, .slice none 0 0, .bool false]
theorem sized15 {w : World} {b : Nat} {s : Int} (h : w.heap[b]? = some (.cells #[.int .i64 0, .slice none 0 0, .bool false, .int .i64 0, .slice none 0 0, .bool false, .int .i64 0, .slice none 0 0, .bool false, .int .i64 0, .slice none 0 0, .bool false, .int .i64 0, .slice none 0 0, .bool false] 26)) :
    (World.setCell (World.setCell (World.setCell (World.setCell (World.setCell w ⟨b, 0, none⟩ (.int .i64 0)) ⟨b, 3, none⟩ (.int .i64 0)) ⟨b, 6, none⟩ (.int .i64 1)) ⟨b, 9, none⟩ (.int .i64 1)) ⟨b, 12, none⟩ (.int .i64 s)).heap[b]? = some (.cells #[.int .i64 0, .slice none 0 0, .bool false, .int .i64 0, .slice none 0 0, .bool false, .int .i64 1, .slice none 0 0, .bool false, .int .i64 1, .slice none 0 0, .bool false, .int .i64 s, .slice none 0 0, .bool false] 26) := by
  have e := blk_set (i := 12) (v := .int .i64 s) (blk_set (i := 9) (v := .int .i64 1) (blk_set (i := 6) (v := .int .i64 1) (blk_set (i := 3) (v := .int .i64 0) (blk_set (i := 0) (v := .int .i64 0) h))))
  simpa using e
set_option maxHeartbeats 2000000 in
theorem own24 (f : Int) (w : World) : Calls Try.prog 24 #[.int .i64 f] w fun r w' => ∃ b, r = .returned (.slice (some ⟨b, 0, none⟩) 5 5) ∧ w'.heap[b]? = some (.cells (ownCells f) 26) ∧ Below w.heap.size w w' := by
  have hmk : ∀ w : World, (Instr.makeSlice 51 (.int .i64 5) (.int .i64 5)).run Try.prog w = .ok (.slice (some ⟨w.heap.size, 0, none⟩) 5 5) (w.alloc (.cells #[.int .i64 0, .slice none 0 0, .bool false, .int .i64 0, .slice none 0 0, .bool false, .int .i64 0, .slice none 0 0, .bool false, .int .i64 0, .slice none 0 0, .bool false, .int .i64 0, .slice none 0 0, .bool false] 26)) := fun _ => by kernel_rfl
  go_enter Try.func24, Try.ntmps24
  go_wp2_with fail
  refine (sizes31 f _).mono ?_
  rintro r w1 ⟨rfl, hb⟩
  generalize hs : min (max f 0) 64 = s
  have HS := Lib.hid hs
  clear hs
  have kZ : w1.heap[w.heap.size]? = some (.cells #[.int .i64 0, .slice none 0 0, .bool false, .int .i64 0, .slice none 0 0, .bool false, .int .i64 0, .slice none 0 0, .bool false, .int .i64 0, .slice none 0 0, .bool false, .int .i64 0, .slice none 0 0, .bool false] 26) := block_keep' hb (by (repeat' (first | (with_reducible assumption) | (with_reducible refine hm_new ?_; (first | rfl | (simp; done) | (simp [more_size]; done) | (simp [more_size]; omega))) | (with_reducible refine block_alloc ?_) | (with_reducible refine hm_more ?_) | (with_reducible refine hm_drew ?_))))
  have hB : Below w.heap.size w w1 := by (repeat' (first | (with_reducible exact Below.refl _ _) | (with_reducible assumption) | (with_reducible refine Below.drew ?_) | (with_reducible refine Below.alloc ?_ ?_ _) | (with_reducible refine below_more ?_ ?_ _ _) | (with_reducible refine Below.setCell ?_ ?_ _) | (with_reducible refine Below.trans ?_ (Below.mono (by assumption) ?_)))) <;> first | omega | (simp; done) | (simp; omega) | (simp [more_size]; done) | (simp [more_size]; omega)
  have oZ := block_lt kZ
  have cZ := cell_block kZ
  have fZ := free_block kZ
  have qZ : Old w1 w.heap.size := oZ
  have HZ := Lib.hid kZ
  have HB := Lib.hid hB
  clear kZ hb hB hmk
  go_wp2
  refine wp_loop_rounds 6 ?_
  rw [rounds_succ]
  go_wp2
  rw [rounds_succ]
  go_wp2
  rw [rounds_succ]
  go_wp2
  rw [rounds_succ]
  go_wp2
  rw [rounds_succ]
  go_wp2
  rw [rounds_succ]
  go_wp2
  go_ret
  refine ⟨_, rfl, ?_, ?_⟩
  · rw [ownCells, HS.out]
    exact block_alloc (sized15 HZ.out)
  · have hb := HB.out
    (repeat' (first | (with_reducible exact Below.refl _ _) | (with_reducible assumption) | (with_reducible refine Below.drew ?_) | (with_reducible refine Below.alloc ?_ ?_ _) | (with_reducible refine below_more ?_ ?_ _ _) | (with_reducible refine Below.setCell ?_ ?_ _) | (with_reducible refine Below.trans ?_ (Below.mono (by assumption) ?_)))) <;> first | omega | (simp; done) | (simp; omega) | (simp [more_size]; done) | (simp [more_size]; omega)
end Go.Proofs.Ytkffmjcipnlbhaa
