
/- Walks of the seat of chapter 05: what is done to a duct. -/
import Derived.Test.YtkffmjcipnlbhaaD1
import Derived.Deep.RegionLaw
namespace Go.Proofs.Ytkffmjcipnlbhaa
open Go.RowKit
attribute [local go_sem ↓] Go.wp_at_zero Go.wp_at_succ
attribute [local go_sem] more_size cell_more_old frozen_more_old setCell_more_old more_drew drew_more old_alloc old_more old_drew old_setCell cell_alloc_old frozen_alloc_old setCell_alloc_old

theorem not_row {w : World} {B : Nat} {cs : Array Value} {t e : TypeId} {fr : Nat × Nat} (h : w.heap[B]? = some (.cells cs t fr)) (hte : t ≠ e) {base size k : Nat} {v : Value} {xs : List Value} (hr : w.ownsRow base e size v k xs) : some B ≠ v.ownBlock := by
  rcases hr.2 with ⟨rfl, _⟩ | ⟨g, cap, cur, rfl, _, hgb, _⟩
  · simp [Value.ownBlock]
  · intro e'
    obtain rfl : B = g := by simpa [Value.ownBlock] using e'
    have := h.symm.trans hgb
    simp at this
    exact hte this.2.1
theorem grownBy_set (W : World) (b i : Nat) (v : Value) : W.grownBy (W.setCell ⟨b, i, none⟩ v) (some b) :=
  ⟨rfl, rfl, rfl, by rw [setCell_size]; exact Nat.le_refl _, fun k _ hk => Below.heap_setCell _ _ _ k (fun e => hk (by rw [e]))⟩
theorem owns_set {w : World} {B i : Nat} {cs : Array Value} {t e : TypeId} {fr : Nat × Nat} {u : Value} (h : w.heap[B]? = some (.cells cs t fr)) (hte : t ≠ e) {base size k : Nat} {v : Value} {xs : List Value} (hr : w.ownsRow base e size v k xs) :
    (w.setCell ⟨B, i, none⟩ u).ownsRow base e size v k xs := hr.kept (grownBy_set w B i u) (.inr (not_row h hte hr).symm)
theorem grown_block {w w3 : World} {B : Nat} {o : Obj} {row : Option Nat} (h : w.heap[B]? = some o) (hg : w.grownBy w3 row) (hne : some B ≠ row) : w3.heap[B]? = some o := (hg.block B (block_lt h) hne).trans h

set_option maxHeartbeats 400000 in
theorem ready12 (c : Int) (a : Option Addr) (n p : Nat) (b : Bool) (w : World) : Calls Try.prog 12 #[.agg #[.int .i64 c, .slice a n p, .bool b]] w fun r w' => r = .returned (.bool (b || decide (n ≠ 0))) ∧ Below w.heap.size w w' := by
  cases b
  · by_cases h : n = 0
    · subst h
      go_enter Try.func12, Try.ntmps12
      go_wp2
      go_ret
      exact ⟨rfl, by (repeat' (first | (with_reducible exact Below.refl _ _) | (with_reducible assumption) | (with_reducible refine Below.drew ?_) | (with_reducible refine Below.alloc ?_ ?_ _) | (with_reducible refine below_more ?_ ?_ _ _) | (with_reducible refine Below.setCell ?_ ?_ _) | (with_reducible refine Below.trans ?_ (Below.mono (by assumption) ?_)))) <;> first | omega | (simp; done) | (simp; omega) | (simp [more_size]; done) | (simp [more_size]; omega)⟩
    · have hb : ((n : Int) != 0) = true := by simpa using h
      have he : (false || decide (n ≠ 0)) = true := by simpa using h
      have HE := Lib.hid he
      clear he h
      go_enter Try.func12, Try.ntmps12
      go_wp2
      go_ret
      exact ⟨by rw [HE.out]; rfl, by (repeat' (first | (with_reducible exact Below.refl _ _) | (with_reducible assumption) | (with_reducible refine Below.drew ?_) | (with_reducible refine Below.alloc ?_ ?_ _) | (with_reducible refine below_more ?_ ?_ _ _) | (with_reducible refine Below.setCell ?_ ?_ _) | (with_reducible refine Below.trans ?_ (Below.mono (by assumption) ?_)))) <;> first | omega | (simp; done) | (simp; omega) | (simp [more_size]; done) | (simp [more_size]; omega)⟩
  · go_enter Try.func12, Try.ntmps12
    go_wp2
    go_ret
    exact ⟨rfl, by (repeat' (first | (with_reducible exact Below.refl _ _) | (with_reducible assumption) | (with_reducible refine Below.drew ?_) | (with_reducible refine Below.alloc ?_ ?_ _) | (with_reducible refine below_more ?_ ?_ _ _) | (with_reducible refine Below.setCell ?_ ?_ _) | (with_reducible refine Below.trans ?_ (Below.mono (by assumption) ?_)))) <;> first | omega | (simp; done) | (simp; omega) | (simp [more_size]; done) | (simp [more_size]; omega)⟩

/-- Close's closure, on a closed duct. -/
theorem close30_shut (B : Nat) (c : Int) (a : Option Addr) (n p : Nat) (w : World) (h : w.heap[B]? = some (.cells #[.int .i64 c, .slice a n p, .bool true] 26)) :
    Calls Try.prog 30 #[.pointer (some ⟨B, 0, none⟩)] w fun r w' => r = .returned (.int .i64 52) ∧ w = w' := by
  have hc := cell_block h
  clear h
  go_enter Try.func30, Try.ntmps30
  go_wp2
  go_ret
  exact ⟨rfl, rfl⟩
theorem close30_open (B : Nat) (c : Int) (a : Option Addr) (n p : Nat) (w : World) (h : w.heap[B]? = some (.cells #[.int .i64 c, .slice a n p, .bool false] 26)) :
    Calls Try.prog 30 #[.pointer (some ⟨B, 0, none⟩)] w fun r w' => r = .returned (.int .i64 0) ∧ w' = w.setCell ⟨B, 2, none⟩ (.bool true) := by
  have hc := cell_block h
  have hf := free_block h
  clear h
  go_enter Try.func30, Try.ntmps30
  go_wp2
  go_ret
  exact ⟨rfl, rfl⟩

/-- Put's closure, on a closed duct. -/
theorem put28_shut (B Bl : Nat) (c : Int) (a : Option Addr) (n p : Nat) (w : World) (h : w.heap[B]? = some (.cells #[.int .i64 c, .slice a n p, .bool true] 26)) :
    Calls Try.prog 28 #[.pointer (some ⟨B, 0, none⟩), .pointer (some ⟨Bl, 0, none⟩)] w fun r w' => r = .returned (.int .i64 52) ∧ w = w' := by
  have hc := cell_block h
  clear h
  go_enter Try.func28, Try.ntmps28
  go_wp2
  go_ret
  exact ⟨rfl, rfl⟩
set_option maxHeartbeats 1000000 in
theorem put28_full (B Bl : Nat) (c : Int) (a au : Option Addr) (n p m pu : Nat) (w : World) (h : w.heap[B]? = some (.cells #[.int .i64 c, .slice a n p, .bool false] 26)) (hl : w.cell? ⟨Bl, 0, none⟩ = some (.slice au m pu)) (hBl : Bl < w.heap.size) (h1 : (n : Int) ≤ c) (h2 : c ≤ 64) (h3 : c - n < (m : Int)) :
    Calls Try.prog 28 #[.pointer (some ⟨B, 0, none⟩), .pointer (some ⟨Bl, 0, none⟩)] w fun r w' => r = .returned (.int .i64 50) ∧ Below w.heap.size w w' := by
  have hc := cell_block h
  have hB := block_lt h
  clear h
  go_enter Try.func28, Try.ntmps28
  go_wp2
  go_region_held3 (fun w' => (∀ b o, b < (w).heap.size → w'.cell? ⟨b, o, none⟩ = (w).cell? ⟨b, o, none⟩) ∧ Below ((w).heap.size) w w') ((with_reducible first | assumption | exact cls_start | exact cls_startN _ | exact cls_startN' _ | exact cls_step (by assumption) (by assumption) | exact cls_alloc (by assumption) | exact cls_drew (by assumption))) (first
    | (go_at_call 17; refine (room17_open c a n p _ h1 h2).mono ?_; rintro e w' ⟨rfl, hb⟩))
  go_wp2
  go_ret
  exact ⟨rfl, (Below.drew (Below.refl _ _)).trans hb⟩
set_option maxHeartbeats 2000000 in
theorem put28_ok (B Bl base : Nat) (c : Int) (a au : Option Addr) (n p m pu : Nat) (xs ys : List Value) (w : World) (h : w.heap[B]? = some (.cells #[.int .i64 c, .slice a n p, .bool false] 26)) (hl : w.cell? ⟨Bl, 0, none⟩ = some (.slice au m pu)) (hBl : Bl < w.heap.size) (h1 : (n : Int) ≤ c) (h2 : c ≤ 64) (h3 : (m : Int) ≤ c - n)
    (hown : w.ownsRow base 32 6 (.slice a n p) n xs) (hu : RdF w 6 (.slice au m pu) m ys) (hys : ∀ u ∈ ys, u.oneCell' = true) (hb1 : base ≤ B) (hb2 : base ≤ w.heap.size) :
    Calls Try.prog 28 #[.pointer (some ⟨B, 0, none⟩), .pointer (some ⟨Bl, 0, none⟩)] w fun r w' => r = .returned (.int .i64 0) ∧ ∃ a' p', w'.heap[B]? = some (.cells #[.int .i64 c, .slice a' (n + m) p', .bool false] 26) ∧ w'.ownsRow base 32 6 (.slice a' (n + m) p') (n + m) (xs ++ ys) ∧ Below base w w' := by
  have hc := cell_block h
  have hB := block_lt h
  obtain ⟨i0, hi, hz0, hz1, hz2⟩ := info_parts info32
  have HK := Lib.hid h
  have HO := Lib.hid hown
  have HU := Lib.hid hu
  clear h hown hu
  go_enter Try.func28, Try.ntmps28
  go_wp2
  go_region_held3 (fun w' => (∀ b o, b < (w).heap.size → w'.cell? ⟨b, o, none⟩ = (w).cell? ⟨b, o, none⟩) ∧ Below ((w).heap.size) w w') ((with_reducible first | assumption | exact cls_start | exact cls_startN _ | exact cls_startN' _ | exact cls_step (by assumption) (by assumption) | exact cls_alloc (by assumption) | exact cls_drew (by assumption))) (first
    | (go_at_call 17; refine (room17_open c a n p _ h1 h2).mono ?_; rintro e w' ⟨rfl, hb⟩))
  have hb0 : Below w.heap.size w w' := (Below.drew (Below.refl _ _)).trans hb
  have hk := block_keep' hb0 HK.out
  have hc' := cell_block hk
  have hf' := free_block hk
  have hB' := block_lt hk
  have hl' := (hb0.cell (p := ⟨Bl, 0, none⟩) hBl).trans hl
  have hBl' := Nat.lt_of_lt_of_le hBl hb0.size
  have HK' := Lib.hid hk
  have HO' := Lib.hid (owns_below HO.out hb0)
  have HU' := Lib.hid (RdF.below HU.out hb0)
  have HB0 := Lib.hid hb0
  clear hk hb0 hb hl hBl hB hc
  go_wp2
  go_region_law ((refine step_append_rdF rfl (.tmp 21) (.tmp 22) 24 rfl base 32 i0 (.agg #[.int .i8 0, .int .i64 0, .int .i64 0, .int .i64 0, .string ⟨#[]⟩, .int .i64 0]) 6 56 Try.underlying24 hi hz0 hz1 hz2 rfl (by decide) (.slice a n p) n xs (by rfl) (HO'.out.drew) (.slice au m pu) m ys (by rfl) (RdF.below HU'.out (Below.drew (Below.refl _ _))) hys (by omega) (by omega) (Nat.le_trans hb2 HB0.out.size) ?_; intro v3 w3 hown3 hgrow3; obtain ⟨a3, p3, rfl⟩ := (RdF.of_owns hown3).shape; have hk3 := grown_block (w := World.drew w') HK'.out hgrow3 (not_row HK'.out (by decide) HO'.out); have hc3 := cell_block hk3; have hf3 := free_block hk3; have HK3 := Lib.hid hk3; clear hk3))
  all_goals
    have hb3 : Below base w w3 := ((HB0.out.mono hb2).drew).grown hgrow3 (Nat.le_trans hb2 HB0.out.size) (fun j hj => ownBlock_ge HO'.out hj)
    have hown4 := owns_set (i := 1) (u := .slice a3 (n + m) p3) HK3.out (by decide) hown3
    have hk4 : (w3.setCell ⟨B, 1, none⟩ (.slice a3 (n + m) p3)).heap[B]? = some (.cells #[.int .i64 c, .slice a3 (n + m) p3, .bool false] 26) := by simpa using blk_set (i := 1) (v := .slice a3 (n + m) p3) HK3.out
    have HO4 := Lib.hid hown4
    have HK4 := Lib.hid hk4
    have HB3 := Lib.hid hb3
    clear hown3 hown4 hk4 hb3 hgrow3 hc3 hf3 hc' hf' hl'
    go_wp2
    go_ret
    exact ⟨rfl, a3, p3, HK4.out, HO4.out, HB3.out.setCell hb1 _⟩

/-- Take's closure: nothing to take. -/
theorem take29_empty (B Bm : Nat) (c : Int) (a : Option Addr) (p : Nat) (w : World) (h : w.heap[B]? = some (.cells #[.int .i64 c, .slice a 0 p, .bool false] 26)) :
    Calls Try.prog 29 #[.pointer (some ⟨B, 0, none⟩), .pointer (some ⟨Bm, 0, none⟩)] w fun r w' => r = .returned (.int .i64 51) ∧ Below w.heap.size w w' := by
  have hc := cell_block h
  have hB := block_lt h
  clear h
  go_enter Try.func29, Try.ntmps29
  go_wp2_with fail
  refine (ready12 c a 0 p false _).mono ?_
  rintro r w1 ⟨rfl, hb⟩
  rw [show (false || decide ((0 : Nat) ≠ 0)) = false from rfl]
  go_wp2
  go_ret
  exact ⟨rfl, hb⟩
/-- Take's closure: a closed duct without letters. -/
theorem take29_shut (B Bm : Nat) (c : Int) (a : Option Addr) (p : Nat) (w : World) (h : w.heap[B]? = some (.cells #[.int .i64 c, .slice a 0 p, .bool true] 26)) :
    Calls Try.prog 29 #[.pointer (some ⟨B, 0, none⟩), .pointer (some ⟨Bm, 0, none⟩)] w fun r w' => r = .returned (.int .i64 0) ∧ Below w.heap.size w w' := by
  have hc := cell_block h
  have hB := block_lt h
  have HK := Lib.hid h
  clear h
  go_enter Try.func29, Try.ntmps29
  go_wp2_with fail
  refine (ready12 c a 0 p true _).mono ?_
  rintro r w1 ⟨rfl, hb⟩
  have hc1 := cell_block (block_keep' hb HK.out)
  rw [show (true || decide ((0 : Nat) ≠ 0)) = true from rfl]
  go_wp2
  go_ret
  exact ⟨rfl, hb⟩
set_option maxHeartbeats 4000000 in
/-- Take's closure: the first letter. -/
theorem take29_some (B Bm : Nat) (c : Int) (a : Option Addr) (n p : Nat) (cl : Bool) (l : List Lt) (x : Lt) (z : Array Value) (w : World) (h : w.heap[B]? = some (.cells #[.int .i64 c, .slice a n p, .bool cl] 26)) (hm : w.heap[Bm]? = some (.cells #[.int .i8 0, .int .i64 0, .int .i64 0, .int .i64 0, .string ⟨#[]⟩, .int .i64 0] 32)) (hne : Bm ≠ B)
    (hn : n = l.length + 1) (hr : RdL w (.slice a n p) (x :: l)) :
    Calls Try.prog 29 #[.pointer (some ⟨B, 0, none⟩), .pointer (some ⟨Bm, 0, none⟩)] w fun r w' => r = .returned (.int .i64 0) ∧ ∃ w1, Below w.heap.size w w1 ∧
      w' = (((((((w1.setCell ⟨Bm, 0, none⟩ (.int .i8 x.k)).setCell ⟨Bm, 1, none⟩ (.int .i64 x.f)).setCell ⟨Bm, 2, none⟩ (.int .i64 x.n)).setCell ⟨Bm, 3, none⟩ (.int .i64 x.s)).setCell ⟨Bm, 4, none⟩ (.string x.t)).setCell ⟨Bm, 5, none⟩ (.int .i64 x.e)).setCell ⟨B, 1, none⟩ (.slice (cutA a 1 p 6) (n - 1) (p - 1))).drew := by
  have hc := cell_block h
  have hB := block_lt h
  have HK := Lib.hid h
  have HMM := Lib.hid hm
  have HR := Lib.hid hr
  clear h hm hr
  have hrd : (cl || decide (n ≠ 0)) = true := by simp [hn]
  have HRD := Lib.hid hrd
  have hpos : 1 ≤ n := by omega
  have HNN := Lib.hid hn
  clear hrd hn
  have q1 := run_cut (P := Try.prog) (t := 24) (sz := 6) (by kernel_rfl) (fun w => by kernel_rfl) a n p 1 hpos
  rw [show (((1 : Nat)) : Int) = 1 from rfl] at q1
  go_enter Try.func29, Try.ntmps29
  go_wp2_with fail
  refine (ready12 c a n p cl _).mono ?_
  rintro r w1 ⟨rfl, hb⟩
  rw [HRD.out]
  have hk1 := block_keep' hb HK.out
  have hc1 := cell_block hk1
  have hf1 := free_block hk1
  have hm1 := cell_block (block_keep' hb HMM.out)
  have hmf1 := free_block (block_keep' hb HMM.out)
  obtain ⟨b, off, rfl, hb0, c0, c1, c2, c3, c4, c5⟩ := RdL.at (HR.out.below hb) (k := 0) (x := x) rfl
  have HB := Lib.hid hb
  have hnp : (0 : Int) < (n : Int) := by omega
  have hne' : B ≠ Bm := Ne.symm hne
  simp only [Nat.zero_mul, Nat.add_zero] at c0 c1 c2 c3 c4 c5
  clear hk1 hb hB hc
  go_wp2
  go_region_law (fail)
  all_goals
    clear c0 c1 c2 c3 c4 c5 hc1 hm1 hf1 hmf1 q1
    go_wp2
    go_ret
    exact ⟨rfl, w1, HB.out, rfl⟩
end Go.Proofs.Ytkffmjcipnlbhaa
