
/- Walks of the seat of chapter 05: New, Put, Take, Close. -/
/- Walks of the seat of chapter 05: Put, Take, Close, whose letters lie in a block of their own. -/
import Derived.Test.YtkffmjcipnlbhaaD4
import Derived.Test.YtkffmjcipnlbhaaOff
namespace Go.Proofs.Ytkffmjcipnlbhaa
open Go.RowKit
attribute [local go_sem ↓] Go.wp_at_zero Go.wp_at_succ
attribute [local go_sem] more_size cell_more_old frozen_more_old setCell_more_old more_drew drew_more old_alloc old_more old_drew old_setCell cell_alloc_old frozen_alloc_old setCell_alloc_old

/-- An address in a block from B on. -/
def FreshA (B : Nat) (a : Option Addr) : Prop := ∀ ad : Addr, a = some ad → B ≤ ad.block
theorem fresh_of {w : World} {base e sz n k p : Nat} {a : Option Addr} {xs : List Value} (h : w.ownsRow base e sz (.slice a n p) k xs) (B : Nat) (hB : B ≤ base) : FreshA B a := by
  intro ad ha
  subst ha
  have := ownBlock_ge h (j := ad.block) rfl
  omega
theorem add_block (a : Addr) (k : Nat) : (a.add k).block = a.block := by
  unfold Addr.add
  split <;> rfl
theorem FreshA.cut {B : Nat} {a : Option Addr} {p : Nat} (h : FreshA B a) : FreshA B (cutA a 1 p 6) := by
  intro ad ha
  simp only [cutA] at ha
  split at ha
  · exact h ad ha
  · cases a with
    | none => cases ha
    | some a =>
      simp only [Option.map_some, Option.some.injEq] at ha
      subst ha
      rw [add_block]
      exact h a rfl

set_option maxHeartbeats 2000000 in
theorem put9_okF (c : Int) (a au : Option Addr) (n p m pu : Nat) (l l2 : List Lt) (w : World) (h1 : 0 ≤ c) (h2 : c ≤ 64) (h3 : (n : Int) ≤ c) (hl : RdL w (.slice a n p) l) (hu : RdL w (.slice au m pu) l2) (hroom : (m : Int) ≤ c - n) :
    Calls Try.prog 9 #[.agg #[.int .i64 c, .slice a n p, .bool false], .slice au m pu] w fun r w' => ∃ a' p', r = .returned (.tuple #[.agg #[.int .i64 c, .slice a' (n + m) p', .bool false], .int .i64 0]) ∧ RdT w' (.slice a' (n + m) p') (l ++ l2) ∧ FreshA w.heap.size a' ∧ Below w.heap.size w w' := by
  have hm : m = l2.length := hu.len
  have HN := Lib.hid hl.len
  have HL := Lib.hid hl
  have HU := Lib.hid hu
  have HM := Lib.hid hm
  clear hl hu hm
  go_enter Try.func9, Try.ntmps9
  go_wp2_with fail
  refine (does27_put_ok c a n p l (w.heap.size + 1) au m pu l2 _ h1 h2 h3 (HL.out.below (by (repeat' (first | (with_reducible exact Below.refl _ _) | (with_reducible assumption) | (with_reducible refine Below.drew ?_) | (with_reducible refine Below.alloc ?_ ?_ _) | (with_reducible refine below_more ?_ ?_ _ _) | (with_reducible refine Below.setCell ?_ ?_ _) | (with_reducible refine Below.trans ?_ (Below.mono (by assumption) ?_)))) <;> first | omega | (simp; done) | (simp; omega) | (simp [more_size]; done) | (simp [more_size]; omega))) (by simp) (by simp [go_sem]) hroom HM (Lib.hid (rdF_mk (HU.out.below (by (repeat' (first | (with_reducible exact Below.refl _ _) | (with_reducible assumption) | (with_reducible refine Below.drew ?_) | (with_reducible refine Below.alloc ?_ ?_ _) | (with_reducible refine below_more ?_ ?_ _ _) | (with_reducible refine Below.setCell ?_ ?_ _) | (with_reducible refine Below.trans ?_ (Below.mono (by assumption) ?_)))) <;> first | omega | (simp; done) | (simp; omega) | (simp [more_size]; done) | (simp [more_size]; omega))) HM.out))).mono ?_
  rintro r w1 ⟨a3, p3, rfl, hr, hb⟩
  have kR : w1.heap[w.heap.size + 2]? = some (.cells #[.int .i64 0, .slice none 0 0, .bool false] 26) := block_keep' hb (by (repeat' (first | (with_reducible assumption) | (with_reducible refine hm_new ?_; (first | rfl | (simp; done) | (simp [more_size]; done) | (simp [more_size]; omega))) | (with_reducible refine block_alloc ?_) | (with_reducible refine hm_more ?_) | (with_reducible refine hm_drew ?_))))
  have hB : Below w.heap.size w w1 := by (repeat' (first | (with_reducible exact Below.refl _ _) | (with_reducible assumption) | (with_reducible refine Below.drew ?_) | (with_reducible refine Below.alloc ?_ ?_ _) | (with_reducible refine below_more ?_ ?_ _ _) | (with_reducible refine Below.setCell ?_ ?_ _) | (with_reducible refine Below.trans ?_ (Below.mono (by assumption) ?_)))) <;> first | omega | (simp; done) | (simp; omega) | (simp [more_size]; done) | (simp [more_size]; omega)
  have cR := cell_block kR
  have fR := free_block kR
  have HB := Lib.hid hB
  have HO := Lib.hid (owns_set3 (u0 := .int .i64 c) (u1 := .slice a3 (n + m) p3) (u2 := .bool false) kR (by decide) hr)
  have HF := Lib.hid (fresh_of hr w.heap.size (by simp; omega))
  clear hb hB kR hr
  go_wp2
  refine bodyPost_ret ?_ rfl ⟨a3, p3, rfl, ?_, HF.out, ?_⟩
  · simp [results, Try.results9, go_sem, cR, fR]
  · exact RdF.ofOwnsL HO.out (by rw [List.length_append, HM.out, ← HN.out])
  · have hb := HB.out
    (repeat' (first | (with_reducible exact Below.refl _ _) | (with_reducible assumption) | (with_reducible refine Below.drew ?_) | (with_reducible refine Below.alloc ?_ ?_ _) | (with_reducible refine below_more ?_ ?_ _ _) | (with_reducible refine Below.setCell ?_ ?_ _) | (with_reducible refine Below.trans ?_ (Below.mono (by assumption) ?_)))) <;> first | omega | (simp; done) | (simp; omega) | (simp [more_size]; done) | (simp [more_size]; omega)

set_option maxHeartbeats 2000000 in
theorem close11_openF (c : Int) (a : Option Addr) (n : Nat) (p : Nat) (l : List Lt) (w : World) (h1 : 0 ≤ c) (h2 : c ≤ 64) (h3 : ((n : Nat) : Int) ≤ c) (hl : RdL w (.slice a n p) l) :
    Calls Try.prog 11 #[.agg #[.int .i64 c, .slice a n p, .bool false]] w fun r w' => ∃ a' p', r = .returned (.tuple #[.agg #[.int .i64 c, .slice a' n p', .bool true], .int .i64 0]) ∧ RdT w' (.slice a' n p') l ∧ FreshA w.heap.size a' ∧ Below w.heap.size w w' := by
  have HL := Lib.hid hl
  have HN := Lib.hid hl.len
  clear hl
  go_enter Try.func11, Try.ntmps11
  go_wp2_with fail
  refine (does27_close_open c a n p l _ h1 h2 h3 (HL.out.below (by (repeat' (first | (with_reducible exact Below.refl _ _) | (with_reducible assumption) | (with_reducible refine Below.drew ?_) | (with_reducible refine Below.alloc ?_ ?_ _) | (with_reducible refine below_more ?_ ?_ _ _) | (with_reducible refine Below.setCell ?_ ?_ _) | (with_reducible refine Below.trans ?_ (Below.mono (by assumption) ?_)))) <;> first | omega | (simp; done) | (simp; omega) | (simp [more_size]; done) | (simp [more_size]; omega)))).mono ?_
  rintro r w1 ⟨a3, p3, rfl, hr, hb⟩
  have kR : w1.heap[w.heap.size + 1]? = some (.cells #[.int .i64 0, .slice none 0 0, .bool false] 26) := block_keep' hb (by (repeat' (first | (with_reducible assumption) | (with_reducible refine hm_new ?_; (first | rfl | (simp; done) | (simp [more_size]; done) | (simp [more_size]; omega))) | (with_reducible refine block_alloc ?_) | (with_reducible refine hm_more ?_) | (with_reducible refine hm_drew ?_))))
  have hB : Below w.heap.size w w1 := by (repeat' (first | (with_reducible exact Below.refl _ _) | (with_reducible assumption) | (with_reducible refine Below.drew ?_) | (with_reducible refine Below.alloc ?_ ?_ _) | (with_reducible refine below_more ?_ ?_ _ _) | (with_reducible refine Below.setCell ?_ ?_ _) | (with_reducible refine Below.trans ?_ (Below.mono (by assumption) ?_)))) <;> first | omega | (simp; done) | (simp; omega) | (simp [more_size]; done) | (simp [more_size]; omega)
  have cR := cell_block kR
  have fR := free_block kR
  have HB := Lib.hid hB
  have HO := Lib.hid (owns_set3 (u0 := .int .i64 c) (u1 := .slice a3 n p3) (u2 := .bool true) kR (by decide) hr)
  have HF := Lib.hid (fresh_of hr w.heap.size (by simp; try omega))
  clear hr
  clear hb hB kR
  go_wp2
  refine bodyPost_ret ?_ rfl ⟨a3, p3, rfl, ?_, HF.out, ?_⟩
  · simp [results, Try.results11, go_sem, cR, fR]
  · exact RdF.ofOwnsL HO.out HN.out.symm
  · have hb := HB.out
    (repeat' (first | (with_reducible exact Below.refl _ _) | (with_reducible assumption) | (with_reducible refine Below.drew ?_) | (with_reducible refine Below.alloc ?_ ?_ _) | (with_reducible refine below_more ?_ ?_ _ _) | (with_reducible refine Below.setCell ?_ ?_ _) | (with_reducible refine Below.trans ?_ (Below.mono (by assumption) ?_)))) <;> first | omega | (simp; done) | (simp; omega) | (simp [more_size]; done) | (simp [more_size]; omega)

set_option maxHeartbeats 2000000 in
theorem take10_someF (c : Int) (a : Option Addr) (n : Nat) (p : Nat) (l : List Lt) (x : Lt) (b : Bool) (w : World) (h1 : 0 ≤ c) (h2 : c ≤ 64) (h3 : ((n : Nat) : Int) ≤ c) (hl : RdL w (.slice a n p) (x :: l)) :
    Calls Try.prog 10 #[.agg #[.int .i64 c, .slice a n p, .bool b]] w fun r w' => ∃ a' p', r = .returned (.tuple #[.agg #[.int .i8 x.k, .int .i64 x.f, .int .i64 x.n, .int .i64 x.s, .string x.t, .int .i64 x.e], .agg #[.int .i64 c, .slice a' (n - 1) p', .bool b], .int .i64 0]) ∧ RdT w' (.slice a' (n - 1) p') l ∧ FreshA w.heap.size a' ∧ Below w.heap.size w w' := by
  have HL := Lib.hid hl
  have HN := Lib.hid hl.len
  clear hl
  go_enter Try.func10, Try.ntmps10
  go_wp2_with fail
  refine (does27_take_some c a n p l b (w.heap.size + 1) x _ h1 h2 h3 (HL.out.below (by (repeat' (first | (with_reducible exact Below.refl _ _) | (with_reducible assumption) | (with_reducible refine Below.drew ?_) | (with_reducible refine Below.alloc ?_ ?_ _) | (with_reducible refine below_more ?_ ?_ _ _) | (with_reducible refine Below.setCell ?_ ?_ _) | (with_reducible refine Below.trans ?_ (Below.mono (by assumption) ?_)))) <;> first | omega | (simp; done) | (simp; omega) | (simp [more_size]; done) | (simp [more_size]; omega))) (by (repeat' (first | (with_reducible assumption) | (with_reducible refine hm_new ?_; (first | rfl | (simp; done) | (simp [more_size]; done) | (simp [more_size]; omega))) | (with_reducible refine block_alloc ?_) | (with_reducible refine hm_more ?_) | (with_reducible refine hm_drew ?_))))).mono ?_
  rintro r w1 ⟨a2, p2, rfl, hr, kM, hg⟩
  have kM : w1.heap[w.heap.size + 1]? = some (.cells #[.int .i8 x.k, .int .i64 x.f, .int .i64 x.n, .int .i64 x.s, .string x.t, .int .i64 x.e] 32) := kM
  have kR : w1.heap[w.heap.size + 1 + 1]? = some (.cells #[.int .i64 0, .slice none 0 0, .bool false] 26) := (hg.block _ (by simp) (by simp)).trans (by (repeat' (first | (with_reducible assumption) | (with_reducible refine hm_new ?_; (first | rfl | (simp; done) | (simp [more_size]; done) | (simp [more_size]; omega))) | (with_reducible refine block_alloc ?_) | (with_reducible refine hm_more ?_) | (with_reducible refine hm_drew ?_))))
  have oM := block_lt kM
  have oR := block_lt kR
  have cR := cell_block kR
  have fR := free_block kR
  have cM := cell_block kM
  have fM := free_block kM
  have HKM := Lib.hid kM
  have HKR := Lib.hid kR
  have hB : ∀ i, i < w.heap.size → w1.heap[i]? = w.heap[i]? := fun i hi => (hg.block i (by simp; omega) (by simp; omega)).trans (Below.block (B := w.heap.size) (w := w) (by (repeat' (first | (with_reducible exact Below.refl _ _) | (with_reducible assumption) | (with_reducible refine Below.drew ?_) | (with_reducible refine Below.alloc ?_ ?_ _) | (with_reducible refine below_more ?_ ?_ _ _) | (with_reducible refine Below.setCell ?_ ?_ _) | (with_reducible refine Below.trans ?_ (Below.mono (by assumption) ?_)))) <;> first | omega | (simp; done) | (simp; omega) | (simp [more_size]; done) | (simp [more_size]; omega)) i hi)
  have HS := Lib.hid (show w.heap.size ≤ w1.heap.size from Nat.le_trans (by simp; omega) hg.size)
  have HB := Lib.hid hB
  have HR := Lib.hid hr
  have HO1 := Lib.hid (show w1.os = w.os from hg.os)
  have HT1 := Lib.hid (show w1.tape = w.tape from hg.tape)
  have HP1 := Lib.hid (show w1.output = w.output from hg.output)
  clear hB
  have HF := Lib.hid (FreshA.cut (p := p2) (fresh_of hr w.heap.size (by simp; try omega)))
  clear kR kM hg hr
  go_wp2
  go_region_law (fail)
  all_goals
    obtain ⟨U, eU, kR, kM, kX, sU, oU, tU, pU, rU⟩ := handed HKR.out HKM.out (by omega) (.int .i64 c) (.slice (cutA a2 1 p2 6) (n - 1) (p2 - 1)) (.bool b) (.int .i8 x.k) (.int .i64 x.f) (.int .i64 x.n) (.int .i64 x.s) (.string x.t) (.int .i64 x.e)
    rw [eU]
    have cR := cell_block kR
    have cM := cell_block kM
    have HBU : Hid (Below w.heap.size w U) := Lib.hid ⟨oU.trans HO1.out, tU.trans HT1.out, pU.trans HP1.out, by rw [sU]; exact HS.out, fun i hi => (kX i (by omega) (by omega)).trans (HB.out i hi)⟩
    have HRU := Lib.hid (rU _ _ _ _ (by simp) (by simp) HR.out)
    clear eU kR kM kX sU oU tU pU rU
    go_wp2
    refine bodyPost_ret ?_ rfl ⟨cutA a2 1 p2 6, p2 - 1, rfl, ?_, HF.out, ?_⟩
    · simp [results, Try.results10, go_sem, cR, cM]
    · have := HN.out
      simp only [List.length_cons] at this
      exact RdT.cut (RdF.ofOwnsL HRU.out (by simp; omega)) (by omega)
    · exact HBU.out

end Go.Proofs.Ytkffmjcipnlbhaa
