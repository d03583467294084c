
/- Walks of the seat of chapter 05: New, Of, and the reference's Great and Same. -/
import Derived.Test.YtkffmjcipnlbhaaD4
namespace Go.Proofs.Ytkffmjcipnlbhaa
open Go.RowKit
attribute [local go_sem ↓] Go.wp_at_zero Go.wp_at_succ
attribute [local go_sem] more_size cell_more_old frozen_more_old setCell_more_old more_drew drew_more old_alloc old_more old_drew old_setCell cell_alloc_old frozen_alloc_old setCell_alloc_old

theorem belowN {B : Nat} {w w' : World} (h : Below B w w') (m : Nat) : Below B w (w'.drewN m) := ⟨h.os, h.tape, h.output, h.size, h.block⟩
theorem rdL_one (w : World) (x : Lt) : RdL (w.alloc (.cells #[.int .i8 x.k, .int .i64 x.f, .int .i64 x.n, .int .i64 x.s, .string x.t, .int .i64 x.e] 32)) (.slice (some ⟨w.heap.size, 0, none⟩) 1 1) [x] :=
  RdF.new w 6 1 (ltCells [x]) 32 rfl (by decide)

set_option maxHeartbeats 2000000 in
theorem new8 (c : Int) (a : Option Addr) (n p : Nat) (l : List Lt) (w : World) (h1 : 0 ≤ c) (h2 : c ≤ 64) (h3 : (n : Int) ≤ c) (hl : RdL w (.slice a n p) l) :
    Calls Try.prog 8 #[.int .i64 c, .slice a n p] w fun r w' => ∃ a' p', r = .returned (.tuple #[.agg #[.int .i64 c, .slice a' n p', .bool false], .int .i64 0]) ∧ RdT w' (.slice a' n p') l ∧ Below w.heap.size w w' := by
  have HL := Lib.hid hl
  have HN := Lib.hid hl.len
  clear hl
  go_enter Try.func8, Try.ntmps8
  go_wp2_with fail
  refine (clone26 _ l _ (by have := HN.out; omega) (HL.out.below (by (repeat' (first | (with_reducible exact Below.refl _ _) | (with_reducible assumption) | (with_reducible refine Below.drew ?_) | (with_reducible refine Below.alloc ?_ ?_ _) | (with_reducible refine below_more ?_ ?_ _ _) | (with_reducible refine Below.setCell ?_ ?_ _) | (with_reducible refine Below.trans ?_ (Below.mono (by assumption) ?_)))) <;> first | omega | (simp; done) | (simp; omega) | (simp [more_size]; done) | (simp [more_size]; omega)))).mono ?_
  rintro r w1 ⟨v2, rfl, hown, hb⟩
  obtain ⟨a2, p2, rfl⟩ := (RdL.of_owns hown).shape (n := n) HN.out.symm
  have kR : w1.heap[w.heap.size]? = some (.cells #[.int .i64 0, .slice none 0 0, .bool false] 26) := block_keep' hb (by (repeat' (first | (with_reducible assumption) | (with_reducible refine hm_new ?_; (first | rfl | (simp; done) | (simp [more_size]; done) | (simp [more_size]; omega))) | (with_reducible refine block_alloc ?_) | (with_reducible refine hm_more ?_) | (with_reducible refine hm_drew ?_))))
  have hB : Below w.heap.size w w1 := by (repeat' (first | (with_reducible exact Below.refl _ _) | (with_reducible assumption) | (with_reducible refine Below.drew ?_) | (with_reducible refine Below.alloc ?_ ?_ _) | (with_reducible refine below_more ?_ ?_ _ _) | (with_reducible refine Below.setCell ?_ ?_ _) | (with_reducible refine Below.trans ?_ (Below.mono (by assumption) ?_)))) <;> first | omega | (simp; done) | (simp; omega) | (simp [more_size]; done) | (simp [more_size]; omega)
  have oR := block_lt kR
  have hown' : w1.ownsRow (w.heap.size + 1) 32 6 (.slice a2 n p2) n (ltCells l) := by rw [HN.out] at hown ⊢; exact owns_base hown (by simp)
  have HO := Lib.hid hown'
  have HK := Lib.hid kR
  have HB := Lib.hid hB
  have oR' : Old w1 w.heap.size := oR
  clear kR hb hB hown hown'
  go_wp2_with fail
  refine (may13_yes _ c a2 n p2 false _ (by (repeat' (first | (with_reducible assumption) | (with_reducible refine hm_new ?_; (first | rfl | (simp; done) | (simp [more_size]; done) | (simp [more_size]; omega))) | (with_reducible refine block_alloc ?_) | (with_reducible refine hm_more ?_) | (with_reducible refine hm_drew ?_)))) h1 h2 h3).mono ?_
  rintro r w2 ⟨rfl, hb⟩
  have kD : w2.heap[w1.heap.size]? = some (.cells #[.int .i64 c, .slice a2 n p2, .bool false] 26) := block_keep' hb (by (repeat' (first | (with_reducible assumption) | (with_reducible refine hm_new ?_; (first | rfl | (simp; done) | (simp [more_size]; done) | (simp [more_size]; omega))) | (with_reducible refine block_alloc ?_) | (with_reducible refine hm_more ?_) | (with_reducible refine hm_drew ?_))))
  have kR : w2.heap[w.heap.size]? = some (.cells #[.int .i64 0, .slice none 0 0, .bool false] 26) := block_keep' hb (block_alloc (block_alloc HK.out))
  have hb2 : Below w1.heap.size w1 w2 := by (repeat' (first | (with_reducible exact Below.refl _ _) | (with_reducible assumption) | (with_reducible refine Below.drew ?_) | (with_reducible refine Below.alloc ?_ ?_ _) | (with_reducible refine below_more ?_ ?_ _ _) | (with_reducible refine Below.setCell ?_ ?_ _) | (with_reducible refine Below.trans ?_ (Below.mono (by assumption) ?_)))) <;> first | omega | (simp; done) | (simp; omega) | (simp [more_size]; done) | (simp [more_size]; omega)
  have HO2 := Lib.hid (owns_set3 (u0 := .int .i64 c) (u1 := .slice a2 n p2) (u2 := .bool false) kR (by decide) (owns_below HO.out hb2))
  have cD := cell_block kD
  have cR := cell_block kR
  have fR := free_block kR
  have HB2 := Lib.hid (HB.out.trans (hb2.mono HB.out.size))
  clear kD kR hb hb2 HK HO HB
  go_wp2
  refine bodyPost_ret ?_ rfl ⟨a2, p2, rfl, ?_, ?_⟩
  · simp [results, Try.results8, go_sem, cR, fR]
  · exact RdF.ofOwnsL HO2.out HN.out.symm
  · have hb := HB2.out
    (repeat' (first | (with_reducible exact Below.refl _ _) | (with_reducible assumption) | (with_reducible refine Below.drew ?_) | (with_reducible refine Below.alloc ?_ ?_ _) | (with_reducible refine below_more ?_ ?_ _ _) | (with_reducible refine Below.setCell ?_ ?_ _) | (with_reducible refine Below.trans ?_ (Below.mono (by assumption) ?_)))) <;> first | omega | (simp; done) | (simp; omega) | (simp [more_size]; done) | (simp [more_size]; omega)

set_option maxHeartbeats 400000 in
theorem of19_12 (w : World) : Calls Try.prog 19 #[.int .i64 2, .int .i64 2] w fun r w' => r = .returned (.int .i64 12) ∧ w = w' := by
  go_enter Try.func19, Try.ntmps19
  go_wp2
  go_ret
  exact ⟨rfl, rfl⟩

set_option maxHeartbeats 800000 in
/-- Great: where it says no, there are at most 100 letters. -/
theorem great18 (a : Option Addr) (n p : Nat) (l : List Lt) (w : World) (hl : RdL w (.slice a n p) l) :
    Calls Try.prog 18 #[.slice a n p] w fun r w' => (r = .returned (.bool true) ∨ (r = .returned (.bool false) ∧ n ≤ 100)) ∧ Below w.heap.size w w' := by
  have HL := Lib.hid hl
  have HN := Lib.hid hl.len
  clear hl
  go_enter Try.func18, Try.ntmps18
  go_wp2
  go_loop [3] (fun i => ∃ k : Nat, k ≤ n ∧ k ≤ 101 ∧ i = .int .i64 k) (fun i => n - (intOf i).toNat)
  case atStart => exact ⟨0, Nat.zero_le _, by omega, rfl⟩
  case round =>
    obtain ⟨k, hk, hk1, rfl⟩ := hrel
    by_cases hlt : k < n
    · have hi : (k : Int) < (n : Int) := by omega
      have hi0 : (0 : Int) ≤ (k : Int) := by omega
      by_cases h100 : k ≤ 100
      · have h100' : (k : Int) ≤ 100 := by omega
        obtain ⟨x, hx⟩ : ∃ x, l[k]? = some x := ⟨_, List.getElem?_eq_getElem (by have := HN.out; omega)⟩
        obtain ⟨b, off, rfl, hb0, c0, c1, c2, c3, c4, c5⟩ := HL.out.at hx
        by_cases ht : (2000 : Int) < (x.t.size : Int)
        · go_wp2
          go_ret
          exact ⟨.inl rfl, by (repeat' (first | (with_reducible exact Below.refl _ _) | (with_reducible assumption) | (with_reducible refine Below.drew ?_) | (with_reducible refine Below.alloc ?_ ?_ _) | (with_reducible refine below_more ?_ ?_ _ _) | (with_reducible refine Below.setCell ?_ ?_ _) | (with_reducible refine Below.trans ?_ (Below.mono (by assumption) ?_)))) <;> first | omega | (simp; done) | (simp; omega) | (simp [more_size]; done) | (simp [more_size]; omega)⟩
        · go_wp2
          go_round
          case rel => exact ⟨k + 1, by omega, by omega, by go_num⟩
          case measure => simp [intOf]; omega
      · have h100' : ¬ (k : Int) ≤ 100 := by omega
        have h101 : (100 : Int) < (n : Int) := by omega
        go_wp2
        go_ret
        exact ⟨.inl rfl, by (repeat' (first | (with_reducible exact Below.refl _ _) | (with_reducible assumption) | (with_reducible refine Below.drew ?_) | (with_reducible refine Below.alloc ?_ ?_ _) | (with_reducible refine below_more ?_ ?_ _ _) | (with_reducible refine Below.setCell ?_ ?_ _) | (with_reducible refine Below.trans ?_ (Below.mono (by assumption) ?_)))) <;> first | omega | (simp; done) | (simp; omega) | (simp [more_size]; done) | (simp [more_size]; omega)⟩
    · have hi : ¬ (k : Int) < (n : Int) := by omega
      by_cases h101 : (100 : Int) < (n : Int)
      · go_wp2
        go_ret
        exact ⟨.inl rfl, by (repeat' (first | (with_reducible exact Below.refl _ _) | (with_reducible assumption) | (with_reducible refine Below.drew ?_) | (with_reducible refine Below.alloc ?_ ?_ _) | (with_reducible refine below_more ?_ ?_ _ _) | (with_reducible refine Below.setCell ?_ ?_ _) | (with_reducible refine Below.trans ?_ (Below.mono (by assumption) ?_)))) <;> first | omega | (simp; done) | (simp; omega) | (simp [more_size]; done) | (simp [more_size]; omega)⟩
      · go_wp2
        go_ret
        exact ⟨.inr ⟨rfl, by omega⟩, by (repeat' (first | (with_reducible exact Below.refl _ _) | (with_reducible assumption) | (with_reducible refine Below.drew ?_) | (with_reducible refine Below.alloc ?_ ?_ _) | (with_reducible refine below_more ?_ ?_ _ _) | (with_reducible refine Below.setCell ?_ ?_ _) | (with_reducible refine Below.trans ?_ (Below.mono (by assumption) ?_)))) <;> first | omega | (simp; done) | (simp; omega) | (simp [more_size]; done) | (simp [more_size]; omega)⟩

set_option maxHeartbeats 2000000 in
theorem same16 (c : Int) (cl : Bool) (a1 a2 : Option Addr) (n p1 p2 : Nat) (l : List Lt) (w : World) (hn : n ≤ 1000) (h1 : RdL w (.slice a1 n p1) l) (h2 : RdL w (.slice a2 n p2) l) :
    Calls Try.prog 16 #[.agg #[.int .i64 c, .slice a1 n p1, .bool cl], .agg #[.int .i64 c, .slice a2 n p2, .bool cl]] w fun r w' => r = .returned (.bool true) ∧ Below w.heap.size w w' := by
  have H1 := Lib.hid h1
  have H2 := Lib.hid h2
  have HN := Lib.hid h1.len
  clear h1 h2
  go_enter Try.func16, Try.ntmps16
  cases cl
  all_goals
    go_wp2
    go_loopw [5] (fun i wr => ∃ k : Nat, k ≤ n ∧ i = .int .i64 k ∧ ∃ m, wr = (((w.alloc (.cells #[.int .i64 c, .slice a1 n p1, .bool _] 26)).alloc (.cells #[.int .i64 c, .slice a2 n p2, .bool _] 26)).drewN m)) (fun i _ => n - (intOf i).toNat)
    case atStart => exact ⟨0, Nat.zero_le _, rfl, 0, rfl⟩
    case round =>
      obtain ⟨k, hk, rfl, m, rfl⟩ := hrel
      by_cases hlt : k < n
      · have hi : (k : Int) < (n : Int) := by omega
        have hi0 : (0 : Int) ≤ (k : Int) := by omega
        obtain ⟨x, hx⟩ : ∃ x, l[k]? = some x := ⟨_, List.getElem?_eq_getElem (by have := HN.out; omega)⟩
        obtain ⟨b, off, rfl, hb0, c0, c1, c2, c3, c4, c5⟩ := H1.out.at hx
        obtain ⟨b', off', rfl, hb0', d0, d1, d2, d3, d4, d5⟩ := H2.out.at hx
        have ob : Old w b := hb0
        have ob' : Old w b' := hb0'
        go_wp2
        go_quiet (fail)
        go_wp2
        go_roundw
        case rel => exact ⟨k + 1, by omega, by go_num, _, rfl⟩
        case measure => simp [intOf]; omega
      · have hi : ¬ (k : Int) < (n : Int) := by omega
        go_wp2
        go_ret
        exact ⟨rfl, belowN (by (repeat' (first | (with_reducible exact Below.refl _ _) | (with_reducible assumption) | (with_reducible refine Below.drew ?_) | (with_reducible refine Below.alloc ?_ ?_ _) | (with_reducible refine below_more ?_ ?_ _ _) | (with_reducible refine Below.setCell ?_ ?_ _) | (with_reducible refine Below.trans ?_ (Below.mono (by assumption) ?_)))) <;> first | omega | (simp; done) | (simp; omega) | (simp [more_size]; done) | (simp [more_size]; omega)) m⟩

set_option maxHeartbeats 400000 in
/-- Great, of a law: where it says no, there are at most 100 letters in the duct and in the slice. -/
theorem great14 (c : Int) (a a2 : Option Addr) (n p n2 p2 : Nat) (b : Bool) (l l2 : List Lt) (w : World) (hl : RdL w (.slice a n p) l) (hl2 : RdL w (.slice a2 n2 p2) l2) :
    Calls Try.prog 14 #[.agg #[.int .i64 c, .slice a n p, .bool b], .slice a2 n2 p2] w fun r w' => (r = .returned (.bool true) ∨ (r = .returned (.bool false) ∧ n ≤ 100 ∧ n2 ≤ 100)) ∧ Below w.heap.size w w' := by
  have HL := Lib.hid hl
  have HL2 := Lib.hid hl2
  clear hl hl2
  go_enter Try.func14, Try.ntmps14
  go_wp2_with fail
  refine (great18 a n p l _ (HL.out.below (by (repeat' (first | (with_reducible exact Below.refl _ _) | (with_reducible assumption) | (with_reducible refine Below.drew ?_) | (with_reducible refine Below.alloc ?_ ?_ _) | (with_reducible refine below_more ?_ ?_ _ _) | (with_reducible refine Below.setCell ?_ ?_ _) | (with_reducible refine Below.trans ?_ (Below.mono (by assumption) ?_)))) <;> first | omega | (simp; done) | (simp; omega) | (simp [more_size]; done) | (simp [more_size]; omega)))).mono ?_
  rintro r w1 ⟨rfl | ⟨rfl, h100⟩, hb⟩
  · have hB : Below w.heap.size w w1 := by (repeat' (first | (with_reducible exact Below.refl _ _) | (with_reducible assumption) | (with_reducible refine Below.drew ?_) | (with_reducible refine Below.alloc ?_ ?_ _) | (with_reducible refine below_more ?_ ?_ _ _) | (with_reducible refine Below.setCell ?_ ?_ _) | (with_reducible refine Below.trans ?_ (Below.mono (by assumption) ?_)))) <;> first | omega | (simp; done) | (simp; omega) | (simp [more_size]; done) | (simp [more_size]; omega)
    clear hb
    go_wp2_with fail
    go_ret
    exact ⟨.inl rfl, hB⟩
  · have hB : Below w.heap.size w w1 := by (repeat' (first | (with_reducible exact Below.refl _ _) | (with_reducible assumption) | (with_reducible refine Below.drew ?_) | (with_reducible refine Below.alloc ?_ ?_ _) | (with_reducible refine below_more ?_ ?_ _ _) | (with_reducible refine Below.setCell ?_ ?_ _) | (with_reducible refine Below.trans ?_ (Below.mono (by assumption) ?_)))) <;> first | omega | (simp; done) | (simp; omega) | (simp [more_size]; done) | (simp [more_size]; omega)
    clear hb
    go_wp2_with fail
    refine (great18 a2 n2 p2 l2 _ (HL2.out.below hB)).mono ?_
    rintro r w2 ⟨rfl | ⟨rfl, h101⟩, hb⟩
    · have hB2 : Below w.heap.size w w2 := hB.trans (hb.mono hB.size)
      clear hb hB
      go_wp2_with fail
      go_ret
      exact ⟨.inl rfl, hB2⟩
    · have hB2 : Below w.heap.size w w2 := hB.trans (hb.mono hB.size)
      clear hb hB
      go_wp2_with fail
      go_ret
      exact ⟨.inr ⟨rfl, h100, h101⟩, hB2⟩
end Go.Proofs.Ytkffmjcipnlbhaa
