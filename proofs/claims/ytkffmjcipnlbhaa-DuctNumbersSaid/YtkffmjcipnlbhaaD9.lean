
/- Walks of the seat of chapter 05: DuctNumbers. -/
import Derived.Test.YtkffmjcipnlbhaaD8
namespace Go.Proofs.Ytkffmjcipnlbhaa
open Go.RowKit
attribute [local go_sem ↓] Go.wp_at_zero Go.wp_at_succ
attribute [local go_sem] more_size cell_more_old frozen_more_old setCell_more_old more_drew drew_more old_alloc old_more old_drew old_setCell cell_alloc_old frozen_alloc_old setCell_alloc_old

theorem ofV_neg {p q : Int} : ofV p q = -1 ∨ (0 ≤ p ∧ 0 ≤ q ∧ q < 5 ∧ ofV p q = 5 * p + q) := by
  unfold ofV
  by_cases h : p < 0 ∨ q < 0 ∨ 5 ≤ q
  · exact .inl (if_pos h)
  · exact .inr ⟨by omega, by omega, by omega, if_neg h⟩

set_option maxHeartbeats 4000000 in
theorem numbers6 (p q p' q' n f : Int) (w : World) :
    Calls Try.prog 6 #[.int .i64 p, .int .i64 q, .int .i64 p', .int .i64 q', .int .i64 n, .int .i64 f] w fun r w' => r = .returned (.bool true) ∧ Below w.heap.size w w' := by
  by_cases g1 : 1125899906842624 < p
  · go_enter Try.func6, Try.ntmps6
    go_wp2_with fail
    refine (wakes7 _).mono ?_
    rintro r w2 ⟨rfl, hb⟩
    go_wp2_with fail
    go_ret
    exact ⟨rfl, hb⟩
  by_cases g2 : 1125899906842624 < p'
  · go_enter Try.func6, Try.ntmps6
    go_wp2_with fail
    refine (wakes7 _).mono ?_
    rintro r w2 ⟨rfl, hb⟩
    go_wp2_with fail
    go_ret
    exact ⟨rfl, hb⟩
  by_cases g3 : 1152921504606846976 < n
  · go_enter Try.func6, Try.ntmps6
    go_wp2_with fail
    refine (wakes7 _).mono ?_
    rintro r w2 ⟨rfl, hb⟩
    go_wp2_with fail
    go_ret
    exact ⟨rfl, hb⟩
  have g1' : p ≤ 1125899906842624 := by omega
  have g2' : p' ≤ 1125899906842624 := by omega
  have g3' : n ≤ 1152921504606846976 := by omega
  have ha := @ofV_neg p q
  have hb := @ofV_neg p' q'
  have hA : ofV p q ≤ 1152921504606846976 := by omega
  have hx : 0 ≤ ofV p q → (whoV (ofV p q)).1 = p ∧ (whoV (ofV p q)).2 = q := by
    intro h
    rw [whoV, if_neg (by omega)]
    constructor <;> (show _ = _) <;> simp only [] <;> omega
  have hboth : 0 ≤ ofV p q → 0 ≤ ofV p' q' → (decide (ofV p q = ofV p' q') = (decide (p = p') && decide (q = q'))) := by
    intro h1 h2
    rw [Bool.eq_iff_iff]
    simp only [decide_eq_true_eq, Bool.and_eq_true]
    omega
  have hn : n < 0 ∨ ofV (whoV n).1 (whoV n).2 = n := by
    by_cases h : n < 0
    · exact .inl h
    · right
      rw [whoV, if_neg h, ofV, if_neg (by simp only []; omega)]
      simp only []
      omega
  have hw1 : n < 0 ∨ (whoV n).1 ≤ 1125899906842624 ∨ 5 * (whoV n).1 + (whoV n).2 ≤ 1152921504606846976 := by
    by_cases h : n < 0
    · exact .inl h
    · right; right
      rw [whoV, if_neg h]
      simp only []
      omega
  have k1 := fun w => of19 p q w (.inl g1')
  have k2 := fun w => of19 p' q' w (.inl g2')
  have k3 := fun w => of20 p q w g1'
  have k4 := fun w => whose21 (ofV p q) w hA
  have k5 := fun w => whose21 n w g3'
  have k6 := fun w => whose22 n w g3'
  have k7 : n < 0 ∨ ∀ w, Calls Try.prog 19 #[.int .i64 (whoV n).1, .int .i64 (whoV n).2] w fun r w' => r = .returned (.int .i64 n) ∧ w = w' := by
    by_cases hneg : n < 0
    · exact .inl hneg
    · right
      intro w
      have h := hn.resolve_left hneg
      have e := of19 (whoV n).1 (whoV n).2 w (by rcases hw1.resolve_left hneg with h | h <;> omega)
      rw [h] at e
      exact e
  generalize ofV p q = A at *
  generalize ofV p' q' = B at *
  generalize (whoV A).1 = a1 at *
  generalize (whoV A).2 = a2 at *
  generalize (whoV n).1 = x at *
  generalize (whoV n).2 = y at *
  have HX := Lib.hid hx
  have HK7 := Lib.hid k7
  clear hx hn hw1 hA k7 g1' g2' g3'
  rcases (show (A < 0) ∨ (0 ≤ A ∧ B < 0) ∨ (0 ≤ A ∧ 0 ≤ B ∧ p = p' ∧ q = q' ∧ A = B) ∨ (0 ≤ A ∧ 0 ≤ B ∧ p = p' ∧ ¬ q = q' ∧ ¬ A = B) ∨ (0 ≤ A ∧ 0 ≤ B ∧ ¬ p = p' ∧ ¬ A = B) from by omega) with h | ⟨h, h'⟩ | ⟨h, h', e1, e2, e3⟩ | ⟨h, h', e1, e2, e3⟩ | ⟨h, h', e1, e2⟩
  · clear hboth ha hb
    go_enter Try.func6, Try.ntmps6
    go_wp2_with fail
    refine (k1 _).mono ?_
    rintro r w1 ⟨rfl, rfl⟩
    go_wp2_with fail
    refine (k2 _).mono ?_
    rintro r w1 ⟨rfl, rfl⟩
    go_wp2_with fail
    refine (k3 _).mono ?_
    rintro r w1 ⟨rfl, rfl⟩
    go_wp2_with fail
    refine (k5 _).mono ?_
    rintro r w1 ⟨rfl, rfl⟩
    go_wp2_with fail
    refine (k6 _).mono ?_
    rintro r w1 ⟨rfl, rfl⟩
    rcases HK7.out with hn | k7
    · go_wp2_with fail
      refine (own24 f _).mono ?_
      rintro r w1 ⟨b1, rfl, kb1, hb1⟩
      go_wp2_with fail
      refine (own25 f _).mono ?_
      rintro r w2 ⟨b2, rfl, kb2, hb2⟩
      have kb1' := block_keep' hb2 kb1
      have hB2 := hb1.trans (hb2.mono hb1.size)
      go_wp2_with fail
      refine (sameAll23 b1 b2 (ownS f) _ (block_lt kb1') (block_lt kb2) (dAt_own kb1') (dAt_own kb2)).mono ?_
      rintro r w3 ⟨rfl, hb3⟩
      have hB3 := hB2.trans (hb3.mono hB2.size)
      clear kb1 kb2 kb1' hb1 hb2 hb3 hB2
      go_wp2_with fail
      refine (wakes7 _).mono ?_
      rintro r w4 ⟨rfl, hb4⟩
      go_wp2
      go_ret
      exact ⟨rfl, hB3.trans (hb4.mono hB3.size)⟩
    · by_cases hn : n < 0
      · go_wp2_with fail
        refine (own24 f _).mono ?_
        rintro r w1 ⟨b1, rfl, kb1, hb1⟩
        go_wp2_with fail
        refine (own25 f _).mono ?_
        rintro r w2 ⟨b2, rfl, kb2, hb2⟩
        have kb1' := block_keep' hb2 kb1
        have hB2 := hb1.trans (hb2.mono hb1.size)
        go_wp2_with fail
        refine (sameAll23 b1 b2 (ownS f) _ (block_lt kb1') (block_lt kb2) (dAt_own kb1') (dAt_own kb2)).mono ?_
        rintro r w3 ⟨rfl, hb3⟩
        have hB3 := hB2.trans (hb3.mono hB2.size)
        clear kb1 kb2 kb1' hb1 hb2 hb3 hB2
        go_wp2_with fail
        refine (wakes7 _).mono ?_
        rintro r w4 ⟨rfl, hb4⟩
        go_wp2
        go_ret
        exact ⟨rfl, hB3.trans (hb4.mono hB3.size)⟩
      · go_wp2_with fail
        refine (k7 _).mono ?_
        rintro r w1 ⟨rfl, rfl⟩
        go_wp2_with fail
        refine (own24 f _).mono ?_
        rintro r w1 ⟨b1, rfl, kb1, hb1⟩
        go_wp2_with fail
        refine (own25 f _).mono ?_
        rintro r w2 ⟨b2, rfl, kb2, hb2⟩
        have kb1' := block_keep' hb2 kb1
        have hB2 := hb1.trans (hb2.mono hb1.size)
        go_wp2_with fail
        refine (sameAll23 b1 b2 (ownS f) _ (block_lt kb1') (block_lt kb2) (dAt_own kb1') (dAt_own kb2)).mono ?_
        rintro r w3 ⟨rfl, hb3⟩
        have hB3 := hB2.trans (hb3.mono hB2.size)
        clear kb1 kb2 kb1' hb1 hb2 hb3 hB2
        go_wp2_with fail
        refine (wakes7 _).mono ?_
        rintro r w4 ⟨rfl, hb4⟩
        go_wp2
        go_ret
        exact ⟨rfl, hB3.trans (hb4.mono hB3.size)⟩
  · clear hboth ha hb
    go_enter Try.func6, Try.ntmps6
    go_wp2_with fail
    refine (k1 _).mono ?_
    rintro r w1 ⟨rfl, rfl⟩
    go_wp2_with fail
    refine (k2 _).mono ?_
    rintro r w1 ⟨rfl, rfl⟩
    go_wp2_with fail
    refine (k3 _).mono ?_
    rintro r w1 ⟨rfl, rfl⟩
    obtain ⟨ex, ey⟩ := HX.out h
    subst ex ey
    go_wp2_with fail
    refine (k4 _).mono ?_
    rintro r w1 ⟨rfl, rfl⟩
    go_wp2_with fail
    refine (k5 _).mono ?_
    rintro r w1 ⟨rfl, rfl⟩
    go_wp2_with fail
    refine (k6 _).mono ?_
    rintro r w1 ⟨rfl, rfl⟩
    rcases HK7.out with hn | k7
    · go_wp2_with fail
      refine (own24 f _).mono ?_
      rintro r w1 ⟨b1, rfl, kb1, hb1⟩
      go_wp2_with fail
      refine (own25 f _).mono ?_
      rintro r w2 ⟨b2, rfl, kb2, hb2⟩
      have kb1' := block_keep' hb2 kb1
      have hB2 := hb1.trans (hb2.mono hb1.size)
      go_wp2_with fail
      refine (sameAll23 b1 b2 (ownS f) _ (block_lt kb1') (block_lt kb2) (dAt_own kb1') (dAt_own kb2)).mono ?_
      rintro r w3 ⟨rfl, hb3⟩
      have hB3 := hB2.trans (hb3.mono hB2.size)
      clear kb1 kb2 kb1' hb1 hb2 hb3 hB2
      go_wp2_with fail
      refine (wakes7 _).mono ?_
      rintro r w4 ⟨rfl, hb4⟩
      go_wp2
      go_ret
      exact ⟨rfl, hB3.trans (hb4.mono hB3.size)⟩
    · by_cases hn : n < 0
      · go_wp2_with fail
        refine (own24 f _).mono ?_
        rintro r w1 ⟨b1, rfl, kb1, hb1⟩
        go_wp2_with fail
        refine (own25 f _).mono ?_
        rintro r w2 ⟨b2, rfl, kb2, hb2⟩
        have kb1' := block_keep' hb2 kb1
        have hB2 := hb1.trans (hb2.mono hb1.size)
        go_wp2_with fail
        refine (sameAll23 b1 b2 (ownS f) _ (block_lt kb1') (block_lt kb2) (dAt_own kb1') (dAt_own kb2)).mono ?_
        rintro r w3 ⟨rfl, hb3⟩
        have hB3 := hB2.trans (hb3.mono hB2.size)
        clear kb1 kb2 kb1' hb1 hb2 hb3 hB2
        go_wp2_with fail
        refine (wakes7 _).mono ?_
        rintro r w4 ⟨rfl, hb4⟩
        go_wp2
        go_ret
        exact ⟨rfl, hB3.trans (hb4.mono hB3.size)⟩
      · go_wp2_with fail
        refine (k7 _).mono ?_
        rintro r w1 ⟨rfl, rfl⟩
        go_wp2_with fail
        refine (own24 f _).mono ?_
        rintro r w1 ⟨b1, rfl, kb1, hb1⟩
        go_wp2_with fail
        refine (own25 f _).mono ?_
        rintro r w2 ⟨b2, rfl, kb2, hb2⟩
        have kb1' := block_keep' hb2 kb1
        have hB2 := hb1.trans (hb2.mono hb1.size)
        go_wp2_with fail
        refine (sameAll23 b1 b2 (ownS f) _ (block_lt kb1') (block_lt kb2) (dAt_own kb1') (dAt_own kb2)).mono ?_
        rintro r w3 ⟨rfl, hb3⟩
        have hB3 := hB2.trans (hb3.mono hB2.size)
        clear kb1 kb2 kb1' hb1 hb2 hb3 hB2
        go_wp2_with fail
        refine (wakes7 _).mono ?_
        rintro r w4 ⟨rfl, hb4⟩
        go_wp2
        go_ret
        exact ⟨rfl, hB3.trans (hb4.mono hB3.size)⟩
  · clear hboth ha hb
    subst e1 e2 e3
    go_enter Try.func6, Try.ntmps6
    go_wp2_with fail
    refine (k1 _).mono ?_
    rintro r w1 ⟨rfl, rfl⟩
    go_wp2_with fail
    refine (k2 _).mono ?_
    rintro r w1 ⟨rfl, rfl⟩
    go_wp2_with fail
    refine (k3 _).mono ?_
    rintro r w1 ⟨rfl, rfl⟩
    obtain ⟨ex, ey⟩ := HX.out h
    subst ex ey
    go_wp2_with fail
    refine (k4 _).mono ?_
    rintro r w1 ⟨rfl, rfl⟩
    go_wp2_with fail
    refine (k5 _).mono ?_
    rintro r w1 ⟨rfl, rfl⟩
    go_wp2_with fail
    refine (k6 _).mono ?_
    rintro r w1 ⟨rfl, rfl⟩
    rcases HK7.out with hn | k7
    · go_wp2_with fail
      refine (own24 f _).mono ?_
      rintro r w1 ⟨b1, rfl, kb1, hb1⟩
      go_wp2_with fail
      refine (own25 f _).mono ?_
      rintro r w2 ⟨b2, rfl, kb2, hb2⟩
      have kb1' := block_keep' hb2 kb1
      have hB2 := hb1.trans (hb2.mono hb1.size)
      go_wp2_with fail
      refine (sameAll23 b1 b2 (ownS f) _ (block_lt kb1') (block_lt kb2) (dAt_own kb1') (dAt_own kb2)).mono ?_
      rintro r w3 ⟨rfl, hb3⟩
      have hB3 := hB2.trans (hb3.mono hB2.size)
      clear kb1 kb2 kb1' hb1 hb2 hb3 hB2
      go_wp2_with fail
      refine (wakes7 _).mono ?_
      rintro r w4 ⟨rfl, hb4⟩
      go_wp2
      go_ret
      exact ⟨rfl, hB3.trans (hb4.mono hB3.size)⟩
    · by_cases hn : n < 0
      · go_wp2_with fail
        refine (own24 f _).mono ?_
        rintro r w1 ⟨b1, rfl, kb1, hb1⟩
        go_wp2_with fail
        refine (own25 f _).mono ?_
        rintro r w2 ⟨b2, rfl, kb2, hb2⟩
        have kb1' := block_keep' hb2 kb1
        have hB2 := hb1.trans (hb2.mono hb1.size)
        go_wp2_with fail
        refine (sameAll23 b1 b2 (ownS f) _ (block_lt kb1') (block_lt kb2) (dAt_own kb1') (dAt_own kb2)).mono ?_
        rintro r w3 ⟨rfl, hb3⟩
        have hB3 := hB2.trans (hb3.mono hB2.size)
        clear kb1 kb2 kb1' hb1 hb2 hb3 hB2
        go_wp2_with fail
        refine (wakes7 _).mono ?_
        rintro r w4 ⟨rfl, hb4⟩
        go_wp2
        go_ret
        exact ⟨rfl, hB3.trans (hb4.mono hB3.size)⟩
      · go_wp2_with fail
        refine (k7 _).mono ?_
        rintro r w1 ⟨rfl, rfl⟩
        go_wp2_with fail
        refine (own24 f _).mono ?_
        rintro r w1 ⟨b1, rfl, kb1, hb1⟩
        go_wp2_with fail
        refine (own25 f _).mono ?_
        rintro r w2 ⟨b2, rfl, kb2, hb2⟩
        have kb1' := block_keep' hb2 kb1
        have hB2 := hb1.trans (hb2.mono hb1.size)
        go_wp2_with fail
        refine (sameAll23 b1 b2 (ownS f) _ (block_lt kb1') (block_lt kb2) (dAt_own kb1') (dAt_own kb2)).mono ?_
        rintro r w3 ⟨rfl, hb3⟩
        have hB3 := hB2.trans (hb3.mono hB2.size)
        clear kb1 kb2 kb1' hb1 hb2 hb3 hB2
        go_wp2_with fail
        refine (wakes7 _).mono ?_
        rintro r w4 ⟨rfl, hb4⟩
        go_wp2
        go_ret
        exact ⟨rfl, hB3.trans (hb4.mono hB3.size)⟩
  · clear hboth ha hb
    subst e1
    have e2b : (q == q') = false := by simp [e2]
    have e3b : (A == B) = false := by simp [e3]
    go_enter Try.func6, Try.ntmps6
    go_wp2_with fail
    refine (k1 _).mono ?_
    rintro r w1 ⟨rfl, rfl⟩
    go_wp2_with fail
    refine (k2 _).mono ?_
    rintro r w1 ⟨rfl, rfl⟩
    go_wp2_with fail
    refine (k3 _).mono ?_
    rintro r w1 ⟨rfl, rfl⟩
    obtain ⟨ex, ey⟩ := HX.out h
    subst ex ey
    go_wp2_with fail
    refine (k4 _).mono ?_
    rintro r w1 ⟨rfl, rfl⟩
    go_wp2_with fail
    refine (k5 _).mono ?_
    rintro r w1 ⟨rfl, rfl⟩
    go_wp2_with fail
    refine (k6 _).mono ?_
    rintro r w1 ⟨rfl, rfl⟩
    rcases HK7.out with hn | k7
    · go_wp2_with fail
      refine (own24 f _).mono ?_
      rintro r w1 ⟨b1, rfl, kb1, hb1⟩
      go_wp2_with fail
      refine (own25 f _).mono ?_
      rintro r w2 ⟨b2, rfl, kb2, hb2⟩
      have kb1' := block_keep' hb2 kb1
      have hB2 := hb1.trans (hb2.mono hb1.size)
      go_wp2_with fail
      refine (sameAll23 b1 b2 (ownS f) _ (block_lt kb1') (block_lt kb2) (dAt_own kb1') (dAt_own kb2)).mono ?_
      rintro r w3 ⟨rfl, hb3⟩
      have hB3 := hB2.trans (hb3.mono hB2.size)
      clear kb1 kb2 kb1' hb1 hb2 hb3 hB2
      go_wp2_with fail
      refine (wakes7 _).mono ?_
      rintro r w4 ⟨rfl, hb4⟩
      go_wp2
      go_ret
      exact ⟨rfl, hB3.trans (hb4.mono hB3.size)⟩
    · by_cases hn : n < 0
      · go_wp2_with fail
        refine (own24 f _).mono ?_
        rintro r w1 ⟨b1, rfl, kb1, hb1⟩
        go_wp2_with fail
        refine (own25 f _).mono ?_
        rintro r w2 ⟨b2, rfl, kb2, hb2⟩
        have kb1' := block_keep' hb2 kb1
        have hB2 := hb1.trans (hb2.mono hb1.size)
        go_wp2_with fail
        refine (sameAll23 b1 b2 (ownS f) _ (block_lt kb1') (block_lt kb2) (dAt_own kb1') (dAt_own kb2)).mono ?_
        rintro r w3 ⟨rfl, hb3⟩
        have hB3 := hB2.trans (hb3.mono hB2.size)
        clear kb1 kb2 kb1' hb1 hb2 hb3 hB2
        go_wp2_with fail
        refine (wakes7 _).mono ?_
        rintro r w4 ⟨rfl, hb4⟩
        go_wp2
        go_ret
        exact ⟨rfl, hB3.trans (hb4.mono hB3.size)⟩
      · go_wp2_with fail
        refine (k7 _).mono ?_
        rintro r w1 ⟨rfl, rfl⟩
        go_wp2_with fail
        refine (own24 f _).mono ?_
        rintro r w1 ⟨b1, rfl, kb1, hb1⟩
        go_wp2_with fail
        refine (own25 f _).mono ?_
        rintro r w2 ⟨b2, rfl, kb2, hb2⟩
        have kb1' := block_keep' hb2 kb1
        have hB2 := hb1.trans (hb2.mono hb1.size)
        go_wp2_with fail
        refine (sameAll23 b1 b2 (ownS f) _ (block_lt kb1') (block_lt kb2) (dAt_own kb1') (dAt_own kb2)).mono ?_
        rintro r w3 ⟨rfl, hb3⟩
        have hB3 := hB2.trans (hb3.mono hB2.size)
        clear kb1 kb2 kb1' hb1 hb2 hb3 hB2
        go_wp2_with fail
        refine (wakes7 _).mono ?_
        rintro r w4 ⟨rfl, hb4⟩
        go_wp2
        go_ret
        exact ⟨rfl, hB3.trans (hb4.mono hB3.size)⟩
  · clear hboth ha hb
    have e1b : (p == p') = false := by simp [e1]
    have e2b : (A == B) = false := by simp [e2]
    go_enter Try.func6, Try.ntmps6
    go_wp2_with fail
    refine (k1 _).mono ?_
    rintro r w1 ⟨rfl, rfl⟩
    go_wp2_with fail
    refine (k2 _).mono ?_
    rintro r w1 ⟨rfl, rfl⟩
    go_wp2_with fail
    refine (k3 _).mono ?_
    rintro r w1 ⟨rfl, rfl⟩
    obtain ⟨ex, ey⟩ := HX.out h
    subst ex ey
    go_wp2_with fail
    refine (k4 _).mono ?_
    rintro r w1 ⟨rfl, rfl⟩
    go_wp2_with fail
    refine (k5 _).mono ?_
    rintro r w1 ⟨rfl, rfl⟩
    go_wp2_with fail
    refine (k6 _).mono ?_
    rintro r w1 ⟨rfl, rfl⟩
    rcases HK7.out with hn | k7
    · go_wp2_with fail
      refine (own24 f _).mono ?_
      rintro r w1 ⟨b1, rfl, kb1, hb1⟩
      go_wp2_with fail
      refine (own25 f _).mono ?_
      rintro r w2 ⟨b2, rfl, kb2, hb2⟩
      have kb1' := block_keep' hb2 kb1
      have hB2 := hb1.trans (hb2.mono hb1.size)
      go_wp2_with fail
      refine (sameAll23 b1 b2 (ownS f) _ (block_lt kb1') (block_lt kb2) (dAt_own kb1') (dAt_own kb2)).mono ?_
      rintro r w3 ⟨rfl, hb3⟩
      have hB3 := hB2.trans (hb3.mono hB2.size)
      clear kb1 kb2 kb1' hb1 hb2 hb3 hB2
      go_wp2_with fail
      refine (wakes7 _).mono ?_
      rintro r w4 ⟨rfl, hb4⟩
      go_wp2
      go_ret
      exact ⟨rfl, hB3.trans (hb4.mono hB3.size)⟩
    · by_cases hn : n < 0
      · go_wp2_with fail
        refine (own24 f _).mono ?_
        rintro r w1 ⟨b1, rfl, kb1, hb1⟩
        go_wp2_with fail
        refine (own25 f _).mono ?_
        rintro r w2 ⟨b2, rfl, kb2, hb2⟩
        have kb1' := block_keep' hb2 kb1
        have hB2 := hb1.trans (hb2.mono hb1.size)
        go_wp2_with fail
        refine (sameAll23 b1 b2 (ownS f) _ (block_lt kb1') (block_lt kb2) (dAt_own kb1') (dAt_own kb2)).mono ?_
        rintro r w3 ⟨rfl, hb3⟩
        have hB3 := hB2.trans (hb3.mono hB2.size)
        clear kb1 kb2 kb1' hb1 hb2 hb3 hB2
        go_wp2_with fail
        refine (wakes7 _).mono ?_
        rintro r w4 ⟨rfl, hb4⟩
        go_wp2
        go_ret
        exact ⟨rfl, hB3.trans (hb4.mono hB3.size)⟩
      · go_wp2_with fail
        refine (k7 _).mono ?_
        rintro r w1 ⟨rfl, rfl⟩
        go_wp2_with fail
        refine (own24 f _).mono ?_
        rintro r w1 ⟨b1, rfl, kb1, hb1⟩
        go_wp2_with fail
        refine (own25 f _).mono ?_
        rintro r w2 ⟨b2, rfl, kb2, hb2⟩
        have kb1' := block_keep' hb2 kb1
        have hB2 := hb1.trans (hb2.mono hb1.size)
        go_wp2_with fail
        refine (sameAll23 b1 b2 (ownS f) _ (block_lt kb1') (block_lt kb2) (dAt_own kb1') (dAt_own kb2)).mono ?_
        rintro r w3 ⟨rfl, hb3⟩
        have hB3 := hB2.trans (hb3.mono hB2.size)
        clear kb1 kb2 kb1' hb1 hb2 hb3 hB2
        go_wp2_with fail
        refine (wakes7 _).mono ?_
        rintro r w4 ⟨rfl, hb4⟩
        go_wp2
        go_ret
        exact ⟨rfl, hB3.trans (hb4.mono hB3.size)⟩
end Go.Proofs.Ytkffmjcipnlbhaa
