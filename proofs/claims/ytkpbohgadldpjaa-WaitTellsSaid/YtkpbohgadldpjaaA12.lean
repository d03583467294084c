
/- The walk of WaitAll: it returns true. -/
import Derived.Test.YtkpbohgadldpjaaA11
import Derived.Test.YtkpbohgadldpjaaCls2
namespace Go.Proofs.Ytkpbohgadldpjaa
open Go.RowKit
attribute [local go_sem ↓] Go.wp_at_zero Go.wp_at_succ
attribute [local go_sem] more_size cell_more_old frozen_more_old setCell_more_old more_drew drew_more old_alloc old_more old_drew old_setCell cell_alloc_old frozen_alloc_old setCell_alloc_old

theorem RdI.shapeN {w : World} {v : Value} {l : List Int} {n : Nat} (h : RdI w v l) (hn : l.length = n) : ∃ a c, v = .slice a n c := by
  subst hn; exact h.shape

/-- Each stands where it first stands. -/
def Once (l : List Int) : Prop := ∀ (j : Nat) (x : Int), l[j]? = some x → idxV l x = j
theorem Once.tail {y : Int} {l : List Int} (h : Once (y :: l)) : ¬ y ∈ l ∧ Once l := by
  have key : ∀ (j : Nat) (x : Int), l[j]? = some x → y ≠ x ∧ idxV l x = j := by
    intro j x hx
    have := h (j + 1) x (by simpa using hx)
    simp only [idxV] at this
    by_cases hyx : y = x
    · rw [if_pos hyx] at this; omega
    · rw [if_neg hyx] at this
      refine ⟨hyx, ?_⟩
      split at this <;> omega
  refine ⟨fun hm => ?_, fun j x hx => (key j x hx).2⟩
  obtain ⟨j, hj⟩ := List.mem_iff_getElem?.1 hm
  exact (key j y hj).1 rfl
theorem hasB_one (c x : Int) : hasB [c] x = decide (x = c) := by simp [hasB]
theorem quit_none {l : List Int} {c : Int} (h : ¬ c ∈ l) : quitL l [c] = l := by
  unfold quitL
  rw [List.filter_eq_self]
  intro x hx
  rw [hasB_one]
  simp
  rintro rfl
  exact h hx
theorem quit_len {l : List Int} {c : Int} (h : Once l) : (quitL l [c]).length + (if c ∈ l then 1 else 0) = l.length := by
  induction l with
  | nil => simp [quitL]
  | cons y l ih =>
    obtain ⟨h1, h2⟩ := h.tail
    by_cases hy : y = c
    · subst hy
      have e : quitL (y :: l) [y] = quitL l [y] := by simp [quitL, hasB_one]
      rw [e, quit_none h1]
      simp
    · have e : quitL (y :: l) [c] = y :: quitL l [c] := by simp [quitL, hasB_one, hy]
      have hcy : ¬ c = y := fun e => hy e.symm
      have := ih h2
      rw [e, List.length_cons, List.length_cons]
      simp only [List.mem_cons, hcy, false_or]
      omega
theorem quit_not {l : List Int} {c : Int} : allIn (quitL l [c]) [c] = false := by
  simp [allIn, quitL, hasB_one]
theorem quit_in {l : List Int} {c : Int} : allIn l (quitL l [c]) = true := by
  simp only [allIn, decide_eq_true_eq]
  intro x hx
  exact (List.mem_filter.1 hx).1
theorem allIn_one {l : List Int} {c : Int} : allIn l [c] = decide (c ∈ l) := by simp [allIn]
theorem join_one {l : List Int} {c : Int} : joinL ((quitL l [c]).length + 1) (quitL l [c]) [c] = (quitL l [c] ++ [c], 0) := by
  have h : ¬ c ∈ quitL l [c] := by simp [quitL, hasB_one]
  simp only [joinL]
  rw [if_neg h, if_neg (by omega)]

set_option maxRecDepth 100000 in
set_option maxHeartbeats 8000000 in
theorem all5 (v : Value) (l : List Int) (c : Int) (w : World) (hl : l.length ≤ 4611686018427387904) (h : RdI w v l) :
    Calls Try.prog 5 #[v, .int .i64 c] w fun r w' => r = .returned (.bool true) ∧ Below w.heap.size w w' := by
  obtain ⟨a, cp, rfl, hx⟩ := rdI_cases h
  have H := Lib.hid h
  have HX := Lib.hid hx
  clear h hx
  by_cases g1 : 100 < l.length
  · go_enter Try.func5, Try.ntmps5
    go_wp2_with fail
    refine (wakes7 _).mono ?_
    rintro r w1 ⟨rfl, hb⟩
    go_wp2
    go_ret
    exact ⟨rfl, hb⟩
  have g1' : l.length ≤ 100 := by omega
  clear g1 hl
  go_enter Try.func5, Try.ntmps5
  go_wp2_with fail
  go_loop [5] (fun i => ∃ k : Nat, k ≤ l.length ∧ i = .int .i64 k ∧ ∀ (j : Nat) (x : Int), j < k → l[j]? = some x → idxV l x = j) (fun i => l.length - (intOf i).toNat)
  case atStart => exact ⟨0, Nat.zero_le _, rfl, fun j x hj => by omega⟩
  case round =>
    obtain ⟨k, hk, rfl, hon⟩ := hrel
    have HON := Lib.hid hon
    clear hon
    by_cases hk' : k < l.length
    · obtain ⟨b, o, rfl, hb, hx⟩ := HX.out (fun e => by subst e; simp at hk')
      obtain ⟨z, hz⟩ : ∃ z, l[k]? = some z := ⟨l[k], List.getElem?_eq_getElem hk'⟩
      have hc := hx k z hz
      have HZ := Lib.hid hz
      clear hx hz
      by_cases hi : idxV l z = (k : Int)
      · have hi' : (idxV l z != (k : Int)) = false := by simp [hi]
        have HI := Lib.hid hi
        clear hi
        go_wp2_with fail
        refine (place14 _ l z _ (by omega) H.out).mono ?_
        rintro r w1 ⟨rfl, rfl⟩
        go_wp2
        go_round
        case rel => exact ⟨k + 1, by omega, by go_num, fun j x hj hx => by
          rcases Nat.lt_or_ge j k with h' | h'
          · exact HON.out j x h' hx
          · obtain rfl : j = k := by omega
            rw [HZ.out] at hx
            rw [← Option.some.inj hx]
            exact HI.out⟩
        case measure => simp [intOf]; omega
      · have hi' : (idxV l z != (k : Int)) = true := by simp [hi]
        clear hi
        go_wp2_with fail
        refine (place14 _ l z _ (by omega) H.out).mono ?_
        rintro r w1 ⟨rfl, rfl⟩
        go_wp2_with fail
        refine (wakes7 _).mono ?_
        rintro r w1 ⟨rfl, hb⟩
        go_wp2
        go_ret
        exact ⟨rfl, hb⟩
    · have hOn : Once l := fun j x hx => HON.out j x (by have := (List.getElem?_eq_some_iff.1 hx).1; omega) hx
      have HO := Lib.hid hOn
      clear hOn HON
      go_wp2_with fail
      go_loopw [6, 7] (fun row i wr => ∃ k : Nat, k ≤ l.length ∧ i = .int .i64 k ∧ RdI wr row (l.drop k) ∧ Below w.heap.size w wr) (fun _ i _ => l.length - (intOf i).toNat)
      case atStart => exact ⟨0, Nat.zero_le _, rfl, H.out, Below.refl _ _⟩
      case round =>
        obtain ⟨k, hk, rfl, hrow, hbl⟩ := hrel
        by_cases hk' : k < l.length
        · obtain ⟨b, o, rfl, hb, hx⟩ := HX.out (fun e => by subst e; simp at hk')
          obtain ⟨z, hz⟩ : ∃ z, l[k]? = some z := ⟨l[k], List.getElem?_eq_getElem hk'⟩
          have hd : l.drop k = z :: l.drop (k + 1) := by
            have hz' : l[k] = z := (List.getElem?_eq_some_iff.1 hz).2
            rw [List.drop_eq_getElem_cons hk', hz']
          rw [hd] at hrow
          have HR := Lib.hid hrow
          have HB := Lib.hid hbl
          have HZ := Lib.hid (hx k z hz)
          clear hx hz hd hrow hbl
          go_wp2_with fail
          refine (next17 _ (l.drop (k + 1)) z _ (by simp; omega) HR.out).mono ?_
          rintro r w2 ⟨v2, rfl, hown, hb2⟩
          have hrd := RdI.of_owns hown
          obtain ⟨q, hq⟩ : ∃ q, l.length - (k + 1) = q := ⟨_, rfl⟩
          obtain ⟨a2, c2, rfl⟩ := hrd.shapeN (n := q) (by rw [List.length_drop]; exact hq)
          have hbw : Below w.heap.size w w2 := HB.out.trans (hb2.mono HB.out.size)
          have hc : w2.cell? ⟨b, o + k, none⟩ = some (.int .i64 z) := (hbw.cell (p := ⟨b, o + k, none⟩) hb).trans HZ.out
          have ht : ((q : Int) != (l.length : Int) - 1 - (k : Int)) = false := by simp; omega
          have HR2 := Lib.hid hrd
          have HB2 := Lib.hid hbw
          clear hown hrd hbw hb2 hq
          go_wp2
          go_roundw
          case rel => exact ⟨k + 1, by omega, by go_num, HR2.out, HB2.out⟩
          case measure => simp [intOf]; omega
        · have HB := Lib.hid hbl
          clear hrow hbl
          obtain ⟨n', hn'⟩ : ∃ n', (quitL l [c]).length = n' := ⟨_, rfl⟩
          go_wp2_with fail
          refine (quit15 _ _ l [c] _ (by omega) (by simp) (H.out.below (by have hb := HB.out; have hz := hb.size; (repeat' (first | (with_reducible exact Below.refl _ _) | (with_reducible assumption) | (with_reducible refine Below.drew ?_) | (with_reducible refine Below.alloc ?_ ?_ _) | (with_reducible refine below_more ?_ ?_ _ _) | (with_reducible refine Below.setCell ?_ ?_ _) | (with_reducible refine Below.trans ?_ (Below.mono (by assumption) ?_)))) <;> first | omega | (simp; done) | (simp; omega) | (simp [more_size]; done) | (simp [more_size]; omega))) (by exact rdI_new _ [c] (by simp))).mono ?_
          rintro r w2 ⟨v2, rfl, hrd, hb2⟩
          rw [hn']
          obtain ⟨a2, c2, rfl⟩ := hrd.shapeN hn'
          have hql := quit_len (c := c) HO.out
          rw [hn'] at hql
          have hbw : Below w.heap.size w w2 := by have hb := HB.out; have hz := hb.size; (repeat' (first | (with_reducible exact Below.refl _ _) | (with_reducible assumption) | (with_reducible refine Below.drew ?_) | (with_reducible refine Below.alloc ?_ ?_ _) | (with_reducible refine below_more ?_ ?_ _ _) | (with_reducible refine Below.setCell ?_ ?_ _) | (with_reducible refine Below.trans ?_ (Below.mono (by assumption) ?_)))) <;> first | omega | (simp; done) | (simp; omega) | (simp [more_size]; done) | (simp [more_size]; omega)
          have HR2 := Lib.hid hrd
          have HB2 := Lib.hid hbw
          have HN := Lib.hid hn'
          clear hrd hb2 hbw hn' HB
          have hcase : (Hid (allIn l [c] = true) ∧ n' + 1 = l.length ∧ ((l.length : Int) - (n' : Int) == 1) = true ∧ 0 ≤ idxV l c) ∨ (Hid (allIn l [c] = false) ∧ n' = l.length ∧ ((l.length : Int) - (n' : Int) == 1) = false ∧ idxV l c < 0) := by
            by_cases hcl : c ∈ l
            · left
              rw [if_pos hcl] at hql
              exact ⟨by show _ = _; rw [allIn_one]; simpa using hcl, hql, by simp; omega, (idxV_has l c).2 hcl⟩
            · right
              rw [if_neg hcl] at hql
              refine ⟨by show _ = _; rw [allIn_one]; simpa using hcl, by omega, by simp; omega, ?_⟩
              have := mt (idxV_has l c).1 hcl
              omega
          clear hql
          rcases hcase with ⟨hcl, hn1, ht1, hix⟩ | ⟨hcl, hn1, ht1, hix⟩
          all_goals
            have HC := hcl
            clear hcl
            have HN1 := Lib.hid hn1
            clear hn1
            go_wp2_with fail
            refine (place14 _ l c _ (by omega) (H.out.below HB2.out)).mono ?_
            rintro r w3 ⟨rfl, rfl⟩
            go_wp2_with fail
            refine (waits12 _ _ (quitL l [c]) [c] _ (by have := HN.out; have := HN1.out; omega) (by simp) (HR2.out.below (by (repeat' (first | (with_reducible exact Below.refl _ _) | (with_reducible assumption) | (with_reducible refine Below.drew ?_) | (with_reducible refine Below.alloc ?_ ?_ _) | (with_reducible refine below_more ?_ ?_ _ _) | (with_reducible refine Below.setCell ?_ ?_ _) | (with_reducible refine Below.trans ?_ (Below.mono (by assumption) ?_)))) <;> first | omega | (simp; done) | (simp; omega) | (simp [more_size]; done) | (simp [more_size]; omega))) (by exact rdI_new _ [c] (by simp))).mono ?_
            rintro r w4 ⟨rfl, hb4⟩
            rw [quit_not]
            have HR4 := Lib.hid (HR2.out.below (w' := w4) (by (repeat' (first | (with_reducible exact Below.refl _ _) | (with_reducible assumption) | (with_reducible refine Below.drew ?_) | (with_reducible refine Below.alloc ?_ ?_ _) | (with_reducible refine below_more ?_ ?_ _ _) | (with_reducible refine Below.setCell ?_ ?_ _) | (with_reducible refine Below.trans ?_ (Below.mono (by assumption) ?_)))) <;> first | omega | (simp; done) | (simp; omega) | (simp [more_size]; done) | (simp [more_size]; omega)))
            have hbw : Below w.heap.size w w4 := by have hb := HB2.out; have hz := hb.size; (repeat' (first | (with_reducible exact Below.refl _ _) | (with_reducible assumption) | (with_reducible refine Below.drew ?_) | (with_reducible refine Below.alloc ?_ ?_ _) | (with_reducible refine below_more ?_ ?_ _ _) | (with_reducible refine Below.setCell ?_ ?_ _) | (with_reducible refine Below.trans ?_ (Below.mono (by assumption) ?_)))) <;> first | omega | (simp; done) | (simp; omega) | (simp [more_size]; done) | (simp [more_size]; omega)
            have HB4 := Lib.hid hbw
            clear hb4 hbw HR2 HB2
            have HNL : Hid (n' ≤ 100) := by show _ ≤ _; have := HN1.out; omega
            go_wp2_with fail
            refine (waits12 _ _ l (quitL l [c]) _ (by omega) (by have := HN.out; have := HNL.out; omega) (H.out.below HB4.out) HR4.out).mono ?_
            rintro r w5 ⟨rfl, hb5⟩
            rw [quit_in]
            have hbw : Below w.heap.size w w5 := HB4.out.trans (hb5.mono HB4.out.size)
            have HR5 := Lib.hid (HR4.out.below hb5)
            have HB5 := Lib.hid hbw
            clear hb5 hbw HR4 HB4
            go_wp2_with fail
            refine (waits12 _ _ l [c] _ (by omega) (by simp) (H.out.below (by have hb := HB5.out; have hz := hb.size; (repeat' (first | (with_reducible exact Below.refl _ _) | (with_reducible assumption) | (with_reducible refine Below.drew ?_) | (with_reducible refine Below.alloc ?_ ?_ _) | (with_reducible refine below_more ?_ ?_ _ _) | (with_reducible refine Below.setCell ?_ ?_ _) | (with_reducible refine Below.trans ?_ (Below.mono (by assumption) ?_)))) <;> first | omega | (simp; done) | (simp; omega) | (simp [more_size]; done) | (simp [more_size]; omega))) (by exact rdI_new _ [c] (by simp))).mono ?_
            rintro r w6 ⟨rfl, hb6⟩
            rw [HC.out]
            have HR6 := Lib.hid (HR5.out.below (w' := w6) (by (repeat' (first | (with_reducible exact Below.refl _ _) | (with_reducible assumption) | (with_reducible refine Below.drew ?_) | (with_reducible refine Below.alloc ?_ ?_ _) | (with_reducible refine below_more ?_ ?_ _ _) | (with_reducible refine Below.setCell ?_ ?_ _) | (with_reducible refine Below.trans ?_ (Below.mono (by assumption) ?_)))) <;> first | omega | (simp; done) | (simp; omega) | (simp [more_size]; done) | (simp [more_size]; omega)))
            have hbw : Below w.heap.size w w6 := by have hb := HB5.out; have hz := hb.size; (repeat' (first | (with_reducible exact Below.refl _ _) | (with_reducible assumption) | (with_reducible refine Below.drew ?_) | (with_reducible refine Below.alloc ?_ ?_ _) | (with_reducible refine below_more ?_ ?_ _ _) | (with_reducible refine Below.setCell ?_ ?_ _) | (with_reducible refine Below.trans ?_ (Below.mono (by assumption) ?_)))) <;> first | omega | (simp; done) | (simp; omega) | (simp [more_size]; done) | (simp [more_size]; omega)
            have HB6 := Lib.hid hbw
            clear hb6 hbw HR5 HB5
            have HJ : Hid (joinL ((n' : Int) + 1) (quitL l [c]) [c] = (quitL l [c] ++ [c], 0)) := by show _ = _; rw [← HN.out]; exact join_one
            have hnl := HNL.out
            go_wp2_with fail
            refine (join13 _ _ (quitL l [c]) [c] ((n' : Int) + 1) _ (by have := HN.out; have := HNL.out; omega) (by simp) (HR6.out.below (by (repeat' (first | (with_reducible exact Below.refl _ _) | (with_reducible assumption) | (with_reducible refine Below.drew ?_) | (with_reducible refine Below.alloc ?_ ?_ _) | (with_reducible refine below_more ?_ ?_ _ _) | (with_reducible refine Below.setCell ?_ ?_ _) | (with_reducible refine Below.trans ?_ (Below.mono (by assumption) ?_)))) <;> first | omega | (simp; done) | (simp; omega) | (simp [more_size]; done) | (simp [more_size]; omega))) (by exact rdI_new _ [c] (by simp))).mono ?_
            rintro r w7 ⟨v7, rfl, hown, hb7⟩
            rw [HJ.out] at hown ⊢
            have hrd := RdI.of_owns hown
            have hbw : Below w.heap.size w w7 := by have hb := HB6.out; have hz := hb.size; (repeat' (first | (with_reducible exact Below.refl _ _) | (with_reducible assumption) | (with_reducible refine Below.drew ?_) | (with_reducible refine Below.alloc ?_ ?_ _) | (with_reducible refine below_more ?_ ?_ _ _) | (with_reducible refine Below.setCell ?_ ?_ _) | (with_reducible refine Below.trans ?_ (Below.mono (by assumption) ?_)))) <;> first | omega | (simp; done) | (simp; omega) | (simp [more_size]; done) | (simp [more_size]; omega)
            have HR7 := Lib.hid hrd
            have HB7 := Lib.hid hbw
            rcases hrd with ⟨h0, _⟩ | ⟨_, b7, o7, cap7, rfl, _, _, hx7⟩
            · simp at h0
            have hc7 : w7.cell? ⟨b7, o7 + n', none⟩ = some (.int .i64 c) := hx7 n' c (by rw [← HN.out]; simp)
            have hlen : (quitL l [c] ++ [c]).length = n' + 1 := by rw [List.length_append, HN.out]; rfl
            rw [hlen] at HR7 ⊢
            clear hown hb7 hbw hx7 hlen
            go_wp2_with fail
            refine (waits12 _ _ (quitL l [c] ++ [c]) [c] _ (by rw [List.length_append, HN.out]; simp; omega) (by simp) (HR7.out.below (by (repeat' (first | (with_reducible exact Below.refl _ _) | (with_reducible assumption) | (with_reducible refine Below.drew ?_) | (with_reducible refine Below.alloc ?_ ?_ _) | (with_reducible refine below_more ?_ ?_ _ _) | (with_reducible refine Below.setCell ?_ ?_ _) | (with_reducible refine Below.trans ?_ (Below.mono (by assumption) ?_)))) <;> first | omega | (simp; done) | (simp; omega) | (simp [more_size]; done) | (simp [more_size]; omega))) (by exact rdI_new _ [c] (by simp))).mono ?_
            rintro r w8 ⟨rfl, hb8⟩
            rw [show allIn (quitL l [c] ++ [c]) [c] = true from by simp [allIn]]
            have hbw : Below w.heap.size w w8 := by have hb := HB7.out; have hz := hb.size; (repeat' (first | (with_reducible exact Below.refl _ _) | (with_reducible assumption) | (with_reducible refine Below.drew ?_) | (with_reducible refine Below.alloc ?_ ?_ _) | (with_reducible refine below_more ?_ ?_ _ _) | (with_reducible refine Below.setCell ?_ ?_ _) | (with_reducible refine Below.trans ?_ (Below.mono (by assumption) ?_)))) <;> first | omega | (simp; done) | (simp; omega) | (simp [more_size]; done) | (simp [more_size]; omega)
            have HB8 := Lib.hid hbw
            clear hb8 hbw
            go_wp2_with fail
            refine (wakes7 _).mono ?_
            rintro r w9 ⟨rfl, hb9⟩
            go_wp2
            go_ret
            exact ⟨rfl, HB8.out.trans (hb9.mono HB8.out.size)⟩
end Go.Proofs.Ytkpbohgadldpjaa
