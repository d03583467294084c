
/- Walks of the seat of chapter 07: a duct by its number, room, ready, the clock. -/
import Derived.Test.YtcdmhldhhjolpaaO1
namespace Go.Proofs.Ytcdmhldhhjolpaa
open Go.RowKit
attribute [local go_sem ↓] Go.wp_at_zero Go.wp_at_succ
attribute [local go_sem] more_size cell_more_old frozen_more_old setCell_more_old more_drew drew_more old_alloc old_more old_drew old_setCell cell_alloc_old frozen_alloc_old setCell_alloc_old
attribute [local go_sem ↓] load42 store42 load61 store61 load38 store38 load30 store30
attribute [local go_sem] run42 runs42 run61 runs61 run38 runs38 run30 runs30 blk_drew has_drew blk_drewN has_drewN old_drewN blk_alloc_old has_alloc_old blk_alloc_new has_alloc_new setBlk_size setBlk_drew old_setBlk cell_setBlk' cell_setBlk_ne frozen_setBlk blk_setBlk' blk_setBlk_ne has_setBlk' has_setBlk_ne setBlk_alloc_old setBlk_new

set_option maxHeartbeats 1000000 in
theorem duct30_some (ad : Option Addr) (nd pd : Nat) (ck i : Int) (dl lk : Bool) (du : List Du) (d : Du) (w : World) (h : RdU w (.slice ad nd pd) du) (hd : duAt du i = some d) :
    Calls Try.prog 30 #[.agg #[.slice ad nd pd, .int .i64 ck, .bool dl, .bool lk], .int .i64 i] w fun r w' => r = .returned (.tuple #[.agg #[.int .i64 d.c, .slice d.a d.n d.p, .bool d.b], .bool true]) ∧ Below w.heap.size w w' := by
  obtain ⟨k, rfl⟩ : ∃ k : Nat, i = k := by
    unfold duAt at hd
    split at hd
    · cases hd
    · exact ⟨i.toNat, by omega⟩
  have hk : du[k]? = some d := by
    have : ¬ ((k : Int) < 0) := by omega
    simpa [duAt, this] using hd
  have hlt := (List.getElem?_eq_some_iff.1 hk).1
  have hi0 : decide ((k : Int) < 0) = false := by simp
  have hi0' : (0 : Int) ≤ (k : Int) := by omega
  have hi1 : (k : Int) < (nd : Int) := by have := h.len; omega
  obtain ⟨b, off, rfl, hb, -⟩ := h.at hk
  have hrun := runDu (h.below (show Below w.heap.size w ((w.alloc (.cells #[.slice (some ⟨b, off, none⟩) nd pd, .int .i64 ck, .bool dl, .bool lk] 61)).alloc (.cells #[.int .i64 0, .slice none 0 0, .bool false] 42)) by (repeat' (first | (with_reducible exact Below.refl _ _) | (with_reducible assumption) | (with_reducible refine Below.drew ?_) | (with_reducible refine Below.alloc ?_ ?_ _) | (with_reducible refine below_more ?_ ?_ _ _) | (with_reducible refine Below.setCell ?_ ?_ _) | (with_reducible refine Below.trans ?_ (Below.mono (by assumption) ?_)))) <;> first | omega | (simp; done) | (simp; omega) | (simp [more_size]; done) | (simp [more_size]; omega))) hk
  clear h hd hk hb
  go_enter Try.func30, Try.ntmps30
  go_wp2_with fail
  refine bodyPost_ret (v := .tuple #[.agg #[.int .i64 d.c, .slice d.a d.n d.p, .bool d.b], .bool true]) ?_ rfl ⟨rfl, by (repeat' (first | (with_reducible exact Below.refl _ _) | (with_reducible assumption) | (with_reducible refine Below.drew ?_) | (with_reducible refine Below.alloc ?_ ?_ _) | (with_reducible refine below_more ?_ ?_ _ _) | (with_reducible refine Below.setCell ?_ ?_ _) | (with_reducible refine Below.trans ?_ (Below.mono (by assumption) ?_)))) <;> first | omega | (simp; done) | (simp; omega) | (simp [more_size]; done) | (simp [more_size]; omega)⟩
  simp [results, Try.results30, go_sem]
set_option maxHeartbeats 1000000 in
theorem duct30_none (ad : Option Addr) (nd pd : Nat) (ck i : Int) (dl lk : Bool) (du : List Du) (w : World) (h : RdU w (.slice ad nd pd) du) (hd : duAt du i = none) :
    Calls Try.prog 30 #[.agg #[.slice ad nd pd, .int .i64 ck, .bool dl, .bool lk], .int .i64 i] w fun r w' => r = .returned (.tuple #[.agg #[.int .i64 0, .slice none 0 0, .bool false], .bool false]) ∧ Below w.heap.size w w' := by
  have hl := h.len
  rcases (show i < 0 ∨ (¬ i < 0 ∧ (nd : Int) ≤ i) by
    by_cases hi : i < 0
    · exact .inl hi
    · refine .inr ⟨hi, ?_⟩
      rw [duAt, if_neg hi, List.getElem?_eq_none_iff] at hd
      omega) with hi | ⟨hi, hi'⟩
  · clear h hd
    go_enter Try.func30, Try.ntmps30
    go_wp2_with fail
    refine bodyPost_ret (v := .tuple #[.agg #[.int .i64 0, .slice none 0 0, .bool false], .bool false]) ?_ rfl ⟨rfl, by (repeat' (first | (with_reducible exact Below.refl _ _) | (with_reducible assumption) | (with_reducible refine Below.drew ?_) | (with_reducible refine Below.alloc ?_ ?_ _) | (with_reducible refine below_more ?_ ?_ _ _) | (with_reducible refine Below.setCell ?_ ?_ _) | (with_reducible refine Below.trans ?_ (Below.mono (by assumption) ?_)))) <;> first | omega | (simp; done) | (simp; omega) | (simp [more_size]; done) | (simp [more_size]; omega)⟩
    simp [results, Try.results30, go_sem]
  · have hi0 : decide (i < 0) = false := by simp; omega
    clear h hd
    go_enter Try.func30, Try.ntmps30
    go_wp2_with fail
    refine bodyPost_ret (v := .tuple #[.agg #[.int .i64 0, .slice none 0 0, .bool false], .bool false]) ?_ rfl ⟨rfl, by (repeat' (first | (with_reducible exact Below.refl _ _) | (with_reducible assumption) | (with_reducible refine Below.drew ?_) | (with_reducible refine Below.alloc ?_ ?_ _) | (with_reducible refine below_more ?_ ?_ _ _) | (with_reducible refine Below.setCell ?_ ?_ _) | (with_reducible refine Below.trans ?_ (Below.mono (by assumption) ?_)))) <;> first | omega | (simp; done) | (simp; omega) | (simp [more_size]; done) | (simp [more_size]; omega)⟩
    simp [results, Try.results30, go_sem]
set_option maxHeartbeats 1000000 in
theorem room31 (d : Du) (w : World) : Calls Try.prog 31 #[.agg #[.int .i64 d.c, .slice d.a d.n d.p, .bool d.b]] w fun r w' => (∃ x : Int, r = .returned (.int .i64 x) ∧ decide (0 < x) = roomB d) ∧ Below w.heap.size w w' := by
  obtain ⟨c, a, n, p, b⟩ := d
  cases b
  · have HV : Hid (decide (0 < max (wrap64 (c - (n : Int))) 0) = roomB ⟨c, a, n, p, false⟩) := Lib.hid rfl
    go_enter Try.func31, Try.ntmps31
    go_wp2_with fail
    all_goals
      go_ret
      refine ⟨⟨_, rfl, ?_⟩, by (repeat' (first | (with_reducible exact Below.refl _ _) | (with_reducible assumption) | (with_reducible refine Below.drew ?_) | (with_reducible refine Below.alloc ?_ ?_ _) | (with_reducible refine below_more ?_ ?_ _ _) | (with_reducible refine Below.setCell ?_ ?_ _) | (with_reducible refine Below.trans ?_ (Below.mono (by assumption) ?_)))) <;> first | omega | (simp; done) | (simp; omega) | (simp [more_size]; done) | (simp [more_size]; omega)⟩
      rw [← HV.out]
      congr 1
      simp only [Int.max_def]
      repeat' split
      all_goals first | rfl | (simp; omega)
  · go_enter Try.func31, Try.ntmps31
    go_wp2_with fail
    go_ret
    exact ⟨⟨0, rfl, rfl⟩, by (repeat' (first | (with_reducible exact Below.refl _ _) | (with_reducible assumption) | (with_reducible refine Below.drew ?_) | (with_reducible refine Below.alloc ?_ ?_ _) | (with_reducible refine below_more ?_ ?_ _ _) | (with_reducible refine Below.setCell ?_ ?_ _) | (with_reducible refine Below.trans ?_ (Below.mono (by assumption) ?_)))) <;> first | omega | (simp; done) | (simp; omega) | (simp [more_size]; done) | (simp [more_size]; omega)⟩
theorem ready33 (d : Du) (w : World) : Calls Try.prog 33 #[.agg #[.int .i64 d.c, .slice d.a d.n d.p, .bool d.b]] w fun r w' => r = .returned (.bool (readyB d)) ∧ Below w.heap.size w w' := by
  obtain ⟨c, a, n, p, b⟩ := d
  cases b
  · have HV : Hid (readyB ⟨c, a, n, p, false⟩ = (n != 0)) := Lib.hid (by simp [readyB])
    rw [HV.out]
    go_enter Try.func33, Try.ntmps33
    go_wp2_with fail
    go_ret
    refine ⟨?_, by (repeat' (first | (with_reducible exact Below.refl _ _) | (with_reducible assumption) | (with_reducible refine Below.drew ?_) | (with_reducible refine Below.alloc ?_ ?_ _) | (with_reducible refine below_more ?_ ?_ _ _) | (with_reducible refine Below.setCell ?_ ?_ _) | (with_reducible refine Below.trans ?_ (Below.mono (by assumption) ?_)))) <;> first | omega | (simp; done) | (simp; omega) | (simp [more_size]; done) | (simp [more_size]; omega)⟩
    congr 2
    by_cases h : n = 0
    · subst h; rfl
    · have h1 : (n != 0) = true := by simpa using h
      rw [h1]
      simp
      omega
  · have HV : Hid (readyB ⟨c, a, n, p, true⟩ = true) := Lib.hid (by simp [readyB])
    rw [HV.out]
    go_enter Try.func33, Try.ntmps33
    go_wp2_with fail
    go_ret
    exact ⟨rfl, by (repeat' (first | (with_reducible exact Below.refl _ _) | (with_reducible assumption) | (with_reducible refine Below.drew ?_) | (with_reducible refine Below.alloc ?_ ?_ _) | (with_reducible refine below_more ?_ ?_ _ _) | (with_reducible refine Below.setCell ?_ ?_ _) | (with_reducible refine Below.trans ?_ (Below.mono (by assumption) ?_)))) <;> first | omega | (simp; done) | (simp; omega) | (simp [more_size]; done) | (simp [more_size]; omega)⟩
theorem ready10 (d : Du) (w : World) : Calls Try.prog 10 #[.agg #[.int .i64 d.c, .slice d.a d.n d.p, .bool d.b]] w fun r w' => r = .returned (.bool (readyB d)) ∧ Below w.heap.size w w' := by
  obtain ⟨c, a, n, p, b⟩ := d
  by_cases h : n = 0
  · subst h
    have HV : Hid (readyB ⟨c, a, 0, p, b⟩ = b) := Lib.hid (by simp [readyB])
    rw [HV.out]
    go_enter Try.func10, Try.ntmps10
    go_wp2_with fail
    go_ret
    exact ⟨rfl, by (repeat' (first | (with_reducible exact Below.refl _ _) | (with_reducible assumption) | (with_reducible refine Below.drew ?_) | (with_reducible refine Below.alloc ?_ ?_ _) | (with_reducible refine below_more ?_ ?_ _ _) | (with_reducible refine Below.setCell ?_ ?_ _) | (with_reducible refine Below.trans ?_ (Below.mono (by assumption) ?_)))) <;> first | omega | (simp; done) | (simp; omega) | (simp [more_size]; done) | (simp [more_size]; omega)⟩
  · have HV : Hid (readyB ⟨c, a, n, p, b⟩ = true) := Lib.hid (by simp [readyB, h])
    have hn : (0 : Int) < (n : Int) := by omega
    rw [HV.out]
    go_enter Try.func10, Try.ntmps10
    go_wp2_with fail
    go_ret
    exact ⟨rfl, by (repeat' (first | (with_reducible exact Below.refl _ _) | (with_reducible assumption) | (with_reducible refine Below.drew ?_) | (with_reducible refine Below.alloc ?_ ?_ _) | (with_reducible refine below_more ?_ ?_ _ _) | (with_reducible refine Below.setCell ?_ ?_ _) | (with_reducible refine Below.trans ?_ (Below.mono (by assumption) ?_)))) <;> first | omega | (simp; done) | (simp; omega) | (simp [more_size]; done) | (simp [more_size]; omega)⟩
theorem of38 (x : Int) (w : World) : Calls Try.prog 38 #[.int .i64 x] w fun r w' => r = .returned (.int .i64 (clampV x)) ∧ w = w' := by
  rcases (show x < 0 ∨ (¬ x < 0 ∧ x ≤ 1073741824) ∨ (¬ x < 0 ∧ 1073741824 < x) from by omega) with h | ⟨h1, h⟩ | ⟨h1, h⟩
  · have HV : Hid (clampV x = 0) := Lib.hid (by unfold clampV; omega)
    rw [HV.out]
    go_enter Try.func38, Try.ntmps38
    go_wp2_with fail
    go_ret
    exact ⟨rfl, rfl⟩
  · have HV : Hid (clampV x = x) := Lib.hid (by unfold clampV; omega)
    have h2 : ¬ 1073741824 < x := by omega
    rw [HV.out]
    go_enter Try.func38, Try.ntmps38
    go_wp2_with fail
    go_ret
    exact ⟨rfl, rfl⟩
  · have HV : Hid (clampV x = 1073741824) := Lib.hid (by unfold clampV; omega)
    rw [HV.out]
    go_enter Try.func38, Try.ntmps38
    go_wp2_with fail
    go_ret
    exact ⟨rfl, rfl⟩
theorem clamp35 (x : Int) (w : World) : Calls Try.prog 35 #[.int .i64 x] w fun r w' => r = .returned (.int .i64 (clampV x)) ∧ w = w' := by
  go_enter Try.func35, Try.ntmps35
  go_wp2_with fail
  refine (of38 x _).mono ?_
  rintro r w1 ⟨rfl, rfl⟩
  go_wp2_with fail
  go_ret
  exact ⟨rfl, rfl⟩
theorem nth23 (a : Option Addr) (n p : Nat) (l : List Bool) (k : Nat) (w : World) (h : RdB w (.slice a n p) l) : Calls Try.prog 23 #[.slice a n p, .int .i64 k] w fun r w' => r = .returned (.bool (l[k]?.getD false)) ∧ w = w' := by
  have hn := h.len
  by_cases hk : k < n
  · obtain ⟨x, hx⟩ : ∃ x, l[k]? = some x := ⟨_, List.getElem?_eq_getElem (by omega)⟩
    obtain ⟨b, off, rfl, hb, c0⟩ := h.at hx
    have hk' : (k : Int) < (n : Int) := by omega
    have hk0 : (0 : Int) ≤ (k : Int) := by omega
    have HX : Hid (l[k]?.getD false = x) := Lib.hid (by rw [hx]; rfl)
    rw [HX.out]
    clear h hx
    go_enter Try.func23, Try.ntmps23
    go_wp2_with fail
    go_ret
    exact ⟨rfl, rfl⟩
  · have hk' : decide ((k : Int) < (n : Int)) = false := by simp; omega
    have HX : Hid (l[k]?.getD false = false) := Lib.hid (by rw [List.getElem?_eq_none (by omega)]; rfl)
    rw [HX.out]
    clear h
    go_enter Try.func23, Try.ntmps23
    go_wp2_with fail
    go_ret
    exact ⟨rfl, rfl⟩
end Go.Proofs.Ytcdmhldhhjolpaa
