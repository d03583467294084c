
/- The walk of SeekStays: it returns true. -/
import Derived.Test.YthmeilgfdfkacaaW9
namespace Go.Proofs.Ythmeilgfdfkacaa
open Go.RowKit
attribute [local go_sem ↓] Go.wp_at_zero Go.wp_at_succ
attribute [local go_sem] more_size cell_more_old frozen_more_old setCell_more_old more_drew drew_more more_more old_alloc old_more old_drew old_setCell cell_alloc_old frozen_alloc_old setCell_alloc_old

set_option maxRecDepth 100000 in
set_option maxHeartbeats 1600000 in
theorem stays5_zero (id nm mk mf mn ms me : Int) (name mt : ByteArray) (i k f n s e : Int) (t : ByteArray) (w : World) (h1 : name.size ≤ 140737488351232) (h2 : mt.size ≤ 140737488351232) (h3 : t.size ≤ 140737488351232) :
    Calls Try.prog 5 #[.agg #[.int .i64 id, .int .i64 nm, .string name, .int .i8 0, .int .i8 mk, .int .i64 mf, .int .i64 mn, .int .i64 ms, .string mt, .int .i64 me], .int .i64 i, .agg #[.int .i8 k, .int .i64 f, .int .i64 n, .int .i64 s, .string t, .int .i64 e]] w fun r w' => r = .returned (.bool true) ∧ Below w.heap.size w w' := by
  go_enter Try.func5, Try.ntmps5
  go_wp2_with fail
  refine (great6 ⟨id, nm, 0, mk, mf, mn, ms, me, name, mt⟩ _ _ _ _ _ _ _ h1 h2 h3).mono ?_
  rintro r w1 ⟨g, rfl, hg, hb⟩
  obtain ⟨x, d, rfl⟩ := more_of_below hb; clear hb
  cases g
  case true =>
    clear hg
    go_wp2_with fail
    (refine (wakes7 _).mono ?_; rintro r w9 ⟨rfl, hb9⟩; obtain ⟨x9, d9, rfl⟩ := more_of_below hb9; clear hb9; go_wp2; go_ret; exact ⟨rfl, by (repeat' (first | (with_reducible exact Below.refl _ _) | (with_reducible assumption) | (with_reducible refine Below.drew ?_) | (with_reducible refine Below.alloc ?_ ?_ _) | (with_reducible refine below_more ?_ ?_ _ _) | (with_reducible refine Below.setCell ?_ ?_ _) | (with_reducible refine Below.trans ?_ (Below.mono (by assumption) ?_)))) <;> first | omega | (simp; done) | (simp; omega) | (simp [more_size]; done) | (simp [more_size]; omega)⟩)
  case false =>
    obtain ⟨hs, hnm⟩ := hg rfl
    simp only at hs hnm
    clear hg
    go_wp2_with fail
    refine (offers12_zero _ _ _ _ _ _ _ _ _ _ hnm).mono ?_
    rintro r w1 ⟨b1, rfl, k1, g1, hb⟩
    clear k1 g1
    obtain ⟨x1, d1, rfl⟩ := more_of_below hb
    clear hb
    go_wp2_with fail
    rcases (show i < 0 ∨ i = 0 ∨ 1 ≤ i from by omega) with hi | rfl | hi
    · refine (take14_zero_no _ _ _ _ _ _ _ _ _ _ _ _ _ _ _ _ _ hnm (by omega)).mono ?_
      rintro r w1 ⟨rfl, hb⟩
      obtain ⟨x2, d2, rfl⟩ := more_of_below hb
      clear hb
      go_wp2_with fail
      (refine (wakes7 _).mono ?_; rintro r w9 ⟨rfl, hb9⟩; obtain ⟨x9, d9, rfl⟩ := more_of_below hb9; clear hb9; go_wp2; go_ret; exact ⟨rfl, by (repeat' (first | (with_reducible exact Below.refl _ _) | (with_reducible assumption) | (with_reducible refine Below.drew ?_) | (with_reducible refine Below.alloc ?_ ?_ _) | (with_reducible refine below_more ?_ ?_ _ _) | (with_reducible refine Below.setCell ?_ ?_ _) | (with_reducible refine Below.trans ?_ (Below.mono (by assumption) ?_)))) <;> first | omega | (simp; done) | (simp; omega) | (simp [more_size]; done) | (simp [more_size]; omega)⟩)
    · refine (take14_told _ _ _ _ _ _ _ _ _ _ _ _ _ _ _ _ hnm).mono ?_
      rintro r w1 ⟨rfl, hb⟩
      obtain ⟨x2, d2, rfl⟩ := more_of_below hb
      clear hb
      go_wp2_with fail
      refine (over16_one ⟨id, nm, 0, mk, mf, mn, ms, me, name, mt⟩ _ _ (by (repeat' (first | (with_reducible assumption) | (with_reducible refine hm_new ?_; (first | rfl | (simp; done) | (simp [more_size]; done) | (simp [more_size]; omega))) | (with_reducible refine block_alloc ?_) | (with_reducible refine hm_more ?_) | (with_reducible refine hm_drew ?_)))) hnm (by simp) (by simp)).mono ?_
      rintro r w1 ⟨rfl, hb⟩
      obtain ⟨x4, d4, rfl⟩ := more_of_below hb
      clear hb
      simp only [show ovB 0 = false from rfl]
      go_wp2_with fail
      (refine (wakes7 _).mono ?_; rintro r w9 ⟨rfl, hb9⟩; obtain ⟨x9, d9, rfl⟩ := more_of_below hb9; clear hb9; go_wp2; go_ret; exact ⟨rfl, by (repeat' (first | (with_reducible exact Below.refl _ _) | (with_reducible assumption) | (with_reducible refine Below.drew ?_) | (with_reducible refine Below.alloc ?_ ?_ _) | (with_reducible refine below_more ?_ ?_ _ _) | (with_reducible refine Below.setCell ?_ ?_ _) | (with_reducible refine Below.trans ?_ (Below.mono (by assumption) ?_)))) <;> first | omega | (simp; done) | (simp; omega) | (simp [more_size]; done) | (simp [more_size]; omega)⟩)
    · have hi0 : 0 ≤ i := by omega
      refine (take14_zero_no _ _ _ _ _ _ _ _ _ _ _ _ _ _ _ _ _ hnm (by omega)).mono ?_
      rintro r w1 ⟨rfl, hb⟩
      obtain ⟨x2, d2, rfl⟩ := more_of_below hb
      clear hb
      go_wp2_with fail
      (refine (wakes7 _).mono ?_; rintro r w9 ⟨rfl, hb9⟩; obtain ⟨x9, d9, rfl⟩ := more_of_below hb9; clear hb9; go_wp2; go_ret; exact ⟨rfl, by (repeat' (first | (with_reducible exact Below.refl _ _) | (with_reducible assumption) | (with_reducible refine Below.drew ?_) | (with_reducible refine Below.alloc ?_ ?_ _) | (with_reducible refine below_more ?_ ?_ _ _) | (with_reducible refine Below.setCell ?_ ?_ _) | (with_reducible refine Below.trans ?_ (Below.mono (by assumption) ?_)))) <;> first | omega | (simp; done) | (simp; omega) | (simp [more_size]; done) | (simp [more_size]; omega)⟩)
set_option maxRecDepth 100000 in
set_option maxHeartbeats 1600000 in
theorem stays5_one (id nm mk mf mn ms me : Int) (name mt : ByteArray) (i k f n s e : Int) (t : ByteArray) (w : World) (h1 : name.size ≤ 140737488351232) (h2 : mt.size ≤ 140737488351232) (h3 : t.size ≤ 140737488351232) :
    Calls Try.prog 5 #[.agg #[.int .i64 id, .int .i64 nm, .string name, .int .i8 1, .int .i8 mk, .int .i64 mf, .int .i64 mn, .int .i64 ms, .string mt, .int .i64 me], .int .i64 i, .agg #[.int .i8 k, .int .i64 f, .int .i64 n, .int .i64 s, .string t, .int .i64 e]] w fun r w' => r = .returned (.bool true) ∧ Below w.heap.size w w' := by
  go_enter Try.func5, Try.ntmps5
  go_wp2_with fail
  refine (great6 ⟨id, nm, 1, mk, mf, mn, ms, me, name, mt⟩ _ _ _ _ _ _ _ h1 h2 h3).mono ?_
  rintro r w1 ⟨g, rfl, hg, hb⟩
  obtain ⟨x, d, rfl⟩ := more_of_below hb; clear hb
  cases g
  case true =>
    clear hg
    go_wp2_with fail
    (refine (wakes7 _).mono ?_; rintro r w9 ⟨rfl, hb9⟩; obtain ⟨x9, d9, rfl⟩ := more_of_below hb9; clear hb9; go_wp2; go_ret; exact ⟨rfl, by (repeat' (first | (with_reducible exact Below.refl _ _) | (with_reducible assumption) | (with_reducible refine Below.drew ?_) | (with_reducible refine Below.alloc ?_ ?_ _) | (with_reducible refine below_more ?_ ?_ _ _) | (with_reducible refine Below.setCell ?_ ?_ _) | (with_reducible refine Below.trans ?_ (Below.mono (by assumption) ?_)))) <;> first | omega | (simp; done) | (simp; omega) | (simp [more_size]; done) | (simp [more_size]; omega)⟩)
  case false =>
    obtain ⟨hs, hnm⟩ := hg rfl
    simp only at hs hnm
    clear hg
    go_wp2_with fail
    refine (offers12_one _ _ _ _ _ _ _ _ _ _ hnm).mono ?_
    rintro r w1 ⟨b1, rfl, k1, g1, hb⟩
    clear k1 g1
    obtain ⟨x1, d1, rfl⟩ := more_of_below hb
    clear hb
    go_wp2_with fail
    rcases (show i < 0 ∨ (0 ≤ i ∧ i < 2) ∨ 2 ≤ i from by omega) with hi | ⟨hi, hi'⟩ | hi
    · refine (take14_one_no _ _ _ _ _ _ _ _ _ _ _ _ _ _ _ _ _ hnm (by omega)).mono ?_
      rintro r w1 ⟨rfl, hb⟩
      obtain ⟨x2, d2, rfl⟩ := more_of_below hb
      clear hb
      go_wp2_with fail
      (refine (wakes7 _).mono ?_; rintro r w9 ⟨rfl, hb9⟩; obtain ⟨x9, d9, rfl⟩ := more_of_below hb9; clear hb9; go_wp2; go_ret; exact ⟨rfl, by (repeat' (first | (with_reducible exact Below.refl _ _) | (with_reducible assumption) | (with_reducible refine Below.drew ?_) | (with_reducible refine Below.alloc ?_ ?_ _) | (with_reducible refine below_more ?_ ?_ _ _) | (with_reducible refine Below.setCell ?_ ?_ _) | (with_reducible refine Below.trans ?_ (Below.mono (by assumption) ?_)))) <;> first | omega | (simp; done) | (simp; omega) | (simp [more_size]; done) | (simp [more_size]; omega)⟩)
    · refine (take14_ends _ _ _ _ _ _ _ _ _ _ _ _ _ _ _ _ _ hnm hi hi').mono ?_
      rintro r w1 ⟨rfl, hb⟩
      obtain ⟨x2, d2, rfl⟩ := more_of_below hb
      clear hb
      go_wp2_with fail
      refine (over16_one ⟨id, nm, 1, mk, mf, mn, ms, me, name, mt⟩ _ _ (by (repeat' (first | (with_reducible assumption) | (with_reducible refine hm_new ?_; (first | rfl | (simp; done) | (simp [more_size]; done) | (simp [more_size]; omega))) | (with_reducible refine block_alloc ?_) | (with_reducible refine hm_more ?_) | (with_reducible refine hm_drew ?_)))) hnm (by simp) (by simp)).mono ?_
      rintro r w1 ⟨rfl, hb⟩
      obtain ⟨x4, d4, rfl⟩ := more_of_below hb
      clear hb
      simp only [show ovB 1 = false from rfl]
      go_wp2_with fail
      (refine (wakes7 _).mono ?_; rintro r w9 ⟨rfl, hb9⟩; obtain ⟨x9, d9, rfl⟩ := more_of_below hb9; clear hb9; go_wp2; go_ret; exact ⟨rfl, by (repeat' (first | (with_reducible exact Below.refl _ _) | (with_reducible assumption) | (with_reducible refine Below.drew ?_) | (with_reducible refine Below.alloc ?_ ?_ _) | (with_reducible refine below_more ?_ ?_ _ _) | (with_reducible refine Below.setCell ?_ ?_ _) | (with_reducible refine Below.trans ?_ (Below.mono (by assumption) ?_)))) <;> first | omega | (simp; done) | (simp; omega) | (simp [more_size]; done) | (simp [more_size]; omega)⟩)
    · have hi0 : 0 ≤ i := by omega
      refine (take14_one_no _ _ _ _ _ _ _ _ _ _ _ _ _ _ _ _ _ hnm (by omega)).mono ?_
      rintro r w1 ⟨rfl, hb⟩
      obtain ⟨x2, d2, rfl⟩ := more_of_below hb
      clear hb
      go_wp2_with fail
      (refine (wakes7 _).mono ?_; rintro r w9 ⟨rfl, hb9⟩; obtain ⟨x9, d9, rfl⟩ := more_of_below hb9; clear hb9; go_wp2; go_ret; exact ⟨rfl, by (repeat' (first | (with_reducible exact Below.refl _ _) | (with_reducible assumption) | (with_reducible refine Below.drew ?_) | (with_reducible refine Below.alloc ?_ ?_ _) | (with_reducible refine below_more ?_ ?_ _ _) | (with_reducible refine Below.setCell ?_ ?_ _) | (with_reducible refine Below.trans ?_ (Below.mono (by assumption) ?_)))) <;> first | omega | (simp; done) | (simp; omega) | (simp [more_size]; done) | (simp [more_size]; omega)⟩)
set_option maxRecDepth 100000 in
set_option maxHeartbeats 1600000 in
theorem stays5_no (id nm a mk mf mn ms me : Int) (name mt : ByteArray) (i k f n s e : Int) (t : ByteArray) (w : World) (h1 : name.size ≤ 140737488351232) (h2 : mt.size ≤ 140737488351232) (h3 : t.size ≤ 140737488351232) (hl : -128 ≤ a) (hu : a ≤ 127) (ha : a < 0 ∨ 2 ≤ a) :
    Calls Try.prog 5 #[.agg #[.int .i64 id, .int .i64 nm, .string name, .int .i8 a, .int .i8 mk, .int .i64 mf, .int .i64 mn, .int .i64 ms, .string mt, .int .i64 me], .int .i64 i, .agg #[.int .i8 k, .int .i64 f, .int .i64 n, .int .i64 s, .string t, .int .i64 e]] w fun r w' => r = .returned (.bool true) ∧ Below w.heap.size w w' := by
  have HA := Lib.hid ha
  clear ha
  by_cases hi : i < 0
  all_goals
    go_enter Try.func5, Try.ntmps5
    go_wp2_with fail
    refine (great6 ⟨id, nm, a, mk, mf, mn, ms, me, name, mt⟩ _ _ _ _ _ _ _ h1 h2 h3).mono ?_
    rintro r w1 ⟨g, rfl, hg, hb⟩
    obtain ⟨x, d, rfl⟩ := more_of_below hb; clear hb
    cases g
    case true =>
      clear hg
      go_wp2_with fail
      (refine (wakes7 _).mono ?_; rintro r w9 ⟨rfl, hb9⟩; obtain ⟨x9, d9, rfl⟩ := more_of_below hb9; clear hb9; go_wp2; go_ret; exact ⟨rfl, by (repeat' (first | (with_reducible exact Below.refl _ _) | (with_reducible assumption) | (with_reducible refine Below.drew ?_) | (with_reducible refine Below.alloc ?_ ?_ _) | (with_reducible refine below_more ?_ ?_ _ _) | (with_reducible refine Below.setCell ?_ ?_ _) | (with_reducible refine Below.trans ?_ (Below.mono (by assumption) ?_)))) <;> first | omega | (simp; done) | (simp; omega) | (simp [more_size]; done) | (simp [more_size]; omega)⟩)
    case false =>
      obtain ⟨hs, hnm⟩ := hg rfl
      simp only at hs hnm
      clear hg
      go_wp2_with fail
      refine (offers12_no _ _ _ _ _ _ _ _ _ _ _ hnm hl hu HA.out).mono ?_
      rintro r w1 ⟨rfl, hb⟩
      obtain ⟨x1, d1, rfl⟩ := more_of_below hb
      clear hb
      go_wp2_with fail
      refine (take14_no _ _ _ _ _ _ _ _ _ _ _ _ _ _ _ _ _ _ hnm hl hu HA.out).mono ?_
      rintro r w1 ⟨rfl, hb⟩
      obtain ⟨x2, d2, rfl⟩ := more_of_below hb
      clear hb
      go_wp2_with fail
      (refine (wakes7 _).mono ?_; rintro r w9 ⟨rfl, hb9⟩; obtain ⟨x9, d9, rfl⟩ := more_of_below hb9; clear hb9; go_wp2; go_ret; exact ⟨rfl, by (repeat' (first | (with_reducible exact Below.refl _ _) | (with_reducible assumption) | (with_reducible refine Below.drew ?_) | (with_reducible refine Below.alloc ?_ ?_ _) | (with_reducible refine below_more ?_ ?_ _ _) | (with_reducible refine Below.setCell ?_ ?_ _) | (with_reducible refine Below.trans ?_ (Below.mono (by assumption) ?_)))) <;> first | omega | (simp; done) | (simp; omega) | (simp [more_size]; done) | (simp [more_size]; omega)⟩)
end Go.Proofs.Ythmeilgfdfkacaa
