
/- Walks of seat 17: the document's Take. -/
import Derived.Test.YthmeilgfdfkacaaW4
namespace Go.Proofs.Ythmeilgfdfkacaa
open Go.RowKit
attribute [local go_sem ↓] Go.wp_at_zero Go.wp_at_succ
attribute [local go_sem] more_size cell_more_old frozen_more_old setCell_more_old more_drew drew_more old_alloc old_more old_drew old_setCell cell_alloc_old frozen_alloc_old setCell_alloc_old

set_option maxHeartbeats 400000 in
theorem take15_told (id nm mk mf mn ms me : Int) (name mt : ByteArray) (k f n s e : Int) (t : ByteArray) (w : World) (hp : nm ≤ 1099511627776) :
    Calls Try.prog 15 #[.agg #[.int .i64 id, .int .i64 nm, .string name, .int .i8 0, .int .i8 mk, .int .i64 mf, .int .i64 mn, .int .i64 ms, .string mt, .int .i64 me], .int .i64 0, .agg #[.int .i8 k, .int .i64 f, .int .i64 n, .int .i64 s, .string t, .int .i64 e]] w fun r w' =>
      r = .returned (.tuple #[.agg #[.int .i64 id, .int .i64 nm, .string name, .int .i8 1, .int .i8 7, .int .i64 id, .int .i64 0, .int .i64 0, .string (toldText e t), .int .i64 e], .slice none 0 0]) ∧ Below w.heap.size w w' := by
  by_cases h : e = 0
  · subst h
    go_enter Try.func15, Try.ntmps15
    go_wp2_with fail
    refine (offers13_zero _ _ _ _ _ _ _ _ _ _ hp).mono ?_
    rintro r w1 ⟨b1, rfl, k1, g1, hb⟩
    clear k1 g1
    obtain ⟨x, d, rfl⟩ := more_of_below hb; clear hb
    go_wp2
    refine bodyPost_ret ?_ rfl ⟨rfl, ?_⟩
    · simp [results, Try.results15, go_sem, toldText]
    · (repeat' (first | (with_reducible exact Below.refl _ _) | (with_reducible assumption) | (with_reducible refine Below.drew ?_) | (with_reducible refine Below.alloc ?_ ?_ _) | (with_reducible refine below_more ?_ ?_ _ _) | (with_reducible refine Below.setCell ?_ ?_ _) | (with_reducible refine Below.trans ?_ (Below.mono (by assumption) ?_)))) <;> first | omega | (simp; done) | (simp; omega) | (simp [more_size]; done) | (simp [more_size]; omega)
  · have h' : (e == 0) = false := by simpa using h
    have ht : toldText e t = ⟨#[]⟩ := by simp [toldText, h]
    have HT := Lib.hid ht
    clear ht
    go_enter Try.func15, Try.ntmps15
    go_wp2_with fail
    refine (offers13_zero _ _ _ _ _ _ _ _ _ _ hp).mono ?_
    rintro r w1 ⟨b1, rfl, k1, g1, hb⟩
    clear k1 g1
    obtain ⟨x, d, rfl⟩ := more_of_below hb; clear hb
    go_wp2
    refine bodyPost_ret ?_ rfl ⟨rfl, ?_⟩
    · rw [HT.out]; simp [results, Try.results15, go_sem]
    · (repeat' (first | (with_reducible exact Below.refl _ _) | (with_reducible assumption) | (with_reducible refine Below.drew ?_) | (with_reducible refine Below.alloc ?_ ?_ _) | (with_reducible refine below_more ?_ ?_ _ _) | (with_reducible refine Below.setCell ?_ ?_ _) | (with_reducible refine Below.trans ?_ (Below.mono (by assumption) ?_)))) <;> first | omega | (simp; done) | (simp; omega) | (simp [more_size]; done) | (simp [more_size]; omega)
set_option maxHeartbeats 400000 in
theorem take15_ends (id nm mk mf mn ms me : Int) (name mt : ByteArray) (k f n s e : Int) (t : ByteArray) (i : Int) (w : World) (hp : nm ≤ 1099511627776) (hi : 0 ≤ i) (hi2 : i < 2) :
    Calls Try.prog 15 #[.agg #[.int .i64 id, .int .i64 nm, .string name, .int .i8 1, .int .i8 mk, .int .i64 mf, .int .i64 mn, .int .i64 ms, .string mt, .int .i64 me], .int .i64 i, .agg #[.int .i8 k, .int .i64 f, .int .i64 n, .int .i64 s, .string t, .int .i64 e]] w fun r w' =>
      r = .returned (.tuple #[.agg #[.int .i64 id, .int .i64 nm, .string name, .int .i8 2, .int .i8 mk, .int .i64 mf, .int .i64 mn, .int .i64 ms, .string mt, .int .i64 me], .slice none 0 0]) ∧ Below w.heap.size w w' := by
  go_enter Try.func15, Try.ntmps15
  go_wp2_with fail
  refine (offers13_one _ _ _ _ _ _ _ _ _ _ hp).mono ?_
  rintro r w1 ⟨b1, rfl, k1, g1, hb⟩
  clear k1 g1
  obtain ⟨x, d, rfl⟩ := more_of_below hb; clear hb
  go_wp2
  (refine bodyPost_ret ?_ rfl ⟨rfl, ?_⟩; (simp [results, Try.results15, go_sem]); (repeat' (first | (with_reducible exact Below.refl _ _) | (with_reducible assumption) | (with_reducible refine Below.drew ?_) | (with_reducible refine Below.alloc ?_ ?_ _) | (with_reducible refine below_more ?_ ?_ _ _) | (with_reducible refine Below.setCell ?_ ?_ _) | (with_reducible refine Below.trans ?_ (Below.mono (by assumption) ?_)))) <;> first | omega | (simp; done) | (simp; omega) | (simp [more_size]; done) | (simp [more_size]; omega))
set_option maxHeartbeats 400000 in
theorem take15_zero_no (id nm mk mf mn ms me : Int) (name mt : ByteArray) (k f n s e : Int) (t : ByteArray) (i : Int) (w : World) (hp : nm ≤ 1099511627776) (hi : i < 0 ∨ 1 ≤ i) :
    Calls Try.prog 15 #[.agg #[.int .i64 id, .int .i64 nm, .string name, .int .i8 0, .int .i8 mk, .int .i64 mf, .int .i64 mn, .int .i64 ms, .string mt, .int .i64 me], .int .i64 i, .agg #[.int .i8 k, .int .i64 f, .int .i64 n, .int .i64 s, .string t, .int .i64 e]] w fun r w' =>
      r = .returned (.tuple #[.agg #[.int .i64 id, .int .i64 nm, .string name, .int .i8 0, .int .i8 mk, .int .i64 mf, .int .i64 mn, .int .i64 ms, .string mt, .int .i64 me], .slice none 0 0]) ∧ Below w.heap.size w w' := by
  rcases hi with hi | hi
  · go_enter Try.func15, Try.ntmps15
    go_wp2
    (refine bodyPost_ret ?_ rfl ⟨rfl, ?_⟩; (simp [results, Try.results15, go_sem]); (repeat' (first | (with_reducible exact Below.refl _ _) | (with_reducible assumption) | (with_reducible refine Below.drew ?_) | (with_reducible refine Below.alloc ?_ ?_ _) | (with_reducible refine below_more ?_ ?_ _ _) | (with_reducible refine Below.setCell ?_ ?_ _) | (with_reducible refine Below.trans ?_ (Below.mono (by assumption) ?_)))) <;> first | omega | (simp; done) | (simp; omega) | (simp [more_size]; done) | (simp [more_size]; omega))
  · have hi0 : 0 ≤ i := by omega
    go_enter Try.func15, Try.ntmps15
    go_wp2_with fail
    refine (offers13_zero _ _ _ _ _ _ _ _ _ _ hp).mono ?_
    rintro r w1 ⟨b1, rfl, k1, g1, hb⟩
    clear k1 g1
    obtain ⟨x, d, rfl⟩ := more_of_below hb; clear hb
    go_wp2
    (refine bodyPost_ret ?_ rfl ⟨rfl, ?_⟩; (simp [results, Try.results15, go_sem]); (repeat' (first | (with_reducible exact Below.refl _ _) | (with_reducible assumption) | (with_reducible refine Below.drew ?_) | (with_reducible refine Below.alloc ?_ ?_ _) | (with_reducible refine below_more ?_ ?_ _ _) | (with_reducible refine Below.setCell ?_ ?_ _) | (with_reducible refine Below.trans ?_ (Below.mono (by assumption) ?_)))) <;> first | omega | (simp; done) | (simp; omega) | (simp [more_size]; done) | (simp [more_size]; omega))
set_option maxHeartbeats 400000 in
theorem take15_one_no (id nm mk mf mn ms me : Int) (name mt : ByteArray) (k f n s e : Int) (t : ByteArray) (i : Int) (w : World) (hp : nm ≤ 1099511627776) (hi : i < 0 ∨ 2 ≤ i) :
    Calls Try.prog 15 #[.agg #[.int .i64 id, .int .i64 nm, .string name, .int .i8 1, .int .i8 mk, .int .i64 mf, .int .i64 mn, .int .i64 ms, .string mt, .int .i64 me], .int .i64 i, .agg #[.int .i8 k, .int .i64 f, .int .i64 n, .int .i64 s, .string t, .int .i64 e]] w fun r w' =>
      r = .returned (.tuple #[.agg #[.int .i64 id, .int .i64 nm, .string name, .int .i8 1, .int .i8 mk, .int .i64 mf, .int .i64 mn, .int .i64 ms, .string mt, .int .i64 me], .slice none 0 0]) ∧ Below w.heap.size w w' := by
  rcases hi with hi | hi
  · go_enter Try.func15, Try.ntmps15
    go_wp2
    (refine bodyPost_ret ?_ rfl ⟨rfl, ?_⟩; (simp [results, Try.results15, go_sem]); (repeat' (first | (with_reducible exact Below.refl _ _) | (with_reducible assumption) | (with_reducible refine Below.drew ?_) | (with_reducible refine Below.alloc ?_ ?_ _) | (with_reducible refine below_more ?_ ?_ _ _) | (with_reducible refine Below.setCell ?_ ?_ _) | (with_reducible refine Below.trans ?_ (Below.mono (by assumption) ?_)))) <;> first | omega | (simp; done) | (simp; omega) | (simp [more_size]; done) | (simp [more_size]; omega))
  · have hi0 : 0 ≤ i := by omega
    go_enter Try.func15, Try.ntmps15
    go_wp2_with fail
    refine (offers13_one _ _ _ _ _ _ _ _ _ _ hp).mono ?_
    rintro r w1 ⟨b1, rfl, k1, g1, hb⟩
    clear k1 g1
    obtain ⟨x, d, rfl⟩ := more_of_below hb; clear hb
    go_wp2
    (refine bodyPost_ret ?_ rfl ⟨rfl, ?_⟩; (simp [results, Try.results15, go_sem]); (repeat' (first | (with_reducible exact Below.refl _ _) | (with_reducible assumption) | (with_reducible refine Below.drew ?_) | (with_reducible refine Below.alloc ?_ ?_ _) | (with_reducible refine below_more ?_ ?_ _ _) | (with_reducible refine Below.setCell ?_ ?_ _) | (with_reducible refine Below.trans ?_ (Below.mono (by assumption) ?_)))) <;> first | omega | (simp; done) | (simp; omega) | (simp [more_size]; done) | (simp [more_size]; omega))
set_option maxHeartbeats 400000 in
theorem take15_no (id nm a mk mf mn ms me : Int) (name mt : ByteArray) (k f n s e : Int) (t : ByteArray) (i : Int) (w : World) (hp : nm ≤ 1099511627776) (ha : a < 0 ∨ 2 ≤ a) :
    Calls Try.prog 15 #[.agg #[.int .i64 id, .int .i64 nm, .string name, .int .i8 a, .int .i8 mk, .int .i64 mf, .int .i64 mn, .int .i64 ms, .string mt, .int .i64 me], .int .i64 i, .agg #[.int .i8 k, .int .i64 f, .int .i64 n, .int .i64 s, .string t, .int .i64 e]] w fun r w' =>
      r = .returned (.tuple #[.agg #[.int .i64 id, .int .i64 nm, .string name, .int .i8 a, .int .i8 mk, .int .i64 mf, .int .i64 mn, .int .i64 ms, .string mt, .int .i64 me], .slice none 0 0]) ∧ Below w.heap.size w w' := by
  by_cases hi : i < 0
  · clear ha
    go_enter Try.func15, Try.ntmps15
    go_wp2
    (refine bodyPost_ret ?_ rfl ⟨rfl, ?_⟩; (simp [results, Try.results15, go_sem]); (repeat' (first | (with_reducible exact Below.refl _ _) | (with_reducible assumption) | (with_reducible refine Below.drew ?_) | (with_reducible refine Below.alloc ?_ ?_ _) | (with_reducible refine below_more ?_ ?_ _ _) | (with_reducible refine Below.setCell ?_ ?_ _) | (with_reducible refine Below.trans ?_ (Below.mono (by assumption) ?_)))) <;> first | omega | (simp; done) | (simp; omega) | (simp [more_size]; done) | (simp [more_size]; omega))
  · have hi0 : 0 ≤ i := by omega
    go_enter Try.func15, Try.ntmps15
    go_wp2_with fail
    refine (offers13_no _ _ _ _ _ _ _ _ _ _ _ ha).mono ?_
    clear ha
    rintro r w1 ⟨rfl, hb⟩
    obtain ⟨x, d, rfl⟩ := more_of_below hb; clear hb
    go_wp2
    (refine bodyPost_ret ?_ rfl ⟨rfl, ?_⟩; (simp [results, Try.results15, go_sem]); (repeat' (first | (with_reducible exact Below.refl _ _) | (with_reducible assumption) | (with_reducible refine Below.drew ?_) | (with_reducible refine Below.alloc ?_ ?_ _) | (with_reducible refine below_more ?_ ?_ _ _) | (with_reducible refine Below.setCell ?_ ?_ _) | (with_reducible refine Below.trans ?_ (Below.mono (by assumption) ?_)))) <;> first | omega | (simp; done) | (simp; omega) | (simp [more_size]; done) | (simp [more_size]; omega))
end Go.Proofs.Ythmeilgfdfkacaa
