
/- Walks of seat 17: Take. -/
import Derived.Test.YthmeilgfdfkacaaW3
namespace Go.Proofs.Ythmeilgfdfkacaa
open Go.RowKit
attribute [local go_sem ↓] Go.wp_at_zero Go.wp_at_succ
attribute [local go_sem] more_size cell_more_old frozen_more_old setCell_more_old more_drew drew_more old_alloc old_more old_drew old_setCell cell_alloc_old frozen_alloc_old setCell_alloc_old

set_option maxHeartbeats 400000 in
theorem take14_told (id nm mk mf mn ms me : Int) (name mt : ByteArray) (k f n s e : Int) (t : ByteArray) (w : World) (hp : nm ≤ 1099511627776) :
    Calls Try.prog 14 #[.agg #[.int .i64 id, .int .i64 nm, .string name, .int .i8 0, .int .i8 mk, .int .i64 mf, .int .i64 mn, .int .i64 ms, .string mt, .int .i64 me], .int .i64 0, .agg #[.int .i8 k, .int .i64 f, .int .i64 n, .int .i64 s, .string t, .int .i64 e]] w fun r w' =>
      r = .returned (.tuple #[.agg #[.int .i64 id, .int .i64 nm, .string name, .int .i8 1, .int .i8 7, .int .i64 id, .int .i64 0, .int .i64 0, .string (toldText e t), .int .i64 e], .slice none 0 0]) ∧ Below w.heap.size w w' := by
  go_enter Try.func14, Try.ntmps14
  go_wp2_with fail
  refine (at20_zero _ _ _ _ _ _ _ _ _ _ hp).mono ?_
  rintro r w1 ⟨b1, rfl, k1, g1, hb⟩
  obtain ⟨hc, hf, hz⟩ := below_facts hb
  simp only [size_alloc] at hc hf hz
  have hz0 : w.heap.size < w1.heap.size := by omega
  have hz1 : w.heap.size + 1 < w1.heap.size := by omega
  have hz2 : w.heap.size + 1 + 1 < w1.heap.size := by omega
  clear k1 g1
  go_wp2_with fail
  refine (told24 _ _ _ _ _ _ _ _ _ _ _ _ _ _ _ _ _).mono ?_
  rintro r w2 ⟨rfl, hb2⟩
  obtain ⟨hc2, hf2, hy⟩ := below_facts hb2
  simp only [size_alloc] at hc2 hf2 hy
  have hy0 : w.heap.size < w2.heap.size := by omega
  have hy1 : w.heap.size + 1 < w2.heap.size := by omega
  have hy2 : w.heap.size + 1 + 1 < w2.heap.size := by omega
  have kr : w2.heap[w.heap.size + 1 + 1]? = some (.cells #[.int .i64 0, .int .i64 0, .string ⟨#[]⟩, .int .i8 0, .int .i8 0, .int .i64 0, .int .i64 0, .int .i64 0, .string ⟨#[]⟩, .int .i64 0] 27 (0, 0)) :=
    block_keep' hb2 (block_alloc (block_keep' hb (by simp only [heap_alloc_if, size_alloc]; simp)))
  have KR := Lib.hid kr
  clear kr
  go_wp2
  refine ret_cell (w.heap.size + 1 + 1) _ 27 (store10 KR.out) (fun w' h => by simp [results, Try.results14, go_sem, h]) rfl ⟨rfl, ?_⟩
  · (repeat' (first | (with_reducible exact Below.refl _ _) | (with_reducible assumption) | (with_reducible refine Below.drew ?_) | (with_reducible refine Below.alloc ?_ ?_ _) | (with_reducible refine below_more ?_ ?_ _ _) | (with_reducible refine Below.setCell ?_ ?_ _) | (with_reducible refine Below.trans ?_ (Below.mono (by assumption) ?_)))) <;> first | omega | (simp; done) | (simp; omega) | (simp [more_size]; done) | (simp [more_size]; omega)
set_option maxHeartbeats 400000 in
theorem take14_ends (id nm mk mf mn ms me : Int) (name mt : ByteArray) (k f n s e : Int) (t : ByteArray) (i : Int) (w : World) (hp : nm ≤ 1099511627776) (hi : 0 ≤ i) (hi2 : i < 2) :
    Calls Try.prog 14 #[.agg #[.int .i64 id, .int .i64 nm, .string name, .int .i8 1, .int .i8 mk, .int .i64 mf, .int .i64 mn, .int .i64 ms, .string mt, .int .i64 me], .int .i64 i, .agg #[.int .i8 k, .int .i64 f, .int .i64 n, .int .i64 s, .string t, .int .i64 e]] w fun r w' =>
      r = .returned (.tuple #[.agg #[.int .i64 id, .int .i64 nm, .string name, .int .i8 2, .int .i8 mk, .int .i64 mf, .int .i64 mn, .int .i64 ms, .string mt, .int .i64 me], .slice none 0 0]) ∧ Below w.heap.size w w' := by
  go_enter Try.func14, Try.ntmps14
  go_wp2_with fail
  refine (at20_one _ _ _ _ _ _ _ _ _ _ hp).mono ?_
  rintro r w1 ⟨b1, rfl, k1, g1, hb⟩
  obtain ⟨hc, hf, hz⟩ := below_facts hb
  simp only [size_alloc] at hc hf hz
  have hz0 : w.heap.size < w1.heap.size := by omega
  have hz1 : w.heap.size + 1 < w1.heap.size := by omega
  have hz2 : w.heap.size + 1 + 1 < w1.heap.size := by omega
  clear k1 g1
  go_wp2_with fail
  refine (ends25 _ _ _ _ _ _ _ _ _ _ _ _ _ _ _ _ _).mono ?_
  rintro r w2 ⟨rfl, hb2⟩
  obtain ⟨hc2, hf2, hy⟩ := below_facts hb2
  simp only [size_alloc] at hc2 hf2 hy
  have hy0 : w.heap.size < w2.heap.size := by omega
  have hy1 : w.heap.size + 1 < w2.heap.size := by omega
  have hy2 : w.heap.size + 1 + 1 < w2.heap.size := by omega
  have kr : w2.heap[w.heap.size + 1 + 1]? = some (.cells #[.int .i64 0, .int .i64 0, .string ⟨#[]⟩, .int .i8 0, .int .i8 0, .int .i64 0, .int .i64 0, .int .i64 0, .string ⟨#[]⟩, .int .i64 0] 27 (0, 0)) :=
    block_keep' hb2 (block_alloc (block_keep' hb (by simp only [heap_alloc_if, size_alloc]; simp)))
  have KR := Lib.hid kr
  clear kr
  go_wp2
  refine ret_cell (w.heap.size + 1 + 1) _ 27 (store10 KR.out) (fun w' h => by simp [results, Try.results14, go_sem, h]) rfl ⟨rfl, ?_⟩
  · (repeat' (first | (with_reducible exact Below.refl _ _) | (with_reducible assumption) | (with_reducible refine Below.drew ?_) | (with_reducible refine Below.alloc ?_ ?_ _) | (with_reducible refine below_more ?_ ?_ _ _) | (with_reducible refine Below.setCell ?_ ?_ _) | (with_reducible refine Below.trans ?_ (Below.mono (by assumption) ?_)))) <;> first | omega | (simp; done) | (simp; omega) | (simp [more_size]; done) | (simp [more_size]; omega)
set_option maxHeartbeats 400000 in
theorem take14_zero_no (id nm mk mf mn ms me : Int) (name mt : ByteArray) (k f n s e : Int) (t : ByteArray) (i : Int) (w : World) (hp : nm ≤ 1099511627776) (hi : i < 0 ∨ 1 ≤ i) :
    Calls Try.prog 14 #[.agg #[.int .i64 id, .int .i64 nm, .string name, .int .i8 0, .int .i8 mk, .int .i64 mf, .int .i64 mn, .int .i64 ms, .string mt, .int .i64 me], .int .i64 i, .agg #[.int .i8 k, .int .i64 f, .int .i64 n, .int .i64 s, .string t, .int .i64 e]] w fun r w' =>
      r = .returned (.tuple #[.agg #[.int .i64 id, .int .i64 nm, .string name, .int .i8 0, .int .i8 mk, .int .i64 mf, .int .i64 mn, .int .i64 ms, .string mt, .int .i64 me], .slice none 0 0]) ∧ Below w.heap.size w w' := by
  rcases hi with hi | hi
  all_goals
    go_enter Try.func14, Try.ntmps14
    go_wp2_with fail
    refine (at20_zero _ _ _ _ _ _ _ _ _ _ hp).mono ?_
    rintro r w1 ⟨b1, rfl, k1, g1, hb⟩
    obtain ⟨hc, hf, hz⟩ := below_facts hb
    simp only [size_alloc] at hc hf hz
    have hz0 : w.heap.size < w1.heap.size := by omega
    have hz1 : w.heap.size + 1 < w1.heap.size := by omega
    have hz2 : w.heap.size + 1 + 1 < w1.heap.size := by omega
    clear k1 g1
    have kr : w1.heap[w.heap.size + 1 + 1]? = some (.cells #[.int .i64 0, .int .i64 0, .string ⟨#[]⟩, .int .i8 0, .int .i8 0, .int .i64 0, .int .i64 0, .int .i64 0, .string ⟨#[]⟩, .int .i64 0] 27 (0, 0)) :=
      block_keep' hb (by simp only [heap_alloc_if, size_alloc]; simp)
    have KR := Lib.hid kr
    clear kr
    go_wp2
    refine ret_cell (w.heap.size + 1 + 1) _ 27 (block_alloc (store10 KR.out)) (fun w' h => by simp [results, Try.results14, go_sem, h]) rfl ⟨rfl, ?_⟩
    · (repeat' (first | (with_reducible exact Below.refl _ _) | (with_reducible assumption) | (with_reducible refine Below.drew ?_) | (with_reducible refine Below.alloc ?_ ?_ _) | (with_reducible refine below_more ?_ ?_ _ _) | (with_reducible refine Below.setCell ?_ ?_ _) | (with_reducible refine Below.trans ?_ (Below.mono (by assumption) ?_)))) <;> first | omega | (simp; done) | (simp; omega) | (simp [more_size]; done) | (simp [more_size]; omega)
set_option maxHeartbeats 400000 in
theorem take14_one_no (id nm mk mf mn ms me : Int) (name mt : ByteArray) (k f n s e : Int) (t : ByteArray) (i : Int) (w : World) (hp : nm ≤ 1099511627776) (hi : i < 0 ∨ 2 ≤ i) :
    Calls Try.prog 14 #[.agg #[.int .i64 id, .int .i64 nm, .string name, .int .i8 1, .int .i8 mk, .int .i64 mf, .int .i64 mn, .int .i64 ms, .string mt, .int .i64 me], .int .i64 i, .agg #[.int .i8 k, .int .i64 f, .int .i64 n, .int .i64 s, .string t, .int .i64 e]] w fun r w' =>
      r = .returned (.tuple #[.agg #[.int .i64 id, .int .i64 nm, .string name, .int .i8 1, .int .i8 mk, .int .i64 mf, .int .i64 mn, .int .i64 ms, .string mt, .int .i64 me], .slice none 0 0]) ∧ Below w.heap.size w w' := by
  rcases hi with hi | hi
  all_goals
    go_enter Try.func14, Try.ntmps14
    go_wp2_with fail
    refine (at20_one _ _ _ _ _ _ _ _ _ _ hp).mono ?_
    rintro r w1 ⟨b1, rfl, k1, g1, hb⟩
    obtain ⟨hc, hf, hz⟩ := below_facts hb
    simp only [size_alloc] at hc hf hz
    have hz0 : w.heap.size < w1.heap.size := by omega
    have hz1 : w.heap.size + 1 < w1.heap.size := by omega
    have hz2 : w.heap.size + 1 + 1 < w1.heap.size := by omega
    clear k1 g1
    have kr : w1.heap[w.heap.size + 1 + 1]? = some (.cells #[.int .i64 0, .int .i64 0, .string ⟨#[]⟩, .int .i8 0, .int .i8 0, .int .i64 0, .int .i64 0, .int .i64 0, .string ⟨#[]⟩, .int .i64 0] 27 (0, 0)) :=
      block_keep' hb (by simp only [heap_alloc_if, size_alloc]; simp)
    have KR := Lib.hid kr
    clear kr
    go_wp2
    refine ret_cell (w.heap.size + 1 + 1) _ 27 (block_alloc (store10 KR.out)) (fun w' h => by simp [results, Try.results14, go_sem, h]) rfl ⟨rfl, ?_⟩
    · (repeat' (first | (with_reducible exact Below.refl _ _) | (with_reducible assumption) | (with_reducible refine Below.drew ?_) | (with_reducible refine Below.alloc ?_ ?_ _) | (with_reducible refine below_more ?_ ?_ _ _) | (with_reducible refine Below.setCell ?_ ?_ _) | (with_reducible refine Below.trans ?_ (Below.mono (by assumption) ?_)))) <;> first | omega | (simp; done) | (simp; omega) | (simp [more_size]; done) | (simp [more_size]; omega)
set_option maxHeartbeats 400000 in
theorem take14_no (id nm a mk mf mn ms me : Int) (name mt : ByteArray) (k f n s e : Int) (t : ByteArray) (i : Int) (w : World) (hp : nm ≤ 1099511627776) (hl : -128 ≤ a) (hu : a ≤ 127) (ha : a < 0 ∨ 2 ≤ a) :
    Calls Try.prog 14 #[.agg #[.int .i64 id, .int .i64 nm, .string name, .int .i8 a, .int .i8 mk, .int .i64 mf, .int .i64 mn, .int .i64 ms, .string mt, .int .i64 me], .int .i64 i, .agg #[.int .i8 k, .int .i64 f, .int .i64 n, .int .i64 s, .string t, .int .i64 e]] w fun r w' =>
      r = .returned (.tuple #[.agg #[.int .i64 id, .int .i64 nm, .string name, .int .i8 a, .int .i8 mk, .int .i64 mf, .int .i64 mn, .int .i64 ms, .string mt, .int .i64 me], .slice none 0 0]) ∧ Below w.heap.size w w' := by
  go_enter Try.func14, Try.ntmps14
  go_wp2_with fail
  refine (at20_no _ _ _ _ _ _ _ _ _ _ _ hp hl hu ha).mono ?_
  rintro r w1 ⟨rfl, hb⟩
  obtain ⟨hc, hf, hz⟩ := below_facts hb
  simp only [size_alloc] at hc hf hz
  have hz0 : w.heap.size < w1.heap.size := by omega
  have hz1 : w.heap.size + 1 < w1.heap.size := by omega
  have hz2 : w.heap.size + 1 + 1 < w1.heap.size := by omega
  clear ha
  have kr : w1.heap[w.heap.size + 1 + 1]? = some (.cells #[.int .i64 0, .int .i64 0, .string ⟨#[]⟩, .int .i8 0, .int .i8 0, .int .i64 0, .int .i64 0, .int .i64 0, .string ⟨#[]⟩, .int .i64 0] 27 (0, 0)) :=
    block_keep' hb (by simp only [heap_alloc_if, size_alloc]; simp)
  have KR := Lib.hid kr
  clear kr
  go_wp2
  refine ret_cell (w.heap.size + 1 + 1) _ 27 (block_alloc (store10 KR.out)) (fun w' h => by simp [results, Try.results14, go_sem, h]) rfl ⟨rfl, ?_⟩
  · (repeat' (first | (with_reducible exact Below.refl _ _) | (with_reducible assumption) | (with_reducible refine Below.drew ?_) | (with_reducible refine Below.alloc ?_ ?_ _) | (with_reducible refine below_more ?_ ?_ _ _) | (with_reducible refine Below.setCell ?_ ?_ _) | (with_reducible refine Below.trans ?_ (Below.mono (by assumption) ?_)))) <;> first | omega | (simp; done) | (simp; omega) | (simp [more_size]; done) | (simp [more_size]; omega)
end Go.Proofs.Ythmeilgfdfkacaa
