
/- Walks of seat 17: Begin, Offers. -/
import Derived.Test.YthmeilgfdfkacaaW2
import Derived.StillTailTactics
namespace Go.Proofs.Ythmeilgfdfkacaa
open Go.RowKit
attribute [local go_sem ↓] Go.wp_at_zero Go.wp_at_succ
attribute [local go_sem] more_size cell_more_old frozen_more_old setCell_more_old more_drew drew_more old_alloc old_more old_drew old_setCell cell_alloc_old frozen_alloc_old setCell_alloc_old

theorem of18' (p k : Int) (w : World) (hp : p ≤ 1099511627776) (h0 : 0 ≤ k) (h4 : k ≤ 4):
    Calls Try.prog 18 #[.int .i64 p, .int .i64 k] w fun e w' => e = .returned (.int .i64 (ofV p k)) ∧ w' = w :=
  (of18 p k w hp h0 h4).mono fun _ _ h => ⟨h.1, h.2.symm⟩
set_option maxHeartbeats 400000 in
theorem begin8 (id nm : Int) (name : ByteArray) (w : World) :
    Calls Try.prog 8 #[.int .i64 id, .int .i64 nm, .string name] w fun r w' =>
      ∃ b, r = .returned (.tuple #[.agg #[.int .i64 id, .int .i64 nm, .string name, .int .i8 0, .int .i8 0, .int .i64 0, .int .i64 0, .int .i64 0, .string ⟨#[]⟩, .int .i64 0], .slice (some ⟨b, 0, none⟩) 1 1]) ∧
        w'.heap[b]? = some (.cells #[.int .i8 7, .int .i64 id, .int .i8 0, .int .i64 0, .int .i64 0, .int .i64 0, .string name, .int .i64 0, .int .i8 0, .int .u16 0, .int .u16 0, .int .u16 0, .int .u16 0, .int .u16 0, .int .u16 0, .int .u16 0, .int .u16 0, .int .i64 0, .pointer none] 51) ∧ w.heap.size ≤ b ∧ Below w.heap.size w w' := by
  go_enter Try.func8, Try.ntmps8
  go_wp2
  refine bodyPost_ret ?_ rfl ⟨w.heap.size + 1, rfl, ?_, by omega, ?_⟩
  · simp [results, Try.results8, go_sem]
  · simp only [heap_alloc_if, heap_drew, size_alloc]; simp
  · (repeat' (first | (with_reducible exact Below.refl _ _) | (with_reducible assumption) | (with_reducible refine Below.drew ?_) | (with_reducible refine Below.alloc ?_ ?_ _) | (with_reducible refine below_more ?_ ?_ _ _) | (with_reducible refine Below.setCell ?_ ?_ _) | (with_reducible refine Below.trans ?_ (Below.mono (by assumption) ?_)))) <;> first | omega | (simp; done) | (simp; omega) | (simp [more_size]; done) | (simp [more_size]; omega)
set_option maxHeartbeats 400000 in
theorem begin9 (id nm : Int) (name : ByteArray) (w : World) :
    Calls Try.prog 9 #[.int .i64 id, .int .i64 nm, .string name] w fun r w' =>
      ∃ b, r = .returned (.tuple #[.agg #[.int .i64 id, .int .i64 nm, .string name, .int .i8 0, .int .i8 0, .int .i64 0, .int .i64 0, .int .i64 0, .string ⟨#[]⟩, .int .i64 0], .slice (some ⟨b, 0, none⟩) 1 1]) ∧
        w'.heap[b]? = some (.cells #[.int .i8 7, .int .i64 id, .int .i8 0, .int .i64 0, .int .i64 0, .int .i64 0, .string name, .int .i64 0, .int .i8 0, .int .u16 0, .int .u16 0, .int .u16 0, .int .u16 0, .int .u16 0, .int .u16 0, .int .u16 0, .int .u16 0, .int .i64 0, .pointer none] 51) ∧ w.heap.size ≤ b ∧ Below w.heap.size w w' := by
  go_enter Try.func9, Try.ntmps9
  go_wp2
  refine bodyPost_ret ?_ rfl ⟨w.heap.size + 1, rfl, ?_, by omega, ?_⟩
  · simp [results, Try.results9, go_sem]
  · simp only [heap_alloc_if, heap_drew, size_alloc]; simp
  · (repeat' (first | (with_reducible exact Below.refl _ _) | (with_reducible assumption) | (with_reducible refine Below.drew ?_) | (with_reducible refine Below.alloc ?_ ?_ _) | (with_reducible refine below_more ?_ ?_ _ _) | (with_reducible refine Below.setCell ?_ ?_ _) | (with_reducible refine Below.trans ?_ (Below.mono (by assumption) ?_)))) <;> first | omega | (simp; done) | (simp; omega) | (simp [more_size]; done) | (simp [more_size]; omega)
set_option maxHeartbeats 400000 in
theorem offers12_zero (id nm mk mf mn ms me : Int) (name mt : ByteArray) (w : World) (hp : nm ≤ 1099511627776) :
    Calls Try.prog 12 #[.agg #[.int .i64 id, .int .i64 nm, .string name, .int .i8 0, .int .i8 mk, .int .i64 mf, .int .i64 mn, .int .i64 ms, .string mt, .int .i64 me]] w fun r w' =>
      ∃ b, r = .returned (.slice (some ⟨b, 0, none⟩) 1 1) ∧ w'.heap[b]? = some (.cells #[.int .i8 4, .int .i64 0, .int .i8 0, .int .i64 0, .int .i64 0, .int .i64 0, .string ⟨#[]⟩, .int .i64 0, .int .i64 0] 41) ∧ w.heap.size ≤ b ∧ Below w.heap.size w w' := by
  go_enter Try.func12, Try.ntmps12
  go_wp2_with fail
  refine (at20_zero _ _ _ _ _ _ _ _ _ _ hp).mono ?_
  rintro e w1 ⟨b1, rfl, k1, g1, hb⟩
  obtain ⟨hc, hf, hz⟩ := below_facts hb
  simp only [size_alloc] at hc hf hz g1
  have K := Lib.hid k1
  clear k1
  go_wp2
  go_ret
  exact ⟨b1, rfl, block_alloc K.out, by omega, by (repeat' (first | (with_reducible exact Below.refl _ _) | (with_reducible assumption) | (with_reducible refine Below.drew ?_) | (with_reducible refine Below.alloc ?_ ?_ _) | (with_reducible refine below_more ?_ ?_ _ _) | (with_reducible refine Below.setCell ?_ ?_ _) | (with_reducible refine Below.trans ?_ (Below.mono (by assumption) ?_)))) <;> first | omega | (simp; done) | (simp; omega) | (simp [more_size]; done) | (simp [more_size]; omega)⟩
set_option maxHeartbeats 400000 in
theorem offers12_one (id nm mk mf mn ms me : Int) (name mt : ByteArray) (w : World) (hp : nm ≤ 1099511627776) :
    Calls Try.prog 12 #[.agg #[.int .i64 id, .int .i64 nm, .string name, .int .i8 1, .int .i8 mk, .int .i64 mf, .int .i64 mn, .int .i64 ms, .string mt, .int .i64 me]] w fun r w' =>
      ∃ b, r = .returned (.slice (some ⟨b, 0, none⟩) 2 2) ∧ w'.heap[b]? = some (.cells #[.int .i8 0, .int .i64 (ofV nm 0), .int .i8 mk, .int .i64 mf, .int .i64 mn, .int .i64 ms, .string mt, .int .i64 me, .int .i64 0, .int .i8 1, .int .i64 (ofV nm 1), .int .i8 0, .int .i64 0, .int .i64 0, .int .i64 0, .string ⟨#[]⟩, .int .i64 0, .int .i64 0] 41) ∧ w.heap.size ≤ b ∧ Below w.heap.size w w' := by
  go_enter Try.func12, Try.ntmps12
  go_wp2_with fail
  refine (at20_one _ _ _ _ _ _ _ _ _ _ hp).mono ?_
  rintro e w1 ⟨b1, rfl, k1, g1, hb⟩
  obtain ⟨hc, hf, hz⟩ := below_facts hb
  simp only [size_alloc] at hc hf hz g1
  have K := Lib.hid k1
  clear k1
  go_wp2
  go_ret
  exact ⟨b1, rfl, block_alloc K.out, by omega, by (repeat' (first | (with_reducible exact Below.refl _ _) | (with_reducible assumption) | (with_reducible refine Below.drew ?_) | (with_reducible refine Below.alloc ?_ ?_ _) | (with_reducible refine below_more ?_ ?_ _ _) | (with_reducible refine Below.setCell ?_ ?_ _) | (with_reducible refine Below.trans ?_ (Below.mono (by assumption) ?_)))) <;> first | omega | (simp; done) | (simp; omega) | (simp [more_size]; done) | (simp [more_size]; omega)⟩
set_option maxHeartbeats 400000 in
theorem offers12_no (id nm a mk mf mn ms me : Int) (name mt : ByteArray) (w : World) (hp : nm ≤ 1099511627776) (hl : -128 ≤ a) (hu : a ≤ 127) (ha : a < 0 ∨ 2 ≤ a) :
    Calls Try.prog 12 #[.agg #[.int .i64 id, .int .i64 nm, .string name, .int .i8 a, .int .i8 mk, .int .i64 mf, .int .i64 mn, .int .i64 ms, .string mt, .int .i64 me]] w fun r w' => r = .returned (.slice none 0 0) ∧ Below w.heap.size w w' := by
  go_enter Try.func12, Try.ntmps12
  go_wp2_with fail
  refine (at20_no _ _ _ _ _ _ _ _ _ _ _ hp hl hu ha).mono ?_
  rintro e w1 ⟨rfl, hb⟩
  obtain ⟨hc, hf, hz⟩ := below_facts hb
  simp only [size_alloc] at hc hf hz
  clear ha
  go_wp2
  go_ret
  exact ⟨rfl, by (repeat' (first | (with_reducible exact Below.refl _ _) | (with_reducible assumption) | (with_reducible refine Below.drew ?_) | (with_reducible refine Below.alloc ?_ ?_ _) | (with_reducible refine below_more ?_ ?_ _ _) | (with_reducible refine Below.setCell ?_ ?_ _) | (with_reducible refine Below.trans ?_ (Below.mono (by assumption) ?_)))) <;> first | omega | (simp; done) | (simp; omega) | (simp [more_size]; done) | (simp [more_size]; omega)⟩
set_option maxHeartbeats 400000 in
theorem offers13_zero (id nm mk mf mn ms me : Int) (name mt : ByteArray) (w : World) (hp : nm ≤ 1099511627776) :
    Calls Try.prog 13 #[.agg #[.int .i64 id, .int .i64 nm, .string name, .int .i8 0, .int .i8 mk, .int .i64 mf, .int .i64 mn, .int .i64 ms, .string mt, .int .i64 me]] w fun r w' =>
      ∃ b, r = .returned (.slice (some ⟨b, 0, none⟩) 1 1) ∧ w'.heap[b]? = some (.cells #[.int .i8 4, .int .i64 0, .int .i8 0, .int .i64 0, .int .i64 0, .int .i64 0, .string ⟨#[]⟩, .int .i64 0, .int .i64 0] 41) ∧ w.heap.size ≤ b ∧ Below w.heap.size w w' := by
  go_enter Try.func13, Try.ntmps13
  go_wp2
  go_ret
  exact ⟨w.heap.size + 1, rfl, by simp only [heap_alloc_if, heap_drew, size_alloc]; simp, by omega, by (repeat' (first | (with_reducible exact Below.refl _ _) | (with_reducible assumption) | (with_reducible refine Below.drew ?_) | (with_reducible refine Below.alloc ?_ ?_ _) | (with_reducible refine below_more ?_ ?_ _ _) | (with_reducible refine Below.setCell ?_ ?_ _) | (with_reducible refine Below.trans ?_ (Below.mono (by assumption) ?_)))) <;> first | omega | (simp; done) | (simp; omega) | (simp [more_size]; done) | (simp [more_size]; omega)⟩
set_option maxHeartbeats 400000 in
theorem offers13_one (id nm mk mf mn ms me : Int) (name mt : ByteArray) (w : World) (hp : nm ≤ 1099511627776) :
    Calls Try.prog 13 #[.agg #[.int .i64 id, .int .i64 nm, .string name, .int .i8 1, .int .i8 mk, .int .i64 mf, .int .i64 mn, .int .i64 ms, .string mt, .int .i64 me]] w fun r w' =>
      ∃ b, r = .returned (.slice (some ⟨b, 0, none⟩) 2 2) ∧ w'.heap[b]? = some (.cells #[.int .i8 0, .int .i64 (ofV nm 0), .int .i8 mk, .int .i64 mf, .int .i64 mn, .int .i64 ms, .string mt, .int .i64 me, .int .i64 0, .int .i8 1, .int .i64 (ofV nm 1), .int .i8 0, .int .i64 0, .int .i64 0, .int .i64 0, .string ⟨#[]⟩, .int .i64 0, .int .i64 0] 41) ∧ w.heap.size ≤ b ∧ Below w.heap.size w w' := by
  go_enter Try.func13, Try.ntmps13
  go_wp2
  go_region_held3 (fun w' => w'.cell? ⟨w.heap.size, 1, none⟩ = some (.int .i64 nm) ∧ w'.cell? ⟨w.heap.size, 4, none⟩ = some (.int .i8 mk) ∧ w'.cell? ⟨w.heap.size, 5, none⟩ = some (.int .i64 mf) ∧ w'.cell? ⟨w.heap.size, 6, none⟩ = some (.int .i64 mn) ∧ w'.cell? ⟨w.heap.size, 7, none⟩ = some (.int .i64 ms) ∧ w'.cell? ⟨w.heap.size, 8, none⟩ = some (.string mt) ∧ w'.cell? ⟨w.heap.size, 9, none⟩ = some (.int .i64 me)) (go_keep) (first | (go_at_call 18; refine (of18 _ _ _ (by omega) (by omega) (by omega)).mono ?_; rintro e w' ⟨rfl, rfl⟩))
  go_wp2
  go_ret
  exact ⟨w.heap.size + 1, rfl, by simp only [heap_alloc_if, heap_drew, size_alloc]; simp, by omega, by (repeat' (first | (with_reducible exact Below.refl _ _) | (with_reducible assumption) | (with_reducible refine Below.drew ?_) | (with_reducible refine Below.alloc ?_ ?_ _) | (with_reducible refine below_more ?_ ?_ _ _) | (with_reducible refine Below.setCell ?_ ?_ _) | (with_reducible refine Below.trans ?_ (Below.mono (by assumption) ?_)))) <;> first | omega | (simp; done) | (simp; omega) | (simp [more_size]; done) | (simp [more_size]; omega)⟩
set_option maxHeartbeats 400000 in
theorem offers13_no (id nm a mk mf mn ms me : Int) (name mt : ByteArray) (w : World) (ha : a < 0 ∨ 2 ≤ a) :
    Calls Try.prog 13 #[.agg #[.int .i64 id, .int .i64 nm, .string name, .int .i8 a, .int .i8 mk, .int .i64 mf, .int .i64 mn, .int .i64 ms, .string mt, .int .i64 me]] w fun r w' => r = .returned (.slice none 0 0) ∧ Below w.heap.size w w' := by
  have h0 : (a == 0) = false := by simp; omega
  have h1 : (a == 1) = false := by simp; omega
  clear ha
  go_enter Try.func13, Try.ntmps13
  go_wp2
  go_ret
  exact ⟨rfl, by (repeat' (first | (with_reducible exact Below.refl _ _) | (with_reducible assumption) | (with_reducible refine Below.drew ?_) | (with_reducible refine Below.alloc ?_ ?_ _) | (with_reducible refine below_more ?_ ?_ _ _) | (with_reducible refine Below.setCell ?_ ?_ _) | (with_reducible refine Below.trans ?_ (Below.mono (by assumption) ?_)))) <;> first | omega | (simp; done) | (simp; omega) | (simp [more_size]; done) | (simp [more_size]; omega)⟩
end Go.Proofs.Ythmeilgfdfkacaa
