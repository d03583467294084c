/- Walks of seat 17: at. -/
import Derived.Test.YthmeilgfdfkacaaW1
namespace Go.Proofs.Ythmeilgfdfkacaa
open Go.RowKit
attribute [local go_sem ↓] Go.wp_at_zero Go.wp_at_succ

set_option maxHeartbeats 400000 in
theorem at20_zero (id nm mk mf mn ms me : Int) (name mt : ByteArray) (w : World) (hp : nm ≤ 1099511627776) :
    Calls Try.prog 20 #[.agg #[.int .i64 id, .int .i64 nm, .string name, .int .i8 0, .int .i8 mk, .int .i64 mf, .int .i64 mn, .int .i64 ms, .string mt, .int .i64 me]] w fun r w' =>
      ∃ b1, r = .returned (.tuple #[.agg #[.slice (some ⟨b1, 0, none⟩) 1 1,
          .func (.func 24) #[.agg #[.int .i64 id, .int .i64 nm, .string name, .int .i8 0, .int .i8 mk, .int .i64 mf, .int .i64 mn, .int .i64 ms, .string mt, .int .i64 me]] #[]], .bool true]) ∧
        w'.heap[b1]? = some (.cells #[.int .i8 4, .int .i64 0, .int .i8 0, .int .i64 0, .int .i64 0, .int .i64 0, .string ⟨#[]⟩, .int .i64 0, .int .i64 0] 41) ∧
        w.heap.size ≤ b1 ∧ Below w.heap.size w w' := by
  go_enter Try.func20, Try.ntmps20
  go_wp2_with fail
  refine (steps22 _ _ _ _ _ _ _ _ _ _ _ hp).mono ?_
  rintro e w1 ⟨b1, b2, rfl, k1, k2, g1, g2, hb⟩
  obtain ⟨hc, hf, hz⟩ := below_facts hb
  simp only [size_alloc] at hc hf hz g1 g2
  have hz0 : w.heap.size < w1.heap.size := by omega
  have hz1 : w.heap.size + 1 < w1.heap.size := by omega
  have K := Lib.hid k1
  clear k1 k2 hz
  go_wp2
  refine bodyPost_ret ?_ rfl ⟨b1, rfl, ?_, by omega, ?_⟩
  · simp [results, Try.results20, go_sem, hc, hz0, hz1]
  · exact block_alloc (block_set (block_set K.out (by simp; omega)) (by simp; omega))
  · exact ((((((Below.refl _ w).alloc (Nat.le_refl _) _).alloc (by simp) _).trans (hb.mono (by simp; omega))).setCell (by simp) _).setCell (by simp) _).alloc (by simp; omega) _

set_option maxHeartbeats 400000 in
theorem at20_one (id nm mk mf mn ms me : Int) (name mt : ByteArray) (w : World) (hp : nm ≤ 1099511627776) :
    Calls Try.prog 20 #[.agg #[.int .i64 id, .int .i64 nm, .string name, .int .i8 1, .int .i8 mk, .int .i64 mf, .int .i64 mn, .int .i64 ms, .string mt, .int .i64 me]] w fun r w' =>
      ∃ b1, r = .returned (.tuple #[.agg #[.slice (some ⟨b1, 0, none⟩) 2 2,
          .func (.func 25) #[.agg #[.int .i64 id, .int .i64 nm, .string name, .int .i8 1, .int .i8 mk, .int .i64 mf, .int .i64 mn, .int .i64 ms, .string mt, .int .i64 me]] #[]], .bool true]) ∧
        w'.heap[b1]? = some (.cells #[.int .i8 0, .int .i64 (ofV nm 0), .int .i8 mk, .int .i64 mf, .int .i64 mn, .int .i64 ms, .string mt, .int .i64 me, .int .i64 0,
          .int .i8 1, .int .i64 (ofV nm 1), .int .i8 0, .int .i64 0, .int .i64 0, .int .i64 0, .string ⟨#[]⟩, .int .i64 0, .int .i64 0] 41) ∧
        w.heap.size ≤ b1 ∧ Below w.heap.size w w' := by
  go_enter Try.func20, Try.ntmps20
  go_wp2_with fail
  refine (steps22 _ _ _ _ _ _ _ _ _ _ _ hp).mono ?_
  rintro e w1 ⟨b1, b2, rfl, k1, k2, g1, g2, hb⟩
  obtain ⟨hc, hf, hz⟩ := below_facts hb
  simp only [size_alloc] at hc hf hz g1 g2
  have hz0 : w.heap.size < w1.heap.size := by omega
  have hz1 : w.heap.size + 1 < w1.heap.size := by omega
  have K := Lib.hid k2
  clear k1 k2 hz
  go_wp2
  refine bodyPost_ret ?_ rfl ⟨b2, rfl, ?_, by omega, ?_⟩
  · simp [results, Try.results20, go_sem, hc, hz0, hz1]
  · exact block_alloc (block_set (block_set K.out (by simp; omega)) (by simp; omega))
  · exact ((((((Below.refl _ w).alloc (Nat.le_refl _) _).alloc (by simp) _).trans (hb.mono (by simp; omega))).setCell (by simp) _).setCell (by simp) _).alloc (by simp; omega) _

set_option maxHeartbeats 400000 in
theorem at20_no (id nm a mk mf mn ms me : Int) (name mt : ByteArray) (w : World) (hp : nm ≤ 1099511627776) (hl : -128 ≤ a) (hu : a ≤ 127) (ha : a < 0 ∨ 2 ≤ a) :
    Calls Try.prog 20 #[.agg #[.int .i64 id, .int .i64 nm, .string name, .int .i8 a, .int .i8 mk, .int .i64 mf, .int .i64 mn, .int .i64 ms, .string mt, .int .i64 me]] w fun r w' =>
      r = .returned (.tuple #[.agg #[.slice none 0 0, .nilFunc], .bool false]) ∧ Below w.heap.size w w' := by
  rcases ha with ha | ha
  all_goals
    go_enter Try.func20, Try.ntmps20
    go_wp2_with fail
    refine (steps22 _ _ _ _ _ _ _ _ _ _ _ hp).mono ?_
    rintro e w1 ⟨b1, b2, rfl, k1, k2, g1, g2, hb⟩
    obtain ⟨hc, hf, hz⟩ := below_facts hb
    simp only [size_alloc] at hc hf hz g1 g2
    have hz0 : w.heap.size < w1.heap.size := by omega
    have hz1 : w.heap.size + 1 < w1.heap.size := by omega
    clear k1 k2 hz
    go_wp2
    refine bodyPost_ret ?_ rfl ⟨rfl, ?_⟩
    · simp [results, Try.results20, go_sem, hc, hz0, hz1]
    · exact ((((((Below.refl _ w).alloc (Nat.le_refl _) _).alloc (by simp) _).trans (hb.mono (by simp; omega))).setCell (by simp) _).setCell (by simp) _).alloc (by simp; omega) _
end Go.Proofs.Ythmeilgfdfkacaa
