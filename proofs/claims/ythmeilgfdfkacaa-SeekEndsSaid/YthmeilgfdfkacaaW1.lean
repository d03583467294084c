/- Walks of seat 17: the duct's number, told, ends, steps. -/
import Derived.Test.YthmeilgfdfkacaaRows
import Derived.Test.YthmeilgfdfkacaaKit
import Derived.WalkKit
import Derived.WalkSpells
import Derived.WalkLawsBesides
import Derived.BigQuiet
import Derived.Deep.QuietTactic
import Derived.Deep.RegionHeld3
import Derived.Deep.DrawnRows
import Derived.Laws.EntriesVeiled
namespace Go.Proofs.Ythmeilgfdfkacaa
open Go.RowKit
attribute [local go_sem ↓] Go.wp_at_zero Go.wp_at_succ

/-- The number of a goroutine's duct. -/
def ofV (p k : Int) : Int := if p < 0 then -1 else 5 * p + k

set_option maxHeartbeats 400000 in
theorem of18 (p k : Int) (w : World) (hp : p ≤ 1099511627776) (h0 : 0 ≤ k) (h4 : k ≤ 4):
    Calls Try.prog 18 #[.int .i64 p, .int .i64 k] w fun e w' => e = .returned (.int .i64 (ofV p k)) ∧ w = w' := by
  by_cases h : p < 0
  · go_enter Try.func18, Try.ntmps18
    go_wp2
    go_ret
    exact ⟨by simp [h, ofV], rfl⟩
  · go_enter Try.func18, Try.ntmps18
    go_wp2
    go_ret
    exact ⟨by rw [ofV, if_neg (by omega)]; rfl, rfl⟩
set_option maxHeartbeats 400000 in
theorem of23 (p k : Int) (w : World) (hp : p ≤ 1099511627776) (h0 : 0 ≤ k) (h4 : k ≤ 4):
    Calls Try.prog 23 #[.int .i64 p, .int .i64 k] w fun e w' => e = .returned (.int .i64 (ofV p k)) ∧ w = w' := by
  by_cases h : p < 0
  · go_enter Try.func23, Try.ntmps23
    go_wp2
    go_ret
    exact ⟨by simp [h, ofV], rfl⟩
  · have e : 5 * p + k = p * 5 + k := by omega
    have E := Lib.hid e
    clear e
    go_enter Try.func23, Try.ntmps23
    go_wp2
    go_ret
    exact ⟨by rw [ofV, if_neg (by omega), E.out]; rfl, rfl⟩

/-- seek's told: behind the answer. -/
def toldText (e : Int) (t : ByteArray) : ByteArray := if e = 0 then t else ⟨#[]⟩
set_option maxHeartbeats 400000 in
theorem told24 (id nm a mk mf mn ms me k f n s e : Int) (name mt t : ByteArray) (w : World) :
    Calls Try.prog 24 #[.agg #[.int .i64 id, .int .i64 nm, .string name, .int .i8 a, .int .i8 mk, .int .i64 mf, .int .i64 mn, .int .i64 ms, .string mt, .int .i64 me],
       .agg #[.int .i8 k, .int .i64 f, .int .i64 n, .int .i64 s, .string t, .int .i64 e]] w fun r w' =>
      r = .returned (.agg #[.int .i64 id, .int .i64 nm, .string name, .int .i8 1, .int .i8 7, .int .i64 id, .int .i64 0, .int .i64 0, .string (toldText e t), .int .i64 e]) ∧ Below w.heap.size w w' := by
  by_cases h : e = 0
  · subst h
    go_enter Try.func24, Try.ntmps24
    go_wp2
    go_region
    go_wp2
    refine bodyPost_ret (v := .agg #[.int .i64 id, .int .i64 nm, .string name, .int .i8 1, .int .i8 7, .int .i64 id, .int .i64 0, .int .i64 0, .string t, .int .i64 0]) (by simp [results, Try.results24, go_sem]) rfl ⟨rfl, ?_⟩
    exact ((((Below.refl _ _).alloc (Nat.le_refl _) _).alloc (by simp) _).alloc (by simp; omega) _).drew
  · have h' : (e == 0) = false := by simpa using h
    have ht : toldText e t = ⟨#[]⟩ := by simp [toldText, h]
    have HT := Lib.hid ht
    clear ht
    go_enter Try.func24, Try.ntmps24
    go_wp2
    go_region
    go_wp2
    refine bodyPost_ret (v := .agg #[.int .i64 id, .int .i64 nm, .string name, .int .i8 1, .int .i8 7, .int .i64 id, .int .i64 0, .int .i64 0, .string ⟨#[]⟩, .int .i64 e]) (by simp [results, Try.results24, go_sem]) rfl ⟨by rw [HT.out], ?_⟩
    exact ((((Below.refl _ _).alloc (Nat.le_refl _) _).alloc (by simp) _).alloc (by simp; omega) _).drew
set_option maxHeartbeats 400000 in
theorem ends25 (id nm a mk mf mn ms me k f n s e : Int) (name mt t : ByteArray) (w : World) :
    Calls Try.prog 25 #[.agg #[.int .i64 id, .int .i64 nm, .string name, .int .i8 a, .int .i8 mk, .int .i64 mf, .int .i64 mn, .int .i64 ms, .string mt, .int .i64 me],
       .agg #[.int .i8 k, .int .i64 f, .int .i64 n, .int .i64 s, .string t, .int .i64 e]] w fun r w' =>
      r = .returned (.agg #[.int .i64 id, .int .i64 nm, .string name, .int .i8 2, .int .i8 mk, .int .i64 mf, .int .i64 mn, .int .i64 ms, .string mt, .int .i64 me]) ∧ Below w.heap.size w w' := by
  go_enter Try.func25, Try.ntmps25
  go_wp2
  refine bodyPost_ret (v := .agg #[.int .i64 id, .int .i64 nm, .string name, .int .i8 2, .int .i8 mk, .int .i64 mf, .int .i64 mn, .int .i64 ms, .string mt, .int .i64 me]) (by simp [results, Try.results25, go_sem]) rfl ⟨rfl, ?_⟩
  exact ((((Below.refl _ _).alloc (Nat.le_refl _) _).alloc (by simp) _).alloc (by simp; omega) _)
set_option maxHeartbeats 400000 in
theorem steps22 (id nm a mk mf mn ms me : Int) (name mt : ByteArray) (w : World) (hp : nm ≤ 1099511627776) :
    Calls Try.prog 22 #[.agg #[.int .i64 id, .int .i64 nm, .string name, .int .i8 a, .int .i8 mk, .int .i64 mf, .int .i64 mn, .int .i64 ms, .string mt, .int .i64 me]] w fun r w' =>
      ∃ b1 b2, r = .returned (.agg #[.slice (some ⟨b1, 0, none⟩) 1 1,
          .func (.func 24) #[.agg #[.int .i64 id, .int .i64 nm, .string name, .int .i8 a, .int .i8 mk, .int .i64 mf, .int .i64 mn, .int .i64 ms, .string mt, .int .i64 me]] #[],
          .slice (some ⟨b2, 0, none⟩) 2 2,
          .func (.func 25) #[.agg #[.int .i64 id, .int .i64 nm, .string name, .int .i8 a, .int .i8 mk, .int .i64 mf, .int .i64 mn, .int .i64 ms, .string mt, .int .i64 me]] #[]]) ∧
        w'.heap[b1]? = some (.cells #[.int .i8 4, .int .i64 0, .int .i8 0, .int .i64 0, .int .i64 0, .int .i64 0, .string ⟨#[]⟩, .int .i64 0, .int .i64 0] 41) ∧
        w'.heap[b2]? = some (.cells #[.int .i8 0, .int .i64 (ofV nm 0), .int .i8 mk, .int .i64 mf, .int .i64 mn, .int .i64 ms, .string mt, .int .i64 me, .int .i64 0,
          .int .i8 1, .int .i64 (ofV nm 1), .int .i8 0, .int .i64 0, .int .i64 0, .int .i64 0, .string ⟨#[]⟩, .int .i64 0, .int .i64 0] 41) ∧
        w.heap.size ≤ b1 ∧ w.heap.size ≤ b2 ∧ Below w.heap.size w w' := by
  go_enter Try.func22, Try.ntmps22
  go_wp2_with (go_at_call 23; refine (of23 _ _ _ (by omega) (by omega) (by omega)).mono ?_; rintro e w' ⟨rfl, rfl⟩)
  go_region_held3 (fun w' => w'.cell? ⟨w.heap.size, 1, none⟩ = some (.int .i64 nm) ∧ w'.cell? ⟨w.heap.size, 4, none⟩ = some (.int .i8 mk) ∧ w'.cell? ⟨w.heap.size, 5, none⟩ = some (.int .i64 mf) ∧ w'.cell? ⟨w.heap.size, 6, none⟩ = some (.int .i64 mn) ∧ w'.cell? ⟨w.heap.size, 7, none⟩ = some (.int .i64 ms) ∧ w'.cell? ⟨w.heap.size, 8, none⟩ = some (.string mt) ∧ w'.cell? ⟨w.heap.size, 9, none⟩ = some (.int .i64 me)) (go_keep) (first | (go_at_call 23; refine (of23 _ _ _ (by omega) (by omega) (by omega)).mono ?_; rintro e w' ⟨rfl, rfl⟩))
  all_goals go_wp2_with (go_at_call 23; refine (of23 _ _ _ (by omega) (by omega) (by omega)).mono ?_; rintro e w' ⟨rfl, rfl⟩)
  all_goals
    refine bodyPost_ret ?_ rfl ⟨w.heap.size + 1 + 1 + 1 + 1, w.heap.size + 1 + 1 + 1 + 1 + 1, rfl, ?_, ?_, by omega, by omega, ?_⟩
    · simp [results, Try.results22, go_sem]
    · simp only [heap_alloc_if, heap_drew, size_alloc]; simp
    · simp only [heap_alloc_if, heap_drew, size_alloc]; simp
    · repeat (first | exact Below.refl _ _ | refine Below.drew ?_ | (refine Below.alloc ?_ (by simp; try omega) _))
end Go.Proofs.Ythmeilgfdfkacaa
