
/- Walks of the seat of chapter 06: the reference's Great of one duct, and Same of equal ducts. -/
import Derived.Test.YtmggibmpljoacaaG7
namespace Go.Proofs.Ytmggibmpljoacaa
open Go.RowKit
attribute [local go_sem ↓] Go.wp_at_zero Go.wp_at_succ
attribute [local go_sem] more_size cell_more_old frozen_more_old setCell_more_old more_drew drew_more old_alloc old_more old_drew old_setCell cell_alloc_old frozen_alloc_old setCell_alloc_old
attribute [local go_sem ↓] load25 store25
attribute [local go_sem] run25 runs25 blk_drew has_drew blk_drewN has_drewN old_drewN blk_alloc_old has_alloc_old blk_alloc_new has_alloc_new setBlk_size setBlk_drew old_setBlk cell_setBlk' cell_setBlk_ne frozen_setBlk blk_setBlk' blk_setBlk_ne has_setBlk' has_setBlk_ne setBlk_alloc_old setBlk_new

/-- Great: where it says no, there are at most 200 letters, and Cap is no less than -2^40. -/
theorem great12 (c : Int) (a : Option Addr) (n p : Nat) (b : Bool) (B : Nat) (T : TypeId) (w : World) (h : w.heap[B]? = some (.cells #[.int .i64 c, .slice a n p, .bool b] T)) :
    Calls Try.prog 12 #[.slice (some ⟨B, 0, none⟩) 1 1] w fun r w' => (r = .returned (.bool true) ∨ (r = .returned (.bool false) ∧ n ≤ 200 ∧ -1099511627776 ≤ c)) ∧ Below w.heap.size w w' := by
  have cB := cell_block h
  have oB := block_lt h
  have qB : Old w B := oB
  clear h
  by_cases h1 : n ≤ 200
  · have h1' : (n : Int) ≤ 200 := by omega
    by_cases h2 : c < -1099511627776
    · go_enter Try.func12, Try.ntmps12
      go_wp2_with fail
      refine wp_loop_rounds 1 ?_
      rw [rounds_succ]
      go_wp2_with fail
      go_ret
      exact ⟨.inl rfl, by (repeat' (first | (with_reducible exact Below.refl _ _) | (with_reducible assumption) | (with_reducible refine Below.drew ?_) | (with_reducible refine Below.alloc ?_ ?_ _) | (with_reducible refine below_more ?_ ?_ _ _) | (with_reducible refine Below.setCell ?_ ?_ _) | (with_reducible refine Below.trans ?_ (Below.mono (by assumption) ?_)))) <;> first | omega | (simp; done) | (simp; omega) | (simp [more_size]; done) | (simp [more_size]; omega)⟩
    · have h2' : -1099511627776 ≤ c := by omega
      go_enter Try.func12, Try.ntmps12
      go_wp2_with fail
      refine wp_loop_rounds 2 ?_
      rw [rounds_succ]
      go_wp2_with fail
      rw [rounds_succ]
      go_wp2_with fail
      go_ret
      exact ⟨.inr ⟨rfl, h1, h2'⟩, by (repeat' (first | (with_reducible exact Below.refl _ _) | (with_reducible assumption) | (with_reducible refine Below.drew ?_) | (with_reducible refine Below.alloc ?_ ?_ _) | (with_reducible refine below_more ?_ ?_ _ _) | (with_reducible refine Below.setCell ?_ ?_ _) | (with_reducible refine Below.trans ?_ (Below.mono (by assumption) ?_)))) <;> first | omega | (simp; done) | (simp; omega) | (simp [more_size]; done) | (simp [more_size]; omega)⟩
  · have h1' : (200 : Int) < (n : Int) := by omega
    go_enter Try.func12, Try.ntmps12
    go_wp2_with fail
    refine wp_loop_rounds 1 ?_
    rw [rounds_succ]
    go_wp2_with fail
    go_ret
    exact ⟨.inl rfl, by (repeat' (first | (with_reducible exact Below.refl _ _) | (with_reducible assumption) | (with_reducible refine Below.drew ?_) | (with_reducible refine Below.alloc ?_ ?_ _) | (with_reducible refine below_more ?_ ?_ _ _) | (with_reducible refine Below.setCell ?_ ?_ _) | (with_reducible refine Below.trans ?_ (Below.mono (by assumption) ?_)))) <;> first | omega | (simp; done) | (simp; omega) | (simp [more_size]; done) | (simp [more_size]; omega)⟩
set_option maxHeartbeats 2000000 in
theorem same15 (c : Int) (cl : Bool) (a1 a2 : Option Addr) (n p1 p2 : Nat) (l : List Lt) (w : World) (hn : n ≤ 1000) (h1 : RdL w (.slice a1 n p1) l) (h2 : RdL w (.slice a2 n p2) l) :
    Calls Try.prog 15 #[.agg #[.int .i64 c, .slice a1 n p1, .bool cl], .agg #[.int .i64 c, .slice a2 n p2, .bool cl]] w fun r w' => r = .returned (.bool true) ∧ Below w.heap.size w w' := by
  have H1 := Lib.hid h1
  have H2 := Lib.hid h2
  have HN := Lib.hid h1.len
  clear h1 h2
  go_enter Try.func15, Try.ntmps15
  cases cl
  all_goals
    go_wp2_with fail
    go_loopw [5] (fun i wr => ∃ k : Nat, k ≤ n ∧ i = .int .i64 k ∧ ∃ m, wr = (((w.alloc (.cells #[.int .i64 c, .slice a1 n p1, .bool _] 25)).alloc (.cells #[.int .i64 c, .slice a2 n p2, .bool _] 25)).drewN m)) (fun i _ => n - (intOf i).toNat)
    case atStart => exact ⟨0, Nat.zero_le _, rfl, 0, rfl⟩
    case round =>
      obtain ⟨k, hk, rfl, m, rfl⟩ := hrel
      by_cases hlt : k < n
      · have hi : (k : Int) < (n : Int) := by omega
        have hi0 : (0 : Int) ≤ (k : Int) := by omega
        obtain ⟨x, hx⟩ : ∃ x, l[k]? = some x := ⟨_, List.getElem?_eq_getElem (by have := HN.out; omega)⟩
        obtain ⟨b, off, rfl, hb0, c0, c1, c2, c3, c4, c5⟩ := H1.out.at hx
        obtain ⟨b', off', rfl, hb0', d0, d1, d2, d3, d4, d5⟩ := H2.out.at hx
        have ob : Old w b := hb0
        have ob' : Old w b' := hb0'
        go_wp2
        go_quiet (fail)
        go_wp2
        go_roundw
        case rel => exact ⟨k + 1, by omega, by go_num, _, rfl⟩
        case measure => simp [intOf]; omega
      · have hi : ¬ (k : Int) < (n : Int) := by omega
        go_wp2
        go_ret
        exact ⟨rfl, belowN (by (repeat' (first | (with_reducible exact Below.refl _ _) | (with_reducible assumption) | (with_reducible refine Below.drew ?_) | (with_reducible refine Below.alloc ?_ ?_ _) | (with_reducible refine below_more ?_ ?_ _ _) | (with_reducible refine Below.setCell ?_ ?_ _) | (with_reducible refine Below.trans ?_ (Below.mono (by assumption) ?_)))) <;> first | omega | (simp; done) | (simp; omega) | (simp [more_size]; done) | (simp [more_size]; omega)) m⟩
end Go.Proofs.Ytmggibmpljoacaa
