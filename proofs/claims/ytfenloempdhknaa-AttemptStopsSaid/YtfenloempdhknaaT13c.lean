
/- Walks of the seat of chapter 16: AttemptStops, an attempt that is cut, or over. -/
import Derived.Test.YtfenloempdhknaaT13
namespace Go.Proofs.Ytfenloempdhknaa
open Go.RowKit
attribute [local go_sem ↓] Go.wp_at_zero Go.wp_at_succ
attribute [local go_sem] more_size cell_more_old frozen_more_old setCell_more_old more_drew drew_more old_alloc old_more old_drew old_setCell cell_alloc_old frozen_alloc_old setCell_alloc_old
attribute [local go_sem ↓] load30 store30
attribute [local go_sem] run30 runs30 blk_drew has_drew blk_drewN has_drewN old_drewN blk_alloc_old has_alloc_old blk_alloc_new has_alloc_new setBlk_size setBlk_drew old_setBlk cell_setBlk' cell_setBlk_ne frozen_setBlk blk_setBlk' blk_setBlk_ne has_setBlk' has_setBlk_ne setBlk_alloc_old setBlk_new
attribute [local go_sem high] run_mn3 run_mx3

set_option maxRecDepth 100000 in
set_option maxHeartbeats 4000000 in
theorem stops4_1 (id rc ow n f g0 g1 g2 g3 g4 g5 g6 g7 p k : Int) (b : Bool) (w : World) (h1 : decide (mn3 id rc ow < 0) = false) (h2 : decide (1000 < mx3 id rc ow) = false) (h3 : decide (1000 < k) = false) :
    Calls Try.prog 4 #[.agg #[.int .i64 id, .int .i64 rc, .int .i64 ow, .int .i64 n, .int .i8 f, .int .u16 g0, .int .u16 g1, .int .u16 g2, .int .u16 g3, .int .u16 g4, .int .u16 g5, .int .u16 g6, .int .u16 g7, .int .i64 p, .int .i8 1, .int .i64 (k)], .bool b] w fun r w' => r = .returned (.bool true) ∧ Below w.heap.size w w' := by
  go_enter Try.func4, Try.ntmps4
  go_wp2_with fail
  refine (offers9 (⟨id, rc, ow, n, f, g0, g1, g2, g3, g4, g5, g6, g7, p, 1, k⟩ : At) _).mono ?_
  rintro r w1 ⟨d4, d0, ao, no, po, rfl, hno, hro, hdd, hb⟩
  rw [offers1 d4 d0 rfl] at hno hro
  obtain rfl : no = 1 := hno
  have kA : w1.heap[w.heap.size]? = some (.cells #[.int .i64 id, .int .i64 rc, .int .i64 ow, .int .i64 n, .int .i8 f, .int .u16 g0, .int .u16 g1, .int .u16 g2, .int .u16 g3, .int .u16 g4, .int .u16 g5, .int .u16 g6, .int .u16 g7, .int .i64 p, .int .i8 1, .int .i64 (k)] 30) := block_keep' hb (by (repeat' (first | (with_reducible assumption) | (with_reducible refine hm_new ?_; (first | rfl | (simp; done) | (simp [more_size]; done) | (simp [more_size]; omega))) | (with_reducible refine block_alloc ?_) | (with_reducible refine hm_more ?_) | (with_reducible refine hm_drew ?_))))
  have hB : Below w.heap.size w w1 := by (repeat' (first | (with_reducible exact Below.refl _ _) | (with_reducible assumption) | (with_reducible refine Below.drew ?_) | (with_reducible refine Below.alloc ?_ ?_ _) | (with_reducible refine below_more ?_ ?_ _ _) | (with_reducible refine Below.setCell ?_ ?_ _) | (with_reducible refine Below.trans ?_ (Below.mono (by assumption) ?_)))) <;> first | omega | (simp; done) | (simp; omega) | (simp [more_size]; done) | (simp [more_size]; omega)
  have HB1 := Lib.hid hB
  have KA := Lib.hid kA
  have HRO := Lib.hid hro
  have hz1 : w.heap.size ≤ w1.heap.size := hB.size
  clear hdd hb hB kA hro
  go_wp2_with fail
  go_loopw [5, 7] (fun s i wr => ∃ j : Nat, j ≤ 1 ∧ i = .int .i64 j ∧ s = .int .i64 (-1) ∧ Below w1.heap.size w1 wr) (fun _ i _ => 1 - (intOf i).toNat)
  case atStart => exact ⟨0, by omega, rfl, rfl, Below.refl _ _⟩
  case round =>
    obtain ⟨j, hj, rfl, rfl, hbr⟩ := hrel
    have HBR := Lib.hid hbr
    have kA := block_keep' hbr KA.out
    have KAR := Lib.hid kA
    have cA := cell_block kA
    have oA := block_lt kA
    have qA : Old wr w.heap.size := oA
    have lA := blk_of kA
    have mA : Has wr w.heap.size 16 := has_of kA
    have hzr : w1.heap.size ≤ wr.heap.size := hbr.size
    clear hbr kA
    rcases (show j = 0 ∨ j = 1 from by omega) with rfl | rfl
    · obtain ⟨bo, oo, rfl, hbo, c0, c1, -⟩ := (HRO.out.below HBR.out).at (k := 0) rfl
      simp only [Nat.zero_mul, Nat.add_zero] at c0 c1
      go_wp2_with fail
      go_quiet (fail)
      go_wp2_with fail
      go_roundw
      case rel => exact ⟨1, by omega, rfl, rfl, belowN HBR.out _⟩
      case measure => first | (simp [intOf]; done) | (simp [intOf]; omega)
    · clear HRO
      go_wp2_with fail
      refine (over_row [(⟨id, rc, ow, n, f, g0, g1, g2, g3, g4, g5, g6, g7, p, 1, k⟩ : At)] false _ 1 30 #[.int .i64 id, .int .i64 rc, .int .i64 ow, .int .i64 n, .int .i8 f, .int .u16 g0, .int .u16 g1, .int .u16 g2, .int .u16 g3, .int .u16 g4, .int .u16 g5, .int .u16 g6, .int .u16 g7, .int .i64 p, .int .i8 1, .int .i64 (k)] _ (by (repeat' (first | (with_reducible assumption) | (with_reducible refine hm_new ?_; (first | rfl | (simp; done) | (simp [more_size]; done) | (simp [more_size]; omega))) | (with_reducible refine block_alloc ?_) | (with_reducible refine hm_more ?_) | (with_reducible refine hm_drew ?_)))) rfl rfl (by decide) (by decide) rfl).mono ?_
      rintro r w5 ⟨rfl, hb5⟩
      have hB5 : Below wr.heap.size wr w5 := by (repeat' (first | (with_reducible exact Below.refl _ _) | (with_reducible assumption) | (with_reducible refine Below.drew ?_) | (with_reducible refine Below.alloc ?_ ?_ _) | (with_reducible refine below_more ?_ ?_ _ _) | (with_reducible refine Below.setCell ?_ ?_ _) | (with_reducible refine Below.trans ?_ (Below.mono (by assumption) ?_)))) <;> first | omega | (simp; done) | (simp; omega) | (simp [more_size]; done) | (simp [more_size]; omega)
      have HB5 := Lib.hid ((HB1.out.trans (HBR.out.mono hz1)).trans (hB5.mono (by omega)))
      have kA5 := block_keep' hB5 KAR.out
      have cA5 := cell_block kA5
      have oA5 := block_lt kA5
      clear hb5 hB5 cA oA qA lA mA kA5
      go_wp2_with fail
      refine (wakes6 _).mono ?_
      rintro r w6 ⟨rfl, hb⟩
      go_wp2_with fail
      go_ret
      exact ⟨rfl, HB5.out.trans (hb.mono HB5.out.size)⟩

set_option maxRecDepth 100000 in
set_option maxHeartbeats 4000000 in
theorem stops4_3 (id rc ow n f g0 g1 g2 g3 g4 g5 g6 g7 p s k : Int) (b : Bool) (w : World) (e0 : s ≠ 0) (e1 : s ≠ 1) (e2 : s ≠ 2) (h1 : decide (mn3 id rc ow < 0) = false) (h2 : decide (1000 < mx3 id rc ow) = false) (h3 : decide (1000 < k) = false) :
    Calls Try.prog 4 #[.agg #[.int .i64 id, .int .i64 rc, .int .i64 ow, .int .i64 n, .int .i8 f, .int .u16 g0, .int .u16 g1, .int .u16 g2, .int .u16 g3, .int .u16 g4, .int .u16 g5, .int .u16 g6, .int .u16 g7, .int .i64 p, .int .i8 s, .int .i64 (k)], .bool b] w fun r w' => r = .returned (.bool true) ∧ Below w.heap.size w w' := by
  have E0 := Lib.hid e0
  have E1 := Lib.hid e1
  have E2 := Lib.hid e2
  have HOV : Hid (overB [(⟨id, rc, ow, n, f, g0, g1, g2, g3, g4, g5, g6, g7, p, s, k⟩ : At)] = true) := Lib.hid (by simp [overB, liveB]; omega)
  clear e0 e1 e2
  go_enter Try.func4, Try.ntmps4
  go_wp2_with fail
  refine (offers9 (⟨id, rc, ow, n, f, g0, g1, g2, g3, g4, g5, g6, g7, p, s, k⟩ : At) _).mono ?_
  rintro r w1 ⟨d4, d0, ao, no, po, rfl, hno, hro, hdd, hb⟩
  rw [offers3 d4 d0 E0.out E1.out E2.out] at hno hro
  obtain rfl : no = 0 := hno
  have kA : w1.heap[w.heap.size]? = some (.cells #[.int .i64 id, .int .i64 rc, .int .i64 ow, .int .i64 n, .int .i8 f, .int .u16 g0, .int .u16 g1, .int .u16 g2, .int .u16 g3, .int .u16 g4, .int .u16 g5, .int .u16 g6, .int .u16 g7, .int .i64 p, .int .i8 s, .int .i64 (k)] 30) := block_keep' hb (by (repeat' (first | (with_reducible assumption) | (with_reducible refine hm_new ?_; (first | rfl | (simp; done) | (simp [more_size]; done) | (simp [more_size]; omega))) | (with_reducible refine block_alloc ?_) | (with_reducible refine hm_more ?_) | (with_reducible refine hm_drew ?_))))
  have hB : Below w.heap.size w w1 := by (repeat' (first | (with_reducible exact Below.refl _ _) | (with_reducible assumption) | (with_reducible refine Below.drew ?_) | (with_reducible refine Below.alloc ?_ ?_ _) | (with_reducible refine below_more ?_ ?_ _ _) | (with_reducible refine Below.setCell ?_ ?_ _) | (with_reducible refine Below.trans ?_ (Below.mono (by assumption) ?_)))) <;> first | omega | (simp; done) | (simp; omega) | (simp [more_size]; done) | (simp [more_size]; omega)
  have HB1 := Lib.hid hB
  have KA := Lib.hid kA
  have HRO := Lib.hid hro
  have hz1 : w.heap.size ≤ w1.heap.size := hB.size
  clear hdd hb hB kA hro
  go_wp2_with fail
  go_loopw [5, 7] (fun s i wr => ∃ j : Nat, j ≤ 0 ∧ i = .int .i64 j ∧ s = .int .i64 (-1) ∧ Below w1.heap.size w1 wr) (fun _ i _ => 0 - (intOf i).toNat)
  case atStart => exact ⟨0, by omega, rfl, rfl, Below.refl _ _⟩
  case round =>
    obtain ⟨j, hj, rfl, rfl, hbr⟩ := hrel
    have HBR := Lib.hid hbr
    have kA := block_keep' hbr KA.out
    have KAR := Lib.hid kA
    have cA := cell_block kA
    have oA := block_lt kA
    have qA : Old wr w.heap.size := oA
    have lA := blk_of kA
    have mA : Has wr w.heap.size 16 := has_of kA
    have hzr : w1.heap.size ≤ wr.heap.size := hbr.size
    clear hbr kA
    obtain rfl : j = 0 := by omega
    focus
      clear HRO
      go_wp2_with fail
      refine (over_row [(⟨id, rc, ow, n, f, g0, g1, g2, g3, g4, g5, g6, g7, p, s, k⟩ : At)] true _ 1 30 #[.int .i64 id, .int .i64 rc, .int .i64 ow, .int .i64 n, .int .i8 f, .int .u16 g0, .int .u16 g1, .int .u16 g2, .int .u16 g3, .int .u16 g4, .int .u16 g5, .int .u16 g6, .int .u16 g7, .int .i64 p, .int .i8 s, .int .i64 (k)] _ (by (repeat' (first | (with_reducible assumption) | (with_reducible refine hm_new ?_; (first | rfl | (simp; done) | (simp [more_size]; done) | (simp [more_size]; omega))) | (with_reducible refine block_alloc ?_) | (with_reducible refine hm_more ?_) | (with_reducible refine hm_drew ?_)))) rfl rfl (by decide) (by decide) HOV.out).mono ?_
      rintro r w5 ⟨rfl, hb5⟩
      have hB5 : Below wr.heap.size wr w5 := by (repeat' (first | (with_reducible exact Below.refl _ _) | (with_reducible assumption) | (with_reducible refine Below.drew ?_) | (with_reducible refine Below.alloc ?_ ?_ _) | (with_reducible refine below_more ?_ ?_ _ _) | (with_reducible refine Below.setCell ?_ ?_ _) | (with_reducible refine Below.trans ?_ (Below.mono (by assumption) ?_)))) <;> first | omega | (simp; done) | (simp; omega) | (simp [more_size]; done) | (simp [more_size]; omega)
      have HB5 := Lib.hid ((HB1.out.trans (HBR.out.mono hz1)).trans (hB5.mono (by omega)))
      have kA5 := block_keep' hB5 KAR.out
      have cA5 := cell_block kA5
      have oA5 := block_lt kA5
      clear hb5 hB5 cA oA qA lA mA kA5
      go_wp2_with fail
      refine (wakes6 _).mono ?_
      rintro r w6 ⟨rfl, hb⟩
      go_wp2_with fail
      go_ret
      exact ⟨rfl, HB5.out.trans (hb.mono HB5.out.size)⟩

end Go.Proofs.Ytfenloempdhknaa
