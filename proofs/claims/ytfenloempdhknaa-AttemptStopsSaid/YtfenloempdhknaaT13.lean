
/- Walks of the seat of chapter 16: AttemptStops, an attempt that dials. -/
import Derived.Test.YtfenloempdhknaaT12
import Derived.Test.YtfenloempdhknaaMn
import Derived.Deep.DeepCutAuto
import Derived.BigQuiet
import Derived.Deep.QuietTactic
namespace Go.Proofs.Ytfenloempdhknaa
open Go.RowKit
attribute [local go_sem ↓] Go.wp_at_zero Go.wp_at_succ
attribute [local go_sem] more_size cell_more_old frozen_more_old setCell_more_old more_drew drew_more old_alloc old_more old_drew old_setCell cell_alloc_old frozen_alloc_old setCell_alloc_old
attribute [local go_sem ↓] load30 store30
attribute [local go_sem] run30 runs30 blk_drew has_drew blk_drewN has_drewN old_drewN blk_alloc_old has_alloc_old blk_alloc_new has_alloc_new setBlk_size setBlk_drew old_setBlk cell_setBlk' cell_setBlk_ne frozen_setBlk blk_setBlk' blk_setBlk_ne has_setBlk' has_setBlk_ne setBlk_alloc_old setBlk_new
attribute [local go_sem high] run_mn3 run_mx3

theorem belowN {B : Nat} {w w' : World} (h : Below B w w') (m : Nat) : Below B w (w'.drewN m) := ⟨h.os, h.tape, h.output, h.size, h.block⟩
theorem quiet_left' {P : Program} {f : FuncId} {args : Array Value} {w : World} {n : Nat} {v : Value}
    (h : Calls P f args (w.drewN n) fun e w' => e = .returned v ∧ w.drewN n = w') : Calls P f args (w.drewN n) fun e w'' => e = .returned v ∧ ∃ m, w'' = w.drewN m :=
  h.mono fun _ _ ⟨he, hm⟩ => ⟨he, n, hm.symm⟩
def StopR (B : Nat) (w1 : World) (s i : Value) (wr : World) : Prop := ∃ j : Nat, j ≤ 2 ∧ i = .int .i64 j ∧ s = .int .i64 (if j = 2 then 1 else -1) ∧ Below B w1 wr

set_option maxRecDepth 100000 in
set_option maxHeartbeats 4000000 in
theorem stops4_0 (id rc ow n f g0 g1 g2 g3 g4 g5 g6 g7 p k : Int) (b : Bool) (w : World) (h1 : decide (mn3 id rc ow < 0) = false) (h2 : decide (1000 < mx3 id rc ow) = false) (h3 : decide (1000 < k) = false) (r1 : rc ≤ 1000) (r2 : ow ≤ 1000) :
    Calls Try.prog 4 #[.agg #[.int .i64 id, .int .i64 rc, .int .i64 ow, .int .i64 n, .int .i8 f, .int .u16 g0, .int .u16 g1, .int .u16 g2, .int .u16 g3, .int .u16 g4, .int .u16 g5, .int .u16 g6, .int .u16 g7, .int .i64 p, .int .i8 0, .int .i64 (k)], .bool b] w fun r w' => r = .returned (.bool true) ∧ Below w.heap.size w w' := by
  go_enter Try.func4, Try.ntmps4
  go_wp2_with fail
  refine (offers9 (⟨id, rc, ow, n, f, g0, g1, g2, g3, g4, g5, g6, g7, p, 0, k⟩ : At) _).mono ?_
  rintro r w1 ⟨d4, d0, ao, no, po, rfl, hno, hro, hdd, hb⟩
  rw [offers0 d4 d0 rfl] at hno hro
  obtain rfl : no = 2 := hno
  obtain rfl : d4 = ofV rc 4 := (hdd (show rc ≤ 1125899906842624 by omega)).1
  have kA : w1.heap[w.heap.size]? = some (.cells #[.int .i64 id, .int .i64 rc, .int .i64 ow, .int .i64 n, .int .i8 f, .int .u16 g0, .int .u16 g1, .int .u16 g2, .int .u16 g3, .int .u16 g4, .int .u16 g5, .int .u16 g6, .int .u16 g7, .int .i64 p, .int .i8 0, .int .i64 (k)] 30) := block_keep' hb (by (repeat' (first | (with_reducible assumption) | (with_reducible refine hm_new ?_; (first | rfl | (simp; done) | (simp [more_size]; done) | (simp [more_size]; omega))) | (with_reducible refine block_alloc ?_) | (with_reducible refine hm_more ?_) | (with_reducible refine hm_drew ?_))))
  have hB : Below w.heap.size w w1 := by (repeat' (first | (with_reducible exact Below.refl _ _) | (with_reducible assumption) | (with_reducible refine Below.drew ?_) | (with_reducible refine Below.alloc ?_ ?_ _) | (with_reducible refine below_more ?_ ?_ _ _) | (with_reducible refine Below.setCell ?_ ?_ _) | (with_reducible refine Below.trans ?_ (Below.mono (by assumption) ?_)))) <;> first | omega | (simp; done) | (simp; omega) | (simp [more_size]; done) | (simp [more_size]; omega)
  have HB1 := Lib.hid hB
  have KA := Lib.hid kA
  have HRO := Lib.hid hro
  have hz1 : w.heap.size ≤ w1.heap.size := hB.size
  clear hdd hb hB kA hro
  go_wp2_with fail
  go_loopw [5, 7] (StopR w1.heap.size w1) (fun _ i _ => 2 - (intOf i).toNat)
  case atStart => exact ⟨0, by omega, rfl, rfl, Below.refl _ _⟩
  case round =>
    obtain ⟨j, hj, rfl, rfl, hbr⟩ := hrel
    have HBR := Lib.hid hbr
    have kA := block_keep' hbr KA.out
    have KAR := Lib.hid kA
    have cA := cell_block kA
    have oA := block_lt kA
    have qA : Old wr w.heap.size := oA
    have lA := blk_of kA
    have mA : Has wr w.heap.size 16 := has_of kA
    have hzr : w1.heap.size ≤ wr.heap.size := hbr.size
    clear hbr kA
    rcases (show j = 0 ∨ j = 1 ∨ j = 2 from by omega) with rfl | rfl | rfl
    · obtain ⟨bo, oo, rfl, hbo, c0, c1, -⟩ := (HRO.out.below HBR.out).at (k := 0) rfl
      simp only [Nat.zero_mul, Nat.add_zero] at c0 c1
      go_wp2_with fail
      go_quiet (fail)
      go_wp2_with fail
      go_roundw
      case rel => exact ⟨1, by omega, rfl, rfl, belowN HBR.out _⟩
      case measure => first | (simp [intOf]; done) | (simp [intOf]; omega)
    · obtain ⟨bo, oo, rfl, hbo, c0, c1, -⟩ := (HRO.out.below HBR.out).at (k := 1) rfl
      simp only [Nat.one_mul] at c0 c1
      go_wp2_with fail
      go_quiet ((go_at_call 10; exact quiet_left' (of10 rc 4 _ (by decide) (by decide) (by omega))))
      go_wp2_with fail
      go_roundw
      case rel => exact ⟨2, by omega, rfl, rfl, belowN HBR.out _⟩
      case measure => first | (simp [intOf]; done) | (simp [intOf]; omega)
    · clear HRO
      go_wp2_with fail
      refine (takef_dc id rc ow n f g0 g1 g2 g3 g4 g5 g6 g7 p k zLt _).mono ?_
      rintro r w2 ⟨a2, n2, p2, rfl, hn2, hr2, hb2⟩
      obtain rfl : n2 = 1 := hn2
      have hd2 : RdD w2 (.slice a2 1 p2) [⟨5, id⟩] := rdD_of rfl hr2
      have kA2 := block_keep' hb2 KAR.out
      have KA2 := Lib.hid kA2
      have cA2 := cell_block kA2
      have oA2 := block_lt kA2
      have qA2 : Old w2 w.heap.size := oA2
      have HB2 := Lib.hid ((HB1.out.trans (HBR.out.mono hz1)).trans (hb2.mono (by omega)))
      clear hr2 hb2 kA2 cA oA qA lA mA
      go_upto_region 14 with fail
      have kX : (w2.alloc (.cells #[.int .i64 id, .int .i64 rc, .int .i64 ow, .int .i64 n, .int .i8 f, .int .u16 g0, .int .u16 g1, .int .u16 g2, .int .u16 g3, .int .u16 g4, .int .u16 g5, .int .u16 g6, .int .u16 g7, .int .i64 p, .int .i8 1, .int .i64 (k)] 30)).heap[w2.heap.size]? = some (.cells #[.int .i64 id, .int .i64 rc, .int .i64 ow, .int .i64 n, .int .i8 f, .int .u16 g0, .int .u16 g1, .int .u16 g2, .int .u16 g3, .int .u16 g4, .int .u16 g5, .int .u16 g6, .int .u16 g7, .int .i64 p, .int .i8 1, .int .i64 (k)] 30) := by (repeat' (first | (with_reducible assumption) | (with_reducible refine hm_new ?_; (first | rfl | (simp; done) | (simp [more_size]; done) | (simp [more_size]; omega))) | (with_reducible refine block_alloc ?_) | (with_reducible refine hm_more ?_) | (with_reducible refine hm_drew ?_)))
      have kA3 : (w2.alloc (.cells #[.int .i64 id, .int .i64 rc, .int .i64 ow, .int .i64 n, .int .i8 f, .int .u16 g0, .int .u16 g1, .int .u16 g2, .int .u16 g3, .int .u16 g4, .int .u16 g5, .int .u16 g6, .int .u16 g7, .int .i64 p, .int .i8 1, .int .i64 (k)] 30)).heap[w.heap.size]? = some (.cells #[.int .i64 id, .int .i64 rc, .int .i64 ow, .int .i64 n, .int .i8 f, .int .u16 g0, .int .u16 g1, .int .u16 g2, .int .u16 g3, .int .u16 g4, .int .u16 g5, .int .u16 g6, .int .u16 g7, .int .i64 p, .int .i8 0, .int .i64 (k)] 30) := block_alloc KA2.out
      have hd3 : RdD (w2.alloc (.cells #[.int .i64 id, .int .i64 rc, .int .i64 ow, .int .i64 n, .int .i8 f, .int .u16 g0, .int .u16 g1, .int .u16 g2, .int .u16 g3, .int .u16 g4, .int .u16 g5, .int .u16 g6, .int .u16 g7, .int .i64 p, .int .i8 1, .int .i64 (k)] 30)) (.slice a2 1 p2) [⟨5, id⟩] := hd2.below (by (repeat' (first | (with_reducible exact Below.refl _ _) | (with_reducible assumption) | (with_reducible refine Below.drew ?_) | (with_reducible refine Below.alloc ?_ ?_ _) | (with_reducible refine below_more ?_ ?_ _ _) | (with_reducible refine Below.setCell ?_ ?_ _) | (with_reducible refine Below.trans ?_ (Below.mono (by assumption) ?_)))) <;> first | omega | (simp; done) | (simp; omega) | (simp [more_size]; done) | (simp [more_size]; omega))
      have hB3 : Below w.heap.size w (w2.alloc (.cells #[.int .i64 id, .int .i64 rc, .int .i64 ow, .int .i64 n, .int .i8 f, .int .u16 g0, .int .u16 g1, .int .u16 g2, .int .u16 g3, .int .u16 g4, .int .u16 g5, .int .u16 g6, .int .u16 g7, .int .i64 p, .int .i8 1, .int .i64 (k)] 30)) := HB2.out.alloc HB2.out.size _
      have hz3 : w2.heap.size < (w2.alloc (.cells #[.int .i64 id, .int .i64 rc, .int .i64 ow, .int .i64 n, .int .i8 f, .int .u16 g0, .int .u16 g1, .int .u16 g2, .int .u16 g3, .int .u16 g4, .int .u16 g5, .int .u16 g6, .int .u16 g7, .int .i64 p, .int .i8 1, .int .i64 (k)] 30)).heap.size := by simp
      clear hd2 cA2 oA2 qA2
      generalize (w2.alloc (.cells #[.int .i64 id, .int .i64 rc, .int .i64 ow, .int .i64 n, .int .i8 f, .int .u16 g0, .int .u16 g1, .int .u16 g2, .int .u16 g3, .int .u16 g4, .int .u16 g5, .int .u16 g6, .int .u16 g7, .int .i64 p, .int .i8 1, .int .i64 (k)] 30)) = w3 at *
      have KX3 := Lib.hid kX
      have HB3 := Lib.hid hB3
      have cA3 := cell_block kA3
      have oA3 := block_lt kA3
      have lX3 := blk_of kX
      have mX3 : Has w3 w2.heap.size 16 := has_of kX
      have oX3 := block_lt kX
      have qX3 : Old w3 w2.heap.size := oX3
      obtain ⟨bd, od, rfl, hbd, e0, e1, -⟩ := hd3.at (k := 0) rfl
      simp only [Nat.zero_mul, Nat.add_zero] at e0 e1
      clear kX hB3 kA3 hd3
      go_quiet (fail)
      generalize hW : w3.drewN _ = wq
      have KXq : Hid (wq.heap[w2.heap.size]? = some (.cells #[.int .i64 id, .int .i64 rc, .int .i64 ow, .int .i64 n, .int .i8 f, .int .u16 g0, .int .u16 g1, .int .u16 g2, .int .u16 g3, .int .u16 g4, .int .u16 g5, .int .u16 g6, .int .u16 g7, .int .i64 p, .int .i8 1, .int .i64 (k)] 30)) := Lib.hid (by rw [← hW]; exact hm_drewN KX3.out)
      have HBq : Hid (Below w.heap.size w wq) := Lib.hid (by rw [← hW]; exact belowN HB3.out _)
      have lXq := blk_of KXq.out
      have mXq : Has wq w2.heap.size 16 := has_of KXq.out
      have oXq := block_lt KXq.out
      have qXq : Old wq w2.heap.size := oXq
      clear hW cA3 oA3 lX3 mX3 qX3 oX3 e0 e1
      cases b
      all_goals go_wp2_with fail
      · refine (takef_ab id rc ow n f g0 g1 g2 g3 g4 g5 g6 g7 p k ⟨11, 0, 0, 0, ⟨#[]⟩, 160⟩ _ (by omega)).mono ?_
        rintro r w4 ⟨a4, n4, p4, rfl, hn4, hr4, hb4⟩
        obtain rfl : n4 = 1 := hn4
        have hr4' : w4.ownsRow _ 39 19 (.slice a4 1 p4) 1 (deCells [⟨3, ofV ow 4⟩]) := hr4
        have kX4 : w4.heap[w2.heap.size]? = some (.cells #[.int .i64 id, .int .i64 rc, .int .i64 ow, .int .i64 n, .int .i8 f, .int .u16 g0, .int .u16 g1, .int .u16 g2, .int .u16 g3, .int .u16 g4, .int .u16 g5, .int .u16 g6, .int .u16 g7, .int .i64 p, .int .i8 1, .int .i64 (k)] 30) := block_keep' hb4 (block_alloc KXq.out)
        have lX4 := blk_of kX4
        have mX4 : Has w4 w2.heap.size 16 := has_of kX4
        have oX4 := block_lt kX4
        have qX4 : Old w4 w2.heap.size := oX4
        have HX4 := Lib.hid kX4
        have hB4 : Below wq.heap.size wq w4 := by (repeat' (first | (with_reducible exact Below.refl _ _) | (with_reducible assumption) | (with_reducible refine Below.drew ?_) | (with_reducible refine Below.alloc ?_ ?_ _) | (with_reducible refine below_more ?_ ?_ _ _) | (with_reducible refine Below.setCell ?_ ?_ _) | (with_reducible refine Below.trans ?_ (Below.mono (by assumption) ?_)))) <;> first | omega | (simp; done) | (simp; omega) | (simp [more_size]; done) | (simp [more_size]; omega)
        have HD4 := Lib.hid (owns_same (w' := setBlk w4 w2.heap.size #[.int .i64 id, .int .i64 rc, .int .i64 ow, .int .i64 n, .int .i8 f, .int .u16 g0, .int .u16 g1, .int .u16 g2, .int .u16 g3, .int .u16 g4, .int .u16 g5, .int .u16 g6, .int .u16 g7, .int .i64 p, .int .i8 3, .int .i64 (k)]) hr4' (fun k hk => setBlk_ne _ _ _ _ (by have := oXq; simp at hk; omega)))
        have HB4 := Lib.hid (HBq.out.trans (hB4.mono HBq.out.size))
        clear hb4 hB4 hr4 hr4' kX4 lXq mXq qXq
        go_wp2_with fail
        refine (over_row [(⟨id, rc, ow, n, f, g0, g1, g2, g3, g4, g5, g6, g7, p, 3, k⟩ : At)] true _ 1 30 #[.int .i64 id, .int .i64 rc, .int .i64 ow, .int .i64 n, .int .i8 f, .int .u16 g0, .int .u16 g1, .int .u16 g2, .int .u16 g3, .int .u16 g4, .int .u16 g5, .int .u16 g6, .int .u16 g7, .int .i64 p, .int .i8 3, .int .i64 (k)] _ (hm_new (by simp only [setBlk_size])) rfl rfl (by decide) (by decide) rfl).mono ?_
        rintro r w5 ⟨rfl, hb5⟩
        have HD5 := Lib.hid (rdD_of rfl (owns_below (HD4.out.alloc _) hb5))
        have hB5 : Below w.heap.size w w5 := ((Below.setBlk HB4.out (b := w2.heap.size) (by have := HB2.out.size; omega) #[.int .i64 id, .int .i64 rc, .int .i64 ow, .int .i64 n, .int .i8 f, .int .u16 g0, .int .u16 g1, .int .u16 g2, .int .u16 g3, .int .u16 g4, .int .u16 g5, .int .u16 g6, .int .u16 g7, .int .i64 p, .int .i8 3, .int .i64 (k)]).alloc (by simp only [setBlk_size]; exact HB4.out.size) _).trans (hb5.mono (by simp only [size_alloc, setBlk_size]; have := HB4.out.size; omega))
        have HB5 := Lib.hid hB5
        obtain ⟨bd, od, rfl, hbd, e0, -⟩ := HD5.out.at (k := 0) rfl
        simp only [Nat.zero_mul, Nat.add_zero] at e0
        clear hb5 hB5 lX4 mX4 oX4 qX4
        go_wp2_with fail
        refine (wakes6 _).mono ?_
        rintro r w6 ⟨rfl, hb⟩
        go_wp2_with fail
        go_ret
        exact ⟨rfl, HB5.out.trans (hb.mono HB5.out.size)⟩
      · refine (takef_ab id rc ow n f g0 g1 g2 g3 g4 g5 g6 g7 p k ⟨11, 0, 0, 3, ⟨#[]⟩, 0⟩ _ (by omega)).mono ?_
        rintro r w4 ⟨a4, n4, p4, rfl, hn4, hr4, hb4⟩
        obtain rfl : n4 = 2 := hn4
        have hr4' : w4.ownsRow _ 39 19 (.slice a4 2 p4) 2 (deCells [⟨6, 3⟩, ⟨3, ofV ow 4⟩]) := hr4
        have kX4 : w4.heap[w2.heap.size]? = some (.cells #[.int .i64 id, .int .i64 rc, .int .i64 ow, .int .i64 n, .int .i8 f, .int .u16 g0, .int .u16 g1, .int .u16 g2, .int .u16 g3, .int .u16 g4, .int .u16 g5, .int .u16 g6, .int .u16 g7, .int .i64 p, .int .i8 1, .int .i64 (k)] 30) := block_keep' hb4 (block_alloc KXq.out)
        have lX4 := blk_of kX4
        have mX4 : Has w4 w2.heap.size 16 := has_of kX4
        have oX4 := block_lt kX4
        have qX4 : Old w4 w2.heap.size := oX4
        have HX4 := Lib.hid kX4
        have hB4 : Below wq.heap.size wq w4 := by (repeat' (first | (with_reducible exact Below.refl _ _) | (with_reducible assumption) | (with_reducible refine Below.drew ?_) | (with_reducible refine Below.alloc ?_ ?_ _) | (with_reducible refine below_more ?_ ?_ _ _) | (with_reducible refine Below.setCell ?_ ?_ _) | (with_reducible refine Below.trans ?_ (Below.mono (by assumption) ?_)))) <;> first | omega | (simp; done) | (simp; omega) | (simp [more_size]; done) | (simp [more_size]; omega)
        have HD4 := Lib.hid (owns_same (w' := setBlk w4 w2.heap.size #[.int .i64 id, .int .i64 rc, .int .i64 ow, .int .i64 n, .int .i8 f, .int .u16 g0, .int .u16 g1, .int .u16 g2, .int .u16 g3, .int .u16 g4, .int .u16 g5, .int .u16 g6, .int .u16 g7, .int .i64 p, .int .i8 3, .int .i64 (k)]) hr4' (fun k hk => setBlk_ne _ _ _ _ (by have := oXq; simp at hk; omega)))
        have HB4 := Lib.hid (HBq.out.trans (hB4.mono HBq.out.size))
        clear hb4 hB4 hr4 hr4' kX4 lXq mXq qXq
        go_wp2_with fail
        refine (over_row [(⟨id, rc, ow, n, f, g0, g1, g2, g3, g4, g5, g6, g7, p, 3, k⟩ : At)] true _ 1 30 #[.int .i64 id, .int .i64 rc, .int .i64 ow, .int .i64 n, .int .i8 f, .int .u16 g0, .int .u16 g1, .int .u16 g2, .int .u16 g3, .int .u16 g4, .int .u16 g5, .int .u16 g6, .int .u16 g7, .int .i64 p, .int .i8 3, .int .i64 (k)] _ (hm_new (by simp only [setBlk_size])) rfl rfl (by decide) (by decide) rfl).mono ?_
        rintro r w5 ⟨rfl, hb5⟩
        have HD5 := Lib.hid (rdD_of rfl (owns_below (HD4.out.alloc _) hb5))
        have hB5 : Below w.heap.size w w5 := ((Below.setBlk HB4.out (b := w2.heap.size) (by have := HB2.out.size; omega) #[.int .i64 id, .int .i64 rc, .int .i64 ow, .int .i64 n, .int .i8 f, .int .u16 g0, .int .u16 g1, .int .u16 g2, .int .u16 g3, .int .u16 g4, .int .u16 g5, .int .u16 g6, .int .u16 g7, .int .i64 p, .int .i8 3, .int .i64 (k)]).alloc (by simp only [setBlk_size]; exact HB4.out.size) _).trans (hb5.mono (by simp only [size_alloc, setBlk_size]; have := HB4.out.size; omega))
        have HB5 := Lib.hid hB5
        obtain ⟨bd, od, rfl, hbd, e0, -⟩ := HD5.out.at (k := 1) rfl
        simp only [Nat.one_mul] at e0
        clear hb5 hB5 lX4 mX4 oX4 qX4
        go_wp2_with fail
        refine (wakes6 _).mono ?_
        rintro r w6 ⟨rfl, hb⟩
        go_wp2_with fail
        go_ret
        exact ⟨rfl, HB5.out.trans (hb.mono HB5.out.size)⟩
end Go.Proofs.Ytfenloempdhknaa
