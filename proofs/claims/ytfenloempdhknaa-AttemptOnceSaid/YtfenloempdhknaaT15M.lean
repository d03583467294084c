
/- Walks of the seat of chapter 16: AttemptOnce: the walk. -/
import Derived.Test.YtfenloempdhknaaT15A
import Derived.Test.YtfenloempdhknaaT15B
import Derived.Test.YtfenloempdhknaaT15C
import Derived.Test.YtfenloempdhknaaT15D
namespace Go.Proofs.Ytfenloempdhknaa
open Go.RowKit
attribute [local go_sem ↓] Go.wp_at_zero Go.wp_at_succ
attribute [local go_sem] more_size cell_more_old frozen_more_old setCell_more_old more_drew drew_more old_alloc old_more old_drew old_setCell cell_alloc_old frozen_alloc_old setCell_alloc_old
attribute [local go_sem ↓] load30 store30
attribute [local go_sem] run30 runs30 blk_drew has_drew blk_drewN has_drewN old_drewN blk_alloc_old has_alloc_old blk_alloc_new has_alloc_new setBlk_size setBlk_drew old_setBlk cell_setBlk' cell_setBlk_ne frozen_setBlk blk_setBlk' blk_setBlk_ne has_setBlk' has_setBlk_ne setBlk_alloc_old setBlk_new
attribute [local go_sem high] run_mn4 run_mx4
attribute [local go_sem high] run_mn2 run_mx2
attribute [local go_sem ↓] load39 store39
attribute [local go_sem] runs39

set_option maxRecDepth 100000 in
set_option maxHeartbeats 8000000 in
theorem once3 (id rc ow n : Int) (a : Option Addr) (m p : Nat) (l : List Pk) (w : World) (hl : RdP w (.slice a m p) l) (h3 : 3 ≤ m) (h1 : decide (mn4 id rc ow n < 0) = false) (h2 : decide (1000 < mx4 id rc ow n) = false) (r1 : rc ≤ 1000) (r2 : ow ≤ 1000) :
    Calls Try.prog 3 #[.int .i64 id, .int .i64 rc, .int .i64 ow, .int .i64 n, .slice a m p] w fun r w' => r = .returned (.bool true) ∧ Below w.heap.size w w' := by
  have HL := Lib.hid hl
  have h3d : decide ((m : Int) < 3) = false := by simp; omega
  clear hl
  go_enter Try.func3, Try.ntmps3
  go_wp2_with fail
  refine (begin7 id rc ow n 1 _).mono ?_
  rintro r w1 ⟨bD, rfl, kD, hb1⟩
  have cD := cell_block kD
  have oD := block_lt kD
  have qD : Old w1 bD := oD
  have HB1 := Lib.hid hb1
  have hz1 : w.heap.size ≤ w1.heap.size := hb1.size
  clear kD hb1
  go_wp2_with fail
  obtain ⟨B, hBe⟩ : ∃ B, B = w1.heap.size := ⟨_, rfl⟩
  have kA : (w1.alloc (.cells #[.int .i64 id, .int .i64 rc, .int .i64 ow, .int .i64 n, .int .i8 0, .int .u16 0, .int .u16 0, .int .u16 0, .int .u16 0, .int .u16 0, .int .u16 0, .int .u16 0, .int .u16 0, .int .i64 1, .int .i8 0, .int .i64 (-1)] 30)).heap[w1.heap.size]? = some (.cells #[.int .i64 id, .int .i64 rc, .int .i64 ow, .int .i64 n, .int .i8 0, .int .u16 0, .int .u16 0, .int .u16 0, .int .u16 0, .int .u16 0, .int .u16 0, .int .u16 0, .int .u16 0, .int .i64 1, .int .i8 0, .int .i64 (-1)] 30) := by (repeat' (first | (with_reducible assumption) | (with_reducible refine hm_new ?_; (first | rfl | (simp; done) | (simp [more_size]; done) | (simp [more_size]; omega))) | (with_reducible refine block_alloc ?_) | (with_reducible refine hm_more ?_) | (with_reducible refine hm_drew ?_)))
  have hBA : Below w.heap.size w (w1.alloc (.cells #[.int .i64 id, .int .i64 rc, .int .i64 ow, .int .i64 n, .int .i8 0, .int .u16 0, .int .u16 0, .int .u16 0, .int .u16 0, .int .u16 0, .int .u16 0, .int .u16 0, .int .u16 0, .int .i64 1, .int .i8 0, .int .i64 (-1)] 30)) := HB1.out.alloc hz1 _
  rw [← hBe] at kA hz1 ⊢
  clear cD qD hBe
  refine wp_loop (fun a' w' => WI id rc ow n a m p B w a' w') (fun a' _ => Wm a') (wi_mk 0 (-1) 0 0 0 (-1) 0 (by kernel_rfl) (.inl ⟨rfl, rfl, rfl, rfl, rfl, rfl, rfl⟩) kA hBA) (fun a' wr hI => ?_)
  obtain ⟨st, sk, bk, sh, td, op, i, X, rfl, hs, kA, hbr⟩ := hI
  rcases hs with ⟨rfl, rfl, rfl, rfl, rfl, rfl, rfl⟩ | ⟨rfl, rfl, rfl, rfl, rfl, rfl, rfl⟩ | ⟨rfl, rfl, hk, hk', rfl, rfl, rfl, rfl⟩ | ⟨rfl, rfl, rfl, rfl, rfl, rfl, rfl⟩ | ⟨rfl, rfl, rfl, rfl, rfl, rfl⟩ | ⟨rfl, rfl, rfl, rfl, rfl, hop⟩ | ⟨rfl, rfl, rfl, rfl, rfl, hop⟩
  · exact once_A id rc ow n a m p B l w wr X _ _ HL.out h3 r1 r2 hz1 kA hbr (fun a' w' h1 h2 => ⟨h1, h2⟩)
  · exact once_B id rc ow n a m p B l w wr X _ _ HL.out h3 r1 r2 hz1 kA hbr (fun a' w' h1 h2 => ⟨h1, h2⟩)
  · exact once_C id rc ow n _ a m p B l w wr X _ _ HL.out h3 r1 r2 hk hk' hz1 kA hbr (fun a' w' h1 h2 => ⟨h1, h2⟩)
  · exact once_D id rc ow n a m p B l w wr X _ _ HL.out h3 r1 r2 hz1 kA hbr (fun a' w' h1 h2 => ⟨h1, h2⟩)
  all_goals
    have HBR := Lib.hid hbr
    have KA := Lib.hid kA
    have oA := block_lt kA
    have qA : Old wr B := oA
    have lA := blk_of kA
    have mA : Has wr B 16 := has_of kA
    have hzr : w.heap.size ≤ wr.heap.size := hbr.size
    clear kA hbr
    unfold frm
  · go_wp2_with fail
    refine (over_row [⟨id, rc, ow, n, 0, 0, 0, 0, 0, 0, 0, 0, 0, 1, 3, sk⟩] true _ 1 30 #[.int .i64 id, .int .i64 rc, .int .i64 ow, .int .i64 n, .int .i8 0, .int .u16 0, .int .u16 0, .int .u16 0, .int .u16 0, .int .u16 0, .int .u16 0, .int .u16 0, .int .u16 0, .int .i64 1, .int .i8 3, .int .i64 (sk)] _ (by (repeat' (first | (with_reducible assumption) | (with_reducible refine hm_new ?_; (first | rfl | (simp; done) | (simp [more_size]; done) | (simp [more_size]; omega))) | (with_reducible refine block_alloc ?_) | (with_reducible refine hm_more ?_) | (with_reducible refine hm_drew ?_)))) rfl rfl (by decide) (by decide) (by simp [overB, liveB])).mono ?_
    rintro r w2 ⟨rfl, hb⟩
    have hB : Below wr.heap.size wr w2 := by (repeat' (first | (with_reducible exact Below.refl _ _) | (with_reducible assumption) | (with_reducible refine Below.drew ?_) | (with_reducible refine Below.alloc ?_ ?_ _) | (with_reducible refine below_more ?_ ?_ _ _) | (with_reducible refine Below.setCell ?_ ?_ _) | (with_reducible refine Below.trans ?_ (Below.mono (by assumption) ?_)))) <;> first | omega | (simp; done) | (simp; omega) | (simp [more_size]; done) | (simp [more_size]; omega)
    have HB2 := Lib.hid (HBR.out.trans (hB.mono HBR.out.size))
    have KA2 := Lib.hid (block_keep' hB KA.out)
    have lA2 := blk_of KA2.out
    have mA2 : Has w2 B 16 := has_of KA2.out
    have qA2 : Old w2 B := block_lt KA2.out
    clear hb hB lA mA qA oA
    go_wp2_with fail
    refine (over_row [⟨id, rc, ow, n, 0, 0, 0, 0, 0, 0, 0, 0, 0, 1, 3, sk⟩] true _ 1 30 #[.int .i64 id, .int .i64 rc, .int .i64 ow, .int .i64 n, .int .i8 0, .int .u16 0, .int .u16 0, .int .u16 0, .int .u16 0, .int .u16 0, .int .u16 0, .int .u16 0, .int .u16 0, .int .i64 1, .int .i8 3, .int .i64 (sk)] _ (by (repeat' (first | (with_reducible assumption) | (with_reducible refine hm_new ?_; (first | rfl | (simp; done) | (simp [more_size]; done) | (simp [more_size]; omega))) | (with_reducible refine block_alloc ?_) | (with_reducible refine hm_more ?_) | (with_reducible refine hm_drew ?_)))) rfl rfl (by decide) (by decide) (by simp [overB, liveB])).mono ?_
    rintro r w3 ⟨rfl, hb⟩
    have hB : Below w2.heap.size w2 w3 := by (repeat' (first | (with_reducible exact Below.refl _ _) | (with_reducible assumption) | (with_reducible refine Below.drew ?_) | (with_reducible refine Below.alloc ?_ ?_ _) | (with_reducible refine below_more ?_ ?_ _ _) | (with_reducible refine Below.setCell ?_ ?_ _) | (with_reducible refine Below.trans ?_ (Below.mono (by assumption) ?_)))) <;> first | omega | (simp; done) | (simp; omega) | (simp [more_size]; done) | (simp [more_size]; omega)
    have HB3 := Lib.hid (HB2.out.trans (hB.mono HB2.out.size))
    clear hb hB lA2 mA2 qA2
    go_wp2_with fail
    refine (wakes6 _).mono ?_
    rintro r w4 ⟨rfl, hb⟩
    go_wp2_with fail
    go_ret
    exact ⟨rfl, HB3.out.trans (hb.mono HB3.out.size)⟩
  · have hopd : decide (op < 0) = false := by simp; omega
    go_wp2_with fail
    refine (over_row [⟨id, rc, ow, n, 0, 0, 0, 0, 0, 0, 0, 0, 0, 1, 3, sk⟩] true _ 1 30 #[.int .i64 id, .int .i64 rc, .int .i64 ow, .int .i64 n, .int .i8 0, .int .u16 0, .int .u16 0, .int .u16 0, .int .u16 0, .int .u16 0, .int .u16 0, .int .u16 0, .int .u16 0, .int .i64 1, .int .i8 3, .int .i64 (sk)] _ (by (repeat' (first | (with_reducible assumption) | (with_reducible refine hm_new ?_; (first | rfl | (simp; done) | (simp [more_size]; done) | (simp [more_size]; omega))) | (with_reducible refine block_alloc ?_) | (with_reducible refine hm_more ?_) | (with_reducible refine hm_drew ?_)))) rfl rfl (by decide) (by decide) (by simp [overB, liveB])).mono ?_
    rintro r w2 ⟨rfl, hb⟩
    have hB : Below wr.heap.size wr w2 := by (repeat' (first | (with_reducible exact Below.refl _ _) | (with_reducible assumption) | (with_reducible refine Below.drew ?_) | (with_reducible refine Below.alloc ?_ ?_ _) | (with_reducible refine below_more ?_ ?_ _ _) | (with_reducible refine Below.setCell ?_ ?_ _) | (with_reducible refine Below.trans ?_ (Below.mono (by assumption) ?_)))) <;> first | omega | (simp; done) | (simp; omega) | (simp [more_size]; done) | (simp [more_size]; omega)
    have HB2 := Lib.hid (HBR.out.trans (hB.mono HBR.out.size))
    have KA2 := Lib.hid (block_keep' hB KA.out)
    have lA2 := blk_of KA2.out
    have mA2 : Has w2 B 16 := has_of KA2.out
    have qA2 : Old w2 B := block_lt KA2.out
    clear hb hB lA mA qA oA
    go_wp2_with fail
    refine (over_row [⟨id, rc, ow, n, 0, 0, 0, 0, 0, 0, 0, 0, 0, 1, 3, sk⟩] true _ 1 30 #[.int .i64 id, .int .i64 rc, .int .i64 ow, .int .i64 n, .int .i8 0, .int .u16 0, .int .u16 0, .int .u16 0, .int .u16 0, .int .u16 0, .int .u16 0, .int .u16 0, .int .u16 0, .int .i64 1, .int .i8 3, .int .i64 (sk)] _ (by (repeat' (first | (with_reducible assumption) | (with_reducible refine hm_new ?_; (first | rfl | (simp; done) | (simp [more_size]; done) | (simp [more_size]; omega))) | (with_reducible refine block_alloc ?_) | (with_reducible refine hm_more ?_) | (with_reducible refine hm_drew ?_)))) rfl rfl (by decide) (by decide) (by simp [overB, liveB])).mono ?_
    rintro r w3 ⟨rfl, hb⟩
    have hB : Below w2.heap.size w2 w3 := by (repeat' (first | (with_reducible exact Below.refl _ _) | (with_reducible assumption) | (with_reducible refine Below.drew ?_) | (with_reducible refine Below.alloc ?_ ?_ _) | (with_reducible refine below_more ?_ ?_ _ _) | (with_reducible refine Below.setCell ?_ ?_ _) | (with_reducible refine Below.trans ?_ (Below.mono (by assumption) ?_)))) <;> first | omega | (simp; done) | (simp; omega) | (simp [more_size]; done) | (simp [more_size]; omega)
    have HB3 := Lib.hid (HB2.out.trans (hB.mono HB2.out.size))
    clear hb hB lA2 mA2 qA2
    go_wp2_with fail
    refine (wakes6 _).mono ?_
    rintro r w4 ⟨rfl, hb⟩
    go_wp2_with fail
    go_ret
    exact ⟨rfl, HB3.out.trans (hb.mono HB3.out.size)⟩
  · have hopd : decide (op < 0) = false := by simp; omega
    go_wp2_with fail
    refine (over_row [⟨id, rc, ow, n, 0, 0, 0, 0, 0, 0, 0, 0, 0, 1, 3, sk⟩] true _ 1 30 #[.int .i64 id, .int .i64 rc, .int .i64 ow, .int .i64 n, .int .i8 0, .int .u16 0, .int .u16 0, .int .u16 0, .int .u16 0, .int .u16 0, .int .u16 0, .int .u16 0, .int .u16 0, .int .i64 1, .int .i8 3, .int .i64 (sk)] _ (by (repeat' (first | (with_reducible assumption) | (with_reducible refine hm_new ?_; (first | rfl | (simp; done) | (simp [more_size]; done) | (simp [more_size]; omega))) | (with_reducible refine block_alloc ?_) | (with_reducible refine hm_more ?_) | (with_reducible refine hm_drew ?_)))) rfl rfl (by decide) (by decide) (by simp [overB, liveB])).mono ?_
    rintro r w2 ⟨rfl, hb⟩
    have hB : Below wr.heap.size wr w2 := by (repeat' (first | (with_reducible exact Below.refl _ _) | (with_reducible assumption) | (with_reducible refine Below.drew ?_) | (with_reducible refine Below.alloc ?_ ?_ _) | (with_reducible refine below_more ?_ ?_ _ _) | (with_reducible refine Below.setCell ?_ ?_ _) | (with_reducible refine Below.trans ?_ (Below.mono (by assumption) ?_)))) <;> first | omega | (simp; done) | (simp; omega) | (simp [more_size]; done) | (simp [more_size]; omega)
    have HB2 := Lib.hid (HBR.out.trans (hB.mono HBR.out.size))
    have KA2 := Lib.hid (block_keep' hB KA.out)
    have lA2 := blk_of KA2.out
    have mA2 : Has w2 B 16 := has_of KA2.out
    have qA2 : Old w2 B := block_lt KA2.out
    clear hb hB lA mA qA oA
    go_wp2_with fail
    refine (over_row [⟨id, rc, ow, n, 0, 0, 0, 0, 0, 0, 0, 0, 0, 1, 3, sk⟩] true _ 1 30 #[.int .i64 id, .int .i64 rc, .int .i64 ow, .int .i64 n, .int .i8 0, .int .u16 0, .int .u16 0, .int .u16 0, .int .u16 0, .int .u16 0, .int .u16 0, .int .u16 0, .int .u16 0, .int .i64 1, .int .i8 3, .int .i64 (sk)] _ (by (repeat' (first | (with_reducible assumption) | (with_reducible refine hm_new ?_; (first | rfl | (simp; done) | (simp [more_size]; done) | (simp [more_size]; omega))) | (with_reducible refine block_alloc ?_) | (with_reducible refine hm_more ?_) | (with_reducible refine hm_drew ?_)))) rfl rfl (by decide) (by decide) (by simp [overB, liveB])).mono ?_
    rintro r w3 ⟨rfl, hb⟩
    have hB : Below w2.heap.size w2 w3 := by (repeat' (first | (with_reducible exact Below.refl _ _) | (with_reducible assumption) | (with_reducible refine Below.drew ?_) | (with_reducible refine Below.alloc ?_ ?_ _) | (with_reducible refine below_more ?_ ?_ _ _) | (with_reducible refine Below.setCell ?_ ?_ _) | (with_reducible refine Below.trans ?_ (Below.mono (by assumption) ?_)))) <;> first | omega | (simp; done) | (simp; omega) | (simp [more_size]; done) | (simp [more_size]; omega)
    have HB3 := Lib.hid (HB2.out.trans (hB.mono HB2.out.size))
    clear hb hB lA2 mA2 qA2
    go_wp2_with fail
    refine (wakes6 _).mono ?_
    rintro r w4 ⟨rfl, hb⟩
    go_wp2_with fail
    go_ret
    exact ⟨rfl, HB3.out.trans (hb.mono HB3.out.size)⟩
end Go.Proofs.Ytfenloempdhknaa
