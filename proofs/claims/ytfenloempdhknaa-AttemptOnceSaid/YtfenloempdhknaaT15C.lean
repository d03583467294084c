
/- Walks of the seat of chapter 16: AttemptOnce: a round at state C. -/
import Derived.Test.YtfenloempdhknaaT15
namespace Go.Proofs.Ytfenloempdhknaa
open Go.RowKit
attribute [local go_sem ↓] Go.wp_at_zero Go.wp_at_succ
attribute [local go_sem] more_size cell_more_old frozen_more_old setCell_more_old more_drew drew_more old_alloc old_more old_drew old_setCell cell_alloc_old frozen_alloc_old setCell_alloc_old
attribute [local go_sem ↓] load30 store30
attribute [local go_sem] run30 runs30 blk_drew has_drew blk_drewN has_drewN old_drewN blk_alloc_old has_alloc_old blk_alloc_new has_alloc_new setBlk_size setBlk_drew old_setBlk cell_setBlk' cell_setBlk_ne frozen_setBlk blk_setBlk' blk_setBlk_ne has_setBlk' has_setBlk_ne setBlk_alloc_old setBlk_new
attribute [local go_sem high] run_mn4 run_mx4
attribute [local go_sem high] run_mn2 run_mx2
attribute [local go_sem ↓] load39 store39
attribute [local go_sem] runs39

set_option maxRecDepth 100000 in
set_option maxHeartbeats 8000000 in
theorem once_C (id rc ow n op : Int) (a : Option Addr) (m p B : Nat) (l : List Pk) (w wr : World) (X : Nat → Value) (K : Act → World → Prop) (Q : Exit → Act → World → Prop) (hl : RdP w (.slice a m p) l) (h3 : 3 ≤ m) (r1 : rc ≤ 1000) (r2 : ow ≤ 1000) (hk : 0 ≤ op) (hk' : op ≤ 1000)
    (hBw : w.heap.size ≤ B) (kA : wr.heap[B]? = some (.cells #[.int .i64 id, .int .i64 rc, .int .i64 ow, .int .i64 n, .int .i8 0, .int .u16 0, .int .u16 0, .int .u16 0, .int .u16 0, .int .u16 0, .int .u16 0, .int .u16 0, .int .u16 0, .int .i64 1, .int .i8 2, .int .i64 (op)] 30)) (hbr : Below w.heap.size w wr) (hK : ∀ a' w', WI id rc ow n a m p B w a' w' → Wm a' < 2 → K a' w') :
    Code.wp Try.prog body3 (Exit.then K Q) (frm id rc ow n a m p B 0 0 0 op 1 X) wr := by
  have HL := Lib.hid hl
  have HN := Lib.hid hl.len
  have hm0 : (0 : Int) < (m : Int) := by omega
  have hm1 : (1 : Int) < (m : Int) := by omega
  have hm2 : (2 : Int) < (m : Int) := by omega
  have HBR := Lib.hid hbr
  have KA := Lib.hid kA
  have oA := block_lt kA
  have qA : Old wr B := oA
  have lA := blk_of kA
  have mA : Has wr B 16 := has_of kA
  have hzr : w.heap.size ≤ wr.heap.size := hbr.size
  clear kA hbr hl
  conv => arg 2; whnf
  unfold frm
  go_wp2_with fail
  refine (over_row [⟨id, rc, ow, n, 0, 0, 0, 0, 0, 0, 0, 0, 0, 1, 2, op⟩] false _ 1 30 #[.int .i64 id, .int .i64 rc, .int .i64 ow, .int .i64 n, .int .i8 0, .int .u16 0, .int .u16 0, .int .u16 0, .int .u16 0, .int .u16 0, .int .u16 0, .int .u16 0, .int .u16 0, .int .i64 1, .int .i8 2, .int .i64 (op)] _ (by (repeat' (first | (with_reducible assumption) | (with_reducible refine hm_new ?_; (first | rfl | (simp; done) | (simp [more_size]; done) | (simp [more_size]; omega))) | (with_reducible refine block_alloc ?_) | (with_reducible refine hm_more ?_) | (with_reducible refine hm_drew ?_)))) rfl rfl (by decide) (by decide) (by simp [overB, liveB])).mono ?_
  rintro r w2 ⟨rfl, hb⟩
  have hB2 : Below wr.heap.size wr w2 := by (repeat' (first | (with_reducible exact Below.refl _ _) | (with_reducible assumption) | (with_reducible refine Below.drew ?_) | (with_reducible refine Below.alloc ?_ ?_ _) | (with_reducible refine below_more ?_ ?_ _ _) | (with_reducible refine Below.setCell ?_ ?_ _) | (with_reducible refine Below.trans ?_ (Below.mono (by assumption) ?_)))) <;> first | omega | (simp; done) | (simp; omega) | (simp [more_size]; done) | (simp [more_size]; omega)
  have KA2 := Lib.hid (block_keep' hB2 KA.out)
  have HB2 := Lib.hid (HBR.out.trans (hB2.mono hzr))
  have lA2 := blk_of KA2.out
  have mA2 : Has w2 B 16 := has_of KA2.out
  clear hb hB2 lA mA qA oA
  go_wp2_with fail
  refine (offers9 ⟨id, rc, ow, n, 0, 0, 0, 0, 0, 0, 0, 0, 0, 1, 2, op⟩ _).mono ?_
  rintro r w3 ⟨d4, d0, ao, no, po, rfl, hno, hro, hdd, hb⟩
  rw [offers2 d4 d0 rfl, show lostL ⟨id, rc, ow, n, 0, 0, 0, 0, 0, 0, 0, 0, 0, 1, 2, op⟩ = (⟨8, id, n, op, ⟨#[]⟩, 0⟩ : Lt) from if_neg (show ¬ op < 0 by omega)] at hno hro
  obtain rfl : no = 2 := hno
  obtain rfl : d4 = ofV rc 4 := (hdd (show rc ≤ 1125899906842624 by omega)).1
  have KA3 := Lib.hid (block_keep' hb KA2.out)
  have HB3 := Lib.hid (HB2.out.trans (hb.mono HB2.out.size))
  have HRO := Lib.hid hro
  have hz3 := HB3.out.size
  obtain ⟨x0, hx0⟩ : ∃ x, l[1]? = some x := ⟨_, List.getElem?_eq_getElem (by have := HN.out; omega)⟩
  obtain ⟨bp, pp, rfl, hbp, p0, p1, p2⟩ := (HL.out.below HB3.out).at hx0
  simp only [Nat.zero_mul, Nat.one_mul, Nat.add_zero] at p0 p1 p2
  have qp : Old w3 bp := hbp
  clear hdd hb hro lA2 mA2
  rcases kk2 x0.i with hv | hv
  · obtain ⟨bo, oo, rfl, hbo, c0, c1, c2, c3, c4, c5, c6, c7, c8⟩ := HRO.out.at (k := 0) rfl
    simp only [Nat.zero_mul, Nat.one_mul, Nat.add_zero] at c0 c1 c2 c3 c4 c5 c6 c7 c8
    have qo : Old w3 bo := hbo
    go_wp2_with fail
    go_quiet (fail)
    generalize hW : (w3.alloc _).drewN _ = w4
    have KA4 : Hid (w4.heap[B]? = some (.cells #[.int .i64 id, .int .i64 rc, .int .i64 ow, .int .i64 n, .int .i8 0, .int .u16 0, .int .u16 0, .int .u16 0, .int .u16 0, .int .u16 0, .int .u16 0, .int .u16 0, .int .u16 0, .int .i64 1, .int .i8 2, .int .i64 (op)] 30)) := Lib.hid (by rw [← hW]; exact hm_drewN (block_alloc KA3.out))
    have kM : w4.heap[w3.heap.size]? = some (.cells #[.int .i8 0, .int .i64 0, .int .i64 0, .int .i64 0, .string ⟨#[]⟩, .int .i64 0] 36) := by rw [← hW]; exact hm_drewN (by (repeat' (first | (with_reducible assumption) | (with_reducible refine hm_new ?_; (first | rfl | (simp; done) | (simp [more_size]; done) | (simp [more_size]; omega))) | (with_reducible refine block_alloc ?_) | (with_reducible refine hm_more ?_) | (with_reducible refine hm_drew ?_))))
    have HB4 : Hid (Below w.heap.size w w4) := Lib.hid (by rw [← hW]; exact belowN (HB3.out.alloc HB3.out.size _) _)
    have lA4 := blk_of KA4.out
    have mA4 : Has w4 B 16 := has_of KA4.out
    have oA4 := block_lt KA4.out
    have qA4 : Old w4 B := oA4
    have cM := cell_block kM
    have oM := block_lt kM
    have qM : Old w4 w3.heap.size := oM
    clear hW kM
    clear c0 c1 c2 c3 c4 c5 c6 c7 c8 p0 p1 p2 qp qo
    go_wp2_with fail
    refine (tk_tn id rc ow n 1 op zLt _).mono ?_
    rintro r w5 ⟨ad, cd, qd, rfl, hcd, hod, hb5⟩
    obtain rfl : cd = 0 := hcd
    have KA5 := Lib.hid (block_keep' hb5 KA4.out)
    have HB5 := Lib.hid (HB4.out.trans (hb5.mono HB4.out.size))
    have hod' := owns_same (w' := setBlk w5 B #[.int .i64 id, .int .i64 rc, .int .i64 ow, .int .i64 n, .int .i8 0, .int .u16 0, .int .u16 0, .int .u16 0, .int .u16 0, .int .u16 0, .int .u16 0, .int .u16 0, .int .u16 0, .int .i64 1, .int .i8 3, .int .i64 (op)]) hod (fun k hk => setBlk_ne _ _ _ _ (by omega))
    have HDq := Lib.hid (show RdD (setBlk w5 B #[.int .i64 id, .int .i64 rc, .int .i64 ow, .int .i64 n, .int .i8 0, .int .u16 0, .int .u16 0, .int .u16 0, .int .u16 0, .int .u16 0, .int .u16 0, .int .u16 0, .int .u16 0, .int .i64 1, .int .i8 3, .int .i64 (op)]) (.slice ad 0 qd) [] from rdD_of rfl hod')
    have mA5 : Has w5 B 16 := has_of KA5.out
    have oA5 := block_lt KA5.out
    have qA5 : Old w5 B := oA5
    have KAq := Lib.hid (setBlk_at (cs := #[.int .i64 id, .int .i64 rc, .int .i64 ow, .int .i64 n, .int .i8 0, .int .u16 0, .int .u16 0, .int .u16 0, .int .u16 0, .int .u16 0, .int .u16 0, .int .u16 0, .int .u16 0, .int .i64 1, .int .i8 3, .int .i64 (op)]) KA5.out rfl)
    have HBq := Lib.hid (Below.setBlk HB5.out hBw #[.int .i64 id, .int .i64 rc, .int .i64 ow, .int .i64 n, .int .i8 0, .int .u16 0, .int .u16 0, .int .u16 0, .int .u16 0, .int .u16 0, .int .u16 0, .int .u16 0, .int .u16 0, .int .i64 1, .int .i8 3, .int .i64 (op)])
    clear hb5 hod hod' lA4 mA4 oA4 qA4 cM oM qM
    go_upto_region 27 with fail
    generalize (setBlk w5 B #[.int .i64 id, .int .i64 rc, .int .i64 ow, .int .i64 n, .int .i8 0, .int .u16 0, .int .u16 0, .int .u16 0, .int .u16 0, .int .u16 0, .int .u16 0, .int .u16 0, .int .u16 0, .int .i64 1, .int .i8 3, .int .i64 (op)]) = wq at *
    have lAq := blk_of KAq.out
    have mAq : Has wq B 16 := has_of KAq.out
    have oAq := block_lt KAq.out
    have qAq : Old wq B := oAq
    clear mA5 oA5 qA5
    go_wp2_with fail
    refine wp_loop_rounds 1 ?_
    rw [rounds_succ]
    go_wp2_with fail
    refine (slots_row [⟨id, rc, ow, n, 0, 0, 0, 0, 0, 0, 0, 0, 0, 1, 3, op⟩] 0 _ 1 30 #[.int .i64 id, .int .i64 rc, .int .i64 ow, .int .i64 n, .int .i8 0, .int .u16 0, .int .u16 0, .int .u16 0, .int .u16 0, .int .u16 0, .int .u16 0, .int .u16 0, .int .u16 0, .int .i64 1, .int .i8 3, .int .i64 (op)] _ (by (repeat' (first | (with_reducible assumption) | (with_reducible refine hm_new ?_; (first | rfl | (simp; done) | (simp [more_size]; done) | (simp [more_size]; omega))) | (with_reducible refine block_alloc ?_) | (with_reducible refine hm_more ?_) | (with_reducible refine hm_drew ?_)))) rfl rfl (by decide) (by decide) (by simp [slotsN, slotB])).mono ?_
    rintro r w6 ⟨rfl, hb6⟩
    have hB6 : Below wq.heap.size wq w6 := by (repeat' (first | (with_reducible exact Below.refl _ _) | (with_reducible assumption) | (with_reducible refine Below.drew ?_) | (with_reducible refine Below.alloc ?_ ?_ _) | (with_reducible refine below_more ?_ ?_ _ _) | (with_reducible refine Below.setCell ?_ ?_ _) | (with_reducible refine Below.trans ?_ (Below.mono (by assumption) ?_)))) <;> first | omega | (simp; done) | (simp; omega) | (simp [more_size]; done) | (simp [more_size]; omega)
    have KA6 := Lib.hid (block_keep' hB6 KAq.out)
    have HB6 := Lib.hid (HBq.out.trans (hB6.mono HBq.out.size))
    clear hb6 hB6 lAq mAq oAq qAq
    go_wp2_with fail
    exact hK _ _ (wi_mk (3) (op) (0) (0) (1) (op) (2) (by kernel_rfl) (.inr (.inr (.inr (.inr (.inr (.inr ⟨rfl, rfl, rfl, rfl, rfl, hk⟩)))))) KA6.out HB6.out) (wm_lt (2) (by kernel_rfl) (by decide))
  · obtain ⟨bo, oo, rfl, hbo, c0, c1, c2, c3, c4, c5, c6, c7, c8⟩ := HRO.out.at (k := 1) rfl
    simp only [Nat.zero_mul, Nat.one_mul, Nat.add_zero] at c0 c1 c2 c3 c4 c5 c6 c7 c8
    have qo : Old w3 bo := hbo
    go_wp2_with fail
    go_quiet ((go_at_call 10; exact quiet_left' (of10 rc 4 _ (by decide) (by decide) (by omega))))
    generalize hW : (w3.alloc _).drewN _ = w4
    have KA4 : Hid (w4.heap[B]? = some (.cells #[.int .i64 id, .int .i64 rc, .int .i64 ow, .int .i64 n, .int .i8 0, .int .u16 0, .int .u16 0, .int .u16 0, .int .u16 0, .int .u16 0, .int .u16 0, .int .u16 0, .int .u16 0, .int .i64 1, .int .i8 2, .int .i64 (op)] 30)) := Lib.hid (by rw [← hW]; exact hm_drewN (block_alloc KA3.out))
    have kM : w4.heap[w3.heap.size]? = some (.cells #[.int .i8 0, .int .i64 0, .int .i64 0, .int .i64 0, .string ⟨#[]⟩, .int .i64 0] 36) := by rw [← hW]; exact hm_drewN (by (repeat' (first | (with_reducible assumption) | (with_reducible refine hm_new ?_; (first | rfl | (simp; done) | (simp [more_size]; done) | (simp [more_size]; omega))) | (with_reducible refine block_alloc ?_) | (with_reducible refine hm_more ?_) | (with_reducible refine hm_drew ?_))))
    have HB4 : Hid (Below w.heap.size w w4) := Lib.hid (by rw [← hW]; exact belowN (HB3.out.alloc HB3.out.size _) _)
    have lA4 := blk_of KA4.out
    have mA4 : Has w4 B 16 := has_of KA4.out
    have oA4 := block_lt KA4.out
    have qA4 : Old w4 B := oA4
    have cM := cell_block kM
    have oM := block_lt kM
    have qM : Old w4 w3.heap.size := oM
    clear hW kM
    clear c0 c1 c2 c3 c4 c5 c6 c7 c8 p0 p1 p2 qp qo
    go_wp2_with fail
    refine (tk_td id rc ow n 1 op zLt _ hk (by omega)).mono ?_
    rintro r w5 ⟨ad, cd, qd, rfl, hcd, hod, hb5⟩
    obtain rfl : cd = 2 := hcd
    have KA5 := Lib.hid (block_keep' hb5 KA4.out)
    have HB5 := Lib.hid (HB4.out.trans (hb5.mono HB4.out.size))
    have hod' := owns_same (w' := setBlk w5 B #[.int .i64 id, .int .i64 rc, .int .i64 ow, .int .i64 n, .int .i8 0, .int .u16 0, .int .u16 0, .int .u16 0, .int .u16 0, .int .u16 0, .int .u16 0, .int .u16 0, .int .u16 0, .int .i64 1, .int .i8 3, .int .i64 (op)]) hod (fun k hk => setBlk_ne _ _ _ _ (by omega))
    have HDq := Lib.hid (show RdD (setBlk w5 B #[.int .i64 id, .int .i64 rc, .int .i64 ow, .int .i64 n, .int .i8 0, .int .u16 0, .int .u16 0, .int .u16 0, .int .u16 0, .int .u16 0, .int .u16 0, .int .u16 0, .int .u16 0, .int .i64 1, .int .i8 3, .int .i64 (op)]) (.slice ad 2 qd) [⟨6, op⟩, ⟨3, ofV ow 4⟩] from rdD_of rfl hod')
    have mA5 : Has w5 B 16 := has_of KA5.out
    have oA5 := block_lt KA5.out
    have qA5 : Old w5 B := oA5
    have KAq := Lib.hid (setBlk_at (cs := #[.int .i64 id, .int .i64 rc, .int .i64 ow, .int .i64 n, .int .i8 0, .int .u16 0, .int .u16 0, .int .u16 0, .int .u16 0, .int .u16 0, .int .u16 0, .int .u16 0, .int .u16 0, .int .i64 1, .int .i8 3, .int .i64 (op)]) KA5.out rfl)
    have HBq := Lib.hid (Below.setBlk HB5.out hBw #[.int .i64 id, .int .i64 rc, .int .i64 ow, .int .i64 n, .int .i8 0, .int .u16 0, .int .u16 0, .int .u16 0, .int .u16 0, .int .u16 0, .int .u16 0, .int .u16 0, .int .u16 0, .int .i64 1, .int .i8 3, .int .i64 (op)])
    clear hb5 hod hod' lA4 mA4 oA4 qA4 cM oM qM
    go_upto_region 27 with fail
    generalize (setBlk w5 B #[.int .i64 id, .int .i64 rc, .int .i64 ow, .int .i64 n, .int .i8 0, .int .u16 0, .int .u16 0, .int .u16 0, .int .u16 0, .int .u16 0, .int .u16 0, .int .u16 0, .int .u16 0, .int .i64 1, .int .i8 3, .int .i64 (op)]) = wq at *
    have lAq := blk_of KAq.out
    have mAq : Has wq B 16 := has_of KAq.out
    have oAq := block_lt KAq.out
    have qAq : Old wq B := oAq
    clear mA5 oA5 qA5
    obtain ⟨bd, od, rfl, hbd, -⟩ := HDq.out.at (k := 0) rfl
    clear lAq mAq oAq qAq
    go_wp2_with fail
    go_loopw [13, 14, 192] (fun s13 s14 s192 wr => ((s13 = .int .i64 0 ∧ s14 = .int .i64 0 ∧ s192 = .int .i64 0) ∨ (s13 = .int .i64 0 ∧ s14 = .int .i64 1 ∧ s192 = .int .i64 1) ∨ (s13 = .int .i64 1 ∧ s14 = .int .i64 1 ∧ s192 = .int .i64 2)) ∧ Below wq.heap.size wq wr) (fun _ _ i _ => 2 - (intOf i).toNat)
    case atStart => exact ⟨.inl ⟨rfl, rfl, rfl⟩, Below.refl _ _⟩
    case round =>
      obtain ⟨hs, hbd⟩ := hrel
      have HBD := Lib.hid hbd
      have KAr := Lib.hid (block_keep' hbd KAq.out)
      have hzq : wq.heap.size ≤ wr.heap.size := hbd.size
      have lAr := blk_of KAr.out
      have mAr : Has wr B 16 := has_of KAr.out
      have oAr := block_lt KAr.out
      have qAr : Old wr B := oAr
      clear hbd
      rcases hs with ⟨rfl, rfl, rfl⟩ | ⟨rfl, rfl, rfl⟩ | ⟨rfl, rfl, rfl⟩
      · have hrun := runDe (HDq.out.below HBD.out) (k := 0) rfl
        simp only [Nat.zero_mul, Nat.one_mul, Nat.add_zero] at hrun
        go_wp2_with fail
        go_roundw
        case rel => exact ⟨.inr (.inl ⟨rfl, rfl, rfl⟩), HBD.out.alloc hzq _⟩
        case measure => first | (simp [intOf]; done) | (simp [intOf]; omega)
      · have hrun := runDe (HDq.out.below HBD.out) (k := 1) rfl
        simp only [Nat.zero_mul, Nat.one_mul, Nat.add_zero] at hrun
        go_wp2_with fail
        go_quiet ((go_at_call 10; exact quiet_left' (of10 ow 4 _ (by decide) (by decide) (by omega))))
        go_wp2_with fail
        go_roundw
        case rel => exact ⟨.inr (.inr (⟨rfl, rfl, rfl⟩)), belowN (HBD.out.alloc hzq _) _⟩
        case measure => first | (simp [intOf]; done) | (simp [intOf]; omega)
      · go_wp2_with fail
        have HBr := Lib.hid (HBq.out.trans (HBD.out.mono HBq.out.size))
        refine (slots_row [⟨id, rc, ow, n, 0, 0, 0, 0, 0, 0, 0, 0, 0, 1, 3, op⟩] 0 _ 1 30 #[.int .i64 id, .int .i64 rc, .int .i64 ow, .int .i64 n, .int .i8 0, .int .u16 0, .int .u16 0, .int .u16 0, .int .u16 0, .int .u16 0, .int .u16 0, .int .u16 0, .int .u16 0, .int .i64 1, .int .i8 3, .int .i64 (op)] _ (by (repeat' (first | (with_reducible assumption) | (with_reducible refine hm_new ?_; (first | rfl | (simp; done) | (simp [more_size]; done) | (simp [more_size]; omega))) | (with_reducible refine block_alloc ?_) | (with_reducible refine hm_more ?_) | (with_reducible refine hm_drew ?_)))) rfl rfl (by decide) (by decide) (by simp [slotsN, slotB])).mono ?_
        rintro r w6 ⟨rfl, hb6⟩
        have hB6 : Below wr.heap.size wr w6 := by (repeat' (first | (with_reducible exact Below.refl _ _) | (with_reducible assumption) | (with_reducible refine Below.drew ?_) | (with_reducible refine Below.alloc ?_ ?_ _) | (with_reducible refine below_more ?_ ?_ _ _) | (with_reducible refine Below.setCell ?_ ?_ _) | (with_reducible refine Below.trans ?_ (Below.mono (by assumption) ?_)))) <;> first | omega | (simp; done) | (simp; omega) | (simp [more_size]; done) | (simp [more_size]; omega)
        have KA6 := Lib.hid (block_keep' hB6 KAr.out)
        have HB6 := Lib.hid (HBr.out.trans (hB6.mono HBr.out.size))
        clear hb6 hB6 lAr mAr oAr qAr
        go_wp2_with fail
        exact hK _ _ (wi_mk (3) (op) (1) (1) (0) (op) (2) (by kernel_rfl) (.inr (.inr (.inr (.inr (.inr (.inl ⟨rfl, rfl, rfl, rfl, rfl, hk⟩)))))) KA6.out HB6.out) (wm_lt (2) (by kernel_rfl) (by decide))
end Go.Proofs.Ytfenloempdhknaa
