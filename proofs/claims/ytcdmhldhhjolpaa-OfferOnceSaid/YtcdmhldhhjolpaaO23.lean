
/- Walks of the seat of chapter 07: OfferOnce: the walk. -/
import Derived.Test.YtcdmhldhhjolpaaO20
namespace Go.Proofs.Ytcdmhldhhjolpaa
open Go.RowKit
attribute [local go_sem ↓] Go.wp_at_zero Go.wp_at_succ
attribute [local go_sem] more_size cell_more_old frozen_more_old setCell_more_old more_drew drew_more old_alloc old_more old_drew old_setCell cell_alloc_old frozen_alloc_old setCell_alloc_old
attribute [local go_sem ↓] load42 store42 load61 store61 load38 store38 load30 store30
attribute [local go_sem] run42 runs42 run61 runs61 run38 runs38 run30 runs30 blk_drew has_drewP blk_drewN has_drewNP old_drewN blk_alloc_old has_alloc_old blk_alloc_new has_alloc_new setBlk_size setBlk_drew old_setBlk cell_setBlk' cell_setBlk_ne frozen_setBlk blk_setBlk' blk_setBlk_ne has_setBlk' has_setBlk_ne setBlk_alloc_old setBlk_new

theorem rAll_kindP {du : List Du} {ck : Int} {dial look : List Bool} {rows : List (List Ofr)} {m : Mt} (h : m ∈ rAll du ck dial look rows) : ∃ (p i : Nat) (row : List Ofr) (o : Ofr), m.p = p ∧ m.i = i ∧ rows[p]? = some row ∧ row[i]? = some o ∧ KindP rows du p o m.q m.j := by
  cases rAll_kind h with
  | alone p i row a h1 h2 h3 => exact ⟨p, i, row, a, rfl, rfl, h1, h2, .inl ⟨rfl, rfl, h3⟩⟩
  | take p i row a k d h1 h2 h3 h4 h5 h6 => exact ⟨p, i, row, a, rfl, rfl, h1, h2, .inr (.inl ⟨rfl, rfl, h3, k, d, h4, h5, h6⟩)⟩
  | meet p i q j row row2 a b k d h1 h2 h3 h4 h5 h6 h7 h8 h9 h10 h11 h12 => exact ⟨p, i, row, a, rfl, rfl, h1, h2, .inr (.inr ⟨q, j, row2, b, k, d, rfl, rfl, h3, h4, h5, h6, h7, h8, h9, h10, h11, h12⟩)⟩

set_option maxRecDepth 100000 in
set_option maxHeartbeats 8000000 in
theorem once3_all (ar ad a3 a4 : Option Addr) (nr pr nd pd n3 p3 n4 p4 : Nat) (ck : Int) (rows : List (List Ofr)) (du : List Du) (dial look : List Bool) (w : World)
    (hR : RdRR w (.slice ar nr pr) rows) (hU : RdU w (.slice ad nd pd) du) (hD : RdB w (.slice a3 n3 p3) dial) (hL : RdB w (.slice a4 n4 p4) look) (hk : ∀ r ∈ rows, ∀ o ∈ r, o.k ≤ 127) :
    Calls Try.prog 3 #[.slice ar nr pr, .slice ad nd pd, .int .i64 ck, .slice a3 n3 p3, .slice a4 n4 p4] w fun r w' => r = .returned (.bool true) ∧ Below w.heap.size w w' := by
  have HR := Lib.hid hR
  have HU := Lib.hid hU
  have HD := Lib.hid hD
  have HL := Lib.hid hL
  have HK := Lib.hid hk
  clear hR hU hD hL hk
  go_enter Try.func3, Try.ntmps3
  go_wp2_with fail
  refine (great6 ar ad nr pr nd pd rows du w HR.out HU.out).mono ?_
  rintro r w0 ⟨rfl | ⟨rfl, hr1, hr2⟩, rfl⟩
  · go_wp2_with fail
    refine (wakes7 _).mono ?_
    rintro r w1 ⟨rfl, hb⟩
    go_wp2_with fail
    go_ret
    exact ⟨rfl, hb⟩
  · have HR2 := Lib.hid hr2
    have hlen := rAll_len du ck dial look rows hr1 hr2
    have HLen := Lib.hid hlen
    clear hr2 hlen
    go_wp2_with fail
    refine (all8 ar ad a3 a4 nr pr nd pd n3 p3 n4 p4 ck rows du dial look w HR.out HU.out HD.out HL.out (by omega) (fun r hr => by have := HR2.out r hr; omega) HK.out HLen.out).mono ?_
    rintro r w1 ⟨al, nl, pl, rfl, hc, ho, hb1⟩
    have HB1 := Lib.hid hb1
    have HR1 := Lib.hid (HR.out.below hb1)
    have HU1 := Lib.hid (HU.out.below hb1)
    have hM : RdM w1 (.slice al nl pl) (rAll du ck dial look rows) := by
      unfold RdM
      rw [← hc]
      exact RdF.of_owns ho
    have HM := Lib.hid hM
    have HC := Lib.hid hc
    clear hb1 ho hM hc HR HU HD HL
    go_wp2_with fail
    refine wp_loop (fun a' w' => WI ar ad al nr pr nd pd nl pl w1 a' w') (fun a' _ => Wm nl a') (wi_mk 0 (by kernel_rfl) (by omega) (Below.refl _ _)) (fun a' wr hI => ?_)
    obtain ⟨k, X, rfl, hk, hbr⟩ := hI
    by_cases hlt : k < nl
    · obtain ⟨m, hm⟩ : ∃ m, (rAll du ck dial look rows)[k]? = some m := ⟨_, List.getElem?_eq_getElem (by have := HC.out; omega)⟩
      obtain ⟨p, i, row, o, h1, h2, h3, h4, h5⟩ := rAll_kindP (List.mem_of_getElem? hm)
      obtain ⟨mp, mi, mq, mj⟩ := m
      simp only at h1 h2 h5
      subst h1 h2
      refine once_round ar ad al nr pr nd pd nl pl k rows du (rAll du ck dial look rows) p i mq mj row o w1 wr X _ _ HR1.out HU1.out HM.out hm h3 h4 HLen.out (fun k' x e hx => by subst e; exact rAll_less hx hm) hbr h5 (fun a' w' h1 h2 => ⟨h1, h2⟩)
    · obtain rfl : k = nl := by omega
      have HBR := Lib.hid (HB1.out.trans (hbr.mono HB1.out.size))
      clear hbr
      unfold frm
      go_wp2_with fail
      refine (wakes7 _).mono ?_
      rintro r w4 ⟨rfl, hb⟩
      go_wp2_with fail
      go_ret
      exact ⟨rfl, HBR.out.trans (hb.mono HBR.out.size)⟩
end Go.Proofs.Ytcdmhldhhjolpaa
