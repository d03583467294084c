
/- Walks of the seat of chapter 07: OfferMore. -/
import Derived.Test.YtcdmhldhhjolpaaO28
namespace Go.Proofs.Ytcdmhldhhjolpaa
open Go.RowKit
attribute [local go_sem ↓] Go.wp_at_zero Go.wp_at_succ
attribute [local go_sem] more_size cell_more_old frozen_more_old setCell_more_old more_drew drew_more old_alloc old_more old_drew old_setCell cell_alloc_old frozen_alloc_old setCell_alloc_old
attribute [local go_sem ↓] load42 store42 load61 store61 load38 store38 load30 store30
attribute [local go_sem] run42 runs42 run61 runs61 run38 runs38 run30 runs30 blk_drew has_drewP blk_drewN has_drewNP old_drewN blk_alloc_old has_alloc_old blk_alloc_new has_alloc_new setBlk_size setBlk_drew old_setBlk cell_setBlk' cell_setBlk_ne frozen_setBlk blk_setBlk' blk_setBlk_ne has_setBlk' has_setBlk_ne setBlk_alloc_old setBlk_new
open Go.Shelf
theorem info31 : (Try.prog.info? 31).map (fun i => (i.zero, i.size, i.bytes)) = some (some (.slice none 0 0), 1, 24) := by kernel_rfl

set_option maxRecDepth 100000 in
set_option maxHeartbeats 8000000 in
theorem more5_all (ar ad a4 a5 am : Option Addr) (nr pr nd pd n4 p4 n5 p5 nm pm : Nat) (ck later gone : Int) (rows : List (List Ofr)) (du : List Du) (dial look : List Bool) (more : List Ofr) (w : World)
    (hR : RdRR w (.slice ar nr pr) rows) (hU : RdU w (.slice ad nd pd) du) (hD : RdB w (.slice a4 n4 p4) dial) (hL : RdB w (.slice a5 n5 p5) look) (hM : RdO w (.slice am nm pm) more) (hk : ∀ r ∈ rows, ∀ o ∈ r, o.k ≤ 127) (hkm : ∀ o ∈ more, o.k ≤ 127) (hsz : nr * 24 ≤ 140737488351232) :
    Calls Try.prog 5 #[.slice ar nr pr, .slice ad nd pd, .int .i64 ck, .int .i64 later, .slice a4 n4 p4, .slice a5 n5 p5, .slice am nm pm, .int .i64 gone] w fun r w' => r = .returned (.bool true) ∧ Below w.heap.size w w' := by
  obtain ⟨i0, hi0, hz0, hz1, hz2⟩ := info_parts info31
  obtain ⟨j0, hj0, hy0, hy1, hy2⟩ := info_parts info30
  obtain ⟨vs, hvs, heach⟩ := hR
  have hnr : nr = rows.length := (RdF.le hvs).1
  have HR : Hid (RdRR w (.slice ar nr pr) rows) := Lib.hid ⟨vs, hvs, heach⟩
  have HVS := Lib.hid (show RdF w 1 (.slice ar nr pr) nr vs by rw [hnr]; rw [hnr] at hvs; exact hvs)
  have HEA := Lib.hid (show Each w vs rows from heach)
  have HVL := Lib.hid hvs.1
  have HONE := Lib.hid (each_one hvs.1 heach)
  have HU := Lib.hid hU
  have HD := Lib.hid hD
  have HL := Lib.hid hL
  have HM := Lib.hid hM
  have HNR := Lib.hid hnr
  have HK := Lib.hid hk
  have HKM := Lib.hid hkm
  clear hU hD hL hM hk hkm hvs heach hnr
  go_enter Try.func5, Try.ntmps5
  go_wp2_with (first | (at_builtin; refine wpList_append_rdG rfl (.tmp 23) (.tmp 24) 22 rfl w.heap.size 31 i0 (.slice none 0 0) 1 24 Try.underlying22 hi0 hz0 hz1 hz2 rfl (by decide) _ 0 [] rfl (owns_empty w w.heap.size 31 1 (Nat.le_refl _)) _ nr _ rfl (RdF.below HVS.out (by (repeat' (first | (with_reducible exact Below.refl _ _) | (with_reducible assumption) | (with_reducible refine Below.drew ?_) | (with_reducible refine Below.alloc ?_ ?_ _) | (with_reducible refine below_more ?_ ?_ _ _) | (with_reducible refine Below.setCell ?_ ?_ _) | (with_reducible refine Below.trans ?_ (Below.mono (by assumption) ?_)))) <;> first | omega | (simp; done) | (simp; omega) | (simp [more_size]; done) | (simp [more_size]; omega))) HONE.out (by unfold maxLen; omega) (by omega) (by simp) ?_))
  intro v1 w1 hown1 hgrow1
  have hb1 : Below w.heap.size w w1 := ((Below.refl _ w).alloc (Nat.le_refl _) _).grown hgrow1 (by simp) (fun j hj => by cases hj; exact Nat.le_refl _)
  have HO1 := Lib.hid hown1
  have HB1 := Lib.hid hb1
  clear hgrow1 hown1 hb1
  go_wp2_with (first | (at_builtin; refine wpList_append_rdG rfl (.tmp 25) (.tmp 27) 22 rfl w.heap.size 31 i0 (.slice none 0 0) 1 24 Try.underlying22 hi0 hz0 hz1 hz2 rfl (by decide) v1 nr vs rfl (HO1.out.alloc _) _ 1 _ rfl (RdF.of_block (xs := [.slice am nm pm]) (by (repeat' (first | (with_reducible assumption) | (with_reducible refine hm_new ?_; (first | rfl | (simp; done) | (simp [more_size]; done) | (simp [more_size]; omega))) | (with_reducible refine block_alloc ?_) | (with_reducible refine hm_more ?_) | (with_reducible refine hm_drew ?_)))) rfl (by decide)) (by intro u hu; simp at hu; subst hu; rfl) (by unfold maxLen; omega) (by omega) (by have := HB1.out.size; simp; omega) ?_))
  intro v2 w2 hown2 hgrow2
  have hb2 : Below w.heap.size w w2 := (HB1.out.alloc HB1.out.size _).grown hgrow2 (by have := HB1.out.size; simp; omega) (fun j hj => ownBlock_ge HO1.out hj)
  have hr2 : RdRR w2 v2 (rows ++ [more]) := rr_more HVL.out hown2 (HEA.out.below hb2) (HM.out.below hb2)
  obtain ⟨a2, p2, rfl⟩ : ∃ a2 p2, v2 = .slice a2 (nr + 1) p2 := by
    obtain ⟨a2, p2, h⟩ := (RdF.of_owns hown2).shape
    exact ⟨a2, p2, h⟩
  have HR2 := Lib.hid hr2
  have HB2 := Lib.hid hb2
  clear hgrow2 hown2 hb2 hr2 HO1 HB1
  go_wp2_with fail
  refine (great6 a2 ad (nr + 1) p2 nd pd (rows ++ [more]) du w2 HR2.out (HU.out.below HB2.out)).mono ?_
  rintro r w3 ⟨rfl | ⟨rfl, hg1, hg2⟩, rfl⟩
  · go_wp2_with fail
    refine (wakes7 _).mono ?_
    rintro r w4 ⟨rfl, hb⟩
    go_wp2_with fail
    go_ret
    exact ⟨rfl, HB2.out.trans (hb.mono HB2.out.size)⟩
  · by_cases hlt : later < ck
    · clear hg1 hg2
      go_wp2_with fail
      refine (wakes7 _).mono ?_
      rintro r w4 ⟨rfl, hb⟩
      go_wp2_with fail
      go_ret
      exact ⟨rfl, HB2.out.trans (hb.mono HB2.out.size)⟩
    · by_cases h0 : nr = 0
      · have h0' : ((nr : Int) == 0) = true := by simp [h0]
        clear hg1 hg2
        go_wp2_with fail
        refine (wakes7 _).mono ?_
        rintro r w4 ⟨rfl, hb⟩
        go_wp2_with fail
        go_ret
        exact ⟨rfl, HB2.out.trans (hb.mono HB2.out.size)⟩
      · have h0' : ((nr : Int) == 0) = false := by simp [h0]
        have hlt' : decide (later < ck) = false := by simpa using hlt
        have hr1 : rows.length ≤ 29 := by simp at hg1; omega
        have HG2 := Lib.hid (show ∀ r ∈ rows, r.length ≤ 100 from fun r hr => hg2 r (by simp [hr]))
        have HG3 := Lib.hid (show more.length ≤ 100 from hg2 more (by simp))
        have HG1 := Lib.hid hg1
        have HGG := Lib.hid hg2
        clear hg1 hg2
        go_wp2_with fail
        refine (all8 ar ad a4 a5 nr pr nd pd n4 p4 n5 p5 ck rows du dial look _ (HR.out.below HB2.out) (HU.out.below HB2.out) (HD.out.below HB2.out) (HL.out.below HB2.out) (by omega) (fun r hr => by have := HG2.out r hr; omega) HK.out (rAll_len _ _ _ _ _ (by omega) HG2.out)).mono ?_
        rintro r w3 ⟨al, nl, pl, rfl, hc, ho, hb3⟩
        have hM3 : RdM w3 (.slice al nl pl) (rAll du ck dial look rows) := by
          unfold RdM
          rw [← hc]
          exact RdF.of_owns ho
        have HM3 := Lib.hid hM3
        have HC3 := Lib.hid hc
        have HB3 := Lib.hid (HB2.out.trans (hb3.mono HB2.out.size))
        clear hb3 ho hM3 hc HR2 HB2
        have hz3 := HB3.out.size
        go_wp2_with (first | (at_builtin; refine wpList_append_rdG rfl (.tmp 48) (.tmp 49) 22 rfl w3.heap.size 31 i0 (.slice none 0 0) 1 24 Try.underlying22 hi0 hz0 hz1 hz2 rfl (by decide) _ 0 [] rfl (owns_empty w3 w3.heap.size 31 1 (Nat.le_refl _)) _ nr _ rfl (RdF.below HVS.out (HB3.out.alloc hz3 _)) HONE.out (by unfold maxLen; omega) (by omega) (by simp) ?_))
        intro v4 w4 hown4 hgrow4
        have hb4 : Below w3.heap.size w3 w4 := ((Below.refl _ w3).alloc (Nat.le_refl _) _).grown hgrow4 (by simp) (fun j hj => by cases hj; exact Nat.le_refl _)
        have HO4 := Lib.hid hown4
        have HB4 := Lib.hid hb4
        clear hgrow4 hown4 hb4
        go_wp2_with (first | (at_builtin; refine wpList_append_rdG rfl (.tmp 50) (.tmp 52) 22 rfl w3.heap.size 31 i0 (.slice none 0 0) 1 24 Try.underlying22 hi0 hz0 hz1 hz2 rfl (by decide) v4 nr vs rfl (HO4.out.alloc _) _ 1 _ rfl (RdF.of_block (xs := [.slice am nm pm]) (by (repeat' (first | (with_reducible assumption) | (with_reducible refine hm_new ?_; (first | rfl | (simp; done) | (simp [more_size]; done) | (simp [more_size]; omega))) | (with_reducible refine block_alloc ?_) | (with_reducible refine hm_more ?_) | (with_reducible refine hm_drew ?_)))) rfl (by decide)) (by intro u hu; simp at hu; subst hu; rfl) (by unfold maxLen; omega) (by omega) (by have := HB4.out.size; simp; omega) ?_))
        intro v5 w5 hown5 hgrow5
        have hb5 : Below w3.heap.size w3 w5 := (HB4.out.alloc HB4.out.size _).grown hgrow5 (by have := HB4.out.size; simp; omega) (fun j hj => ownBlock_ge HO4.out hj)
        have hbw5 : Below w.heap.size w w5 := HB3.out.trans (hb5.mono hz3)
        have hr5 : RdRR w5 v5 (rows ++ [more]) := rr_more HVL.out hown5 (HEA.out.below hbw5) (HM.out.below hbw5)
        obtain ⟨a5', p5', rfl⟩ : ∃ a2 p2, v5 = .slice a2 (nr + 1) p2 := by
          obtain ⟨a2, p2, h⟩ := (RdF.of_owns hown5).shape
          exact ⟨a2, p2, h⟩
        have HR5 := Lib.hid hr5
        have HB5 := Lib.hid hb5
        have HW5 := Lib.hid hbw5
        clear hgrow5 hown5 hb5 hbw5 hr5 HO4 HB4
        go_wp2_with fail
        refine (all8 a5' ad a4 a5 (nr + 1) p5' nd pd n4 p4 n5 p5 later (rows ++ [more]) du dial look _ HR5.out (HU.out.below HW5.out) (HD.out.below HW5.out) (HL.out.below HW5.out) (by have := HG1.out; omega) (fun r hr => by have := HGG.out r hr; omega) (fun r hr => by rcases List.mem_append.1 hr with h | h; exact HK.out r h; rw [List.mem_singleton.1 h]; exact HKM.out) (rAll_len _ _ _ _ _ HG1.out HGG.out)).mono ?_
        rintro r w6 ⟨ak, nk, pk, rfl, hc, ho, hb6⟩
        have hM6 : RdM w6 (.slice ak nk pk) (rAll du later dial look (rows ++ [more])) := by
          unfold RdM
          rw [← hc]
          exact RdF.of_owns ho
        have hB6 := HB5.out.trans (hb6.mono HB5.out.size)
        have HK6 := Lib.hid hM6
        have HM6 := Lib.hid (HM3.out.below hB6)
        have HB6 := Lib.hid (HB3.out.trans (hB6.mono hz3))
        have HLen := Lib.hid (rAll_len du ck dial look rows (by omega) HG2.out)
        have HLen2 : Hid (nk ≤ 10000000) := Lib.hid (by rw [hc]; exact rAll_len _ _ _ _ _ HG1.out HGG.out)
        clear hb6 ho hM6 hc hB6 HM3 HB5 HW5 HR5 hz3
        have hck : ck ≤ later := by omega
        have hnl : nl ≤ 10000000 := by have := HC3.out; have := HLen.out; omega
        go_wp2_with fail
        go_loopw [19] (fun s19 wr => ∃ k : Nat, k ≤ nl ∧ s19 = .int .i64 k ∧ Below w6.heap.size w6 wr) (fun s19 _ => nl - (intOf s19).toNat)
        case atStart => exact ⟨0, Nat.zero_le _, rfl, Below.refl _ _⟩
        case round =>
          obtain ⟨k, hkl, rfl, hbr⟩ := hrel
          have HBR := Lib.hid hbr
          clear hbr
          by_cases hkn : k < nl
          · have hk1 : (k : Int) < (nl : Int) := by omega
            have hk0 : (0 : Int) ≤ (k : Int) := by omega
            obtain ⟨x, hx⟩ : ∃ x, (rAll du ck dial look rows)[k]? = some x := ⟨_, List.getElem?_eq_getElem (by have := HC3.out; omega)⟩
            have hMr := HM6.out.below HBR.out
            obtain ⟨bM, oM, rfl, hbM, -⟩ := hMr.at hx
            have hrm := runMt hMr hx
            have HX := Lib.hid (rAll_more (more := more) hck (List.mem_of_getElem? hx))
            clear hMr hx
            go_wp2_with fail
            refine (is13 ak nk pk x _ _ (HK6.out.below HBR.out) HX.out HLen2.out).mono ?_
            rintro r w7 ⟨rfl, hb7⟩
            have HB7 := Lib.hid (HBR.out.trans (hb7.mono HBR.out.size))
            clear hb7 hrm
            go_wp2_with fail
            go_roundw
            case rel => exact ⟨k + 1, by omega, by go_num, HB7.out⟩
            case measure => simp [intOf]; omega
          · have hk1 : ¬ (k : Int) < (nl : Int) := by omega
            obtain rfl : k = nl := by omega
            have HW := Lib.hid (HB6.out.trans (HBR.out.mono HB6.out.size))
            have HMW := Lib.hid (HM6.out.below HBR.out)
            clear hkn hkl HBR HB6 HM6 HK6
            obtain ⟨g, hg, hge⟩ := gone_at gone nr h0 (by have := HNR.out; omega)
            have hzw := HW.out.size
            go_wp2_with (first | (at_builtin; refine wpList_append_rdG rfl (.tmp 82) (.tmp 83) 22 rfl wr.heap.size 31 i0 (.slice none 0 0) 1 24 Try.underlying22 hi0 hz0 hz1 hz2 rfl (by decide) _ 0 [] rfl (owns_empty wr wr.heap.size 31 1 (Nat.le_refl _)) _ nr _ rfl (RdF.below HVS.out (HW.out.alloc hzw _)) HONE.out (by unfold maxLen; omega) (by omega) (by simp) ?_))
            intro v8 w8 hown8 hgrow8
            have hb8 : Below wr.heap.size wr w8 := ((Below.refl _ wr).alloc (Nat.le_refl _) _).grown hgrow8 (by simp) (fun j hj => by cases hj; exact Nat.le_refl _)
            obtain ⟨b, cap, cur, rfl, hnn, hbb, kb, hgc, hcap, hrr⟩ := rr_fewer HVL.out hown8 hg hzw (HW.out.trans (hb8.mono hzw)) HEA.out
            have HRR := Lib.hid hrr
            have HB9 := Lib.hid (show Below wr.heap.size wr (w8.setCell ⟨b, g, none⟩ (.slice none 0 0)) from hb8.setCell (by exact hbb) _)
            have cb := cell_block kb
            have fb := free_block kb
            have ob := block_lt kb
            have qb : Old w8 b := ob
            have hg1 : (g : Int) < (nr : Int) := by omega
            have hg0 : (0 : Int) ≤ (g : Int) := by omega
            have HGE := Lib.hid hge
            clear hgrow8 hown8 hb8 hrr hnn kb hge
            go_upto_region 14 with fail
            have HW9 := Lib.hid (HW.out.trans (HB9.out.mono hzw))
            have HM9 := Lib.hid (HMW.out.below HB9.out)
            clear cb fb ob qb HW HMW HB9 hbb hgc hcap hzw
            generalize (w8.setCell ⟨b, g, none⟩ (.slice none 0 0)) = w9 at *
            have hz9 := HW9.out.size
            go_wp2_with fail
            go_loopw [21, 22] (fun s21 s22 wq => ∃ (i c q : Nat) (a : Option Addr), i ≤ k ∧ s22 = .int .i64 i ∧ s21 = .slice a c q ∧ c ≤ i ∧ wq.ownsRow w9.heap.size 30 4 (.slice a c q) c (mtCells (((rAll du ck dial look rows).take i).filter (keepM g))) ∧ Below w9.heap.size w9 wq) (fun _ s22 _ => k - (intOf s22).toNat)
            case atStart => exact ⟨0, 0, 0, none, Nat.zero_le _, rfl, rfl, Nat.le_refl _, World.ownsRow_nil _ _ _ _, Below.refl _ _⟩
            case round =>
              obtain ⟨i, c, q, a, hi, rfl, rfl, hci, hown, hbr⟩ := hrel
              have HO := Lib.hid hown
              have HBR := Lib.hid hbr
              clear hown hbr
              by_cases hik : i < k
              · have hi1 : (i : Int) < (k : Int) := by omega
                have hi0 : (0 : Int) ≤ (i : Int) := by omega
                obtain ⟨x, hx⟩ : ∃ x, (rAll du ck dial look rows)[i]? = some x := ⟨_, List.getElem?_eq_getElem (by have := HC3.out; omega)⟩
                have hMr := HM9.out.below HBR.out
                obtain ⟨bM, oM, rfl, hbM, c0, c1, c2, c3⟩ := hMr.at hx
                have hrm := runMt hMr hx
                have HT := Lib.hid (filter_take (keepM g) hx)
                clear hMr hx
                have hgn : (g : Int) = (g : Int) := rfl
                rcases (show x.p = (g : Int) ∨ (x.p ≠ (g : Int) ∧ x.q = (g : Int)) ∨ (x.p ≠ (g : Int) ∧ x.q ≠ (g : Int)) from by omega) with hp | ⟨hp, hq⟩ | ⟨hp, hq⟩
                · have HKP : Hid (keepM g x = false) := Lib.hid (by simp [keepM, hp])
                  rw [hp] at c0
                  clear hp hrm
                  go_wp2_with fail
                  go_roundw
                  case rel => exact ⟨i + 1, c, q, a, by omega, by go_num, rfl, by omega, by rw [HT.out, HKP.out, if_neg (by decide), List.append_nil]; exact HO.out, HBR.out⟩
                  case measure => simp [intOf]; omega
                · have HKP : Hid (keepM g x = false) := Lib.hid (by simp [keepM, hq])
                  have hp' : (x.p != (g : Int)) = true := by simpa using hp
                  have hp2 : (x.p == (g : Int)) = false := by simpa using hp
                  rw [hq] at c2
                  clear hq hrm
                  go_wp2_with fail
                  go_roundw
                  case rel => exact ⟨i + 1, c, q, a, by omega, by go_num, rfl, by omega, by rw [HT.out, HKP.out, if_neg (by decide), List.append_nil]; exact HO.out, HBR.out⟩
                  case measure => simp [intOf]; omega
                · have HKP : Hid (keepM g x = true) := Lib.hid (by simp [keepM, hp, hq])
                  have hp' : (x.p != (g : Int)) = true := by simpa using hp
                  have hp2 : (x.p == (g : Int)) = false := by simpa using hp
                  have hq' : (x.q != (g : Int)) = true := by simpa using hq
                  have hq2 : (x.q == (g : Int)) = false := by simpa using hq
                  have hzr := HBR.out.size
                  go_wp2_with (first | (at_builtin; refine wpList_append_own _ rfl (.tmp 110) (.tmp 115) 27 rfl w9.heap.size 30 j0 (.agg #[.int .i64 0, .int .i64 0, .int .i64 0, .int .i64 0]) 4 32 Try.underlying27 hj0 hy0 hy1 hy2 rfl (by decide) _ c _ rfl (HO.out.alloc _) ⟨wr.heap.size, 0, none⟩ 1 1 [.int .i64 x.p, .int .i64 x.i, .int .i64 x.q, .int .i64 x.j] rfl rfl (news_alloc wr [.int .i64 x.p, .int .i64 x.i, .int .i64 x.q, .int .i64 x.j] 30) (by intro u hu; simp at hu; rcases hu with rfl | rfl | rfl | rfl <;> rfl) (by unfold maxLen; omega) (by omega) (by simp; omega) ?_))
                  intro v' w10 hown' hgrow' _
                  obtain ⟨g', cap', rfl⟩ := ownsRow_succ hown'
                  have hb10 : Below w9.heap.size w9 w10 := (HBR.out.alloc hzr _).grown hgrow' (by simp; omega) (fun j hj => ownBlock_ge HO.out hj)
                  have HO2 := Lib.hid hown'
                  have HB10 := Lib.hid hb10
                  clear hown' hgrow' hb10 hrm
                  go_wp2_with fail
                  go_roundw
                  case rel => exact ⟨i + 1, c + 1, cap', _, by omega, by go_num, rfl, by omega, by rw [HT.out, HKP.out, if_pos rfl, mtCells_app]; exact HO2.out, HB10.out⟩
                  case measure => simp [intOf]; omega
              · have hi1 : ¬ (i : Int) < (k : Int) := by omega
                obtain rfl : i = k := by omega
                have HWr := Lib.hid (HW9.out.trans (HBR.out.mono hz9))
                have hzr := HWr.out.size
                have hlf : (rows.set g []).length ≤ 30 := by rw [List.length_set]; omega
                have HLF := Lib.hid (show ∀ r ∈ rows.set g [], r.length ≤ 100 from fun r hr => by
                  rcases List.mem_or_eq_of_mem_set hr with h | h
                  · exact HG2.out r h
                  · rw [h]; simp)
                have HKF := Lib.hid (show ∀ r ∈ rows.set g [], ∀ o ∈ r, o.k ≤ 127 from fun r hr => by
                  rcases List.mem_or_eq_of_mem_set hr with h | h
                  · exact HK.out r h
                  · rw [h]; simp)
                have hown := HO.out
                rw [List.take_of_length_le (by have := HC3.out; omega)] at hown
                have HOW := Lib.hid hown
                clear hown hik
                go_wp2_with fail
                refine (all8 _ ad a4 a5 nr cap nd pd n4 p4 n5 p5 ck (rows.set g []) du dial look _ (HRR.out.below HBR.out) (HU.out.below HWr.out) (HD.out.below HWr.out) (HL.out.below HWr.out) (by omega) (fun r hr => by have := HLF.out r hr; omega) HKF.out (rAll_len _ _ _ _ _ hlf HLF.out)).mono ?_
                rintro r w11 ⟨af, nf, pf, rfl, hc, ho, hb11⟩
                rw [rAll_fewer] at hc ho
                have HN11 : Hid (nf ≤ 10000000) := Lib.hid (by
                  rw [hc]
                  have := List.length_filter_le (keepM g) (rAll du ck dial look rows)
                  have := HLen.out
                  omega)
                have hMf : RdM w11 (.slice af nf pf) ((rAll du ck dial look rows).filter (keepM g)) := by
                  unfold RdM
                  rw [← hc]
                  exact RdF.of_owns ho
                have hMw : RdM w11 (.slice a c q) ((rAll du ck dial look rows).filter (keepM g)) := by
                  have h := RdF.of_owns HOW.out
                  have hcl : c = ((rAll du ck dial look rows).filter (keepM g)).length := by
                    have := h.1
                    rw [mtCells_len] at this
                    omega
                  have h2 : RdM wr (.slice a c q) ((rAll du ck dial look rows).filter (keepM g)) := by
                    unfold RdM
                    rw [← hcl]
                    exact h
                  exact h2.below hb11
                have HMF := Lib.hid hMf
                have HMWW := Lib.hid hMw
                have HW11 := Lib.hid (HWr.out.trans (hb11.mono hzr))
                clear hMf hMw hb11 hc ho
                go_wp2_with fail
                refine (same14 af a nf pf c q _ w11 HMF.out HMWW.out HN11.out).mono ?_
                rintro r w12 ⟨rfl, hb12⟩
                have HW12 := Lib.hid (HW11.out.trans (hb12.mono HW11.out.size))
                clear hb12
                go_wp2_with fail
                refine (wakes7 _).mono ?_
                rintro r w13 ⟨rfl, hb13⟩
                go_wp2_with fail
                go_ret
                exact ⟨rfl, HW12.out.trans (hb13.mono HW12.out.size)⟩
end Go.Proofs.Ytcdmhldhhjolpaa
