
/- Walks of the seat of chapter 07: OfferOne. -/
import Derived.Test.YtcdmhldhhjolpaaO20
import Derived.Test.YtcdmhldhhjolpaaO24
namespace Go.Proofs.Ytcdmhldhhjolpaa
open Go.RowKit
attribute [local go_sem ↓] Go.wp_at_zero Go.wp_at_succ
attribute [local go_sem] more_size cell_more_old frozen_more_old setCell_more_old more_drew drew_more old_alloc old_more old_drew old_setCell cell_alloc_old frozen_alloc_old setCell_alloc_old
attribute [local go_sem ↓] load42 store42 load61 store61 load38 store38 load30 store30
attribute [local go_sem] run42 runs42 run61 runs61 run38 runs38 run30 runs30 blk_drew has_drewP blk_drewN has_drewNP old_drewN blk_alloc_old has_alloc_old blk_alloc_new has_alloc_new setBlk_size setBlk_drew old_setBlk cell_setBlk' cell_setBlk_ne frozen_setBlk blk_setBlk' blk_setBlk_ne has_setBlk' has_setBlk_ne setBlk_alloc_old setBlk_new

theorem rr1 {W : World} {g na pa : Nat} {aa : Option Addr} {a : List Ofr} (h : W.heap[g]? = some (.cells #[.slice aa na pa] 31)) (hA : RdO W (.slice aa na pa) a) : RdRR W (.slice (some ⟨g, 0, none⟩) 1 1) [a] := by
  refine ⟨[.slice aa na pa], RdF.of_block h rfl (by decide), fun i r hr => ?_⟩
  match i, hr with
  | 0, hr => cases hr; exact ⟨_, rfl, hA⟩
theorem rr2 {W : World} {g na pa nb pb : Nat} {aa ab : Option Addr} {a b : List Ofr} (h : W.heap[g]? = some (.cells #[.slice aa na pa, .slice ab nb pb] 31)) (hA : RdO W (.slice aa na pa) a) (hB : RdO W (.slice ab nb pb) b) : RdRR W (.slice (some ⟨g, 0, none⟩) 2 2) [a, b] := by
  refine ⟨[.slice aa na pa, .slice ab nb pb], RdF.of_block h rfl (by decide), fun i r hr => ?_⟩
  match i, hr with
  | 0, hr => cases hr; exact ⟨_, rfl, hA⟩
  | 1, hr => cases hr; exact ⟨_, rfl, hB⟩
theorem rb1 {W : World} {g : Nat} {x : Bool} (h : W.heap[g]? = some (.cells #[.bool x] 4)) : RdB W (.slice (some ⟨g, 0, none⟩) 1 1) [x] := RdF.of_block (xs := [Value.bool x]) h rfl (by decide)

set_option maxRecDepth 100000 in
set_option maxHeartbeats 8000000 in
theorem one4_all (aa ab ad : Option Addr) (na pa nb pb nd pd : Nat) (ck : Int) (dl lk : Bool) (a b : List Ofr) (du : List Du) (w : World)
    (hA : RdO w (.slice aa na pa) a) (hB : RdO w (.slice ab nb pb) b) (hU : RdU w (.slice ad nd pd) du) (hka : ∀ o ∈ a, o.k ≤ 127) (hkb : ∀ o ∈ b, o.k ≤ 127) :
    Calls Try.prog 4 #[.slice aa na pa, .slice ab nb pb, .slice ad nd pd, .int .i64 ck, .bool dl, .bool lk] w fun r w' => r = .returned (.bool true) ∧ Below w.heap.size w w' := by
  have HA := Lib.hid hA
  have HB := Lib.hid hB
  have HU := Lib.hid hU
  have HN := Lib.hid hA.len
  have HKA := Lib.hid hka
  have HKB := Lib.hid hkb
  clear hA hB hU hka hkb
  go_enter Try.func4, Try.ntmps4
  go_wp2_with fail
  refine (great6 _ ad 2 2 nd pd [a, b] du _ (rr2 (by (repeat' (first | (with_reducible assumption) | (with_reducible refine hm_new ?_; (first | rfl | (simp; done) | (simp [more_size]; done) | (simp [more_size]; omega))) | (with_reducible refine block_alloc ?_) | (with_reducible refine hm_more ?_) | (with_reducible refine hm_drew ?_)))) (HA.out.below (by (repeat' (first | (with_reducible exact Below.refl _ _) | (with_reducible assumption) | (with_reducible refine Below.drew ?_) | (with_reducible refine Below.alloc ?_ ?_ _) | (with_reducible refine below_more ?_ ?_ _ _) | (with_reducible refine Below.setCell ?_ ?_ _) | (with_reducible refine Below.trans ?_ (Below.mono (by assumption) ?_)))) <;> first | omega | (simp; done) | (simp; omega) | (simp [more_size]; done) | (simp [more_size]; omega))) (HB.out.below (by (repeat' (first | (with_reducible exact Below.refl _ _) | (with_reducible assumption) | (with_reducible refine Below.drew ?_) | (with_reducible refine Below.alloc ?_ ?_ _) | (with_reducible refine below_more ?_ ?_ _ _) | (with_reducible refine Below.setCell ?_ ?_ _) | (with_reducible refine Below.trans ?_ (Below.mono (by assumption) ?_)))) <;> first | omega | (simp; done) | (simp; omega) | (simp [more_size]; done) | (simp [more_size]; omega)))) (HU.out.below (by (repeat' (first | (with_reducible exact Below.refl _ _) | (with_reducible assumption) | (with_reducible refine Below.drew ?_) | (with_reducible refine Below.alloc ?_ ?_ _) | (with_reducible refine below_more ?_ ?_ _ _) | (with_reducible refine Below.setCell ?_ ?_ _) | (with_reducible refine Below.trans ?_ (Below.mono (by assumption) ?_)))) <;> first | omega | (simp; done) | (simp; omega) | (simp [more_size]; done) | (simp [more_size]; omega)))).mono ?_
  rintro r w0 ⟨rfl | ⟨rfl, hr1, hr2⟩, rfl⟩
  · go_wp2_with fail
    refine (wakes7 _).mono ?_
    rintro r w1 ⟨rfl, hb⟩
    go_wp2_with fail
    go_ret
    exact ⟨rfl, by (repeat' (first | (with_reducible exact Below.refl _ _) | (with_reducible assumption) | (with_reducible refine Below.drew ?_) | (with_reducible refine Below.alloc ?_ ?_ _) | (with_reducible refine below_more ?_ ?_ _ _) | (with_reducible refine Below.setCell ?_ ?_ _) | (with_reducible refine Below.trans ?_ (Below.mono (by assumption) ?_)))) <;> first | omega | (simp; done) | (simp; omega) | (simp [more_size]; done) | (simp [more_size]; omega)⟩
  · have hra : a.length ≤ 100 := hr2 a (by simp)
    have hrb : b.length ≤ 100 := hr2 b (by simp)
    have hna : na ≤ 100 := by have := HN.out; omega
    clear hr1 hr2
    go_wp2_with fail
    refine (all8 _ ad _ _ 1 1 nd pd 1 1 1 1 ck [a] du [dl] [lk] _ (rr1 (by (repeat' (first | (with_reducible assumption) | (with_reducible refine hm_new ?_; (first | rfl | (simp; done) | (simp [more_size]; done) | (simp [more_size]; omega))) | (with_reducible refine block_alloc ?_) | (with_reducible refine hm_more ?_) | (with_reducible refine hm_drew ?_)))) (HA.out.below (by (repeat' (first | (with_reducible exact Below.refl _ _) | (with_reducible assumption) | (with_reducible refine Below.drew ?_) | (with_reducible refine Below.alloc ?_ ?_ _) | (with_reducible refine below_more ?_ ?_ _ _) | (with_reducible refine Below.setCell ?_ ?_ _) | (with_reducible refine Below.trans ?_ (Below.mono (by assumption) ?_)))) <;> first | omega | (simp; done) | (simp; omega) | (simp [more_size]; done) | (simp [more_size]; omega)))) (HU.out.below (by (repeat' (first | (with_reducible exact Below.refl _ _) | (with_reducible assumption) | (with_reducible refine Below.drew ?_) | (with_reducible refine Below.alloc ?_ ?_ _) | (with_reducible refine below_more ?_ ?_ _ _) | (with_reducible refine Below.setCell ?_ ?_ _) | (with_reducible refine Below.trans ?_ (Below.mono (by assumption) ?_)))) <;> first | omega | (simp; done) | (simp; omega) | (simp [more_size]; done) | (simp [more_size]; omega))) (rb1 (by (repeat' (first | (with_reducible assumption) | (with_reducible refine hm_new ?_; (first | rfl | (simp; done) | (simp [more_size]; done) | (simp [more_size]; omega))) | (with_reducible refine block_alloc ?_) | (with_reducible refine hm_more ?_) | (with_reducible refine hm_drew ?_))))) (rb1 (by (repeat' (first | (with_reducible assumption) | (with_reducible refine hm_new ?_; (first | rfl | (simp; done) | (simp [more_size]; done) | (simp [more_size]; omega))) | (with_reducible refine block_alloc ?_) | (with_reducible refine hm_more ?_) | (with_reducible refine hm_drew ?_))))) (by simp) (by simp; omega) (by simpa using HKA.out) (rAll_len _ _ _ _ _ (by simp) (by simp; omega))).mono ?_
    rintro r w1 ⟨al, nl, pl, rfl, hc, ho, hb1⟩
    rw [rAll_one] at hc ho
    have hB1 : Below w.heap.size w w1 := by (repeat' (first | (with_reducible exact Below.refl _ _) | (with_reducible assumption) | (with_reducible refine Below.drew ?_) | (with_reducible refine Below.alloc ?_ ?_ _) | (with_reducible refine below_more ?_ ?_ _ _) | (with_reducible refine Below.setCell ?_ ?_ _) | (with_reducible refine Below.trans ?_ (Below.mono (by assumption) ?_)))) <;> first | omega | (simp; done) | (simp; omega) | (simp [more_size]; done) | (simp [more_size]; omega)
    have hM : RdM w1 (.slice al nl pl) (aOne du ck dl lk a) := by
      unfold RdM
      rw [← hc]
      exact RdF.of_owns ho
    have HB1 := Lib.hid hB1
    have HM := Lib.hid hM
    have HC := Lib.hid hc
    have hz1 := hB1.size
    clear hB1 hb1 ho hM hc
    go_wp2_with fail
    go_loopw [14, 15] (fun s14 s15 wr => ∃ i kk : Nat, i ≤ na ∧ s15 = .int .i64 i ∧ s14 = .int .i64 kk ∧ kk = (aOne du ck dl lk (a.take i)).length ∧ kk ≤ i ∧ Below w1.heap.size w1 wr) (fun _ s15 _ => na - (intOf s15).toNat)
    case atStart => exact ⟨0, 0, Nat.zero_le _, rfl, rfl, rfl, Nat.le_refl _, Below.refl _ _⟩
    case round =>
      obtain ⟨i, kk, hi, rfl, rfl, hkk, hkk1, hbr⟩ := hrel
      have HKK := Lib.hid hkk
      have HBR := Lib.hid hbr
      clear hkk hbr
      by_cases hlt : i < na
      · have hi1 : (i : Int) < (na : Int) := by omega
        have hi0 : (0 : Int) ≤ (i : Int) := by omega
        obtain ⟨o, hoa⟩ : ∃ o, a[i]? = some o := ⟨_, List.getElem?_eq_getElem (by have := HN.out; omega)⟩
        have HO := Lib.hid hoa
        have hAr := ((HA.out.below HB1.out).below HBR.out)
        obtain ⟨bA, oA, rfl, hbA, -⟩ := hAr.at hoa
        have hrun := runOf hAr hoa
        clear hAr hoa
        go_wp2_with fail
        refine (alone12 ad nd pd ck dl lk du o _ ((HU.out.below HB1.out).below HBR.out) (HKA.out o (List.mem_of_getElem? HO.out))).mono ?_
        rintro r w2 ⟨rfl, hb⟩
        have HB2 := Lib.hid (HBR.out.trans (hb.mono HBR.out.size))
        clear hb hrun
        by_cases hal : aloneB du ck dl lk o = true
        · have hat := aOne_at HO.out hal
          rw [← HKK.out] at hat
          have hsc := aOne_yes HO.out hal
          have HSC := Lib.hid hsc
          obtain ⟨bM, oM, rfl, hbM, -⟩ := (HM.out.below HB2.out).at hat
          have hrm := runMt (HM.out.below HB2.out) hat
          have hk1 : kk < nl := by have := HM.out.len; have := (List.getElem?_eq_some_iff.1 hat).1; omega
          have hk2 : (kk : Int) < (nl : Int) := by omega
          have hk0 : (0 : Int) ≤ (kk : Int) := by omega
          have hk3 : decide ((nl : Int) ≤ (kk : Int)) = false := by simp; omega
          have hk4 : decide (nl ≤ kk) = false := by simp; omega
          clear hat hsc
          rw [hal]
          go_wp2_with fail
          go_roundw
          case rel => exact ⟨i + 1, kk + 1, by omega, by go_num, by go_num, by rw [HSC.out, List.length_append, HKK.out]; rfl, by omega, HB2.out⟩
          case measure => simp [intOf]; omega
        · have hal' : aloneB du ck dl lk o = false := by simpa using hal
          have HSC := Lib.hid (aOne_no HO.out hal')
          rw [hal']
          go_wp2_with fail
          go_roundw
          case rel => exact ⟨i + 1, kk, by omega, by go_num, rfl, by rw [HSC.out, HKK.out], by omega, HB2.out⟩
          case measure => simp [intOf]; omega
      · have hi1 : ¬ (i : Int) < (na : Int) := by omega
        have hkn : kk = nl := by
          rw [HKK.out, HC.out, List.take_of_length_le (by have := HN.out; omega)]
        have hzr := HBR.out.size
        have HBW := Lib.hid (HB1.out.trans (HBR.out.mono hz1))
        have hzw := HBW.out.size
        subst hkn
        clear HKK hlt
        go_wp2_with fail
        refine (all8 _ ad _ _ 2 2 nd pd 0 0 0 0 ck [a, b] du [] [] _ (rr2 (by (repeat' (first | (with_reducible assumption) | (with_reducible refine hm_new ?_; (first | rfl | (simp; done) | (simp [more_size]; done) | (simp [more_size]; omega))) | (with_reducible refine block_alloc ?_) | (with_reducible refine hm_more ?_) | (with_reducible refine hm_drew ?_)))) ((HA.out.below HBW.out).below (by (repeat' (first | (with_reducible exact Below.refl _ _) | (with_reducible assumption) | (with_reducible refine Below.drew ?_) | (with_reducible refine Below.alloc ?_ ?_ _) | (with_reducible refine below_more ?_ ?_ _ _) | (with_reducible refine Below.setCell ?_ ?_ _) | (with_reducible refine Below.trans ?_ (Below.mono (by assumption) ?_)))) <;> first | omega | (simp; done) | (simp; omega) | (simp [more_size]; done) | (simp [more_size]; omega))) ((HB.out.below HBW.out).below (by (repeat' (first | (with_reducible exact Below.refl _ _) | (with_reducible assumption) | (with_reducible refine Below.drew ?_) | (with_reducible refine Below.alloc ?_ ?_ _) | (with_reducible refine below_more ?_ ?_ _ _) | (with_reducible refine Below.setCell ?_ ?_ _) | (with_reducible refine Below.trans ?_ (Below.mono (by assumption) ?_)))) <;> first | omega | (simp; done) | (simp; omega) | (simp [more_size]; done) | (simp [more_size]; omega)))) ((HU.out.below HBW.out).below (by (repeat' (first | (with_reducible exact Below.refl _ _) | (with_reducible assumption) | (with_reducible refine Below.drew ?_) | (with_reducible refine Below.alloc ?_ ?_ _) | (with_reducible refine below_more ?_ ?_ _ _) | (with_reducible refine Below.setCell ?_ ?_ _) | (with_reducible refine Below.trans ?_ (Below.mono (by assumption) ?_)))) <;> first | omega | (simp; done) | (simp; omega) | (simp [more_size]; done) | (simp [more_size]; omega))) (RdF.nil _ _) (RdF.nil _ _) (by simp) (by simp; omega) (by simpa using ⟨HKA.out, HKB.out⟩) (rAll_len _ _ _ _ _ (by simp) (by simp; omega))).mono ?_
        rintro r w2 ⟨ao, no, po, rfl, hco, -, hb2⟩
        have HB2 := Lib.hid (show Below w.heap.size w w2 from HBW.out.trans ((show Below wr.heap.size wr w2 by (repeat' (first | (with_reducible exact Below.refl _ _) | (with_reducible assumption) | (with_reducible refine Below.drew ?_) | (with_reducible refine Below.alloc ?_ ?_ _) | (with_reducible refine below_more ?_ ?_ _ _) | (with_reducible refine Below.setCell ?_ ?_ _) | (with_reducible refine Below.trans ?_ (Below.mono (by assumption) ?_)))) <;> first | omega | (simp; done) | (simp; omega) | (simp [more_size]; done) | (simp [more_size]; omega)).mono hzw))
        have HCO := Lib.hid hco
        have hz2 := HB2.out.size
        clear hb2 hco
        go_wp2_with fail
        refine (all8 _ ad _ _ 2 2 nd pd 0 0 0 0 ck [b, a] du [] [] _ (rr2 (by (repeat' (first | (with_reducible assumption) | (with_reducible refine hm_new ?_; (first | rfl | (simp; done) | (simp [more_size]; done) | (simp [more_size]; omega))) | (with_reducible refine block_alloc ?_) | (with_reducible refine hm_more ?_) | (with_reducible refine hm_drew ?_)))) ((HB.out.below HB2.out).below (by (repeat' (first | (with_reducible exact Below.refl _ _) | (with_reducible assumption) | (with_reducible refine Below.drew ?_) | (with_reducible refine Below.alloc ?_ ?_ _) | (with_reducible refine below_more ?_ ?_ _ _) | (with_reducible refine Below.setCell ?_ ?_ _) | (with_reducible refine Below.trans ?_ (Below.mono (by assumption) ?_)))) <;> first | omega | (simp; done) | (simp; omega) | (simp [more_size]; done) | (simp [more_size]; omega))) ((HA.out.below HB2.out).below (by (repeat' (first | (with_reducible exact Below.refl _ _) | (with_reducible assumption) | (with_reducible refine Below.drew ?_) | (with_reducible refine Below.alloc ?_ ?_ _) | (with_reducible refine below_more ?_ ?_ _ _) | (with_reducible refine Below.setCell ?_ ?_ _) | (with_reducible refine Below.trans ?_ (Below.mono (by assumption) ?_)))) <;> first | omega | (simp; done) | (simp; omega) | (simp [more_size]; done) | (simp [more_size]; omega)))) ((HU.out.below HB2.out).below (by (repeat' (first | (with_reducible exact Below.refl _ _) | (with_reducible assumption) | (with_reducible refine Below.drew ?_) | (with_reducible refine Below.alloc ?_ ?_ _) | (with_reducible refine below_more ?_ ?_ _ _) | (with_reducible refine Below.setCell ?_ ?_ _) | (with_reducible refine Below.trans ?_ (Below.mono (by assumption) ?_)))) <;> first | omega | (simp; done) | (simp; omega) | (simp [more_size]; done) | (simp [more_size]; omega))) (RdF.nil _ _) (RdF.nil _ _) (by simp) (by simp; omega) (by simpa using ⟨HKB.out, HKA.out⟩) (rAll_len _ _ _ _ _ (by simp) (by simp; omega))).mono ?_
        rintro r w3 ⟨at', nt, pt, rfl, hct, -, hb3⟩
        have HB3 := Lib.hid (show Below w.heap.size w w3 from HB2.out.trans ((show Below w2.heap.size w2 w3 by (repeat' (first | (with_reducible exact Below.refl _ _) | (with_reducible assumption) | (with_reducible refine Below.drew ?_) | (with_reducible refine Below.alloc ?_ ?_ _) | (with_reducible refine below_more ?_ ?_ _ _) | (with_reducible refine Below.setCell ?_ ?_ _) | (with_reducible refine Below.trans ?_ (Below.mono (by assumption) ?_)))) <;> first | omega | (simp; done) | (simp; omega) | (simp [more_size]; done) | (simp [more_size]; omega)).mono hz2))
        have hnt : nt = no := by rw [hct, HCO.out, rAll_turned]
        subst hnt
        clear hb3 hct
        go_wp2_with fail
        refine (wakes7 _).mono ?_
        rintro r w4 ⟨rfl, hb⟩
        go_wp2_with fail
        go_ret
        exact ⟨rfl, HB3.out.trans (hb.mono HB3.out.size)⟩
end Go.Proofs.Ytcdmhldhhjolpaa
