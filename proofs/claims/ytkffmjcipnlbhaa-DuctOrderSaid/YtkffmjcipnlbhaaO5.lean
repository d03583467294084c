
/- Walks of the seat of chapter 05: DuctOrder: the loop. -/
import Derived.Test.YtkffmjcipnlbhaaO4
import Derived.Deep.DeepCutAuto
import Derived.Deep.CutBlock
namespace Go.Proofs.Ytkffmjcipnlbhaa
open Go.RowKit
attribute [local go_sem ↓] Go.wp_at_zero Go.wp_at_succ
attribute [local go_sem] more_size cell_more_old frozen_more_old setCell_more_old more_drew drew_more old_alloc old_more old_drew old_setCell cell_alloc_old frozen_alloc_old setCell_alloc_old
set_option maxRecDepth 100000 in
set_option maxHeartbeats 4000000 in
theorem order3 (size : Int) (a : Option Addr) (n p : Nat) (l : List Ac) (w : World) (hs1 : 0 ≤ size) (hs2 : size ≤ 64) (hn : n ≤ 200) (hl : RdC w (.slice a n p) l) :
    Calls Try.prog 3 #[.int .i64 size, .slice a n p] w fun r w' => r = .returned (.bool true) ∧ Below w.heap.size w w' := by
  have HL := Lib.hid hl
  have HN := Lib.hid hl.len
  have hn' : (n : Int) ≤ 200 := by omega
  clear hl
  obtain ⟨i0, hi0, hz0, hz1, hz2⟩ := info_parts info32
  go_enter Try.func3, Try.ntmps3
  go_wp2_with fail
  refine (new8 size none 0 0 [] _ hs1 hs2 (by omega) (RdL.nil _)).mono ?_
  rintro r w1 ⟨a1, p1, rfl, hr, hb⟩
  have HB1 := Lib.hid hb
  have HE1 := Lib.hid hr
  have hz1' : w.heap.size ≤ w1.heap.size := hb.size
  clear hr hb
  go_wp2_with fail
  go_loopw [7, 8, 9] (OrdR w w1.heap.size size n) (fun _ _ i _ => n - (intOf i).toNat)
  case atStart => exact ⟨0, Nat.zero_le _, rfl, [], 0, none, a1, 0, p1, false, rfl, by omega, rfl, rfl, OwnO.nil _ _ _ _, by (repeat' (first | (with_reducible assumption) | (with_reducible refine hm_new ?_; (first | rfl | (simp; done) | (simp [more_size]; done) | (simp [more_size]; omega))) | (with_reducible refine block_alloc ?_) | (with_reducible refine hm_more ?_) | (with_reducible refine hm_drew ?_))), HE1.out.below (by (repeat' (first | (with_reducible exact Below.refl _ _) | (with_reducible assumption) | (with_reducible refine Below.drew ?_) | (with_reducible refine Below.alloc ?_ ?_ _) | (with_reducible refine below_more ?_ ?_ _ _) | (with_reducible refine Below.setCell ?_ ?_ _) | (with_reducible refine Below.trans ?_ (Below.mono (by assumption) ?_)))) <;> first | omega | (simp; done) | (simp; omega) | (simp [more_size]; done) | (simp [more_size]; omega)), fun h => absurd rfl h, by have hb := HB1.out; (repeat' (first | (with_reducible exact Below.refl _ _) | (with_reducible assumption) | (with_reducible refine Below.drew ?_) | (with_reducible refine Below.alloc ?_ ?_ _) | (with_reducible refine below_more ?_ ?_ _ _) | (with_reducible refine Below.setCell ?_ ?_ _) | (with_reducible refine Below.trans ?_ (Below.mono (by assumption) ?_)))) <;> first | omega | (simp; done) | (simp; omega) | (simp [more_size]; done) | (simp [more_size]; omega)⟩
  case round =>
    obtain ⟨k, hk, rfl, q, m, ai, ad, pi, pd, cl, hm, hms, rfl, rfl, how, k5, hrd, hap, hbl⟩ := hrel
    have HM := Lib.hid hm
    have HOW := Lib.hid how
    have H5 := Lib.hid k5
    have HRD := Lib.hid hrd
    have HAP := Lib.hid hap
    have HBL := Lib.hid hbl
    have o5 := block_lt k5
    have q5 : Old wr w1.heap.size := o5
    have hzr : w.heap.size ≤ wr.heap.size := hbl.size
    clear hm how k5 hrd hap hbl
    by_cases hlt : k < n
    · have hi : (k : Int) < (n : Int) := by omega
      have hi0' : (0 : Int) ≤ (k : Int) := by omega
      obtain ⟨⟨dx, x⟩, hx⟩ : ∃ x, l[k]? = some x := ⟨_, List.getElem?_eq_getElem (by have := HN.out; omega)⟩
      have HX := Lib.hid hx
      obtain ⟨b, off, rfl, hb0, g0, g1, g2, g3, g4, g5, g6⟩ := (HL.out.below HBL.out).at HX.out
      clear hx g1 g2 g3 g4 g5 g6
      go_upto_block 2 with fail
      clear g0
      refine sw_all size b off n p w1.heap.size k ai ad pi pd m q cl dx l x w wr hs1 hs2 hn HL HX HM hms HOW H5 HRD HAP HBL hz1' _ _ _ _ _ _ _ _ _ _ _ _ _ _ _ _ _ _ _ _ _ _ _ _ _ _ _ _ _ _ _ _ _ _ _ _ _ _ _ _ _ _ _ _ _ _ _ _ _ _ _ _ _ _ _ _ _ _ _ _ _ _ _ _ _ _ _ _ _ _ _ _ _ _ _ _ _ _ _ _ _ _ _ _ _ _ _ _ _ _ _ _ _ _ _ _ _ _ _ _ _ _ _ _ _ _ _ _ _ _ _ _ _ _ _ _ _ _ _ _ _ _ _ _ _ _ _ _ _ _ _ _ _ _ _ _ _ _ _ _ _ _ _ _ _ _ _ _ _ _ _ _ _ _ _ _ _ _ _ _ _ _ _ _ _ _ _ _ _ _ _ _ _ _ _ _ _ _ _ _ _ _ _ _ _ _ _ _ _ ?_
      intro s7 s8 u10 u11 u12 u13 u14 u15 u16 u17 u48 u49 u50 u51 u52 u53 u54 u55 u56 u57 u58 u59 u60 u61 u62 u63 u64 u65 u66 u67 u68 u69 u70 u71 u72 u73 u74 u75 u76 u77 u78 u79 u80 u81 u82 u83 u84 u85 u86 u87 u88 u89 u90 u91 u92 u93 u94 u95 u96 u97 u98 u99 u100 u101 u102 u103 u104 u105 u106 u107 u108 u109 u110 u111 u112 u113 u114 u115 u116 u117 u118 u119 u120 u121 u122 u123 u124 u125 u126 u127 u128 u129 u130 u131 u132 u133 u134 u135 u136 u137 u138 u139 u140 u141 u142 u143 u144 u145 u146 u147 u148 u149 u150 u151 u152 u153 u154 u155 u156 u157 u158 u159 u160 u161 u162 u163 u164 u165 u166 u167 u168 u169 u170 wx hS
      obtain ⟨q, m, ai, ad, pi, pd, cl, hm, hms, rfl, rfl, how, k5, hrd, hap, hbl⟩ := hS
      have HS := Lib.hid (show OrdS w w1.heap.size size (.slice ai m pi) (.bool cl) wx from ⟨q, m, ai, ad, pi, pd, cl, hm, hms, rfl, rfl, how, k5, hrd, hap, hbl⟩)
      have c5 := cell_block k5
      have o5' := block_lt k5
      have H5 := Lib.hid k5
      have HBL := Lib.hid hbl
      have hzr : w.heap.size ≤ wx.heap.size := hbl.size
      clear hm how k5 hrd hap hbl
      by_cases h0 : m = 0
      · subst h0
        cases cl
        · go_wp2_with fail
          refine (ready12 size ad 0 pd false _).mono ?_
          rintro r w5 ⟨rfl, hb⟩
          rw [show (false || decide ((0 : Nat) ≠ 0)) = false from rfl]
          have k5 := block_keep' hb H5.out
          have c5 := cell_block k5
          have o5' := block_lt k5
          have K5 := Lib.hid k5
          have HB5 := Lib.hid (HBL.out.trans (hb.mono hzr))
          have hb5 := Lib.hid hb
          clear hb k5
          go_wp2_with fail
          refine (may13_yes _ size ad 0 pd false _ (by (repeat' (first | (with_reducible assumption) | (with_reducible refine hm_new ?_; (first | rfl | (simp; done) | (simp [more_size]; done) | (simp [more_size]; omega))) | (with_reducible refine block_alloc ?_) | (with_reducible refine hm_more ?_) | (with_reducible refine hm_drew ?_)))) hs1 hs2 hms).mono ?_
          rintro r w6 ⟨rfl, hb⟩
          have hb6 : Below wx.heap.size wx w6 := hb5.out.trans (Below.mono (B := w5.heap.size) (by (repeat' (first | (with_reducible exact Below.refl _ _) | (with_reducible assumption) | (with_reducible refine Below.drew ?_) | (with_reducible refine Below.alloc ?_ ?_ _) | (with_reducible refine below_more ?_ ?_ _ _) | (with_reducible refine Below.setCell ?_ ?_ _) | (with_reducible refine Below.trans ?_ (Below.mono (by assumption) ?_)))) <;> first | omega | (simp; done) | (simp; omega) | (simp [more_size]; done) | (simp [more_size]; omega)) hb5.out.size)
          have HS6 := Lib.hid (HS.out.below hb6)
          clear hb hb6
          go_wp2_with fail
          go_roundw
          case rel => first | exact ⟨k + 1, by omega, by go_num, HS6.out⟩ | ((repeat apply Exists.intro); exact ⟨⟨k + 1, by omega, by go_num, HS6.out⟩, rfl⟩)
          case measure => first | (simp [intOf]; done) | (simp [intOf]; omega)
        · go_wp2_with fail
          refine (ready12 size ad 0 pd true _).mono ?_
          rintro r w5 ⟨rfl, hb⟩
          rw [show (true || decide (0 ≠ 0)) = true from rfl]
          have k5 := block_keep' hb H5.out
          have c5 := cell_block k5
          have o5' := block_lt k5
          have K5 := Lib.hid k5
          have HB5 := Lib.hid (HBL.out.trans (hb.mono hzr))
          have hb5 := Lib.hid hb
          clear hb k5
          go_wp2_with fail
          refine (may13_yes _ size ad 0 pd true _ (by (repeat' (first | (with_reducible assumption) | (with_reducible refine hm_new ?_; (first | rfl | (simp; done) | (simp [more_size]; done) | (simp [more_size]; omega))) | (with_reducible refine block_alloc ?_) | (with_reducible refine hm_more ?_) | (with_reducible refine hm_drew ?_)))) hs1 hs2 hms).mono ?_
          rintro r w6 ⟨rfl, hb⟩
          have hb6 : Below wx.heap.size wx w6 := hb5.out.trans (Below.mono (B := w5.heap.size) (by (repeat' (first | (with_reducible exact Below.refl _ _) | (with_reducible assumption) | (with_reducible refine Below.drew ?_) | (with_reducible refine Below.alloc ?_ ?_ _) | (with_reducible refine below_more ?_ ?_ _ _) | (with_reducible refine Below.setCell ?_ ?_ _) | (with_reducible refine Below.trans ?_ (Below.mono (by assumption) ?_)))) <;> first | omega | (simp; done) | (simp; omega) | (simp [more_size]; done) | (simp [more_size]; omega)) hb5.out.size)
          have HS6 := Lib.hid (HS.out.below hb6)
          clear hb hb6
          go_wp2_with fail
          go_roundw
          case rel => first | exact ⟨k + 1, by omega, by go_num, HS6.out⟩ | ((repeat apply Exists.intro); exact ⟨⟨k + 1, by omega, by go_num, HS6.out⟩, rfl⟩)
          case measure => first | (simp [intOf]; done) | (simp [intOf]; omega)
      · have hmp : (0 : Int) < (m : Int) := by omega
        have hmpn : 0 < m := by omega
        have HRD : Hid ((false || decide (m ≠ 0)) = true) := Lib.hid (by simp; omega)
        cases cl
        · go_wp2_with fail
          refine (ready12 size ad m pd false _).mono ?_
          rintro r w5 ⟨rfl, hb⟩
          rw [HRD.out]
          have k5 := block_keep' hb H5.out
          have c5 := cell_block k5
          have o5' := block_lt k5
          have K5 := Lib.hid k5
          have HB5 := Lib.hid (HBL.out.trans (hb.mono hzr))
          have hb5 := Lib.hid hb
          clear hb k5
          go_wp2_with fail
          refine (may13_yes _ size ad m pd false _ (by (repeat' (first | (with_reducible assumption) | (with_reducible refine hm_new ?_; (first | rfl | (simp; done) | (simp [more_size]; done) | (simp [more_size]; omega))) | (with_reducible refine block_alloc ?_) | (with_reducible refine hm_more ?_) | (with_reducible refine hm_drew ?_)))) hs1 hs2 hms).mono ?_
          rintro r w6 ⟨rfl, hb⟩
          have hb6 : Below wx.heap.size wx w6 := hb5.out.trans (Below.mono (B := w5.heap.size) (by (repeat' (first | (with_reducible exact Below.refl _ _) | (with_reducible assumption) | (with_reducible refine Below.drew ?_) | (with_reducible refine Below.alloc ?_ ?_ _) | (with_reducible refine below_more ?_ ?_ _ _) | (with_reducible refine Below.setCell ?_ ?_ _) | (with_reducible refine Below.trans ?_ (Below.mono (by assumption) ?_)))) <;> first | omega | (simp; done) | (simp; omega) | (simp [more_size]; done) | (simp [more_size]; omega)) hb5.out.size)
          have HS6 := Lib.hid (HS.out.below hb6)
          clear hb hb6
          go_wp2_with fail
          go_roundw
          case rel => first | exact ⟨k + 1, by omega, by go_num, HS6.out⟩ | ((repeat apply Exists.intro); exact ⟨⟨k + 1, by omega, by go_num, HS6.out⟩, rfl⟩)
          case measure => first | (simp [intOf]; done) | (simp [intOf]; omega)
        · go_wp2_with fail
          refine (ready12 size ad m pd true _).mono ?_
          rintro r w5 ⟨rfl, hb⟩
          rw [show (true || decide (m ≠ 0)) = true from rfl]
          have k5 := block_keep' hb H5.out
          have c5 := cell_block k5
          have o5' := block_lt k5
          have K5 := Lib.hid k5
          have HB5 := Lib.hid (HBL.out.trans (hb.mono hzr))
          have hb5 := Lib.hid hb
          clear hb k5
          go_wp2_with fail
          refine (may13_yes _ size ad m pd true _ (by (repeat' (first | (with_reducible assumption) | (with_reducible refine hm_new ?_; (first | rfl | (simp; done) | (simp [more_size]; done) | (simp [more_size]; omega))) | (with_reducible refine block_alloc ?_) | (with_reducible refine hm_more ?_) | (with_reducible refine hm_drew ?_)))) hs1 hs2 hms).mono ?_
          rintro r w6 ⟨rfl, hb⟩
          have hb6 : Below wx.heap.size wx w6 := hb5.out.trans (Below.mono (B := w5.heap.size) (by (repeat' (first | (with_reducible exact Below.refl _ _) | (with_reducible assumption) | (with_reducible refine Below.drew ?_) | (with_reducible refine Below.alloc ?_ ?_ _) | (with_reducible refine below_more ?_ ?_ _ _) | (with_reducible refine Below.setCell ?_ ?_ _) | (with_reducible refine Below.trans ?_ (Below.mono (by assumption) ?_)))) <;> first | omega | (simp; done) | (simp; omega) | (simp [more_size]; done) | (simp [more_size]; omega)) hb5.out.size)
          have HS6 := Lib.hid (HS.out.below hb6)
          clear hb hb6
          go_wp2_with fail
          go_roundw
          case rel => first | exact ⟨k + 1, by omega, by go_num, HS6.out⟩ | ((repeat apply Exists.intro); exact ⟨⟨k + 1, by omega, by go_num, HS6.out⟩, rfl⟩)
          case measure => first | (simp [intOf]; done) | (simp [intOf]; omega)
    · have hi : ¬ (k : Int) < (n : Int) := by omega
      go_wp2_with fail
      refine (wakes7 _).mono ?_
      rintro r w6 ⟨rfl, hb⟩
      go_wp2_with fail
      go_ret
      exact ⟨rfl, HBL.out.trans (hb.mono hzr)⟩
end Go.Proofs.Ytkffmjcipnlbhaa
