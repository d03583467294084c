
/- The walk of WaitTells: it returns true. -/
import Derived.Test.YtkpbohgadldpjaaA16
namespace Go.Proofs.Ytkpbohgadldpjaa
open Go.RowKit
attribute [local go_sem ↓] Go.wp_at_zero Go.wp_at_succ
attribute [local go_sem] more_size cell_more_old frozen_more_old setCell_more_old more_drew drew_more old_alloc old_more old_drew old_setCell cell_alloc_old frozen_alloc_old setCell_alloc_old

def nx : List Int → Int
  | [] => 0
  | y :: _ => y
def nb : List Int → Bool
  | [] => false
  | _ => true
theorem next17_any (v : Value) (l : List Int) (w : World) (hl : l.length ≤ 1000) (h : RdI w v l) :
    Calls Try.prog 17 #[v] w fun r w' => ∃ v', r = .returned (.tuple #[.int .i64 (nx l), v', .bool (nb l)]) ∧ RdI w' v' (l.drop 1) ∧ Below w.heap.size w w' := by
  cases l with
  | nil =>
    obtain ⟨a, c, rfl⟩ := h.shape
    exact (next_none w a c).mono fun r w' ⟨h1, h2⟩ => ⟨_, h1, rdI_nil _, h2 ▸ Below.refl _ _⟩
  | cons y l => exact (next17 v l y w (by simpa using hl) h).mono fun r w' ⟨v', h1, h2, h3⟩ => ⟨v', h1, RdI.of_owns h2, h3⟩
theorem next19_any (v : Value) (l : List Int) (w : World) (hl : l.length ≤ 1000) (h : RdI w v l) :
    Calls Try.prog 19 #[v] w fun r w' => ∃ v', r = .returned (.tuple #[.int .i64 (nx l), v', .bool (nb l)]) ∧ RdI w' v' (l.drop 1) ∧ Below w.heap.size w w' := by
  cases l with
  | nil =>
    obtain ⟨a, c, rfl⟩ := h.shape
    exact (next19_none w a c).mono fun r w' ⟨h1, h2⟩ => ⟨_, h1, rdI_nil _, h2 ▸ Below.refl _ _⟩
  | cons y l => exact (next19 v l y w (by simpa using hl) h).mono fun r w' ⟨v', h1, h2, h3⟩ => ⟨v', h1, RdI.of_owns h2, h3⟩

theorem joinL_len (most : Int) (o cs : List Int) : (joinL most o cs).1.length ≤ o.length + cs.length := by
  induction cs generalizing o with
  | nil => simp [joinL]
  | cons c cs ih =>
    simp only [joinL]
    split
    · simp
    · split
      · simp
      · have := ih (o ++ [c])
        simp at this ⊢
        omega

set_option maxRecDepth 100000 in
set_option maxHeartbeats 8000000 in
theorem tells6 (v u t : Value) (l cs s : List Int) (most e : Int) (w : World) (hl : l.length ≤ 4611686018427387904) (hcs : cs.length ≤ 4611686018427387904) (hs : s.length ≤ 4611686018427387904) (h : RdI w v l) (hu : RdI w u cs) (ht : RdI w t s) :
    Calls Try.prog 6 #[v, .int .i64 most, u, t, .int .i64 e] w fun r w' => r = .returned (.bool true) ∧ Below w.heap.size w w' := by
  obtain ⟨a1, c1, rfl⟩ := h.shape
  obtain ⟨a2, c2, rfl⟩ := hu.shape
  obtain ⟨a3, c3, rfl⟩ := ht.shape
  have H := Lib.hid h
  have HU := Lib.hid hu
  have HT := Lib.hid ht
  clear h hu ht
  by_cases g1 : 100 < l.length
  · go_enter Try.func6, Try.ntmps6
    go_wp2_with fail
    refine (wakes7 _).mono ?_
    rintro r w1 ⟨rfl, hb⟩
    go_wp2
    go_ret
    exact ⟨rfl, hb⟩
  by_cases g2 : 100 < cs.length
  · go_enter Try.func6, Try.ntmps6
    go_wp2_with fail
    refine (wakes7 _).mono ?_
    rintro r w1 ⟨rfl, hb⟩
    go_wp2
    go_ret
    exact ⟨rfl, hb⟩
  by_cases g3 : 100 < s.length
  · go_enter Try.func6, Try.ntmps6
    go_wp2_with fail
    refine (wakes7 _).mono ?_
    rintro r w1 ⟨rfl, hb⟩
    go_wp2
    go_ret
    exact ⟨rfl, hb⟩
  have g1' : l.length ≤ 100 := by omega
  have g2' : cs.length ≤ 100 := by omega
  have g3' : s.length ≤ 100 := by omega
  clear g1 g2 g3 hl hcs hs
  obtain ⟨J, hJ⟩ : ∃ J, joinL most l cs = J := ⟨_, rfl⟩
  have hJl : J.1.length ≤ 200 := by rw [← hJ]; exact Nat.le_trans (joinL_len _ _ _) (by omega)
  obtain ⟨Q, hQ⟩ : ∃ Q, quitL l cs = Q := ⟨_, rfl⟩
  have hQl : Q.length ≤ l.length := by rw [← hQ]; exact List.length_filter_le _ _
  obtain ⟨m, hm⟩ : ∃ m, m = min l.length s.length := ⟨_, rfl⟩
  have HJ := Lib.hid hJ
  have HQ := Lib.hid hQ
  have HM := Lib.hid hm
  have hml : m ≤ 100 := by omega
  clear hJ hQ hm
  have HB0 : Hid (Below w.heap.size w w) := Below.refl _ _
  go_enter Try.func6, Try.ntmps6
  go_wp2_with fail
  refine (join13 _ _ l cs most _ (by omega) (by omega) H.out HU.out).mono ?_
  rintro r w1 ⟨v1, rfl, hown1, hb1⟩
  rw [HJ.out] at hown1 ⊢
  have HR1 := Lib.hid (RdI.of_owns hown1)
  have HB1 := Lib.hid (HB0.out.trans (Below.mono hb1 HB0.out.size))
  clear hown1 hb1
  go_wp2_with fail
  refine (join18 _ _ l cs most _ (by omega) (by omega) (H.out.below HB1.out) (HU.out.below HB1.out)).mono ?_
  rintro r w2 ⟨v2, rfl, hown2, hb2⟩
  rw [HJ.out] at hown2 ⊢
  have HR2 := Lib.hid (RdI.of_owns hown2)
  have HR1' := Lib.hid (HR1.out.below hb2)
  have HB2 := Lib.hid (HB1.out.trans (Below.mono hb2 HB1.out.size))
  clear hown2 hb2
  go_wp2_with fail
  refine (same11 _ _ J.1 _ (by omega) HR1'.out HR2.out).mono ?_
  rintro r w3 ⟨rfl, hb3⟩
  have HB3 := Lib.hid (HB2.out.trans (Below.mono hb3 HB2.out.size))
  clear hb3
  go_wp2_with fail
  refine (next17_any _ l _ (by omega) (H.out.below HB3.out)).mono ?_
  rintro r w4 ⟨v4, rfl, hr4, hb4⟩
  have HR4 := Lib.hid hr4
  have HB4 := Lib.hid (HB3.out.trans (Below.mono hb4 HB3.out.size))
  clear hr4 hb4
  go_wp2_with fail
  refine (next19_any _ l _ (by omega) (H.out.below HB4.out)).mono ?_
  rintro r w5 ⟨v5, rfl, hr5, hb5⟩
  have HR5 := Lib.hid hr5
  have HR4' := Lib.hid (HR4.out.below hb5)
  have HB5 := Lib.hid (HB4.out.trans (Below.mono hb5 HB4.out.size))
  clear hr5 hb5
  go_wp2_with fail
  refine (same11 _ _ (l.drop 1) _ (by simp; omega) HR4'.out HR5.out).mono ?_
  rintro r w6 ⟨rfl, hb6⟩
  have HB6 := Lib.hid (HB5.out.trans (Below.mono hb6 HB5.out.size))
  clear hb6
  go_wp2_with fail
  refine (quit15 _ _ l cs _ (by omega) (by omega) (H.out.below HB6.out) (HU.out.below HB6.out)).mono ?_
  rintro r w7 ⟨v7, rfl, hr7, hb7⟩
  rw [HQ.out] at hr7 ⊢
  have HR7 := Lib.hid hr7
  have HB7 := Lib.hid (HB6.out.trans (Below.mono hb7 HB6.out.size))
  clear hr7 hb7
  go_wp2_with fail
  refine (quit20 _ _ l cs _ (by omega) (by omega) (H.out.below HB7.out) (HU.out.below HB7.out)).mono ?_
  rintro r w8 ⟨v8, rfl, hr8, hb8⟩
  rw [HQ.out] at hr8 ⊢
  have HR8 := Lib.hid hr8
  have HR7' := Lib.hid (HR7.out.below hb8)
  have HB8 := Lib.hid (HB7.out.trans (Below.mono hb8 HB7.out.size))
  clear hr8 hb8
  go_wp2_with fail
  refine (same11 _ _ Q _ (by omega) HR7'.out HR8.out).mono ?_
  rintro r w9 ⟨rfl, hb9⟩
  have HB9 := Lib.hid (HB8.out.trans (Below.mono hb9 HB8.out.size))
  clear hb9
  go_wp2_with fail
  refine (tell9 _ l e _ (by omega) (H.out.below HB9.out)).mono ?_
  rintro r w10 ⟨v10, rfl, hown10, hb10⟩
  have HR10 := Lib.hid (RdR.of_owns hown10)
  have HB10 := Lib.hid (HB9.out.trans (Below.mono hb10 HB9.out.size))
  clear hown10 hb10
  go_wp2_with fail
  refine (tell21 _ l e _ (by omega) (H.out.below HB10.out)).mono ?_
  rintro r w11 ⟨v11, rfl, hown11, hb11⟩
  have HR11 := Lib.hid (RdR.of_owns hown11)
  have HR10' := Lib.hid (HR10.out.below hb11)
  have HB11 := Lib.hid (HB10.out.trans (Below.mono hb11 HB10.out.size))
  clear hown11 hb11
  go_wp2_with fail
  refine (same10 _ _ (tellL e l) _ (by simp [tellL]; omega) HR10'.out HR11.out).mono ?_
  rintro r w12 ⟨rfl, hb12⟩
  have HB12 := Lib.hid (HB11.out.trans (Below.mono hb12 HB11.out.size))
  clear hb12
  go_wp2_with fail
  refine (waits12 _ _ l cs _ (by omega) (by omega) (H.out.below HB12.out) (HU.out.below HB12.out)).mono ?_
  rintro r w13 ⟨rfl, hb13⟩
  have HB13 := Lib.hid (HB12.out.trans (Below.mono hb13 HB12.out.size))
  clear hb13
  go_wp2_with fail
  refine (waits22 _ _ l cs _ (by omega) (by omega) (H.out.below HB13.out) (HU.out.below HB13.out)).mono ?_
  rintro r w14 ⟨rfl, rfl⟩
  go_wp2_with fail
  refine (serve8 _ _ l s m _ HM.out (by omega) (by omega) (H.out.below HB13.out) (HT.out.below HB13.out)).mono ?_
  rintro r w15 ⟨x1, x2, x3, rfl, ho1, ho2, ho3, hb15⟩
  have HX1 := Lib.hid (RdR.of_owns (l := rpl (prs l s m)) (by rw [rpl_len]; exact ho1))
  have HX2 := Lib.hid (RdI.of_owns ho2)
  have HX3 := Lib.hid (RdI.of_owns ho3)
  have HB15 := Lib.hid (HB13.out.trans (Below.mono hb15 HB13.out.size))
  clear ho1 ho2 ho3 hb15
  go_wp2_with fail
  refine (serve23 _ _ l s m _ HM.out (by omega) (by omega) (H.out.below HB15.out) (HT.out.below HB15.out)).mono ?_
  rintro r w16 ⟨y1, y2, y3, rfl, ho1, ho2, ho3, hb16⟩
  have HY1 := Lib.hid ho1
  have HY2 := Lib.hid ho2
  have HY3 := Lib.hid ho3
  have HX1' := Lib.hid (HX1.out.below hb16)
  have HX2' := Lib.hid (HX2.out.below hb16)
  have HX3' := Lib.hid (HX3.out.below hb16)
  have HB16 := Lib.hid (HB15.out.trans (Below.mono hb16 HB15.out.size))
  clear ho1 ho2 ho3 hb16
  go_wp2_with fail
  refine (same10 _ _ (rpl (prs l s m)) _ (by rw [rpl_len]; omega) HX1'.out HY1.out).mono ?_
  rintro r w17 ⟨rfl, hb17⟩
  have HY2' := Lib.hid (HY2.out.below hb17)
  have HY3' := Lib.hid (HY3.out.below hb17)
  have HX2'' := Lib.hid (HX2'.out.below hb17)
  have HX3'' := Lib.hid (HX3'.out.below hb17)
  have HB17 := Lib.hid (HB16.out.trans (Below.mono hb17 HB16.out.size))
  clear hb17
  go_wp2_with fail
  refine (same11 _ _ (l.drop m) _ (by simp; omega) HX2''.out HY2'.out).mono ?_
  rintro r w18 ⟨rfl, hb18⟩
  have HY4 := Lib.hid (HY3'.out.below hb18)
  have HX4 := Lib.hid (HX3''.out.below hb18)
  have HB18 := Lib.hid (HB17.out.trans (Below.mono hb18 HB17.out.size))
  clear hb18
  go_wp2_with fail
  refine (same11 _ _ (s.drop m) _ (by simp; omega) HX4.out HY4.out).mono ?_
  rintro r w19 ⟨rfl, hb19⟩
  have HB19 := Lib.hid (HB18.out.trans (Below.mono hb19 HB18.out.size))
  clear hb19
  go_wp2_with fail
  refine (wakes7 _).mono ?_
  rintro r w20 ⟨rfl, hb20⟩
  go_wp2
  go_ret
  exact ⟨rfl, HB19.out.trans (hb20.mono HB19.out.size)⟩
end Go.Proofs.Ytkpbohgadldpjaa
