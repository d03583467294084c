
/- The walk of WaitOrder: it returns true. -/
import Derived.Test.YtkpbohgadldpjaaA13
import Derived.Test.YtkpbohgadldpjaaA9
namespace Go.Proofs.Ytkpbohgadldpjaa
open Go.RowKit
attribute [local go_sem ↓] Go.wp_at_zero Go.wp_at_succ
attribute [local go_sem] more_size cell_more_old frozen_more_old setCell_more_old more_drew drew_more old_alloc old_more old_drew old_setCell cell_alloc_old frozen_alloc_old setCell_alloc_old

theorem once_of_nodup {l : List Int} (h : l.Nodup) : Once l := by
  induction l with
  | nil => intro j x hx; simp at hx
  | cons y l ih =>
    obtain ⟨h1, h2⟩ := List.nodup_cons.1 h
    intro j x hx
    cases j with
    | zero => simp at hx; subst hx; simp [idxV]
    | succ j =>
      have hx' : l[j]? = some x := by simpa using hx
      have hne : y ≠ x := by rintro rfl; exact h1 (List.mem_of_getElem? hx')
      have := ih h2 j x hx'
      simp only [idxV, hne, if_false, this]
      rw [if_neg (by omega)]
      omega
theorem drop_quit {l : List Int} (h : l.Nodup) (x : Int) : dropL l x = quitL l [x] := by
  induction l with
  | nil => simp [dropL, quitL, idxV]
  | cons y l ih =>
    obtain ⟨h1, h2⟩ := List.nodup_cons.1 h
    have ih := ih h2
    by_cases hy : y = x
    · subst hy
      have e : quitL (y :: l) [y] = quitL l [y] := by simp [quitL, hasB_one]
      rw [e, quit_none h1]
      simp [dropL, idxV]
    · have e : quitL (y :: l) [x] = y :: quitL l [x] := by simp [quitL, hasB_one, hy]
      rw [e, ← ih]
      simp only [dropL, idxV, hy, if_false]
      have := idxV_lo l x
      by_cases hi : idxV l x < 0
      · rw [if_pos hi, if_neg (by omega), if_neg (by omega)]
      · rw [if_neg hi, if_pos (by omega), if_pos (by omega), show (idxV l x + 1).toNat = (idxV l x).toNat + 1 from by omega]
        simp
theorem join_in {l : List Int} {n most : Int} (h : n ∈ l) : joinL most l [n] = (l, 2) := by simp [joinL, h]
theorem join_full {l : List Int} {n most : Int} (h : ¬ n ∈ l) (hm : most ≤ (l.length : Int)) : joinL most l [n] = (l, 230) := by simp [joinL, h, hm]
theorem join_ok {l : List Int} {n most : Int} (h : ¬ n ∈ l) (hm : ¬ most ≤ (l.length : Int)) : joinL most l [n] = (l ++ [n], 0) := by simp only [joinL]; rw [if_neg h, if_neg hm]

/-- In the world w the value v is a slice of the deeds l. -/
def RdD (w : World) (v : Value) (l : List (Int × Int)) : Prop :=
  (l = [] ∧ ∃ a c, v = .slice a 0 c) ∨
  (l ≠ [] ∧ ∃ b off cap, v = .slice (some ⟨b, off, none⟩) l.length cap ∧ l.length ≤ cap ∧ b < w.heap.size ∧ ∀ k d, l[k]? = some d → w.cell? ⟨b, off + k * 2, none⟩ = some (.int .i64 d.1) ∧ w.cell? ⟨b, off + k * 2 + 1, none⟩ = some (.int .i64 d.2))
theorem rdD_cases {w : World} {v : Value} {l : List (Int × Int)} (h : RdD w v l) : ∃ a c, v = .slice a l.length c ∧ (l ≠ [] → ∃ b off, a = some ⟨b, off, none⟩ ∧ b < w.heap.size ∧
    ∀ k d, l[k]? = some d → w.cell? ⟨b, off + k * 2, none⟩ = some (.int .i64 d.1) ∧ w.cell? ⟨b, off + k * 2 + 1, none⟩ = some (.int .i64 d.2)) := by
  rcases h with ⟨rfl, a, c, rfl⟩ | ⟨hne, b, off, cap, rfl, hcap, hlt, hx⟩
  · exact ⟨a, c, rfl, fun h => absurd rfl h⟩
  · exact ⟨_, _, rfl, fun _ => ⟨b, off, rfl, hlt, hx⟩⟩

set_option maxRecDepth 100000 in
set_option maxHeartbeats 4000000 in
theorem order4 (v : Value) (ds : List (Int × Int)) (most : Int) (w : World) (hl : ds.length ≤ 4611686018427387904) (h : RdD w v ds) :
    Calls Try.prog 4 #[.int .i64 most, v] w fun r w' => r = .returned (.bool true) ∧ Below w.heap.size w w' := by
  obtain ⟨a, cp, rfl, hx⟩ := rdD_cases h
  have HX := Lib.hid hx
  clear h hx
  by_cases g1 : 100 < ds.length
  · go_enter Try.func4, Try.ntmps4
    go_wp2_with fail
    refine (wakes7 _).mono ?_
    rintro r w1 ⟨rfl, hb⟩
    go_wp2
    go_ret
    exact ⟨rfl, hb⟩
  by_cases g2 : 100 < most
  · go_enter Try.func4, Try.ntmps4
    go_wp2_with fail
    refine (wakes7 _).mono ?_
    rintro r w1 ⟨rfl, hb⟩
    go_wp2
    go_ret
    exact ⟨rfl, hb⟩
  have g1' : ds.length ≤ 100 := by omega
  have g2' : most ≤ 100 := by omega
  clear g1 g2 hl
  obtain ⟨i0, hi, hz0, hz1, hz2⟩ := info_parts info3
  go_enter Try.func4, Try.ntmps4
  go_wp2_with fail
  go_loopw [5, 6, 7, 8, 9, 10] (fun now want jo se qu i wr => ∃ (k j s q : Nat) (L : List Int), k ≤ ds.length ∧ i = .int .i64 k ∧ jo = .int .i64 j ∧ se = .int .i64 s ∧ qu = .int .i64 q ∧ j = s + q + L.length ∧ j ≤ k ∧ L.Nodup ∧ RdI wr now L ∧ RdI wr want L ∧ Below w.heap.size w wr)
    (fun _ _ _ _ _ i _ => ds.length - (intOf i).toNat)
  case atStart => exact ⟨0, 0, 0, 0, [], Nat.zero_le _, rfl, rfl, rfl, rfl, rfl, Nat.le_refl _, List.nodup_nil, rdI_nil _, rdI_nil _, Below.refl _ _⟩
  case round =>
    obtain ⟨k, j, s, q, L, hk, rfl, rfl, rfl, rfl, hj, hjk, hnd, hnow, hwant, hbl⟩ := hrel
    have hLk : L.length ≤ k := by omega
    have hs1 : s ≤ k := by omega
    have hq1 : q ≤ k := by omega
    have HJ := Lib.hid hj
    have HND := Lib.hid hnd
    have HA := Lib.hid hnow
    have HC := Lib.hid hwant
    have HB := Lib.hid hbl
    clear hj hnd hnow hwant hbl
    by_cases hk' : k < ds.length
    · obtain ⟨b, o, rfl, hb, hx⟩ := HX.out (fun e => by subst e; simp at hk')
      obtain ⟨⟨dO, n⟩, hz⟩ : ∃ z, ds[k]? = some z := ⟨ds[k], List.getElem?_eq_getElem hk'⟩
      obtain ⟨x0, x1⟩ := hx k _ hz
      have c0 : wr.cell? ⟨b, o + k * 2, none⟩ = some (.int .i64 dO) := (HB.out.cell (p := ⟨b, o + k * 2, none⟩) hb).trans x0
      have c1 : wr.cell? ⟨b, o + k * 2 + 1, none⟩ = some (.int .i64 n) := (HB.out.cell (p := ⟨b, o + k * 2 + 1, none⟩) hb).trans x1
      clear hx hz x0 x1
      obtain ⟨an, cn, rfl⟩ := HA.out.shape
      obtain ⟨aw, cw, rfl⟩ := HC.out.shape
      rcases (show dO = 0 ∨ dO = 1 ∨ dO = 2 ∨ (dO ≠ 0 ∧ dO ≠ 1 ∧ dO ≠ 2) from by omega) with rfl | rfl | rfl | ⟨d0, d1, d2⟩
      · -- joins
        obtain ⟨J, hJ⟩ : ∃ J, joinL most L [n] = J := ⟨_, rfl⟩
        have HJJ := Lib.hid hJ
        clear hJ
        rcases (show (n ∈ L) ∨ (¬ n ∈ L ∧ most ≤ (L.length : Int)) ∨ (¬ n ∈ L ∧ ¬ most ≤ (L.length : Int)) from by by_cases h1 : n ∈ L <;> by_cases h2 : most ≤ (L.length : Int) <;> simp [h1, h2]) with hin | ⟨hin, hm⟩ | ⟨hin, hm⟩
        · have hix := (idxV_has L n).2 hin
          obtain rfl : J = (L, 2) := by rw [← HJJ.out, join_in hin]
          clear hin
          go_wp2_with fail
          refine (join13 _ _ L [n] most _ (by omega) (by simp) (HA.out.below (by (repeat' (first | (with_reducible exact Below.refl _ _) | (with_reducible assumption) | (with_reducible refine Below.drew ?_) | (with_reducible refine Below.alloc ?_ ?_ _) | (with_reducible refine below_more ?_ ?_ _ _) | (with_reducible refine Below.setCell ?_ ?_ _) | (with_reducible refine Below.trans ?_ (Below.mono (by assumption) ?_)))) <;> first | omega | (simp; done) | (simp; omega) | (simp [more_size]; done) | (simp [more_size]; omega))) (by exact rdI_new _ [n] (by simp))).mono ?_
          rintro r w2 ⟨v2, rfl, hown, hb2⟩
          rw [HJJ.out] at hown ⊢
          have HA2 := Lib.hid (RdI.of_owns hown)
          have HC2 := Lib.hid (HC.out.below (w' := w2) (by (repeat' (first | (with_reducible exact Below.refl _ _) | (with_reducible assumption) | (with_reducible refine Below.drew ?_) | (with_reducible refine Below.alloc ?_ ?_ _) | (with_reducible refine below_more ?_ ?_ _ _) | (with_reducible refine Below.setCell ?_ ?_ _) | (with_reducible refine Below.trans ?_ (Below.mono (by assumption) ?_)))) <;> first | omega | (simp; done) | (simp; omega) | (simp [more_size]; done) | (simp [more_size]; omega)))
          have HB2 : Hid (Below w.heap.size w w2) := by show Below _ _ _; have hb := HB.out; have hz := hb.size; (repeat' (first | (with_reducible exact Below.refl _ _) | (with_reducible assumption) | (with_reducible refine Below.drew ?_) | (with_reducible refine Below.alloc ?_ ?_ _) | (with_reducible refine below_more ?_ ?_ _ _) | (with_reducible refine Below.setCell ?_ ?_ _) | (with_reducible refine Below.trans ?_ (Below.mono (by assumption) ?_)))) <;> first | omega | (simp; done) | (simp; omega) | (simp [more_size]; done) | (simp [more_size]; omega)
          clear hown hb2 HA HC HB
          have HA := HA2
          have HC := HC2
          have HB := HB2
          clear HA2 HC2 HB2
          obtain ⟨a2, c2, rfl⟩ := HA.out.shape
          go_wp2_with fail
          refine (place14 _ L n _ (by omega) HC.out).mono ?_
          rintro r w3 ⟨rfl, rfl⟩
          go_wp2_with fail
          refine (same11 _ _ (L) _ (by omega) HA.out HC.out).mono ?_
          rintro r w9 ⟨rfl, hb9⟩
          have HBF := Lib.hid (HB.out.trans (hb9.mono HB.out.size))
          have HAF := Lib.hid (HA.out.below hb9)
          have HCF := Lib.hid (HC.out.below hb9)
          clear hb9
          go_wp2
          go_roundw
          case rel => exact ⟨k + 1, j, s, q, L, by omega, by go_num, by go_num, by go_num, by go_num, HJ.out, by omega, HND.out, HAF.out, HCF.out, HBF.out⟩
          case measure => simp [intOf]; omega
        · have hix : idxV L n < 0 := by have := mt (idxV_has L n).1 hin; omega
          obtain rfl : J = (L, 230) := by rw [← HJJ.out, join_full hin hm]
          clear hin
          go_wp2_with fail
          refine (join13 _ _ L [n] most _ (by omega) (by simp) (HA.out.below (by (repeat' (first | (with_reducible exact Below.refl _ _) | (with_reducible assumption) | (with_reducible refine Below.drew ?_) | (with_reducible refine Below.alloc ?_ ?_ _) | (with_reducible refine below_more ?_ ?_ _ _) | (with_reducible refine Below.setCell ?_ ?_ _) | (with_reducible refine Below.trans ?_ (Below.mono (by assumption) ?_)))) <;> first | omega | (simp; done) | (simp; omega) | (simp [more_size]; done) | (simp [more_size]; omega))) (by exact rdI_new _ [n] (by simp))).mono ?_
          rintro r w2 ⟨v2, rfl, hown, hb2⟩
          rw [HJJ.out] at hown ⊢
          have HA2 := Lib.hid (RdI.of_owns hown)
          have HC2 := Lib.hid (HC.out.below (w' := w2) (by (repeat' (first | (with_reducible exact Below.refl _ _) | (with_reducible assumption) | (with_reducible refine Below.drew ?_) | (with_reducible refine Below.alloc ?_ ?_ _) | (with_reducible refine below_more ?_ ?_ _ _) | (with_reducible refine Below.setCell ?_ ?_ _) | (with_reducible refine Below.trans ?_ (Below.mono (by assumption) ?_)))) <;> first | omega | (simp; done) | (simp; omega) | (simp [more_size]; done) | (simp [more_size]; omega)))
          have HB2 : Hid (Below w.heap.size w w2) := by show Below _ _ _; have hb := HB.out; have hz := hb.size; (repeat' (first | (with_reducible exact Below.refl _ _) | (with_reducible assumption) | (with_reducible refine Below.drew ?_) | (with_reducible refine Below.alloc ?_ ?_ _) | (with_reducible refine below_more ?_ ?_ _ _) | (with_reducible refine Below.setCell ?_ ?_ _) | (with_reducible refine Below.trans ?_ (Below.mono (by assumption) ?_)))) <;> first | omega | (simp; done) | (simp; omega) | (simp [more_size]; done) | (simp [more_size]; omega)
          clear hown hb2 HA HC HB
          have HA := HA2
          have HC := HC2
          have HB := HB2
          clear HA2 HC2 HB2
          obtain ⟨a2, c2, rfl⟩ := HA.out.shape
          go_wp2_with fail
          refine (place14 _ L n _ (by omega) HC.out).mono ?_
          rintro r w3 ⟨rfl, rfl⟩
          go_wp2_with fail
          refine (same11 _ _ (L) _ (by omega) HA.out HC.out).mono ?_
          rintro r w9 ⟨rfl, hb9⟩
          have HBF := Lib.hid (HB.out.trans (hb9.mono HB.out.size))
          have HAF := Lib.hid (HA.out.below hb9)
          have HCF := Lib.hid (HC.out.below hb9)
          clear hb9
          go_wp2
          go_roundw
          case rel => exact ⟨k + 1, j, s, q, L, by omega, by go_num, by go_num, by go_num, by go_num, HJ.out, by omega, HND.out, HAF.out, HCF.out, HBF.out⟩
          case measure => simp [intOf]; omega
        · have hix : idxV L n < 0 := by have := mt (idxV_has L n).1 hin; omega
          have hm' : (L.length : Int) < most := by omega
          obtain rfl : J = (L ++ [n], 0) := by rw [← HJJ.out, join_ok hin hm]
          have HND' : Hid ((L ++ [n]).Nodup) := by
            show List.Nodup _
            rw [List.nodup_append]
            exact ⟨HND.out, by simp, fun x hx y hy => by simp at hy; subst hy; rintro rfl; exact hin hx⟩
          clear hin hm
          go_wp2_with fail
          refine (join13 _ _ L [n] most _ (by omega) (by simp) (HA.out.below (by (repeat' (first | (with_reducible exact Below.refl _ _) | (with_reducible assumption) | (with_reducible refine Below.drew ?_) | (with_reducible refine Below.alloc ?_ ?_ _) | (with_reducible refine below_more ?_ ?_ _ _) | (with_reducible refine Below.setCell ?_ ?_ _) | (with_reducible refine Below.trans ?_ (Below.mono (by assumption) ?_)))) <;> first | omega | (simp; done) | (simp; omega) | (simp [more_size]; done) | (simp [more_size]; omega))) (by exact rdI_new _ [n] (by simp))).mono ?_
          rintro r w2 ⟨v2, rfl, hown, hb2⟩
          rw [HJJ.out] at hown ⊢
          have HA2 := Lib.hid (RdI.of_owns hown)
          have HC2 := Lib.hid (HC.out.below (w' := w2) (by (repeat' (first | (with_reducible exact Below.refl _ _) | (with_reducible assumption) | (with_reducible refine Below.drew ?_) | (with_reducible refine Below.alloc ?_ ?_ _) | (with_reducible refine below_more ?_ ?_ _ _) | (with_reducible refine Below.setCell ?_ ?_ _) | (with_reducible refine Below.trans ?_ (Below.mono (by assumption) ?_)))) <;> first | omega | (simp; done) | (simp; omega) | (simp [more_size]; done) | (simp [more_size]; omega)))
          have HB2 : Hid (Below w.heap.size w w2) := by show Below _ _ _; have hb := HB.out; have hz := hb.size; (repeat' (first | (with_reducible exact Below.refl _ _) | (with_reducible assumption) | (with_reducible refine Below.drew ?_) | (with_reducible refine Below.alloc ?_ ?_ _) | (with_reducible refine below_more ?_ ?_ _ _) | (with_reducible refine Below.setCell ?_ ?_ _) | (with_reducible refine Below.trans ?_ (Below.mono (by assumption) ?_)))) <;> first | omega | (simp; done) | (simp; omega) | (simp [more_size]; done) | (simp [more_size]; omega)
          clear hown hb2 HA HC HB
          have HA := HA2
          have HC := HC2
          have HB := HB2
          clear HA2 HC2 HB2
          obtain ⟨a2, c2, rfl⟩ := HA.out.shapeN (n := L.length + 1) (by simp)
          go_wp2_with fail
          refine (place14 _ L n _ (by omega) HC.out).mono ?_
          rintro r w3 ⟨rfl, rfl⟩
          have hbz := HB.out.size
          go_wp2_with (first
            | (at_builtin; refine wpList_append_rd rfl (.tmp 80) (.tmp 81) 22 rfl w2.heap.size 3 i0 Try.underlying22 hi hz0 hz1 hz2 _ 0 [] rfl (owns_empty w2 _ 3 1 (Nat.le_refl _)) _ L rfl (HC.out.below (by (repeat' (first | (with_reducible exact Below.refl _ _) | (with_reducible assumption) | (with_reducible refine Below.drew ?_) | (with_reducible refine Below.alloc ?_ ?_ _) | (with_reducible refine below_more ?_ ?_ _ _) | (with_reducible refine Below.setCell ?_ ?_ _) | (with_reducible refine Below.trans ?_ (Below.mono (by assumption) ?_)))) <;> first | omega | (simp; done) | (simp; omega) | (simp [more_size]; done) | (simp [more_size]; omega))) (by omega) (by simp) ?_))
          intro v5 w5 hown5 hgrow5
          have hb5 : Below w2.heap.size w2 w5 := ((Below.refl _ w2).alloc (Nat.le_refl _) _).grown hgrow5 (by simp) (fun j hj => by cases hj; exact Nat.le_refl _)
          have HO5 := Lib.hid hown5
          have HB5 := Lib.hid hb5
          clear hown5 hgrow5 hb5
          go_wp2_with (first
            | (at_builtin; refine wpList_append_rd rfl (.tmp 82) (.tmp 84) 22 rfl w2.heap.size 3 i0 Try.underlying22 hi hz0 hz1 hz2 _ _ _ rfl (HO5.out.alloc _) _ [n] rfl (by exact rdI_new _ [n] (by simp)) (by simp; omega) (by have := HB5.out.size; simp; omega) ?_))
          intro v6 w6 hown6 hgrow6
          have hb6 : Below w2.heap.size w2 w6 := (HB5.out.alloc HB5.out.size _).grown hgrow6 (by have := HB5.out.size; simp; omega) (fun j hj => ownBlock_ge HO5.out hj)
          have HC6 : Hid (RdI w6 v6 (L ++ [n])) := RdI.of_owns (by simpa using hown6)
          have HA6 := Lib.hid (HA.out.below hb6)
          have HB6 := Lib.hid (HB.out.trans (hb6.mono HB.out.size))
          clear hown6 hgrow6 hb6 HA HC HB HO5 HB5
          have HA := HA6
          have HC := HC6
          have HB := HB6
          clear HA6 HC6 HB6
          obtain ⟨a6, c6, rfl⟩ := HC.out.shapeN (n := L.length + 1) (by simp)
          go_wp2_with fail
          refine (same11 _ _ (L ++ [n]) _ (by simp; omega) HA.out HC.out).mono ?_
          rintro r w9 ⟨rfl, hb9⟩
          have HBF := Lib.hid (HB.out.trans (hb9.mono HB.out.size))
          have HAF := Lib.hid (HA.out.below hb9)
          have HCF := Lib.hid (HC.out.below hb9)
          clear hb9
          go_wp2
          go_roundw
          case rel => exact ⟨k + 1, j + 1, s, q, L ++ [n], by omega, by go_num, by go_num, by go_num, by go_num, by have := HJ.out; simp; omega, by omega, HND'.out, HAF.out, HCF.out, HBF.out⟩
          case measure => simp [intOf]; omega
      · -- quits
        obtain ⟨L', hL'⟩ : ∃ L', quitL L [n] = L' := ⟨_, rfl⟩
        have hql := quit_len (c := n) (once_of_nodup HND.out)
        rw [hL'] at hql
        have HQ := Lib.hid hL'
        have HDQ : Hid (dropL L n = L') := by show _ = _; rw [drop_quit HND.out, hL']
        have HND' : Hid (L'.Nodup) := by show List.Nodup _; rw [← hL']; exact HND.out.filter _
        clear hL'
        have hcase : (L'.length + 1 = L.length ∧ Hid ((L.length : Int) - (L'.length : Int) = 1) ∧ 0 ≤ idxV L n) ∨ (L'.length = L.length ∧ Hid ((L.length : Int) - (L'.length : Int) = 0) ∧ idxV L n < 0) := by
          by_cases hcl : n ∈ L
          · rw [if_pos hcl] at hql
            exact .inl ⟨hql, by show _ = _; omega, (idxV_has L n).2 hcl⟩
          · rw [if_neg hcl] at hql
            exact .inr ⟨by omega, by show _ = _; omega, by have := mt (idxV_has L n).1 hcl; omega⟩
        clear hql
        obtain ⟨n', hn'⟩ : ∃ n', L'.length = n' := ⟨_, rfl⟩
        rw [hn'] at hcase
        have HNN := Lib.hid hn'
        clear hn'
        rcases hcase with ⟨hn1, HG, hix⟩ | ⟨hn1, HG, hix⟩
        · have HN1 := Lib.hid hn1
          have hn2 : n' ≤ 100 := by omega
          clear hn1
          go_wp2_with fail
          refine (quit15 _ _ L [n] _ (by omega) (by simp) (HA.out.below (by (repeat' (first | (with_reducible exact Below.refl _ _) | (with_reducible assumption) | (with_reducible refine Below.drew ?_) | (with_reducible refine Below.alloc ?_ ?_ _) | (with_reducible refine below_more ?_ ?_ _ _) | (with_reducible refine Below.setCell ?_ ?_ _) | (with_reducible refine Below.trans ?_ (Below.mono (by assumption) ?_)))) <;> first | omega | (simp; done) | (simp; omega) | (simp [more_size]; done) | (simp [more_size]; omega))) (by exact rdI_new _ [n] (by simp))).mono ?_
          rintro r w2 ⟨v2, rfl, hrd, hb2⟩
          rw [HQ.out] at hrd ⊢
          rw [HNN.out, HG.out]
          obtain ⟨a2, c2, rfl⟩ := hrd.shapeN HNN.out
          have HA2 := Lib.hid hrd
          have HC2 := Lib.hid (HC.out.below (w' := w2) (by (repeat' (first | (with_reducible exact Below.refl _ _) | (with_reducible assumption) | (with_reducible refine Below.drew ?_) | (with_reducible refine Below.alloc ?_ ?_ _) | (with_reducible refine below_more ?_ ?_ _ _) | (with_reducible refine Below.setCell ?_ ?_ _) | (with_reducible refine Below.trans ?_ (Below.mono (by assumption) ?_)))) <;> first | omega | (simp; done) | (simp; omega) | (simp [more_size]; done) | (simp [more_size]; omega)))
          have HB2 : Hid (Below w.heap.size w w2) := by show Below _ _ _; have hb := HB.out; have hz := hb.size; (repeat' (first | (with_reducible exact Below.refl _ _) | (with_reducible assumption) | (with_reducible refine Below.drew ?_) | (with_reducible refine Below.alloc ?_ ?_ _) | (with_reducible refine below_more ?_ ?_ _ _) | (with_reducible refine Below.setCell ?_ ?_ _) | (with_reducible refine Below.trans ?_ (Below.mono (by assumption) ?_)))) <;> first | omega | (simp; done) | (simp; omega) | (simp [more_size]; done) | (simp [more_size]; omega)
          clear hrd hb2 HA HC HB
          have HA := HA2
          have HC := HC2
          have HB := HB2
          clear HA2 HC2 HB2
          go_wp2_with fail
          refine (place14 _ L n _ (by omega) HC.out).mono ?_
          rintro r w3 ⟨rfl, rfl⟩
          go_wp2_with fail
          refine (drop16 _ _ L n _ (by omega) (HC.out.below (by (repeat' (first | (with_reducible exact Below.refl _ _) | (with_reducible assumption) | (with_reducible refine Below.drew ?_) | (with_reducible refine Below.alloc ?_ ?_ _) | (with_reducible refine below_more ?_ ?_ _ _) | (with_reducible refine Below.setCell ?_ ?_ _) | (with_reducible refine Below.trans ?_ (Below.mono (by assumption) ?_)))) <;> first | omega | (simp; done) | (simp; omega) | (simp [more_size]; done) | (simp [more_size]; omega))) (by exact rdI_new _ [n] (by simp))).mono ?_
          rintro r w4 ⟨v4, g4, rfl, hrd, hb4⟩
          rw [HDQ.out] at hrd
          obtain ⟨a4, c4, rfl⟩ := hrd.shapeN HNN.out
          have HC2 := Lib.hid hrd
          have HA2 := Lib.hid (HA.out.below (w' := w4) (by (repeat' (first | (with_reducible exact Below.refl _ _) | (with_reducible assumption) | (with_reducible refine Below.drew ?_) | (with_reducible refine Below.alloc ?_ ?_ _) | (with_reducible refine below_more ?_ ?_ _ _) | (with_reducible refine Below.setCell ?_ ?_ _) | (with_reducible refine Below.trans ?_ (Below.mono (by assumption) ?_)))) <;> first | omega | (simp; done) | (simp; omega) | (simp [more_size]; done) | (simp [more_size]; omega)))
          have HB2 : Hid (Below w.heap.size w w4) := by show Below _ _ _; have hb := HB.out; have hz := hb.size; (repeat' (first | (with_reducible exact Below.refl _ _) | (with_reducible assumption) | (with_reducible refine Below.drew ?_) | (with_reducible refine Below.alloc ?_ ?_ _) | (with_reducible refine below_more ?_ ?_ _ _) | (with_reducible refine Below.setCell ?_ ?_ _) | (with_reducible refine Below.trans ?_ (Below.mono (by assumption) ?_)))) <;> first | omega | (simp; done) | (simp; omega) | (simp [more_size]; done) | (simp [more_size]; omega)
          clear hrd hb4 HA HC HB
          have HA := HA2
          have HC := HC2
          have HB := HB2
          clear HA2 HC2 HB2
          go_wp2_with fail
          refine (same11 _ _ L' _ (by rw [HNN.out]; omega) HA.out HC.out).mono ?_
          rintro r w9 ⟨rfl, hb9⟩
          have HBF := Lib.hid (HB.out.trans (hb9.mono HB.out.size))
          have HAF := Lib.hid (HA.out.below hb9)
          have HCF := Lib.hid (HC.out.below hb9)
          clear hb9
          go_wp2
          go_roundw
          case rel => exact ⟨k + 1, j, s, q + 1, L', by omega, by go_num, by go_num, by go_num, by go_num, by have := HJ.out; have := HN1.out; have := HNN.out; omega, by omega, HND'.out, HAF.out, HCF.out, HBF.out⟩
          case measure => simp [intOf]; omega
        · have HN1 := Lib.hid hn1
          have hn2 : n' ≤ 100 := by omega
          clear hn1
          go_wp2_with fail
          refine (quit15 _ _ L [n] _ (by omega) (by simp) (HA.out.below (by (repeat' (first | (with_reducible exact Below.refl _ _) | (with_reducible assumption) | (with_reducible refine Below.drew ?_) | (with_reducible refine Below.alloc ?_ ?_ _) | (with_reducible refine below_more ?_ ?_ _ _) | (with_reducible refine Below.setCell ?_ ?_ _) | (with_reducible refine Below.trans ?_ (Below.mono (by assumption) ?_)))) <;> first | omega | (simp; done) | (simp; omega) | (simp [more_size]; done) | (simp [more_size]; omega))) (by exact rdI_new _ [n] (by simp))).mono ?_
          rintro r w2 ⟨v2, rfl, hrd, hb2⟩
          rw [HQ.out] at hrd ⊢
          rw [HNN.out, HG.out]
          obtain ⟨a2, c2, rfl⟩ := hrd.shapeN HNN.out
          have HA2 := Lib.hid hrd
          have HC2 := Lib.hid (HC.out.below (w' := w2) (by (repeat' (first | (with_reducible exact Below.refl _ _) | (with_reducible assumption) | (with_reducible refine Below.drew ?_) | (with_reducible refine Below.alloc ?_ ?_ _) | (with_reducible refine below_more ?_ ?_ _ _) | (with_reducible refine Below.setCell ?_ ?_ _) | (with_reducible refine Below.trans ?_ (Below.mono (by assumption) ?_)))) <;> first | omega | (simp; done) | (simp; omega) | (simp [more_size]; done) | (simp [more_size]; omega)))
          have HB2 : Hid (Below w.heap.size w w2) := by show Below _ _ _; have hb := HB.out; have hz := hb.size; (repeat' (first | (with_reducible exact Below.refl _ _) | (with_reducible assumption) | (with_reducible refine Below.drew ?_) | (with_reducible refine Below.alloc ?_ ?_ _) | (with_reducible refine below_more ?_ ?_ _ _) | (with_reducible refine Below.setCell ?_ ?_ _) | (with_reducible refine Below.trans ?_ (Below.mono (by assumption) ?_)))) <;> first | omega | (simp; done) | (simp; omega) | (simp [more_size]; done) | (simp [more_size]; omega)
          clear hrd hb2 HA HC HB
          have HA := HA2
          have HC := HC2
          have HB := HB2
          clear HA2 HC2 HB2
          go_wp2_with fail
          refine (place14 _ L n _ (by omega) HC.out).mono ?_
          rintro r w3 ⟨rfl, rfl⟩
          go_wp2_with fail
          refine (drop16 _ _ L n _ (by omega) (HC.out.below (by (repeat' (first | (with_reducible exact Below.refl _ _) | (with_reducible assumption) | (with_reducible refine Below.drew ?_) | (with_reducible refine Below.alloc ?_ ?_ _) | (with_reducible refine below_more ?_ ?_ _ _) | (with_reducible refine Below.setCell ?_ ?_ _) | (with_reducible refine Below.trans ?_ (Below.mono (by assumption) ?_)))) <;> first | omega | (simp; done) | (simp; omega) | (simp [more_size]; done) | (simp [more_size]; omega))) (by exact rdI_new _ [n] (by simp))).mono ?_
          rintro r w4 ⟨v4, g4, rfl, hrd, hb4⟩
          rw [HDQ.out] at hrd
          obtain ⟨a4, c4, rfl⟩ := hrd.shapeN HNN.out
          have HC2 := Lib.hid hrd
          have HA2 := Lib.hid (HA.out.below (w' := w4) (by (repeat' (first | (with_reducible exact Below.refl _ _) | (with_reducible assumption) | (with_reducible refine Below.drew ?_) | (with_reducible refine Below.alloc ?_ ?_ _) | (with_reducible refine below_more ?_ ?_ _ _) | (with_reducible refine Below.setCell ?_ ?_ _) | (with_reducible refine Below.trans ?_ (Below.mono (by assumption) ?_)))) <;> first | omega | (simp; done) | (simp; omega) | (simp [more_size]; done) | (simp [more_size]; omega)))
          have HB2 : Hid (Below w.heap.size w w4) := by show Below _ _ _; have hb := HB.out; have hz := hb.size; (repeat' (first | (with_reducible exact Below.refl _ _) | (with_reducible assumption) | (with_reducible refine Below.drew ?_) | (with_reducible refine Below.alloc ?_ ?_ _) | (with_reducible refine below_more ?_ ?_ _ _) | (with_reducible refine Below.setCell ?_ ?_ _) | (with_reducible refine Below.trans ?_ (Below.mono (by assumption) ?_)))) <;> first | omega | (simp; done) | (simp; omega) | (simp [more_size]; done) | (simp [more_size]; omega)
          clear hrd hb4 HA HC HB
          have HA := HA2
          have HC := HC2
          have HB := HB2
          clear HA2 HC2 HB2
          go_wp2_with fail
          refine (same11 _ _ L' _ (by rw [HNN.out]; omega) HA.out HC.out).mono ?_
          rintro r w9 ⟨rfl, hb9⟩
          have HBF := Lib.hid (HB.out.trans (hb9.mono HB.out.size))
          have HAF := Lib.hid (HA.out.below hb9)
          have HCF := Lib.hid (HC.out.below hb9)
          clear hb9
          go_wp2
          go_roundw
          case rel => exact ⟨k + 1, j, s, q, L', by omega, by go_num, by go_num, by go_num, by go_num, by have := HJ.out; have := HN1.out; have := HNN.out; omega, by omega, HND'.out, HAF.out, HCF.out, HBF.out⟩
          case measure => simp [intOf]; omega
      · -- serves
        by_cases hL0 : L.length = 0
        · have ht0 : ((L.length : Int) == 0) = true := by simpa using hL0
          have HL0 := Lib.hid hL0
          clear hL0
          go_wp2_with fail
          refine (serve8 _ _ L [n] 0 _ (by rw [HL0.out]; rfl) (by omega) (by simp) (HA.out.below (by (repeat' (first | (with_reducible exact Below.refl _ _) | (with_reducible assumption) | (with_reducible refine Below.drew ?_) | (with_reducible refine Below.alloc ?_ ?_ _) | (with_reducible refine below_more ?_ ?_ _ _) | (with_reducible refine Below.setCell ?_ ?_ _) | (with_reducible refine Below.trans ?_ (Below.mono (by assumption) ?_)))) <;> first | omega | (simp; done) | (simp; omega) | (simp [more_size]; done) | (simp [more_size]; omega))) (by exact rdI_new _ [n] (by simp))).mono ?_
          rintro r w2 ⟨v2, v3, v4, rfl, hown, -, hleft, hb2⟩
          have hr := RdR.of_owns (l := rpl (prs L [n] 0)) (by rw [rpl_len]; exact hown)
          obtain ⟨a2, c2, rfl⟩ := hr.shape' (rpl_len _ _ _)
          rcases RdI.of_owns hleft with ⟨h0, _⟩ | ⟨_, b4, o4, cap4, rfl, _, _, hx4⟩
          · cases h0
          have hc4 := hx4 0 n rfl
          rw [Nat.add_zero] at hc4
          have HA2 := Lib.hid (HA.out.below (w' := w2) (by (repeat' (first | (with_reducible exact Below.refl _ _) | (with_reducible assumption) | (with_reducible refine Below.drew ?_) | (with_reducible refine Below.alloc ?_ ?_ _) | (with_reducible refine below_more ?_ ?_ _ _) | (with_reducible refine Below.setCell ?_ ?_ _) | (with_reducible refine Below.trans ?_ (Below.mono (by assumption) ?_)))) <;> first | omega | (simp; done) | (simp; omega) | (simp [more_size]; done) | (simp [more_size]; omega)))
          have HC2 := Lib.hid (HC.out.below (w' := w2) (by (repeat' (first | (with_reducible exact Below.refl _ _) | (with_reducible assumption) | (with_reducible refine Below.drew ?_) | (with_reducible refine Below.alloc ?_ ?_ _) | (with_reducible refine below_more ?_ ?_ _ _) | (with_reducible refine Below.setCell ?_ ?_ _) | (with_reducible refine Below.trans ?_ (Below.mono (by assumption) ?_)))) <;> first | omega | (simp; done) | (simp; omega) | (simp [more_size]; done) | (simp [more_size]; omega)))
          have HB2 : Hid (Below w.heap.size w w2) := by show Below _ _ _; have hb := HB.out; have hz := hb.size; (repeat' (first | (with_reducible exact Below.refl _ _) | (with_reducible assumption) | (with_reducible refine Below.drew ?_) | (with_reducible refine Below.alloc ?_ ?_ _) | (with_reducible refine below_more ?_ ?_ _ _) | (with_reducible refine Below.setCell ?_ ?_ _) | (with_reducible refine Below.trans ?_ (Below.mono (by assumption) ?_)))) <;> first | omega | (simp; done) | (simp; omega) | (simp [more_size]; done) | (simp [more_size]; omega)
          clear hown hleft hb2 hr hx4
          go_wp2
          go_roundw
          case rel => exact ⟨k + 1, j, s, q, L, by omega, by go_num, by go_num, by go_num, by go_num, HJ.out, by omega, HND.out, HA2.out, HC2.out, HB2.out⟩
          case measure => simp [intOf]; omega
        · have ht0 : ((L.length : Int) == 0) = false := by simpa using hL0
          obtain ⟨y, L2, hL⟩ : ∃ y L2, L = y :: L2 := by
            cases L with
            | nil => simp at hL0
            | cons y L2 => exact ⟨y, L2, rfl⟩
          have HL := Lib.hid hL
          have hL1 : 1 ≤ L.length := by omega
          have hL2 : (0 : Int) < (L.length : Int) := by omega
          clear hL hL0
          have q1 := run_cut22 aw L.length cw 1 hL1
          rw [show (((1 : Nat)) : Int) = 1 from rfl] at q1
          go_wp2_with fail
          refine (serve8 _ _ L [n] 1 _ (by simp; omega) (by omega) (by simp) (HA.out.below (by (repeat' (first | (with_reducible exact Below.refl _ _) | (with_reducible assumption) | (with_reducible refine Below.drew ?_) | (with_reducible refine Below.alloc ?_ ?_ _) | (with_reducible refine below_more ?_ ?_ _ _) | (with_reducible refine Below.setCell ?_ ?_ _) | (with_reducible refine Below.trans ?_ (Below.mono (by assumption) ?_)))) <;> first | omega | (simp; done) | (simp; omega) | (simp [more_size]; done) | (simp [more_size]; omega))) (by exact rdI_new _ [n] (by simp))).mono ?_
          rintro r w2 ⟨v2, v3, v4, rfl, hown, hrest, hleft, hb2⟩
          have hr := RdR.of_owns (l := [⟨y, n, 0⟩]) (by rw [HL.out] at hown; exact hown)
          rcases hr with ⟨h0, _⟩ | ⟨_, b2, o2, cap2, rfl, _, _, hx2⟩
          · cases h0
          obtain ⟨r0, r1, r2⟩ := hx2 0 _ rfl
          simp only [Nat.zero_mul, Nat.add_zero] at r0 r1 r2
          obtain ⟨a4, c4, rfl⟩ := (RdI.of_owns hleft).shapeN (n := 0) rfl
          have HA2 := Lib.hid (RdI.of_owns hrest)
          have hC2 := HC.out.below (w' := w2) (by (repeat' (first | (with_reducible exact Below.refl _ _) | (with_reducible assumption) | (with_reducible refine Below.drew ?_) | (with_reducible refine Below.alloc ?_ ?_ _) | (with_reducible refine below_more ?_ ?_ _ _) | (with_reducible refine Below.setCell ?_ ?_ _) | (with_reducible refine Below.trans ?_ (Below.mono (by assumption) ?_)))) <;> first | omega | (simp; done) | (simp; omega) | (simp [more_size]; done) | (simp [more_size]; omega))
          have HC2 := Lib.hid (hC2.cut (k := 1) hL1)
          have HB2 : Hid (Below w.heap.size w w2) := by show Below _ _ _; have hb := HB.out; have hz := hb.size; (repeat' (first | (with_reducible exact Below.refl _ _) | (with_reducible assumption) | (with_reducible refine Below.drew ?_) | (with_reducible refine Below.alloc ?_ ?_ _) | (with_reducible refine below_more ?_ ?_ _ _) | (with_reducible refine Below.setCell ?_ ?_ _) | (with_reducible refine Below.trans ?_ (Below.mono (by assumption) ?_)))) <;> first | omega | (simp; done) | (simp; omega) | (simp [more_size]; done) | (simp [more_size]; omega)
          have hce : ∃ bw ow, aw = some ⟨bw, ow, none⟩ ∧ w2.cell? ⟨bw, ow, none⟩ = some (.int .i64 y) := by
            rcases hC2 with ⟨h0, _⟩ | ⟨_, bw, ow, capw, he, _, _, hxw⟩
            · rw [h0] at hL1; simp at hL1
            · refine ⟨bw, ow, by simp at he; exact he.1, ?_⟩
              have := hxw 0 y (by rw [HL.out]; rfl)
              rwa [Nat.add_zero] at this
          obtain ⟨bw, ow, rfl, hcw⟩ := hce
          have HND' : Hid ((L.drop 1).Nodup) := by show List.Nodup _; exact HND.out.sublist (List.drop_sublist _ _)
          obtain ⟨a3, c3, rfl⟩ := HA2.out.shapeN (n := L.length - 1) (by simp)
          clear hown hrest hleft hb2 hC2 hx2
          go_wp2
          go_quiet (fail)
          go_wp2_with fail
          refine (same11 _ _ (L.drop 1) _ (by simp; omega) (HA2.out.below (below_drewN'' _)) (HC2.out.below (below_drewN'' _))).mono ?_
          rintro r w9 ⟨rfl, hb9⟩
          have hb29 : Below w2.heap.size w2 w9 := (below_drewN'' _).trans hb9
          have HBF := Lib.hid (HB2.out.trans (hb29.mono HB2.out.size))
          have HAF := Lib.hid (HA2.out.below hb29)
          have HCF := Lib.hid (HC2.out.below hb29)
          clear hb9 hb29
          go_wp2
          go_roundw
          case rel => exact ⟨k + 1, j, s + 1, q, L.drop 1, by omega, by go_num, by go_num, by go_num, by go_num, by have := HJ.out; simp; omega, by omega, HND'.out, HAF.out, HCF.out, HBF.out⟩
          case measure => simp [intOf]; omega
      · have e0 : (dO == 0) = false := by simpa using d0
        have e1 : (dO == 1) = false := by simpa using d1
        have e2 : (dO == 2) = false := by simpa using d2
        clear d0 d1 d2
        · go_wp2_with fail
          refine (same11 _ _ (L) _ (by omega) HA.out HC.out).mono ?_
          rintro r w9 ⟨rfl, hb9⟩
          have HBF := Lib.hid (HB.out.trans (hb9.mono HB.out.size))
          have HAF := Lib.hid (HA.out.below hb9)
          have HCF := Lib.hid (HC.out.below hb9)
          clear hb9
          go_wp2
          go_roundw
          case rel => exact ⟨k + 1, j, s, q, L, by omega, by go_num, by go_num, by go_num, by go_num, HJ.out, by omega, HND.out, HAF.out, HCF.out, HBF.out⟩
          case measure => simp [intOf]; omega
    · have ht : ((j : Int) == (s : Int) + (q : Int) + (L.length : Int)) = true := by have := HJ.out; simp; omega
      obtain ⟨an, cn, rfl⟩ := HA.out.shape
      go_wp2_with fail
      refine (wakes7 _).mono ?_
      rintro r w9 ⟨rfl, hb9⟩
      go_wp2
      go_ret
      exact ⟨rfl, HB.out.trans (hb9.mono HB.out.size)⟩
end Go.Proofs.Ytkpbohgadldpjaa
