
/- The walk of WaitMany: it returns true. -/
import Derived.Test.YtkpbohgadldpjaaA8
import Derived.Test.YtkpbohgadldpjaaCls2
import Derived.Laws.AppendOwnNone
namespace Go.Proofs.Ytkpbohgadldpjaa
open Go.RowKit
attribute [local go_sem ↓] Go.wp_at_zero Go.wp_at_succ
attribute [local go_sem] more_size cell_more_old frozen_more_old setCell_more_old more_drew drew_more old_alloc old_more old_drew old_setCell cell_alloc_old frozen_alloc_old setCell_alloc_old

theorem rpl_len (l s : List Int) (m : Nat) : (rpl (prs l s m)).length = m := by simp [rpl, prs]
theorem RdR.shape' {w : World} {v : Value} {l : List Rp} {n : Nat} (h : RdR w v l) (hn : l.length = n) : ∃ a c, v = .slice a n c := by
  subst hn; exact h.shape
theorem RdI.shape' {w : World} {v : Value} {l : List Int} {n : Nat} (h : RdI w v l) (hn : l.length = n) : ∃ a c, v = .slice a n c := by
  subst hn; exact h.shape

/-- The first k rounds' replies, one by one. -/
theorem one_step {l s : List Int} {k m' : Nat} {z : Int} (hz : s[k]? = some z) (hm : m' = min (l.drop k).length [z].length) :
    rpl (prs l s (min (k + 1) l.length)) = rpl (prs l s (min k l.length)) ++ rpl (prs (l.drop k) [z] m') := by
  by_cases h : k < l.length
  · have e1 : min (k + 1) l.length = k + 1 := by omega
    have e2 : min k l.length = k := by omega
    have e3 : m' = 1 := by simp at hm; omega
    rw [e1, e2, e3, prs_succ]
    simp [rpl, prs, List.range_succ, hz]
  · have e1 : min (k + 1) l.length = l.length := by omega
    have e2 : min k l.length = l.length := by omega
    have e3 : m' = 0 := by simp at hm; omega
    rw [e1, e2, e3]
    simp [rpl, prs]
theorem drop_step {l : List Int} {k m' : Nat} {z : Int} (hm : m' = min (l.drop k).length [z].length) : (l.drop k).drop m' = l.drop (k + 1) := by
  by_cases h : k < l.length
  · have e3 : m' = 1 := by simp at hm; omega
    rw [e3, List.drop_drop]
  · rw [List.drop_eq_nil_of_le (by omega : l.length ≤ k), List.drop_eq_nil_of_le (by omega : l.length ≤ k + 1)]
    simp
theorem drop_min {l s : List Int} {m : Nat} (hm : m = min l.length s.length) : l.drop s.length = l.drop m := by
  by_cases h : s.length ≤ l.length
  · have : m = s.length := by omega
    rw [this]
  · have : m = l.length := by omega
    rw [this, List.drop_eq_nil_of_le (by omega), List.drop_eq_nil_of_le (by omega)]
theorem allIn_self (l : List Int) : allIn l l = true := by simp [allIn]

/-- An owned row's cells, at their addresses: what append reads of it. -/
theorem rdR_news {w : World} {b off : Nat} {l : List Rp} (hx : ∀ k r, l[k]? = some r →
    w.cell? ⟨b, off + k * 3, none⟩ = some (.int .i64 r.to) ∧ w.cell? ⟨b, off + k * 3 + 1, none⟩ = some (.int .i64 r.so) ∧ w.cell? ⟨b, off + k * 3 + 2, none⟩ = some (.int .i64 r.er)) :
    ∀ (j : Nat) (u : Value), (rpCells l)[j]? = some u → w.cell? ((⟨b, off, none⟩ : Addr).add j) = some u := by
  intro j u hu
  rw [Addr.add_lit]
  have hj : j < (rpCells l).length := (List.getElem?_eq_some_iff.1 hu).1
  rw [rpCells_len] at hj
  have hk : j / 3 < l.length := by omega
  obtain ⟨r, hr⟩ : ∃ r, l[j / 3]? = some r := ⟨l[j / 3], List.getElem?_eq_getElem hk⟩
  obtain ⟨a0, a1, a2⟩ := rpCells_at hr
  obtain ⟨b0, b1, b2⟩ := hx _ _ hr
  rcases (show j = j / 3 * 3 ∨ j = j / 3 * 3 + 1 ∨ j = j / 3 * 3 + 2 from by omega) with h | h | h
  · rw [← h] at a0 b0; rw [hu] at a0; rw [b0, ← a0]
  · rw [← h] at a1; rw [hu] at a1; rw [Nat.add_assoc, ← h] at b1; rw [b1, ← a1]
  · rw [← h] at a2; rw [hu] at a2; rw [Nat.add_assoc, ← h] at b2; rw [b2, ← a2]
theorem rp_one (l : List Rp) : ∀ u ∈ rpCells l, u.oneCell' = true := by
  induction l with
  | nil => intro u hu; cases hu
  | cons r l ih =>
    intro u hu
    simp only [rpCells, List.mem_cons] at hu
    rcases hu with rfl | rfl | rfl | hu
    · rfl
    · rfl
    · rfl
    · exact ih u hu

theorem owns_news {w : World} {base e sz n cap g : Nat} {xs : List Value} (h : w.ownsRow base e sz (.slice (some ⟨g, 0, none⟩) n cap) n xs) : ∀ (j : Nat) (u : Value), xs[j]? = some u → w.cell? ((⟨g, 0, none⟩ : Addr).add j) = some u := by
  obtain ⟨hl, ⟨he, h0⟩ | ⟨g', cap', cur, he, _, hg, hn, _, hs, ht⟩⟩ := h
  · cases he
  · cases he
    intro j u hu
    rw [Addr.add_lit, Nat.zero_add, cell_block hg]
    have : (cur.toList.take (n * sz))[j]? = some u := by rw [ht, hu]
    rw [List.getElem?_take] at this
    split at this
    · simpa using this
    · cases this

set_option maxRecDepth 100000 in
set_option maxHeartbeats 8000000 in
theorem many3 (v u : Value) (l s : List Int) (e : Int) (w : World) (hl : l.length ≤ 4611686018427387904) (hs : s.length ≤ 4611686018427387904) (h : RdI w v l) (hu : RdI w u s) :
    Calls Try.prog 3 #[v, u, .int .i64 e] w fun r w' => r = .returned (.bool true) ∧ Below w.heap.size w w' := by
  obtain ⟨a, c, rfl, hx⟩ := rdI_cases h
  obtain ⟨a', c', rfl, hx'⟩ := rdI_cases hu
  have H := Lib.hid h
  have H' := Lib.hid hu
  have HX := Lib.hid hx
  have HX' := Lib.hid hx'
  clear h hu hx hx'
  by_cases g1 : 100 < l.length
  · go_enter Try.func3, Try.ntmps3
    go_wp2_with fail
    refine (wakes7 _).mono ?_
    rintro r w1 ⟨rfl, hb⟩
    go_wp2
    go_ret
    exact ⟨rfl, hb⟩
  by_cases g2 : 100 < s.length
  · go_enter Try.func3, Try.ntmps3
    go_wp2_with fail
    refine (wakes7 _).mono ?_
    rintro r w1 ⟨rfl, hb⟩
    go_wp2
    go_ret
    exact ⟨rfl, hb⟩
  have g1' : l.length ≤ 100 := by omega
  have g2' : s.length ≤ 100 := by omega
  clear g1 g2 hl hs
  obtain ⟨m, hm⟩ : ∃ m, m = min l.length s.length := ⟨_, rfl⟩
  have hml : m ≤ l.length := by omega
  have hms : m ≤ s.length := by omega
  have HM := Lib.hid hm
  clear hm
  obtain ⟨i0, hi, hz0, hz1, hz2⟩ := info_parts info32
  go_enter Try.func3, Try.ntmps3
  go_wp2_with fail
  refine (serve8 _ _ l s m _ HM.out (by omega) (by omega) H.out H'.out).mono ?_
  rintro r w1 ⟨vr, vrest, vleft, rfl, hown, hrest, hleft, hb1⟩
  have hrest := RdI.of_owns hrest
  have hleft := RdI.of_owns hleft
  have HR := Lib.hid (RdR.of_owns (l := rpl (prs l s m)) (by rw [rpl_len]; exact hown))
  obtain ⟨ar, cr, rfl⟩ := HR.out.shape' (rpl_len _ _ _)
  obtain ⟨p, hp⟩ : ∃ p, l.length - m = p := ⟨_, rfl⟩
  obtain ⟨q, hq⟩ : ∃ q, s.length - m = q := ⟨_, rfl⟩
  obtain ⟨ae, ce, rfl⟩ := hrest.shape' (n := p) (by rw [List.length_drop]; exact hp)
  obtain ⟨af, cf, rfl⟩ := hleft.shape' (n := q) (by rw [List.length_drop]; exact hq)
  have hp1 : m + p ≤ l.length := by omega
  have hp2 : l.length ≤ m + p := by omega
  have hq1 : m + q ≤ s.length := by omega
  have hq2 : s.length ≤ m + q := by omega
  have HE := Lib.hid hrest
  have HB := Lib.hid hb1
  clear hown hrest hleft hb1 hp hq
  go_wp2_with fail
  go_loopw [10, 11, 12] (fun one now i wr => ∃ k : Nat, k ≤ s.length ∧ i = .int .i64 k ∧ RdI wr now (l.drop k) ∧ wr.ownsRow w1.heap.size 32 3 one (min k l.length) (rpCells (rpl (prs l s (min k l.length)))) ∧ Below w1.heap.size w1 wr)
    (fun _ _ i _ => s.length - (intOf i).toNat)
  case atStart => exact ⟨0, Nat.zero_le _, rfl, H.out.below HB.out, by rw [Nat.zero_min]; exact World.ownsRow_nil _ _ _ _, Below.refl _ _⟩
  case round =>
    obtain ⟨k, hk, rfl, hnow, hone, hbl⟩ := hrel
    by_cases hk' : k < s.length
    · obtain ⟨b, o, rfl, hb, hx⟩ := HX'.out (fun e => by subst e; simp at hk')
      obtain ⟨z, hz⟩ : ∃ z, s[k]? = some z := ⟨s[k], List.getElem?_eq_getElem hk'⟩
      have hc : wr.cell? ⟨b, o + k, none⟩ = some (.int .i64 z) := (hbl.cell (p := ⟨b, o + k, none⟩) (Nat.lt_of_lt_of_le hb HB.out.size)).trans ((HB.out.cell (p := ⟨b, o + k, none⟩) hb).trans (hx k z hz))
      obtain ⟨m', hm'⟩ : ∃ m', m' = min (l.drop k).length [z].length := ⟨_, rfl⟩
      have HM' := Lib.hid hm'
      have HZ := Lib.hid hz
      have HN := Lib.hid hnow
      have HO := Lib.hid hone
      have HL := Lib.hid hbl
      have hm1 : m' ≤ 1 := by simp at hm'; omega
      clear hx hm' hz hnow hone hbl
      go_wp2_with fail
      refine (serve8 _ _ (l.drop k) [z] m' _ HM'.out (by simp; omega) (by simp) (HN.out.below (by (repeat' (first | (with_reducible exact Below.refl _ _) | (with_reducible assumption) | (with_reducible refine Below.drew ?_) | (with_reducible refine Below.alloc ?_ ?_ _) | (with_reducible refine below_more ?_ ?_ _ _) | (with_reducible refine Below.setCell ?_ ?_ _) | (with_reducible refine Below.trans ?_ (Below.mono (by assumption) ?_)))) <;> first | omega | (simp; done) | (simp; omega) | (simp [more_size]; done) | (simp [more_size]; omega))) (by exact rdI_new _ [z] (by simp))).mono ?_
      rintro r w2 ⟨x, o2, t2, rfl, hxo, ho2, -, hb2⟩
      have hb3 : Below wr.heap.size wr w2 := by (repeat' (first | (with_reducible exact Below.refl _ _) | (with_reducible assumption) | (with_reducible refine Below.drew ?_) | (with_reducible refine Below.alloc ?_ ?_ _) | (with_reducible refine below_more ?_ ?_ _ _) | (with_reducible refine Below.setCell ?_ ?_ _) | (with_reducible refine Below.trans ?_ (Below.mono (by assumption) ?_)))) <;> first | omega | (simp; done) | (simp; omega) | (simp [more_size]; done) | (simp [more_size]; omega)
      have hsz := hb3.size
      have hsz1 := HL.out.size
      have hb4 : Below w1.heap.size w1 w2 := HL.out.trans (hb3.mono hsz1)
      have hone2 : w2.ownsRow w1.heap.size 32 3 u10 (min k l.length) (rpCells (rpl (prs l s (min k l.length)))) := owns_below HO.out hb3
      have HS := Lib.hid (drop_step (l := l) (k := k) HM'.out)
      have HT := Lib.hid (one_step (l := l) HZ.out HM'.out)
      rw [HS.out] at ho2
      have hlen : min (k + 1) l.length = min k l.length + m' := by have := HM'.out; simp at this; omega
      have HLN := Lib.hid hlen
      have H2 := Lib.hid ho2
      have H4 := Lib.hid hb4
      clear hb2 hb3 hb4 ho2 hlen hc
      have hmk : min k l.length ≤ 100 := by omega
      generalize hmk' : min k l.length = mk at *
      have HMK := Lib.hid hmk'
      clear hmk'
      obtain ⟨hxl, ⟨rfl, h0⟩ | ⟨g, cap, cur, rfl, hge, hgb, hn, hrest⟩⟩ := hxo
      · go_wp2_with (first
          | (at_builtin; refine wpList_append_own_none rfl _ _ 25 rfl w1.heap.size 32 i0 3 Try.underlying25 hi _ _ _ rfl hone2 rfl ?_))
        have hm0 : m' = 0 := h0
        subst hm0
        go_wp2
        go_roundw
        case rel => exact ⟨k + 1, by omega, by go_num, RdI.of_owns H2.out, by rw [HT.out, HLN.out, rpCells_app]; simpa [rpl, prs, rpCells] using hone2, H4.out⟩
        case measure => simp [intOf]; omega
      · have hxo : w2.ownsRow (wr.alloc (.cells #[.int .i64 z] 3)).heap.size 32 3 (.slice (some ⟨g, 0, none⟩) m' cap) m' (rpCells (rpl (prs (l.drop k) [z] m'))) := ⟨hxl, .inr ⟨g, cap, cur, rfl, hge, hgb, hn, hrest⟩⟩
        have HXO := Lib.hid hxo
        clear hxl hge hgb hn hrest hxo
        go_wp2_with (first
          | (at_builtin; refine wpList_append_own _ rfl _ _ 25 rfl w1.heap.size 32 i0 (.agg #[.int .i64 0, .int .i64 0, .int .i64 0]) 3 24 Try.underlying25 hi hz0 hz1 hz2 rfl (by decide) _ _ _ rfl hone2 ⟨g, 0, none⟩ m' cap (rpCells (rpl (prs (l.drop k) [z] m'))) rfl ?c1 ?c2 ?c3 ?c4 ?c5 ?c6 ?_))
        case c1 => exact HXO.out.1
        case c2 => exact owns_news HXO.out
        case c3 => exact rp_one _
        case c4 => unfold maxLen; omega
        case c5 => omega
        case c6 => exact H4.out.size
        intro v' w3 hown' hgrow _
        have hb5 : Below w1.heap.size w1 w3 := H4.out.grown hgrow H4.out.size (fun j hj => ownBlock_ge hone2 hj)
        have ho3 := H2.out.kept hgrow (owns_apart H2.out hone2 (by decide))
        have H3 := Lib.hid (RdI.of_owns ho3)
        have H5 := Lib.hid hb5
        have HO3 := Lib.hid hown'
        clear hown' hgrow hb5 ho3 hone2
        go_wp2
        go_roundw
        case rel => exact ⟨k + 1, by omega, by go_num, H3.out, by rw [HT.out, HLN.out, rpCells_app]; exact HO3.out, H5.out⟩
        case measure => simp [intOf]; omega
    · have hks : k = s.length := by omega
      subst hks
      have e1 : min s.length l.length = m := by have := HM.out; omega
      have hnow : RdI wr u11 (l.drop m) := by rw [← drop_min HM.out]; exact hnow
      rw [e1] at hone
      have HN := Lib.hid hnow
      have HO := Lib.hid hone
      have HL := Lib.hid hbl
      have HB2 := Lib.hid (HB.out.trans (hbl.mono HB.out.size))
      clear hnow hone hbl e1
      obtain ⟨an, cn, rfl⟩ := HN.out.shape' (n := p) (by rw [List.length_drop]; omega)
      obtain ⟨ao, co, rfl⟩ := (RdR.of_owns (l := rpl (prs l s m)) (by rw [rpl_len]; exact HO.out)).shape' (rpl_len _ _ _)
      go_wp2_with fail
      refine (tell9 _ l e _ (by omega) (H.out.below HB2.out)).mono ?_
      rintro r w4 ⟨vt, rfl, ht, hb4⟩
      have hrt := RdR.of_owns ht
      obtain ⟨at', ct, rfl⟩ := hrt.shape' (n := l.length) (by simp [tellL])
      have HT := Lib.hid hrt
      have HB4 := Lib.hid hb4
      clear ht hrt hb4
      clear hnow hrest hleft
      go_wp2_with fail
      refine (same10 _ _ (rpl (prs l s m)) _ (by rw [rpl_len]; omega) ((HR.out.below (HL.out.trans (HB4.out.mono HL.out.size)))) ((RdR.of_owns (l := rpl (prs l s m)) (by rw [rpl_len]; exact HO.out)).below HB4.out)).mono ?_
      rintro r w5 ⟨rfl, hb5⟩
      have HB5 := Lib.hid hb5
      clear hb5
      go_wp2_with fail
      refine (same11 _ _ (l.drop m) _ (by simp; omega) (HE.out.below (HL.out.trans ((HB4.out.trans (HB5.out.mono HB4.out.size)).mono HL.out.size))) (HN.out.below (HB4.out.trans (HB5.out.mono HB4.out.size)))).mono ?_
      rintro r w6 ⟨rfl, hb6⟩
      have hb46 : Below w4.heap.size w4 w6 := HB5.out.trans (hb6.mono HB5.out.size)
      have hb2' := HB2.out
      have hb4' := HB4.out
      have HB6 := Lib.hid (hb2'.trans ((hb4'.trans (hb46.mono hb4'.size)).mono hb2'.size))
      have hrt := HT.out.below hb46
      have HT6 := Lib.hid hrt
      clear hb6 hb46 hb2' hb4' hrt HT HB5 HB4 HB2 HL HO HN HE HR HB
      go_wp2_with fail
      go_loopw [17] (fun i wr' => ∃ j : Nat, j ≤ l.length ∧ i = .int .i64 j ∧ ∃ mm, wr' = w6.drewN mm) (fun i _ => l.length - (intOf i).toNat)
      case atStart => exact ⟨0, Nat.zero_le _, rfl, 0, rfl⟩
      case round =>
        obtain ⟨j, hj, rfl, mm, rfl⟩ := hrel
        by_cases hj' : j < l.length
        · obtain ⟨b, o, rfl, hb, hx⟩ := HX.out (fun e => by subst e; simp at hj')
          obtain ⟨z, hz⟩ : ∃ z, l[j]? = some z := ⟨l[j], List.getElem?_eq_getElem hj'⟩
          have hc : w6.cell? ⟨b, o + j, none⟩ = some (.int .i64 z) := (HB6.out.cell (p := ⟨b, o + j, none⟩) hb).trans (hx j z hz)
          have hzt : (tellL e l)[j]? = some ⟨z, -1, e⟩ := by simp [tellL, hz]
          obtain ⟨bt, ot, hat, ht⟩ : ∃ bt ot, at' = some ⟨bt, ot, none⟩ ∧ (w6.cell? ⟨bt, ot + j * 3, none⟩ = some (.int .i64 z) ∧ w6.cell? ⟨bt, ot + j * 3 + 1, none⟩ = some (.int .i64 (-1)) ∧ w6.cell? ⟨bt, ot + j * 3 + 2, none⟩ = some (.int .i64 e)) := by
            rcases HT6.out with ⟨h0, _⟩ | ⟨_, bt, ot, cap, he, _, _, hxt⟩
            · rw [h0] at hzt; simp at hzt
            · exact ⟨bt, ot, by simp at he; exact he.1, hxt j _ hzt⟩
          subst hat
          obtain ⟨t0, t1, t2⟩ := ht
          have i1 : (j : Int) < (l.length : Int) := by omega
          have i0' : (0 : Int) ≤ (j : Int) := by omega
          clear hx hz hzt
          go_wp2
          go_quiet (fail)
          go_wp2
          go_roundw
          case rel => exact ⟨j + 1, by omega, by go_num, _, rfl⟩
          case measure => simp [intOf]; omega
        · go_wp2_with fail
          refine (waits12 _ _ l l _ (by omega) (by omega) ((H.out.below HB6.out).below (below_drewN'' _)) ((H.out.below HB6.out).below (below_drewN'' _))).mono ?_
          rintro r w7 ⟨rfl, hb7⟩
          rw [allIn_self]
          go_wp2_with fail
          refine (wakes7 _).mono ?_
          rintro r w8 ⟨rfl, hb8⟩
          go_wp2
          go_ret
          have hz := HB6.out.size
          have hz7 := hb7.size
          exact ⟨rfl, HB6.out.trans (((below_drewN'' mm).trans (hb7.trans (hb8.mono hz7))).mono hz)⟩
end Go.Proofs.Ytkpbohgadldpjaa
