
/- Walks of the seat of chapter 07: OfferOnce: a round. -/
import Derived.Test.YtcdmhldhhjolpaaO22
import Derived.Deep.CutRange
namespace Go.Proofs.Ytcdmhldhhjolpaa
open Go.RowKit
attribute [local go_sem ↓] Go.wp_at_zero Go.wp_at_succ
attribute [local go_sem] more_size cell_more_old frozen_more_old setCell_more_old more_drew drew_more old_alloc old_more old_drew old_setCell cell_alloc_old frozen_alloc_old setCell_alloc_old
attribute [local go_sem ↓] load42 store42 load61 store61 load38 store38 load30 store30
attribute [local go_sem] run42 runs42 run61 runs61 run38 runs38 run30 runs30 blk_drew has_drewP blk_drewN has_drewNP old_drewN blk_alloc_old has_alloc_old blk_alloc_new has_alloc_new setBlk_size setBlk_drew old_setBlk cell_setBlk' cell_setBlk_ne frozen_setBlk blk_setBlk' blk_setBlk_ne has_setBlk' has_setBlk_ne setBlk_alloc_old setBlk_new

theorem heldA {B br x bo oo n2 c2 j : Nat} {u1 : Array Value} {t1 : TypeId} {v : Value} {row : List Ofr} {b : Ofr} {ws w' : World} (h1 : ws.heap[B]? = some (.cells u1 t1)) (h3 : RdO ws (.slice (some ⟨bo, oo, none⟩) n2 c2) row) (h4 : row[j]? = some b) (h7 : br < ws.heap.size) (h8 : ws.cell? ⟨br, x, none⟩ = some v) (hb : Below ws.heap.size ws w') :
    (∀ o, w'.cell? ⟨B, o, none⟩ = u1[o]?) ∧ w'.cell? ⟨br, x, none⟩ = some v ∧ (loadS 38 (.pointer (some ⟨bo, oo + j * 9, none⟩))).run Try.prog w' = .ok (.agg #[.int .i8 b.k, .int .i64 b.d, .int .i8 b.m.k, .int .i64 b.m.f, .int .i64 b.m.n, .int .i64 b.m.s, .string b.m.t, .int .i64 b.m.e, .int .i64 b.t]) w' ∧ Below ws.heap.size ws w' :=
  ⟨cell_block (block_keep' hb h1), (hb.cell (p := ⟨br, x, none⟩) h7).trans h8, runOf (h3.below hb) h4, hb⟩
def KindP (rows : List (List Ofr)) (du : List Du) (p : Nat) (o : Ofr) (q j : Int) : Prop :=
  (q = -1 ∧ j = -1 ∧ o.k ≠ 1) ∨ (q = -1 ∧ j = -1 ∧ o.k = 1 ∧ ∃ (e : Nat) (d : Du), o.d = e ∧ du[e]? = some d ∧ readyB d = true) ∨
  ∃ (q' j' : Nat) (row2 : List Ofr) (b : Ofr) (e : Nat) (d : Du), q = q' ∧ j = j' ∧ rows[q']? = some row2 ∧ row2[j']? = some b ∧ q' ≠ p ∧ o.k = 0 ∧ b.k = 1 ∧ o.d = e ∧ b.d = e ∧ du[e]? = some d ∧ d.c = 0 ∧ d.b = false
set_option maxRecDepth 100000 in
set_option maxHeartbeats 8000000 in
theorem once_round (ar ad al : Option Addr) (nr pr nd pd nl pl : Nat) (k : Nat) (rows : List (List Ofr)) (du : List Du) (l : List Mt) (p i : Nat) (q j : Int) (row : List Ofr) (o : Ofr) (w wr : World) (X : Nat → Value) (K : Act → World → Prop) (Q : Exit → Act → World → Prop)
    (hR : RdRR w (.slice ar nr pr) rows) (hU : RdU w (.slice ad nd pd) du) (hM : RdM w (.slice al nl pl) l) (hm : l[k]? = some ⟨p, i, q, j⟩) (h1 : rows[p]? = some row) (h2 : row[i]? = some o)
    (hlen : l.length ≤ 10000000) (hrise : ∀ k' x, k = k' + 1 → l[k']? = some x → lessB x ⟨p, i, q, j⟩ = true) (hbr : Below w.heap.size w wr)
    (hkind : KindP rows du p o q j)
    (hK : ∀ a' w', WI ar ad al nr pr nd pd nl pl w a' w' → Wm nl a' < nl - k → K a' w') :
    Code.wp Try.prog body3 (Exit.then K Q) (frm ar ad al nr pr nd pd nl pl k X) wr := by
  have hk : k < nl := by have := hM.len; have := (List.getElem?_eq_some_iff.1 hm).1; omega
  have HR := Lib.hid (hR.below hbr)
  have HU := Lib.hid (hU.below hbr)
  have HM := Lib.hid (hM.below hbr)
  have HN := Lib.hid hM.len
  have HNR := Lib.hid hR.len
  have HNU := Lib.hid hU.len
  have H0 := Lib.hid hm
  have H1 := Lib.hid h1
  have H2 := Lib.hid h2
  have HS := Lib.hid hrise
  have HBR := Lib.hid hbr
  clear hR hU hM hm h1 h2 hrise hbr
  have hi : (k : Int) < (nl : Int) := by omega
  have hi0 : (0 : Int) ≤ (k : Int) := by omega
  obtain ⟨bl, ol, rfl, hbl, -⟩ := HM.out.at H0.out
  have hrun := runMt HM.out H0.out
  have ql : Old wr bl := hbl
  conv => arg 2; whnf
  unfold frm
  go_upto_region 8 with fail
  rename_i K6 hk6 K9 hk9 K8 hk8
  have kM : (wr.alloc (.cells #[.int .i64 (p : Int), .int .i64 (i : Int), .int .i64 q, .int .i64 j] 30)).heap[wr.heap.size]? = some (.cells #[.int .i64 (p : Int), .int .i64 (i : Int), .int .i64 q, .int .i64 j] 30) := by (repeat' (first | (with_reducible assumption) | (with_reducible refine hm_new ?_; (first | rfl | (simp; done) | (simp [more_size]; done) | (simp [more_size]; omega))) | (with_reducible refine block_alloc ?_) | (with_reducible refine hm_more ?_) | (with_reducible refine hm_drew ?_)))
  have hb1 : Below wr.heap.size wr (wr.alloc (.cells #[.int .i64 (p : Int), .int .i64 (i : Int), .int .i64 q, .int .i64 j] 30)) := by (repeat' (first | (with_reducible exact Below.refl _ _) | (with_reducible assumption) | (with_reducible refine Below.drew ?_) | (with_reducible refine Below.alloc ?_ ?_ _) | (with_reducible refine below_more ?_ ?_ _ _) | (with_reducible refine Below.setCell ?_ ?_ _) | (with_reducible refine Below.trans ?_ (Below.mono (by assumption) ?_)))) <;> first | omega | (simp; done) | (simp; omega) | (simp [more_size]; done) | (simp [more_size]; omega)
  have hz1 : wr.heap.size < (wr.alloc (.cells #[.int .i64 (p : Int), .int .i64 (i : Int), .int .i64 q, .int .i64 j] 30)).heap.size := by simp
  generalize (wr.alloc (.cells #[.int .i64 (p : Int), .int .i64 (i : Int), .int .i64 q, .int .i64 j] 30)) = w1 at *
  have KM := Lib.hid kM
  have HB1 := Lib.hid (HBR.out.trans (hb1.mono HBR.out.size))
  have HR1 := Lib.hid (HR.out.below hb1)
  have HU1 := Lib.hid (HU.out.below hb1)
  have HM1 := Lib.hid (HM.out.below hb1)
  clear hb1 HR HU HM hrun ql hbl kM
  have hzw : w.heap.size ≤ wr.heap.size := HBR.out.size
  generalize wr.heap.size = B at *
  have hp0 : decide ((p : Int) < 0) = false := by simp
  have hp1 : (0 : Int) ≤ (p : Int) := by omega
  have hp2 : (p : Int) < (nr : Int) := by have := (List.getElem?_eq_some_iff.1 H1.out).1; have := HNR.out; omega
  have hp3 : decide ((nr : Int) ≤ (p : Int)) = false := by simp; omega
  have hi0' : decide ((i : Int) < 0) = false := by simp
  have hi1' : (0 : Int) ≤ (i : Int) := by omega
  have hi2' : (i : Int) < (row.length : Int) := by have := (List.getElem?_eq_some_iff.1 H2.out).1; omega
  have hi3' : decide ((row.length : Int) ≤ (i : Int)) = false := by simp; omega
  have hp4 : p < nr := by omega
  have hi4' : i < row.length := by omega
  have hp5 : decide (nr ≤ p) = false := by simp; omega
  have hi5' : decide (row.length ≤ i) = false := by simp; omega
  go_cut [78] from 39 to 78 (fun s wx => s = .bool false ∧ Below w1.heap.size w1 wx)
  case first =>
    refine wp_region_still_tail 36 (by kernel_rfl) (by kernel_rfl) ?_
    replace KM : Hid (({ heap := w1.heap, tape := w1.tape, drawn := w1.drawn + 1, os := w1.os, output := w1.output } : World).heap[B]? = _) := KM
    replace HR1 : Hid (RdRR ({ heap := w1.heap, tape := w1.tape, drawn := w1.drawn + 1, os := w1.os, output := w1.output } : World) _ _) := Lib.hid (HR1.out.below (Below.drew (Below.refl _ _)))
    replace HM1 : Hid (RdM ({ heap := w1.heap, tape := w1.tape, drawn := w1.drawn + 1, os := w1.os, output := w1.output } : World) _ _) := Lib.hid (HM1.out.below (Below.drew (Below.refl _ _)))
    have HBt := Lib.hid (show Below w1.heap.size w1 ({ heap := w1.heap, tape := w1.tape, drawn := w1.drawn + 1, os := w1.os, output := w1.output } : World) from Below.drew (Below.refl _ _))
    generalize ({ heap := w1.heap, tape := w1.tape, drawn := w1.drawn + 1, os := w1.os, output := w1.output } : World) = wt at *
    obtain ⟨br, or', a', c', rfl, hbr', c0, -⟩ := HR1.out.at H1.out
    have lM := blk_of KM.out
    have mM : Has wt B 4 := has_of KM.out
    have cM := cell_block KM.out
    have oM := block_lt KM.out
    have qM : Old wt B := oM
    simp only [List.take_succ_cons, List.take_zero, List.drop_succ_cons, List.drop_zero]
    rcases Nat.eq_zero_or_pos k with hk0 | hk0
    · have hkd : decide ((0 : Int) < (k : Int)) = false := by simp; omega
      have hkd' : decide (0 < k) = false := by simp; omega
      clear hk0
      repeat (with_reducible refine wpStill_step (fun K hK => ?_); go_simp; with_reducible refine hK _ ?_; clear hK K)
      refine wpStill_nil ?_
      go_wp2_with fail
      go_meet
      exact ⟨rfl, HBt.out⟩
    · have hkd : (0 : Int) < (k : Int) := by omega
      have hkd' : decide ((0 : Int) < (k : Int)) = true := by simp; omega
      have hkd'' : decide (0 < k) = true := by simp; omega
      have hki : (k : Int) - 1 < (nl : Int) := by omega
      have hki0 : (0 : Int) ≤ (k : Int) - 1 := by omega
      have hkw : wrap64 ((k : Int) - 1) = ((k - 1 : Nat) : Int) := by rw [IntWalk.wrap64_in _ (by have := HN.out; omega)]; omega
      have hkw' : IntKind.i64.wrap ((k : Int) - 1) = ((k - 1 : Nat) : Int) := by rw [IntWalk.i64_in _ (by have := HN.out; omega)]; omega
      have hkj0 : (0 : Int) ≤ ((k - 1 : Nat) : Int) := by omega
      have hkj : ((k - 1 : Nat) : Int) < (nl : Int) := by omega
      obtain ⟨x, hx⟩ : ∃ x, l[k - 1]? = some x := ⟨_, List.getElem?_eq_getElem (by have := HN.out; omega)⟩
      have hL := HS.out (k - 1) x (by omega) hx
      have HL := Lib.hid hL
      have hrx := runMt HM1.out hx
      clear hx hL
      repeat (with_reducible refine wpStill_step (fun K hK => ?_); go_simp; with_reducible refine hK _ ?_; clear hK K)
      refine wpStill_nil ?_
      go_wp2_with fail
      refine (less9 x.p x.i x.q x.j p i q j _).mono ?_
      rintro r w2 ⟨rfl, hb⟩
      have hb2 := HBt.out.trans (hb.mono HBt.out.size)
      have hle : lessB ⟨x.p, x.i, x.q, x.j⟩ ⟨p, i, q, j⟩ = true := HL.out
      rw [hle]
      go_wp2_with fail
      go_meet
      exact ⟨rfl, hb2⟩
  case rest =>
    obtain ⟨rfl, hb2⟩ := hcut
    have kB := block_keep' hb2 KM.out
    have HB2 := Lib.hid (HB1.out.trans (hb2.mono HB1.out.size))
    have HR2 := Lib.hid (HR1.out.below hb2)
    have HU2 := Lib.hid (HU1.out.below hb2)
    have HKB := Lib.hid kB
    clear hb2 kB KM HB1 HR1 HU1 HM1
    go_upto_region 10 with fail
    rename_i K10 hk10
    generalize hwc : wc = w2 at *
    clear hwc
    obtain ⟨br, orr, ac, cc, rfl, hbr, c0, hro⟩ := HR2.out.at H1.out
    obtain ⟨bo, oo, rfl, hbo, -⟩ := hro.at H2.out
    have HRO := Lib.hid hro
    have hrun := runOf hro H2.out
    have cM := cell_block HKB.out
    have hc0 := Lib.hid c0
    have hzw2 := HB2.out.size
    clear hro
    go_region_held3 (fun w' => (∀ o, w'.cell? ⟨B, o, none⟩ = (#[.int .i64 (p : Int), .int .i64 (i : Int), .int .i64 q, .int .i64 j] : Array Value)[o]?) ∧ w'.cell? ⟨br, orr + p, none⟩ = some (.slice (some ⟨bo, oo, none⟩) row.length cc) ∧ (loadS 38 (.pointer (some ⟨bo, oo + i * 9, none⟩))).run Try.prog w' = .ok (.agg #[.int .i8 o.k, .int .i64 o.d, .int .i8 o.m.k, .int .i64 o.m.f, .int .i64 o.m.n, .int .i64 o.m.s, .string o.m.t, .int .i64 o.m.e, .int .i64 o.t]) w' ∧ Below w2.heap.size w2 w')
      (first | (with_reducible assumption) | (refine heldA HKB.out HRO.out H2.out hbr hc0.out ?_; (repeat' (first | (with_reducible exact Below.refl _ _) | (with_reducible assumption) | (with_reducible refine Below.drew ?_) | (with_reducible refine Below.setBlk ?_ ?_ _) | (with_reducible refine Below.alloc ?_ ?_ _))) <;> first | omega | (simp; done) | (simp; omega))) (fail)
    rename_i hH
    have hb3 := hH.2.2.2
    have hA3 : (w2.alloc (.cells #[.int .i8 o.k, .int .i64 o.d, .int .i8 o.m.k, .int .i64 o.m.f, .int .i64 o.m.n, .int .i64 o.m.s, .string o.m.t, .int .i64 o.m.e, .int .i64 o.t] 38)).drew.heap[w2.heap.size]? = some (.cells #[.int .i8 o.k, .int .i64 o.d, .int .i8 o.m.k, .int .i64 o.m.f, .int .i64 o.m.n, .int .i64 o.m.s, .string o.m.t, .int .i64 o.m.e, .int .i64 o.t] 38) := hm_new rfl
    clear hH
    generalize (w2.alloc (.cells #[.int .i8 o.k, .int .i64 o.d, .int .i8 o.m.k, .int .i64 o.m.f, .int .i64 o.m.n, .int .i64 o.m.s, .string o.m.t, .int .i64 o.m.e, .int .i64 o.t] 38)).drew = w3 at *
    have hB3 := block_keep' hb3 HKB.out
    have HB3 := Lib.hid (HB2.out.trans (hb3.mono HB2.out.size))
    have hR3 := HR2.out.below hb3
    have hU3 := HU2.out.below hb3
    have hz3 := HB3.out.size
    have fin : ∀ a' w', a' = frm (some ⟨br, orr, none⟩) ad (some ⟨bl, ol, none⟩) nr pr nd pd nl pl k (fun k => a'.tmps.toList.getD k undef) → Below w3.heap.size w3 w' → Exit.inBlock 1 (Exit.then K6 (Exit.then K Q)) .normal a' w' := by
      intro a' w' hf hb
      have HBx := Lib.hid (HB3.out.trans (hb.mono hz3))
      have HKx := Lib.hid hK
      have hlx := HN.out
      generalize (fun k => a'.tmps.toList.getD k undef) = Y at hf
      subst hf
      clear hb hK hR3 hU3 hB3 hA3 hb3 hrun c0 cM
      unfold frm
      go_wp2_with fail
      refine HKx.out _ _ (wi_mk (k + 1) (by kernel_rfl) (by omega) HBx.out) (wm_lt ((k : Int) + 1) (by kernel_rfl) (by omega))
    refine hk10 _ _ ?_
    rcases hkind with ⟨rfl, rfl, hk1⟩ | ⟨rfl, rfl, hk1, e, d, h3, h4, h5⟩ | ⟨q', j', row2, b, e, d, rfl, rfl, h3, h4, h5, h6, h7, h8, h9, h10, h11, h12⟩
    · refine once_alone (some ⟨br, orr, none⟩) ad (some ⟨bl, ol, none⟩) nr pr nd pd nl pl k B w2.heap.size p i o w3 _ (by kernel_rfl) hB3 hA3 hk1 _ ?_
      intro a' hf
      exact fin a' w3 hf (Below.refl _ _)
    · refine once_take (some ⟨br, orr, none⟩) ad (some ⟨bl, ol, none⟩) nr pr nd pd nl pl k B w2.heap.size p i o w3 _ (by kernel_rfl) hB3 hA3 hk1 du d e hU3 h3 h4 h5 _ ?_
      intro a' w' hf hb
      exact fin a' w' hf hb
    · refine once_meet (some ⟨br, orr, none⟩) ad (some ⟨bl, ol, none⟩) nr pr nd pd nl pl k B w2.heap.size p i q' j' e rows du row row2 o b d w3 _ (by kernel_rfl) hB3 hA3 hR3 hU3 H1.out H2.out h3 h4 h5 h6 h7 h8 h9 h10 h11 h12 _ ?_
      intro a' w' hf hb
      exact fin a' w' hf hb
end Go.Proofs.Ytcdmhldhhjolpaa
