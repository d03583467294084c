
/- Walks of the seat of chapter 07: OfferOnce: the round behind its head: two that meet. -/
import Derived.Test.YtcdmhldhhjolpaaO21
import Derived.Deep.CutRange
namespace Go.Proofs.Ytcdmhldhhjolpaa
open Go.RowKit
attribute [local go_sem ↓] Go.wp_at_zero Go.wp_at_succ
attribute [local go_sem] more_size cell_more_old frozen_more_old setCell_more_old more_drew drew_more old_alloc old_more old_drew old_setCell cell_alloc_old frozen_alloc_old setCell_alloc_old
attribute [local go_sem ↓] load42 store42 load61 store61 load38 store38 load30 store30
attribute [local go_sem] run42 runs42 run61 runs61 run38 runs38 run30 runs30 blk_drew has_drewP blk_drewN has_drewNP old_drewN blk_alloc_old has_alloc_old blk_alloc_new has_alloc_new setBlk_size setBlk_drew old_setBlk cell_setBlk' cell_setBlk_ne frozen_setBlk blk_setBlk' blk_setBlk_ne has_setBlk' has_setBlk_ne setBlk_alloc_old setBlk_new
attribute [local go_sem ↓] store36
attribute [local go_sem] runs36

theorem heldM {A B br x bo oo bu ou n2 c2 nd pd j e : Nat} {u1 u2 : Array Value} {t1 t2 : TypeId} {v : Value} {row : List Ofr} {du : List Du} {b : Ofr} {d : Du} {ws w' : World} (h1 : ws.heap[B]? = some (.cells u1 t1)) (h2 : ws.heap[A]? = some (.cells u2 t2)) (h3 : RdO ws (.slice (some ⟨bo, oo, none⟩) n2 c2) row) (h4 : row[j]? = some b) (h5 : RdU ws (.slice (some ⟨bu, ou, none⟩) nd pd) du) (h6 : du[e]? = some d) (h7 : br < ws.heap.size) (h8 : ws.cell? ⟨br, x, none⟩ = some v) (hb : Below ws.heap.size ws w') :
    (∀ o, w'.cell? ⟨B, o, none⟩ = u1[o]?) ∧ (∀ o, w'.cell? ⟨A, o, none⟩ = u2[o]?) ∧ w'.cell? ⟨br, x, none⟩ = some v ∧ (loadS 38 (.pointer (some ⟨bo, oo + j * 9, none⟩))).run Try.prog w' = .ok (.agg #[.int .i8 b.k, .int .i64 b.d, .int .i8 b.m.k, .int .i64 b.m.f, .int .i64 b.m.n, .int .i64 b.m.s, .string b.m.t, .int .i64 b.m.e, .int .i64 b.t]) w' ∧ (loadS 42 (.pointer (some ⟨bu, ou + e * 3, none⟩))).run Try.prog w' = .ok (.agg #[.int .i64 d.c, .slice d.a d.n d.p, .bool d.b]) w' ∧ Below ws.heap.size ws w' :=
  ⟨cell_block (block_keep' hb h1), cell_block (block_keep' hb h2), (hb.cell (p := ⟨br, x, none⟩) h7).trans h8, runOf (h3.below hb) h4, runDu (h5.below hb) h6, hb⟩
set_option maxRecDepth 100000 in
set_option maxHeartbeats 8000000 in
theorem once_meet (ar ad al : Option Addr) (nr pr nd pd nl pl k B A : Nat) (p i q j e : Nat) (rows : List (List Ofr)) (du : List Du) (row row2 : List Ofr) (o b : Ofr) (d : Du) (wd : World) (a : Act) (ha : a = frm2 ar ad al nr pr nd pd nl pl k B A (fun k => a.tmps.toList.getD k undef))
    (hB : wd.heap[B]? = some (.cells #[.int .i64 (p : Int), .int .i64 (i : Int), .int .i64 (q : Int), .int .i64 (j : Int)] 30)) (hA : wd.heap[A]? = some (.cells #[.int .i8 o.k, .int .i64 o.d, .int .i8 o.m.k, .int .i64 o.m.f, .int .i64 o.m.n, .int .i64 o.m.s, .string o.m.t, .int .i64 o.m.e, .int .i64 o.t] 38)) (hR : RdRR wd (.slice ar nr pr) rows) (hU : RdU wd (.slice ad nd pd) du)
    (h1 : rows[p]? = some row) (h2 : row[i]? = some o) (h3 : rows[q]? = some row2) (h4 : row2[j]? = some b) (h5 : q ≠ p) (h6 : o.k = 0) (h7 : b.k = 1) (h8 : o.d = e) (h9 : b.d = e) (h10 : du[e]? = some d) (h11 : d.c = 0) (h12 : d.b = false)
    (Q : Exit → Act → World → Prop) (hQ : ∀ a' w', a' = frm ar ad al nr pr nd pd nl pl k (fun k => a'.tmps.toList.getD k undef) → Below wd.heap.size wd w' → Q .normal a' w') :
    Code.wp Try.prog rest11 Q a wd := by
  generalize (fun k => a.tmps.toList.getD k undef) = Z at ha
  subst ha
  have HQ := Lib.hid hQ
  have HR := Lib.hid hR
  have HU := Lib.hid hU
  have HKB := Lib.hid hB
  have HKA := Lib.hid hA
  have H1 := Lib.hid h1
  have H2 := Lib.hid h2
  have H3 := Lib.hid h3
  have H4 := Lib.hid h4
  have H10 := Lib.hid h10
  have cB := cell_block hB
  have cA := cell_block hA
  have oB := block_lt hB
  have oA := block_lt hA
  have e0 : (0 : Int) ≤ (e : Int) := by omega
  have e1 : (e : Int) < (nd : Int) := by have := hU.len; have := (List.getElem?_eq_some_iff.1 h10).1; omega
  have e1' : e < nd := by omega
  have e2 : decide ((e : Int) < 0) = false := by simp
  have e3 : decide ((nd : Int) ≤ (e : Int)) = false := by simp; omega
  have e4 : decide (nd ≤ e) = false := by simp; omega
  have q0 : (0 : Int) ≤ (q : Int) := by omega
  have q1 : (q : Int) < (nr : Int) := by have := hR.len; have := (List.getElem?_eq_some_iff.1 h3).1; omega
  have q1' : q < nr := by omega
  have q2 : decide ((q : Int) < 0) = false := by simp
  have q3 : decide ((nr : Int) ≤ (q : Int)) = false := by simp; omega
  have q4 : decide (nr ≤ q) = false := by simp; omega
  have q5 : decide ((q : Int) = (p : Int)) = false := by simp; omega
  have q6 : ((q : Int) == (p : Int)) = false := by simp; omega
  have q7 : decide (q = p) = false := by simpa using h5
  have q8 : (q == p) = false := by simpa using h5
  have j0 : (0 : Int) ≤ (j : Int) := by omega
  have j1 : (j : Int) < (row2.length : Int) := by have := (List.getElem?_eq_some_iff.1 h4).1; omega
  have j1' : j < row2.length := by omega
  have j2 : decide ((j : Int) < 0) = false := by simp
  have j3 : decide ((row2.length : Int) ≤ (j : Int)) = false := by simp; omega
  have j4 : decide (row2.length ≤ j) = false := by simp; omega
  obtain ⟨br, orr, ac, cc, rfl, hbr, c0, hro⟩ := hR.at h3
  obtain ⟨ok, od, om, ot⟩ := o
  obtain ⟨bk, bd, bm, bt⟩ := b
  obtain ⟨dc, da, dn, dp, db⟩ := d
  simp only at h6 h7 h8 h9 h11 h12
  subst h6 h7 h8 h9 h11 h12
  clear hQ hR hU hB hA h1 h2 h3 h4 h5 h10
  conv => arg 2; whnf
  unfold frm2
  go_upto_region 14 with fail
  go_quiet (fail)
  go_upto_region 16 with fail
  have hb0 : Below wd.heap.size wd (wd.drewN nq) := by
    have hB := Below.refl wd.heap.size wd
    exact ⟨hB.os, hB.tape, hB.output, hB.size, hB.block⟩
  have HB0 := Lib.hid hb0
  have HR0 := Lib.hid (HR.out.below hb0)
  have HU0 := Lib.hid (HU.out.below hb0)
  have KB0 := Lib.hid (show (wd.drewN nq).heap[B]? = _ from HKB.out)
  have KA0 := Lib.hid (show (wd.drewN nq).heap[A]? = _ from HKA.out)
  clear hb0 cB cA hro c0 hbr
  generalize wd.drewN nq = w0 at *
  clear oB oA
  have cB := cell_block KB0.out
  have cA := cell_block KA0.out
  have oB := block_lt KB0.out
  have oA := block_lt KA0.out
  have qB : Old w0 B := oB
  have qA : Old w0 A := oA
  obtain ⟨br', orr', ac, cc, he, hbr, c0, hro⟩ := HR0.out.at H3.out
  cases he
  obtain ⟨bo, oo, rfl, hbo, -⟩ := hro.at H4.out
  have HRO := Lib.hid hro
  have hrun := runOf hro H4.out
  obtain ⟨bu, ou, rfl, hbu, -⟩ := HU0.out.at H10.out
  have hrud := runDu HU0.out H10.out
  have hc0 := Lib.hid c0
  clear hro
  have hsz : w0.heap.size ≤ w0.heap.size := Nat.le_refl _
  go_cut [15, 16] from 165 to 178 (fun s15 s16 wx => ∃ X Y : Nat, s15 = .pointer (some ⟨X, 0, none⟩) ∧ s16 = .pointer (some ⟨Y, 0, none⟩) ∧ wx.heap[X]? = some (.cells #[.int .i8 1, .int .i64 e, .int .i8 bm.k, .int .i64 bm.f, .int .i64 bm.n, .int .i64 bm.s, .string bm.t, .int .i64 bm.e, .int .i64 bt] 38) ∧ wx.heap[Y]? = some (.cells #[.int .i64 0, .slice da dn dp, .bool false] 42) ∧ Below w0.heap.size w0 wx)
  case first =>
    go_region_held3 (fun w' => (∀ o, w'.cell? ⟨B, o, none⟩ = (#[.int .i64 (p : Int), .int .i64 (i : Int), .int .i64 (q : Int), .int .i64 (j : Int)] : Array Value)[o]?) ∧ (∀ o, w'.cell? ⟨A, o, none⟩ = (#[.int .i8 0, .int .i64 e, .int .i8 om.k, .int .i64 om.f, .int .i64 om.n, .int .i64 om.s, .string om.t, .int .i64 om.e, .int .i64 ot] : Array Value)[o]?) ∧ w'.cell? ⟨br, orr + q, none⟩ = some (.slice (some ⟨bo, oo, none⟩) row2.length cc) ∧ (loadS 38 (.pointer (some ⟨bo, oo + j * 9, none⟩))).run Try.prog w' = .ok (.agg #[.int .i8 1, .int .i64 e, .int .i8 bm.k, .int .i64 bm.f, .int .i64 bm.n, .int .i64 bm.s, .string bm.t, .int .i64 bm.e, .int .i64 bt]) w' ∧ (loadS 42 (.pointer (some ⟨bu, ou + e * 3, none⟩))).run Try.prog w' = .ok (.agg #[.int .i64 0, .slice da dn dp, .bool false]) w' ∧ Below w0.heap.size w0 w')
      (first | (with_reducible assumption) | (refine heldM KB0.out KA0.out HRO.out H4.out HU0.out H10.out hbr hc0.out ?_; (repeat' (first | (with_reducible exact Below.refl _ _) | (with_reducible assumption) | (with_reducible refine Below.drew ?_) | (with_reducible refine Below.setBlk ?_ ?_ _) | (with_reducible refine Below.alloc ?_ ?_ _))) <;> first | omega | (simp; done) | (simp; omega))) (fail)
    all_goals
      go_wp2_with fail
      go_meet
      refine ⟨_, _, rfl, rfl, ?_, ?_, ?_⟩
      · (repeat' (first | (with_reducible assumption) | (with_reducible refine hm_new ?_; (first | rfl | (simp; done) | (simp [more_size]; done) | (simp [more_size]; omega))) | (with_reducible refine block_alloc ?_) | (with_reducible refine hm_more ?_) | (with_reducible refine hm_drew ?_)))
      · (repeat' (first | (with_reducible assumption) | (with_reducible refine hm_new ?_; (first | rfl | (simp; done) | (simp [more_size]; done) | (simp [more_size]; omega))) | (with_reducible refine block_alloc ?_) | (with_reducible refine hm_more ?_) | (with_reducible refine hm_drew ?_)))
      · (repeat' (first | (with_reducible exact Below.refl _ _) | (with_reducible assumption) | (with_reducible refine Below.drew ?_) | (with_reducible refine Below.alloc ?_ ?_ _) | (with_reducible refine below_more ?_ ?_ _ _) | (with_reducible refine Below.setCell ?_ ?_ _) | (with_reducible refine Below.trans ?_ (Below.mono (by assumption) ?_)))) <;> first | omega | (simp; done) | (simp; omega) | (simp [more_size]; done) | (simp [more_size]; omega)
  case rest =>
    obtain ⟨X, Y, rfl, rfl, kX, kY, hb3⟩ := hcut
    have HB3 := Lib.hid (HB0.out.trans (hb3.mono HB0.out.size))
    have HR3 := Lib.hid (HR0.out.below hb3)
    have kB := block_keep' hb3 KB0.out
    have kA := block_keep' hb3 KA0.out
    have HKX := Lib.hid kX
    have HKY := Lib.hid kY
    have HKB3 := Lib.hid kB
    have HKA3 := Lib.hid kA
    clear hb3 kX kY kA HRO hrun hrud hc0 cB cA oB oA qB qA hbr c0 hbo hbu hsz HR0 HU0 HB0 HR HU HKA KB0 KA0
    have lB := blk_of kB
    have mB : Has _ B 4 := has_of kB
    have oB := block_lt kB
    have qB : Old _ B := oB
    clear kB
    go_wp2_with fail
    refine (letter11 _ nr pr p i q j rows row row2 _ _ _ HR3.out H1.out H2.out H3.out H4.out rfl rfl rfl).mono ?_
    rintro r w4 ⟨rfl, hb4⟩
    have kX := block_keep' hb4 HKX.out
    have kY := block_keep' hb4 HKY.out
    have kA := block_keep' hb4 HKA3.out
    have HB4 := Lib.hid (HB3.out.trans (hb4.mono HB3.out.size))
    have cX := cell_block kX
    have cY := cell_block kY
    have cA := cell_block kA
    have oX := block_lt kX
    have oY := block_lt kY
    have oA := block_lt kA
    have qX : Old w4 X := oX
    have qY : Old w4 Y := oY
    have qA : Old w4 A := oA
    clear kX kY kA hb4 lB mB oB qB
    go_wp2_with fail
    exact HQ.out _ _ (by kernel_rfl) (HB4.out.alloc HB4.out.size _)
end Go.Proofs.Ytcdmhldhhjolpaa
