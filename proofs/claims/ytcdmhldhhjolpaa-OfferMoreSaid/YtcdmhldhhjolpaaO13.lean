
/- Walks of the seat of chapter 07: All. -/
import Derived.Test.YtcdmhldhhjolpaaO12
namespace Go.Proofs.Ytcdmhldhhjolpaa
open Go.RowKit
attribute [local go_sem ↓] Go.wp_at_zero Go.wp_at_succ
attribute [local go_sem] more_size cell_more_old frozen_more_old setCell_more_old more_drew drew_more old_alloc old_more old_drew old_setCell cell_alloc_old frozen_alloc_old setCell_alloc_old
attribute [local go_sem ↓] load42 store42 load61 store61 load38 store38 load30 store30
attribute [local go_sem] run42 runs42 run61 runs61 run38 runs38 run30 runs30 blk_drew has_drew blk_drewN has_drewN old_drewN blk_alloc_old has_alloc_old blk_alloc_new has_alloc_new setBlk_size setBlk_drew old_setBlk cell_setBlk' cell_setBlk_ne frozen_setBlk blk_setBlk' blk_setBlk_ne has_setBlk' has_setBlk_ne setBlk_alloc_old setBlk_new
open Go.Shelf
attribute [local go_sem] Oper.semAt_some
attribute [local go_sem ↓] wpIn_at_zero wpIn_at_succ

theorem info30 : (Try.prog.info? 30).map (fun i => (i.zero, i.size, i.bytes)) = some (some (.agg #[.int .i64 0, .int .i64 0, .int .i64 0, .int .i64 0]), 4, 32) := by kernel_rfl
theorem setCell_id {w : World} {b : Nat} {t : TypeId} {v : Value} (h : w.heap[b]? = some (.cells #[v] t (0, 0))) : w.setCell ⟨b, 0, none⟩ v = w := by
  have e : (w.setCell ⟨b, 0, none⟩ v).heap = w.heap := by
    apply Array.ext_getElem?
    intro j
    by_cases hj : j = b
    · subst hj
      rw [heap_setCell_same w j 0 _ t v h, h]
      simp
    · exact Below.heap_setCell w _ v j hj
  cases w
  simp only [World.setCell] at e ⊢
  simp only [e]
def frmA (B Bx : Nat) (Y : Nat → Value) : Act := { tmps := #[Y 0, Y 1, Y 2, Y 3, Y 4, Y 5, Y 6, Y 7, Y 8, Y 9, .pointer (some ⟨B, 0, none⟩), .pointer (some ⟨Bx, 0, none⟩), Y 12, Y 13, Y 14, Y 15, Y 16, Y 17, Y 18, Y 19, Y 20, Y 21, Y 22, Y 23], defers := [] }
/-- What is appended to the row of meetings leaves all else. -/
theorem kpT_append {W w1 : World} {n₀ B m : Nat} {v v' : Value} {k : Nat} {xs : List Value} {tmp : Obj} (hv : Boxed W B 27 v) (hrow : W.ownsRow n₀ 30 4 v k xs) (hgrow : (W.alloc tmp).grownBy w1 v.ownBlock) (hb : Below m W (w1.setCell ⟨B, 0, none⟩ v')) : KpT m W (w1.setCell ⟨B, 0, none⟩ v') := by
  refine ⟨hb, fun j o hj ho => ?_⟩
  have hjlt : j < W.heap.size := (Array.getElem?_eq_some_iff.1 hj).1
  have hjB : j ≠ B := by
    rintro rfl
    rw [show W.heap[j]? = _ from hv] at hj
    cases hj
    simp [notM] at ho
  have hjr : some j ≠ v.ownBlock := by
    intro e
    rcases hrow.2 with ⟨rfl, _⟩ | ⟨g, cap, cur, rfl, _, hgb, _⟩
    · simp [Value.ownBlock] at e
    · obtain rfl : j = g := by simpa [Value.ownBlock] using e
      rw [hgb] at hj
      cases hj
      simp [notM] at ho
  rw [Below.heap_setCell _ _ _ _ hjB, hgrow.block j (by simp; omega) hjr]
  exact (Below.heap_alloc W tmp j hjlt).trans hj

set_option maxRecDepth 100000 in
set_option maxHeartbeats 4000000 in
theorem all8 (ar ad a3 a4 : Option Addr) (nr pr nd pd n3 p3 n4 p4 : Nat) (ck : Int) (rows : List (List Ofr)) (du : List Du) (dial look : List Bool) (w : World)
    (hR : RdRR w (.slice ar nr pr) rows) (hU : RdU w (.slice ad nd pd) du) (hD : RdB w (.slice a3 n3 p3) dial) (hL : RdB w (.slice a4 n4 p4) look) (hr1 : rows.length ≤ 1000) (hr2 : ∀ r ∈ rows, r.length ≤ 1000) (hr3 : ∀ r ∈ rows, ∀ o ∈ r, o.k ≤ 127) (hlen : (rAll du ck dial look rows).length ≤ 10000000) :
    Calls Try.prog 8 #[.slice ar nr pr, .slice ad nd pd, .int .i64 ck, .slice a3 n3 p3, .slice a4 n4 p4] w fun r w' =>
      ∃ a c q, r = .returned (.slice a c q) ∧ c = (rAll du ck dial look rows).length ∧ w'.ownsRow w.heap.size 30 4 (.slice a c q) c (mtCells (rAll du ck dial look rows)) ∧ Below w.heap.size w w' := by
  refine (callsIn_wide (n := 8)).1 ?_
  obtain ⟨i0, hi, hz0, hz1, hz2⟩ := info_parts info30
  have HR := Lib.hid hR
  have HU := Lib.hid hU
  have HD := Lib.hid hD
  have HL := Lib.hid hL
  have HR2 := Lib.hid hr2
  have HR3 := Lib.hid hr3
  clear hR hU hD hL hr2 hr3
  refine callsIn_of_wp_marks Try.func8 rfl trivial ?_ rfl
  simp only [Try.ntmps8, List.size_toArray, List.length_cons, List.length_nil, Nat.reduceAdd, Nat.reduceSub, Array.replicate_succ, Array.replicate_zero, List.push_toArray, List.append_toArray, List.nil_append, List.cons_append]
  gi_wp2
  refine ⟨trivial, callsIn_wide.2 ((ready18 ar ad a3 a4 nr pr nd pd n3 p3 n4 p4 ck _).mono ?_)⟩
  rintro e w4 ⟨rfl, hw4⟩
  gi_wp2
  have bO : Boxed w4 w.heap.size 27 (.slice none 0 0) := by
    rw [hw4]
    exact (((((Boxed.new w 27 (.slice none 0 0)).alloc _).alloc _).alloc _).alloc _).alloc _
  have hb4 : Below w.heap.size w w4 := by rw [hw4]; (repeat' (first | (with_reducible exact Below.refl _ _) | (with_reducible assumption) | (with_reducible refine Below.drew ?_) | (with_reducible refine Below.alloc ?_ ?_ _) | (with_reducible refine below_more ?_ ?_ _ _) | (with_reducible refine Below.setCell ?_ ?_ _) | (with_reducible refine Below.trans ?_ (Below.mono (by assumption) ?_)))) <;> first | omega | (simp; done) | (simp; omega) | (simp [more_size]; done) | (simp [more_size]; omega)
  have hz4 : w4.heap.size = w.heap.size + 6 := by rw [hw4]; simp only [World.size_alloc]
  have q1 : w4.heap[w.heap.size + 1]? = some (.cells #[.slice ar nr pr] 22) := by rw [hw4]; (repeat' (first | (with_reducible assumption) | (with_reducible refine hm_new ?_; (first | rfl | (simp; done) | (simp [more_size]; done) | (simp [more_size]; omega))) | (with_reducible refine block_alloc ?_) | (with_reducible refine hm_more ?_) | (with_reducible refine hm_drew ?_)))
  have q2 : w4.heap[w.heap.size + 1 + 1]? = some (.cells #[.slice ad nd pd] 23) := by rw [hw4]; (repeat' (first | (with_reducible assumption) | (with_reducible refine hm_new ?_; (first | rfl | (simp; done) | (simp [more_size]; done) | (simp [more_size]; omega))) | (with_reducible refine block_alloc ?_) | (with_reducible refine hm_more ?_) | (with_reducible refine hm_drew ?_)))
  have q3 : w4.heap[w.heap.size + 1 + 2]? = some (.cells #[.int .i64 ck] 3) := by rw [hw4]; (repeat' (first | (with_reducible assumption) | (with_reducible refine hm_new ?_; (first | rfl | (simp; done) | (simp [more_size]; done) | (simp [more_size]; omega))) | (with_reducible refine block_alloc ?_) | (with_reducible refine hm_more ?_) | (with_reducible refine hm_drew ?_)))
  have q4 : w4.heap[w.heap.size + 1 + 3]? = some (.cells #[.slice a3 n3 p3] 24) := by rw [hw4]; (repeat' (first | (with_reducible assumption) | (with_reducible refine hm_new ?_; (first | rfl | (simp; done) | (simp [more_size]; done) | (simp [more_size]; omega))) | (with_reducible refine block_alloc ?_) | (with_reducible refine hm_more ?_) | (with_reducible refine hm_drew ?_)))
  have q5 : w4.heap[w.heap.size + 1 + 4]? = some (.cells #[.slice a4 n4 p4] 24) := by rw [hw4]; (repeat' (first | (with_reducible assumption) | (with_reducible refine hm_new ?_; (first | rfl | (simp; done) | (simp [more_size]; done) | (simp [more_size]; omega))) | (with_reducible refine block_alloc ?_) | (with_reducible refine hm_more ?_) | (with_reducible refine hm_drew ?_)))
  rw [← hw4]
  clear hw4
  refine wpIn_range_own (gf := 22) (lb := #[.pointer (some ⟨w.heap.size + 1, 0, none⟩), .pointer (some ⟨w.heap.size + 1 + 1, 0, none⟩), .pointer (some ⟨w.heap.size + 1 + 2, 0, none⟩), .pointer (some ⟨w.heap.size + 1 + 3, 0, none⟩), .pointer (some ⟨w.heap.size + 1 + 4, 0, none⟩)]) rfl (enters_of Try.func22 (by kernel_rfl) rfl)
    (ready_own (8 - 1) (by omega) _ _ _ _ _ ar ad a3 a4 nr pr nd pd n3 p3 n4 p4 ck rows du dial look w w4 HR.out HU.out HD.out HL.out hr1 HR2.out HR3.out hb4 q1 q2 q3 q4 q5)
    (fun h k => ⟨h.1.trans k.1, ⟨Nat.le_trans h.2.size k.2.size, fun j o hj hA ho => k.2.same j o hj (h.2.same j o hj hA ho) ho⟩⟩)
    (fun W o o' h ho _ => ⟨kpT_put o' (by omega) h ho, ⟨(grownBy_putObj' W _ o').size, fun j u hj hu _ => (World.putObj_heap_other (by omega)).trans hu⟩⟩) (fun _ => rfl)
    (fun pre W => (∃ v, Boxed W w.heap.size 27 v ∧ W.ownsRow w.heap.size 30 4 v pre.length (mtCells pre) ∧ True) ∧ Below w.heap.size w W)
    (OwnFrom.and (Own.from (holdsRow_own w.heap.size w.heap.size 27 30 4 (fun pre : List Mt => pre.length) mtCells (fun _ _ => True)) _) (ownFrom_below (Nat.le_refl _) hb4.size))
    ⟨⟨_, bO, World.ownsRow_nil _ _ _ _, trivial⟩, hb4⟩
    (fun x a' W => ∃ Bx, W.heap[Bx]? = some (.cells #[.int .i64 x.p, .int .i64 x.i, .int .i64 x.q, .int .i64 x.j] 30) ∧ a' = frmA w.heap.size Bx (fun k => a'.tmps.toList.getD k undef))
    (fun x a' s A A' row hs hgr hr => by obtain ⟨Bx, h1, h2⟩ := hs; exact ⟨Bx, (grownBy_keeps_cells hgr (fun r e => (hr r e).2) h1 rfl).trans h1, h2⟩) ?assign ?body ?done
  case assign =>
    rintro l pre x W K ⟨⟨v, hv, hrow, -⟩, hB⟩ hK'
    gi_wp2
    have hba := (Below.refl W.heap.size W).alloc (Nat.le_refl _) (.cells #[.int .i64 x.p, .int .i64 x.i, .int .i64 x.q, .int .i64 x.j] 30)
    exact hK' _ _ (keepsFrom_below hba) ⟨(KpT.refl _ _).more hB.size hba, keepsFrom_below hba⟩ ⟨⟨v, hv.alloc _, hrow.alloc _, trivial⟩, hB.trans (hba.mono hB.size)⟩ ⟨W.heap.size, hm_new rfl, by kernel_rfl⟩
  case body =>
    rintro l pre x a' W ⟨⟨v, hv, hrow, -⟩, hB⟩ ⟨Bx, hx, ha⟩ hlt
    generalize (fun k => a'.tmps.toList.getD k undef) = Y at ha
    subst ha
    have hc := hv.cell
    have lx := blk_of hx
    have mx : Has W Bx 4 := has_of hx
    have ox := block_lt hx
    have qx : Old W Bx := ox
    have hpl : pre.length ≤ 10000000 := by omega
    clear hx
    unfold frmA
    gi_wp2_with (gi_at_builtin; refine wpListIn_append_own _ rfl _ _ 27 rfl w.heap.size 30 i0 (.agg #[.int .i64 0, .int .i64 0, .int .i64 0, .int .i64 0]) 4 32 Try.underlying27 hi hz0 hz1 hz2 rfl (by decide) _ _ _ rfl (hrow.alloc _) ⟨W.heap.size, 0, none⟩ 1 1 [.int .i64 x.p, .int .i64 x.i, .int .i64 x.q, .int .i64 x.j] rfl rfl (news_alloc W [.int .i64 x.p, .int .i64 x.i, .int .i64 x.q, .int .i64 x.j] 30) (by intro u hu; simp at hu; rcases hu with rfl | rfl | rfl | rfl <;> rfl) (by unfold maxLen; omega) (by omega) (by have := hB.size; simp; omega) ?_; intro v' w1 hown' hgrow _; obtain ⟨g', cap', rfl⟩ := ownsRow_succ hown'; obtain ⟨hv1, hv2, hr2, hk2, hb2⟩ := hv.appended (by decide) hrow hB.size (Nat.le_refl _) hown' hgrow; have hkp := kpT_append hv hrow hgrow hb2; have hc1 := hv1.cell; have hf1 := hv1.frozen)
    exact ⟨hk2.from _, ⟨hkp, hk2.from _⟩, ⟨_, hv2, by rw [mtCells_app, List.length_append]; exact hr2, trivial⟩, hB.trans hb2⟩
  case done =>
    rintro D xs W hDw rfl ⟨⟨v, hv, hrow, -⟩, hB⟩ hK
    have hv0 : ∃ p cp, v = .slice p (rAll du ck dial look rows).length cp := by
      obtain ⟨_, ⟨rfl, h0⟩ | ⟨g, cap, cur, rfl, _⟩⟩ := hrow
      · exact ⟨_, _, by rw [h0]⟩
      · exact ⟨_, _, rfl⟩
    obtain ⟨p, cp, rfl⟩ := hv0
    have hc := hv.cell
    have hf := hv.frozen
    have ho := hv.lt
    generalize hm : (rAll du ck dial look rows).length = m at *
    generalize hxs : mtCells (rAll du ck dial look rows) = xs at *
    gi_wp2
    rw [setCell_id hv]
    have hne : w.heap.size ≠ D := by omega
    have bP : Boxed (W.putObj D (.deferred none)) w.heap.size 27 (.slice p m cp) := hv.kept (grownBy_putObj' _ _ _) (by simpa using hne)
    have hcP := bP.cell
    refine ⟨by simp, .inl ⟨_, _, rfl, run_takeDeferred hK, ?_⟩⟩
    refine ⟨.slice p m cp, by simp [results, Try.results8, go_sem, hcP], p, m, cp, rfl, hm.symm, ?_, hB.trans (belowK_b (w := w) (Nat.le_refl _) W D _ _ (by omega) hK rfl rfl)⟩
    rw [hxs]
    exact ownsRow_putObj hrow _ hK rfl
end Go.Proofs.Ytcdmhldhhjolpaa
