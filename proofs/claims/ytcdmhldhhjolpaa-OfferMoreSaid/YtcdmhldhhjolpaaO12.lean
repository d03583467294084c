
/- Walks of the seat of chapter 07: what is ready: the iterator's promise. -/
import Derived.Test.YtcdmhldhhjolpaaO11
import Derived.Scope
namespace Go.Proofs.Ytcdmhldhhjolpaa
open Go.RowKit
attribute [local go_sem ↓] Go.wp_at_zero Go.wp_at_succ
attribute [local go_sem] more_size cell_more_old frozen_more_old setCell_more_old more_drew drew_more old_alloc old_more old_drew old_setCell cell_alloc_old frozen_alloc_old setCell_alloc_old
attribute [local go_sem ↓] load42 store42 load61 store61 load38 store38 load30 store30
attribute [local go_sem] run42 runs42 run61 runs61 run38 runs38 run30 runs30 blk_drew has_drew blk_drewN has_drewN old_drewN blk_alloc_old has_alloc_old blk_alloc_new has_alloc_new setBlk_size setBlk_drew old_setBlk cell_setBlk' cell_setBlk_ne frozen_setBlk blk_setBlk' blk_setBlk_ne has_setBlk' has_setBlk_ne setBlk_alloc_old setBlk_new
open Go.Shelf
attribute [local go_sem] Oper.semAt_some
attribute [local go_sem ↓] wpIn_at_zero wpIn_at_succ

set_option maxRecDepth 100000 in
set_option maxHeartbeats 4000000 in
theorem ready_own (n : Nat) (hn : 4 ≤ n) (B1 B2 B3 B4 B5 : Nat) (ar ad a3 a4 : Option Addr) (nr pr nd pd n3 p3 n4 p4 : Nat) (ck : Int) (rows : List (List Ofr)) (du : List Du) (dial look : List Bool) (w0 w : World)
    (hR : RdRR w0 (.slice ar nr pr) rows) (hU : RdU w0 (.slice ad nd pd) du) (hD : RdB w0 (.slice a3 n3 p3) dial) (hL : RdB w0 (.slice a4 n4 p4) look) (hr1 : rows.length ≤ 1000) (hr2 : ∀ r ∈ rows, r.length ≤ 1000) (hr3 : ∀ r ∈ rows, ∀ o ∈ r, o.k ≤ 127)
    (hw : Below w0.heap.size w0 w) (b1 : w.heap[B1]? = some (.cells #[.slice ar nr pr] 22)) (b2 : w.heap[B2]? = some (.cells #[.slice ad nd pd] 23)) (b3 : w.heap[B3]? = some (.cells #[.int .i64 ck] 3)) (b4 : w.heap[B4]? = some (.cells #[.slice a3 n3 p3] 24)) (b5 : w.heap[B5]? = some (.cells #[.slice a4 n4 p4] 24)) :
    SeqOwn n Try.prog 22 #[.pointer (some ⟨B1, 0, none⟩), .pointer (some ⟨B2, 0, none⟩), .pointer (some ⟨B3, 0, none⟩), .pointer (some ⟨B4, 0, none⟩), .pointer (some ⟨B5, 0, none⟩)] (fun x : Mt => #[.agg #[.int .i64 x.p, .int .i64 x.i, .int .i64 x.q, .int .i64 x.j]]) (fun m W W' => KpT w0.heap.size W W' ∧ KeepsFrom m W W')
      (fun xs => xs = rAll du ck dial look rows) (rAll du ck dial look rows).length w := by
  intro l J W hW hJ hY h0
  have hB := hw.trans (hW.mono hw.size)
  have hba : Below W.heap.size W (W.alloc (.cells #[.func (.yield l) #[] #[]] 64)) := (Below.refl _ _).alloc (Nat.le_refl _) _
  have hB6 : (W.alloc (.cells #[.func (.yield l) #[] #[]] 64)).heap[W.heap.size]? = some (.cells #[.func (.yield l) #[] #[]] 64) := hm_new rfl
  have HOK := Lib.hid (show OutK l B1 B2 B3 B4 B5 W.heap.size ar ad a3 a4 nr pr nd pd n3 p3 n4 p4 ck rows du dial look w0 (W.alloc (.cells #[.func (.yield l) #[] #[]] 64)) from
    ⟨⟨hR, hU, hr1, hr2, hr3, hB.trans (hba.mono hB.size), block_keep' hba (block_keep' hW b1), block_keep' hba (block_keep' hW b2), block_keep' hba (block_keep' hW b3), hB6⟩, hD, hL, block_keep' hba (block_keep' hW b4), block_keep' hba (block_keep' hW b5)⟩)
  have HJ0 := Lib.hid (OwnFrom.below hJ h0 hba)
  have c1 := cell_block (block_keep' hba (block_keep' hW b1))
  have hz : W.heap.size ≤ (W.alloc (.cells #[.func (.yield l) #[] #[]] 64)).heap.size := hba.size
  clear hR hU hD hL b1 b2 b3 b4 b5 hB hba hB6 h0 hw hW
  refine callsIn_of_wp_marks Try.func22 rfl trivial ?_ rfl
  simp only [Try.ntmps22, List.size_toArray, List.length_cons, List.length_nil, Nat.reduceAdd, Nat.reduceSub, Array.replicate_succ, Array.replicate_zero, List.push_toArray, List.append_toArray, List.nil_append, List.cons_append]
  gi_wp2
  refine wpIn_wide.2 (wp_scope_straight ((wpIn_wide (n := n)).1 ?_))
  gi_wp2
  refine wpIn_label ?_
  gi_wp2
  refine out_loop n hn l B1 B2 B3 B4 B5 W.heap.size ar ad a3 a4 nr pr nd pd n3 p3 n4 p4 ck rows du dial look w0 _ _ W.heap.size HOK.out J hJ hz (fun pre x W1 hj hlen => yield_wide (hY pre x W1 hj hlen)) (KpT.refl _ _) HJ0.out _ ?_ ?_ _ ?_
  · kernel_rfl
  · exact Marks.nil _ _
  intro a' W' hf hj hd
  generalize (fun k => a'.tmps.toList.getD k undef) = X' at hf
  generalize hdd : a'.defers = ds' at hf hd
  subst hf
  clear hdd
  unfold frmO
  obtain ⟨Ds, rfl, hnd, hD⟩ := hd
  gi_wp2
  exact leaves_marks (n := n) (fn := Try.f22) (B := W.heap.size) (I := fun W => J (rAll du ck dial look rows) W) (fun s A B row hs hgr hr => hJ _ A B row hs hgr hr)
    (fun W2 h => ⟨_, results_none rfl _ _ _, ⟨_, rfl⟩, _, rfl, h⟩) Ds W' hnd hD hj
end Go.Proofs.Ytcdmhldhhjolpaa
