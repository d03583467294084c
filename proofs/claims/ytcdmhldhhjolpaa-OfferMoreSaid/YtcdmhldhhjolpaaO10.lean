
/- Walks of the seat of chapter 07: what is ready, the iterator: the loops. -/
import Derived.Test.YtcdmhldhhjolpaaO9
namespace Go.Proofs.Ytcdmhldhhjolpaa
open Go.RowKit
attribute [local go_sem ↓] Go.wp_at_zero Go.wp_at_succ
attribute [local go_sem] more_size cell_more_old frozen_more_old setCell_more_old more_drew drew_more old_alloc old_more old_drew old_setCell cell_alloc_old frozen_alloc_old setCell_alloc_old
attribute [local go_sem ↓] load42 store42 load61 store61 load38 store38 load30 store30
attribute [local go_sem] run42 runs42 run61 runs61 run38 runs38 run30 runs30 blk_drew has_drew blk_drewN has_drewN old_drewN blk_alloc_old has_alloc_old blk_alloc_new has_alloc_new setBlk_size setBlk_drew old_setBlk cell_setBlk' cell_setBlk_ne frozen_setBlk blk_setBlk' blk_setBlk_ne has_setBlk' has_setBlk_ne setBlk_alloc_old setBlk_new
open Go.Shelf
attribute [local go_sem] Oper.semAt_some
attribute [local go_sem ↓] wpIn_at_zero wpIn_at_succ

theorem rRow_lt {du : List Du} {ck : Int} {dl lk : Bool} {rows : List (List Ofr)} {p : Nat} {row : List Ofr} {i : Nat} {o : Ofr} (h : row[i]? = some o) :
    (rRow du ck dl lk rows p (row.take i)).length + (rOne du ck dl lk rows p o i).length ≤ (rRow du ck dl lk rows p row).length := by
  have h2 : (rRow du ck dl lk rows p (row.take (i + 1))).length ≤ (rRow du ck dl lk rows p row).length := flat_le _ _ _
  rw [rRow_succ h, List.length_append] at h2
  exact h2
theorem rTo_lt {du : List Du} {ck : Int} {dial look : List Bool} {rows l : List (List Ofr)} {p : Nat} {row : List Ofr} (h : l[p]? = some row) :
    (rTo du ck dial look rows (l.take p)).length + (rAt du ck dial look rows row p).length ≤ (rTo du ck dial look rows l).length := by
  have h2 : (rTo du ck dial look rows (l.take (p + 1))).length ≤ (rTo du ck dial look rows l).length := flat_le _ _ _
  rw [rTo_succ h, List.length_append] at h2
  exact h2

set_option maxRecDepth 100000 in
set_option maxHeartbeats 4000000 in
theorem row_exit (n : Nat) (lp B1 B2 B3 B4 B5 B6 B9 : Nat) (ar aq : Option Addr) (nr pr p nq cq : Nat) (wr : World) (X : Nat → Value) (ds : List Deferred) (K : Act → World → Prop) (Q : Exit → Act → World → Prop)
    (hQ : ∀ a', a' = frmI lp B1 B2 B3 B4 B5 B6 B9 ar aq nr pr p nq cq nq (fun k => a'.tmps.toList.getD k undef) ds → Q (.exit 2) a' wr) :
    Code.wpIn Fence.wide n Try.prog body22i (Exit.then K Q) (frmI lp B1 B2 B3 B4 B5 B6 B9 ar aq nr pr p nq cq nq X ds) wr := by
  conv => arg 4; whnf
  unfold frmI
  gi_wp2
  kernel_rfl

theorem row_loop (n : Nat) (hn : 4 ≤ n) (lp B1 B2 B3 B4 B5 B6 B9 : Nat) (ar ad aq : Option Addr) (nr pr nd pd p nq cq : Nat) (ck : Int) (dl lk : Bool) (rows : List (List Ofr)) (du : List Du) (w0 W0 wr : World) (m0 : Nat)
    (hk : RowK lp B1 B2 B3 B4 B5 B6 ar ad nr pr nd pd ck rows du w0 W0) (row : List Ofr) (hp : rows[p]? = some row) (hq : RdO w0 (.slice aq nq cq) row)
    (J : List Mt → World → Prop) (hJ : OwnFrom m0 J) (hm0 : m0 ≤ W0.heap.size) (pre : List Mt) (N : Nat) (hN : pre.length + (rRow du ck dl lk rows p row).length ≤ N)
    (hY : ∀ pre x W, J pre W → pre.length < N → YieldAt Fence.wide (n - 1) Try.prog lp #[.agg #[.int .i64 x.p, .int .i64 x.i, .int .i64 x.q, .int .i64 x.j]] W fun e W' => e = .returned (.bool true) ∧ J (pre ++ [x]) W' ∧ KpT w0.heap.size W W' ∧ KeepsFrom m0 W W')
    (hnx : KpT w0.heap.size W0 wr) (hs : wr.heap[B9]? = some (.cells #[.slice ad nd pd, .int .i64 ck, .bool dl, .bool lk] 61)) (h0 : J pre wr) (a : Act) (ha : a = frmI lp B1 B2 B3 B4 B5 B6 B9 ar aq nr pr p nq cq 0 (fun k => a.tmps.toList.getD k undef) a.defers) (hds : Marks m0 a.defers wr) (Q : Exit → Act → World → Prop)
    (hQ : ∀ a' W', a' = frmI lp B1 B2 B3 B4 B5 B6 B9 ar aq nr pr p nq cq nq (fun k => a'.tmps.toList.getD k undef) a'.defers → J (pre ++ rRow du ck dl lk rows p row) W' → KpT w0.heap.size W0 W' → Marks m0 a'.defers W' → Q (.exit 2) a' W') :
    Code.wpIn Fence.wide n Try.prog (Code.loop body22i) Q a wr := by
  have hl := hq.len
  refine wpIn_loop (fun a' W' => ∃ (i : Nat) (X : Nat → Value) (ds : List Deferred), i ≤ nq ∧ a' = frmI lp B1 B2 B3 B4 B5 B6 B9 ar aq nr pr p nq cq i X ds ∧ J (pre ++ rRow du ck dl lk rows p (row.take i)) W' ∧ KpT w0.heap.size W0 W' ∧ W'.heap[B9]? = some (.cells #[.slice ad nd pd, .int .i64 ck, .bool dl, .bool lk] 61) ∧ Marks m0 ds W')
    (fun a' _ => nq - (intOf (a'.tmps.getD 34 undef)).toNat) ⟨0, _, _, Nat.zero_le _, ha, by simpa [rRow] using h0, hnx, hs, hds⟩ (fun a' W' hI => ?_)
  obtain ⟨i, X, ds, hi, rfl, hj, hn', hs', hd'⟩ := hI
  by_cases hlt : i < nq
  · obtain ⟨o, ho⟩ : ∃ o, row[i]? = some o := ⟨_, List.getElem?_eq_getElem (by omega)⟩
    refine row_round n hn lp B1 B2 B3 B4 B5 B6 B9 ar ad aq nr pr nd pd p nq cq i ck dl lk rows du w0 W0 W' m0 hk row hp hq o ho J hJ hm0 _ N (by have := rRow_lt (du := du) (ck := ck) (dl := dl) (lk := lk) (rows := rows) (p := p) ho; rw [List.length_append]; omega) hY hn' hs' hj X ds hd' _ _ (fun a2 W2 hf hj2 hn2 hs2 hd2 => ⟨⟨i + 1, _, _, by omega, hf, by rw [rRow_succ ho, ← List.append_assoc]; exact hj2, hn2, hs2, hd2⟩, ?_⟩)
    rw [hf]
    show nq - (((i + 1 : Nat) : Int)).toNat < nq - ((i : Nat) : Int).toNat
    omega
  · obtain rfl : i = nq := by omega
    refine row_exit n lp B1 B2 B3 B4 B5 B6 B9 ar aq nr pr p i cq W' X ds _ _ (fun a2 hf => ?_)
    have hdf : a2.defers = ds := by rw [hf]; rfl
    refine hQ a2 W' (by rw [hdf]; exact hf) ?_ hn' (by rw [hdf]; exact hd')
    rw [hl, List.take_length] at hj
    exact hj
end Go.Proofs.Ytcdmhldhhjolpaa
