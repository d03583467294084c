
/- Walks of the seat of chapter 07: what is ready, the iterator. -/
import Derived.Test.YtcdmhldhhjolpaaO10
namespace Go.Proofs.Ytcdmhldhhjolpaa
open Go.RowKit
attribute [local go_sem ↓] Go.wp_at_zero Go.wp_at_succ
attribute [local go_sem] more_size cell_more_old frozen_more_old setCell_more_old more_drew drew_more old_alloc old_more old_drew old_setCell cell_alloc_old frozen_alloc_old setCell_alloc_old
attribute [local go_sem ↓] load42 store42 load61 store61 load38 store38 load30 store30
attribute [local go_sem] run42 runs42 run61 runs61 run38 runs38 run30 runs30
open Go.Shelf
attribute [local go_sem] Oper.semAt_some
attribute [local go_sem ↓] wpIn_at_zero wpIn_at_succ

/-- What the iterator knows. -/
structure OutK (lp B1 B2 B3 B4 B5 B6 : Nat) (ar ad a3 a4 : Option Addr) (nr pr nd pd n3 p3 n4 p4 : Nat) (ck : Int) (rows : List (List Ofr)) (du : List Du) (dial look : List Bool) (w0 W0 : World) : Prop where
  k : RowK lp B1 B2 B3 B4 B5 B6 ar ad nr pr nd pd ck rows du w0 W0
  rd : RdB w0 (.slice a3 n3 p3) dial
  rl : RdB w0 (.slice a4 n4 p4) look
  b4 : W0.heap[B4]? = some (.cells #[.slice a3 n3 p3] 24)
  b5 : W0.heap[B5]? = some (.cells #[.slice a4 n4 p4] 24)

theorem has_z61 (w : World) : Has (w.alloc (.cells #[.slice none 0 0, .int .i64 0, .bool false, .bool false] 61)).drew w.heap.size 4 = True := eq_true (has_of (show (w.alloc (.cells #[.slice none 0 0, .int .i64 0, .bool false, .bool false] 61)).drew.heap[w.heap.size]? = _ from hm_new rfl))
attribute [local go_sem] has_z61
theorem held4 {B2 B3 B4 B5 : Nat} {u2 u3 u4 u5 : Array Value} {t2 t3 t4 t5 : TypeId} {ws w' : World} (h2 : ws.heap[B2]? = some (.cells u2 t2)) (h3 : ws.heap[B3]? = some (.cells u3 t3)) (h4 : ws.heap[B4]? = some (.cells u4 t4)) (h5 : ws.heap[B5]? = some (.cells u5 t5)) (hb : Below ws.heap.size ws w') :
    (∀ o, w'.cell? ⟨B2, o, none⟩ = u2[o]?) ∧ (∀ o, w'.cell? ⟨B3, o, none⟩ = u3[o]?) ∧ (∀ o, w'.cell? ⟨B4, o, none⟩ = u4[o]?) ∧ (∀ o, w'.cell? ⟨B5, o, none⟩ = u5[o]?) ∧ Below ws.heap.size ws w' :=
  ⟨cell_block (block_keep' hb h2), cell_block (block_keep' hb h3), cell_block (block_keep' hb h4), cell_block (block_keep' hb h5), hb⟩
set_option maxRecDepth 100000 in
set_option maxHeartbeats 4000000 in
theorem out_round (n : Nat) (hn : 4 ≤ n) (lp B1 B2 B3 B4 B5 B6 : Nat) (ar ad a3 a4 : Option Addr) (nr pr nd pd n3 p3 n4 p4 p : Nat) (ck : Int) (rows : List (List Ofr)) (du : List Du) (dial look : List Bool) (w0 W0 wr : World) (m0 : Nat)
    (hk : OutK lp B1 B2 B3 B4 B5 B6 ar ad a3 a4 nr pr nd pd n3 p3 n4 p4 ck rows du dial look w0 W0) (row : List Ofr) (hp : rows[p]? = some row)
    (J : List Mt → World → Prop) (hJ : OwnFrom m0 J) (hm0 : m0 ≤ W0.heap.size) (pre : List Mt) (N : Nat) (hN : pre.length + (rAt du ck dial look rows row p).length ≤ N)
    (hY : ∀ pre x W, J pre W → pre.length < N → YieldAt Fence.wide (n - 1) Try.prog lp #[.agg #[.int .i64 x.p, .int .i64 x.i, .int .i64 x.q, .int .i64 x.j]] W fun e W' => e = .returned (.bool true) ∧ J (pre ++ [x]) W' ∧ KpT w0.heap.size W W' ∧ KeepsFrom m0 W W')
    (hnx : KpT w0.heap.size W0 wr) (h0 : J pre wr) (X : Nat → Value) (ds : List Deferred) (hds : Marks m0 ds wr) (K : Act → World → Prop) (Q : Exit → Act → World → Prop)
    (hK : ∀ a' W', a' = frmO lp B1 B2 B3 B4 B5 B6 ar nr pr (p + 1) (fun k => a'.tmps.toList.getD k undef) a'.defers → J (pre ++ rAt du ck dial look rows row p) W' → KpT w0.heap.size W0 W' → Marks m0 a'.defers W' → K a' W') :
    Code.wpIn Fence.wide n Try.prog body22 (Exit.then K Q) (frmO lp B1 B2 B3 B4 B5 B6 ar nr pr p X ds) wr := by
  have HK := Lib.hid hk
  have HP := Lib.hid hp
  have HNX := Lib.hid hnx
  have HJ0 := Lib.hid h0
  have HDS := Lib.hid hds
  have hpn : (p : Int) < (nr : Int) := by have := (List.getElem?_eq_some_iff.1 hp).1; have := hk.k.rr.len; omega
  have hp0 : (0 : Int) ≤ (p : Int) := by omega
  have hnr : nr ≤ 1000 := by rw [hk.k.rr.len]; exact hk.k.r1
  have hrl : row.length ≤ 1000 := hk.k.r2 _ (List.mem_of_getElem? hp)
  have HBW := Lib.hid (hk.k.hb.trans hnx.1)
  obtain ⟨br, or_, aq, cq, har, hbr, cr0, hro⟩ := hk.k.rr.at hp
  have cr := (HBW.out.cell (p := ⟨br, or_ + p, none⟩) hbr).trans cr0
  have HRO := Lib.hid hro
  clear hk hp hnx h0 hds cr0 hro
  by_cases hne : row.length = 0
  · have hr0 : row = [] := List.length_eq_zero_iff.1 hne
    have HM : Hid (rAt du ck dial look rows row p = []) := Lib.hid (by rw [hr0]; rfl)
    rw [hne] at cr
    subst har
    clear hr0
    conv => arg 4; whnf
    unfold frmO
    gi_wp2
    exact hK _ _ (by kernel_rfl) (by rw [HM.out, List.append_nil]; exact HJ0.out) HNX.out HDS.out
  · have hne' : ((row.length : Int) == 0) = false := beq_eq_false_iff_ne.2 (by omega)
    have c2 := cell_block (HNX.out.2 _ _ HK.out.k.b2 rfl)
    have c3 := cell_block (HNX.out.2 _ _ HK.out.k.b3 rfl)
    have c4 := cell_block (HNX.out.2 _ _ HK.out.b4 rfl)
    have c5 := cell_block (HNX.out.2 _ _ HK.out.b5 rfl)
    subst har
    conv => arg 4; whnf
    unfold frmO
    gi_wp2
    have K2 := Lib.hid (HNX.out.2 _ _ HK.out.k.b2 rfl)
    have K3 := Lib.hid (HNX.out.2 _ _ HK.out.k.b3 rfl)
    have K4 := Lib.hid (HNX.out.2 _ _ HK.out.b4 rfl)
    have K5 := Lib.hid (HNX.out.2 _ _ HK.out.b5 rfl)
    refine wpIn_wide.2 ?_
    go_region_held3 (fun w' => (∀ o, w'.cell? ⟨B2, o, none⟩ = (#[.slice ad nd pd] : Array Value)[o]?) ∧ (∀ o, w'.cell? ⟨B3, o, none⟩ = (#[.int .i64 ck] : Array Value)[o]?) ∧ (∀ o, w'.cell? ⟨B4, o, none⟩ = (#[.slice a3 n3 p3] : Array Value)[o]?) ∧ (∀ o, w'.cell? ⟨B5, o, none⟩ = (#[.slice a4 n4 p4] : Array Value)[o]?) ∧ Below wr.heap.size wr w') (first | (with_reducible assumption) | (refine held4 K2.out K3.out K4.out K5.out ?_; (repeat' (first | (with_reducible exact Below.refl _ _) | (with_reducible assumption) | (with_reducible refine Below.drew ?_) | (with_reducible refine Below.setBlk ?_ ?_ _) | (with_reducible refine Below.alloc ?_ ?_ _))) <;> first | omega | (simp; done) | (simp; omega))) (first
      | (go_at_call_of 23 (Value.slice a3 n3 p3); refine (nth23 a3 n3 p3 dial p _ (HK.out.rd.below (HBW.out.trans (Below.mono (by (repeat' (first | (with_reducible exact Below.refl _ _) | (with_reducible assumption) | (with_reducible refine Below.drew ?_) | (with_reducible refine Below.alloc ?_ ?_ _) | (with_reducible refine below_more ?_ ?_ _ _) | (with_reducible refine Below.setCell ?_ ?_ _) | (with_reducible refine Below.trans ?_ (Below.mono (by assumption) ?_)))) <;> first | omega | (simp; done) | (simp; omega) | (simp [more_size]; done) | (simp [more_size]; omega)) HBW.out.size)))).mono ?_; rintro e w' ⟨rfl, rfl⟩)
      | (go_at_call_of 23 (Value.slice a4 n4 p4); refine (nth23 a4 n4 p4 look p _ (HK.out.rl.below (HBW.out.trans (Below.mono (by (repeat' (first | (with_reducible exact Below.refl _ _) | (with_reducible assumption) | (with_reducible refine Below.drew ?_) | (with_reducible refine Below.alloc ?_ ?_ _) | (with_reducible refine below_more ?_ ?_ _ _) | (with_reducible refine Below.setCell ?_ ?_ _) | (with_reducible refine Below.trans ?_ (Below.mono (by assumption) ?_)))) <;> first | omega | (simp; done) | (simp; omega) | (simp [more_size]; done) | (simp [more_size]; omega)) HBW.out.size)))).mono ?_; rintro e w' ⟨rfl, rfl⟩))
    all_goals
      rename_i hH
      generalize hW : setBlk _ _ _ = ws at hH ⊢
      have hb9 : ws.heap[wr.heap.size]? = some (.cells #[.slice ad nd pd, .int .i64 ck, .bool (dial[p]?.getD false), .bool (look[p]?.getD false)] 61) := by rw [← hW]; exact setBlk_at (hm_new rfl) rfl
      have hbs : Below wr.heap.size wr ws := hH.2.2.2.2
      have HBs := Lib.hid (HBW.out.trans (hbs.mono HBW.out.size))
      have HJs := Lib.hid (OwnFrom.below hJ HJ0.out hbs)
      have HNXs := Lib.hid (HNX.out.more HBW.out.size hbs)
      have HDs := Lib.hid (HDS.out.keep (keepsFrom_below hbs))
      have H9 := Lib.hid hb9
      clear hH hW hb9 hbs c2 c3 c4 c5 cr
      gi_wp2
      refine row_loop n hn lp B1 B2 B3 B4 B5 B6 wr.heap.size (some ⟨br, or_, none⟩) ad aq nr pr nd pd p row.length cq ck (dial[p]?.getD false) (look[p]?.getD false) rows du w0 W0 ws m0 HK.out.k row HP.out HRO.out J hJ hm0 pre N hN hY HNXs.out H9.out HJs.out _ (by kernel_rfl) HDs.out _ ?_
      intro a' W' hf hj hn2 hd2
      generalize (fun k => a'.tmps.toList.getD k undef) = X' at hf
      generalize hdd : a'.defers = ds' at hf hd2
      subst hf
      clear hdd
      unfold frmI
      gi_wp2
      exact hK _ _ (by kernel_rfl) hj hn2 hd2
theorem out_exit (n : Nat) (lp B1 B2 B3 B4 B5 B6 : Nat) (ar : Option Addr) (nr pr : Nat) (wr : World) (X : Nat → Value) (ds : List Deferred) (K : Act → World → Prop) (Q : Exit → Act → World → Prop)
    (hQ : ∀ a', a' = frmO lp B1 B2 B3 B4 B5 B6 ar nr pr nr (fun k => a'.tmps.toList.getD k undef) ds → Q (.exit 0) a' wr) :
    Code.wpIn Fence.wide n Try.prog body22 (Exit.then K Q) (frmO lp B1 B2 B3 B4 B5 B6 ar nr pr nr X ds) wr := by
  conv => arg 4; whnf
  unfold frmO
  gi_wp2
  kernel_rfl
theorem out_loop (n : Nat) (hn : 4 ≤ n) (lp B1 B2 B3 B4 B5 B6 : Nat) (ar ad a3 a4 : Option Addr) (nr pr nd pd n3 p3 n4 p4 : Nat) (ck : Int) (rows : List (List Ofr)) (du : List Du) (dial look : List Bool) (w0 W0 wr : World) (m0 : Nat)
    (hk : OutK lp B1 B2 B3 B4 B5 B6 ar ad a3 a4 nr pr nd pd n3 p3 n4 p4 ck rows du dial look w0 W0)
    (J : List Mt → World → Prop) (hJ : OwnFrom m0 J) (hm0 : m0 ≤ W0.heap.size)
    (hY : ∀ pre x W, J pre W → pre.length < (rAll du ck dial look rows).length → YieldAt Fence.wide (n - 1) Try.prog lp #[.agg #[.int .i64 x.p, .int .i64 x.i, .int .i64 x.q, .int .i64 x.j]] W fun e W' => e = .returned (.bool true) ∧ J (pre ++ [x]) W' ∧ KpT w0.heap.size W W' ∧ KeepsFrom m0 W W')
    (hnx : KpT w0.heap.size W0 wr) (h0 : J [] wr) (a : Act) (ha : a = frmO lp B1 B2 B3 B4 B5 B6 ar nr pr 0 (fun k => a.tmps.toList.getD k undef) a.defers) (hds : Marks m0 a.defers wr) (Q : Exit → Act → World → Prop)
    (hQ : ∀ a' W', a' = frmO lp B1 B2 B3 B4 B5 B6 ar nr pr nr (fun k => a'.tmps.toList.getD k undef) a'.defers → J (rAll du ck dial look rows) W' → Marks m0 a'.defers W' → Q (.exit 0) a' W') :
    Code.wpIn Fence.wide n Try.prog (Code.loop body22) Q a wr := by
  have hl := hk.k.rr.len
  refine wpIn_loop (fun a' W' => ∃ (p : Nat) (X : Nat → Value) (ds : List Deferred), p ≤ nr ∧ a' = frmO lp B1 B2 B3 B4 B5 B6 ar nr pr p X ds ∧ J (rTo du ck dial look rows (rows.take p)) W' ∧ KpT w0.heap.size W0 W' ∧ Marks m0 ds W')
    (fun a' _ => nr - (intOf (a'.tmps.getD 15 undef)).toNat) ⟨0, _, _, Nat.zero_le _, ha, by simpa [rTo] using h0, hnx, hds⟩ (fun a' W' hI => ?_)
  obtain ⟨p, X, ds, hi, rfl, hj, hn', hd'⟩ := hI
  by_cases hlt : p < nr
  · obtain ⟨row, ho⟩ : ∃ row, rows[p]? = some row := ⟨_, List.getElem?_eq_getElem (by omega)⟩
    refine out_round n hn lp B1 B2 B3 B4 B5 B6 ar ad a3 a4 nr pr nd pd n3 p3 n4 p4 p ck rows du dial look w0 W0 W' m0 hk row ho J hJ hm0 _ _ (rTo_lt ho) hY hn' hj X ds hd' _ _ (fun a2 W2 hf hj2 hn2 hd2 => ⟨⟨p + 1, _, _, by omega, hf, by rw [rTo_succ ho]; exact hj2, hn2, hd2⟩, ?_⟩)
    rw [hf]
    show nr - (((p + 1 : Nat) : Int)).toNat < nr - ((p : Nat) : Int).toNat
    omega
  · obtain rfl : p = nr := by omega
    refine out_exit n lp B1 B2 B3 B4 B5 B6 ar p pr W' X ds _ _ (fun a2 hf => ?_)
    have hdf : a2.defers = ds := by rw [hf]; rfl
    refine hQ a2 W' (by rw [hdf]; exact hf) ?_ (by rw [hdf]; exact hd')
    rw [hl, List.take_length] at hj
    exact hj
end Go.Proofs.Ytcdmhldhhjolpaa
