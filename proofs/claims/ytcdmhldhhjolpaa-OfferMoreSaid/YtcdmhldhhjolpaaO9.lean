
/- Walks of the seat of chapter 07: what is ready, the iterator: a row. -/
import Derived.Test.YtcdmhldhhjolpaaO8
namespace Go.Proofs.Ytcdmhldhhjolpaa
open Go.RowKit
attribute [local go_sem ↓] Go.wp_at_zero Go.wp_at_succ
attribute [local go_sem] more_size cell_more_old frozen_more_old setCell_more_old more_drew drew_more old_alloc old_more old_drew old_setCell cell_alloc_old frozen_alloc_old setCell_alloc_old
attribute [local go_sem ↓] load42 store42 load61 store61 load38 store38 load30 store30
attribute [local go_sem] run42 runs42 run61 runs61 run38 runs38 run30 runs30 blk_drew has_drew blk_drewN has_drewN old_drewN blk_alloc_old has_alloc_old blk_alloc_new has_alloc_new setBlk_size setBlk_drew old_setBlk cell_setBlk' cell_setBlk_ne frozen_setBlk blk_setBlk' blk_setBlk_ne has_setBlk' has_setBlk_ne setBlk_alloc_old setBlk_new
open Go.Shelf
attribute [local go_sem] Oper.semAt_some
attribute [local go_sem ↓] wpIn_at_zero wpIn_at_succ

def firstLoop : Code → Option Code
  | .loop c => some c
  | .seq a b => match firstLoop a with
    | some c => some c
    | none => firstLoop b
  | .block _ c => firstLoop c
  | .scope c => firstLoop c
  | .cond _ a b => match firstLoop a with
    | some c => some c
    | none => firstLoop b
  | _ => none
/-- The bodies of the two loops. -/
noncomputable def body22 : Code := ((Try.f22.body.bind firstLoop).getD .skip)
noncomputable def body22i : Code := ((firstLoop body22).getD .skip)
/-- The frames at a round's beginning. -/
def frmO (lp B1 B2 B3 B4 B5 B6 : Nat) (ar : Option Addr) (nr pr p : Nat) (X : Nat → Value) (ds : List Deferred) : Act := { tmps := #[.func (.yield lp) #[] #[], .pointer (some ⟨B1, 0, none⟩), .pointer (some ⟨B2, 0, none⟩), .pointer (some ⟨B3, 0, none⟩), .pointer (some ⟨B4, 0, none⟩), .pointer (some ⟨B5, 0, none⟩), .pointer (some ⟨B6, 0, none⟩), X 7, X 8, X 9, X 10, X 11, X 12, .slice ar nr pr, .int .i64 nr, .int .i64 p, X 16, X 17, X 18, X 19, X 20, X 21, X 22, X 23, X 24, X 25, X 26, X 27, X 28, X 29, X 30, X 31, X 32, X 33, X 34, X 35, X 36, X 37, X 38, X 39, X 40, X 41, X 42, X 43, X 44, X 45, X 46, X 47, X 48, X 49, X 50, X 51, X 52, X 53, X 54, X 55, X 56, X 57, X 58, X 59, X 60, X 61], defers := ds }
def frmI (lp B1 B2 B3 B4 B5 B6 B9 : Nat) (ar aq : Option Addr) (nr pr p nq cq i : Nat) (X : Nat → Value) (ds : List Deferred) : Act := { tmps := #[.func (.yield lp) #[] #[], .pointer (some ⟨B1, 0, none⟩), .pointer (some ⟨B2, 0, none⟩), .pointer (some ⟨B3, 0, none⟩), .pointer (some ⟨B4, 0, none⟩), .pointer (some ⟨B5, 0, none⟩), .pointer (some ⟨B6, 0, none⟩), .int .i64 p, .slice aq nq cq, .pointer (some ⟨B9, 0, none⟩), X 10, X 11, X 12, .slice ar nr pr, .int .i64 nr, .int .i64 p, X 16, X 17, X 18, X 19, X 20, X 21, X 22, X 23, X 24, X 25, X 26, X 27, X 28, X 29, X 30, X 31, .slice aq nq cq, .int .i64 nq, .int .i64 i, X 35, X 36, X 37, X 38, X 39, X 40, X 41, X 42, X 43, X 44, X 45, X 46, X 47, X 48, X 49, X 50, X 51, X 52, X 53, X 54, X 55, X 56, X 57, X 58, X 59, X 60, X 61], defers := ds }
def frmB (B6 Bx : Nat) (Y : Nat → Value) : Act := { tmps := #[Y 0, Y 1, Y 2, Y 3, Y 4, Y 5, .pointer (some ⟨B6, 0, none⟩), Y 7, Y 8, Y 9, Y 10, Y 11, .pointer (some ⟨Bx, 0, none⟩), Y 13, Y 14, Y 15, Y 16, Y 17, Y 18, Y 19, Y 20, Y 21, Y 22, Y 23, Y 24, Y 25, Y 26, Y 27, Y 28, Y 29, Y 30, Y 31, Y 32, Y 33, Y 34, Y 35, Y 36, Y 37, Y 38, Y 39, Y 40, Y 41, Y 42, Y 43, Y 44, Y 45, Y 46, Y 47, Y 48, Y 49, Y 50, Y 51, Y 52, Y 53, Y 54, Y 55, Y 56, Y 57, Y 58, Y 59, Y 60, Y 61], defers := [] }
theorem kpT_own {β : Type} {n₀ B : Nat} {w₀ : World} (hn : n₀ ≤ w₀.heap.size) (hB : n₀ ≤ B) : OwnFrom B (fun (_ : β) W => KpT n₀ w₀ W) := fun s A A' row hs hgr hr =>
  ⟨ownFrom_below (β := β) hn hB s A A' row hs.1 hgr hr, fun k o hk ho => by
    have hA := hs.2 k o hk ho
    have hc : o.isCells = true := by
      cases o <;> simp [notM] at ho <;> rfl
    exact (grownBy_keeps_cells hgr (fun r e => (hr r e).2) hA hc).trans hA⟩
theorem kpT_put {n₀ : Nat} {W : World} {l : Nat} {o : Obj} (o' : Obj) (hn : n₀ ≤ l) (hl : W.heap[l]? = some o) (ho : o.isCells = false) : KpT n₀ W (W.putObj l o') :=
  ⟨(Below.refl n₀ W).grown (grownBy_putObj' W l o') (by have := (Array.getElem?_eq_some_iff.1 hl).1; omega) (fun k e => by cases e; exact hn), fun k u hk hu => by
    refine (World.putObj_heap_other fun e => ?_).trans hk
    subst e
    rw [hl] at hk
    cases hk
    cases o <;> simp [notM, Obj.isCells] at hu ho⟩
theorem yield_round {m m' : Nat} {P : Program} {lp : Nat} {args : Array Value} {W : World} {R : Ending → World → Prop} (l : Nat) (h : YieldAt Fence.wide m P lp args W R) : YieldAt (Fence.wide.inRound l) m' P lp args W R := by
  obtain ⟨fn, tmps, assign, body, hy, hf, hr⟩ := h
  exact ⟨fn, tmps, assign, body, hy, hf, fun c cs _ => hr c cs (room_wide _)⟩
/-- What the round of a row knows. -/
structure RowK (lp B1 B2 B3 B4 B5 B6 : Nat) (ar ad : Option Addr) (nr pr nd pd : Nat) (ck : Int) (rows : List (List Ofr)) (du : List Du) (w0 W0 : World) : Prop where
  rr : RdRR w0 (.slice ar nr pr) rows
  ru : RdU w0 (.slice ad nd pd) du
  r1 : rows.length ≤ 1000
  r2 : ∀ r ∈ rows, r.length ≤ 1000
  r3 : ∀ r ∈ rows, ∀ o ∈ r, o.k ≤ 127
  hb : Below w0.heap.size w0 W0
  b1 : W0.heap[B1]? = some (.cells #[.slice ar nr pr] 22)
  b2 : W0.heap[B2]? = some (.cells #[.slice ad nd pd] 23)
  b3 : W0.heap[B3]? = some (.cells #[.int .i64 ck] 3)
  b6 : W0.heap[B6]? = some (.cells #[.func (.yield lp) #[] #[]] 64)

set_option maxRecDepth 100000 in
set_option maxHeartbeats 4000000 in
theorem row_round (n : Nat) (hn : 4 ≤ n) (lp B1 B2 B3 B4 B5 B6 B9 : Nat) (ar ad aq : Option Addr) (nr pr nd pd p nq cq i : Nat) (ck : Int) (dl lk : Bool) (rows : List (List Ofr)) (du : List Du) (w0 W0 wr : World) (m0 : Nat)
    (hk : RowK lp B1 B2 B3 B4 B5 B6 ar ad nr pr nd pd ck rows du w0 W0) (row : List Ofr) (hp : rows[p]? = some row) (hq : RdO w0 (.slice aq nq cq) row) (o : Ofr) (hi : row[i]? = some o)
    (J : List Mt → World → Prop) (hJ : OwnFrom m0 J) (hm0 : m0 ≤ W0.heap.size) (pre : List Mt) (N : Nat) (hN : pre.length + (rOne du ck dl lk rows p o i).length ≤ N)
    (hY : ∀ pre x W, J pre W → pre.length < N → YieldAt Fence.wide (n - 1) Try.prog lp #[.agg #[.int .i64 x.p, .int .i64 x.i, .int .i64 x.q, .int .i64 x.j]] W fun e W' => e = .returned (.bool true) ∧ J (pre ++ [x]) W' ∧ KpT w0.heap.size W W' ∧ KeepsFrom m0 W W')
    (hnx : KpT w0.heap.size W0 wr) (hs : wr.heap[B9]? = some (.cells #[.slice ad nd pd, .int .i64 ck, .bool dl, .bool lk] 61)) (h0 : J pre wr) (X : Nat → Value) (ds : List Deferred) (hds : Marks m0 ds wr) (K : Act → World → Prop) (Q : Exit → Act → World → Prop)
    (hK : ∀ a' W', a' = frmI lp B1 B2 B3 B4 B5 B6 B9 ar aq nr pr p nq cq (i + 1) (fun k => a'.tmps.toList.getD k undef) a'.defers → J (pre ++ rOne du ck dl lk rows p o i) W' → KpT w0.heap.size W0 W' → W'.heap[B9]? = some (.cells #[.slice ad nd pd, .int .i64 ck, .bool dl, .bool lk] 61) → Marks m0 a'.defers W' → K a' W') :
    Code.wpIn Fence.wide n Try.prog body22i (Exit.then K Q) (frmI lp B1 B2 B3 B4 B5 B6 B9 ar aq nr pr p nq cq i X ds) wr := by
  have HK := Lib.hid hk
  have HN := Lib.hid hq.len
  have HI := Lib.hid hi
  have HNX := Lib.hid hnx
  have HS := Lib.hid hs
  have HJ0 := Lib.hid h0
  have HDS := Lib.hid hds
  have hin : (i : Int) < (nq : Int) := by have := (List.getElem?_eq_some_iff.1 hi).1; have := hq.len; omega
  have hi0 : (0 : Int) ≤ (i : Int) := by omega
  have hnq : nq ≤ 1000 := by rw [hq.len]; exact hk.r2 _ (List.mem_of_getElem? hp)
  have HBW := Lib.hid (hk.hb.trans hnx.1)
  have hko : o.k ≤ 127 := hk.r3 _ (List.mem_of_getElem? hp) _ (List.mem_of_getElem? hi)
  obtain ⟨bq, oq, rfl, hbq, -⟩ := hq.at hi
  have hrun := runOf (hq.below HBW.out) hi
  have HQ := Lib.hid hq
  have HP := Lib.hid hp
  have k1 := hnx.2 _ _ hk.b1 rfl
  have k2 := hnx.2 _ _ hk.b2 rfl
  have k6 := hnx.2 _ _ hk.b6 rfl
  have KK1 := Lib.hid k1
  have KK2 := Lib.hid k2
  have KK6 := Lib.hid k6
  have oS := block_lt hs
  have qS : Old wr B9 := oS
  have lS := blk_of hs
  have mS : Has wr B9 4 := has_of hs
  clear hk hq hi hnx hs h0 hds k1 k2 k6
  conv => arg 4; whnf
  unfold frmI
  gi_wp2
  refine ⟨trivial, fun _ => by omega, callsIn_wide.2 ((alone20' ad nd pd ck dl lk du o _ (HK.out.ru.below (HBW.out.alloc HBW.out.size _)) hko).mono ?_)⟩
  rintro e w2 ⟨rfl, hb2⟩
  have hB2 : Below wr.heap.size wr w2 := by (repeat' (first | (with_reducible exact Below.refl _ _) | (with_reducible assumption) | (with_reducible refine Below.drew ?_) | (with_reducible refine Below.alloc ?_ ?_ _) | (with_reducible refine below_more ?_ ?_ _ _) | (with_reducible refine Below.setCell ?_ ?_ _) | (with_reducible refine Below.trans ?_ (Below.mono (by assumption) ?_)))) <;> first | omega | (simp; done) | (simp; omega) | (simp [more_size]; done) | (simp [more_size]; omega)
  have HBw2 := Lib.hid (HBW.out.trans (hB2.mono HBW.out.size))
  have HJw2 := Lib.hid (OwnFrom.below hJ HJ0.out hB2)
  have HNXw2 := Lib.hid (HNX.out.more HBW.out.size hB2)
  have HSw2 := Lib.hid (block_keep' hB2 HS.out)
  have HDw2 := Lib.hid (HDS.out.keep (keepsFrom_below hB2))
  have c1 := cell_block (HNXw2.out.2 _ _ HK.out.b1 rfl)
  have c2 := cell_block (HNXw2.out.2 _ _ HK.out.b2 rfl)
  clear hb2 hB2 oS qS lS mS hrun
  cases hr : aloneB du ck dl lk o
  · have HM : Hid (rOne du ck dl lk rows p o i = mAll du o p i rows) := Lib.hid (by simp [rOne, hr])
    clear hr
    gi_wp2
    refine ⟨fun _ h => (by cases h), ?_⟩
    gi_wp2
    refine ⟨trivial, fun _ => by omega, callsIn_wide.2 ((meets24 ar ad nr pr nd pd p i _).mono ?_)⟩
    rintro e w4 ⟨rfl, hw4⟩
    have hb4 : Below w2.heap.size w2 w4 := by rw [hw4]; exact ((((Below.refl _ _).alloc (Nat.le_refl _) _).alloc (by simp) _).alloc (by simp; omega) _).alloc (by simp; omega) _
    have q1 : w4.heap[w2.heap.size]? = some (.cells #[.slice ar nr pr] 22) := by rw [hw4]; (repeat' (first | (with_reducible assumption) | (with_reducible refine hm_new ?_; (first | rfl | (simp; done) | (simp [more_size]; done) | (simp [more_size]; omega))) | (with_reducible refine block_alloc ?_) | (with_reducible refine hm_more ?_) | (with_reducible refine hm_drew ?_)))
    have q2 : w4.heap[w2.heap.size + 1]? = some (.cells #[.slice ad nd pd] 23) := by rw [hw4]; (repeat' (first | (with_reducible assumption) | (with_reducible refine hm_new ?_; (first | rfl | (simp; done) | (simp [more_size]; done) | (simp [more_size]; omega))) | (with_reducible refine block_alloc ?_) | (with_reducible refine hm_more ?_) | (with_reducible refine hm_drew ?_)))
    have q3 : w4.heap[w2.heap.size + 2]? = some (.cells #[.int .i64 p] 3) := by rw [hw4]; (repeat' (first | (with_reducible assumption) | (with_reducible refine hm_new ?_; (first | rfl | (simp; done) | (simp [more_size]; done) | (simp [more_size]; omega))) | (with_reducible refine block_alloc ?_) | (with_reducible refine hm_more ?_) | (with_reducible refine hm_drew ?_)))
    have q4 : w4.heap[w2.heap.size + 3]? = some (.cells #[.int .i64 i] 3) := by rw [hw4]; (repeat' (first | (with_reducible assumption) | (with_reducible refine hm_new ?_; (first | rfl | (simp; done) | (simp [more_size]; done) | (simp [more_size]; omega))) | (with_reducible refine block_alloc ?_) | (with_reducible refine hm_more ?_) | (with_reducible refine hm_drew ?_)))
    have HBW4 := Lib.hid (show Below w0.heap.size w0 w4 from HBw2.out.trans (hb4.mono HBw2.out.size))
    have hseq := meets_stops (n - 1) (by omega) w2.heap.size (w2.heap.size + 2) (w2.heap.size + 3) (w2.heap.size + 1) ar ad nr pr nd pd p i rows du row o w0 w4 HK.out.rr HK.out.ru HP.out HI.out HK.out.r1 HK.out.r2 HBW4.out q1 q3 q4 q2
    have HSEQ := Lib.hid hseq
    have HJ4 := Lib.hid (OwnFrom.below hJ (s := pre) HJw2.out hb4)
    have HNX4 := Lib.hid (HNXw2.out.more HBw2.out.size hb4)
    have HS4 := Lib.hid (block_keep' hb4 HSw2.out)
    have KK64 := Lib.hid (HNX4.out.2 _ _ HK.out.b6 rfl)
    have HD4 := Lib.hid (HDw2.out.keep (keepsFrom_below hb4))
    have hz4 : m0 ≤ w4.heap.size := Nat.le_trans hm0 (Nat.le_trans HNX4.out.1.size (Nat.le_refl _))
    have hz0 : w0.heap.size ≤ w4.heap.size := HBW4.out.size
    clear hseq q1 q2 q3 q4 hb4 hw4
    gi_wp2
    refine wpIn_rangeFunc_ownH rfl (by omega) (gf := 27) (lb := #[.pointer (some ⟨w2.heap.size, 0, none⟩), .pointer (some ⟨w2.heap.size + 2, 0, none⟩), .pointer (some ⟨w2.heap.size + 3, 0, none⟩), .pointer (some ⟨w2.heap.size + 1, 0, none⟩)]) rfl trivial (enters_of Try.func27 (by kernel_rfl) rfl) HSEQ.out
      KpT.trans (fun W l o o' hl h ho _ => kpT_put o' (Nat.le_trans hz0 hl) h ho) (Below.refl _ _) (fun _ => rfl)
      (fun pre' W => J (pre ++ pre') W ∧ KpT w0.heap.size w4 W ∧ KeepsFrom m0 w4 W) (fun _ _ _ => False)
      (fun s A A' row hs hgr hr => ⟨OwnFrom.le hJ hz4 _ A A' row hs.1 hgr hr, kpT_own hz0 hz0 s A A' row hs.2.1 hgr hr, ownFrom_keepsFrom (Nat.le_refl _) s A A' row hs.2.2 hgr hr⟩)
      (fun _ _ _ _ _ hs _ _ => hs) ⟨by simpa using HJ4.out, KpT.refl _ _, ⟨Nat.le_refl _, fun _ _ _ h _ => h⟩⟩
      (fun x a' W => ∃ Bx, W.heap[Bx]? = some (.cells #[.int .i64 x.p, .int .i64 x.i, .int .i64 x.q, .int .i64 x.j] 30) ∧ a' = frmB B6 Bx (fun k => a'.tmps.toList.getD k undef))
      (fun x a' s A A' row hs hgr hr => by obtain ⟨Bx, h1, h2⟩ := hs; exact ⟨Bx, (grownBy_keeps_cells hgr (fun r e => (hr r e).2) h1 rfl).trans h1, h2⟩) ?assign ?body ?done ?stop
    case assign =>
      rintro l pre' x W K ⟨g1, g2, g3⟩ hK'
      gi_wp2
      have hba := (Below.refl W.heap.size W).alloc (Nat.le_refl _) (.cells #[.int .i64 x.p, .int .i64 x.i, .int .i64 x.q, .int .i64 x.j] 30)
      exact hK' _ _ (keepsFrom_below hba) ((KpT.refl _ _).more (Nat.le_trans hz0 g3.size) hba) ⟨OwnFrom.below hJ g1 hba, g2.more (Nat.le_trans hz0 g3.size) hba, ⟨Nat.le_trans g3.size hba.size, fun k o hk h ho => block_keep' hba (g3.same k o hk h ho)⟩⟩ ⟨W.heap.size, hm_new rfl, by kernel_rfl⟩
    case body =>
      rintro l pre' x a' W hl hrec ⟨g1, g2, g3⟩ ⟨Bx, hx, ha⟩ hlen
      generalize (fun k => a'.tmps.toList.getD k undef) = Y at ha
      subst ha
      have cx := cell_block hx
      have lx := blk_of hx
      have mx : Has W Bx 4 := has_of hx
      have ox := block_lt hx
      have qx : Old W Bx := ox
      have c6 := cell_block (g2.2 _ _ KK64.out rfl)
      obtain ⟨fn, tmps, assign, body, hy, hRd⟩ := yield_round (m' := n - 1 - 1 - 1) l (hY _ x W g1 (by have h1 := HM.out; rw [h1] at hN; rw [List.length_append]; omega))
      try dsimp only at hy
      clear hx hrec
      unfold frmB
      gi_wp2
      refine ⟨fun _ => by omega, hRd.mono ?_⟩
      rintro e W' ⟨rfl, hj', hk1, hk2⟩
      gi_wp2
      exact ⟨KeepsFrom.le hk2 hz4, hk1, by rw [← List.append_assoc]; exact hj', g2.trans hk1, ⟨Nat.le_trans g3.size hk2.size, fun k o hk h ho => hk2.same k o hk (g3.same k o hk h ho) ho⟩⟩
    case done =>
      rintro D xs W hD rfl ⟨g1, g2, g3⟩ hDd
      gi_wp2
      exact hK _ _ (by kernel_rfl) (by rw [HM.out]; exact g1) (HNX4.out.trans g2) (g2.2 _ _ HS4.out rfl) (Marks.cons HD4.out g3 (Nat.le_trans hz4 hD) hD hDd)
    case stop =>
      rintro D c pre' W _ _ h _
      exact h.elim
  · have HM : Hid (rOne du ck dl lk rows p o i = [⟨p, i, -1, -1⟩] ++ mAll du o p i rows) := Lib.hid (by simp [rOne, hr])
    obtain ⟨fn, tmps, assign, body, hy, hRd⟩ := hY pre ⟨p, i, -1, -1⟩ w2 HJw2.out (by have h1 := HM.out; rw [h1] at hN; simp at hN; omega)
    try dsimp only at hy
    have c6 := cell_block (HNXw2.out.2 _ _ HK.out.b6 rfl)
    clear hr
    gi_wp2
    refine ⟨fun _ => by omega, hRd.mono ?_⟩
    rintro e w3 ⟨rfl, hj3, hk3, hkf3⟩
    have HBw3 := Lib.hid (HBw2.out.trans hk3.1)
    have HJw3 := Lib.hid hj3
    have HNXw3 := Lib.hid (HNXw2.out.trans hk3)
    have HSw3 := Lib.hid (hk3.2 _ _ HSw2.out rfl)
    have HDw3 := Lib.hid (HDw2.out.keep hkf3)
    clear c1 c2 c6 hj3 hk3 hkf3 hy hRd
    have c1 := cell_block (HNXw3.out.2 _ _ HK.out.b1 rfl)
    have c2 := cell_block (HNXw3.out.2 _ _ HK.out.b2 rfl)
    gi_wp2
    refine ⟨trivial, fun _ => by omega, callsIn_wide.2 ((meets24 ar ad nr pr nd pd p i _).mono ?_)⟩
    rintro e w4 ⟨rfl, hw4⟩
    have hb4 : Below w3.heap.size w3 w4 := by rw [hw4]; exact ((((Below.refl _ _).alloc (Nat.le_refl _) _).alloc (by simp) _).alloc (by simp; omega) _).alloc (by simp; omega) _
    have q1 : w4.heap[w3.heap.size]? = some (.cells #[.slice ar nr pr] 22) := by rw [hw4]; (repeat' (first | (with_reducible assumption) | (with_reducible refine hm_new ?_; (first | rfl | (simp; done) | (simp [more_size]; done) | (simp [more_size]; omega))) | (with_reducible refine block_alloc ?_) | (with_reducible refine hm_more ?_) | (with_reducible refine hm_drew ?_)))
    have q2 : w4.heap[w3.heap.size + 1]? = some (.cells #[.slice ad nd pd] 23) := by rw [hw4]; (repeat' (first | (with_reducible assumption) | (with_reducible refine hm_new ?_; (first | rfl | (simp; done) | (simp [more_size]; done) | (simp [more_size]; omega))) | (with_reducible refine block_alloc ?_) | (with_reducible refine hm_more ?_) | (with_reducible refine hm_drew ?_)))
    have q3 : w4.heap[w3.heap.size + 2]? = some (.cells #[.int .i64 p] 3) := by rw [hw4]; (repeat' (first | (with_reducible assumption) | (with_reducible refine hm_new ?_; (first | rfl | (simp; done) | (simp [more_size]; done) | (simp [more_size]; omega))) | (with_reducible refine block_alloc ?_) | (with_reducible refine hm_more ?_) | (with_reducible refine hm_drew ?_)))
    have q4 : w4.heap[w3.heap.size + 3]? = some (.cells #[.int .i64 i] 3) := by rw [hw4]; (repeat' (first | (with_reducible assumption) | (with_reducible refine hm_new ?_; (first | rfl | (simp; done) | (simp [more_size]; done) | (simp [more_size]; omega))) | (with_reducible refine block_alloc ?_) | (with_reducible refine hm_more ?_) | (with_reducible refine hm_drew ?_)))
    have HBW4 := Lib.hid (show Below w0.heap.size w0 w4 from HBw3.out.trans (hb4.mono HBw3.out.size))
    have hseq := meets_stops (n - 1) (by omega) w3.heap.size (w3.heap.size + 2) (w3.heap.size + 3) (w3.heap.size + 1) ar ad nr pr nd pd p i rows du row o w0 w4 HK.out.rr HK.out.ru HP.out HI.out HK.out.r1 HK.out.r2 HBW4.out q1 q3 q4 q2
    have HSEQ := Lib.hid hseq
    have HJ4 := Lib.hid (OwnFrom.below hJ (s := pre ++ [⟨p, i, -1, -1⟩]) HJw3.out hb4)
    have HNX4 := Lib.hid (HNXw3.out.more HBw3.out.size hb4)
    have HS4 := Lib.hid (block_keep' hb4 HSw3.out)
    have KK64 := Lib.hid (HNX4.out.2 _ _ HK.out.b6 rfl)
    have HD4 := Lib.hid (HDw3.out.keep (keepsFrom_below hb4))
    have hz4 : m0 ≤ w4.heap.size := Nat.le_trans hm0 (Nat.le_trans HNX4.out.1.size (Nat.le_refl _))
    have hz0 : w0.heap.size ≤ w4.heap.size := HBW4.out.size
    clear hseq q1 q2 q3 q4 hb4 hw4
    gi_wp2
    refine wpIn_rangeFunc_ownH rfl (by omega) (gf := 27) (lb := #[.pointer (some ⟨w3.heap.size, 0, none⟩), .pointer (some ⟨w3.heap.size + 2, 0, none⟩), .pointer (some ⟨w3.heap.size + 3, 0, none⟩), .pointer (some ⟨w3.heap.size + 1, 0, none⟩)]) rfl trivial (enters_of Try.func27 (by kernel_rfl) rfl) HSEQ.out
      KpT.trans (fun W l o o' hl h ho _ => kpT_put o' (Nat.le_trans hz0 hl) h ho) (Below.refl _ _) (fun _ => rfl)
      (fun pre' W => J ((pre ++ [⟨p, i, -1, -1⟩]) ++ pre') W ∧ KpT w0.heap.size w4 W ∧ KeepsFrom m0 w4 W) (fun _ _ _ => False)
      (fun s A A' row hs hgr hr => ⟨OwnFrom.le hJ hz4 _ A A' row hs.1 hgr hr, kpT_own hz0 hz0 s A A' row hs.2.1 hgr hr, ownFrom_keepsFrom (Nat.le_refl _) s A A' row hs.2.2 hgr hr⟩)
      (fun _ _ _ _ _ hs _ _ => hs) ⟨by simpa using HJ4.out, KpT.refl _ _, ⟨Nat.le_refl _, fun _ _ _ h _ => h⟩⟩
      (fun x a' W => ∃ Bx, W.heap[Bx]? = some (.cells #[.int .i64 x.p, .int .i64 x.i, .int .i64 x.q, .int .i64 x.j] 30) ∧ a' = frmB B6 Bx (fun k => a'.tmps.toList.getD k undef))
      (fun x a' s A A' row hs hgr hr => by obtain ⟨Bx, h1, h2⟩ := hs; exact ⟨Bx, (grownBy_keeps_cells hgr (fun r e => (hr r e).2) h1 rfl).trans h1, h2⟩) ?assign ?body ?done ?stop
    case assign =>
      rintro l pre' x W K ⟨g1, g2, g3⟩ hK'
      gi_wp2
      have hba := (Below.refl W.heap.size W).alloc (Nat.le_refl _) (.cells #[.int .i64 x.p, .int .i64 x.i, .int .i64 x.q, .int .i64 x.j] 30)
      exact hK' _ _ (keepsFrom_below hba) ((KpT.refl _ _).more (Nat.le_trans hz0 g3.size) hba) ⟨OwnFrom.below hJ g1 hba, g2.more (Nat.le_trans hz0 g3.size) hba, ⟨Nat.le_trans g3.size hba.size, fun k o hk h ho => block_keep' hba (g3.same k o hk h ho)⟩⟩ ⟨W.heap.size, hm_new rfl, by kernel_rfl⟩
    case body =>
      rintro l pre' x a' W hl hrec ⟨g1, g2, g3⟩ ⟨Bx, hx, ha⟩ hlen
      generalize (fun k => a'.tmps.toList.getD k undef) = Y at ha
      subst ha
      have cx := cell_block hx
      have lx := blk_of hx
      have mx : Has W Bx 4 := has_of hx
      have ox := block_lt hx
      have qx : Old W Bx := ox
      have c6 := cell_block (g2.2 _ _ KK64.out rfl)
      obtain ⟨fn, tmps, assign, body, hy, hRd⟩ := yield_round (m' := n - 1 - 1 - 1) l (hY _ x W g1 (by have h1 := HM.out; rw [h1] at hN; simp at hN ⊢; omega))
      try dsimp only at hy
      clear hx hrec
      unfold frmB
      gi_wp2
      refine ⟨fun _ => by omega, hRd.mono ?_⟩
      rintro e W' ⟨rfl, hj', hk1, hk2⟩
      gi_wp2
      exact ⟨KeepsFrom.le hk2 hz4, hk1, by rw [← List.append_assoc]; exact hj', g2.trans hk1, ⟨Nat.le_trans g3.size hk2.size, fun k o hk h ho => hk2.same k o hk (g3.same k o hk h ho) ho⟩⟩
    case done =>
      rintro D xs W hD rfl ⟨g1, g2, g3⟩ hDd
      gi_wp2
      exact hK _ _ (by kernel_rfl) (by rw [HM.out, ← List.append_assoc]; exact g1) (HNX4.out.trans g2) (g2.2 _ _ HS4.out rfl) (Marks.cons HD4.out g3 (Nat.le_trans hz4 hD) hD hDd)
    case stop =>
      rintro D c pre' W _ _ h _
      exact h.elim
end Go.Proofs.Ytcdmhldhhjolpaa
