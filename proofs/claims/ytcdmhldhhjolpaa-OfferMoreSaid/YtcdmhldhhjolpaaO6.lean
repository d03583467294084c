
/- Walks of the seat of chapter 07: whom a case meets: the iterator. -/
import Derived.Test.YtcdmhldhhjolpaaO5
namespace Go.Proofs.Ytcdmhldhhjolpaa
open Go.RowKit
attribute [local go_sem ↓] Go.wp_at_zero Go.wp_at_succ
attribute [local go_sem] more_size cell_more_old frozen_more_old setCell_more_old more_drew drew_more old_alloc old_more old_drew old_setCell cell_alloc_old frozen_alloc_old setCell_alloc_old
attribute [local go_sem ↓] load42 store42 load61 store61 load38 store38 load30 store30
attribute [local go_sem] run42 runs42 run61 runs61 run38 runs38 run30 runs30 blk_drew has_drew blk_drewN has_drewN old_drewN blk_alloc_old has_alloc_old blk_alloc_new has_alloc_new setBlk_size setBlk_drew old_setBlk cell_setBlk' cell_setBlk_ne frozen_setBlk blk_setBlk' blk_setBlk_ne has_setBlk' has_setBlk_ne setBlk_alloc_old setBlk_new
open Go.Shelf
attribute [local go_sem] Oper.semAt_some
theorem wpIn_at_zero {F : Fence} {n : Nat} {P : Program} {o : Oper} {l : List Oper} {h : 0 < (o :: l).toArray.size} {a : Act} {w : World} {K : Act → World → Prop} {Q : Exit → Act → World → Prop} : Go.Oper.wpIn F n P ((o :: l).toArray[0]'h) a w K Q = Go.Oper.wpIn F n P o a w K Q := rfl
theorem wpIn_at_succ {F : Fence} {m : Nat} {P : Program} {o : Oper} {l : List Oper} {n : Nat} {h : n + 1 < (o :: l).toArray.size} {a : Act} {w : World} {K : Act → World → Prop} {Q : Exit → Act → World → Prop} : Go.Oper.wpIn F m P ((o :: l).toArray[n + 1]'h) a w K Q = Go.Oper.wpIn F m P (l.toArray[n]'(by simpa using h)) a w K Q := rfl
attribute [local go_sem ↓] wpIn_at_zero wpIn_at_succ

set_option maxRecDepth 100000 in
set_option maxHeartbeats 4000000 in
theorem meets27 (n : Nat) (hn : 1 ≤ n) (lp B1 B2 B3 B4 : Nat) (ar ad : Option Addr) (nr pr nd pd p i : Nat) (rows : List (List Ofr)) (du : List Du) (rp : List Ofr) (o : Ofr) (w0 : World)
    (hR : RdRR w0 (.slice ar nr pr) rows) (hU : RdU w0 (.slice ad nd pd) du) (hp : rows[p]? = some rp) (hi : rp[i]? = some o) (hr1 : rows.length ≤ 1000) (hr2 : ∀ r ∈ rows, r.length ≤ 1000)
    (J Jx : List Mt → World → Prop) (B0 : Nat) (hJ : AbidesFrom B0 J)
    (hY : ∀ pre x W, J pre W → pre.length < (mAll du o p i rows).length → YieldAt Fence.wide (n - 1) Try.prog lp #[.agg #[.int .i64 x.p, .int .i64 x.i, .int .i64 x.q, .int .i64 x.j]] W fun e W' =>
      (e = .returned (.bool true) ∧ J (pre ++ [x]) W' ∧ KpT w0.heap.size W W') ∨ (e = .returned (.bool false) ∧ Jx (pre ++ [x]) W'))
    (W : World) (hW : Below w0.heap.size w0 W) (h1 : W.heap[B1]? = some (.cells #[.slice ar nr pr] 22)) (h2 : W.heap[B2]? = some (.cells #[.int .i64 p] 3)) (h3 : W.heap[B3]? = some (.cells #[.int .i64 i] 3)) (h4 : W.heap[B4]? = some (.cells #[.slice ad nd pd] 23)) (h0 : J [] W) :
    CallsIn Fence.wide n Try.prog 27 #[.func (.yield lp) #[] #[], .pointer (some ⟨B1, 0, none⟩), .pointer (some ⟨B2, 0, none⟩), .pointer (some ⟨B3, 0, none⟩), .pointer (some ⟨B4, 0, none⟩)] W fun e W' => (∃ v, e = .returned v) ∧
      (J (mAll du o p i rows) W' ∨ (∃ pre, Jx pre W')) := by
  have HR := Lib.hid hR
  have HU := Lib.hid hU
  have HP := Lib.hid hp
  have HI := Lib.hid hi
  have HN := Lib.hid hR.len
  have hr1' : nr ≤ 1000 := by rw [hR.len]; exact hr1
  have HR2 := Lib.hid hr2
  have HW := Lib.hid hW
  have H1 := Lib.hid h1
  have H2 := Lib.hid h2
  have H3 := Lib.hid h3
  have H4 := Lib.hid h4
  have c1 := cell_block h1
  clear hR hU hp hi hr1 hr2 hW h2 h3 h4
  refine callsIn_of_wp Try.func27 rfl trivial ?_ rfl
  simp only [Try.ntmps27, List.size_toArray, List.length_cons, List.length_nil, Nat.reduceAdd, Nat.reduceSub, Array.replicate_succ, Array.replicate_zero, List.push_toArray, List.append_toArray, List.nil_append, List.cons_append]
  gi_wp2
  clear c1 h1
  gi_loopw [12] (fun s wr => ∃ q : Nat, q ≤ nr ∧ s = .int .i64 q ∧ J (mAll du o p i (rows.take q)) wr ∧ KpT w0.heap.size W wr) (fun s _ => nr - (intOf s).toNat)
  case atStart => exact ⟨0, Nat.zero_le _, rfl, h0, KpT.refl _ _⟩
  case round =>
    obtain ⟨q, hq, rfl, hJs, hnx⟩ := hrel
    have HJ0 := Lib.hid hJs
    have HNX := Lib.hid hnx
    clear hJs hnx
    by_cases hlt : q < nr
    · have hqi : (q : Int) < (nr : Int) := by omega
      have hq0 : (0 : Int) ≤ (q : Int) := by omega
      obtain ⟨row, hrow⟩ : ∃ row, rows[q]? = some row := ⟨_, List.getElem?_eq_getElem (by have := HN.out; omega)⟩
      have HROW := Lib.hid hrow
      have hrl : row.length ≤ 1000 := HR2.out _ (List.mem_of_getElem? hrow)
      obtain ⟨br, or_, aq, cq, rfl, hbr, cr0, hro⟩ := HR.out.at hrow
      have cr := ((HW.out.trans HNX.out.1).cell (p := ⟨br, or_ + q, none⟩) hbr).trans cr0
      have HRO := Lib.hid hro
      clear hrow hro cr0
      gi_wp2
      gi_loopw [19] (fun s wr' => ∃ j : Nat, j ≤ row.length ∧ s = .int .i64 j ∧ J (mAll du o p i (rows.take q) ++ mRow du o p i q (row.take j)) wr' ∧ KpT w0.heap.size W wr') (fun s _ => row.length - (intOf s).toNat)
      case atStart => exact ⟨0, Nat.zero_le _, rfl, by simpa [mRow] using HJ0.out, HNX.out⟩
      case round =>
        obtain ⟨j, hj, rfl, hJs, hnx⟩ := hrel
        have HJ1 := Lib.hid hJs
        have HNX1 := Lib.hid hnx
        clear hJs hnx
        by_cases hlt2 : j < row.length
        · have hji : (j : Int) < (row.length : Int) := by omega
          have hj0 : (0 : Int) ≤ (j : Int) := by omega
          obtain ⟨b, hb⟩ : ∃ b, row[j]? = some b := ⟨_, List.getElem?_eq_getElem hlt2⟩
          have HB := Lib.hid hb
          have HBW := Lib.hid (HW.out.trans HNX1.out.1)
          obtain ⟨bq, oq, rfl, hbq, -⟩ := HRO.out.at hb
          have hrun := runOf (HRO.out.below HBW.out) hb
          clear hb cr
          gi_wp2
          have k1 : (wr.alloc (.cells #[.int .i8 b.k, .int .i64 b.d, .int .i8 b.m.k, .int .i64 b.m.f, .int .i64 b.m.n, .int .i64 b.m.s, .string b.m.t, .int .i64 b.m.e, .int .i64 b.t] 38)).drew.heap[B1]? = some (.cells #[.slice (some ⟨br, or_, none⟩) nr pr] 22) := block_alloc (HNX1.out.2 _ _ H1.out rfl)
          have k2 : (wr.alloc (.cells #[.int .i8 b.k, .int .i64 b.d, .int .i8 b.m.k, .int .i64 b.m.f, .int .i64 b.m.n, .int .i64 b.m.s, .string b.m.t, .int .i64 b.m.e, .int .i64 b.t] 38)).drew.heap[B2]? = some (.cells #[.int .i64 p] 3) := block_alloc (HNX1.out.2 _ _ H2.out rfl)
          have k3 : (wr.alloc (.cells #[.int .i8 b.k, .int .i64 b.d, .int .i8 b.m.k, .int .i64 b.m.f, .int .i64 b.m.n, .int .i64 b.m.s, .string b.m.t, .int .i64 b.m.e, .int .i64 b.t] 38)).drew.heap[B3]? = some (.cells #[.int .i64 i] 3) := block_alloc (HNX1.out.2 _ _ H3.out rfl)
          have k4 : (wr.alloc (.cells #[.int .i8 b.k, .int .i64 b.d, .int .i8 b.m.k, .int .i64 b.m.f, .int .i64 b.m.n, .int .i64 b.m.s, .string b.m.t, .int .i64 b.m.e, .int .i64 b.t] 38)).drew.heap[B4]? = some (.cells #[.slice ad nd pd] 23) := block_alloc (HNX1.out.2 _ _ H4.out rfl)
          have k9 : (wr.alloc (.cells #[.int .i8 b.k, .int .i64 b.d, .int .i8 b.m.k, .int .i64 b.m.f, .int .i64 b.m.n, .int .i64 b.m.s, .string b.m.t, .int .i64 b.m.e, .int .i64 b.t] 38)).drew.heap[wr.heap.size]? = some (.cells #[.int .i8 b.k, .int .i64 b.d, .int .i8 b.m.k, .int .i64 b.m.f, .int .i64 b.m.n, .int .i64 b.m.s, .string b.m.t, .int .i64 b.m.e, .int .i64 b.t] 38) := hm_new rfl
          have HWx := Lib.hid (show Below w0.heap.size w0 (wr.alloc (.cells #[.int .i8 b.k, .int .i64 b.d, .int .i8 b.m.k, .int .i64 b.m.f, .int .i64 b.m.n, .int .i64 b.m.s, .string b.m.t, .int .i64 b.m.e, .int .i64 b.t] 38)).drew from (HBW.out.alloc HBW.out.size _).drew)
          have HNXx := Lib.hid (show KpT w0.heap.size W (wr.alloc (.cells #[.int .i8 b.k, .int .i64 b.d, .int .i8 b.m.k, .int .i64 b.m.f, .int .i64 b.m.n, .int .i64 b.m.s, .string b.m.t, .int .i64 b.m.e, .int .i64 b.t] 38)).drew from (HNX1.out.alloc HBW.out.size _).drew)
          have HJx := Lib.hid (show J _ (wr.alloc (.cells #[.int .i8 b.k, .int .i64 b.d, .int .i8 b.m.k, .int .i64 b.m.f, .int .i64 b.m.n, .int .i64 b.m.s, .string b.m.t, .int .i64 b.m.e, .int .i64 b.t] 38)).drew from hJ _ _ _ none HJ1.out (below_grown (((Below.refl _ _).alloc (Nat.le_refl _) _).drew)) (fun r e => by cases e))
          by_cases hqp : q = p
          · subst hqp
            refine wpIn_region_headL (N := 24) (D := fun s => 24 + s) (v := fun s => (#[.int .i64 q, .int .i64 q, .bool false, .bool false, undef, undef, undef, undef, undef, undef, undef, undef, undef, undef, .bool false, .bool false, undef, undef, undef, undef, undef, undef, undef, undef] : Array Value).getD s undef)
              (by kernel_rfl) (by kernel_rfl) (by kernel_rfl) (by kernel_rfl) (by simp) (by simp; omega) (by intro i j _ _ h; (try dsimp only at h); omega) ?_ ?_
            · intro i hi a K ho hd hk
              generalize (wr.alloc (.cells #[.int .i8 b.k, .int .i64 b.d, .int .i8 b.m.k, .int .i64 b.m.f, .int .i64 b.m.n, .int .i64 b.m.s, .string b.m.t, .int .i64 b.m.e, .int .i64 b.t] 38)).drew = wx at k1 k2 k3 k4 k9 hk ⊢
              have cc1 := cell_block k1
              have cc2 := cell_block k2
              have cc3 := cell_block k3
              have cc4 := cell_block k4
              have e0 := ho 0 (by intro i hi; omega)
              have e1 := ho 1 (by intro i hi; omega)
              have e2 := ho 2 (by intro i hi; omega)
              have e3 := ho 3 (by intro i hi; omega)
              have e4 := ho 4 (by intro i hi; omega)
              have e6 := ho 6 (by intro i hi; omega)
              have e8 := ho 8 (by intro i hi; omega)
              have e9 := ho 9 (by intro i hi; omega)
              clear ho
              simp only [List.getElem?_toArray, List.getElem?_cons_zero, List.getElem?_cons_succ] at e0 e1 e2 e3 e4 e6 e8 e9
              rcases (show i = 0 ∨ i = 1 ∨ i = 2 ∨ i = 3 ∨ i = 4 ∨ i = 5 ∨ i = 6 ∨ i = 7 ∨ i = 8 ∨ i = 9 ∨ i = 10 ∨ i = 11 ∨ i = 12 ∨ i = 13 ∨ i = 14 ∨ i = 15 ∨ i = 16 ∨ i = 17 ∨ i = 18 ∨ i = 19 ∨ i = 20 ∨ i = 21 ∨ i = 22 ∨ i = 23 from by omega) with rfl | rfl | rfl | rfl | rfl | rfl | rfl | rfl | rfl | rfl | rfl | rfl | rfl | rfl | rfl | rfl | rfl | rfl | rfl | rfl | rfl | rfl | rfl | rfl
              · clear hd; refine wpOpIn_step rfl (fun K' hK => ?_); go_simp
                first | exact hK _ _ hk | exact ⟨fun _ _ => trivial, hK _ _ hk⟩ | exact ⟨trivial, hK _ _ hk⟩
              · clear hd; refine wpOpIn_step rfl (fun K' hK => ?_); go_simp
                first | exact hK _ _ hk | exact ⟨fun _ _ => trivial, hK _ _ hk⟩ | exact ⟨trivial, hK _ _ hk⟩
              · have e24 := hd 0 (by omega) (by kernel_rfl); have e25 := hd 1 (by omega) (by kernel_rfl); clear hd; refine wpOpIn_step rfl (fun K' hK => ?_); go_simp
                first | exact hK _ _ hk | exact ⟨fun _ _ => trivial, hK _ _ hk⟩ | exact ⟨trivial, hK _ _ hk⟩
              · have e26 := hd 2 (by omega) (by kernel_rfl); clear hd; refine wpOpIn_step rfl (fun K' hK => ?_); go_simp
                first | exact hK _ _ hk | exact ⟨fun _ _ => trivial, hK _ _ hk⟩ | exact ⟨trivial, hK _ _ hk⟩
              · have e27 := hd 3 (by omega) (by kernel_rfl); clear hd; refine wpOpIn_step rfl (fun K' hK => ?_); go_simp
                first | exact hK _ _ hk | exact ⟨fun _ _ => trivial, hK _ _ hk⟩ | exact ⟨trivial, hK _ _ hk⟩
              · have e27 := hd 3 (by omega) (by kernel_rfl); clear hd; refine wpOpIn_step rfl (fun K' hK => ?_); go_simp
                first | exact hK _ _ hk | exact ⟨fun _ _ => trivial, hK _ _ hk⟩ | exact ⟨trivial, hK _ _ hk⟩
              · have e28 := hd 4 (by omega) (by kernel_rfl); have e29 := hd 5 (by omega) (by kernel_rfl); have e27 := hd 3 (by omega) (by kernel_rfl); clear hd; refine wpOpIn_step rfl (fun K' hK => ?_); go_simp
                first | exact hK _ _ hk | exact ⟨fun _ _ => trivial, hK _ _ hk⟩ | exact ⟨trivial, hK _ _ hk⟩
              · have e30 := hd 6 (by omega) (by kernel_rfl); have e27 := hd 3 (by omega) (by kernel_rfl); clear hd; refine wpOpIn_step rfl (fun K' hK => ?_); go_simp
                first | exact hK _ _ hk | exact ⟨fun _ _ => trivial, hK _ _ hk⟩ | exact ⟨trivial, hK _ _ hk⟩
              · have e27 := hd 3 (by omega) (by kernel_rfl); clear hd; refine wpOpIn_step rfl (fun K' hK => ?_); go_simp
                first | exact hK _ _ hk | exact ⟨fun _ _ => trivial, hK _ _ hk⟩ | exact ⟨trivial, hK _ _ hk⟩
              · have e31 := hd 7 (by omega) (by kernel_rfl); have e32 := hd 8 (by omega) (by kernel_rfl); have e27 := hd 3 (by omega) (by kernel_rfl); clear hd; refine wpOpIn_step rfl (fun K' hK => ?_); go_simp
                first | exact hK _ _ hk | exact ⟨fun _ _ => trivial, hK _ _ hk⟩ | exact ⟨trivial, hK _ _ hk⟩
              · have e33 := hd 9 (by omega) (by kernel_rfl); have e27 := hd 3 (by omega) (by kernel_rfl); clear hd; refine wpOpIn_step rfl (fun K' hK => ?_); go_simp
                first | exact hK _ _ hk | exact ⟨fun _ _ => trivial, hK _ _ hk⟩ | exact ⟨trivial, hK _ _ hk⟩
              · have e27 := hd 3 (by omega) (by kernel_rfl); clear hd; refine wpOpIn_step rfl (fun K' hK => ?_); go_simp
                first | exact hK _ _ hk | exact ⟨fun _ _ => trivial, hK _ _ hk⟩ | exact ⟨trivial, hK _ _ hk⟩
              · have e27 := hd 3 (by omega) (by kernel_rfl); clear hd; refine wpOpIn_step rfl (fun K' hK => ?_); go_simp
                first | exact hK _ _ hk | exact ⟨fun _ _ => trivial, hK _ _ hk⟩ | exact ⟨trivial, hK _ _ hk⟩
              · have e34 := hd 10 (by omega) (by kernel_rfl); have e35 := hd 11 (by omega) (by kernel_rfl); have e36 := hd 12 (by omega) (by kernel_rfl); have e27 := hd 3 (by omega) (by kernel_rfl); clear hd; refine wpOpIn_step rfl (fun K' hK => ?_); go_simp
                first | exact hK _ _ hk | exact ⟨fun _ _ => trivial, hK _ _ hk⟩ | exact ⟨trivial, hK _ _ hk⟩
              · have e27 := hd 3 (by omega) (by kernel_rfl); have e37 := hd 13 (by omega) (by kernel_rfl); clear hd; refine wpOpIn_step rfl (fun K' hK => ?_); go_simp
                first | exact hK _ _ hk | exact ⟨fun _ _ => trivial, hK _ _ hk⟩ | exact ⟨trivial, hK _ _ hk⟩
              · have e38 := hd 14 (by omega) (by kernel_rfl); clear hd; refine wpOpIn_step rfl (fun K' hK => ?_); go_simp
                first | exact hK _ _ hk | exact ⟨fun _ _ => trivial, hK _ _ hk⟩ | exact ⟨trivial, hK _ _ hk⟩
              · have e39 := hd 15 (by omega) (by kernel_rfl); clear hd; refine wpOpIn_step rfl (fun K' hK => ?_); go_simp
                first | exact hK _ _ hk | exact ⟨fun _ _ => trivial, hK _ _ hk⟩ | exact ⟨trivial, hK _ _ hk⟩
              · have e39 := hd 15 (by omega) (by kernel_rfl); clear hd; refine wpOpIn_step rfl (fun K' hK => ?_); go_simp
                first | exact hK _ _ hk | exact ⟨fun _ _ => trivial, hK _ _ hk⟩ | exact ⟨trivial, hK _ _ hk⟩
              · have e39 := hd 15 (by omega) (by kernel_rfl); clear hd; refine wpOpIn_step rfl (fun K' hK => ?_); go_simp
                first | exact hK _ _ hk | exact ⟨fun _ _ => trivial, hK _ _ hk⟩ | exact ⟨trivial, hK _ _ hk⟩
              · have e39 := hd 15 (by omega) (by kernel_rfl); clear hd; refine wpOpIn_step rfl (fun K' hK => ?_); go_simp
                first | exact hK _ _ hk | exact ⟨fun _ _ => trivial, hK _ _ hk⟩ | exact ⟨trivial, hK _ _ hk⟩
              · have e39 := hd 15 (by omega) (by kernel_rfl); clear hd; refine wpOpIn_step rfl (fun K' hK => ?_); go_simp
                first | exact hK _ _ hk | exact ⟨fun _ _ => trivial, hK _ _ hk⟩ | exact ⟨trivial, hK _ _ hk⟩
              · have e41 := hd 17 (by omega) (by kernel_rfl); have e42 := hd 18 (by omega) (by kernel_rfl); have e43 := hd 19 (by omega) (by kernel_rfl); have e44 := hd 20 (by omega) (by kernel_rfl); have e39 := hd 15 (by omega) (by kernel_rfl); clear hd; refine wpOpIn_step rfl (fun K' hK => ?_); go_simp
                first | exact hK _ _ hk | exact ⟨fun _ _ => trivial, hK _ _ hk⟩ | exact ⟨trivial, hK _ _ hk⟩
              · have e40 := hd 16 (by omega) (by kernel_rfl); have e45 := hd 21 (by omega) (by kernel_rfl); have e39 := hd 15 (by omega) (by kernel_rfl); clear hd; refine wpOpIn_step rfl (fun K' hK => ?_); go_simp
                first | exact hK _ _ hk | exact ⟨fun _ _ => trivial, hK _ _ hk⟩ | exact ⟨trivial, hK _ _ hk⟩
              · have e46 := hd 22 (by omega) (by kernel_rfl); have e39 := hd 15 (by omega) (by kernel_rfl); clear hd; refine wpOpIn_step rfl (fun K' hK => ?_); go_simp
                first | exact hK _ _ hk | exact ⟨fun _ _ => trivial, hK _ _ hk⟩ | exact ⟨trivial, hK _ _ hk⟩
            · generalize (wr.alloc (.cells #[.int .i8 b.k, .int .i64 b.d, .int .i8 b.m.k, .int .i64 b.m.f, .int .i64 b.m.n, .int .i64 b.m.s, .string b.m.t, .int .i64 b.m.e, .int .i64 b.t] 38)).drew = wx at *
              simp only [headAct, List.range_succ, List.range_zero, List.nil_append, List.cons_append, List.foldl_cons, List.foldl_nil]
              refine wpAnyIn_ready (rs := [24]) (by kernel_rfl) (by simp) ?_; refine AllReadyIn.cons rfl (fun K hK => ?_) AllReadyIn.nil; go_simp
              refine hK _ _ ?_; clear hK K
              refine wpAnyIn_done (by kernel_rfl) ?_ _
              gi_wp2
              have HM : Hid (mOne du o q i q b j = []) := Lib.hid (by simp [mOne])
              go_roundw
              case rel => exact ⟨j + 1, by omega, by go_num, by rw [mRow_succ HB.out, HM.out, List.append_nil]; exact HJx.out, HNXx.out⟩
              case measure => simp [intOf]; omega
          · have hqp' : ((q : Int) != (p : Int)) = true := by simp; omega
            have hpl : p < rows.length := (List.getElem?_eq_some_iff.1 HP.out).1
            have hpi : (p : Int) < (nr : Int) := by have := HN.out; omega
            have hp0 : (0 : Int) ≤ (p : Int) := by omega
            have hil : (i : Int) < (rp.length : Int) := by have := (List.getElem?_eq_some_iff.1 HI.out).1; omega
            have hi0 : (0 : Int) ≤ (i : Int) := by omega
            obtain ⟨_, _, ap, cp, he, hbr', cr0, hro⟩ := HR.out.at HP.out
            cases he
            obtain ⟨bp, op, rfl, hbp, -⟩ := hro.at HI.out
            have hrun2 := runOf (hro.below HWx.out) HI.out
            have crp := (HWx.out.cell (p := ⟨br, or_ + p, none⟩) hbr').trans cr0
            clear hro cr0
            refine wpIn_region_headL (N := 13) (D := fun s => 24 + s) (v := fun s => (#[.int .i64 q, .int .i64 p, .bool true, .bool true, .slice (some ⟨br, or_, none⟩) nr pr, .int .i64 p, .pointer (some ⟨br, or_ + p, none⟩), .slice (some ⟨bp, op, none⟩) rp.length cp, .int .i64 i, .pointer (some ⟨bp, op + i * 9, none⟩), .agg #[.int .i8 o.k, .int .i64 o.d, .int .i8 o.m.k, .int .i64 o.m.f, .int .i64 o.m.n, .int .i64 o.m.s, .string o.m.t, .int .i64 o.m.e, .int .i64 o.t], .agg #[.int .i8 b.k, .int .i64 b.d, .int .i8 b.m.k, .int .i64 b.m.f, .int .i64 b.m.n, .int .i64 b.m.s, .string b.m.t, .int .i64 b.m.e, .int .i64 b.t], .slice ad nd pd] : Array Value).getD s undef)
              (by kernel_rfl) (by kernel_rfl) (by kernel_rfl) (by kernel_rfl) (by simp) (by simp; omega) (by intro i j _ _ h; (try dsimp only at h); omega) ?_ ?_
            · intro s hs a K ho hd hk
              generalize (wr.alloc (.cells #[.int .i8 b.k, .int .i64 b.d, .int .i8 b.m.k, .int .i64 b.m.f, .int .i64 b.m.n, .int .i64 b.m.s, .string b.m.t, .int .i64 b.m.e, .int .i64 b.t] 38)).drew = wx at k1 k2 k3 k4 k9 hrun2 crp hk ⊢
              have cc1 := cell_block k1
              have cc2 := cell_block k2
              have cc3 := cell_block k3
              have cc4 := cell_block k4
              have lN := blk_of k9
              have mN : Has wx wr.heap.size 9 := has_of k9
              have e0 := ho 0 (by intro i hi; omega)
              have e1 := ho 1 (by intro i hi; omega)
              have e2 := ho 2 (by intro i hi; omega)
              have e3 := ho 3 (by intro i hi; omega)
              have e4 := ho 4 (by intro i hi; omega)
              have e6 := ho 6 (by intro i hi; omega)
              have e8 := ho 8 (by intro i hi; omega)
              have e9 := ho 9 (by intro i hi; omega)
              clear ho
              simp only [List.getElem?_toArray, List.getElem?_cons_zero, List.getElem?_cons_succ] at e0 e1 e2 e3 e4 e6 e8 e9
              rcases (show s = 0 ∨ s = 1 ∨ s = 2 ∨ s = 3 ∨ s = 4 ∨ s = 5 ∨ s = 6 ∨ s = 7 ∨ s = 8 ∨ s = 9 ∨ s = 10 ∨ s = 11 ∨ s = 12 from by omega) with rfl | rfl | rfl | rfl | rfl | rfl | rfl | rfl | rfl | rfl | rfl | rfl | rfl
              · clear hd; refine wpOpIn_step rfl (fun K' hK => ?_); go_simp
                first | exact hK _ _ hk | exact ⟨fun _ _ => trivial, hK _ _ hk⟩ | exact ⟨trivial, hK _ _ hk⟩
              · clear hd; refine wpOpIn_step rfl (fun K' hK => ?_); go_simp
                first | exact hK _ _ hk | exact ⟨fun _ _ => trivial, hK _ _ hk⟩ | exact ⟨trivial, hK _ _ hk⟩
              · have e24 := hd 0 (by omega) (by kernel_rfl); have e25 := hd 1 (by omega) (by kernel_rfl); clear hd; refine wpOpIn_step rfl (fun K' hK => ?_); go_simp
                first | exact hK _ _ hk | exact ⟨fun _ _ => trivial, hK _ _ hk⟩ | exact ⟨trivial, hK _ _ hk⟩
              · have e26 := hd 2 (by omega) (by kernel_rfl); clear hd; refine wpOpIn_step rfl (fun K' hK => ?_); go_simp
                first | exact hK _ _ hk | exact ⟨fun _ _ => trivial, hK _ _ hk⟩ | exact ⟨trivial, hK _ _ hk⟩
              · have e27 := hd 3 (by omega) (by kernel_rfl); clear hd; refine wpOpIn_step rfl (fun K' hK => ?_); go_simp
                first | exact hK _ _ hk | exact ⟨fun _ _ => trivial, hK _ _ hk⟩ | exact ⟨trivial, hK _ _ hk⟩
              · have e27 := hd 3 (by omega) (by kernel_rfl); clear hd; refine wpOpIn_step rfl (fun K' hK => ?_); go_simp
                first | exact hK _ _ hk | exact ⟨fun _ _ => trivial, hK _ _ hk⟩ | exact ⟨trivial, hK _ _ hk⟩
              · have e28 := hd 4 (by omega) (by kernel_rfl); have e29 := hd 5 (by omega) (by kernel_rfl); have e27 := hd 3 (by omega) (by kernel_rfl); clear hd; refine wpOpIn_step rfl (fun K' hK => ?_); go_simp
                first | exact hK _ _ hk | exact ⟨fun _ _ => trivial, hK _ _ hk⟩ | exact ⟨trivial, hK _ _ hk⟩
              · have e30 := hd 6 (by omega) (by kernel_rfl); have e27 := hd 3 (by omega) (by kernel_rfl); clear hd; refine wpOpIn_step rfl (fun K' hK => ?_); go_simp
                first | exact hK _ _ hk | exact ⟨fun _ _ => trivial, hK _ _ hk⟩ | exact ⟨trivial, hK _ _ hk⟩
              · have e27 := hd 3 (by omega) (by kernel_rfl); clear hd; refine wpOpIn_step rfl (fun K' hK => ?_); go_simp
                first | exact hK _ _ hk | exact ⟨fun _ _ => trivial, hK _ _ hk⟩ | exact ⟨trivial, hK _ _ hk⟩
              · have e31 := hd 7 (by omega) (by kernel_rfl); have e32 := hd 8 (by omega) (by kernel_rfl); have e27 := hd 3 (by omega) (by kernel_rfl); clear hd; refine wpOpIn_step rfl (fun K' hK => ?_); go_simp
                first | exact hK _ _ hk | exact ⟨fun _ _ => trivial, hK _ _ hk⟩ | exact ⟨trivial, hK _ _ hk⟩
              · have e33 := hd 9 (by omega) (by kernel_rfl); have e27 := hd 3 (by omega) (by kernel_rfl); clear hd; refine wpOpIn_step rfl (fun K' hK => ?_); go_simp
                first | exact hK _ _ hk | exact ⟨fun _ _ => trivial, hK _ _ hk⟩ | exact ⟨trivial, hK _ _ hk⟩
              · have e27 := hd 3 (by omega) (by kernel_rfl); clear hd; refine wpOpIn_step rfl (fun K' hK => ?_); go_simp
                first | exact hK _ _ hk | exact ⟨fun _ _ => trivial, hK _ _ hk⟩ | exact ⟨trivial, hK _ _ hk⟩
              · have e27 := hd 3 (by omega) (by kernel_rfl); clear hd; refine wpOpIn_step rfl (fun K' hK => ?_); go_simp
                first | exact hK _ _ hk | exact ⟨fun _ _ => trivial, hK _ _ hk⟩ | exact ⟨trivial, hK _ _ hk⟩
            · generalize (wr.alloc (.cells #[.int .i8 b.k, .int .i64 b.d, .int .i8 b.m.k, .int .i64 b.m.f, .int .i64 b.m.n, .int .i64 b.m.s, .string b.m.t, .int .i64 b.m.e, .int .i64 b.t] 38)).drew = wx at *
              simp only [headAct, List.range_succ, List.range_zero, List.nil_append, List.cons_append, List.foldl_cons, List.foldl_nil]
              refine wpAnyIn_ready (rs := [13]) (by kernel_rfl) (by simp) ?_; refine AllReadyIn.cons rfl (fun K hK => ?_) AllReadyIn.nil; go_simp
              refine ⟨trivial, callsIn_wide.2 ((meet28 ad nd pd du o b _ (HU.out.below HWx.out)).mono ?_)⟩
              rintro e w3 ⟨rfl, hb3⟩
              have HJ3 := Lib.hid (hJ _ _ _ none HJx.out (below_grown hb3) (fun r e => by cases e))
              have HNX3 := Lib.hid (HNXx.out.more HWx.out.size hb3)
              have cc2 := cell_block (block_keep' hb3 k2)
              have cc3 := cell_block (block_keep' hb3 k3)
              clear hb3 k1 k2 k3 k4 k9 hrun2 crp hrun
              refine hK _ _ ?_; clear hK K
              cases hm : meetB du o b
              · have HM : Hid (mOne du o p i q b j = []) := Lib.hid (by simp [mOne, hm])
                clear hm
                refine wpAnyIn_ready (rs := [14]) (by kernel_rfl) (by simp) ?_; refine AllReadyIn.cons rfl (fun K hK => ?_) AllReadyIn.nil; go_simp
                refine hK _ _ ?_; clear hK K
                refine wpAnyIn_ready (rs := [15]) (by kernel_rfl) (by simp) ?_; refine AllReadyIn.cons rfl (fun K hK => ?_) AllReadyIn.nil; go_simp
                refine hK _ _ ?_; clear hK K
                refine wpAnyIn_mid (M := 16) (N := 24) (D := fun s => 24 + s) (v := fun s => (#[.int .i64 q, .int .i64 p, .bool true, .bool true, .slice (some ⟨br, or_, none⟩) nr pr, .int .i64 p, .pointer (some ⟨br, or_ + p, none⟩), .slice (some ⟨bp, op, none⟩) rp.length cp, .int .i64 i, .pointer (some ⟨bp, op + i * 9, none⟩), .agg #[.int .i8 o.k, .int .i64 o.d, .int .i8 o.m.k, .int .i64 o.m.f, .int .i64 o.m.n, .int .i64 o.m.s, .string o.m.t, .int .i64 o.m.e, .int .i64 o.t], .agg #[.int .i8 b.k, .int .i64 b.d, .int .i8 b.m.k, .int .i64 b.m.f, .int .i64 b.m.n, .int .i64 b.m.s, .string b.m.t, .int .i64 b.m.e, .int .i64 b.t], .slice ad nd pd, .bool false, .bool false, .bool false, undef, undef, undef, undef, undef, undef, undef, undef] : Array Value).getD s undef)
                  (by kernel_rfl) (by kernel_rfl) (by omega) (by kernel_rfl) (by kernel_rfl) (by kernel_rfl) (by simp) (by simp; omega) (by intro i j _ _ h; (try dsimp only at h); omega) ?_ ?_ ?_
                · intro s hs
                  rcases (show s = 0 ∨ s = 1 ∨ s = 2 ∨ s = 3 ∨ s = 4 ∨ s = 5 ∨ s = 6 ∨ s = 7 ∨ s = 8 ∨ s = 9 ∨ s = 10 ∨ s = 11 ∨ s = 12 ∨ s = 13 ∨ s = 14 ∨ s = 15 from by omega) with rfl | rfl | rfl | rfl | rfl | rfl | rfl | rfl | rfl | rfl | rfl | rfl | rfl | rfl | rfl | rfl
                  all_goals rfl
                · intro s hi hs a K ho hd hk
                  have e0 := ho 0 (by intro i hi; omega)
                  have e1 := ho 1 (by intro i hi; omega)
                  have e2 := ho 2 (by intro i hi; omega)
                  have e3 := ho 3 (by intro i hi; omega)
                  have e4 := ho 4 (by intro i hi; omega)
                  have e6 := ho 6 (by intro i hi; omega)
                  have e8 := ho 8 (by intro i hi; omega)
                  have e9 := ho 9 (by intro i hi; omega)
                  clear ho
                  simp only [List.getElem?_toArray, List.getElem?_cons_zero, List.getElem?_cons_succ] at e0 e1 e2 e3 e4 e6 e8 e9
                  rcases (show s = 16 ∨ s = 17 ∨ s = 18 ∨ s = 19 ∨ s = 20 ∨ s = 21 ∨ s = 22 ∨ s = 23 from by omega) with rfl | rfl | rfl | rfl | rfl | rfl | rfl | rfl
                  · have e39 := hd 15 (by omega) (by kernel_rfl); clear hd; refine wpOpIn_step rfl (fun K' hK => ?_); go_simp
                    first | exact hK _ _ hk | exact ⟨fun _ _ => trivial, hK _ _ hk⟩ | exact ⟨trivial, hK _ _ hk⟩
                  · have e39 := hd 15 (by omega) (by kernel_rfl); clear hd; refine wpOpIn_step rfl (fun K' hK => ?_); go_simp
                    first | exact hK _ _ hk | exact ⟨fun _ _ => trivial, hK _ _ hk⟩ | exact ⟨trivial, hK _ _ hk⟩
                  · have e39 := hd 15 (by omega) (by kernel_rfl); clear hd; refine wpOpIn_step rfl (fun K' hK => ?_); go_simp
                    first | exact hK _ _ hk | exact ⟨fun _ _ => trivial, hK _ _ hk⟩ | exact ⟨trivial, hK _ _ hk⟩
                  · have e39 := hd 15 (by omega) (by kernel_rfl); clear hd; refine wpOpIn_step rfl (fun K' hK => ?_); go_simp
                    first | exact hK _ _ hk | exact ⟨fun _ _ => trivial, hK _ _ hk⟩ | exact ⟨trivial, hK _ _ hk⟩
                  · have e39 := hd 15 (by omega) (by kernel_rfl); clear hd; refine wpOpIn_step rfl (fun K' hK => ?_); go_simp
                    first | exact hK _ _ hk | exact ⟨fun _ _ => trivial, hK _ _ hk⟩ | exact ⟨trivial, hK _ _ hk⟩
                  · have e41 := hd 17 (by omega) (by kernel_rfl); have e42 := hd 18 (by omega) (by kernel_rfl); have e43 := hd 19 (by omega) (by kernel_rfl); have e44 := hd 20 (by omega) (by kernel_rfl); have e39 := hd 15 (by omega) (by kernel_rfl); clear hd; refine wpOpIn_step rfl (fun K' hK => ?_); go_simp
                    first | exact hK _ _ hk | exact ⟨fun _ _ => trivial, hK _ _ hk⟩ | exact ⟨trivial, hK _ _ hk⟩
                  · have e40 := hd 16 (by omega) (by kernel_rfl); have e45 := hd 21 (by omega) (by kernel_rfl); have e39 := hd 15 (by omega) (by kernel_rfl); clear hd; refine wpOpIn_step rfl (fun K' hK => ?_); go_simp
                    first | exact hK _ _ hk | exact ⟨fun _ _ => trivial, hK _ _ hk⟩ | exact ⟨trivial, hK _ _ hk⟩
                  · have e46 := hd 22 (by omega) (by kernel_rfl); have e39 := hd 15 (by omega) (by kernel_rfl); clear hd; refine wpOpIn_step rfl (fun K' hK => ?_); go_simp
                    first | exact hK _ _ hk | exact ⟨fun _ _ => trivial, hK _ _ hk⟩ | exact ⟨trivial, hK _ _ hk⟩
                · simp only [headAct, List.range_succ, List.range_zero, List.nil_append, List.cons_append, List.foldl_cons, List.foldl_nil]
                  refine wpAnyIn_ready (rs := [24]) (by kernel_rfl) (by simp) ?_; refine AllReadyIn.cons rfl (fun K hK => ?_) AllReadyIn.nil; go_simp
                  refine hK _ _ ?_; clear hK K
                  refine wpAnyIn_done (by kernel_rfl) ?_ _
                  gi_wp2
                  go_roundw
                  case rel => exact ⟨j + 1, by omega, by go_num, by rw [mRow_succ HB.out, HM.out, List.append_nil]; exact HJ3.out, HNX3.out⟩
                  case measure => simp [intOf]; omega
              · have HM : Hid (mOne du o p i q b j = [⟨p, i, q, j⟩]) := Lib.hid (by simp [mOne, hm]; omega)
                have hlen : (mAll du o p i (rows.take q) ++ mRow du o p i q (row.take j)).length < (mAll du o p i rows).length := by
                  have := mAll_lt (du := du) (o := o) (p := p) (i := i) HROW.out HB.out
                  rw [HM.out] at this
                  simp at this ⊢
                  omega
                obtain ⟨fn, tmps, assign, body, hy, hRd⟩ := hY _ ⟨p, i, q, j⟩ w3 HJ3.out hlen
                dsimp only at hy
                clear hm hlen
                refine wpAnyIn_ready (rs := [14]) (by kernel_rfl) (by simp) ?_; refine AllReadyIn.cons rfl (fun K hK => ?_) AllReadyIn.nil; go_simp
                refine hK _ _ ?_; clear hK K
                refine wpAnyIn_ready (rs := [15]) (by kernel_rfl) (by simp) ?_; refine AllReadyIn.cons rfl (fun K hK => ?_) AllReadyIn.nil; go_simp
                refine hK _ _ ?_; clear hK K
                refine wpAnyIn_mid (M := 16) (N := 22) (D := fun s => 24 + s) (v := fun s => (#[.int .i64 q, .int .i64 p, .bool true, .bool true, .slice (some ⟨br, or_, none⟩) nr pr, .int .i64 p, .pointer (some ⟨br, or_ + p, none⟩), .slice (some ⟨bp, op, none⟩) rp.length cp, .int .i64 i, .pointer (some ⟨bp, op + i * 9, none⟩), .agg #[.int .i8 o.k, .int .i64 o.d, .int .i8 o.m.k, .int .i64 o.m.f, .int .i64 o.m.n, .int .i64 o.m.s, .string o.m.t, .int .i64 o.m.e, .int .i64 o.t], .agg #[.int .i8 b.k, .int .i64 b.d, .int .i8 b.m.k, .int .i64 b.m.f, .int .i64 b.m.n, .int .i64 b.m.s, .string b.m.t, .int .i64 b.m.e, .int .i64 b.t], .slice ad nd pd, .bool true, .bool true, .bool true, .func (.yield lp) #[] #[], .int .i64 p, .int .i64 i, .int .i64 q, .int .i64 j, .agg #[.int .i64 p, .int .i64 i, .int .i64 q, .int .i64 j]] : Array Value).getD s undef)
                  (by kernel_rfl) (by kernel_rfl) (by omega) (by kernel_rfl) (by kernel_rfl) (by kernel_rfl) (by simp) (by simp; omega) (by intro i j _ _ h; (try dsimp only at h); omega) ?_ ?_ ?_
                · intro s hs
                  rcases (show s = 0 ∨ s = 1 ∨ s = 2 ∨ s = 3 ∨ s = 4 ∨ s = 5 ∨ s = 6 ∨ s = 7 ∨ s = 8 ∨ s = 9 ∨ s = 10 ∨ s = 11 ∨ s = 12 ∨ s = 13 ∨ s = 14 ∨ s = 15 from by omega) with rfl | rfl | rfl | rfl | rfl | rfl | rfl | rfl | rfl | rfl | rfl | rfl | rfl | rfl | rfl | rfl
                  all_goals rfl
                · intro s hi hs a K ho hd hk
                  have e0 := ho 0 (by intro i hi; omega)
                  have e1 := ho 1 (by intro i hi; omega)
                  have e2 := ho 2 (by intro i hi; omega)
                  have e3 := ho 3 (by intro i hi; omega)
                  have e4 := ho 4 (by intro i hi; omega)
                  have e6 := ho 6 (by intro i hi; omega)
                  have e8 := ho 8 (by intro i hi; omega)
                  have e9 := ho 9 (by intro i hi; omega)
                  clear ho
                  simp only [List.getElem?_toArray, List.getElem?_cons_zero, List.getElem?_cons_succ] at e0 e1 e2 e3 e4 e6 e8 e9
                  rcases (show s = 16 ∨ s = 17 ∨ s = 18 ∨ s = 19 ∨ s = 20 ∨ s = 21 from by omega) with rfl | rfl | rfl | rfl | rfl | rfl
                  · have e39 := hd 15 (by omega) (by kernel_rfl); clear hd; refine wpOpIn_step rfl (fun K' hK => ?_); go_simp
                    first | exact hK _ _ hk | exact ⟨fun _ _ => trivial, hK _ _ hk⟩ | exact ⟨trivial, hK _ _ hk⟩
                  · have e39 := hd 15 (by omega) (by kernel_rfl); clear hd; refine wpOpIn_step rfl (fun K' hK => ?_); go_simp
                    first | exact hK _ _ hk | exact ⟨fun _ _ => trivial, hK _ _ hk⟩ | exact ⟨trivial, hK _ _ hk⟩
                  · have e39 := hd 15 (by omega) (by kernel_rfl); clear hd; refine wpOpIn_step rfl (fun K' hK => ?_); go_simp
                    first | exact hK _ _ hk | exact ⟨fun _ _ => trivial, hK _ _ hk⟩ | exact ⟨trivial, hK _ _ hk⟩
                  · have e39 := hd 15 (by omega) (by kernel_rfl); clear hd; refine wpOpIn_step rfl (fun K' hK => ?_); go_simp
                    first | exact hK _ _ hk | exact ⟨fun _ _ => trivial, hK _ _ hk⟩ | exact ⟨trivial, hK _ _ hk⟩
                  · have e39 := hd 15 (by omega) (by kernel_rfl); clear hd; refine wpOpIn_step rfl (fun K' hK => ?_); go_simp
                    first | exact hK _ _ hk | exact ⟨fun _ _ => trivial, hK _ _ hk⟩ | exact ⟨trivial, hK _ _ hk⟩
                  · have e41 := hd 17 (by omega) (by kernel_rfl); have e42 := hd 18 (by omega) (by kernel_rfl); have e43 := hd 19 (by omega) (by kernel_rfl); have e44 := hd 20 (by omega) (by kernel_rfl); have e39 := hd 15 (by omega) (by kernel_rfl); clear hd; refine wpOpIn_step rfl (fun K' hK => ?_); go_simp
                    first | exact hK _ _ hk | exact ⟨fun _ _ => trivial, hK _ _ hk⟩ | exact ⟨trivial, hK _ _ hk⟩
                · simp only [headAct, List.range_succ, List.range_zero, List.nil_append, List.cons_append, List.foldl_cons, List.foldl_nil]
                  refine wpAnyIn_ready (rs := [22]) (by kernel_rfl) (by simp) ?_; refine AllReadyIn.cons rfl (fun K hK => ?_) AllReadyIn.nil; go_simp
                  refine hRd.mono ?_
                  rintro e w4 (⟨rfl, hJ4, hk4⟩ | ⟨rfl, hJx4⟩)
                  · refine hK _ _ ?_; clear hK K
                    refine wpAnyIn_ready (rs := [23]) (by kernel_rfl) (by simp) ?_; refine AllReadyIn.cons rfl (fun K hK => ?_) AllReadyIn.nil; go_simp
                    refine hK _ _ ?_; clear hK K
                    refine wpAnyIn_ready (rs := [24]) (by kernel_rfl) (by simp) ?_; refine AllReadyIn.cons rfl (fun K hK => ?_) AllReadyIn.nil; go_simp
                    refine hK _ _ ?_; clear hK K
                    refine wpAnyIn_done (by kernel_rfl) ?_ _
                    gi_wp2
                    go_roundw
                    case rel => exact ⟨j + 1, by omega, by go_num, by rw [mRow_succ HB.out, HM.out, ← List.append_assoc]; exact hJ4, HNX3.out.trans hk4⟩
                    case measure => simp [intOf]; omega
                  · refine hK _ _ ?_; clear hK K
                    refine wpAnyIn_ready (rs := [23]) (by kernel_rfl) (by simp) ?_; refine AllReadyIn.cons rfl (fun K hK => ?_) AllReadyIn.nil; go_simp
                    refine hK _ _ ?_; clear hK K
                    refine wpAnyIn_ready (rs := [24]) (by kernel_rfl) (by simp) ?_; refine AllReadyIn.cons rfl (fun K hK => ?_) AllReadyIn.nil; go_simp
                    refine hK _ _ ?_; clear hK K
                    refine wpAnyIn_done (by kernel_rfl) ?_ _
                    gi_wp2
                    refine bodyPost_ret (results_none rfl _ _ _) rfl ?_
                    exact ⟨⟨_, rfl⟩, .inr ⟨_, hJx4⟩⟩
        · have hjl : j = row.length := by omega
          have hji : ¬ (j : Int) < (row.length : Int) := by omega
          have HJ2 : Hid (J (mAll du o p i (rows.take (q + 1))) wr) := Lib.hid (by rw [mAll_succ HROW.out]; have := HJ1.out; rw [hjl, List.take_length] at this; exact this)
          clear hjl
          gi_wp2
          go_roundw
          case rel => exact ⟨q + 1, by omega, by go_num, HJ2.out, HNX1.out⟩
          case measure => simp [intOf]; omega
    · have hqn : q = rows.length := by have := HN.out; omega
      have hqi : ¬ (q : Int) < (nr : Int) := by omega
      have HJ2 : Hid (J (mAll du o p i rows) wr) := Lib.hid (by have := HJ0.out; rw [hqn, List.take_length] at this; exact this)
      clear hqn
      gi_wp2
      go_end0
      exact ⟨⟨_, rfl⟩, .inl HJ2.out⟩
end Go.Proofs.Ytcdmhldhhjolpaa
