
/- Walks of the seat of chapter 07: the iterators' makers; marks. -/
import Derived.Test.YtcdmhldhhjolpaaO7
namespace Go.Proofs.Ytcdmhldhhjolpaa
open Go.RowKit
attribute [local go_sem ↓] Go.wp_at_zero Go.wp_at_succ
attribute [local go_sem] more_size cell_more_old frozen_more_old setCell_more_old more_drew drew_more old_alloc old_more old_drew old_setCell cell_alloc_old frozen_alloc_old setCell_alloc_old
attribute [local go_sem ↓] load42 store42 load61 store61 load38 store38 load30 store30
attribute [local go_sem] run42 runs42 run61 runs61 run38 runs38 run30 runs30 blk_drew has_drew blk_drewN has_drewN old_drewN blk_alloc_old has_alloc_old blk_alloc_new has_alloc_new setBlk_size setBlk_drew old_setBlk cell_setBlk' cell_setBlk_ne frozen_setBlk blk_setBlk' blk_setBlk_ne has_setBlk' has_setBlk_ne setBlk_alloc_old setBlk_new
open Go.Shelf
attribute [local go_sem] Oper.semAt_some
attribute [local go_sem ↓] wpIn_at_zero wpIn_at_succ

theorem meets_stops (n : Nat) (hn : 1 ≤ n) (B1 B2 B3 B4 : Nat) (ar ad : Option Addr) (nr pr nd pd p i : Nat) (rows : List (List Ofr)) (du : List Du) (rp : List Ofr) (o : Ofr) (w0 w : World)
    (hR : RdRR w0 (.slice ar nr pr) rows) (hU : RdU w0 (.slice ad nd pd) du) (hp : rows[p]? = some rp) (hi : rp[i]? = some o) (hr1 : rows.length ≤ 1000) (hr2 : ∀ r ∈ rows, r.length ≤ 1000)
    (hw : Below w0.heap.size w0 w) (h1 : w.heap[B1]? = some (.cells #[.slice ar nr pr] 22)) (h2 : w.heap[B2]? = some (.cells #[.int .i64 p] 3)) (h3 : w.heap[B3]? = some (.cells #[.int .i64 i] 3)) (h4 : w.heap[B4]? = some (.cells #[.slice ad nd pd] 23)) :
    SeqStopsK Fence.wide n Try.prog 27 #[.pointer (some ⟨B1, 0, none⟩), .pointer (some ⟨B2, 0, none⟩), .pointer (some ⟨B3, 0, none⟩), .pointer (some ⟨B4, 0, none⟩)] (fun x : Mt => #[.agg #[.int .i64 x.p, .int .i64 x.i, .int .i64 x.q, .int .i64 x.j]]) (KpT w0.heap.size) (fun xs => xs = mAll du o p i rows) (fun _ => True) (mAll du o p i rows).length w := by
  intro l J Jx W hW hJ _ hY h0
  refine (meets27 n hn l B1 B2 B3 B4 ar ad nr pr nd pd p i rows du rp o w0 hR hU hp hi hr1 hr2 J Jx W.heap.size hJ hY W (hw.trans (hW.mono hw.size)) (block_keep' hW h1) (block_keep' hW h2) (block_keep' hW h3) (block_keep' hW h4) h0).mono ?_
  rintro e W' ⟨hv, h | ⟨pre, h⟩⟩
  · exact ⟨hv, .inl ⟨_, rfl, h⟩⟩
  · exact ⟨hv, .inr ⟨pre, trivial, h⟩⟩
theorem meets24 (ar ad : Option Addr) (nr pr nd pd : Nat) (p i : Int) (w : World) : Calls Try.prog 24 #[.slice ar nr pr, .slice ad nd pd, .int .i64 p, .int .i64 i] w fun e w' => e = .returned (.func (.func 27) #[] #[.pointer (some ⟨w.heap.size, 0, none⟩), .pointer (some ⟨w.heap.size + 2, 0, none⟩), .pointer (some ⟨w.heap.size + 3, 0, none⟩), .pointer (some ⟨w.heap.size + 1, 0, none⟩)]) ∧
    w' = (((w.alloc (.cells #[.slice ar nr pr] 22)).alloc (.cells #[.slice ad nd pd] 23)).alloc (.cells #[.int .i64 p] 3)).alloc (.cells #[.int .i64 i] 3) := by
  go_enter Try.func24, Try.ntmps24
  go_wp2_with fail
  go_ret
  exact ⟨rfl, rfl⟩
theorem ready18 (ar ad a3 a4 : Option Addr) (nr pr nd pd n3 p3 n4 p4 : Nat) (c : Int) (w : World) : Calls Try.prog 18 #[.slice ar nr pr, .slice ad nd pd, .int .i64 c, .slice a3 n3 p3, .slice a4 n4 p4] w fun e w' => e = .returned (.func (.func 22) #[] #[.pointer (some ⟨w.heap.size, 0, none⟩), .pointer (some ⟨w.heap.size + 1, 0, none⟩), .pointer (some ⟨w.heap.size + 2, 0, none⟩), .pointer (some ⟨w.heap.size + 3, 0, none⟩), .pointer (some ⟨w.heap.size + 4, 0, none⟩)]) ∧
    w' = ((((w.alloc (.cells #[.slice ar nr pr] 22)).alloc (.cells #[.slice ad nd pd] 23)).alloc (.cells #[.int .i64 c] 3)).alloc (.cells #[.slice a3 n3 p3] 24)).alloc (.cells #[.slice a4 n4 p4] 24) := by
  go_enter Try.func18, Try.ntmps18
  go_wp2_with fail
  go_ret
  exact ⟨rfl, rfl⟩
/-- Marks of loops that are over. -/
def Marks (B : Nat) (ds : List Deferred) (W : World) : Prop :=
  ∃ Ds : List Nat, ds = Ds.map (fun D => ({ target := .collected D, args := #[] } : Deferred)) ∧ Ds.Nodup ∧ ∀ D ∈ Ds, B ≤ D ∧ W.heap[D]? = some (.deferred (some []))
theorem Marks.nil (B : Nat) (W : World) : Marks B [] W := ⟨[], rfl, List.nodup_nil, fun _ h => by cases h⟩
theorem Marks.keep {B : Nat} {ds : List Deferred} {W W' : World} (h : Marks B ds W) (hk : KeepsFrom B W W') : Marks B ds W' := by
  obtain ⟨Ds, h1, h2, h3⟩ := h
  exact ⟨Ds, h1, h2, fun D hD => ⟨(h3 D hD).1, hk.same D _ (h3 D hD).1 (h3 D hD).2 rfl⟩⟩
theorem Marks.cons {B D : Nat} {ds : List Deferred} {W W' : World} (h : Marks B ds W) (hk : KeepsFrom B W W') (hD : B ≤ D) (hn : W.heap.size ≤ D) (hd : W'.heap[D]? = some (.deferred (some []))) : Marks B ({ target := .collected D, args := #[] } :: ds) W' := by
  obtain ⟨Ds, h1, h2, h3⟩ := h
  refine ⟨D :: Ds, by rw [h1]; rfl, List.nodup_cons.2 ⟨fun hm => ?_, h2⟩, fun D' hD' => ?_⟩
  · have := (Array.getElem?_eq_some_iff.1 (h3 D hm).2).1
    omega
  · rcases List.mem_cons.1 hD' with rfl | hm
    · exact ⟨hD, hd⟩
    · exact ⟨(h3 D' hm).1, hk.same D' _ (h3 D' hm).1 (h3 D' hm).2 rfl⟩
theorem leaves_marks {n B : Nat} {P : Program} {fn : Func} {tmps : Array Value} {R : Ending → World → Prop} {I : World → Prop} (hI : OwnFrom B (fun (_ : Unit) W => I W))
    (hR : ∀ W, I W → LeavesIn Fence.wide n P fn tmps R [] .returning W) : ∀ (Ds : List Nat) (W : World), Ds.Nodup → (∀ D ∈ Ds, B ≤ D ∧ W.heap[D]? = some (.deferred (some []))) → I W →
      LeavesInM Fence.wide n P fn tmps R (Ds.map (fun D => ({ target := .collected D, args := #[] } : Deferred))) .returning W := by
  intro Ds
  induction Ds with
  | nil => intro W _ _ h; exact hR W h
  | cons D Ds ih =>
    intro W hnd hD h
    have h1 := hD D (List.mem_cons_self ..)
    rw [List.nodup_cons] at hnd
    refine ⟨by simp, .inl ⟨D, _, rfl, run_takeDeferred h1.2, ih _ hnd.2 (fun D' hD' => ?_) (hI.putObj (s := ()) _ h h1.1 h1.2 rfl)⟩⟩
    have hne : D' ≠ D := fun e => hnd.1 (e ▸ hD')
    have h2 := hD D' (List.mem_cons_of_mem _ hD')
    exact ⟨h2.1, (World.putObj_heap_other hne).trans h2.2⟩
end Go.Proofs.Ytcdmhldhhjolpaa
