
/- Walks of the seat of chapter 06: the document's example. -/
import Derived.Test.YtmggibmpljoacaaG5
import Derived.Deep.DeepCutAuto
import Derived.Deep.RegionHeld3
namespace Go.Proofs.Ytmggibmpljoacaa
open Go.RowKit
attribute [local go_sem ↓] Go.wp_at_zero Go.wp_at_succ
attribute [local go_sem] more_size cell_more_old frozen_more_old setCell_more_old more_drew drew_more old_alloc old_more old_drew old_setCell cell_alloc_old frozen_alloc_old setCell_alloc_old
attribute [local go_sem ↓] load25 store25
attribute [local go_sem] run25 runs25 blk_drew has_drew blk_drewN has_drewN old_drewN blk_alloc_old has_alloc_old blk_alloc_new has_alloc_new setBlk_size setBlk_drew old_setBlk cell_setBlk' cell_setBlk_ne frozen_setBlk blk_setBlk' blk_setBlk_ne has_setBlk' has_setBlk_ne setBlk_alloc_old setBlk_new

theorem index26_two (c c' : Int) (a a' : Option Addr) (n n' p p' : Nat) (B : Nat) (T : TypeId) (w : World) (h : w.heap[B]? = some (.cells #[.int .i64 c, .slice a n p, .bool true, .int .i64 c', .slice a' n' p', .bool false] T)) :
    Calls Try.prog 26 #[.slice (some ⟨B, 0, none⟩) 2 2, .func (.func 23) #[] #[]] w fun r w' => r = .returned (.int .i64 1) ∧ Below w.heap.size w w' := by
  have HK := Lib.hid h
  have h0 : (loadS 25 (.pointer (some ⟨B, 0, none⟩))).run Try.prog w = .ok (.agg #[.int .i64 c, .slice a n p, .bool true]) w := run_loadAt_mid (P := Try.prog) w B 0 25 [.int .i64 c, .slice a n p, .bool true] _ (fun j v hv => by rw [Nat.zero_add, cell_block h]; match j, hv with | 0, hv => exact hv | 1, hv => exact hv | 2, hv => exact hv) Try.underlying25 rfl (by kernel_rfl)
  clear h
  go_enter Try.func26, Try.ntmps26
  go_wp2_with fail
  refine wp_loop_rounds 2 ?_
  rw [rounds_succ]
  go_wp2_with fail
  refine (cut23 c a n p true _).mono ?_
  rintro r w1 ⟨rfl, hb⟩
  have h1 : (loadS 25 (.pointer (some ⟨B, 3, none⟩))).run Try.prog w1 = .ok (.agg #[.int .i64 c', .slice a' n' p', .bool false]) w1 := run_loadAt_mid (P := Try.prog) w1 B 3 25 [.int .i64 c', .slice a' n' p', .bool false] _ (fun j v hv => by rw [cell_block (block_keep' hb HK.out)]; match j, hv with | 0, hv => exact hv | 1, hv => exact hv | 2, hv => exact hv) Try.underlying25 rfl (by kernel_rfl)
  have HB := Lib.hid hb
  clear hb h0
  go_wp2_with fail
  rw [rounds_succ]
  go_wp2_with fail
  refine (cut23 c' a' n' p' false _).mono ?_
  rintro r w2 ⟨rfl, hb⟩
  go_wp2_with fail
  go_ret
  exact ⟨rfl, HB.out.trans (hb.mono HB.out.size)⟩
theorem iscut14_two (c c' : Int) (a a' : Option Addr) (n n' p p' : Nat) (B : Nat) (T : TypeId) (w : World) (h : w.heap[B]? = some (.cells #[.int .i64 c, .slice a n p, .bool true, .int .i64 c', .slice a' n' p', .bool false] T)) :
    Calls Try.prog 14 #[.slice (some ⟨B, 0, none⟩) 2 2] w fun r w' => r = .returned (.bool false) ∧ Below w.heap.size w w' := by
  have h22 : ∀ w0 : World, w0.heap[B]? = some (.cells #[.int .i64 c, .slice a n p, .bool true, .int .i64 c', .slice a' n' p', .bool false] T) → Calls Try.prog 22 #[.slice (some ⟨B, 0, none⟩) 2 2, .func (.func 23) #[] #[]] w0 fun r w' => r = .returned (.bool true) ∧ Below w0.heap.size w0 w' := by
    intro w0 h
    have H := Lib.hid h
    clear h
    go_enter Try.func22, Try.ntmps22
    go_wp2_with fail
    refine (index26_two c c' a a' n n' p p' B T _ H.out).mono ?_
    rintro r w1 ⟨rfl, hb⟩
    go_wp2_with fail
    go_ret
    exact ⟨rfl, hb⟩
  have H22 := Lib.hid h22
  have HK := Lib.hid h
  clear h22 h
  go_enter Try.func14, Try.ntmps14
  go_wp2_with fail
  refine (H22.out _ HK.out).mono ?_
  rintro r w1 ⟨rfl, hb⟩
  go_wp2_with fail
  go_ret
  exact ⟨rfl, hb⟩
end Go.Proofs.Ytmggibmpljoacaa
