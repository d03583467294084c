
/- Walks of the seat of chapter 07: what 'wakes' calls. -/
import Derived.Test.YtcdmhldhhjolpaaO13
import Derived.Test.YtcdmhldhhjolpaaO15
namespace Go.Proofs.Ytcdmhldhhjolpaa
open Go.RowKit
attribute [local go_sem ↓] Go.wp_at_zero Go.wp_at_succ
attribute [local go_sem] more_size cell_more_old frozen_more_old setCell_more_old more_drew drew_more old_alloc old_more old_drew old_setCell cell_alloc_old frozen_alloc_old setCell_alloc_old
attribute [local go_sem ↓] load42 store42 load61 store61 load38 store38 load30 store30
attribute [local go_sem] run42 runs42 run61 runs61 run38 runs38 run30 runs30 blk_drew has_drew blk_drewN has_drewN old_drewN blk_alloc_old has_alloc_old blk_alloc_new has_alloc_new setBlk_size setBlk_drew old_setBlk cell_setBlk' cell_setBlk_ne frozen_setBlk blk_setBlk' blk_setBlk_ne has_setBlk' has_setBlk_ne setBlk_alloc_old setBlk_new

theorem put15 (d n : Int) (w : World) : Calls Try.prog 15 #[.int .i64 d, .int .i64 n] w fun r w' => r = .returned (.agg #[.int .i8 0, .int .i64 d, .int .i8 0, .int .i64 0, .int .i64 n, .int .i64 0, .string ⟨#[]⟩, .int .i64 0, .int .i64 0]) ∧ Below w.heap.size w w' := by
  go_enter Try.func15, Try.ntmps15
  go_wp2_with fail
  refine bodyPost_ret (v := .agg #[.int .i8 0, .int .i64 d, .int .i8 0, .int .i64 0, .int .i64 n, .int .i64 0, .string ⟨#[]⟩, .int .i64 0, .int .i64 0]) ?_ rfl ⟨rfl, by (repeat' (first | (with_reducible exact Below.refl _ _) | (with_reducible assumption) | (with_reducible refine Below.drew ?_) | (with_reducible refine Below.alloc ?_ ?_ _) | (with_reducible refine below_more ?_ ?_ _ _) | (with_reducible refine Below.setCell ?_ ?_ _) | (with_reducible refine Below.trans ?_ (Below.mono (by assumption) ?_)))) <;> first | omega | (simp; done) | (simp; omega) | (simp [more_size]; done) | (simp [more_size]; omega)⟩
  simp [results, Try.results15, go_sem]
theorem take16 (d : Int) (w : World) : Calls Try.prog 16 #[.int .i64 d] w fun r w' => r = .returned (.agg #[.int .i8 1, .int .i64 d, .int .i8 0, .int .i64 0, .int .i64 0, .int .i64 0, .string ⟨#[]⟩, .int .i64 0, .int .i64 0]) ∧ Below w.heap.size w w' := by
  go_enter Try.func16, Try.ntmps16
  go_wp2_with fail
  refine bodyPost_ret (v := .agg #[.int .i8 1, .int .i64 d, .int .i8 0, .int .i64 0, .int .i64 0, .int .i64 0, .string ⟨#[]⟩, .int .i64 0, .int .i64 0]) ?_ rfl ⟨rfl, by (repeat' (first | (with_reducible exact Below.refl _ _) | (with_reducible assumption) | (with_reducible refine Below.drew ?_) | (with_reducible refine Below.alloc ?_ ?_ _) | (with_reducible refine below_more ?_ ?_ _ _) | (with_reducible refine Below.setCell ?_ ?_ _) | (with_reducible refine Below.trans ?_ (Below.mono (by assumption) ?_)))) <;> first | omega | (simp; done) | (simp; omega) | (simp [more_size]; done) | (simp [more_size]; omega)⟩
  simp [results, Try.results16, go_sem]
theorem runMt {w : World} {b off n p : Nat} {l : List Mt} (h : RdM w (.slice (some ⟨b, off, none⟩) n p) l) {k : Nat} {x : Mt} (hk : l[k]? = some x) :
    (loadS 30 (.pointer (some ⟨b, off + k * 4, none⟩))).run Try.prog w = .ok (.agg #[.int .i64 x.p, .int .i64 x.i, .int .i64 x.q, .int .i64 x.j]) w := by
  obtain ⟨b', off', he, _, c0, c1, c2, c3⟩ := h.at hk
  cases he
  refine run_loadAt_mid (P := Try.prog) w b (off + k * 4) 30 [.int .i64 x.p, .int .i64 x.i, .int .i64 x.q, .int .i64 x.j] _ (fun j v hv => ?_) Try.underlying30 rfl (by kernel_rfl)
  match j, hv with
  | 0, hv => cases hv; exact c0
  | 1, hv => cases hv; exact c1
  | 2, hv => cases hv; exact c2
  | 3, hv => cases hv; exact c3
/-- Pick of two, by 3. -/
theorem pick17 (a : Option Addr) (p : Nat) (x y : Mt) (w : World) (h : RdM w (.slice a 2 p) [x, y]) : Calls Try.prog 17 #[.int .i64 3, .slice a 2 p] w fun r w' => r = .returned (.tuple #[.agg #[.int .i64 y.p, .int .i64 y.i, .int .i64 y.q, .int .i64 y.j], .int .i64 0]) ∧ Below w.heap.size w w' := by
  obtain ⟨b, off, rfl, hb, c0, c1, c2, c3⟩ := h.at (k := 1) (x := y) rfl
  have hrun := runMt (h.below (show Below w.heap.size w (w.alloc (.cells #[.int .i64 0, .int .i64 0, .int .i64 0, .int .i64 0] 30)) by (repeat' (first | (with_reducible exact Below.refl _ _) | (with_reducible assumption) | (with_reducible refine Below.drew ?_) | (with_reducible refine Below.alloc ?_ ?_ _) | (with_reducible refine below_more ?_ ?_ _ _) | (with_reducible refine Below.setCell ?_ ?_ _) | (with_reducible refine Below.trans ?_ (Below.mono (by assumption) ?_)))) <;> first | omega | (simp; done) | (simp; omega) | (simp [more_size]; done) | (simp [more_size]; omega))) (k := 1) (x := y) rfl
  have ob : Old w b := hb
  clear h
  simp only [Nat.one_mul] at c0 c1 c2 c3 hrun
  go_enter Try.func17, Try.ntmps17
  go_wp2_with fail
  refine bodyPost_ret (v := .tuple #[.agg #[.int .i64 y.p, .int .i64 y.i, .int .i64 y.q, .int .i64 y.j], .int .i64 0]) ?_ rfl ⟨rfl, by (repeat' (first | (with_reducible exact Below.refl _ _) | (with_reducible assumption) | (with_reducible refine Below.drew ?_) | (with_reducible refine Below.alloc ?_ ?_ _) | (with_reducible refine below_more ?_ ?_ _ _) | (with_reducible refine Below.setCell ?_ ?_ _) | (with_reducible refine Below.trans ?_ (Below.mono (by assumption) ?_)))) <;> first | omega | (simp; done) | (simp; omega) | (simp [more_size]; done) | (simp [more_size]; omega)⟩
  simp [results, Try.results17, go_sem]
end Go.Proofs.Ytcdmhldhhjolpaa
