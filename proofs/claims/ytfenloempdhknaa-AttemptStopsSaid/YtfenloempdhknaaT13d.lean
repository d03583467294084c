
/- Walks of the seat of chapter 16: AttemptStops, any attempt. -/
import Derived.Test.YtfenloempdhknaaT13b
import Derived.Test.YtfenloempdhknaaT13c
namespace Go.Proofs.Ytfenloempdhknaa
open Go.RowKit
attribute [local go_sem ↓] Go.wp_at_zero Go.wp_at_succ
attribute [local go_sem] more_size cell_more_old frozen_more_old setCell_more_old more_drew drew_more old_alloc old_more old_drew old_setCell cell_alloc_old frozen_alloc_old setCell_alloc_old
attribute [local go_sem ↓] load30 store30
attribute [local go_sem] run30 runs30 blk_drew has_drew blk_drewN has_drewN old_drewN blk_alloc_old has_alloc_old blk_alloc_new has_alloc_new setBlk_size setBlk_drew old_setBlk cell_setBlk' cell_setBlk_ne frozen_setBlk blk_setBlk' blk_setBlk_ne has_setBlk' has_setBlk_ne setBlk_alloc_old setBlk_new

theorem stops4_all (x : At) (b : Bool) (w : World) : Calls Try.prog 4 #[.agg #[.int .i64 x.id, .int .i64 x.rc, .int .i64 x.ow, .int .i64 x.n, .int .i8 x.f, .int .u16 x.g0, .int .u16 x.g1, .int .u16 x.g2, .int .u16 x.g3, .int .u16 x.g4, .int .u16 x.g5, .int .u16 x.g6, .int .u16 x.g7, .int .i64 x.p, .int .i8 x.st, .int .i64 x.sk], .bool b] w fun r w' => r = .returned (.bool true) ∧ Below w.heap.size w w' := by
  obtain ⟨id, rc, ow, n, f, g0, g1, g2, g3, g4, g5, g6, g7, p, s, k⟩ := x
  show Calls Try.prog 4 #[.agg #[.int .i64 id, .int .i64 rc, .int .i64 ow, .int .i64 n, .int .i8 f, .int .u16 g0, .int .u16 g1, .int .u16 g2, .int .u16 g3, .int .u16 g4, .int .u16 g5, .int .u16 g6, .int .u16 g7, .int .i64 p, .int .i8 s, .int .i64 (k)], .bool b] w _
  by_cases h1 : min (min id rc) ow < 0
  · exact stops4_out id rc ow n f g0 g1 g2 g3 g4 g5 g6 g7 p s k b w (.inl h1)
  by_cases h2 : 1000 < max (max id rc) ow
  · exact stops4_out id rc ow n f g0 g1 g2 g3 g4 g5 g6 g7 p s k b w (.inr (.inl ⟨h1, h2⟩))
  by_cases h3 : 1000 < k
  · exact stops4_out id rc ow n f g0 g1 g2 g3 g4 g5 g6 g7 p s k b w (.inr (.inr ⟨h1, h2, h3⟩))
  by_cases e0 : s = 0
  · subst e0; exact stops4_0 id rc ow n f g0 g1 g2 g3 g4 g5 g6 g7 p k b w (decide_eq_false (p := mn3 id rc ow < 0) h1) (decide_eq_false (p := 1000 < mx3 id rc ow) h2) (decide_eq_false h3) (by omega) (by omega)
  by_cases e1 : s = 1
  · subst e1; exact stops4_1 id rc ow n f g0 g1 g2 g3 g4 g5 g6 g7 p k b w (decide_eq_false (p := mn3 id rc ow < 0) h1) (decide_eq_false (p := 1000 < mx3 id rc ow) h2) (decide_eq_false h3)
  by_cases e2 : s = 2
  · subst e2
    by_cases hk : 0 ≤ k
    · exact stops4_2p id rc ow n f g0 g1 g2 g3 g4 g5 g6 g7 p k b w hk (decide_eq_false (p := mn3 id rc ow < 0) h1) (decide_eq_false (p := 1000 < mx3 id rc ow) h2) (decide_eq_false h3) (by omega) (by omega)
    · exact stops4_2n id rc ow n f g0 g1 g2 g3 g4 g5 g6 g7 p k b w (by omega) (by simp; omega) (decide_eq_false (p := mn3 id rc ow < 0) h1) (decide_eq_false (p := 1000 < mx3 id rc ow) h2) (decide_eq_false h3) (by omega) (by omega)
  · exact stops4_3 id rc ow n f g0 g1 g2 g3 g4 g5 g6 g7 p s k b w e0 e1 e2 (decide_eq_false (p := mn3 id rc ow < 0) h1) (decide_eq_false (p := 1000 < mx3 id rc ow) h2) (decide_eq_false h3)
end Go.Proofs.Ytfenloempdhknaa
