
/- Walks of the seat of chapter 16: AttemptStops. -/
import Derived.Test.YtfenloempdhknaaT10
import Derived.Deep.DeepCutAuto
import Derived.Outline
namespace Go.Proofs.Ytfenloempdhknaa
open Go.RowKit
attribute [local go_sem ↓] Go.wp_at_zero Go.wp_at_succ
attribute [local go_sem] more_size cell_more_old frozen_more_old setCell_more_old more_drew drew_more old_alloc old_more old_drew old_setCell cell_alloc_old frozen_alloc_old setCell_alloc_old
attribute [local go_sem ↓] load30 store30
attribute [local go_sem] run30 runs30 blk_drew has_drew blk_drewN has_drewN old_drewN blk_alloc_old has_alloc_old blk_alloc_new has_alloc_new setBlk_size setBlk_drew old_setBlk cell_setBlk' cell_setBlk_ne frozen_setBlk blk_setBlk' blk_setBlk_ne has_setBlk' has_setBlk_ne setBlk_alloc_old setBlk_new

/-- Take, of any attempt, its fields laid flat. -/
def TakeF (id rc ow n f g0 g1 g2 g3 g4 g5 g6 g7 p s k : Int) (l : List De) (w : World) (e : Ending) (w' : World) : Prop :=
  ∃ (a : Option Addr) (c q : Nat), e = .returned (.tuple #[.agg #[.int .i64 id, .int .i64 rc, .int .i64 ow, .int .i64 n, .int .i8 f, .int .u16 g0, .int .u16 g1, .int .u16 g2, .int .u16 g3, .int .u16 g4, .int .u16 g5, .int .u16 g6, .int .u16 g7, .int .i64 p, .int .i8 s, .int .i64 (k)], .slice a c q]) ∧ c = l.length ∧ w'.ownsRow w.heap.size 39 19 (.slice a c q) c (deCells l) ∧ Below w.heap.size w w'
theorem takef_dc (id rc ow n f g0 g1 g2 g3 g4 g5 g6 g7 p k : Int) (m : Lt) (w : World) : Calls Try.prog 11 #[.agg #[.int .i64 id, .int .i64 rc, .int .i64 ow, .int .i64 n, .int .i8 f, .int .u16 g0, .int .u16 g1, .int .u16 g2, .int .u16 g3, .int .u16 g4, .int .u16 g5, .int .u16 g6, .int .u16 g7, .int .i64 p, .int .i8 0, .int .i64 (k)], .int .i64 1, .agg #[.int .i8 m.k, .int .i64 m.f, .int .i64 m.n, .int .i64 m.s, .string m.t, .int .i64 m.e]] w (TakeF id rc ow n f g0 g1 g2 g3 g4 g5 g6 g7 p 1 k [⟨5, id⟩] w) :=
  take11_dc (⟨id, rc, ow, n, f, g0, g1, g2, g3, g4, g5, g6, g7, p, 0, k⟩ : At) m w
theorem takef_ab (id rc ow n f g0 g1 g2 g3 g4 g5 g6 g7 p k : Int) (m : Lt) (w : World) (hw : ow ≤ 1125899906842624) : Calls Try.prog 11 #[.agg #[.int .i64 id, .int .i64 rc, .int .i64 ow, .int .i64 n, .int .i8 f, .int .u16 g0, .int .u16 g1, .int .u16 g2, .int .u16 g3, .int .u16 g4, .int .u16 g5, .int .u16 g6, .int .u16 g7, .int .i64 p, .int .i8 1, .int .i64 (k)], .int .i64 0, .agg #[.int .i8 m.k, .int .i64 m.f, .int .i64 m.n, .int .i64 m.s, .string m.t, .int .i64 m.e]] w (TakeF id rc ow n f g0 g1 g2 g3 g4 g5 g6 g7 p 3 k (dropL (endV m) ++ [⟨3, ofV ow 4⟩]) w) :=
  take11_ab (⟨id, rc, ow, n, f, g0, g1, g2, g3, g4, g5, g6, g7, p, 1, k⟩ : At) m w hw
theorem takef_td (id rc ow n f g0 g1 g2 g3 g4 g5 g6 g7 p k : Int) (m : Lt) (w : World) (hs : 0 ≤ k) (hw : ow ≤ 1125899906842624) : Calls Try.prog 11 #[.agg #[.int .i64 id, .int .i64 rc, .int .i64 ow, .int .i64 n, .int .i8 f, .int .u16 g0, .int .u16 g1, .int .u16 g2, .int .u16 g3, .int .u16 g4, .int .u16 g5, .int .u16 g6, .int .u16 g7, .int .i64 p, .int .i8 2, .int .i64 (k)], .int .i64 1, .agg #[.int .i8 m.k, .int .i64 m.f, .int .i64 m.n, .int .i64 m.s, .string m.t, .int .i64 m.e]] w (TakeF id rc ow n f g0 g1 g2 g3 g4 g5 g6 g7 p 3 k ([⟨6, k⟩] ++ [⟨3, ofV ow 4⟩]) w) :=
  take11_td (⟨id, rc, ow, n, f, g0, g1, g2, g3, g4, g5, g6, g7, p, 2, k⟩ : At) m w hs hw
theorem takef_tz (id rc ow n f g0 g1 g2 g3 g4 g5 g6 g7 p k : Int) (m : Lt) (w : World) (hs : k < 0) : Calls Try.prog 11 #[.agg #[.int .i64 id, .int .i64 rc, .int .i64 ow, .int .i64 n, .int .i8 f, .int .u16 g0, .int .u16 g1, .int .u16 g2, .int .u16 g3, .int .u16 g4, .int .u16 g5, .int .u16 g6, .int .u16 g7, .int .i64 p, .int .i8 2, .int .i64 (k)], .int .i64 1, .agg #[.int .i8 m.k, .int .i64 m.f, .int .i64 m.n, .int .i64 m.s, .string m.t, .int .i64 m.e]] w (TakeF id rc ow n f g0 g1 g2 g3 g4 g5 g6 g7 p 3 k [] w) :=
  take11_tz (⟨id, rc, ow, n, f, g0, g1, g2, g3, g4, g5, g6, g7, p, 2, k⟩ : At) m w hs

set_option maxRecDepth 100000 in
set_option maxHeartbeats 4000000 in
theorem stops4_out (id rc ow n f g0 g1 g2 g3 g4 g5 g6 g7 p s k : Int) (b : Bool) (w : World) (h : min (min id rc) ow < 0 ∨ (¬ min (min id rc) ow < 0 ∧ 1000 < max (max id rc) ow) ∨ (¬ min (min id rc) ow < 0 ∧ ¬ 1000 < max (max id rc) ow ∧ 1000 < k)) :
    Calls Try.prog 4 #[.agg #[.int .i64 id, .int .i64 rc, .int .i64 ow, .int .i64 n, .int .i8 f, .int .u16 g0, .int .u16 g1, .int .u16 g2, .int .u16 g3, .int .u16 g4, .int .u16 g5, .int .u16 g6, .int .u16 g7, .int .i64 p, .int .i8 s, .int .i64 (k)], .bool b] w fun r w' => r = .returned (.bool true) ∧ Below w.heap.size w w' := by
  rcases h with h | ⟨h1, h⟩ | ⟨h1, h2, h⟩
  all_goals
    go_enter Try.func4, Try.ntmps4
    go_wp2_with fail
    all_goals
      refine (wakes6 _).mono ?_
      rintro r w1 ⟨rfl, hb⟩
      go_wp2_with fail
      go_ret
      exact ⟨rfl, by (repeat' (first | (with_reducible exact Below.refl _ _) | (with_reducible assumption) | (with_reducible refine Below.drew ?_) | (with_reducible refine Below.alloc ?_ ?_ _) | (with_reducible refine below_more ?_ ?_ _ _) | (with_reducible refine Below.setCell ?_ ?_ _) | (with_reducible refine Below.trans ?_ (Below.mono (by assumption) ?_)))) <;> first | omega | (simp; done) | (simp; omega) | (simp [more_size]; done) | (simp [more_size]; omega)⟩
end Go.Proofs.Ytfenloempdhknaa
