
/- Walks of the seat of chapter 07: Alone; Meet. -/
import Derived.Test.YtcdmhldhhjolpaaO3
namespace Go.Proofs.Ytcdmhldhhjolpaa
open Go.RowKit
attribute [local go_sem ↓] Go.wp_at_zero Go.wp_at_succ
attribute [local go_sem] more_size cell_more_old frozen_more_old setCell_more_old more_drew drew_more old_alloc old_more old_drew old_setCell cell_alloc_old frozen_alloc_old setCell_alloc_old
attribute [local go_sem ↓] load42 store42 load61 store61 load38 store38 load30 store30
attribute [local go_sem] run42 runs42 run61 runs61 run38 runs38 run30 runs30 blk_drew has_drew blk_drewN has_drewN old_drewN blk_alloc_old has_alloc_old blk_alloc_new has_alloc_new setBlk_size setBlk_drew old_setBlk cell_setBlk' cell_setBlk_ne frozen_setBlk blk_setBlk' blk_setBlk_ne has_setBlk' has_setBlk_ne setBlk_alloc_old setBlk_new

theorem alone20' (ad : Option Addr) (nd pd : Nat) (ck : Int) (dl lk : Bool) (du : List Du) (o : Ofr) (w : World) (h : RdU w (.slice ad nd pd) du) (hk : o.k ≤ 127) :
    Calls Try.prog 20 #[.agg #[.slice ad nd pd, .int .i64 ck, .bool dl, .bool lk], .agg #[.int .i8 o.k, .int .i64 o.d, .int .i8 o.m.k, .int .i64 o.m.f, .int .i64 o.m.n, .int .i64 o.m.s, .string o.m.t, .int .i64 o.m.e, .int .i64 o.t]] w fun r w' => r = .returned (.bool (aloneB du ck dl lk o)) ∧ Below w.heap.size w w' := by
  obtain ⟨ok, od, ⟨mk, mf, mn, ms, mt, me⟩, ot⟩ := o
  exact alone20 ad nd pd ck dl lk du ok od mk mf mn ms me ot mt w h hk
theorem alone12 (ad : Option Addr) (nd pd : Nat) (ck : Int) (dl lk : Bool) (du : List Du) (o : Ofr) (w : World) (h : RdU w (.slice ad nd pd) du) (hk : o.k ≤ 127) :
    Calls Try.prog 12 #[.agg #[.int .i8 o.k, .int .i64 o.d, .int .i8 o.m.k, .int .i64 o.m.f, .int .i64 o.m.n, .int .i64 o.m.s, .string o.m.t, .int .i64 o.m.e, .int .i64 o.t], .slice ad nd pd, .int .i64 ck, .bool dl, .bool lk] w fun r w' => r = .returned (.bool (aloneB du ck dl lk o)) ∧ Below w.heap.size w w' := by
  have H := Lib.hid h
  clear h
  go_enter Try.func12, Try.ntmps12
  go_wp2_with fail
  refine (alone20' ad nd pd ck dl lk du o _ (H.out.below (by (repeat' (first | (with_reducible exact Below.refl _ _) | (with_reducible assumption) | (with_reducible refine Below.drew ?_) | (with_reducible refine Below.alloc ?_ ?_ _) | (with_reducible refine below_more ?_ ?_ _ _) | (with_reducible refine Below.setCell ?_ ?_ _) | (with_reducible refine Below.trans ?_ (Below.mono (by assumption) ?_)))) <;> first | omega | (simp; done) | (simp; omega) | (simp [more_size]; done) | (simp [more_size]; omega))) hk).mono ?_
  rintro r w1 ⟨rfl, hb⟩
  have hB : Below w.heap.size w w1 := by (repeat' (first | (with_reducible exact Below.refl _ _) | (with_reducible assumption) | (with_reducible refine Below.drew ?_) | (with_reducible refine Below.alloc ?_ ?_ _) | (with_reducible refine below_more ?_ ?_ _ _) | (with_reducible refine Below.setCell ?_ ?_ _) | (with_reducible refine Below.trans ?_ (Below.mono (by assumption) ?_)))) <;> first | omega | (simp; done) | (simp; omega) | (simp [more_size]; done) | (simp [more_size]; omega)
  clear hb
  go_wp2_with fail
  go_ret
  exact ⟨rfl, hB⟩
set_option maxHeartbeats 4000000 in
theorem meet28f (ad : Option Addr) (nd pd : Nat) (du : List Du) (x0 x1 x2 x3 x4 x5 x7 x8 y0 y1 y2 y3 y4 y5 y7 y8 : Int) (x6 y6 : ByteArray) (w : World) (h : RdU w (.slice ad nd pd) du) :
    Calls Try.prog 28 #[.agg #[.int .i8 x0, .int .i64 x1, .int .i8 x2, .int .i64 x3, .int .i64 x4, .int .i64 x5, .string x6, .int .i64 x7, .int .i64 x8], .agg #[.int .i8 y0, .int .i64 y1, .int .i8 y2, .int .i64 y3, .int .i64 y4, .int .i64 y5, .string y6, .int .i64 y7, .int .i64 y8], .slice ad nd pd] w fun r w' => r = .returned (.bool (meetB du (⟨x0, x1, ⟨x2, x3, x4, x5, x6, x7⟩, x8⟩ : Ofr) (⟨y0, y1, ⟨y2, y3, y4, y5, y6, y7⟩, y8⟩ : Ofr))) ∧ Below w.heap.size w w' := by
  have H := Lib.hid h
  clear h
  by_cases h0 : x0 = 0
  · subst h0
    by_cases h1 : y0 = 1
    · subst h1
      by_cases h2 : x1 = y1
      · subst h2
        cases hd : duAt du x1 with
        | none =>
          have HV : Hid (meetB du (⟨0, x1, ⟨x2, x3, x4, x5, x6, x7⟩, x8⟩ : Ofr) (⟨1, x1, ⟨y2, y3, y4, y5, y6, y7⟩, y8⟩ : Ofr) = false) := Lib.hid (by simp [meetB, hd])
          have HD := Lib.hid hd
          rw [HV.out]
          clear hd
          go_enter Try.func28, Try.ntmps28
          go_wp2_with fail
          refine (duct30_none ad nd pd 0 x1 false false du _ (H.out.below (by (repeat' (first | (with_reducible exact Below.refl _ _) | (with_reducible assumption) | (with_reducible refine Below.drew ?_) | (with_reducible refine Below.alloc ?_ ?_ _) | (with_reducible refine below_more ?_ ?_ _ _) | (with_reducible refine Below.setCell ?_ ?_ _) | (with_reducible refine Below.trans ?_ (Below.mono (by assumption) ?_)))) <;> first | omega | (simp; done) | (simp; omega) | (simp [more_size]; done) | (simp [more_size]; omega))) HD.out).mono ?_
          rintro r w1 ⟨rfl, hb⟩
          have hB : Below w.heap.size w w1 := by (repeat' (first | (with_reducible exact Below.refl _ _) | (with_reducible assumption) | (with_reducible refine Below.drew ?_) | (with_reducible refine Below.alloc ?_ ?_ _) | (with_reducible refine below_more ?_ ?_ _ _) | (with_reducible refine Below.setCell ?_ ?_ _) | (with_reducible refine Below.trans ?_ (Below.mono (by assumption) ?_)))) <;> first | omega | (simp; done) | (simp; omega) | (simp [more_size]; done) | (simp [more_size]; omega)
          have hz := hB.size
          clear hb
          go_wp2_with fail
          go_ret
          exact ⟨rfl, by (repeat' (first | (with_reducible exact Below.refl _ _) | (with_reducible assumption) | (with_reducible refine Below.drew ?_) | (with_reducible refine Below.alloc ?_ ?_ _) | (with_reducible refine below_more ?_ ?_ _ _) | (with_reducible refine Below.setCell ?_ ?_ _) | (with_reducible refine Below.trans ?_ (Below.mono (by assumption) ?_)))) <;> first | omega | (simp; done) | (simp; omega) | (simp [more_size]; done) | (simp [more_size]; omega)⟩
        | some d =>
          obtain ⟨c, a, n, p, b⟩ := d
          have HV : Hid (meetB du (⟨0, x1, ⟨x2, x3, x4, x5, x6, x7⟩, x8⟩ : Ofr) (⟨1, x1, ⟨y2, y3, y4, y5, y6, y7⟩, y8⟩ : Ofr) = (!b && c == 0)) := Lib.hid (by simp [meetB, hd])
          have HD := Lib.hid hd
          rw [HV.out]
          clear hd
          go_enter Try.func28, Try.ntmps28
          go_wp2_with fail
          refine (duct30_some ad nd pd 0 x1 false false du _ _ (H.out.below (by (repeat' (first | (with_reducible exact Below.refl _ _) | (with_reducible assumption) | (with_reducible refine Below.drew ?_) | (with_reducible refine Below.alloc ?_ ?_ _) | (with_reducible refine below_more ?_ ?_ _ _) | (with_reducible refine Below.setCell ?_ ?_ _) | (with_reducible refine Below.trans ?_ (Below.mono (by assumption) ?_)))) <;> first | omega | (simp; done) | (simp; omega) | (simp [more_size]; done) | (simp [more_size]; omega))) HD.out).mono ?_
          rintro r w1 ⟨rfl, hb⟩
          have hB : Below w.heap.size w w1 := by (repeat' (first | (with_reducible exact Below.refl _ _) | (with_reducible assumption) | (with_reducible refine Below.drew ?_) | (with_reducible refine Below.alloc ?_ ?_ _) | (with_reducible refine below_more ?_ ?_ _ _) | (with_reducible refine Below.setCell ?_ ?_ _) | (with_reducible refine Below.trans ?_ (Below.mono (by assumption) ?_)))) <;> first | omega | (simp; done) | (simp; omega) | (simp [more_size]; done) | (simp [more_size]; omega)
          have hz := hB.size
          clear hb
          cases b
          all_goals
            go_wp2_with fail
            go_ret
            exact ⟨by first | rfl | simp, by (repeat' (first | (with_reducible exact Below.refl _ _) | (with_reducible assumption) | (with_reducible refine Below.drew ?_) | (with_reducible refine Below.alloc ?_ ?_ _) | (with_reducible refine below_more ?_ ?_ _ _) | (with_reducible refine Below.setCell ?_ ?_ _) | (with_reducible refine Below.trans ?_ (Below.mono (by assumption) ?_)))) <;> first | omega | (simp; done) | (simp; omega) | (simp [more_size]; done) | (simp [more_size]; omega)⟩
      · have HV : Hid (meetB du (⟨0, x1, ⟨x2, x3, x4, x5, x6, x7⟩, x8⟩ : Ofr) (⟨1, y1, ⟨y2, y3, y4, y5, y6, y7⟩, y8⟩ : Ofr) = false) := Lib.hid (by simp [meetB, h2])
        rw [HV.out]
        go_enter Try.func28, Try.ntmps28
        go_wp2_with fail
        go_ret
        exact ⟨rfl, by (repeat' (first | (with_reducible exact Below.refl _ _) | (with_reducible assumption) | (with_reducible refine Below.drew ?_) | (with_reducible refine Below.alloc ?_ ?_ _) | (with_reducible refine below_more ?_ ?_ _ _) | (with_reducible refine Below.setCell ?_ ?_ _) | (with_reducible refine Below.trans ?_ (Below.mono (by assumption) ?_)))) <;> first | omega | (simp; done) | (simp; omega) | (simp [more_size]; done) | (simp [more_size]; omega)⟩
    · have HV : Hid (meetB du (⟨0, x1, ⟨x2, x3, x4, x5, x6, x7⟩, x8⟩ : Ofr) (⟨y0, y1, ⟨y2, y3, y4, y5, y6, y7⟩, y8⟩ : Ofr) = false) := Lib.hid (by simp [meetB, h1])
      rw [HV.out]
      go_enter Try.func28, Try.ntmps28
      go_wp2_with fail
      go_ret
      exact ⟨rfl, by (repeat' (first | (with_reducible exact Below.refl _ _) | (with_reducible assumption) | (with_reducible refine Below.drew ?_) | (with_reducible refine Below.alloc ?_ ?_ _) | (with_reducible refine below_more ?_ ?_ _ _) | (with_reducible refine Below.setCell ?_ ?_ _) | (with_reducible refine Below.trans ?_ (Below.mono (by assumption) ?_)))) <;> first | omega | (simp; done) | (simp; omega) | (simp [more_size]; done) | (simp [more_size]; omega)⟩
  · have HV : Hid (meetB du (⟨x0, x1, ⟨x2, x3, x4, x5, x6, x7⟩, x8⟩ : Ofr) (⟨y0, y1, ⟨y2, y3, y4, y5, y6, y7⟩, y8⟩ : Ofr) = false) := Lib.hid (by simp [meetB, h0])
    rw [HV.out]
    go_enter Try.func28, Try.ntmps28
    go_wp2_with fail
    go_ret
    exact ⟨rfl, by (repeat' (first | (with_reducible exact Below.refl _ _) | (with_reducible assumption) | (with_reducible refine Below.drew ?_) | (with_reducible refine Below.alloc ?_ ?_ _) | (with_reducible refine below_more ?_ ?_ _ _) | (with_reducible refine Below.setCell ?_ ?_ _) | (with_reducible refine Below.trans ?_ (Below.mono (by assumption) ?_)))) <;> first | omega | (simp; done) | (simp; omega) | (simp [more_size]; done) | (simp [more_size]; omega)⟩
theorem meet28 (ad : Option Addr) (nd pd : Nat) (du : List Du) (a b : Ofr) (w : World) (h : RdU w (.slice ad nd pd) du) :
    Calls Try.prog 28 #[.agg #[.int .i8 a.k, .int .i64 a.d, .int .i8 a.m.k, .int .i64 a.m.f, .int .i64 a.m.n, .int .i64 a.m.s, .string a.m.t, .int .i64 a.m.e, .int .i64 a.t], .agg #[.int .i8 b.k, .int .i64 b.d, .int .i8 b.m.k, .int .i64 b.m.f, .int .i64 b.m.n, .int .i64 b.m.s, .string b.m.t, .int .i64 b.m.e, .int .i64 b.t], .slice ad nd pd] w fun r w' => r = .returned (.bool (meetB du a b)) ∧ Below w.heap.size w w' := by
  obtain ⟨x0, x1, ⟨x2, x3, x4, x5, x6, x7⟩, x8⟩ := a
  obtain ⟨y0, y1, ⟨y2, y3, y4, y5, y6, y7⟩, y8⟩ := b
  exact meet28f ad nd pd du x0 x1 x2 x3 x4 x5 x7 x8 y0 y1 y2 y3 y4 y5 y7 y8 x6 y6 w h
end Go.Proofs.Ytcdmhldhhjolpaa
