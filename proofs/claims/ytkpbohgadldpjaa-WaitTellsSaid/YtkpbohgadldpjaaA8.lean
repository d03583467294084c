
/- Walks of the seat of chapter 23: the document's examples. -/
import Derived.Test.YtkpbohgadldpjaaA7
namespace Go.Proofs.Ytkpbohgadldpjaa
open Go.RowKit
attribute [local go_sem ↓] Go.wp_at_zero Go.wp_at_succ
attribute [local go_sem] more_size cell_more_old frozen_more_old setCell_more_old more_drew drew_more old_alloc old_more old_drew old_setCell cell_alloc_old frozen_alloc_old setCell_alloc_old

theorem rdI_nil (w : World) : RdI w (.slice none 0 0) [] := .inl ⟨rfl, none, 0, rfl, fun _ => rfl⟩
theorem rdI_new (w : World) (l : List Int) (h : l ≠ []) : RdI (w.alloc (.cells (l.map (Value.int .i64)).toArray 3)) (.slice (some ⟨w.heap.size, 0, none⟩) l.length l.length) l :=
  .inr ⟨h, _, _, _, rfl, Nat.le_refl _, by simp, fun j x hj => by
    rw [World.cell?_alloc_at _ _ _ _ rfl, Nat.zero_add]
    simp [hj]⟩

set_option maxRecDepth 100000 in
set_option maxHeartbeats 4000000 in
theorem wakes7 (w : World) : Calls Try.prog 7 #[] w fun r w' => r = .returned (.bool true) ∧ Below w.heap.size w w' := by
  go_enter Try.func7, Try.ntmps7
  go_wp2_with fail
  refine (join13 _ _ [] [3, 4] 2 _ (by simp) (by simp) (rdI_nil _) (by exact rdI_new _ [3, 4] (by simp))).mono ?_
  rintro r w1 ⟨v1, rfl, hown, hb1⟩
  rw [show joinL 2 [] [3, 4] = ([3, 4], 0) from by decide] at hown ⊢
  have h1 := RdI.of_owns hown
  clear hown
  go_wp2_with fail
  refine (join13 _ _ [3, 4] [5] 2 _ (by simp) (by simp) (h1.below (by (repeat' (first | (with_reducible exact Below.refl _ _) | (with_reducible assumption) | (with_reducible refine Below.drew ?_) | (with_reducible refine Below.alloc ?_ ?_ _) | (with_reducible refine below_more ?_ ?_ _ _) | (with_reducible refine Below.setCell ?_ ?_ _) | (with_reducible refine Below.trans ?_ (Below.mono (by assumption) ?_)))) <;> first | omega | (simp; done) | (simp; omega) | (simp [more_size]; done) | (simp [more_size]; omega))) (by exact rdI_new _ [5] (by simp))).mono ?_
  rintro r w2 ⟨v2, rfl, hown, hb2⟩
  rw [show joinL 2 [3, 4] [5] = ([3, 4], 230) from by decide]
  clear hown
  have h1 := h1.below (w' := w2) (by (repeat' (first | (with_reducible exact Below.refl _ _) | (with_reducible assumption) | (with_reducible refine Below.drew ?_) | (with_reducible refine Below.alloc ?_ ?_ _) | (with_reducible refine below_more ?_ ?_ _ _) | (with_reducible refine Below.setCell ?_ ?_ _) | (with_reducible refine Below.trans ?_ (Below.mono (by assumption) ?_)))) <;> first | omega | (simp; done) | (simp; omega) | (simp [more_size]; done) | (simp [more_size]; omega))
  go_wp2_with fail
  refine (join13 _ _ [3, 4] [3] 3 _ (by simp) (by simp) (h1.below (by (repeat' (first | (with_reducible exact Below.refl _ _) | (with_reducible assumption) | (with_reducible refine Below.drew ?_) | (with_reducible refine Below.alloc ?_ ?_ _) | (with_reducible refine below_more ?_ ?_ _ _) | (with_reducible refine Below.setCell ?_ ?_ _) | (with_reducible refine Below.trans ?_ (Below.mono (by assumption) ?_)))) <;> first | omega | (simp; done) | (simp; omega) | (simp [more_size]; done) | (simp [more_size]; omega))) (by exact rdI_new _ [3] (by simp))).mono ?_
  rintro r w3 ⟨v3, rfl, hown, hb3⟩
  rw [show joinL 3 [3, 4] [3] = ([3, 4], 2) from by decide]
  clear hown
  have h1 := h1.below (w' := w3) (by (repeat' (first | (with_reducible exact Below.refl _ _) | (with_reducible assumption) | (with_reducible refine Below.drew ?_) | (with_reducible refine Below.alloc ?_ ?_ _) | (with_reducible refine below_more ?_ ?_ _ _) | (with_reducible refine Below.setCell ?_ ?_ _) | (with_reducible refine Below.trans ?_ (Below.mono (by assumption) ?_)))) <;> first | omega | (simp; done) | (simp; omega) | (simp [more_size]; done) | (simp [more_size]; omega))
  go_wp2_with fail
  refine (serve8 _ _ [3, 4] [9] 1 _ (by decide) (by simp) (by simp) (h1.below (by (repeat' (first | (with_reducible exact Below.refl _ _) | (with_reducible assumption) | (with_reducible refine Below.drew ?_) | (with_reducible refine Below.alloc ?_ ?_ _) | (with_reducible refine below_more ?_ ?_ _ _) | (with_reducible refine Below.setCell ?_ ?_ _) | (with_reducible refine Below.trans ?_ (Below.mono (by assumption) ?_)))) <;> first | omega | (simp; done) | (simp; omega) | (simp [more_size]; done) | (simp [more_size]; omega))) (by exact rdI_new _ [9] (by simp))).mono ?_
  rintro r w4 ⟨v4, v5, v6, rfl, hown, h5, h6, hb4⟩
  have h5 := RdI.of_owns h5
  have h6 := RdI.of_owns h6
  have h1 := h1.below (w' := w4) (by (repeat' (first | (with_reducible exact Below.refl _ _) | (with_reducible assumption) | (with_reducible refine Below.drew ?_) | (with_reducible refine Below.alloc ?_ ?_ _) | (with_reducible refine below_more ?_ ?_ _ _) | (with_reducible refine Below.setCell ?_ ?_ _) | (with_reducible refine Below.trans ?_ (Below.mono (by assumption) ?_)))) <;> first | omega | (simp; done) | (simp; omega) | (simp [more_size]; done) | (simp [more_size]; omega))
  have hr := RdR.of_owns (l := [⟨3, 9, 0⟩]) hown
  clear hown
  rcases hr with ⟨h, _⟩ | ⟨_, b, o, cap, rfl, hc, hlt, hx⟩
  · cases h
  obtain ⟨c0, c1, c2⟩ := hx 0 _ rfl
  rcases h5 with ⟨h, _⟩ | ⟨_, b', o', cap', rfl, hc', hlt', hx'⟩
  · cases h
  have d0 := hx' 0 _ rfl
  obtain ⟨a6, c6, rfl⟩ := h6.shape
  have H1 := Lib.hid h1
  clear hx hx' h1 h6
  simp only [Nat.zero_mul, Nat.add_zero] at c0 c1 c2 d0
  go_wp2_with fail
  refine (waits12 _ _ [3, 4] [4, 3] _ (by simp) (by simp) (H1.out.below (by (repeat' (first | (with_reducible exact Below.refl _ _) | (with_reducible assumption) | (with_reducible refine Below.drew ?_) | (with_reducible refine Below.alloc ?_ ?_ _) | (with_reducible refine below_more ?_ ?_ _ _) | (with_reducible refine Below.setCell ?_ ?_ _) | (with_reducible refine Below.trans ?_ (Below.mono (by assumption) ?_)))) <;> first | omega | (simp; done) | (simp; omega) | (simp [more_size]; done) | (simp [more_size]; omega))) (by exact rdI_new _ [4, 3] (by simp))).mono ?_
  rintro r w5 ⟨rfl, hb5⟩
  rw [show allIn [3, 4] [4, 3] = true from by decide]
  have z1 := hb1.size
  have z2 := hb2.size
  have z3 := hb3.size
  have z4 := hb4.size
  simp only [World.size_alloc] at z1 z2 z3 z4
  go_wp2
  go_ret
  exact ⟨rfl, by (repeat' (first | (with_reducible exact Below.refl _ _) | (with_reducible assumption) | (with_reducible refine Below.drew ?_) | (with_reducible refine Below.alloc ?_ ?_ _) | (with_reducible refine below_more ?_ ?_ _ _) | (with_reducible refine Below.setCell ?_ ?_ _) | (with_reducible refine Below.trans ?_ (Below.mono (by assumption) ?_)))) <;> first | omega | (simp; done) | (simp; omega) | (simp [more_size]; done) | (simp [more_size]; omega)⟩
end Go.Proofs.Ytkpbohgadldpjaa
