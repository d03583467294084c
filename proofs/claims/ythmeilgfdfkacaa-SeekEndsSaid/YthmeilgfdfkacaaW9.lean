
/- Walks of seat 17: great, wakes. -/
import Derived.Test.YthmeilgfdfkacaaW8
namespace Go.Proofs.Ythmeilgfdfkacaa
open Go.RowKit
attribute [local go_sem ↓] Go.wp_at_zero Go.wp_at_succ
attribute [local go_sem] more_size cell_more_old frozen_more_old setCell_more_old more_drew drew_more old_alloc old_more old_drew old_setCell cell_alloc_old frozen_alloc_old setCell_alloc_old

def GrR (s : Sk) (t : ByteArray) (w : World) (r : Ending) (w' : World) : Prop :=
  ∃ g : Bool, r = .returned (.bool g) ∧ (g = false → s.name.size + s.mt.size + t.size ≤ 5000 ∧ s.nm ≤ 1099511627776) ∧ Below w.heap.size w w'
theorem GrR.yes {s : Sk} {t : ByteArray} {w : World} {r : Ending} {w' : World} (h : r = .returned (.bool true)) (hb : Below w.heap.size w w') : GrR s t w r w' :=
  ⟨true, h, (fun h => by cases h), hb⟩
theorem GrR.no {s : Sk} {t : ByteArray} {w : World} {r : Ending} {w' : World} (h : r = .returned (.bool false)) (h1 : s.name.size + s.mt.size + t.size ≤ 5000) (h2 : s.nm ≤ 1099511627776) (hb : Below w.heap.size w w') : GrR s t w r w' :=
  ⟨false, h, (fun _ => ⟨h1, h2⟩), hb⟩
set_option maxHeartbeats 400000 in
theorem great6 (s : Sk) (k f n sk e : Int) (t : ByteArray) (w : World) (h1 : s.name.size ≤ 140737488351232) (h2 : s.mt.size ≤ 140737488351232) (h3 : t.size ≤ 140737488351232) :
    Calls Try.prog 6 #[.agg #[.int .i64 s.id, .int .i64 s.nm, .string s.name, .int .i8 s.a, .int .i8 s.mkd, .int .i64 s.mf, .int .i64 s.mn, .int .i64 s.ms, .string s.mt, .int .i64 s.me], .agg #[.int .i8 k, .int .i64 f, .int .i64 n, .int .i64 sk, .string t, .int .i64 e]] w (GrR s t w) := by
  obtain ⟨id, nm, a, mk, mf, mn, ms, me, name, mt⟩ := s
  simp only at h1 h2
  by_cases c1 : 5000 < (name.size : Int) + mt.size + t.size
  · go_enter Try.func6, Try.ntmps6
    go_wp2
    go_ret
    exact .yes rfl (by (repeat' (first | (with_reducible exact Below.refl _ _) | (with_reducible assumption) | (with_reducible refine Below.drew ?_) | (with_reducible refine Below.alloc ?_ ?_ _) | (with_reducible refine below_more ?_ ?_ _ _) | (with_reducible refine Below.setCell ?_ ?_ _) | (with_reducible refine Below.trans ?_ (Below.mono (by assumption) ?_)))) <;> first | omega | (simp; done) | (simp; omega) | (simp [more_size]; done) | (simp [more_size]; omega))
  · by_cases c2 : 1099511627776 < nm
    · go_enter Try.func6, Try.ntmps6
      go_wp2
      go_ret
      exact .yes rfl (by (repeat' (first | (with_reducible exact Below.refl _ _) | (with_reducible assumption) | (with_reducible refine Below.drew ?_) | (with_reducible refine Below.alloc ?_ ?_ _) | (with_reducible refine below_more ?_ ?_ _ _) | (with_reducible refine Below.setCell ?_ ?_ _) | (with_reducible refine Below.trans ?_ (Below.mono (by assumption) ?_)))) <;> first | omega | (simp; done) | (simp; omega) | (simp [more_size]; done) | (simp [more_size]; omega))
    · go_enter Try.func6, Try.ntmps6
      go_wp2
      go_ret
      exact .no rfl (by show name.size + mt.size + t.size ≤ 5000; omega) (by show nm ≤ _; omega) (by (repeat' (first | (with_reducible exact Below.refl _ _) | (with_reducible assumption) | (with_reducible refine Below.drew ?_) | (with_reducible refine Below.alloc ?_ ?_ _) | (with_reducible refine below_more ?_ ?_ _ _) | (with_reducible refine Below.setCell ?_ ?_ _) | (with_reducible refine Below.trans ?_ (Below.mono (by assumption) ?_)))) <;> first | omega | (simp; done) | (simp; omega) | (simp [more_size]; done) | (simp [more_size]; omega))

set_option maxRecDepth 100000 in
set_option maxHeartbeats 1600000 in
theorem wakes7 (w : World) : Calls Try.prog 7 #[] w fun r w' => r = .returned (.bool true) ∧ Below w.heap.size w w' := by
  go_enter Try.func7, Try.ntmps7
  go_wp2_with fail
  refine (begin8 _ _ _ _).mono ?_
  rintro r w1 ⟨b, rfl, kd, g, hb⟩
  obtain ⟨x, y, d, rfl, rfl⟩ := more_of_block hb kd g
  clear kd g hb
  go_wp2_with fail
  refine (offers12_zero _ _ _ _ _ _ _ _ _ _ (by omega)).mono ?_
  rintro r w1 ⟨b, rfl, kd, g, hb⟩
  obtain ⟨x1, y1, d1, rfl, rfl⟩ := more_of_block hb kd g
  clear kd g hb
  go_wp2_with fail
  refine (take14_told _ _ _ _ _ _ _ _ _ _ _ _ _ _ _ _ (by omega)).mono ?_
  rintro r w1 ⟨rfl, hb⟩
  obtain ⟨x, d, rfl⟩ := more_of_below hb; clear hb
  rw [show toldText 110 ⟨#[120]⟩ = ⟨#[]⟩ from rfl]
  go_wp2_with fail
  refine (offers12_one _ _ _ _ _ _ _ _ _ _ (by omega)).mono ?_
  rintro r w1 ⟨b, rfl, kd, g, hb⟩
  obtain ⟨x2, y2, d2, rfl, rfl⟩ := more_of_block hb kd g
  clear kd g hb
  go_wp2_with fail
  refine (take14_ends _ _ _ _ _ _ _ _ _ _ _ _ _ _ _ _ _ (by omega) (by omega) (by omega)).mono ?_
  rintro r w1 ⟨rfl, hb⟩
  obtain ⟨x3, d3, rfl⟩ := more_of_below hb
  clear hb
  go_wp2_with fail
  refine (over16_one ⟨9, 0, 2, 7, 9, 0, 0, 110, ⟨#[97]⟩, ⟨#[]⟩⟩ _ _ (by (repeat' (first | (with_reducible assumption) | (with_reducible refine hm_new ?_; (first | rfl | (simp; done) | (simp [more_size]; done) | (simp [more_size]; omega))) | (with_reducible refine block_alloc ?_) | (with_reducible refine hm_more ?_) | (with_reducible refine hm_drew ?_)))) (by decide) (by decide) (by decide)).mono ?_
  rintro r w1 ⟨rfl, hb⟩
  obtain ⟨x4, d4, rfl⟩ := more_of_below hb
  clear hb
  simp only [show ovB 2 = true from rfl]
  go_wp2_with fail
  refine (over16_one ⟨9, 0, 0, 0, 0, 0, 0, 0, ⟨#[97]⟩, ⟨#[]⟩⟩ _ _ (by (repeat' (first | (with_reducible assumption) | (with_reducible refine hm_new ?_; (first | rfl | (simp; done) | (simp [more_size]; done) | (simp [more_size]; omega))) | (with_reducible refine block_alloc ?_) | (with_reducible refine hm_more ?_) | (with_reducible refine hm_drew ?_)))) (by decide) (by decide) (by decide)).mono ?_
  rintro r w1 ⟨rfl, hb⟩
  obtain ⟨x5, d5, rfl⟩ := more_of_below hb
  clear hb
  simp only [show ovB 0 = false from rfl]
  go_wp2
  go_ret
  exact ⟨rfl, by (repeat' (first | (with_reducible exact Below.refl _ _) | (with_reducible assumption) | (with_reducible refine Below.drew ?_) | (with_reducible refine Below.alloc ?_ ?_ _) | (with_reducible refine below_more ?_ ?_ _ _) | (with_reducible refine Below.setCell ?_ ?_ _) | (with_reducible refine Below.trans ?_ (Below.mono (by assumption) ?_)))) <;> first | omega | (simp; done) | (simp; omega) | (simp [more_size]; done) | (simp [more_size]; omega)⟩
end Go.Proofs.Ythmeilgfdfkacaa
