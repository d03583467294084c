
/- Walks of the seat of chapter 06: the document's example. -/
import Derived.Test.YtmggibmpljoacaaG6
namespace Go.Proofs.Ytmggibmpljoacaa
open Go.RowKit
attribute [local go_sem ↓] Go.wp_at_zero Go.wp_at_succ
attribute [local go_sem] more_size cell_more_old frozen_more_old setCell_more_old more_drew drew_more old_alloc old_more old_drew old_setCell cell_alloc_old frozen_alloc_old setCell_alloc_old
attribute [local go_sem ↓] load25 store25
attribute [local go_sem] run25 runs25 blk_drew has_drew blk_drewN has_drewN old_drewN blk_alloc_old has_alloc_old blk_alloc_new has_alloc_new setBlk_size setBlk_drew old_setBlk cell_setBlk' cell_setBlk_ne frozen_setBlk blk_setBlk' blk_setBlk_ne has_setBlk' has_setBlk_ne setBlk_alloc_old setBlk_new

theorem rd_owns {w : World} {base n : Nat} {v : Value} {l : List Lt} (h : w.ownsRow base 38 6 v n (ltCells l)) (hn : n = l.length) : RdL w v l := by
  subst hn; exact RdF.of_owns h
def TwoS (B1 B7 : Nat) (u1 u7 : Array Value) (ws w' : World) : Prop := (blk w' B1 = u1 ∧ Has w' B1 3 ∧ Old w' B1) ∧ (blk w' B7 = u7 ∧ Has w' B7 3 ∧ Old w' B7) ∧ Below ws.heap.size ws w'
theorem twoS {B1 B7 : Nat} {c c' : Int} {a a' : Option Addr} {n n' p p' : Nat} {b b' : Bool} {ws w' : World} (h1 : ws.heap[B1]? = some (.cells #[.int .i64 c, .slice a n p, .bool b] 25)) (h7 : ws.heap[B7]? = some (.cells #[.int .i64 c', .slice a' n' p', .bool b'] 25)) (hb : Below ws.heap.size ws w') :
    (blk w' B1 = #[.int .i64 c, .slice a n p, .bool b] ∧ Has w' B1 3 ∧ Old w' B1) ∧ (blk w' B7 = #[.int .i64 c', .slice a' n' p', .bool b'] ∧ Has w' B7 3 ∧ Old w' B7) ∧ Below ws.heap.size ws w' :=
  ⟨⟨blk_of (block_keep' hb h1), has_of (block_keep' hb h1), block_lt (block_keep' hb h1)⟩, ⟨blk_of (block_keep' hb h7), has_of (block_keep' hb h7), block_lt (block_keep' hb h7)⟩, hb⟩

theorem iscut14_w (k B : Nat) (T : TypeId) (cs : Array Value) (w : World) (h : w.heap[B]? = some (.cells cs T)) (hk : (k = 1 ∧ cs = #[.int .i64 0, .slice none 0 0, .bool true]) ∨ (k = 2 ∧ cs = #[.int .i64 0, .slice none 0 0, .bool true, .int .i64 0, .slice none 0 0, .bool false])) :
    Calls Try.prog 14 #[.slice (some ⟨B, 0, none⟩) k k] w fun r w' => r = .returned (.bool (decide (k = 1))) ∧ Below w.heap.size w w' := by
  rcases hk with ⟨rfl, rfl⟩ | ⟨rfl, rfl⟩
  · exact iscut14 0 none 0 0 true B T w h
  · exact iscut14_two 0 0 none none 0 0 0 0 B T w h
set_option maxRecDepth 100000 in
set_option maxHeartbeats 4000000 in
theorem wakes7 (w : World) : Calls Try.prog 7 #[] w fun r w' => r = .returned (.bool true) ∧ Below w.heap.size w w' := by
  go_enter Try.func7, Try.ntmps7
  go_wp2_with fail
  refine (gate6 2 _ (by decide) (by decide)).mono ?_
  rintro r w1 ⟨a1, p1, rfl, ho1, hb1⟩
  have HB1 := Lib.hid hb1
  have HO1 := Lib.hid (rd_owns ho1 rfl)
  have hz1 : w.heap.size ≤ w1.heap.size := hb1.size
  clear ho1 hb1
  go_wp2_with fail
  refine (enter8 2 a1 0 p1 [] _ (HO1.out.below (by (repeat' (first | (with_reducible exact Below.refl _ _) | (with_reducible assumption) | (with_reducible refine Below.drew ?_) | (with_reducible refine Below.alloc ?_ ?_ _) | (with_reducible refine below_more ?_ ?_ _ _) | (with_reducible refine Below.setCell ?_ ?_ _) | (with_reducible refine Below.trans ?_ (Below.mono (by assumption) ?_)))) <;> first | omega | (simp; done) | (simp; omega) | (simp [more_size]; done) | (simp [more_size]; omega))) (by decide) (by decide) (by decide)).mono ?_
  rintro r w2 ⟨a2, p2, rfl, ho2, hb2⟩
  have k2 : w2.heap[w1.heap.size]? = some (.cells #[.int .i64 2, .slice a1 0 p1, .bool false] 25) := block_keep' hb2 (by (repeat' (first | (with_reducible assumption) | (with_reducible refine hm_new ?_; (first | rfl | (simp; done) | (simp [more_size]; done) | (simp [more_size]; omega))) | (with_reducible refine block_alloc ?_) | (with_reducible refine hm_more ?_) | (with_reducible refine hm_drew ?_))))
  have HB2 := Lib.hid (Below.setBlk (HB1.out.trans ((show Below w1.heap.size w1 w2 by (repeat' (first | (with_reducible exact Below.refl _ _) | (with_reducible assumption) | (with_reducible refine Below.drew ?_) | (with_reducible refine Below.alloc ?_ ?_ _) | (with_reducible refine below_more ?_ ?_ _ _) | (with_reducible refine Below.setCell ?_ ?_ _) | (with_reducible refine Below.trans ?_ (Below.mono (by assumption) ?_)))) <;> first | omega | (simp; done) | (simp; omega) | (simp [more_size]; done) | (simp [more_size]; omega)).mono hz1)) hz1 #[.int .i64 2, .slice a2 1 p2, .bool false])
  have HO2 := Lib.hid (rd_owns (owns_setBlk (b := w1.heap.size) ho2 (by simp) #[.int .i64 2, .slice a2 1 p2, .bool false]) rfl)
  have KA2 := Lib.hid (setBlk_at (cs := #[.int .i64 2, .slice a2 1 p2, .bool false]) k2 rfl)
  have m2 : Has w2 w1.heap.size 3 := has_of k2
  have o2 := block_lt k2
  have q2 : Old w2 w1.heap.size := o2
  clear k2 hb2 ho2
  go_wp2_with fail
  refine (enter8 2 a2 1 p2 ([] ++ [zLt]) _ HO2.out (by decide) (by decide) (by decide)).mono ?_
  rintro r w3 ⟨a3, p3, rfl, ho3, hb3⟩
  have k3 : w3.heap[w1.heap.size]? = some (.cells #[.int .i64 2, .slice a2 1 p2, .bool false] 25) := block_keep' hb3 KA2.out
  have HB3 := Lib.hid (Below.setBlk (HB2.out.trans (hb3.mono HB2.out.size)) hz1 #[.int .i64 2, .slice a3 2 p3, .bool false])
  have HO3 := Lib.hid (rd_owns (owns_setBlk (b := w1.heap.size) ho3 (by rw [setBlk_size]; exact o2) #[.int .i64 2, .slice a3 2 p3, .bool false]) rfl)
  have KA3 := Lib.hid (setBlk_at (cs := #[.int .i64 2, .slice a3 2 p3, .bool false]) k3 rfl)
  have m3 : Has w3 w1.heap.size 3 := has_of k3
  have o3 := block_lt k3
  have q3 : Old w3 w1.heap.size := o3
  have l3 := blk_of KA3.out
  have m3' : Has (setBlk w3 w1.heap.size #[.int .i64 2, .slice a3 2 p3, .bool false]) w1.heap.size 3 := has_of KA3.out
  clear k3 hb3 ho3 m2 q2
  go_wp2_with fail
  refine (enter8_full 2 a3 2 p3 _ (by decide) (by decide) (by decide)).mono ?_
  rintro r w4 ⟨rfl, hb4⟩
  have KA4 := Lib.hid (block_keep' hb4 KA3.out)
  have HB4 := Lib.hid (HB3.out.trans (hb4.mono HB3.out.size))
  have HO4 := Lib.hid (HO3.out.below hb4)
  have l4 := blk_of KA4.out
  have m4 : Has w4 w1.heap.size 3 := has_of KA4.out
  have o4 := block_lt KA4.out
  have q4 : Old w4 w1.heap.size := o4
  clear hb4 l3 m3 m3' q3 o3
  go_wp2_with fail
  refine (inside10 2 a3 2 p3 false _ 25 _ (by (repeat' (first | (with_reducible assumption) | (with_reducible refine hm_new ?_; (first | rfl | (simp; done) | (simp [more_size]; done) | (simp [more_size]; omega))) | (with_reducible refine block_alloc ?_) | (with_reducible refine hm_more ?_) | (with_reducible refine hm_drew ?_)))) (by decide)).mono ?_
  rintro r w5 ⟨rfl, hb5⟩
  have hB5 : Below w4.heap.size w4 w5 := by (repeat' (first | (with_reducible exact Below.refl _ _) | (with_reducible assumption) | (with_reducible refine Below.drew ?_) | (with_reducible refine Below.alloc ?_ ?_ _) | (with_reducible refine below_more ?_ ?_ _ _) | (with_reducible refine Below.setCell ?_ ?_ _) | (with_reducible refine Below.trans ?_ (Below.mono (by assumption) ?_)))) <;> first | omega | (simp; done) | (simp; omega) | (simp [more_size]; done) | (simp [more_size]; omega)
  have KA5 := Lib.hid (block_keep' hB5 KA4.out)
  have HB5 := Lib.hid (HB4.out.trans (hB5.mono HB4.out.size))
  have HO5 := Lib.hid (HO4.out.below hB5)
  have l5 := blk_of KA5.out
  have m5 : Has w5 w1.heap.size 3 := has_of KA5.out
  have o5 := block_lt KA5.out
  have q5 : Old w5 w1.heap.size := o5
  clear hb5 hB5 l4 m4 q4 o4
  go_wp2_with fail
  refine (free11_none 2 a3 2 p3 _ (by decide) (by decide) (by decide)).mono ?_
  rintro r w6 ⟨rfl, hb6⟩
  have KA6 := Lib.hid (block_keep' hb6 KA5.out)
  have HB6 := Lib.hid (HB5.out.trans (hb6.mono HB5.out.size))
  have HO6 := Lib.hid (HO5.out.below hb6)
  have l6 := blk_of KA6.out
  have m6 : Has w6 w1.heap.size 3 := has_of KA6.out
  have o6 := block_lt KA6.out
  have q6 : Old w6 w1.heap.size := o6
  clear hb6 l5 m5 q5 o5
  go_wp2_with fail
  refine (leave9 2 a3 2 p3 false ([] ++ [zLt] ++ [zLt]) _ HO6.out (by decide) (by decide)).mono ?_
  rintro r w7 ⟨a7, p7, rfl, ho7, hb7⟩
  have KA7 := Lib.hid (setBlk_at (cs := #[.int .i64 2, .slice a7 1 p7, .bool false]) (block_keep' hb7 KA6.out) rfl)
  have m7 : Has w7 w1.heap.size 3 := has_of (block_keep' hb7 KA6.out)
  have HB7 := Lib.hid (Below.setBlk (HB6.out.trans (hb7.mono HB6.out.size)) hz1 #[.int .i64 2, .slice a7 1 p7, .bool false])
  clear hb7 ho7 l6 m6 q6 o6
  go_wp2_with fail
  refine (token17 _).mono ?_
  rintro r w8 ⟨rfl, hb8⟩
  have KA8 := Lib.hid (block_keep' hb8 KA7.out)
  have HB8 := Lib.hid (HB7.out.trans (hb8.mono HB7.out.size))
  clear hb8 m7
  go_wp2_with fail
  refine (cut13 0 none 0 0 _).mono ?_
  rintro r w9 ⟨rfl, hb9⟩
  have KA9 := Lib.hid (block_keep' hb9 KA8.out)
  have HB9 := Lib.hid (HB8.out.trans (hb9.mono HB8.out.size))
  clear hb9
  go_upto_region 9 with fail
  have k1 : (w9.alloc (.cells #[.int .i64 0, .slice none 0 0, .bool true] 25)).heap[w1.heap.size]? = some (.cells #[.int .i64 2, .slice a7 1 p7, .bool false] 25) := block_alloc KA9.out
  have k7 : (w9.alloc (.cells #[.int .i64 0, .slice none 0 0, .bool true] 25)).heap[w9.heap.size]? = some (.cells #[.int .i64 0, .slice none 0 0, .bool true] 25) := by (repeat' (first | (with_reducible assumption) | (with_reducible refine hm_new ?_; (first | rfl | (simp; done) | (simp [more_size]; done) | (simp [more_size]; omega))) | (with_reducible refine block_alloc ?_) | (with_reducible refine hm_more ?_) | (with_reducible refine hm_drew ?_)))
  have hbs : Below w.heap.size w (w9.alloc (.cells #[.int .i64 0, .slice none 0 0, .bool true] 25)) := HB9.out.alloc HB9.out.size _
  generalize (w9.alloc (.cells #[.int .i64 0, .slice none 0 0, .bool true] 25)) = ws at *
  have K1 := Lib.hid k1
  have K7 := Lib.hid k7
  have HBS := Lib.hid hbs
  clear k1 k7 hbs
  go_region_held3 (fun w' => (blk w' w1.heap.size = #[.int .i64 2, .slice a7 1 p7, .bool false] ∧ Has w' w1.heap.size 3 ∧ Old w' w1.heap.size) ∧ (blk w' w9.heap.size = #[.int .i64 0, .slice none 0 0, .bool true] ∧ Has w' w9.heap.size 3 ∧ Old w' w9.heap.size) ∧ Below ws.heap.size ws w') (first | (with_reducible assumption) | (refine twoS K1.out K7.out ?_; (repeat' (first | (with_reducible exact Below.refl _ _) | (with_reducible assumption) | (with_reducible refine Below.drew ?_) | (with_reducible refine Below.alloc ?_ ?_ _) | (with_reducible refine below_more ?_ ?_ _ _) | (with_reducible refine Below.setCell ?_ ?_ _) | (with_reducible refine Below.trans ?_ (Below.mono (by assumption) ?_)))) <;> first | omega | (simp; done) | (simp; omega) | (simp [more_size]; done) | (simp [more_size]; omega))) (first
    | (go_at_call 10; refine (inside10 2 a7 1 p7 false _ 25 _ (by (repeat' (first | (with_reducible assumption) | (with_reducible refine hm_new ?_; (first | rfl | (simp; done) | (simp [more_size]; done) | (simp [more_size]; omega))) | (with_reducible refine block_alloc ?_) | (with_reducible refine hm_more ?_) | (with_reducible refine hm_drew ?_) | (with_reducible refine hm_drewN ?_) | (with_reducible refine block_keep' (by assumption) ?_)))) (by decide)).mono ?_; rintro e w' ⟨rfl, hb⟩; have hB' : Below ws.heap.size ws w' := (by (repeat' (first | (with_reducible exact Below.refl _ _) | (with_reducible assumption) | (with_reducible refine Below.drew ?_) | (with_reducible refine Below.alloc ?_ ?_ _) | (with_reducible refine below_more ?_ ?_ _ _) | (with_reducible refine Below.setCell ?_ ?_ _) | (with_reducible refine Below.trans ?_ (Below.mono (by assumption) ?_)))) <;> first | omega | (simp; done) | (simp; omega) | (simp [more_size]; done) | (simp [more_size]; omega)); have hz' := hB'.size)
    | (go_at_call 11; refine (free11_some 2 a7 1 p7 _ (by decide) (by decide)).mono ?_; rintro e w' ⟨rfl, hb⟩; rw [show (2 : Int) - ((1 : Nat) : Int) = 1 from rfl]; have hB' : Below ws.heap.size ws w' := (by (repeat' (first | (with_reducible exact Below.refl _ _) | (with_reducible assumption) | (with_reducible refine Below.drew ?_) | (with_reducible refine Below.alloc ?_ ?_ _) | (with_reducible refine below_more ?_ ?_ _ _) | (with_reducible refine Below.setCell ?_ ?_ _) | (with_reducible refine Below.trans ?_ (Below.mono (by assumption) ?_)))) <;> first | omega | (simp; done) | (simp; omega) | (simp [more_size]; done) | (simp [more_size]; omega)); have hz' := hB'.size)
    | (go_at_call 14; refine (iscut14_w _ _ 25 _ _ (by (repeat' (first | (with_reducible assumption) | (with_reducible refine hm_new ?_; (first | rfl | (simp; done) | (simp [more_size]; done) | (simp [more_size]; omega))) | (with_reducible refine block_alloc ?_) | (with_reducible refine hm_more ?_) | (with_reducible refine hm_drew ?_) | (with_reducible refine hm_drewN ?_) | (with_reducible refine block_keep' (by assumption) ?_)))) (by first | exact .inl ⟨rfl, rfl⟩ | exact .inr ⟨rfl, rfl⟩)).mono ?_; rintro e w' ⟨rfl, hb⟩; (first | rw [show decide ((1 : Nat) = 1) = true from rfl] | rw [show decide ((2 : Nat) = 1) = false from rfl]); have hB' : Below ws.heap.size ws w' := (by (repeat' (first | (with_reducible exact Below.refl _ _) | (with_reducible assumption) | (with_reducible refine Below.drew ?_) | (with_reducible refine Below.alloc ?_ ?_ _) | (with_reducible refine below_more ?_ ?_ _ _) | (with_reducible refine Below.setCell ?_ ?_ _) | (with_reducible refine Below.trans ?_ (Below.mono (by assumption) ?_)))) <;> first | omega | (simp; done) | (simp; omega) | (simp [more_size]; done) | (simp [more_size]; omega)); have hz' := hB'.size)
    | (go_at_call 17; refine (token17 _).mono ?_; rintro e w' ⟨rfl, hb⟩; have hB' : Below ws.heap.size ws w' := (by (repeat' (first | (with_reducible exact Below.refl _ _) | (with_reducible assumption) | (with_reducible refine Below.drew ?_) | (with_reducible refine Below.alloc ?_ ?_ _) | (with_reducible refine below_more ?_ ?_ _ _) | (with_reducible refine Below.setCell ?_ ?_ _) | (with_reducible refine Below.trans ?_ (Below.mono (by assumption) ?_)))) <;> first | omega | (simp; done) | (simp; omega) | (simp [more_size]; done) | (simp [more_size]; omega)); have hz' := hB'.size))
  all_goals
    have HBF := Lib.hid (HBS.out.trans (hB'.mono HBS.out.size))
    clear hb hB' hz'
    go_wp2_with fail
    go_ret
    exact ⟨rfl, HBF.out⟩
end Go.Proofs.Ytmggibmpljoacaa
