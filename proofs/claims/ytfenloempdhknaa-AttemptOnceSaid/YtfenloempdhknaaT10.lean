
/- Walks of the seat of chapter 16: the document's example. -/
import Derived.Test.YtfenloempdhknaaT7
import Derived.Test.YtfenloempdhknaaT7b
import Derived.Test.YtfenloempdhknaaT8
import Derived.Test.YtfenloempdhknaaT8b
import Derived.Test.YtfenloempdhknaaT8c
import Derived.Test.YtfenloempdhknaaT9
import Derived.Test.YtfenloempdhknaaBlk
namespace Go.Proofs.Ytfenloempdhknaa
open Go.RowKit
attribute [local go_sem ↓] Go.wp_at_zero Go.wp_at_succ
attribute [local go_sem] more_size cell_more_old frozen_more_old setCell_more_old more_drew drew_more old_alloc old_more old_drew old_setCell cell_alloc_old frozen_alloc_old setCell_alloc_old

theorem load30 (p : Value) : Instr.loadAt 30 p = loadS 30 p := rfl
theorem store30 (p v : Value) : Instr.storeAt 30 p v = storeS 30 p v := rfl
theorem run30 {w : World} {b : Nat} (h : Has w b 16) : (loadS 30 (.pointer (some ⟨b, 0, none⟩))).run Try.prog w = .ok (.agg (blk w b)) w := run_loadS Try.underlying30 (by kernel_rfl) h
theorem runs30 {w : World} {b : Nat} {k0 k1 k2 k3 k4 k5 k6 k7 k8 k9 k10 k11 k12 k13 k14 k15 : IntKind} {n0 n1 n2 n3 n4 n5 n6 n7 n8 n9 n10 n11 n12 n13 n14 n15 : Int} (h : Has w b 16) : (storeS 30 (.pointer (some ⟨b, 0, none⟩)) (.agg #[.int k0 n0, .int k1 n1, .int k2 n2, .int k3 n3, .int k4 n4, .int k5 n5, .int k6 n6, .int k7 n7, .int k8 n8, .int k9 n9, .int k10 n10, .int k11 n11, .int k12 n12, .int k13 n13, .int k14 n14, .int k15 n15])).run Try.prog w = .ok () (setBlk w b #[.int k0 n0, .int k1 n1, .int k2 n2, .int k3 n3, .int k4 n4, .int k5 n5, .int k6 n6, .int k7 n7, .int k8 n8, .int k9 n9, .int k10 n10, .int k11 n11, .int k12 n12, .int k13 n13, .int k14 n14, .int k15 n15]) := run_storeS (by kernel_rfl) h rfl (by simp [Value.oneCell'])
attribute [local go_sem ↓] load30 store30
attribute [local go_sem] run30 runs30 blk_drew has_drew blk_drewN has_drewN old_drewN blk_alloc_old has_alloc_old blk_alloc_new has_alloc_new setBlk_size setBlk_drew old_setBlk cell_setBlk' cell_setBlk_ne frozen_setBlk blk_setBlk' blk_setBlk_ne has_setBlk' has_setBlk_ne setBlk_alloc_old setBlk_new

theorem rdA_blkN {w : World} {b n : Nat} {T : TypeId} {cs : Array Value} {l : List At} (h : w.heap[b]? = some (.cells cs T)) (hcs : cs = (atCells l).toArray) (hn : n = l.length) (h0 : 0 < n) : RdA w (.slice (some ⟨b, 0, none⟩) n n) l := by
  subst hcs hn
  exact RdF.of_block (xs := atCells l) h (atCells_len l) h0
theorem over_row (l : List At) (v : Bool) (b n : Nat) (T : TypeId) (cs : Array Value) (w : World) (h : w.heap[b]? = some (.cells cs T)) (hcs : cs = (atCells l).toArray) (hn : n = l.length) (h0 : 0 < n) (h1 : n ≤ 1000) (hv : overB l = v) :
    Calls Try.prog 8 #[.slice (some ⟨b, 0, none⟩) n n] w fun r w' => r = .returned (.bool v) ∧ Below w.heap.size w w' := by
  subst hv
  exact over8 _ n n l w h1 (rdA_blkN h hcs hn h0)
theorem slots_row (l : List At) (v : Int) (b n : Nat) (T : TypeId) (cs : Array Value) (w : World) (h : w.heap[b]? = some (.cells cs T)) (hcs : cs = (atCells l).toArray) (hn : n = l.length) (h0 : 0 < n) (h1 : n ≤ 1000) (hv : (slotsN l : Int) = v) :
    Calls Try.prog 12 #[.slice (some ⟨b, 0, none⟩) n n] w fun r w' => r = .returned (.int .i64 v) ∧ Below w.heap.size w w' := by
  subst hv
  exact slots12 _ n n l w h1 (rdA_blkN h hcs hn h0)
/-- Holds, of a row: the numbers, and where they lie. -/
def HoldsR (hs : List Int) (w : World) (r : Ending) (w' : World) : Prop := ∃ a' p' m, r = .returned (.slice a' m p') ∧ m = hs.length ∧ RdI w' (.slice a' m p') hs ∧ Below w.heap.size w w'
theorem holds_row (l : List At) (hs : List Int) (b n : Nat) (T : TypeId) (cs : Array Value) (w : World) (h : w.heap[b]? = some (.cells cs T)) (hcs : cs = (atCells l).toArray) (hn : n = l.length) (h0 : 0 < n) (h1 : n ≤ 1000) (hv : holdsL l = hs) :
    Calls Try.prog 13 #[.slice (some ⟨b, 0, none⟩) n n] w (HoldsR hs w) := by
  subst hv
  refine (holds13 _ n n l w h1 (rdA_blkN h hcs hn h0)).mono ?_
  rintro r w' ⟨a', p', m, rfl, hm, ho, hb⟩
  exact ⟨a', p', m, rfl, hm, RdI.of_owns (by rw [← hm]; exact ho), hb⟩

/-- Take, of an attempt whose address is plain. -/
def TakeO (i r o n p s k : Int) (l : List De) (w : World) (e : Ending) (w' : World) : Prop :=
  ∃ (a : Option Addr) (c q : Nat), e = .returned (.tuple #[.agg #[.int .i64 i, .int .i64 r, .int .i64 o, .int .i64 n, .int .i8 0, .int .u16 0, .int .u16 0, .int .u16 0, .int .u16 0, .int .u16 0, .int .u16 0, .int .u16 0, .int .u16 0, .int .i64 p, .int .i8 s, .int .i64 (k)], .slice a c q]) ∧ c = l.length ∧ RdD w' (.slice a c q) l ∧ Below w.heap.size w w'
theorem takeO_of {i r o n p s k : Int} {l : List De} {w w' : World} {e : Ending} (h : TakeR ⟨i, r, o, n, 0, 0, 0, 0, 0, 0, 0, 0, 0, p, s, k⟩ l w e w') : TakeO i r o n p s k l w e w' := by
  obtain ⟨a, c, q, h1, h2, h3, h4⟩ := h
  exact ⟨a, c, q, h1, h2, rdD_of h2 h3, h4⟩
theorem take_dc (i r o n p k : Int) (m : Lt) (w : World) : Calls Try.prog 11 #[.agg #[.int .i64 i, .int .i64 r, .int .i64 o, .int .i64 n, .int .i8 0, .int .u16 0, .int .u16 0, .int .u16 0, .int .u16 0, .int .u16 0, .int .u16 0, .int .u16 0, .int .u16 0, .int .i64 p, .int .i8 0, .int .i64 (k)], .int .i64 1, .agg #[.int .i8 m.k, .int .i64 m.f, .int .i64 m.n, .int .i64 m.s, .string m.t, .int .i64 m.e]] w (TakeO i r o n p 1 k [⟨5, i⟩] w) :=
  (take11_dc ⟨i, r, o, n, 0, 0, 0, 0, 0, 0, 0, 0, 0, p, 0, k⟩ m w).mono fun _ _ h => takeO_of h
theorem take_de (i r o n p k : Int) (m : Lt) (w : World) (hw : o ≤ 1125899906842624) : Calls Try.prog 11 #[.agg #[.int .i64 i, .int .i64 r, .int .i64 o, .int .i64 n, .int .i8 0, .int .u16 0, .int .u16 0, .int .u16 0, .int .u16 0, .int .u16 0, .int .u16 0, .int .u16 0, .int .u16 0, .int .i64 p, .int .i8 0, .int .i64 (k)], .int .i64 0, .agg #[.int .i8 m.k, .int .i64 m.f, .int .i64 m.n, .int .i64 m.s, .string m.t, .int .i64 m.e]] w (TakeO i r o n p 2 (endV m) (backL m.e o) w) :=
  (take11_de ⟨i, r, o, n, 0, 0, 0, 0, 0, 0, 0, 0, 0, p, 0, k⟩ m w hw).mono fun _ _ h => takeO_of h
theorem take_ab (i r o n p k : Int) (m : Lt) (w : World) (hw : o ≤ 1125899906842624) : Calls Try.prog 11 #[.agg #[.int .i64 i, .int .i64 r, .int .i64 o, .int .i64 n, .int .i8 0, .int .u16 0, .int .u16 0, .int .u16 0, .int .u16 0, .int .u16 0, .int .u16 0, .int .u16 0, .int .u16 0, .int .i64 p, .int .i8 1, .int .i64 (k)], .int .i64 0, .agg #[.int .i8 m.k, .int .i64 m.f, .int .i64 m.n, .int .i64 m.s, .string m.t, .int .i64 m.e]] w (TakeO i r o n p 3 k (dropL (endV m) ++ [⟨3, ofV o 4⟩]) w) :=
  (take11_ab ⟨i, r, o, n, 0, 0, 0, 0, 0, 0, 0, 0, 0, p, 1, k⟩ m w hw).mono fun _ _ h => takeO_of h
theorem take_tn (i r o n p k : Int) (m : Lt) (w : World) : Calls Try.prog 11 #[.agg #[.int .i64 i, .int .i64 r, .int .i64 o, .int .i64 n, .int .i8 0, .int .u16 0, .int .u16 0, .int .u16 0, .int .u16 0, .int .u16 0, .int .u16 0, .int .u16 0, .int .u16 0, .int .i64 p, .int .i8 2, .int .i64 (k)], .int .i64 0, .agg #[.int .i8 m.k, .int .i64 m.f, .int .i64 m.n, .int .i64 m.s, .string m.t, .int .i64 m.e]] w (TakeO i r o n p 3 k [] w) :=
  (take11_tn ⟨i, r, o, n, 0, 0, 0, 0, 0, 0, 0, 0, 0, p, 2, k⟩ m w).mono fun _ _ h => takeO_of h
theorem take_td (i r o n p k : Int) (m : Lt) (w : World) (hs : 0 ≤ k) (hw : o ≤ 1125899906842624) : Calls Try.prog 11 #[.agg #[.int .i64 i, .int .i64 r, .int .i64 o, .int .i64 n, .int .i8 0, .int .u16 0, .int .u16 0, .int .u16 0, .int .u16 0, .int .u16 0, .int .u16 0, .int .u16 0, .int .u16 0, .int .i64 p, .int .i8 2, .int .i64 (k)], .int .i64 1, .agg #[.int .i8 m.k, .int .i64 m.f, .int .i64 m.n, .int .i64 m.s, .string m.t, .int .i64 m.e]] w (TakeO i r o n p 3 k ([⟨6, k⟩] ++ [⟨3, ofV o 4⟩]) w) :=
  (take11_td ⟨i, r, o, n, 0, 0, 0, 0, 0, 0, 0, 0, 0, p, 2, k⟩ m w hs hw).mono fun _ _ h => takeO_of h
theorem take_tz (i r o n p k : Int) (m : Lt) (w : World) (hs : k < 0) : Calls Try.prog 11 #[.agg #[.int .i64 i, .int .i64 r, .int .i64 o, .int .i64 n, .int .i8 0, .int .u16 0, .int .u16 0, .int .u16 0, .int .u16 0, .int .u16 0, .int .u16 0, .int .u16 0, .int .u16 0, .int .i64 p, .int .i8 2, .int .i64 (k)], .int .i64 1, .agg #[.int .i8 m.k, .int .i64 m.f, .int .i64 m.n, .int .i64 m.s, .string m.t, .int .i64 m.e]] w (TakeO i r o n p 3 k [] w) :=
  (take11_tz ⟨i, r, o, n, 0, 0, 0, 0, 0, 0, 0, 0, 0, p, 2, k⟩ m w hs).mono fun _ _ h => takeO_of h

set_option maxRecDepth 100000 in
set_option maxHeartbeats 4000000 in
theorem wakes6 (w : World) : Calls Try.prog 6 #[] w fun r w' => r = .returned (.bool true) ∧ Below w.heap.size w w' := by
  go_enter Try.func6, Try.ntmps6
  go_wp2_with fail
  refine (begin7 9 7 1 0 80 _).mono ?_
  rintro r w1 ⟨bD, rfl, kD, hb1⟩
  have cD := cell_block kD
  have oD := block_lt kD
  have HB1 := Lib.hid hb1
  clear kD hb1
  go_wp2_with fail
  refine (take_de 9 7 1 0 80 (-1) ⟨11, 0, 0, 4, ⟨#[]⟩, 0⟩ _ (by decide)).mono ?_
  rintro r w2 ⟨a2, n2, p2, rfl, hn2, hr2, hb2⟩
  obtain rfl : n2 = 0 := hn2
  have kA : w2.heap[w1.heap.size]? = some (.cells #[.int .i64 9, .int .i64 7, .int .i64 1, .int .i64 0, .int .i8 0, .int .u16 0, .int .u16 0, .int .u16 0, .int .u16 0, .int .u16 0, .int .u16 0, .int .u16 0, .int .u16 0, .int .i64 80, .int .i8 0, .int .i64 (-1)] 30) := block_keep' hb2 (by (repeat' (first | (with_reducible assumption) | (with_reducible refine hm_new ?_; (first | rfl | (simp; done) | (simp [more_size]; done) | (simp [more_size]; omega))) | (with_reducible refine block_alloc ?_) | (with_reducible refine hm_more ?_) | (with_reducible refine hm_drew ?_))))
  have hB2 : Below w1.heap.size w1 w2 := by (repeat' (first | (with_reducible exact Below.refl _ _) | (with_reducible assumption) | (with_reducible refine Below.drew ?_) | (with_reducible refine Below.alloc ?_ ?_ _) | (with_reducible refine below_more ?_ ?_ _ _) | (with_reducible refine Below.setCell ?_ ?_ _) | (with_reducible refine Below.trans ?_ (Below.mono (by assumption) ?_)))) <;> first | omega | (simp; done) | (simp; omega) | (simp [more_size]; done) | (simp [more_size]; omega)
  have HB2 := Lib.hid (HB1.out.trans (hB2.mono HB1.out.size))
  have cA := cell_block kA
  have oA := block_lt kA
  have lA := blk_of kA
  have qA : Old w2 w1.heap.size := oA
  have hA : Has w2 w1.heap.size 16 := has_of kA
  have KA := Lib.hid kA
  rw [show endV ⟨11, 0, 0, 4, ⟨#[]⟩, 0⟩ = 4 from rfl]
  clear hr2 hb2 hB2 cD kA HB1
  go_wp2_with fail
  refine (holds_row [⟨9, 7, 1, 0, 0, 0, 0, 0, 0, 0, 0, 0, 0, 80, 0, -1⟩, ⟨9, 7, 1, 0, 0, 0, 0, 0, 0, 0, 0, 0, 0, 80, 2, 4⟩] [4] _ 2 30 #[.int .i64 9, .int .i64 7, .int .i64 1, .int .i64 0, .int .i8 0, .int .u16 0, .int .u16 0, .int .u16 0, .int .u16 0, .int .u16 0, .int .u16 0, .int .u16 0, .int .u16 0, .int .i64 80, .int .i8 0, .int .i64 (-1), .int .i64 9, .int .i64 7, .int .i64 1, .int .i64 0, .int .i8 0, .int .u16 0, .int .u16 0, .int .u16 0, .int .u16 0, .int .u16 0, .int .u16 0, .int .u16 0, .int .u16 0, .int .i64 80, .int .i8 2, .int .i64 (4)] _ (by (repeat' (first | (with_reducible assumption) | (with_reducible refine hm_new ?_; (first | rfl | (simp; done) | (simp [more_size]; done) | (simp [more_size]; omega))) | (with_reducible refine block_alloc ?_) | (with_reducible refine hm_more ?_) | (with_reducible refine hm_drew ?_)))) rfl rfl (by decide) (by decide) rfl).mono ?_
  rintro r w3 ⟨a3, p3, n3, rfl, hn3, hr3, hb3⟩
  obtain rfl : n3 = 1 := hn3
  have kA3 : w3.heap[w1.heap.size]? = some (.cells #[.int .i64 9, .int .i64 7, .int .i64 1, .int .i64 0, .int .i8 0, .int .u16 0, .int .u16 0, .int .u16 0, .int .u16 0, .int .u16 0, .int .u16 0, .int .u16 0, .int .u16 0, .int .i64 80, .int .i8 0, .int .i64 (-1)] 30) := block_keep' hb3 (block_alloc (block_alloc KA.out))
  have kB3 : w3.heap[w2.heap.size]? = some (.cells #[.int .i64 9, .int .i64 7, .int .i64 1, .int .i64 0, .int .i8 0, .int .u16 0, .int .u16 0, .int .u16 0, .int .u16 0, .int .u16 0, .int .u16 0, .int .u16 0, .int .u16 0, .int .i64 80, .int .i8 2, .int .i64 (4)] 30) := block_keep' hb3 (by (repeat' (first | (with_reducible assumption) | (with_reducible refine hm_new ?_; (first | rfl | (simp; done) | (simp [more_size]; done) | (simp [more_size]; omega))) | (with_reducible refine block_alloc ?_) | (with_reducible refine hm_more ?_) | (with_reducible refine hm_drew ?_))))
  have hB3 : Below w2.heap.size w2 w3 := by (repeat' (first | (with_reducible exact Below.refl _ _) | (with_reducible assumption) | (with_reducible refine Below.drew ?_) | (with_reducible refine Below.alloc ?_ ?_ _) | (with_reducible refine below_more ?_ ?_ _ _) | (with_reducible refine Below.setCell ?_ ?_ _) | (with_reducible refine Below.trans ?_ (Below.mono (by assumption) ?_)))) <;> first | omega | (simp; done) | (simp; omega) | (simp [more_size]; done) | (simp [more_size]; omega)
  have HB3 := Lib.hid (HB2.out.trans (hB3.mono HB2.out.size))
  have lB3 := blk_of kB3
  have hB3' : Has w3 w2.heap.size 16 := has_of kB3
  have oB3 := block_lt kB3
  have qB3 : Old w3 w2.heap.size := oB3
  have KA3 := Lib.hid kA3
  have KB3 := Lib.hid kB3
  have HR3 := Lib.hid hr3
  clear hb3 hB3 kA3 kB3 cA lA hA qA oA KA HB2 hr3
  go_wp2_with fail
  refine (take_tn 9 7 1 0 80 4 zLt _).mono ?_
  rintro r w4 ⟨a4, n4, p4, rfl, hn4, hr4, hb4⟩
  obtain rfl : n4 = 0 := hn4
  have hB4 : Below w3.heap.size w3 w4 := by (repeat' (first | (with_reducible exact Below.refl _ _) | (with_reducible assumption) | (with_reducible refine Below.drew ?_) | (with_reducible refine Below.alloc ?_ ?_ _) | (with_reducible refine below_more ?_ ?_ _ _) | (with_reducible refine Below.setCell ?_ ?_ _) | (with_reducible refine Below.trans ?_ (Below.mono (by assumption) ?_)))) <;> first | omega | (simp; done) | (simp; omega) | (simp [more_size]; done) | (simp [more_size]; omega)
  have HB4 := Lib.hid (HB3.out.trans (hB4.mono HB3.out.size))
  have KA4 := Lib.hid (block_keep' hB4 KA3.out)
  have KB4 := Lib.hid (block_keep' hB4 KB3.out)
  have HR4 := Lib.hid (HR3.out.below hB4)
  have lB4 := blk_of KB4.out
  have hB4' : Has w4 w2.heap.size 16 := has_of KB4.out
  have oB4 := block_lt KB4.out
  have qB4 : Old w4 w2.heap.size := oB4
  clear hb4 hB4 hr4 lB3 hB3' qB3 KA3 KB3 HB3 HR3
  go_wp2_with fail
  refine (take_td 9 7 1 0 80 4 zLt _ (by decide) (by decide)).mono ?_
  rintro r w5 ⟨a5, n5, p5, rfl, hn5, hr5, hb5⟩
  obtain rfl : n5 = 2 := hn5
  have hB5 : Below w4.heap.size w4 w5 := by (repeat' (first | (with_reducible exact Below.refl _ _) | (with_reducible assumption) | (with_reducible refine Below.drew ?_) | (with_reducible refine Below.alloc ?_ ?_ _) | (with_reducible refine below_more ?_ ?_ _ _) | (with_reducible refine Below.setCell ?_ ?_ _) | (with_reducible refine Below.trans ?_ (Below.mono (by assumption) ?_)))) <;> first | omega | (simp; done) | (simp; omega) | (simp [more_size]; done) | (simp [more_size]; omega)
  have HB5 := Lib.hid (HB4.out.trans (hB5.mono HB4.out.size))
  have KA5 := Lib.hid (block_keep' hB5 KA4.out)
  have KB5 := Lib.hid (block_keep' hB5 KB4.out)
  have KC5 : Hid (w5.heap[w4.heap.size]? = some (.cells #[.int .i64 9, .int .i64 7, .int .i64 1, .int .i64 0, .int .i8 0, .int .u16 0, .int .u16 0, .int .u16 0, .int .u16 0, .int .u16 0, .int .u16 0, .int .u16 0, .int .u16 0, .int .i64 80, .int .i8 3, .int .i64 (4)] 30)) := Lib.hid (block_keep' hb5 (by (repeat' (first | (with_reducible assumption) | (with_reducible refine hm_new ?_; (first | rfl | (simp; done) | (simp [more_size]; done) | (simp [more_size]; omega))) | (with_reducible refine block_alloc ?_) | (with_reducible refine hm_more ?_) | (with_reducible refine hm_drew ?_)))))
  have HR5 := Lib.hid (HR4.out.below hB5)
  have HD5 := Lib.hid hr5
  obtain ⟨bh, oh, cph, he, hch, hlth, hxh⟩ := (HR5.out.resolve_left (fun h => by simp at h)).2
  cases he
  have ch : w5.cell? ⟨bh, oh, none⟩ = some (.int .i64 4) := hxh 0 4 rfl
  have qh : Old w5 bh := hlth
  have lC5 := blk_of KC5.out
  have hC5 : Has w5 (w4.heap.size) 16 := has_of KC5.out
  have oC5 := block_lt KC5.out
  have qC5 : Old w5 (w4.heap.size) := oC5
  clear hb5 hB5 hr5 lB4 hB4' qB4 oB4 KA4 KB4 HB4 HR4 HR5 hxh hch
  go_wp2_with fail
  refine (over_row [⟨9, 7, 1, 0, 0, 0, 0, 0, 0, 0, 0, 0, 0, 80, 3, 4⟩] true _ 1 30 #[.int .i64 9, .int .i64 7, .int .i64 1, .int .i64 0, .int .i8 0, .int .u16 0, .int .u16 0, .int .u16 0, .int .u16 0, .int .u16 0, .int .u16 0, .int .u16 0, .int .u16 0, .int .i64 80, .int .i8 3, .int .i64 (4)] _ (by (repeat' (first | (with_reducible assumption) | (with_reducible refine hm_new ?_; (first | rfl | (simp; done) | (simp [more_size]; done) | (simp [more_size]; omega))) | (with_reducible refine block_alloc ?_) | (with_reducible refine hm_more ?_) | (with_reducible refine hm_drew ?_)))) rfl rfl (by decide) (by decide) rfl).mono ?_
  rintro r w6 ⟨rfl, hb6⟩
  have hB6 : Below w5.heap.size w5 w6 := by (repeat' (first | (with_reducible exact Below.refl _ _) | (with_reducible assumption) | (with_reducible refine Below.drew ?_) | (with_reducible refine Below.alloc ?_ ?_ _) | (with_reducible refine below_more ?_ ?_ _ _) | (with_reducible refine Below.setCell ?_ ?_ _) | (with_reducible refine Below.trans ?_ (Below.mono (by assumption) ?_)))) <;> first | omega | (simp; done) | (simp; omega) | (simp [more_size]; done) | (simp [more_size]; omega)
  have HB6 := Lib.hid (HB5.out.trans (hB6.mono HB5.out.size))
  have KA6 := Lib.hid (block_keep' hB6 KA5.out)
  have KB6 := Lib.hid (block_keep' hB6 KB5.out)
  have KC6 := Lib.hid (block_keep' hB6 KC5.out)
  have KX6 : Hid (w6.heap[w5.heap.size]? = some (.cells #[.int .i64 9, .int .i64 7, .int .i64 1, .int .i64 0, .int .i8 0, .int .u16 0, .int .u16 0, .int .u16 0, .int .u16 0, .int .u16 0, .int .u16 0, .int .u16 0, .int .u16 0, .int .i64 80, .int .i8 3, .int .i64 (4)] 30)) := Lib.hid (block_keep' hb6 (by (repeat' (first | (with_reducible assumption) | (with_reducible refine hm_new ?_; (first | rfl | (simp; done) | (simp [more_size]; done) | (simp [more_size]; omega))) | (with_reducible refine block_alloc ?_) | (with_reducible refine hm_more ?_) | (with_reducible refine hm_drew ?_)))))
  obtain ⟨bd, od, rfl, hbd, d0, d1, -⟩ := (HD5.out.below hB6).at (k := 0) rfl
  obtain ⟨bd', od', he', -, e0, -⟩ := (HD5.out.below hB6).at (k := 1) rfl
  cases he'
  simp only [Nat.zero_mul, Nat.add_zero, Nat.one_mul] at d0 d1 e0
  have qd : Old w6 bd := hbd
  have lX6 := blk_of KX6.out
  have hX6 : Has w6 (w5.heap.size) 16 := has_of KX6.out
  have oX6 := block_lt KX6.out
  have qX6 : Old w6 (w5.heap.size) := oX6
  clear hb6 hB6 lC5 hC5 qC5 oC5 KA5 KB5 KC5 HB5 HD5 ch qh
  go_wp2_with fail
  refine (over_row [⟨9, 7, 1, 0, 0, 0, 0, 0, 0, 0, 0, 0, 0, 80, 3, 4⟩] true _ 1 30 #[.int .i64 9, .int .i64 7, .int .i64 1, .int .i64 0, .int .i8 0, .int .u16 0, .int .u16 0, .int .u16 0, .int .u16 0, .int .u16 0, .int .u16 0, .int .u16 0, .int .u16 0, .int .i64 80, .int .i8 3, .int .i64 (4)] _ (by (repeat' (first | (with_reducible assumption) | (with_reducible refine hm_new ?_; (first | rfl | (simp; done) | (simp [more_size]; done) | (simp [more_size]; omega))) | (with_reducible refine block_alloc ?_) | (with_reducible refine hm_more ?_) | (with_reducible refine hm_drew ?_)))) rfl rfl (by decide) (by decide) rfl).mono ?_
  rintro r w7 ⟨rfl, hb7⟩
  have hB7 : Below w6.heap.size w6 w7 := by (repeat' (first | (with_reducible exact Below.refl _ _) | (with_reducible assumption) | (with_reducible refine Below.drew ?_) | (with_reducible refine Below.alloc ?_ ?_ _) | (with_reducible refine below_more ?_ ?_ _ _) | (with_reducible refine Below.setCell ?_ ?_ _) | (with_reducible refine Below.trans ?_ (Below.mono (by assumption) ?_)))) <;> first | omega | (simp; done) | (simp; omega) | (simp [more_size]; done) | (simp [more_size]; omega)
  have HB7 := Lib.hid (HB6.out.trans (hB7.mono HB6.out.size))
  have KA7 := Lib.hid (block_keep' hB7 KA6.out)
  have KB7 := Lib.hid (block_keep' hB7 KB6.out)
  have KC7 := Lib.hid (block_keep' hB7 KC6.out)
  have lA7 := blk_of KA7.out
  have hA7 : Has w7 (w1.heap.size) 16 := has_of KA7.out
  have oA7 := block_lt KA7.out
  have qA7 : Old w7 (w1.heap.size) := oA7
  clear hb7 hB7 lX6 hX6 qX6 oX6 KA6 KB6 KC6 KX6 HB6 d0 d1 e0 qd
  go_wp2_with fail
  refine (over_row [⟨9, 7, 1, 0, 0, 0, 0, 0, 0, 0, 0, 0, 0, 80, 0, -1⟩] false _ 1 30 #[.int .i64 9, .int .i64 7, .int .i64 1, .int .i64 0, .int .i8 0, .int .u16 0, .int .u16 0, .int .u16 0, .int .u16 0, .int .u16 0, .int .u16 0, .int .u16 0, .int .u16 0, .int .i64 80, .int .i8 0, .int .i64 (-1)] _ (by (repeat' (first | (with_reducible assumption) | (with_reducible refine hm_new ?_; (first | rfl | (simp; done) | (simp [more_size]; done) | (simp [more_size]; omega))) | (with_reducible refine block_alloc ?_) | (with_reducible refine hm_more ?_) | (with_reducible refine hm_drew ?_)))) rfl rfl (by decide) (by decide) rfl).mono ?_
  rintro r w8 ⟨rfl, hb8⟩
  have hB8 : Below w7.heap.size w7 w8 := by (repeat' (first | (with_reducible exact Below.refl _ _) | (with_reducible assumption) | (with_reducible refine Below.drew ?_) | (with_reducible refine Below.alloc ?_ ?_ _) | (with_reducible refine below_more ?_ ?_ _ _) | (with_reducible refine Below.setCell ?_ ?_ _) | (with_reducible refine Below.trans ?_ (Below.mono (by assumption) ?_)))) <;> first | omega | (simp; done) | (simp; omega) | (simp [more_size]; done) | (simp [more_size]; omega)
  have HB8 := Lib.hid (HB7.out.trans (hB8.mono HB7.out.size))
  have KA8 := Lib.hid (block_keep' hB8 KA7.out)
  have KB8 := Lib.hid (block_keep' hB8 KB7.out)
  have KC8 := Lib.hid (block_keep' hB8 KC7.out)
  have lA8 := blk_of KA8.out
  have mA8 : Has w8 (w1.heap.size) 16 := has_of KA8.out
  have oA8 := block_lt KA8.out
  have qA8 : Old w8 (w1.heap.size) := oA8
  have lB8 := blk_of KB8.out
  have mB8 : Has w8 (w2.heap.size) 16 := has_of KB8.out
  have oB8 := block_lt KB8.out
  have qB8 : Old w8 (w2.heap.size) := oB8
  have lC8 := blk_of KC8.out
  have mC8 : Has w8 (w4.heap.size) 16 := has_of KC8.out
  have oC8 := block_lt KC8.out
  have qC8 : Old w8 (w4.heap.size) := oC8
  clear hb8 hB8 lA7 hA7 qA7 oA7 KA7 KB7 KC7 HB7
  go_wp2_with fail
  refine (slots_row [⟨9, 7, 1, 0, 0, 0, 0, 0, 0, 0, 0, 0, 0, 80, 0, -1⟩, ⟨9, 7, 1, 0, 0, 0, 0, 0, 0, 0, 0, 0, 0, 80, 2, 4⟩, ⟨9, 7, 1, 0, 0, 0, 0, 0, 0, 0, 0, 0, 0, 80, 3, 4⟩] 2 _ 3 30 #[.int .i64 9, .int .i64 7, .int .i64 1, .int .i64 0, .int .i8 0, .int .u16 0, .int .u16 0, .int .u16 0, .int .u16 0, .int .u16 0, .int .u16 0, .int .u16 0, .int .u16 0, .int .i64 80, .int .i8 0, .int .i64 (-1), .int .i64 9, .int .i64 7, .int .i64 1, .int .i64 0, .int .i8 0, .int .u16 0, .int .u16 0, .int .u16 0, .int .u16 0, .int .u16 0, .int .u16 0, .int .u16 0, .int .u16 0, .int .i64 80, .int .i8 2, .int .i64 (4), .int .i64 9, .int .i64 7, .int .i64 1, .int .i64 0, .int .i8 0, .int .u16 0, .int .u16 0, .int .u16 0, .int .u16 0, .int .u16 0, .int .u16 0, .int .u16 0, .int .u16 0, .int .i64 80, .int .i8 3, .int .i64 (4)] _ (by (repeat' (first | (with_reducible assumption) | (with_reducible refine hm_new ?_; (first | rfl | (simp; done) | (simp [more_size]; done) | (simp [more_size]; omega))) | (with_reducible refine block_alloc ?_) | (with_reducible refine hm_more ?_) | (with_reducible refine hm_drew ?_)))) rfl rfl (by decide) (by decide) rfl).mono ?_
  rintro r w9 ⟨rfl, hb9⟩
  have HB9 := Lib.hid (HB8.out.trans ((show Below w8.heap.size w8 w9 by (repeat' (first | (with_reducible exact Below.refl _ _) | (with_reducible assumption) | (with_reducible refine Below.drew ?_) | (with_reducible refine Below.alloc ?_ ?_ _) | (with_reducible refine below_more ?_ ?_ _ _) | (with_reducible refine Below.setCell ?_ ?_ _) | (with_reducible refine Below.trans ?_ (Below.mono (by assumption) ?_)))) <;> first | omega | (simp; done) | (simp; omega) | (simp [more_size]; done) | (simp [more_size]; omega)).mono HB8.out.size))
  clear hb9
  go_wp2_with fail
  go_ret
  exact ⟨rfl, HB9.out⟩
end Go.Proofs.Ytfenloempdhknaa
