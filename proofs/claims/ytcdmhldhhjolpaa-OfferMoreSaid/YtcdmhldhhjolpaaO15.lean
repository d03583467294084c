
/- Walks of the seat of chapter 07: Letter. -/
import Derived.Test.YtcdmhldhhjolpaaO14
import Derived.Deep.DeepCutAuto
namespace Go.Proofs.Ytcdmhldhhjolpaa
open Go.RowKit
attribute [local go_sem ↓] Go.wp_at_zero Go.wp_at_succ
attribute [local go_sem] more_size cell_more_old frozen_more_old setCell_more_old more_drew drew_more old_alloc old_more old_drew old_setCell cell_alloc_old frozen_alloc_old setCell_alloc_old
attribute [local go_sem ↓] load42 store42 load61 store61 load38 store38 load30 store30
attribute [local go_sem] run42 runs42 run61 runs61 run38 runs38 run30 runs30 blk_drew has_drew blk_drewN has_drewN old_drewN blk_alloc_old has_alloc_old blk_alloc_new has_alloc_new setBlk_size setBlk_drew old_setBlk cell_setBlk' cell_setBlk_ne frozen_setBlk blk_setBlk' blk_setBlk_ne has_setBlk' has_setBlk_ne setBlk_alloc_old setBlk_new

set_option maxHeartbeats 1000000 in
theorem letter19 (ar : Option Addr) (nr pr k i B : Nat) (rows : List (List Ofr)) (row : List Ofr) (o : Ofr) (w : World) (hB : w.heap[B]? = some (.cells #[.slice ar nr pr] 22)) (hR : RdRR w (.slice ar nr pr) rows) (hrow : rows[k]? = some row) (ho : row[i]? = some o) :
    Calls Try.prog 19 #[.int .i64 k, .int .i64 i, .pointer (some ⟨B, 0, none⟩)] w fun r w' => r = .returned (.tuple #[.agg #[.int .i8 o.k, .int .i64 o.d, .int .i8 o.m.k, .int .i64 o.m.f, .int .i64 o.m.n, .int .i64 o.m.s, .string o.m.t, .int .i64 o.m.e, .int .i64 o.t], .bool true]) ∧ Below w.heap.size w w' := by
  have cB := cell_block hB
  have oB := block_lt hB
  have qB : Old w B := oB
  have hk0 : decide ((k : Int) < 0) = false := by simp
  have hk1 : (0 : Int) ≤ (k : Int) := by omega
  have hk2 : (k : Int) < (nr : Int) := by have := (List.getElem?_eq_some_iff.1 hrow).1; have := hR.len; omega
  have hi0 : decide ((i : Int) < 0) = false := by simp
  have hi1 : (0 : Int) ≤ (i : Int) := by omega
  have hi2 : (i : Int) < (row.length : Int) := by have := (List.getElem?_eq_some_iff.1 ho).1; omega
  obtain ⟨b, off, a', c', rfl, hb, c0, hro⟩ := hR.at hrow
  obtain ⟨b2, off2, rfl, hb2, -⟩ := hro.at ho
  have hrun := runOf (hro.below (show Below w.heap.size w (w.alloc (.cells #[.int .i8 0, .int .i64 0, .int .i8 0, .int .i64 0, .int .i64 0, .int .i64 0, .string ⟨#[]⟩, .int .i64 0, .int .i64 0] 38)) by (repeat' (first | (with_reducible exact Below.refl _ _) | (with_reducible assumption) | (with_reducible refine Below.drew ?_) | (with_reducible refine Below.alloc ?_ ?_ _) | (with_reducible refine below_more ?_ ?_ _ _) | (with_reducible refine Below.setCell ?_ ?_ _) | (with_reducible refine Below.trans ?_ (Below.mono (by assumption) ?_)))) <;> first | omega | (simp; done) | (simp; omega) | (simp [more_size]; done) | (simp [more_size]; omega))) ho
  have ob : Old w b := hb
  clear hB hR hrow ho hro
  go_enter Try.func19, Try.ntmps19
  go_wp2_with fail
  refine bodyPost_ret (v := .tuple #[.agg #[.int .i8 o.k, .int .i64 o.d, .int .i8 o.m.k, .int .i64 o.m.f, .int .i64 o.m.n, .int .i64 o.m.s, .string o.m.t, .int .i64 o.m.e, .int .i64 o.t], .bool true]) ?_ rfl ⟨rfl, by (repeat' (first | (with_reducible exact Below.refl _ _) | (with_reducible assumption) | (with_reducible refine Below.drew ?_) | (with_reducible refine Below.alloc ?_ ?_ _) | (with_reducible refine below_more ?_ ?_ _ _) | (with_reducible refine Below.setCell ?_ ?_ _) | (with_reducible refine Below.trans ?_ (Below.mono (by assumption) ?_)))) <;> first | omega | (simp; done) | (simp; omega) | (simp [more_size]; done) | (simp [more_size]; omega)⟩
  simp [results, Try.results19, go_sem]
theorem store36 (p v : Value) : Instr.storeAt 36 p v = storeS 36 p v := rfl
theorem runs36 {w : World} {b : Nat} {k f n s e : Int} {t : ByteArray} (h : Has w b 6) : (storeS 36 (.pointer (some ⟨b, 0, none⟩)) (.agg #[.int .i8 k, .int .i64 f, .int .i64 n, .int .i64 s, .string t, .int .i64 e])).run Try.prog w = .ok () (setBlk w b #[.int .i8 k, .int .i64 f, .int .i64 n, .int .i64 s, .string t, .int .i64 e]) := run_storeS (by kernel_rfl) h rfl (by simp [Value.oneCell'])
attribute [local go_sem ↓] store36
attribute [local go_sem] runs36
set_option maxHeartbeats 4000000 in
theorem letter11 (ar : Option Addr) (nr pr p i q j : Nat) (rows : List (List Ofr)) (r1 r2 : List Ofr) (a b : Ofr) (w : World) (hR : RdRR w (.slice ar nr pr) rows) (h1 : rows[p]? = some r1) (h2 : r1[i]? = some a) (h3 : rows[q]? = some r2) (h4 : r2[j]? = some b)
    (ha : a.k = 0) (hb : b.k = 1) (hd : a.d = b.d) :
    Calls Try.prog 11 #[.agg #[.int .i64 p, .int .i64 i, .int .i64 q, .int .i64 j], .slice ar nr pr] w fun r w' => r = .returned (.tuple #[.agg #[.int .i8 a.m.k, .int .i64 a.m.f, .int .i64 a.m.n, .int .i64 a.m.s, .string a.m.t, .int .i64 a.m.e], .bool true]) ∧ Below w.heap.size w w' := by
  have HR := Lib.hid hR
  have H1 := Lib.hid h1
  have H2 := Lib.hid h2
  have H3 := Lib.hid h3
  have H4 := Lib.hid h4
  have HA := Lib.hid ha
  have HBk := Lib.hid hb
  have HDu := Lib.hid hd
  clear hR h1 h2 h3 h4 ha hb hd
  go_enter Try.func11, Try.ntmps11
  go_wp2_with fail
  refine (letter19 ar nr pr p i _ rows r1 a _ (by (repeat' (first | (with_reducible assumption) | (with_reducible refine hm_new ?_; (first | rfl | (simp; done) | (simp [more_size]; done) | (simp [more_size]; omega))) | (with_reducible refine block_alloc ?_) | (with_reducible refine hm_more ?_) | (with_reducible refine hm_drew ?_)))) (HR.out.below (by (repeat' (first | (with_reducible exact Below.refl _ _) | (with_reducible assumption) | (with_reducible refine Below.drew ?_) | (with_reducible refine Below.alloc ?_ ?_ _) | (with_reducible refine below_more ?_ ?_ _ _) | (with_reducible refine Below.setCell ?_ ?_ _) | (with_reducible refine Below.trans ?_ (Below.mono (by assumption) ?_)))) <;> first | omega | (simp; done) | (simp; omega) | (simp [more_size]; done) | (simp [more_size]; omega))) H1.out H2.out).mono ?_
  rintro r w1 ⟨rfl, hb1⟩
  have kM : w1.heap[w.heap.size]? = some (.cells #[.int .i64 p, .int .i64 i, .int .i64 q, .int .i64 j] 30) := block_keep' hb1 (by (repeat' (first | (with_reducible assumption) | (with_reducible refine hm_new ?_; (first | rfl | (simp; done) | (simp [more_size]; done) | (simp [more_size]; omega))) | (with_reducible refine block_alloc ?_) | (with_reducible refine hm_more ?_) | (with_reducible refine hm_drew ?_))))
  have kR : w1.heap[w.heap.size + 1]? = some (.cells #[.slice ar nr pr] 22) := block_keep' hb1 (by (repeat' (first | (with_reducible assumption) | (with_reducible refine hm_new ?_; (first | rfl | (simp; done) | (simp [more_size]; done) | (simp [more_size]; omega))) | (with_reducible refine block_alloc ?_) | (with_reducible refine hm_more ?_) | (with_reducible refine hm_drew ?_))))
  have kL : w1.heap[w.heap.size + 1 + 1]? = some (.cells #[.int .i8 0, .int .i64 0, .int .i64 0, .int .i64 0, .string ⟨#[]⟩, .int .i64 0] 36) := block_keep' hb1 (by (repeat' (first | (with_reducible assumption) | (with_reducible refine hm_new ?_; (first | rfl | (simp; done) | (simp [more_size]; done) | (simp [more_size]; omega))) | (with_reducible refine block_alloc ?_) | (with_reducible refine hm_more ?_) | (with_reducible refine hm_drew ?_))))
  have hB1 : Below w.heap.size w w1 := by (repeat' (first | (with_reducible exact Below.refl _ _) | (with_reducible assumption) | (with_reducible refine Below.drew ?_) | (with_reducible refine Below.alloc ?_ ?_ _) | (with_reducible refine below_more ?_ ?_ _ _) | (with_reducible refine Below.setCell ?_ ?_ _) | (with_reducible refine Below.trans ?_ (Below.mono (by assumption) ?_)))) <;> first | omega | (simp; done) | (simp; omega) | (simp [more_size]; done) | (simp [more_size]; omega)
  have HB1 := Lib.hid hB1
  have KM := Lib.hid kM
  have KR := Lib.hid kR
  have KL := Lib.hid kL
  have cM := cell_block kM
  have oM := block_lt kM
  have qM : Old w1 w.heap.size := oM
  clear kM kR kL hb1 hB1
  go_wp2_with fail
  refine (letter19 ar nr pr q j _ rows r2 b _ (block_alloc KR.out) ((HR.out.below HB1.out).below (by (repeat' (first | (with_reducible exact Below.refl _ _) | (with_reducible assumption) | (with_reducible refine Below.drew ?_) | (with_reducible refine Below.alloc ?_ ?_ _) | (with_reducible refine below_more ?_ ?_ _ _) | (with_reducible refine Below.setCell ?_ ?_ _) | (with_reducible refine Below.trans ?_ (Below.mono (by assumption) ?_)))) <;> first | omega | (simp; done) | (simp; omega) | (simp [more_size]; done) | (simp [more_size]; omega))) H3.out H4.out).mono ?_
  rintro r w2 ⟨rfl, hb2⟩
  have k7 : w2.heap[w1.heap.size]? = some (.cells #[.int .i8 a.k, .int .i64 a.d, .int .i8 a.m.k, .int .i64 a.m.f, .int .i64 a.m.n, .int .i64 a.m.s, .string a.m.t, .int .i64 a.m.e, .int .i64 a.t] 38) := block_keep' hb2 (by (repeat' (first | (with_reducible assumption) | (with_reducible refine hm_new ?_; (first | rfl | (simp; done) | (simp [more_size]; done) | (simp [more_size]; omega))) | (with_reducible refine block_alloc ?_) | (with_reducible refine hm_more ?_) | (with_reducible refine hm_drew ?_))))
  have kL2 : w2.heap[w.heap.size + 1 + 1]? = some (.cells #[.int .i8 0, .int .i64 0, .int .i64 0, .int .i64 0, .string ⟨#[]⟩, .int .i64 0] 36) := block_keep' hb2 (block_alloc KL.out)
  have HB2 := Lib.hid (HB1.out.trans ((show Below w1.heap.size w1 w2 by (repeat' (first | (with_reducible exact Below.refl _ _) | (with_reducible assumption) | (with_reducible refine Below.drew ?_) | (with_reducible refine Below.alloc ?_ ?_ _) | (with_reducible refine below_more ?_ ?_ _ _) | (with_reducible refine Below.setCell ?_ ?_ _) | (with_reducible refine Below.trans ?_ (Below.mono (by assumption) ?_)))) <;> first | omega | (simp; done) | (simp; omega) | (simp [more_size]; done) | (simp [more_size]; omega)).mono HB1.out.size))
  have c7 := cell_block k7
  have o7 := block_lt k7
  have q7 : Old w2 w1.heap.size := o7
  have cL := cell_block kL2
  have fL := free_block kL2
  have oL := block_lt kL2
  have qL : Old w2 (w.heap.size + 1 + 1) := oL
  have hL := Lib.hid kL2
  have mL : Has w2 (w.heap.size + 1 + 1) 6 := has_of kL2
  have cU : ∀ o, (setBlk w2 (w.heap.size + 1 + 1) #[.int .i8 a.m.k, .int .i64 a.m.f, .int .i64 a.m.n, .int .i64 a.m.s, .string a.m.t, .int .i64 a.m.e]).cell? ⟨w.heap.size + 1 + 1, o, none⟩ = (#[.int .i8 a.m.k, .int .i64 a.m.f, .int .i64 a.m.n, .int .i64 a.m.s, .string a.m.t, .int .i64 a.m.e] : Array Value)[o]? := fun o => cell_setBlk _ _ _ 6 _ mL rfl
  clear k7 kL2 hb2 cM oM qM
  have ha := HA.out
  have hb := HBk.out
  have hd := HDu.out
  go_wp2_with fail
  have hB2 := HB2.out
  have hz := HB2.out.size
  refine bodyPost_ret (v := .tuple #[.agg #[.int .i8 a.m.k, .int .i64 a.m.f, .int .i64 a.m.n, .int .i64 a.m.s, .string a.m.t, .int .i64 a.m.e], .bool true]) ?_ rfl ⟨rfl, ?_⟩
  · simp [results, Try.results11, go_sem, cU, qL]
  · exact (Below.setBlk hB2 (by omega) _).alloc (by simp only [setBlk_size]; exact hz) _
end Go.Proofs.Ytcdmhldhhjolpaa
