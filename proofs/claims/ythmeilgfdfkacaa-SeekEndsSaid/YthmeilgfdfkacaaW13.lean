

/- The walk of SeekEnds, where the lookup ended badly. -/
import Derived.Test.YthmeilgfdfkacaaW9
import Derived.Test.YthmeilgfdfkacaaCls
import Derived.Test.YthmeilgfdfkacaaW12
namespace Go.Proofs.Ythmeilgfdfkacaa
open Go.RowKit
attribute [local go_sem ↓] Go.wp_at_zero Go.wp_at_succ
attribute [local go_sem] more_size cell_more_old frozen_more_old setCell_more_old more_drew drew_more old_alloc old_more old_drew old_setCell cell_alloc_old frozen_alloc_old setCell_alloc_old

set_option maxRecDepth 100000 in
set_option maxHeartbeats 24000000 in
theorem ends4_err (id namer : Int) (nme : ByteArray) (k f n sk e i : Int) (t : ByteArray) (w : World) (h3 : t.size ≤ 140737488351232) (h4 : nme.size ≤ 140737488351232) (he : (e == 0) = false) :
    Calls Try.prog 4 #[.int .i64 id, .int .i64 namer, .string nme, .agg #[.int .i8 k, .int .i64 f, .int .i64 n, .int .i64 sk, .string t, .int .i64 e], .int .i64 i] w fun r w' => r = .returned (.bool true) ∧ Below w.heap.size w w' := by
  have he2 : (e != 0) = true := by simp only [bne, he]; rfl
  have hj : bits BinOp.and IntKind.i64 i 1 = andOne i := rfl
  have hj0 := (andOne_lo i).1
  have hj1 := (andOne_lo i).2
  generalize andOne i = j at *
  have HTT : Hid (toldText e t = ⟨#[]⟩) := by show toldText e t = ⟨#[]⟩; unfold toldText; rw [if_neg (by simpa using he)]
  go_enter Try.func4, Try.ntmps4
  go_wp2_with fail
  refine (great6 ⟨0, namer, 0, 0, 0, 0, 0, 0, nme, ⟨#[]⟩⟩ _ _ _ _ _ _ _ h4 (by show 0 ≤ _; omega) h3).mono ?_
  rintro r w1 ⟨g, rfl, hg, hb⟩
  obtain ⟨x, d, rfl⟩ := more_of_below hb; clear hb
  cases g
  case true =>
    clear hg
    go_wp2_with fail
    (refine (wakes7 _).mono ?_; rintro r w9 ⟨rfl, hb9⟩; obtain ⟨x9, d9, rfl⟩ := more_of_below hb9; clear hb9; go_wp2; go_ret; exact ⟨rfl, by (repeat' (first | (with_reducible exact Below.refl _ _) | (with_reducible assumption) | (with_reducible refine Below.drew ?_) | (with_reducible refine Below.alloc ?_ ?_ _) | (with_reducible refine below_more ?_ ?_ _ _) | (with_reducible refine Below.setCell ?_ ?_ _) | (with_reducible refine Below.trans ?_ (Below.mono (by assumption) ?_)))) <;> first | omega | (simp; done) | (simp; omega) | (simp [more_size]; done) | (simp [more_size]; omega)⟩)
  case false =>
    obtain ⟨hs, hnm⟩ := hg rfl
    simp only at hs hnm
    clear hg
    go_wp2_with fail
    refine (begin8 _ _ _ _).mono ?_
    rintro r w1 ⟨b, rfl, kd, g, hb⟩
    obtain ⟨x1, y1, d1, rfl, rfl⟩ := more_of_block hb kd g
    clear kd g hb
    go_wp2_with fail
    refine (take14_zero_no _ _ _ _ _ _ _ _ _ _ _ _ _ _ _ _ _ hnm (by omega)).mono ?_
    rintro r w1 ⟨rfl, hb⟩
    obtain ⟨x2, d2, rfl⟩ := more_of_below hb
    clear hb
    go_wp2_with fail
    refine (offers12_zero _ _ _ _ _ _ _ _ _ _ hnm).mono ?_
    rintro r w1 ⟨b, rfl, kd, g, hb⟩
    clear kd g
    obtain ⟨x3, d3, rfl⟩ := more_of_below hb
    clear hb
    go_wp2_with fail
    refine (take14_told _ _ _ _ _ _ _ _ _ _ _ _ _ _ _ _ hnm).mono ?_
    rintro r w1 ⟨rfl, hb⟩
    rw [HTT.out]
    obtain ⟨x4, d4, rfl⟩ := more_of_below hb
    clear hb
    go_wp2_with fail
    refine (offers12_one _ _ _ _ _ _ _ _ _ _ hnm).mono ?_
    rintro r w1 ⟨b, rfl, kd, g, hb⟩
    have kM : w1.heap[w.heap.size]? = some (.cells #[.int .i8 k, .int .i64 f, .int .i64 n, .int .i64 sk, .string t, .int .i64 e] 25) := block_keep' hb (by (repeat' (first | (with_reducible assumption) | (with_reducible refine hm_new ?_; (first | rfl | (simp; done) | (simp [more_size]; done) | (simp [more_size]; omega))) | (with_reducible refine block_alloc ?_) | (with_reducible refine hm_more ?_) | (with_reducible refine hm_drew ?_))))
    have kA : w1.heap[w.heap.size + 1 + x.size + x1.size + 1 + y1.size]? = some (.cells #[.int .i64 id, .int .i64 namer, .string nme, .int .i8 1, .int .i8 7, .int .i64 id, .int .i64 0, .int .i64 0, .string ⟨#[]⟩, .int .i64 e] 27) := block_keep' hb (by (repeat' (first | (with_reducible assumption) | (with_reducible refine hm_new ?_; (first | rfl | (simp; done) | (simp [more_size]; done) | (simp [more_size]; omega))) | (with_reducible refine block_alloc ?_) | (with_reducible refine hm_more ?_) | (with_reducible refine hm_drew ?_))))
    have hB : Below w.heap.size w w1 := by (repeat' (first | (with_reducible exact Below.refl _ _) | (with_reducible assumption) | (with_reducible refine Below.drew ?_) | (with_reducible refine Below.alloc ?_ ?_ _) | (with_reducible refine below_more ?_ ?_ _ _) | (with_reducible refine Below.setCell ?_ ?_ _) | (with_reducible refine Below.trans ?_ (Below.mono (by assumption) ?_)))) <;> first | omega | (simp; done) | (simp; omega) | (simp [more_size]; done) | (simp [more_size]; omega)
    have oM : w.heap.size < w1.heap.size := block_lt kM
    have oA := block_lt kA
    have ob := block_lt kd
    have hz : w.heap.size ≤ w1.heap.size := Nat.le_of_lt oM
    have cM := cell_block kM
    have cA := cell_block kA
    have cb := cell_block kd
    clear g hb
    have HGE : Hid (w.heap.size ≤ w.heap.size + 1 + x.size + x1.size + 1 + y1.size) := by show _ ≤ _; omega
    generalize w.heap.size + 1 + x.size + x1.size + 1 + y1.size = A at *
    clear kM
    have HK := Lib.hid kA
    have HKd := Lib.hid kd
    clear kA kd
    go_wp2_with fail
    simp only [List.append_eq, List.cons_append, List.nil_append]
    go_quiet (fail)
    go_wp2_with fail
    go_region_held3 (fun w' => (∀ b o, b < (w1).heap.size → w'.cell? ⟨b, o, none⟩ = (w1).cell? ⟨b, o, none⟩) ∧ Below ((w1).heap.size) w1 w') ((with_reducible first | assumption | exact cls_start | exact cls_startN _ | exact cls_startN' _ | exact cls_step (by assumption) (by assumption) | exact cls_alloc (by assumption) | exact cls_drew (by assumption))) (first
      | (go_at_call 18; refine (of18' _ _ _ hnm (by omega) (by omega)).mono ?_; rintro e w' ⟨rfl, rfl⟩)
      | (go_at_call 16; refine (over16_one ⟨id, namer, 1, 7, id, 0, 0, e, nme, ⟨#[]⟩⟩ _ _ (by (repeat' (first | (with_reducible assumption) | (with_reducible refine hm_new ?_; (first | rfl | (simp; done) | (simp [more_size]; done) | (simp [more_size]; omega))) | (with_reducible refine block_alloc ?_) | (with_reducible refine hm_more ?_) | (with_reducible refine hm_drew ?_)))) hnm (by simp) (by simp)).mono ?_; rintro e w' ⟨rfl, hb⟩))
    go_wp2_with fail
    have hS : (∀ (b o : Nat), b < w1.heap.size → w'.cell? ⟨b, o, none⟩ = w1.cell? ⟨b, o, none⟩) ∧ Below w1.heap.size w1 w' := by assumption
    clear hb
    refine (take14_ends _ _ _ _ _ _ _ _ _ _ _ _ _ _ _ _ _ hnm hj0 hj1).mono ?_
    rintro r w2 ⟨rfl, hb⟩
    have hb3 : Below w1.heap.size w1 w2 := hS.2.trans (hb.mono hS.2.size)
    have kA2 := block_keep hb3 HK.out oA
    have cA2 := cell_block kA2
    have fA2 := free_block kA2
    have oA2 := block_lt kA2
    have hB2 : Below w.heap.size w w2 := hB.trans (hb3.mono hz)
    have hAge : w.heap.size ≤ A := HGE.out
    have HK2 := Lib.hid kA2
    have HB2 := Lib.hid hB2
    have HB3 := Lib.hid hb3
    clear hS hb hb3 kA2 hB2 cA cb cM HK HKd
    go_wp2_with fail
    refine (offers12_no _ _ _ _ _ _ _ _ _ _ _ hnm (by simp) (by simp) (.inr (by simp))).mono ?_
    rintro r w3 ⟨rfl, hb⟩
    have kA3 := block_keep' hb (store10 HK2.out)
    have hB2 := HB2.out
    have hz2 := hB2.size
    have hB3 : Below w.heap.size w w3 := by (repeat' (first | (with_reducible exact Below.refl _ _) | (with_reducible assumption) | (with_reducible refine Below.drew ?_) | (with_reducible refine Below.alloc ?_ ?_ _) | (with_reducible refine below_more ?_ ?_ _ _) | (with_reducible refine Below.setCell ?_ ?_ _) | (with_reducible refine Below.trans ?_ (Below.mono (by assumption) ?_)))) <;> first | omega | (simp; done) | (simp; omega) | (simp [more_size]; done) | (simp [more_size]; omega)
    have cA3 := cell_block kA3
    have oA3 := block_lt kA3
    have HB4 := Lib.hid hB3
    clear hb hB2 hB3 cA2 fA2 oA2 HK2 HB2 HB3 kA3
    go_wp2_with fail
    refine (over16_one ⟨id, namer, 2, 7, id, 0, 0, e, nme, ⟨#[]⟩⟩ _ _ (by (repeat' (first | (with_reducible assumption) | (with_reducible refine hm_new ?_; (first | rfl | (simp; done) | (simp [more_size]; done) | (simp [more_size]; omega))) | (with_reducible refine block_alloc ?_) | (with_reducible refine hm_more ?_) | (with_reducible refine hm_drew ?_)))) hnm (by simp) (by simp)).mono ?_
    rintro r w4 ⟨rfl, hb⟩
    simp only [show ovB 2 = true from rfl]
    have hB3 := HB4.out
    have hz3 := hB3.size
    have hB5 : Below w.heap.size w w4 := by (repeat' (first | (with_reducible exact Below.refl _ _) | (with_reducible assumption) | (with_reducible refine Below.drew ?_) | (with_reducible refine Below.alloc ?_ ?_ _) | (with_reducible refine below_more ?_ ?_ _ _) | (with_reducible refine Below.setCell ?_ ?_ _) | (with_reducible refine Below.trans ?_ (Below.mono (by assumption) ?_)))) <;> first | omega | (simp; done) | (simp; omega) | (simp [more_size]; done) | (simp [more_size]; omega)
    have HB5 := Lib.hid hB5
    clear hb hB3 hB5 HB4 cA3
    go_wp2_with fail
    refine (over16_none _).mono ?_
    rintro r w5 ⟨rfl, hb5⟩
    go_wp2_with fail
    refine (wakes7 _).mono ?_
    rintro r w6 ⟨rfl, hb6⟩
    go_wp2
    go_ret
    have hB5 := HB5.out
    have hz5 := hB5.size
    have hz6 := hb5.size
    exact ⟨rfl, hB5.trans ((hb5.mono hz5).trans (hb6.mono (by omega)))⟩
end Go.Proofs.Ythmeilgfdfkacaa
