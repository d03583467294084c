
/- Walks of the seat of chapter 05: 'wakes'. -/
import Derived.Test.YtkffmjcipnlbhaaD5
namespace Go.Proofs.Ytkffmjcipnlbhaa
open Go.RowKit
attribute [local go_sem ↓] Go.wp_at_zero Go.wp_at_succ
attribute [local go_sem] more_size cell_more_old frozen_more_old setCell_more_old more_drew drew_more old_alloc old_more old_drew old_setCell cell_alloc_old frozen_alloc_old setCell_alloc_old

theorem rdL_x (w : World) : RdL (w.alloc (.cells #[.int .i8 1, .int .i64 3, .int .i64 0, .int .i64 0, .string ⟨#[]⟩, .int .i64 0] 32)) (.slice (some ⟨w.heap.size, 0, none⟩) 1 1) [⟨1, 3, 0, 0, 0, ⟨#[]⟩⟩] := rdL_one w ⟨1, 3, 0, 0, 0, ⟨#[]⟩⟩
theorem rdL_z (w : World) : RdL (w.alloc (.cells #[.int .i8 0, .int .i64 0, .int .i64 0, .int .i64 0, .string ⟨#[]⟩, .int .i64 0] 32)) (.slice (some ⟨w.heap.size, 0, none⟩) 1 1) [⟨0, 0, 0, 0, 0, ⟨#[]⟩⟩] := rdL_one w ⟨0, 0, 0, 0, 0, ⟨#[]⟩⟩

theorem rdL_blk {w : World} {b : Nat} (x : Lt) (h : w.heap[b]? = some (.cells #[.int .i8 x.k, .int .i64 x.f, .int .i64 x.n, .int .i64 x.s, .string x.t, .int .i64 x.e] 32)) : RdL w (.slice (some ⟨b, 0, none⟩) 1 1) [x] :=
  RdF.of_block (xs := ltCells [x]) h rfl (by decide)
def zLt : Lt := ⟨0, 0, 0, 0, 0, ⟨#[]⟩⟩
theorem rdL_zb {w : World} {b : Nat} (h : w.heap[b]? = some (.cells #[.int .i8 0, .int .i64 0, .int .i64 0, .int .i64 0, .string ⟨#[]⟩, .int .i64 0] 32)) : RdL w (.slice (some ⟨b, 0, none⟩) 1 1) [zLt] := rdL_blk zLt h
set_option maxHeartbeats 1000000 in
theorem wakes7 (w : World) : Calls Try.prog 7 #[] w fun r w' => r = .returned (.bool true) ∧ Below w.heap.size w w' := by
  go_enter Try.func7, Try.ntmps7
  go_wp2_with fail
  refine (new8 1 _ 1 1 _ _ (by decide) (by decide) (by decide) (rdL_x w)).mono ?_
  rintro r w1 ⟨a1, p1, rfl, hl, hb⟩
  have HL := Lib.hid hl
  have HB1 := Lib.hid (show Below w.heap.size w w1 by (repeat' (first | (with_reducible exact Below.refl _ _) | (with_reducible assumption) | (with_reducible refine Below.drew ?_) | (with_reducible refine Below.alloc ?_ ?_ _) | (with_reducible refine below_more ?_ ?_ _ _) | (with_reducible refine Below.setCell ?_ ?_ _) | (with_reducible refine Below.trans ?_ (Below.mono (by assumption) ?_)))) <;> first | omega | (simp; done) | (simp; omega) | (simp [more_size]; done) | (simp [more_size]; omega))
  have hz1 : w.heap.size ≤ w1.heap.size := HB1.out.size
  clear hl hb
  go_wp2_with fail
  refine (close11_open 1 a1 1 p1 _ _ (by decide) (by decide) (by decide) (HL.out.rd.below (by (repeat' (first | (with_reducible exact Below.refl _ _) | (with_reducible assumption) | (with_reducible refine Below.drew ?_) | (with_reducible refine Below.alloc ?_ ?_ _) | (with_reducible refine below_more ?_ ?_ _ _) | (with_reducible refine Below.setCell ?_ ?_ _) | (with_reducible refine Below.trans ?_ (Below.mono (by assumption) ?_)))) <;> first | omega | (simp; done) | (simp; omega) | (simp [more_size]; done) | (simp [more_size]; omega)))).mono ?_
  rintro r w2 ⟨a2, p2, rfl, hl, hb⟩
  have kD : w2.heap[w1.heap.size]? = some (.cells #[.int .i64 1, .slice a1 1 p1, .bool false] 26) := block_keep' hb (by (repeat' (first | (with_reducible assumption) | (with_reducible refine hm_new ?_; (first | rfl | (simp; done) | (simp [more_size]; done) | (simp [more_size]; omega))) | (with_reducible refine block_alloc ?_) | (with_reducible refine hm_more ?_) | (with_reducible refine hm_drew ?_))))
  have oD := block_lt kD
  have HB2 := Lib.hid (HB1.out.trans (Below.mono (show Below w1.heap.size w1 w2 by (repeat' (first | (with_reducible exact Below.refl _ _) | (with_reducible assumption) | (with_reducible refine Below.drew ?_) | (with_reducible refine Below.alloc ?_ ?_ _) | (with_reducible refine below_more ?_ ?_ _ _) | (with_reducible refine Below.setCell ?_ ?_ _) | (with_reducible refine Below.trans ?_ (Below.mono (by assumption) ?_)))) <;> first | omega | (simp; done) | (simp; omega) | (simp [more_size]; done) | (simp [more_size]; omega)) hz1))
  have cD := cell_block kD
  have fD := free_block kD
  have HL2 := Lib.hid (hl.set3 kD (by decide) (.int .i64 1) (.slice a2 1 p2) (.bool true))
  have HD := Lib.hid (st3 kD (.int .i64 1) (.slice a2 1 p2) (.bool true))
  clear kD hl hb HL HB1
  go_wp2_with fail
  refine (take10_some 1 a2 1 p2 _ _ true _ (by decide) (by decide) (by decide) HL2.out.rd).mono ?_
  rintro r w3 ⟨a3, p3, rfl, hl, hb⟩
  rw [show (1 - 1 : Nat) = 0 from rfl] at hl ⊢
  have kD := block_keep' hb HD.out
  have oD3 := block_lt kD
  have HB3 := Lib.hid (show Below w.heap.size w w3 from (((HB2.out.setCell (by exact hz1) _).setCell (by exact hz1) _).setCell (by exact hz1) _).trans (hb.mono (by simp only [setCell_size]; exact HB2.out.size)))
  have h0 : ∀ W : World, RdF W 6 (.slice a3 0 p3) 0 [] := fun W => RdF.any0 hl.rd
  have HL3 := Lib.hid h0
  clear cD fD
  have cD := cell_block kD
  have fD := free_block kD
  clear hl hb HL2 HD HB2 kD h0
  go_wp2_with fail
  refine (take10_shut 1 a3 p3 _ (by decide) (by decide) (by decide) (HL3.out _)).mono ?_
  rintro r w4 ⟨a4, p4, rfl, hl, hb⟩
  have kM : w4.heap[w3.heap.size]? = some (.cells #[.int .i8 1, .int .i64 3, .int .i64 0, .int .i64 0, .string ⟨#[]⟩, .int .i64 0] 32) := block_keep' hb (by (repeat' (first | (with_reducible assumption) | (with_reducible refine hm_new ?_; (first | rfl | (simp; done) | (simp [more_size]; done) | (simp [more_size]; omega))) | (with_reducible refine block_alloc ?_) | (with_reducible refine hm_more ?_) | (with_reducible refine hm_drew ?_))))
  have oM := block_lt kM
  have HB4 := Lib.hid (show Below w.heap.size w w4 from ((((HB3.out.setCell (by exact hz1) _).setCell (by exact hz1) _).setCell (by exact hz1) _).alloc (by simp only [setCell_size]; exact HB3.out.size) _).trans (hb.mono (by simp; have := HB3.out.size; omega)))
  have HM := Lib.hid kM
  have hz4 : w.heap.size ≤ w4.heap.size := HB4.out.size
  have oM' : Old w4 w3.heap.size := oM
  clear cD fD hl hb HB3 kM HL3
  go_wp2_with fail
  refine (put9_full 0 none (some ⟨_, 0, none⟩) 0 0 1 1 [] [zLt] _ (by decide) (by decide) (by decide) (RdL.nil _) (rdL_zb (by (repeat' (first | (with_reducible assumption) | (with_reducible refine hm_new ?_; (first | rfl | (simp; done) | (simp [more_size]; done) | (simp [more_size]; omega))) | (with_reducible refine block_alloc ?_) | (with_reducible refine hm_more ?_) | (with_reducible refine hm_drew ?_))))) (by decide)).mono ?_
  rintro r w5 ⟨rfl, hb⟩
  have kM : w5.heap[w3.heap.size]? = some (.cells #[.int .i8 1, .int .i64 3, .int .i64 0, .int .i64 0, .string ⟨#[]⟩, .int .i64 0] 32) := block_keep' hb (block_alloc (block_alloc (block_alloc HM.out)))
  have kZ : w5.heap[w4.heap.size]? = some (.cells #[.int .i8 0, .int .i64 0, .int .i64 0, .int .i64 0, .string ⟨#[]⟩, .int .i64 0] 32) := block_keep' hb (by (repeat' (first | (with_reducible assumption) | (with_reducible refine hm_new ?_; (first | rfl | (simp; done) | (simp [more_size]; done) | (simp [more_size]; omega))) | (with_reducible refine block_alloc ?_) | (with_reducible refine hm_more ?_) | (with_reducible refine hm_drew ?_))))
  have oM5 := block_lt kM
  have oZ5 := block_lt kZ
  have HB5 := Lib.hid (HB4.out.trans (Below.mono (show Below w4.heap.size w4 w5 by (repeat' (first | (with_reducible exact Below.refl _ _) | (with_reducible assumption) | (with_reducible refine Below.drew ?_) | (with_reducible refine Below.alloc ?_ ?_ _) | (with_reducible refine below_more ?_ ?_ _ _) | (with_reducible refine Below.setCell ?_ ?_ _) | (with_reducible refine Below.trans ?_ (Below.mono (by assumption) ?_)))) <;> first | omega | (simp; done) | (simp; omega) | (simp [more_size]; done) | (simp [more_size]; omega)) hz4))
  have HM5 := Lib.hid kM
  have HZ5 := Lib.hid kZ
  have hz5 : w.heap.size ≤ w5.heap.size := HB5.out.size
  clear kM kZ hb HM HB4
  go_wp2_with fail
  refine (take10_empty 0 none 0 _ (by decide) (by decide) (by decide) (RdL.nil _)).mono ?_
  rintro r w6 ⟨rfl, hb⟩
  have kM : w6.heap[w3.heap.size]? = some (.cells #[.int .i8 1, .int .i64 3, .int .i64 0, .int .i64 0, .string ⟨#[]⟩, .int .i64 0] 32) := block_keep' hb (block_alloc HM5.out)
  have kZ : w6.heap[w4.heap.size]? = some (.cells #[.int .i8 0, .int .i64 0, .int .i64 0, .int .i64 0, .string ⟨#[]⟩, .int .i64 0] 32) := block_keep' hb (block_alloc HZ5.out)
  have oM6 := block_lt kM
  have oZ6 := block_lt kZ
  have cM := cell_block kM
  have cZ := cell_block kZ
  have HB6 := Lib.hid (HB5.out.trans (Below.mono (show Below w5.heap.size w5 w6 by (repeat' (first | (with_reducible exact Below.refl _ _) | (with_reducible assumption) | (with_reducible refine Below.drew ?_) | (with_reducible refine Below.alloc ?_ ?_ _) | (with_reducible refine below_more ?_ ?_ _ _) | (with_reducible refine Below.setCell ?_ ?_ _) | (with_reducible refine Below.trans ?_ (Below.mono (by assumption) ?_)))) <;> first | omega | (simp; done) | (simp; omega) | (simp [more_size]; done) | (simp [more_size]; omega)) hz5))
  have pM : Old w6 w3.heap.size := oM6
  have pZ : Old w6 w4.heap.size := oZ6
  clear kM kZ hb HM5 HZ5 HB5
  go_wp2_with fail
  refine (of19_12 _).mono ?_
  rintro r w7 ⟨rfl, rfl⟩
  go_wp2
  go_ret
  have hb := HB6.out
  exact ⟨rfl, by (repeat' (first | (with_reducible exact Below.refl _ _) | (with_reducible assumption) | (with_reducible refine Below.drew ?_) | (with_reducible refine Below.alloc ?_ ?_ _) | (with_reducible refine below_more ?_ ?_ _ _) | (with_reducible refine Below.setCell ?_ ?_ _) | (with_reducible refine Below.trans ?_ (Below.mono (by assumption) ?_)))) <;> first | omega | (simp; done) | (simp; omega) | (simp [more_size]; done) | (simp [more_size]; omega)⟩
end Go.Proofs.Ytkffmjcipnlbhaa
