
/- Walks of the seat of chapter 05: DuctTurns. -/
import Derived.Test.YtkffmjcipnlbhaaD6
import Derived.Deep.DeepCutAuto
namespace Go.Proofs.Ytkffmjcipnlbhaa
open Go.RowKit
attribute [local go_sem ↓] Go.wp_at_zero Go.wp_at_succ
attribute [local go_sem] more_size cell_more_old frozen_more_old setCell_more_old more_drew drew_more old_alloc old_more old_drew old_setCell cell_alloc_old frozen_alloc_old setCell_alloc_old

theorem RdT.drewT {w : World} {v : Value} {l : List Lt} (h : RdT w v l) : RdT w.drew v l := h
def Emp (a : Option Addr) (p : Nat) : Prop := ∀ W : World, RdL W (.slice a 0 p) []
theorem emp_of {w : World} {a : Option Addr} {p : Nat} {l : List Lt} (h : RdL w (.slice a 0 p) l) (hl : l = []) : Emp a p := fun W => by subst hl; exact RdF.any0 h

set_option maxHeartbeats 4000000 in
theorem turns5 (size : Int) (a : Option Addr) (n p : Nat) (l : List Lt) (w : World) (hl : RdL w (.slice a n p) l) :
    Calls Try.prog 5 #[.int .i64 size, .slice a n p] w fun r w' => r = .returned (.bool true) ∧ Below w.heap.size w w' := by
  have HL := Lib.hid hl
  have HN := Lib.hid hl.len
  clear hl
  by_cases hs1 : size < 0
  · go_enter Try.func5, Try.ntmps5
    go_wp2_with fail
    refine (great18 a n p l _ HL.out).mono ?_
    rintro r w1 ⟨rfl | ⟨rfl, h100⟩, hB⟩
    all_goals
      go_wp2_with fail
      refine (wakes7 _).mono ?_
      rintro r w2 ⟨rfl, hb⟩
      go_wp2_with fail
      go_ret
      exact ⟨rfl, hB.trans (hb.mono hB.size)⟩
  by_cases hs2 : 64 < size
  · go_enter Try.func5, Try.ntmps5
    go_wp2_with fail
    refine (great18 a n p l _ HL.out).mono ?_
    rintro r w1 ⟨rfl | ⟨rfl, h100⟩, hB⟩
    all_goals
      go_wp2_with fail
      refine (wakes7 _).mono ?_
      rintro r w2 ⟨rfl, hb⟩
      go_wp2_with fail
      go_ret
      exact ⟨rfl, hB.trans (hb.mono hB.size)⟩
  have hs3 : 0 ≤ size := by omega
  have hs4 : size ≤ 64 := by omega
  go_enter Try.func5, Try.ntmps5
  go_wp2_with fail
  refine (great18 a n p l _ HL.out).mono ?_
  rintro r w1 ⟨rfl | ⟨rfl, h100⟩, hB⟩
  · go_wp2_with fail
    refine (wakes7 _).mono ?_
    rintro r w2 ⟨rfl, hb⟩
    go_wp2_with fail
    go_ret
    exact ⟨rfl, hB.trans (hb.mono hB.size)⟩
  have HB1 := Lib.hid hB
  clear hB
  go_wp2_with fail
  refine (new8 size none 0 0 [] _ hs3 hs4 (by omega) (RdL.nil _)).mono ?_
  rintro r w2 ⟨a1, p1, rfl, hr, hb⟩
  have HE1 := Lib.hid (emp_of hr.rd rfl)
  have HB2 := Lib.hid (HB1.out.trans (hb.mono HB1.out.size))
  have hz2 : w.heap.size ≤ w2.heap.size := HB2.out.size
  clear hr hb HB1
  go_wp2_with fail
  have kT : ((w2.alloc (.cells #[.int .i64 size, .slice a1 0 p1, .bool false] 26)).alloc (.cells #[.int .i64 size, .slice a1 0 p1, .bool false] 26)).heap[w2.heap.size]? = some (.cells #[.int .i64 size, .slice a1 0 p1, .bool false] 26) := by (repeat' (first | (with_reducible assumption) | (with_reducible refine hm_new ?_; (first | rfl | (simp; done) | (simp [more_size]; done) | (simp [more_size]; omega))) | (with_reducible refine block_alloc ?_) | (with_reducible refine hm_more ?_) | (with_reducible refine hm_drew ?_)))
  have kW : ((w2.alloc (.cells #[.int .i64 size, .slice a1 0 p1, .bool false] 26)).alloc (.cells #[.int .i64 size, .slice a1 0 p1, .bool false] 26)).heap[w2.heap.size + 1]? = some (.cells #[.int .i64 size, .slice a1 0 p1, .bool false] 26) := by (repeat' (first | (with_reducible assumption) | (with_reducible refine hm_new ?_; (first | rfl | (simp; done) | (simp [more_size]; done) | (simp [more_size]; omega))) | (with_reducible refine block_alloc ?_) | (with_reducible refine hm_more ?_) | (with_reducible refine hm_drew ?_)))
  have hB3 : Below w.heap.size w ((w2.alloc (.cells #[.int .i64 size, .slice a1 0 p1, .bool false] 26)).alloc (.cells #[.int .i64 size, .slice a1 0 p1, .bool false] 26)) := by
    have hb := HB2.out
    (repeat' (first | (with_reducible exact Below.refl _ _) | (with_reducible assumption) | (with_reducible refine Below.drew ?_) | (with_reducible refine Below.alloc ?_ ?_ _) | (with_reducible refine below_more ?_ ?_ _ _) | (with_reducible refine Below.setCell ?_ ?_ _) | (with_reducible refine Below.trans ?_ (Below.mono (by assumption) ?_)))) <;> first | omega | (simp; done) | (simp; omega) | (simp [more_size]; done) | (simp [more_size]; omega)
  generalize ((w2.alloc (.cells #[.int .i64 size, .slice a1 0 p1, .bool false] 26)).alloc (.cells #[.int .i64 size, .slice a1 0 p1, .bool false] 26)) = w3 at *
  go_loopw [8] (fun i wr => ∃ (k : Nat) (a' : Option Addr) (p' : Nat), k ≤ n ∧ i = .int .i64 k ∧ Emp a' p' ∧ wr.heap[w2.heap.size]? = some (.cells #[.int .i64 size, .slice a' 0 p', .bool false] 26) ∧ wr.heap[w2.heap.size + 1]? = some (.cells #[.int .i64 size, .slice a1 0 p1, .bool false] 26) ∧ Below w.heap.size w wr) (fun i _ => n - (intOf i).toNat)
  case atStart => exact ⟨0, a1, p1, Nat.zero_le _, rfl, HE1.out, kT, kW, hB3⟩
  case round =>
    obtain ⟨k, a', p', hk, rfl, he, kT, kW, hbl⟩ := hrel
    have HE := Lib.hid he
    have HKT := Lib.hid kT
    have HKW := Lib.hid kW
    have HBL := Lib.hid hbl
    have oT := block_lt kT
    have oW := block_lt kW
    have cT := cell_block kT
    have fT := free_block kT
    have cW := cell_block kW
    have qT : Old wr w2.heap.size := oT
    have qW : Old wr (w2.heap.size + 1) := oW
    have hzr : w.heap.size ≤ wr.heap.size := hbl.size
    clear he kT kW hbl
    by_cases hlt : k < n
    · have hi : (k : Int) < (n : Int) := by omega
      have hi0 : (0 : Int) ≤ (k : Int) := by omega
      obtain ⟨x, hx⟩ : ∃ x, l[k]? = some x := ⟨_, List.getElem?_eq_getElem (by have := HN.out; omega)⟩
      have HX := Lib.hid hx
      obtain ⟨b, off, rfl, hb0, c0, c1, c2, c3, c4, c5⟩ := (HL.out.below HBL.out).at hx
      clear hx
      by_cases h0 : size = 0
      · subst h0
        go_upto_region 10 with fail
        go_cut [9, 10] (fun s9 s10 wx => ∃ B9 : Nat, s9 = .pointer (some ⟨B9, 0, none⟩) ∧ s10 = .int .i64 50 ∧ wx.heap[B9]? = some (.cells #[.int .i64 0, .slice a' 0 p', .bool false] 26) ∧ wr.heap.size ≤ B9 ∧ Below wr.heap.size wr wx)
        case first =>
          go_region_held3 (fun w' => (∀ b o, b < (wr).heap.size → w'.cell? ⟨b, o, none⟩ = (wr).cell? ⟨b, o, none⟩) ∧ Below ((wr).heap.size) wr w') ((first | (with_reducible assumption) | (with_reducible exact cls_start) | (refine cls_of ?_; (repeat' (first | (with_reducible exact Below.refl _ _) | (with_reducible assumption) | (with_reducible refine Below.drew ?_) | (with_reducible refine Below.alloc ?_ ?_ _) | (with_reducible refine below_more ?_ ?_ _ _) | (with_reducible refine Below.setCell ?_ ?_ _) | (with_reducible refine Below.trans ?_ (Below.mono (by assumption) ?_)))) <;> first | omega | (simp; done) | (simp; omega) | (simp [more_size]; done) | (simp [more_size]; omega)))) (first
            | (go_at_call 9; refine (put9_full 0 a' (some ⟨_, 0, none⟩) 0 p' 1 1 [] [x] _ (by decide) (by decide) (by decide) (HE.out _) (rdL_blk x (by (repeat' (first | (with_reducible assumption) | (with_reducible refine hm_new ?_; (first | rfl | (simp; done) | (simp [more_size]; done) | (simp [more_size]; omega))) | (with_reducible refine block_alloc ?_) | (with_reducible refine hm_more ?_) | (with_reducible refine hm_drew ?_))))) (by decide)).mono ?_; rintro e w' ⟨rfl, hb⟩; have hB' : Below wr.heap.size wr w' := (by (repeat' (first | (with_reducible exact Below.refl _ _) | (with_reducible assumption) | (with_reducible refine Below.drew ?_) | (with_reducible refine Below.alloc ?_ ?_ _) | (with_reducible refine below_more ?_ ?_ _ _) | (with_reducible refine Below.setCell ?_ ?_ _) | (with_reducible refine Below.trans ?_ (Below.mono (by assumption) ?_)))) <;> first | omega | (simp; done) | (simp; omega) | (simp [more_size]; done) | (simp [more_size]; omega)); have hz' := hB'.size; have hz'' := hb.size; have hce := fun (b o : Nat) h => Below.cell (p := ⟨b, o, none⟩) hb h; have hfe := fun (b o : Nat) h => Below.frozen (p := ⟨b, o, none⟩) hb h))
          all_goals
            go_wp2_with fail
            go_meet
            refine ⟨_, rfl, rfl, ?_, ?_, ?_⟩
            · first
                | (((repeat' (first | (with_reducible assumption) | (with_reducible refine hm_new ?_; (first | rfl | (simp; done) | (simp [more_size]; done) | (simp [more_size]; omega))) | (with_reducible refine block_alloc ?_) | (with_reducible refine hm_more ?_) | (with_reducible refine hm_drew ?_)))); done)
                | (refine hm_drew ?_; refine st3 (c0 := .int .i64 0) (c1 := .slice none 0 0) (c2 := .bool false) (block_keep' hb ?_) _ _ _; ((repeat' (first | (with_reducible assumption) | (with_reducible refine hm_new ?_; (first | rfl | (simp; done) | (simp [more_size]; done) | (simp [more_size]; omega))) | (with_reducible refine block_alloc ?_) | (with_reducible refine hm_more ?_) | (with_reducible refine hm_drew ?_)))); done)
                | (refine st3 (c0 := .int .i64 0) (c1 := .slice none 0 0) (c2 := .bool false) (block_keep' hb ?_) _ _ _; ((repeat' (first | (with_reducible assumption) | (with_reducible refine hm_new ?_; (first | rfl | (simp; done) | (simp [more_size]; done) | (simp [more_size]; omega))) | (with_reducible refine block_alloc ?_) | (with_reducible refine hm_more ?_) | (with_reducible refine hm_drew ?_)))); done)
            · first | omega | (simp; done) | (simp; omega)
            · (repeat' (first | (with_reducible exact Below.refl _ _) | (with_reducible assumption) | (with_reducible refine Below.drew ?_) | (with_reducible refine Below.alloc ?_ ?_ _) | (with_reducible refine below_more ?_ ?_ _ _) | (with_reducible refine Below.setCell ?_ ?_ _) | (with_reducible refine Below.trans ?_ (Below.mono (by assumption) ?_)))) <;> first | omega | (simp; done) | (simp; omega) | (simp [more_size]; done) | (simp [more_size]; omega)
        case rest =>
          obtain ⟨B9, rfl, rfl, k9, h9, hb9⟩ := hcut
          have kT := block_keep' hb9 HKT.out
          have kW := block_keep' hb9 HKW.out
          have c9 := cell_block k9
          have cW9 := cell_block kW
          have o9 := block_lt k9
          have oT9 := block_lt kT
          have oW9 := block_lt kW
          have HB9 := Lib.hid (HBL.out.trans (hb9.mono hzr))
          have HT9 := Lib.hid kT
          have HW9 := Lib.hid kW
          clear k9 kT kW hb9 c0 c1 c2 c3 c4 c5 cT fT cW HKT HKW HBL
          go_wp2_with fail
          refine (same16 0 false a' a1 0 p' p1 [] _ (by decide) (HE.out _) (HE1.out _)).mono ?_
          rintro r w4 ⟨rfl, hb⟩
          have HT4 := Lib.hid (block_keep' hb HT9.out)
          have HW4 := Lib.hid (block_keep' hb HW9.out)
          have HB4 := Lib.hid (HB9.out.trans (hb.mono HB9.out.size))
          clear hb
          go_wp2
          go_roundw
          case rel => (repeat apply Exists.intro); exact ⟨⟨k + 1, a', p', by omega, by go_num, HE.out, HT4.out, HW4.out, HB4.out⟩, rfl⟩
          case measure => simp [intOf]; omega
      · have hpos : (1 : Int) ≤ size := by omega
        have hmb : (size == 0) = false := by simp [h0]
        have h01 : ((1 : Nat) : Int) ≤ size - ((0 : Nat) : Int) := by simpa using hpos
        have h03 : ((0 : Nat) : Int) ≤ size := by simpa using hs3
        go_upto_region 10 with fail
        go_cut [9, 10] (fun s9 s10 wx => ∃ (B9 : Nat) (a3 : Option Addr) (p3 : Nat), s9 = .pointer (some ⟨B9, 0, none⟩) ∧ s10 = .int .i64 0 ∧ wx.heap[B9]? = some (.cells #[.int .i64 size, .slice a3 1 p3, .bool false] 26) ∧ RdT wx (.slice a3 1 p3) [x] ∧ wr.heap.size ≤ B9 ∧ Below wr.heap.size wr wx)
        case first =>
          go_region_held3 (fun w' => (∀ b o, b < (wr).heap.size → w'.cell? ⟨b, o, none⟩ = (wr).cell? ⟨b, o, none⟩) ∧ Below ((wr).heap.size) wr w') ((first | (with_reducible assumption) | (with_reducible exact cls_start) | (refine cls_of ?_; (repeat' (first | (with_reducible exact Below.refl _ _) | (with_reducible assumption) | (with_reducible refine Below.drew ?_) | (with_reducible refine Below.alloc ?_ ?_ _) | (with_reducible refine below_more ?_ ?_ _ _) | (with_reducible refine Below.setCell ?_ ?_ _) | (with_reducible refine Below.trans ?_ (Below.mono (by assumption) ?_)))) <;> first | omega | (simp; done) | (simp; omega) | (simp [more_size]; done) | (simp [more_size]; omega)))) (first
            | (go_at_call 9; refine (put9_ok size a' (some ⟨_, 0, none⟩) 0 p' 1 1 [] [x] _ hs3 hs4 h03 (HE.out _) (rdL_blk x (by (repeat' (first | (with_reducible assumption) | (with_reducible refine hm_new ?_; (first | rfl | (simp; done) | (simp [more_size]; done) | (simp [more_size]; omega))) | (with_reducible refine block_alloc ?_) | (with_reducible refine hm_more ?_) | (with_reducible refine hm_drew ?_))))) h01).mono ?_; rintro e w' ⟨a3, p3, rfl, hr, hb⟩; have hB' : Below wr.heap.size wr w' := (by (repeat' (first | (with_reducible exact Below.refl _ _) | (with_reducible assumption) | (with_reducible refine Below.drew ?_) | (with_reducible refine Below.alloc ?_ ?_ _) | (with_reducible refine below_more ?_ ?_ _ _) | (with_reducible refine Below.setCell ?_ ?_ _) | (with_reducible refine Below.trans ?_ (Below.mono (by assumption) ?_)))) <;> first | omega | (simp; done) | (simp; omega) | (simp [more_size]; done) | (simp [more_size]; omega)); have hz' := hB'.size; have hz'' := hb.size; have hce := fun (b o : Nat) h => Below.cell (p := ⟨b, o, none⟩) hb h; have hfe := fun (b o : Nat) h => Below.frozen (p := ⟨b, o, none⟩) hb h))
          all_goals
            go_wp2_with fail
            go_meet
            refine ⟨_, a3, p3, rfl, rfl, ?_, ?_, ?_, ?_⟩
            · first
                | (((repeat' (first | (with_reducible assumption) | (with_reducible refine hm_new ?_; (first | rfl | (simp; done) | (simp [more_size]; done) | (simp [more_size]; omega))) | (with_reducible refine block_alloc ?_) | (with_reducible refine hm_more ?_) | (with_reducible refine hm_drew ?_)))); done)
                | (refine hm_drew ?_; refine st3 (c0 := .int .i64 0) (c1 := .slice none 0 0) (c2 := .bool false) (block_keep' hb ?_) _ _ _; ((repeat' (first | (with_reducible assumption) | (with_reducible refine hm_new ?_; (first | rfl | (simp; done) | (simp [more_size]; done) | (simp [more_size]; omega))) | (with_reducible refine block_alloc ?_) | (with_reducible refine hm_more ?_) | (with_reducible refine hm_drew ?_)))); done)
                | (refine st3 (c0 := .int .i64 0) (c1 := .slice none 0 0) (c2 := .bool false) (block_keep' hb ?_) _ _ _; ((repeat' (first | (with_reducible assumption) | (with_reducible refine hm_new ?_; (first | rfl | (simp; done) | (simp [more_size]; done) | (simp [more_size]; omega))) | (with_reducible refine block_alloc ?_) | (with_reducible refine hm_more ?_) | (with_reducible refine hm_drew ?_)))); done)
            · first
                | (refine RdT.below hr ?_; ((repeat' (first | (with_reducible exact Below.refl _ _) | (with_reducible assumption) | (with_reducible refine Below.drew ?_) | (with_reducible refine Below.alloc ?_ ?_ _) | (with_reducible refine below_more ?_ ?_ _ _) | (with_reducible refine Below.setCell ?_ ?_ _) | (with_reducible refine Below.trans ?_ (Below.mono (by assumption) ?_)))) <;> first | omega | (simp; done) | (simp; omega) | (simp [more_size]; done) | (simp [more_size]; omega)); done)
                | (refine RdT.drewT (RdT.set3 (cs := #[.int .i64 0, .slice none 0 0, .bool false]) (t := 26) (fr := (0, 0)) hr (block_keep' hb ?_) (by decide) _ _ _); ((repeat' (first | (with_reducible assumption) | (with_reducible refine hm_new ?_; (first | rfl | (simp; done) | (simp [more_size]; done) | (simp [more_size]; omega))) | (with_reducible refine block_alloc ?_) | (with_reducible refine hm_more ?_) | (with_reducible refine hm_drew ?_)))); done)
                | (refine RdT.set3 (cs := #[.int .i64 0, .slice none 0 0, .bool false]) (t := 26) (fr := (0, 0)) hr (block_keep' hb ?_) (by decide) _ _ _; ((repeat' (first | (with_reducible assumption) | (with_reducible refine hm_new ?_; (first | rfl | (simp; done) | (simp [more_size]; done) | (simp [more_size]; omega))) | (with_reducible refine block_alloc ?_) | (with_reducible refine hm_more ?_) | (with_reducible refine hm_drew ?_)))); done)
            · first | omega | (simp; done) | (simp; omega)
            · (repeat' (first | (with_reducible exact Below.refl _ _) | (with_reducible assumption) | (with_reducible refine Below.drew ?_) | (with_reducible refine Below.alloc ?_ ?_ _) | (with_reducible refine below_more ?_ ?_ _ _) | (with_reducible refine Below.setCell ?_ ?_ _) | (with_reducible refine Below.trans ?_ (Below.mono (by assumption) ?_)))) <;> first | omega | (simp; done) | (simp; omega) | (simp [more_size]; done) | (simp [more_size]; omega)
        case rest =>
          obtain ⟨B9, a3, p3, rfl, rfl, k9, hr9, h9, hb9⟩ := hcut
          have kT := block_keep' hb9 HKT.out
          have kW := block_keep' hb9 HKW.out
          have c9 := cell_block k9
          have o9 := block_lt k9
          have HB9 := Lib.hid (HBL.out.trans (hb9.mono hzr))
          have HT9 := Lib.hid kT
          have HW9 := Lib.hid kW
          have HR9 := Lib.hid hr9
          clear k9 kT kW hb9 hr9 c0 c1 c2 c3 c4 c5 cT fT cW HKT HKW HBL
          go_wp2_with fail
          refine (take10_some size a3 1 p3 [] x false _ hs3 hs4 (by simpa using hpos) HR9.out.rd).mono ?_
          rintro r w4 ⟨a4, p4, rfl, hr, hb⟩
          rw [show (1 - 1 : Nat) = 0 from rfl] at hr ⊢
          have HE4 := Lib.hid (emp_of hr.rd rfl)
          have HT4 := Lib.hid (block_keep' hb HT9.out)
          have HW4 := Lib.hid (block_keep' hb HW9.out)
          have HB4 := Lib.hid (HB9.out.trans (hb.mono HB9.out.size))
          have hz4 := HB4.out.size
          clear hb hr HR9 HT9 HW9 HB9 c9
          go_upto_region 15 with fail
          have hB5 : Below w.heap.size w ((w4.alloc (.cells #[.int .i8 x.k, .int .i64 x.f, .int .i64 x.n, .int .i64 x.s, .string x.t, .int .i64 x.e] 32)).alloc (.cells #[.int .i64 size, .slice a4 0 p4, .bool false] 26)) := by
            have hb := HB4.out
            (repeat' (first | (with_reducible exact Below.refl _ _) | (with_reducible assumption) | (with_reducible refine Below.drew ?_) | (with_reducible refine Below.alloc ?_ ?_ _) | (with_reducible refine below_more ?_ ?_ _ _) | (with_reducible refine Below.setCell ?_ ?_ _) | (with_reducible refine Below.trans ?_ (Below.mono (by assumption) ?_)))) <;> first | omega | (simp; done) | (simp; omega) | (simp [more_size]; done) | (simp [more_size]; omega)
          have kT5 : ((w4.alloc (.cells #[.int .i8 x.k, .int .i64 x.f, .int .i64 x.n, .int .i64 x.s, .string x.t, .int .i64 x.e] 32)).alloc (.cells #[.int .i64 size, .slice a4 0 p4, .bool false] 26)).heap[w2.heap.size]? = _ := block_alloc (block_alloc HT4.out)
          have kW5 : ((w4.alloc (.cells #[.int .i8 x.k, .int .i64 x.f, .int .i64 x.n, .int .i64 x.s, .string x.t, .int .i64 x.e] 32)).alloc (.cells #[.int .i64 size, .slice a4 0 p4, .bool false] 26)).heap[w2.heap.size + 1]? = _ := block_alloc (block_alloc HW4.out)
          have kM5 : ((w4.alloc (.cells #[.int .i8 x.k, .int .i64 x.f, .int .i64 x.n, .int .i64 x.s, .string x.t, .int .i64 x.e] 32)).alloc (.cells #[.int .i64 size, .slice a4 0 p4, .bool false] 26)).heap[w4.heap.size]? = some (.cells #[.int .i8 x.k, .int .i64 x.f, .int .i64 x.n, .int .i64 x.s, .string x.t, .int .i64 x.e] 32) := by (repeat' (first | (with_reducible assumption) | (with_reducible refine hm_new ?_; (first | rfl | (simp; done) | (simp [more_size]; done) | (simp [more_size]; omega))) | (with_reducible refine block_alloc ?_) | (with_reducible refine hm_more ?_) | (with_reducible refine hm_drew ?_)))
          have kD5 : ((w4.alloc (.cells #[.int .i8 x.k, .int .i64 x.f, .int .i64 x.n, .int .i64 x.s, .string x.t, .int .i64 x.e] 32)).alloc (.cells #[.int .i64 size, .slice a4 0 p4, .bool false] 26)).heap[w4.heap.size + 1]? = some (.cells #[.int .i64 size, .slice a4 0 p4, .bool false] 26) := by (repeat' (first | (with_reducible assumption) | (with_reducible refine hm_new ?_; (first | rfl | (simp; done) | (simp [more_size]; done) | (simp [more_size]; omega))) | (with_reducible refine block_alloc ?_) | (with_reducible refine hm_more ?_) | (with_reducible refine hm_drew ?_)))
          generalize ((w4.alloc (.cells #[.int .i8 x.k, .int .i64 x.f, .int .i64 x.n, .int .i64 x.s, .string x.t, .int .i64 x.e] 32)).alloc (.cells #[.int .i64 size, .slice a4 0 p4, .bool false] 26)) = w5 at *
          obtain ⟨b2, off2, he2, hb2, d0, d1, d2, d3, d4, d5⟩ := (HL.out.below hB5).at HX.out
          cases he2
          have oT5 := block_lt kT5
          have oW5 := block_lt kW5
          have oM5 := block_lt kM5
          have oD5 := block_lt kD5
          have cW5 := cell_block kW5
          have cM5 := cell_block kM5
          have cD5 := cell_block kD5
          have hz5 : w.heap.size ≤ w5.heap.size := hB5.size
          have HT5 := Lib.hid kT5
          have HW5 := Lib.hid kW5
          have HD5 := Lib.hid kD5
          have HB5 := Lib.hid hB5
          clear kT5 kW5 kM5 kD5 hB5 HT4 HW4 HB4
          go_region_held3 (fun w' => (∀ b o, b < (w5).heap.size → w'.cell? ⟨b, o, none⟩ = (w5).cell? ⟨b, o, none⟩) ∧ Below ((w5).heap.size) w5 w') ((first | (with_reducible assumption) | (with_reducible exact cls_start) | (refine cls_of ?_; (repeat' (first | (with_reducible exact Below.refl _ _) | (with_reducible assumption) | (with_reducible refine Below.drew ?_) | (with_reducible refine Below.alloc ?_ ?_ _) | (with_reducible refine below_more ?_ ?_ _ _) | (with_reducible refine Below.setCell ?_ ?_ _) | (with_reducible refine Below.trans ?_ (Below.mono (by assumption) ?_)))) <;> first | omega | (simp; done) | (simp; omega) | (simp [more_size]; done) | (simp [more_size]; omega)))) (first
            | (go_at_call 16; refine (same16 size false a4 a1 0 p4 p1 [] _ (by decide) (HE4.out _) (HE1.out _)).mono ?_; rintro e w' ⟨rfl, hb⟩))
          have hb5 : Below w5.heap.size w5 w' := by (repeat' (first | (with_reducible exact Below.refl _ _) | (with_reducible assumption) | (with_reducible refine Below.drew ?_) | (with_reducible refine Below.alloc ?_ ?_ _) | (with_reducible refine below_more ?_ ?_ _ _) | (with_reducible refine Below.setCell ?_ ?_ _) | (with_reducible refine Below.trans ?_ (Below.mono (by assumption) ?_)))) <;> first | omega | (simp; done) | (simp; omega) | (simp [more_size]; done) | (simp [more_size]; omega)
          have cT5 := cell_block HT5.out
          have kT6 := block_keep' hb5 HT5.out
          have kW6 := block_keep' hb5 HW5.out
          have kD6 := block_keep' hb5 HD5.out
          have oT6 := block_lt kT6
          have cD6 := cell_block kD6
          have cT6 := cell_block kT6
          have fT6 := free_block kT6
          have HB6 := Lib.hid (HB5.out.trans (hb5.mono hz5))
          have HT6 := Lib.hid (st3 kT6 (.int .i64 size) (.slice a4 0 p4) (.bool false))
          have HW6 := Lib.hid (ot3 (b := w2.heap.size) kW6 (by omega) (.int .i64 size) (.slice a4 0 p4) (.bool false))
          clear hb hb5 kT6 kW6 kD6 d0 d1 d2 d3 d4 d5 cW5 cM5 HT5 HW5 HD5 HB5
          go_wp2
          go_roundw
          case rel => exact ⟨k + 1, a4, p4, by omega, by go_num, HE4.out, HT6.out, HW6.out, ((HB6.out.setCell (by exact hz2) _).setCell (by exact hz2) _).setCell (by exact hz2) _⟩
          case measure => simp [intOf]; omega
    · have hi : ¬ (k : Int) < (n : Int) := by omega
      clear HL
      go_wp2_with fail
      refine (room17_open size a' 0 p' _ (by simpa using hs3) hs4).mono ?_
      rintro r w4 ⟨rfl, hb⟩
      have HT4 := Lib.hid (block_keep' hb HKT.out)
      have HB4 := Lib.hid (HBL.out.trans (hb.mono hzr))
      have cT4 := cell_block HT4.out
      have hs0 : size - ((0 : Nat) : Int) = size := by simp
      rw [hs0]
      have oT4 := block_lt HT4.out
      clear hb cT fT cW
      go_wp2_with fail
      refine (ready12 size a' 0 p' false _).mono ?_
      rintro r w5 ⟨rfl, hb⟩
      rw [show (false || decide ((0 : Nat) ≠ 0)) = false from rfl]
      have HB5 := Lib.hid (HB4.out.trans (hb.mono HB4.out.size))
      clear hb cT4
      go_wp2_with fail
      refine (wakes7 _).mono ?_
      rintro r w6 ⟨rfl, hb⟩
      go_wp2
      go_ret
      exact ⟨rfl, HB5.out.trans (hb.mono HB5.out.size)⟩
end Go.Proofs.Ytkffmjcipnlbhaa
