
/- Walks of the seat of chapter 07: Is, Same. -/
import Derived.Test.YtcdmhldhhjolpaaO20
import Derived.Test.YtcdmhldhhjolpaaO26
namespace Go.Proofs.Ytcdmhldhhjolpaa
open Go.RowKit
attribute [local go_sem ↓] Go.wp_at_zero Go.wp_at_succ
attribute [local go_sem] more_size cell_more_old frozen_more_old setCell_more_old more_drew drew_more old_alloc old_more old_drew old_setCell cell_alloc_old frozen_alloc_old setCell_alloc_old
attribute [local go_sem ↓] load42 store42 load61 store61 load38 store38 load30 store30
attribute [local go_sem] run42 runs42 run61 runs61 run38 runs38 run30 runs30 blk_drew has_drewP blk_drewN has_drewNP old_drewN blk_alloc_old has_alloc_old blk_alloc_new has_alloc_new setBlk_size setBlk_drew old_setBlk cell_setBlk' cell_setBlk_ne frozen_setBlk blk_setBlk' blk_setBlk_ne has_setBlk' has_setBlk_ne setBlk_alloc_old setBlk_new

set_option maxHeartbeats 4000000 in
theorem index26 (a : Option Addr) (n p : Nat) (x : Mt) (l : List Mt) (w : World) (h : RdM w (.slice a n p) l) (hx : x ∈ l) (hn : n ≤ 10000000) :
    Calls Try.prog 26 #[.slice a n p, .agg #[.int .i64 x.p, .int .i64 x.i, .int .i64 x.q, .int .i64 x.j]] w fun r w' => (∃ j : Nat, r = .returned (.int .i64 j)) ∧ Below w.heap.size w w' := by
  obtain ⟨k0, hk0⟩ := List.mem_iff_getElem?.1 hx
  have HL := Lib.hid h
  have HK := Lib.hid hk0
  have HN := Lib.hid h.len
  have hk0n : k0 < n := by have := h.len; have := (List.getElem?_eq_some_iff.1 hk0).1; omega
  clear h hx hk0
  go_enter Try.func26, Try.ntmps26
  go_wp2_with fail
  have kx : (w.alloc (.cells #[.int .i64 x.p, .int .i64 x.i, .int .i64 x.q, .int .i64 x.j] 30)).heap[w.heap.size]? = some (.cells #[.int .i64 x.p, .int .i64 x.i, .int .i64 x.q, .int .i64 x.j] 30) := by (repeat' (first | (with_reducible assumption) | (with_reducible refine hm_new ?_; (first | rfl | (simp; done) | (simp [more_size]; done) | (simp [more_size]; omega))) | (with_reducible refine block_alloc ?_) | (with_reducible refine hm_more ?_) | (with_reducible refine hm_drew ?_)))
  have hb1 : Below w.heap.size w (w.alloc (.cells #[.int .i64 x.p, .int .i64 x.i, .int .i64 x.q, .int .i64 x.j] 30)) := by (repeat' (first | (with_reducible exact Below.refl _ _) | (with_reducible assumption) | (with_reducible refine Below.drew ?_) | (with_reducible refine Below.alloc ?_ ?_ _) | (with_reducible refine below_more ?_ ?_ _ _) | (with_reducible refine Below.setCell ?_ ?_ _) | (with_reducible refine Below.trans ?_ (Below.mono (by assumption) ?_)))) <;> first | omega | (simp; done) | (simp; omega) | (simp [more_size]; done) | (simp [more_size]; omega)
  have HB1 := Lib.hid hb1
  have KX := Lib.hid kx
  have hz1 : w.heap.size < (w.alloc (.cells #[.int .i64 x.p, .int .i64 x.i, .int .i64 x.q, .int .i64 x.j] 30)).heap.size := by simp
  clear hb1 kx
  generalize (w.alloc (.cells #[.int .i64 x.p, .int .i64 x.i, .int .i64 x.q, .int .i64 x.j] 30)) = w1 at *
  go_loopw [8] (fun i wr => ∃ k : Nat, k ≤ k0 ∧ i = .int .i64 k ∧ Below w1.heap.size w1 wr) (fun i _ => k0 + 1 - (intOf i).toNat)
  case atStart => exact ⟨0, Nat.zero_le _, rfl, Below.refl _ _⟩
  case round =>
    obtain ⟨k, hk, rfl, hbr⟩ := hrel
    have HBR := Lib.hid hbr
    have kx := block_keep' hbr KX.out
    have lX := blk_of kx
    have mX : Has wr w.heap.size 4 := has_of kx
    have oX := block_lt kx
    have qX : Old wr w.heap.size := oX
    have hkn : (k : Int) < (n : Int) := by omega
    have hk0' : (0 : Int) ≤ (k : Int) := by omega
    obtain ⟨y, hy⟩ : ∃ y, l[k]? = some y := ⟨_, List.getElem?_eq_getElem (by have := HN.out; omega)⟩
    have hM := (HL.out.below HB1.out).below hbr
    obtain ⟨b, off, rfl, hb, -⟩ := hM.at hy
    have hrm := fun n => runMt (rdM_drewN n hM) hy
    have HY := Lib.hid hy
    clear hM hbr kx hy
    by_cases hxy : x = y
    · subst hxy
      go_upto_region 4 with fail
      go_quiet (fail)
      go_wp2_with fail
      go_ret
      have hB := HB1.out.trans (HBR.out.mono HB1.out.size)
      exact ⟨⟨k, rfl⟩, ⟨hB.os, hB.tape, hB.output, hB.size, hB.block⟩⟩
    · have hne : k ≠ k0 := by rintro rfl; exact hxy (Option.some.inj (HK.out.symm.trans HY.out))
      obtain ⟨xp, xi, xq, xj⟩ := x
      obtain ⟨yp, yi, yq, yj⟩ := y
      have hd : (xp == yp) = false ∨ (xp = yp ∧ ((xi == yi) = false ∨ (xi = yi ∧ ((xq == yq) = false ∨ (xq = yq ∧ (xj == yj) = false))))) := by
        simp only [Mt.mk.injEq, not_and] at hxy
        simp only [beq_eq_false_iff_ne]
        omega
      have HD := Lib.hid hxy
      clear hxy
      simp only at hrm lX
      rcases hd with h1 | ⟨rfl, h1 | ⟨rfl, h1 | ⟨rfl, h1⟩⟩⟩
      all_goals
        have hB := Lib.hid HBR.out
        go_upto_region 4 with fail
        go_quiet (fail)
        go_wp2_with fail
        go_roundw
        case rel => exact ⟨k + 1, by omega, by go_num, ⟨hB.out.os, hB.out.tape, hB.out.output, hB.out.size, hB.out.block⟩⟩
        case measure => simp [intOf]; omega
theorem contains21 (a : Option Addr) (n p : Nat) (x : Mt) (l : List Mt) (w : World) (h : RdM w (.slice a n p) l) (hx : x ∈ l) (hn : n ≤ 10000000) :
    Calls Try.prog 21 #[.slice a n p, .agg #[.int .i64 x.p, .int .i64 x.i, .int .i64 x.q, .int .i64 x.j]] w fun r w' => r = .returned (.bool true) ∧ Below w.heap.size w w' := by
  have H := Lib.hid h
  have HX := Lib.hid hx
  clear h hx
  go_enter Try.func21, Try.ntmps21
  go_wp2_with fail
  refine (index26 a n p x l _ (H.out.below (by (repeat' (first | (with_reducible exact Below.refl _ _) | (with_reducible assumption) | (with_reducible refine Below.drew ?_) | (with_reducible refine Below.alloc ?_ ?_ _) | (with_reducible refine below_more ?_ ?_ _ _) | (with_reducible refine Below.setCell ?_ ?_ _) | (with_reducible refine Below.trans ?_ (Below.mono (by assumption) ?_)))) <;> first | omega | (simp; done) | (simp; omega) | (simp [more_size]; done) | (simp [more_size]; omega))) HX.out hn).mono ?_
  rintro r w1 ⟨⟨j, rfl⟩, hb⟩
  have hj : (0 : Int) ≤ (j : Int) := by omega
  have hB : Below w.heap.size w w1 := by (repeat' (first | (with_reducible exact Below.refl _ _) | (with_reducible assumption) | (with_reducible refine Below.drew ?_) | (with_reducible refine Below.alloc ?_ ?_ _) | (with_reducible refine below_more ?_ ?_ _ _) | (with_reducible refine Below.setCell ?_ ?_ _) | (with_reducible refine Below.trans ?_ (Below.mono (by assumption) ?_)))) <;> first | omega | (simp; done) | (simp; omega) | (simp [more_size]; done) | (simp [more_size]; omega)
  clear hb
  go_wp2_with fail
  go_ret
  exact ⟨rfl, hB⟩
theorem is13 (a : Option Addr) (n p : Nat) (x : Mt) (l : List Mt) (w : World) (h : RdM w (.slice a n p) l) (hx : x ∈ l) (hn : n ≤ 10000000) :
    Calls Try.prog 13 #[.agg #[.int .i64 x.p, .int .i64 x.i, .int .i64 x.q, .int .i64 x.j], .slice a n p] w fun r w' => r = .returned (.bool true) ∧ Below w.heap.size w w' := by
  have H := Lib.hid h
  have HX := Lib.hid hx
  clear h hx
  go_enter Try.func13, Try.ntmps13
  go_wp2_with fail
  refine (contains21 a n p x l _ (H.out.below (by (repeat' (first | (with_reducible exact Below.refl _ _) | (with_reducible assumption) | (with_reducible refine Below.drew ?_) | (with_reducible refine Below.alloc ?_ ?_ _) | (with_reducible refine below_more ?_ ?_ _ _) | (with_reducible refine Below.setCell ?_ ?_ _) | (with_reducible refine Below.trans ?_ (Below.mono (by assumption) ?_)))) <;> first | omega | (simp; done) | (simp; omega) | (simp [more_size]; done) | (simp [more_size]; omega))) HX.out hn).mono ?_
  rintro r w1 ⟨rfl, hb⟩
  have hB : Below w.heap.size w w1 := by (repeat' (first | (with_reducible exact Below.refl _ _) | (with_reducible assumption) | (with_reducible refine Below.drew ?_) | (with_reducible refine Below.alloc ?_ ?_ _) | (with_reducible refine below_more ?_ ?_ _ _) | (with_reducible refine Below.setCell ?_ ?_ _) | (with_reducible refine Below.trans ?_ (Below.mono (by assumption) ?_)))) <;> first | omega | (simp; done) | (simp; omega) | (simp [more_size]; done) | (simp [more_size]; omega)
  clear hb
  go_wp2_with fail
  go_ret
  exact ⟨rfl, hB⟩
set_option maxHeartbeats 4000000 in
theorem same14 (a a2 : Option Addr) (n p n2 p2 : Nat) (l : List Mt) (w : World) (h : RdM w (.slice a n p) l) (h2 : RdM w (.slice a2 n2 p2) l) (hn : n ≤ 10000000) :
    Calls Try.prog 14 #[.slice a n p, .slice a2 n2 p2] w fun r w' => r = .returned (.bool true) ∧ Below w.heap.size w w' := by
  obtain rfl : n2 = n := by rw [h.len, h2.len]
  have HA := Lib.hid h
  have HB := Lib.hid h2
  have HN := Lib.hid h.len
  clear h h2
  go_enter Try.func14, Try.ntmps14
  go_wp2_with fail
  go_loopw [5] (fun i wr => ∃ k : Nat, k ≤ n2 ∧ i = .int .i64 k ∧ Below w.heap.size w wr) (fun i _ => n2 - (intOf i).toNat)
  case atStart => exact ⟨0, Nat.zero_le _, rfl, Below.refl _ _⟩
  case round =>
    obtain ⟨k, hk, rfl, hbr⟩ := hrel
    have HBR := Lib.hid hbr
    clear hbr
    by_cases hlt : k < n2
    · have hkn : (k : Int) < (n2 : Int) := by omega
      have hk0 : (0 : Int) ≤ (k : Int) := by omega
      obtain ⟨y, hy⟩ : ∃ y, l[k]? = some y := ⟨_, List.getElem?_eq_getElem (by have := HN.out; omega)⟩
      have hM := HA.out.below HBR.out
      have hM2 := HB.out.below HBR.out
      obtain ⟨b, off, rfl, hb, -⟩ := hM.at hy
      obtain ⟨b2, off2, rfl, hb2, -⟩ := hM2.at hy
      have hrm := fun n => runMt (rdM_drewN n hM) hy
      have hrm2 := fun n => runMt (rdM_drewN n hM2) hy
      clear hM hM2 hy
      go_upto_region 6 with fail
      go_quiet (fail)
      go_wp2_with fail
      go_roundw
      case rel => exact ⟨k + 1, by omega, by go_num, ⟨HBR.out.os, HBR.out.tape, HBR.out.output, HBR.out.size, HBR.out.block⟩⟩
      case measure => simp [intOf]; omega
    · have hkn : ¬ (k : Int) < (n2 : Int) := by omega
      go_wp2_with fail
      go_ret
      exact ⟨rfl, HBR.out⟩
end Go.Proofs.Ytcdmhldhhjolpaa
