
/- Walks of the seat of chapter 07: the reference's Great; less. -/
import Derived.Test.YtcdmhldhhjolpaaO5
namespace Go.Proofs.Ytcdmhldhhjolpaa
open Go.RowKit
attribute [local go_sem ↓] Go.wp_at_zero Go.wp_at_succ
attribute [local go_sem] more_size cell_more_old frozen_more_old setCell_more_old more_drew drew_more old_alloc old_more old_drew old_setCell cell_alloc_old frozen_alloc_old setCell_alloc_old
attribute [local go_sem ↓] load42 store42 load61 store61 load38 store38 load30 store30
attribute [local go_sem] run42 runs42 run61 runs61 run38 runs38 run30 runs30 blk_drew has_drew blk_drewN has_drewN old_drewN blk_alloc_old has_alloc_old blk_alloc_new has_alloc_new setBlk_size setBlk_drew old_setBlk cell_setBlk' cell_setBlk_ne frozen_setBlk blk_setBlk' blk_setBlk_ne has_setBlk' has_setBlk_ne setBlk_alloc_old setBlk_new

def mn1000 (n : Nat) : Nat := min n 1000
def sumN (rows : List (List Ofr)) : Nat := (rows.map fun r => mn1000 r.length).sum
theorem sumN_succ {rows : List (List Ofr)} {k : Nat} {r : List Ofr} (h : rows[k]? = some r) : sumN (rows.take (k + 1)) = sumN (rows.take k) + mn1000 r.length := by
  unfold sumN
  rw [List.take_add_one, h]
  simp
theorem sumN_mem {rows : List (List Ofr)} {r : List Ofr} (h : r ∈ rows) : mn1000 r.length ≤ sumN rows := by
  induction rows with
  | nil => cases h
  | cons x l ih =>
    have e : sumN (x :: l) = mn1000 x.length + sumN l := by simp [sumN]
    rcases List.mem_cons.1 h with rfl | h
    · omega
    · have := ih h; omega
def mn2 (x y : Int) : Int := min x y
theorem run_mn2 {P : Program} (w : World) (ts : Array TypeId) (t : TypeId) (k k' : IntKind) (x y : Int) : (Builtin.min_ ts t #[.int k x, .int k' y]).run P w = .ok (.int k (mn2 x y)) w := by
  have : (Builtin.min_ ts t #[.int k x, .int k' y]).run P w = .ok (.int k (if y < x then y else x)) w := by
    simp [Builtin.min_, Builtin.min2]
  rw [this]
  congr 2
  unfold mn2
  repeat' split
  all_goals omega
attribute [local go_sem high] run_mn2

set_option maxHeartbeats 4000000 in
theorem great6 (ar ad : Option Addr) (nr pr nd pd : Nat) (rows : List (List Ofr)) (du : List Du) (w : World) (hR : RdRR w (.slice ar nr pr) rows) (hU : RdU w (.slice ad nd pd) du) :
    Calls Try.prog 6 #[.slice ar nr pr, .slice ad nd pd] w fun r w' => (r = .returned (.bool true) ∨ (r = .returned (.bool false) ∧ rows.length ≤ 30 ∧ ∀ r ∈ rows, r.length ≤ 100)) ∧ w = w' := by
  have HR := Lib.hid hR
  have HU := Lib.hid hU
  have HN := Lib.hid hR.len
  have HM := Lib.hid hU.len
  clear hR hU
  go_enter Try.func6, Try.ntmps6
  go_wp2_with fail
  go_loop [5, 6] (fun s i => ∃ k s' : Nat, k ≤ nr ∧ k ≤ 31 ∧ i = .int .i64 k ∧ s = .int .i64 s' ∧ s' = sumN (rows.take k) ∧ s' ≤ k * 1000) (fun _ i => 31 - (intOf i).toNat)
  case atStart => exact ⟨0, 0, Nat.zero_le _, by omega, rfl, rfl, rfl, Nat.zero_le _⟩
  case round =>
    obtain ⟨k, s, hk, hk1, rfl, rfl, hs, hs1⟩ := hrel
    have HS := Lib.hid hs
    clear hs
    by_cases hlt : k < nr ∧ k ≤ 30
    · obtain ⟨hlt, hk30⟩ := hlt
      have hi : (k : Int) < (nr : Int) := by omega
      have hi0 : (0 : Int) ≤ (k : Int) := by omega
      have hi30 : (k : Int) ≤ 30 := by omega
      obtain ⟨row, hrow⟩ : ∃ row, rows[k]? = some row := ⟨_, List.getElem?_eq_getElem (by have := HN.out; omega)⟩
      obtain ⟨b, off, a', c', rfl, hb, c0, -⟩ := HR.out.at hrow
      have HT := Lib.hid (sumN_succ hrow)
      have hm : mn2 (row.length : Int) 1000 = ((mn1000 row.length : Nat) : Int) := by unfold mn2 mn1000; omega
      have hm1 : mn1000 row.length ≤ 1000 := by unfold mn1000; omega
      have hm2 : ((mn1000 row.length : Nat) : Int) ≤ 1000 := by omega
      have hs2 : (s : Int) ≤ 31000 := by omega
      have hs0 : (0 : Int) ≤ (s : Int) := by omega
      have hm0 : (0 : Int) ≤ ((mn1000 row.length : Nat) : Int) := by omega
      clear hrow
      go_wp2_with fail
      go_round
      case rel => exact ⟨k + 1, s + mn1000 row.length, by omega, by omega, by go_num, by first | rfl | (simp; done), by rw [HT.out, HS.out], by omega⟩
      case measure => simp [intOf]; omega
    · have HX : Hid (¬ (k < nr ∧ k ≤ 30)) := Lib.hid hlt
      rcases (show (¬ (k : Int) < (nr : Int)) ∨ ((k : Int) < (nr : Int) ∧ ¬ (k : Int) ≤ 30) from by omega) with hi | ⟨hi, hi'⟩
      all_goals
        go_wp2_with fail
        go_loop [7] (fun i => ∃ j : Nat, j ≤ nd ∧ j ≤ 201 ∧ i = .int .i64 j) (fun i => 201 - (intOf i).toNat)
        case atStart => exact ⟨0, Nat.zero_le _, by omega, rfl⟩
        case round =>
          obtain ⟨j, hj, hj1, rfl⟩ := hrel
          by_cases hlt2 : j < nd ∧ j ≤ 200
          · obtain ⟨hlt2, hj200⟩ := hlt2
            have hq : (j : Int) < (nd : Int) := by omega
            have hq0 : (0 : Int) ≤ (j : Int) := by omega
            have hq200 : (j : Int) ≤ 200 := by omega
            obtain ⟨d, hd⟩ : ∃ d, du[j]? = some d := ⟨_, List.getElem?_eq_getElem (by have := HM.out; omega)⟩
            obtain ⟨b2, off2, rfl, hb2, -, c1, -⟩ := HU.out.at hd
            clear hd
            by_cases hin : (100 : Int) < (d.n : Int)
            · go_wp2_with fail
              go_ret
              exact ⟨.inl rfl, rfl⟩
            · go_wp2_with fail
              go_round
              case rel => exact ⟨j + 1, by omega, by omega, by go_num⟩
              case measure => simp [intOf]; omega
          · rcases (show (¬ (j : Int) < (nd : Int)) ∨ ((j : Int) < (nd : Int) ∧ ¬ (j : Int) ≤ 200) from by omega) with hq | ⟨hq, hq'⟩
            all_goals
              by_cases h1 : (30 : Int) < (nr : Int)
              · go_wp2_with fail
                go_ret
                exact ⟨.inl rfl, rfl⟩
              · by_cases h2 : (100 : Int) < (s : Int)
                · go_wp2_with fail
                  go_ret
                  exact ⟨.inl rfl, rfl⟩
                · by_cases h3 : (200 : Int) < (nd : Int)
                  · go_wp2_with fail
                    go_ret
                    exact ⟨.inl rfl, rfl⟩
                  · have HF : Hid (rows.length ≤ 30 ∧ ∀ r ∈ rows, r.length ≤ 100) := Lib.hid (by
                      have hn := HN.out
                      have hx := HX.out
                      have hkn : k = rows.length := by omega
                      refine ⟨by omega, fun r hr => ?_⟩
                      have h4 := sumN_mem hr
                      have h5 := HS.out
                      rw [hkn, List.take_length] at h5
                      unfold mn1000 at h4
                      omega)
                    go_wp2_with fail
                    go_ret
                    exact ⟨.inr ⟨rfl, HF.out⟩, rfl⟩
/-- Does one meeting stand ahead of another? -/
def lessB (a b : Mt) : Bool := decide (a.p < b.p ∨ a.p = b.p ∧ (a.i < b.i ∨ a.i = b.i ∧ (a.q < b.q ∨ a.q = b.q ∧ a.j < b.j)))
theorem less9 (p i q j p' i' q' j' : Int) (w : World) : Calls Try.prog 9 #[.agg #[.int .i64 p, .int .i64 i, .int .i64 q, .int .i64 j], .agg #[.int .i64 p', .int .i64 i', .int .i64 q', .int .i64 j']] w fun r w' =>
    r = .returned (.bool (lessB ⟨p, i, q, j⟩ ⟨p', i', q', j'⟩)) ∧ Below w.heap.size w w' := by
  rcases (show p < p' ∨ p' < p ∨ p = p' from by omega) with h | h | rfl
  · have HV : Hid (lessB ⟨p, i, q, j⟩ ⟨p', i', q', j'⟩ = true) := Lib.hid (by simp [lessB]; omega)
    rw [HV.out]
    have hn : (p != p') = true := by simp; omega
    go_enter Try.func9, Try.ntmps9
    go_wp2_with fail
    go_ret
    exact ⟨rfl, by (repeat' (first | (with_reducible exact Below.refl _ _) | (with_reducible assumption) | (with_reducible refine Below.drew ?_) | (with_reducible refine Below.alloc ?_ ?_ _) | (with_reducible refine below_more ?_ ?_ _ _) | (with_reducible refine Below.setCell ?_ ?_ _) | (with_reducible refine Below.trans ?_ (Below.mono (by assumption) ?_)))) <;> first | omega | (simp; done) | (simp; omega) | (simp [more_size]; done) | (simp [more_size]; omega)⟩
  · have HV : Hid (lessB ⟨p, i, q, j⟩ ⟨p', i', q', j'⟩ = false) := Lib.hid (by simp [lessB]; omega)
    rw [HV.out]
    have hn : (p != p') = true := by simp; omega
    have hl : decide (p < p') = false := by simp; omega
    go_enter Try.func9, Try.ntmps9
    go_wp2_with fail
    go_ret
    exact ⟨rfl, by (repeat' (first | (with_reducible exact Below.refl _ _) | (with_reducible assumption) | (with_reducible refine Below.drew ?_) | (with_reducible refine Below.alloc ?_ ?_ _) | (with_reducible refine below_more ?_ ?_ _ _) | (with_reducible refine Below.setCell ?_ ?_ _) | (with_reducible refine Below.trans ?_ (Below.mono (by assumption) ?_)))) <;> first | omega | (simp; done) | (simp; omega) | (simp [more_size]; done) | (simp [more_size]; omega)⟩
  · rcases (show i < i' ∨ i' < i ∨ i = i' from by omega) with h | h | rfl
    · have HV : Hid (lessB ⟨p, i, q, j⟩ ⟨p, i', q', j'⟩ = true) := Lib.hid (by simp [lessB]; omega)
      rw [HV.out]
      have hn : (i != i') = true := by simp; omega
      go_enter Try.func9, Try.ntmps9
      go_wp2_with fail
      go_ret
      exact ⟨rfl, by (repeat' (first | (with_reducible exact Below.refl _ _) | (with_reducible assumption) | (with_reducible refine Below.drew ?_) | (with_reducible refine Below.alloc ?_ ?_ _) | (with_reducible refine below_more ?_ ?_ _ _) | (with_reducible refine Below.setCell ?_ ?_ _) | (with_reducible refine Below.trans ?_ (Below.mono (by assumption) ?_)))) <;> first | omega | (simp; done) | (simp; omega) | (simp [more_size]; done) | (simp [more_size]; omega)⟩
    · have HV : Hid (lessB ⟨p, i, q, j⟩ ⟨p, i', q', j'⟩ = false) := Lib.hid (by simp [lessB]; omega)
      rw [HV.out]
      have hn : (i != i') = true := by simp; omega
      have hl : decide (i < i') = false := by simp; omega
      go_enter Try.func9, Try.ntmps9
      go_wp2_with fail
      go_ret
      exact ⟨rfl, by (repeat' (first | (with_reducible exact Below.refl _ _) | (with_reducible assumption) | (with_reducible refine Below.drew ?_) | (with_reducible refine Below.alloc ?_ ?_ _) | (with_reducible refine below_more ?_ ?_ _ _) | (with_reducible refine Below.setCell ?_ ?_ _) | (with_reducible refine Below.trans ?_ (Below.mono (by assumption) ?_)))) <;> first | omega | (simp; done) | (simp; omega) | (simp [more_size]; done) | (simp [more_size]; omega)⟩
    · rcases (show q < q' ∨ q' < q ∨ q = q' from by omega) with h | h | rfl
      · have HV : Hid (lessB ⟨p, i, q, j⟩ ⟨p, i, q', j'⟩ = true) := Lib.hid (by simp [lessB]; omega)
        rw [HV.out]
        have hn : (q != q') = true := by simp; omega
        go_enter Try.func9, Try.ntmps9
        go_wp2_with fail
        go_ret
        exact ⟨rfl, by (repeat' (first | (with_reducible exact Below.refl _ _) | (with_reducible assumption) | (with_reducible refine Below.drew ?_) | (with_reducible refine Below.alloc ?_ ?_ _) | (with_reducible refine below_more ?_ ?_ _ _) | (with_reducible refine Below.setCell ?_ ?_ _) | (with_reducible refine Below.trans ?_ (Below.mono (by assumption) ?_)))) <;> first | omega | (simp; done) | (simp; omega) | (simp [more_size]; done) | (simp [more_size]; omega)⟩
      · have HV : Hid (lessB ⟨p, i, q, j⟩ ⟨p, i, q', j'⟩ = false) := Lib.hid (by simp [lessB]; omega)
        rw [HV.out]
        have hn : (q != q') = true := by simp; omega
        have hl : decide (q < q') = false := by simp; omega
        go_enter Try.func9, Try.ntmps9
        go_wp2_with fail
        go_ret
        exact ⟨rfl, by (repeat' (first | (with_reducible exact Below.refl _ _) | (with_reducible assumption) | (with_reducible refine Below.drew ?_) | (with_reducible refine Below.alloc ?_ ?_ _) | (with_reducible refine below_more ?_ ?_ _ _) | (with_reducible refine Below.setCell ?_ ?_ _) | (with_reducible refine Below.trans ?_ (Below.mono (by assumption) ?_)))) <;> first | omega | (simp; done) | (simp; omega) | (simp [more_size]; done) | (simp [more_size]; omega)⟩
      · by_cases h : j < j'
        · have HV : Hid (lessB ⟨p, i, q, j⟩ ⟨p, i, q, j'⟩ = true) := Lib.hid (by simp [lessB]; omega)
          rw [HV.out]
          go_enter Try.func9, Try.ntmps9
          go_wp2_with fail
          go_ret
          exact ⟨rfl, by (repeat' (first | (with_reducible exact Below.refl _ _) | (with_reducible assumption) | (with_reducible refine Below.drew ?_) | (with_reducible refine Below.alloc ?_ ?_ _) | (with_reducible refine below_more ?_ ?_ _ _) | (with_reducible refine Below.setCell ?_ ?_ _) | (with_reducible refine Below.trans ?_ (Below.mono (by assumption) ?_)))) <;> first | omega | (simp; done) | (simp; omega) | (simp [more_size]; done) | (simp [more_size]; omega)⟩
        · have HV : Hid (lessB ⟨p, i, q, j⟩ ⟨p, i, q, j'⟩ = false) := Lib.hid (by simp [lessB]; omega)
          rw [HV.out]
          have hl : decide (j < j') = false := by simp; omega
          go_enter Try.func9, Try.ntmps9
          go_wp2_with fail
          go_ret
          exact ⟨rfl, by (repeat' (first | (with_reducible exact Below.refl _ _) | (with_reducible assumption) | (with_reducible refine Below.drew ?_) | (with_reducible refine Below.alloc ?_ ?_ _) | (with_reducible refine below_more ?_ ?_ _ _) | (with_reducible refine Below.setCell ?_ ?_ _) | (with_reducible refine Below.trans ?_ (Below.mono (by assumption) ?_)))) <;> first | omega | (simp; done) | (simp; omega) | (simp [more_size]; done) | (simp [more_size]; omega)⟩
end Go.Proofs.Ytcdmhldhhjolpaa
