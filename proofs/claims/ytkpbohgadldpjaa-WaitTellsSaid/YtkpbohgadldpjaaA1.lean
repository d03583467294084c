
/- Walks of the seat of chapter 23: slices.Index, Contains; 'all of these wait'. -/
import Derived.Test.YtkpbohgadldpjaaRows
import Derived.Test.YtkpbohgadldpjaaRds
import Derived.WalkKit
import Derived.WalkSpells
import Derived.WalkLawsBesides
import Derived.BigQuiet
import Derived.Deep.QuietTactic
import Derived.Deep.RegionHeld3
import Derived.Deep.DrawnRows
import Derived.Laws.EntriesVeiled
namespace Go.Proofs.Ytkpbohgadldpjaa
open Go.RowKit
attribute [local go_sem ↓] Go.wp_at_zero Go.wp_at_succ
attribute [local go_sem] more_size cell_more_old frozen_more_old setCell_more_old more_drew drew_more old_alloc old_more old_drew old_setCell cell_alloc_old frozen_alloc_old setCell_alloc_old

set_option maxHeartbeats 400000 in
theorem index35 (v : Value) (l : List Int) (y : Int) (w : World) (hl : l.length ≤ 4611686018427387904) (h : RdI w v l) :
    Calls Try.prog 35 #[v, .int .i64 y] w fun r w' => r = .returned (.int .i64 (idxV l y)) ∧ w = w' := by
  rcases h with ⟨rfl, a, c, rfl, -⟩ | ⟨hne, b, off, cap, rfl, hcap, hlt, hx⟩
  · go_enter Try.func35, Try.ntmps35
    go_wp2
    refine wp_loop_rounds 1 ?_
    rw [rounds_succ]
    go_wp2
    go_ret
    exact ⟨rfl, rfl⟩
  · have HX := Lib.hid hx
    clear hx
    have HN := Lib.hid hne
    clear hne
    go_enter Try.func35, Try.ntmps35
    go_wp2
    go_loop [8] (fun i => ∃ k : Nat, k ≤ l.length ∧ i = .int .i64 k ∧ ∀ j, j < k → l[j]? ≠ some y) (fun i => l.length - (intOf i).toNat)
    case atStart => exact ⟨0, Nat.zero_le _, rfl, fun j hj => by omega⟩
    case round =>
      obtain ⟨k, hk, rfl, hno⟩ := hrel
      have HNO := Lib.hid hno
      clear hno
      by_cases hk' : k < l.length
      · obtain ⟨z, hz⟩ : ∃ z, l[k]? = some z := ⟨l[k], List.getElem?_eq_getElem hk'⟩
        have hc := HX.out k z hz
        have HZ := Lib.hid hz
        clear hz
        by_cases hyz : y = z
        · have HE : Hid (idxV l y = k) := by show idxV l y = k; exact idxV_at (by rw [HZ.out, hyz]) HNO.out
          have hb : (y == z) = true := by simpa using hyz
          clear hyz
          go_wp2
          go_ret
          exact ⟨by rw [HE.out]; rfl, rfl⟩
        · have hb : (y == z) = false := by simpa using hyz
          have HY := Lib.hid hyz
          clear hyz
          go_wp2
          go_round
          case rel => exact ⟨k + 1, by omega, by go_num, fun j hj => by
            rcases Nat.lt_or_ge j k with h' | h'
            · exact HNO.out j h'
            · obtain rfl : j = k := by omega
              rw [HZ.out]
              intro e
              exact HY.out (Option.some.inj e).symm⟩
          case measure => simp [intOf]; omega
      · have HE : Hid (idxV l y = -1) := by show idxV l y = -1; exact idxV_none (fun j hj => HNO.out j (by omega))
        go_wp2
        go_ret
        exact ⟨by rw [HE.out]; rfl, rfl⟩

theorem contains_yes {l : List Int} {y : Int} : (decide (0 ≤ idxV l y)) = hasB l y := by
  simp only [hasB, idxV_has]
set_option maxHeartbeats 400000 in
theorem contains28 (v : Value) (l : List Int) (y : Int) (w : World) (hl : l.length ≤ 4611686018427387904) (h : RdI w v l) :
    Calls Try.prog 28 #[v, .int .i64 y] w fun r w' => r = .returned (.bool (hasB l y)) ∧ w = w' := by
  have H := Lib.hid h
  clear h
  go_enter Try.func28, Try.ntmps28
  go_wp2_with fail
  refine (index35 v l y _ hl H.out).mono ?_
  rintro r w1 ⟨rfl, rfl⟩
  go_wp2
  go_ret
  exact ⟨by rw [← contains_yes]; rfl, rfl⟩
set_option maxHeartbeats 400000 in
/-- The closure of Waits: is this one none of the row? -/
theorem notThere27 (v : Value) (l : List Int) (y : Int) (B : Nat) (w : World) (hl : l.length ≤ 4611686018427387904) (h : RdI w v l) (hB : w.cell? ⟨B, 0, none⟩ = some v) :
    Calls Try.prog 27 #[.int .i64 y, .pointer (some ⟨B, 0, none⟩)] w fun r w' => r = .returned (.bool (!hasB l y)) ∧ w = w' := by
  have H := Lib.hid h
  clear h
  go_enter Try.func27, Try.ntmps27
  go_wp2_with fail
  refine (contains28 v l y _ hl H.out).mono ?_
  rintro r w1 ⟨rfl, rfl⟩
  go_wp2
  go_ret
  exact ⟨rfl, rfl⟩

/-- Do all of these wait? -/
def allIn (l cs : List Int) : Bool := decide (∀ x ∈ cs, x ∈ l)
/-- The first that does not wait; -1: there is none. -/
def outV (l : List Int) : List Int → Int
  | [] => -1
  | y :: cs => if y ∈ l then (if outV l cs < 0 then -1 else outV l cs + 1) else 0
theorem outV_lo (l cs : List Int) : -1 ≤ outV l cs := by
  induction cs with
  | nil => simp [outV]
  | cons y cs ih => simp only [outV]; split <;> (try split) <;> omega
theorem outV_at {l cs : List Int} {k : Nat} {x : Int} (hk : cs[k]? = some x) (hx : ¬ x ∈ l) (hno : ∀ j y, j < k → cs[j]? = some y → y ∈ l) : outV l cs = k := by
  induction cs generalizing k with
  | nil => simp at hk
  | cons y cs ih =>
    cases k with
    | zero => simp at hk; subst hk; simp [outV, hx]
    | succ k =>
      have hy : y ∈ l := hno 0 y (by omega) (by simp)
      have := ih (k := k) (by simpa using hk) (fun j z hj h => hno (j + 1) z (by omega) (by simpa using h))
      simp only [outV, hy, if_true, this]
      rw [if_neg (by omega)]
      omega
theorem outV_none {l cs : List Int} (hno : ∀ j y, j < cs.length → cs[j]? = some y → y ∈ l) : outV l cs = -1 := by
  induction cs with
  | nil => rfl
  | cons y cs ih =>
    have hy : y ∈ l := hno 0 y (by simp) (by simp)
    have := ih (fun j z hj h => hno (j + 1) z (by simpa using hj) (by simpa using h))
    simp [outV, hy, this]
theorem outV_all (l cs : List Int) : (decide (0 ≤ outV l cs)) = !allIn l cs := by
  induction cs with
  | nil => simp [outV, allIn]
  | cons y cs ih =>
    simp only [outV, allIn, List.mem_cons, forall_eq_or_imp] at ih ⊢
    by_cases hy : y ∈ l
    · simp only [hy, if_true, true_and]
      rw [← ih]
      have := outV_lo l cs
      by_cases h : outV l cs < 0
      · simp [h]
      · simp only [h, if_false, decide_eq_decide]; omega
    · simp [hy]

set_option maxHeartbeats 400000 in
theorem indexFunc34 (v u : Value) (l cs : List Int) (B : Nat) (w : World) (hl : l.length ≤ 4611686018427387904) (hcs : cs.length ≤ 4611686018427387904) (h : RdI w v l) (hB : w.cell? ⟨B, 0, none⟩ = some v) (hu : RdI w u cs) :
    Calls Try.prog 34 #[u, .func (.func 27) #[] #[.pointer (some ⟨B, 0, none⟩)]] w fun r w' => r = .returned (.int .i64 (outV l cs)) ∧ w = w' := by
  have H := Lib.hid h
  have HB := Lib.hid hB
  clear h hB
  rcases hu with ⟨rfl, a, c, rfl, -⟩ | ⟨hne, b, off, cap, rfl, hcap, hlt, hx⟩
  · go_enter Try.func34, Try.ntmps34
    go_wp2
    refine wp_loop_rounds 1 ?_
    rw [rounds_succ]
    go_wp2
    go_ret
    exact ⟨rfl, rfl⟩
  · have HX := Lib.hid hx
    clear hx
    have HN := Lib.hid hne
    clear hne
    go_enter Try.func34, Try.ntmps34
    go_wp2
    go_loop [8] (fun i => ∃ k : Nat, k ≤ cs.length ∧ i = .int .i64 k ∧ ∀ j y, j < k → cs[j]? = some y → y ∈ l) (fun i => cs.length - (intOf i).toNat)
    case atStart => exact ⟨0, Nat.zero_le _, rfl, fun j y hj => by omega⟩
    case round =>
      obtain ⟨k, hk, rfl, hno⟩ := hrel
      have HNO := Lib.hid hno
      clear hno
      by_cases hk' : k < cs.length
      · obtain ⟨z, hz⟩ : ∃ z, cs[k]? = some z := ⟨cs[k], List.getElem?_eq_getElem hk'⟩
        have hc := HX.out k z hz
        have HZ := Lib.hid hz
        clear hz
        by_cases hzl : z ∈ l
        · have hb : hasB l z = true := by simpa [hasB] using hzl
          have HL := Lib.hid hzl
          clear hzl
          go_wp2_with fail
          refine (notThere27 v l z B _ hl H.out HB.out).mono ?_
          rintro r w1 ⟨rfl, rfl⟩
          go_wp2
          go_round
          case rel => exact ⟨k + 1, by omega, by go_num, fun j y hj hy => by
            rcases Nat.lt_or_ge j k with h' | h'
            · exact HNO.out j y h' hy
            · obtain rfl : j = k := by omega
              rw [HZ.out] at hy
              rw [← Option.some.inj hy]
              exact HL.out⟩
          case measure => simp [intOf]; omega
        · have hb : hasB l z = false := by simpa [hasB] using hzl
          have HE : Hid (outV l cs = k) := by show outV l cs = k; exact outV_at HZ.out hzl HNO.out
          clear hzl
          go_wp2_with fail
          refine (notThere27 v l z B _ hl H.out HB.out).mono ?_
          rintro r w1 ⟨rfl, rfl⟩
          go_wp2
          go_ret
          exact ⟨by rw [HE.out]; rfl, rfl⟩
      · have HE : Hid (outV l cs = -1) := by show outV l cs = -1; exact outV_none (fun j y hj hy => HNO.out j y (by omega) hy)
        go_wp2
        go_ret
        exact ⟨by rw [HE.out]; rfl, rfl⟩
set_option maxHeartbeats 400000 in
theorem containsFunc26 (v u : Value) (l cs : List Int) (B : Nat) (w : World) (hl : l.length ≤ 4611686018427387904) (hcs : cs.length ≤ 4611686018427387904) (h : RdI w v l) (hB : w.cell? ⟨B, 0, none⟩ = some v) (hu : RdI w u cs) :
    Calls Try.prog 26 #[u, .func (.func 27) #[] #[.pointer (some ⟨B, 0, none⟩)]] w fun r w' => r = .returned (.bool (!allIn l cs)) ∧ w = w' := by
  have H := Lib.hid h
  have HB := Lib.hid hB
  have HU := Lib.hid hu
  clear h hB hu
  go_enter Try.func26, Try.ntmps26
  go_wp2_with fail
  refine (indexFunc34 v u l cs B _ hl hcs H.out HB.out HU.out).mono ?_
  rintro r w1 ⟨rfl, rfl⟩
  go_wp2
  go_ret
  exact ⟨by rw [← outV_all]; rfl, rfl⟩
set_option maxHeartbeats 400000 in
theorem waits12 (v u : Value) (l cs : List Int) (w : World) (hl : l.length ≤ 4611686018427387904) (hcs : cs.length ≤ 4611686018427387904) (h : RdI w v l) (hu : RdI w u cs) :
    Calls Try.prog 12 #[v, u] w fun r w' => r = .returned (.bool (allIn l cs)) ∧ Below w.heap.size w w' := by
  obtain ⟨a, c, rfl⟩ := h.shape
  have H := Lib.hid h
  have HU := Lib.hid hu
  clear h hu
  go_enter Try.func12, Try.ntmps12
  go_wp2_with fail
  refine (containsFunc26 _ u l cs w.heap.size _ hl hcs (H.out.below (by (repeat' (first | (with_reducible exact Below.refl _ _) | (with_reducible assumption) | (with_reducible refine Below.drew ?_) | (with_reducible refine Below.alloc ?_ ?_ _) | (with_reducible refine below_more ?_ ?_ _ _) | (with_reducible refine Below.setCell ?_ ?_ _) | (with_reducible refine Below.trans ?_ (Below.mono (by assumption) ?_)))) <;> first | omega | (simp; done) | (simp; omega) | (simp [more_size]; done) | (simp [more_size]; omega))) (by simp [go_sem]) (HU.out.below (by (repeat' (first | (with_reducible exact Below.refl _ _) | (with_reducible assumption) | (with_reducible refine Below.drew ?_) | (with_reducible refine Below.alloc ?_ ?_ _) | (with_reducible refine below_more ?_ ?_ _ _) | (with_reducible refine Below.setCell ?_ ?_ _) | (with_reducible refine Below.trans ?_ (Below.mono (by assumption) ?_)))) <;> first | omega | (simp; done) | (simp; omega) | (simp [more_size]; done) | (simp [more_size]; omega)))).mono ?_
  rintro r w1 ⟨rfl, rfl⟩
  go_wp2
  go_ret
  exact ⟨by simp, by (repeat' (first | (with_reducible exact Below.refl _ _) | (with_reducible assumption) | (with_reducible refine Below.drew ?_) | (with_reducible refine Below.alloc ?_ ?_ _) | (with_reducible refine below_more ?_ ?_ _ _) | (with_reducible refine Below.setCell ?_ ?_ _) | (with_reducible refine Below.trans ?_ (Below.mono (by assumption) ?_)))) <;> first | omega | (simp; done) | (simp; omega) | (simp [more_size]; done) | (simp [more_size]; omega)⟩
end Go.Proofs.Ytkpbohgadldpjaa
