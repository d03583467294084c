/- A drawn region inside a fence: behind its first operations a second head whose operations only read, in any order; then the tail. No program in sight. -/
import Derived.Test.YtcdmhldhhjolpaaHeadIn
namespace Go.Proofs.Ytcdmhldhhjolpaa
open Go

section
variable {F : Fence} {n : Nat} {P : Program} {ops : Array Oper} {Q : Exit → Act → World → Prop} {md : Region.Mode}

/-- Each of the tail waits for an earlier one of the tail. -/
def chainL (md : Region.Mode) (ops : Array Oper) (N : Nat) : Bool :=
  (List.range ops.size).all fun t => decide (t ≤ N) || (List.range t).any fun j => decide (N ≤ j) && Region.waitsFor md ops t j
theorem tail_waitsL {n : Nat} {listed : Array Bool} (hs : Region.sinkB md ops n = true) (hc : chainL md ops n = true) (hn : n < ops.size) (inv : HeadInv md ops n listed) :
    ∀ (d i : Nat), n - i = d → i < n → listed.getD i true = false → ∀ t, n ≤ t → t ∉ Region.ready md ops listed := by
  intro d
  induction d using Nat.strongRecOn with
  | _ d ih =>
    intro i hd hi hun t ht hr
    obtain ⟨_, ot, hot, hall⟩ := mem_ready.1 hr
    have htlt : t < ops.size := (Array.getElem?_eq_some_iff.1 hot).1
    by_cases htn : t = n
    · subst htn
      have h1 := List.all_eq_true.1 hs i (List.mem_range.2 hi)
      obtain ⟨j, hj, hj2⟩ := List.any_eq_true.1 h1
      simp only [Bool.and_eq_true, decide_eq_true_eq] at hj2
      obtain ⟨oj, hoj, e, he, hb, hon⟩ := Region.waitsFor_spec hj2.2
      have hjle : j ≤ t := by have := List.mem_range.1 hj; omega
      by_cases hjt : j = t
      · subst hjt
        have : oj = ot := Option.some.inj (hoj.symm.trans hot)
        subst this
        have h2 := hall e he hb
        rw [hon, getD_both hun] at h2
        cases h2
      · cases hl : listed.getD j false with
        | true =>
          have h2 := inv.closed j oj hoj hl e he hb
          rw [hon, getD_both hun] at h2
          cases h2
        | false =>
          have hjs : j < listed.size := by rw [inv.size]; omega
          exact ih (t - j) (by omega) j rfl (by omega) (getD_in hjs hl) t (Nat.le_refl _) hr
    · have h1 := List.all_eq_true.1 hc t (List.mem_range.2 htlt)
      simp only [Bool.or_eq_true, decide_eq_true_eq] at h1
      rcases h1 with h1 | h1
      · omega
      · obtain ⟨j, hj, hj2⟩ := List.any_eq_true.1 h1
        simp only [Bool.and_eq_true, decide_eq_true_eq] at hj2
        have hjt := List.mem_range.1 hj
        obtain ⟨o', ho', e, he, hb, hon⟩ := Region.waitsFor_spec hj2.2
        have : o' = ot := Option.some.inj (ho'.symm.trans hot)
        subst this
        have h2 := hall e he hb
        rw [hon, getD_both (inv.tail j (by omega) (by omega))] at h2
        cases h2

theorem wpAnyIn_headM {M N : Nat} {D : Nat → Nat} {v : Nat → Value} {a0 : Act} {w : World}
    (hs : Region.sinkB md ops N = true) (hc : chainL md ops N = true) (hback : backB ops N = true) (hn : N < ops.size)
    (hD : ∀ i, i < N → D i < a0.tmps.size) (hinj : ∀ i j, i < N → j < N → D i = D j → i = j)
    (hrun : ∀ i, M ≤ i → i < N → ∀ (a : Act) (K : Act → World → Prop), (∀ d, (∀ i, i < N → D i ≠ d) → a.tmps[d]? = a0.tmps[d]?) → (∀ j, j < N → Region.waitsFor md ops i j = true → a.tmps[D j]? = some (v j)) →
      K (a.put (some (D i)) (v i)) w → wpOpIn F n P ops Q i K a w)
    (hfin : ∀ a : Act, a.defers = a0.defers → a.tmps.size = a0.tmps.size → (∀ d, (∀ i, i < N → D i ≠ d) → a.tmps[d]? = a0.tmps[d]?) → (∀ i, i < N → a.tmps[D i]? = some (v i)) →
      wpAnyIn F n P md ops Q (ops.size - N) (Array.replicate N true ++ Array.replicate (ops.size - N) false) a w) :
    ∀ (m : Nat) (listed : Array Bool) (a : Act), (left N listed).length = m → HeadInv md ops N listed → (∀ t, t < M → listed.getD t false = true) → (∀ t, N ≤ t → listed.getD t false = false) → HeadAct N D v a0 listed a →
      wpAnyIn F n P md ops Q (m + (ops.size - N)) listed a w := by
  intro m
  induction m with
  | zero =>
    intro listed a hm inv hM htl ha
    have hnil : left N listed = [] := List.length_eq_zero_iff.1 hm
    have hall := fun i hi => left_nil hnil i hi
    have e : listed = Array.replicate N true ++ Array.replicate (ops.size - N) false := by
      apply Array.ext
      · rw [inv.size]; simp; omega
      · intro i h1 h2
        by_cases hi : i < N
        · have := hall i hi
          rw [Array.getElem_append_left (by simpa using hi)]
          simpa [h1] using this
        · have := htl i (by omega)
          rw [Array.getElem_append_right (by simp; omega)]
          simpa [h1] using this
    rw [Nat.zero_add, e]
    exact hfin a ha.defers ha.size ha.other fun i hi => ha.done i hi (hall i hi)
  | succ m ih =>
    intro listed a hm inv hM htl ha
    obtain ⟨i0, hi0⟩ : ∃ i0, i0 ∈ left N listed := by
      cases hl : left N listed with
      | nil => rw [hl] at hm; simp at hm
      | cons x l => exact ⟨x, by simp⟩
    have hi0' := List.mem_filter.1 hi0
    have hi0N := List.mem_range.1 hi0'.1
    have hi0l : listed.getD i0 false = false := by simpa using hi0'.2
    rw [show m + 1 + (ops.size - N) = (m + (ops.size - N)) + 1 by omega]
    refine ⟨fun h0 => ?_, fun i hi => ?_⟩
    · obtain ⟨j, hj⟩ := first_ready (md := md) hback (by omega) inv.size i0 hi0N hi0l
      rw [h0] at hj; cases hj
    · have hiN : i < N := by
        rcases Nat.lt_or_ge i N with h | h
        · exact h
        · exact absurd hi (tail_waitsL hs hc hn inv _ i0 rfl hi0N (getD_in (by rw [inv.size]; omega) hi0l) i h)
      have hil : listed.getD i false = false := getD_both (mem_ready.1 hi).1
      have hisz : i < listed.size := by rw [inv.size]; omega
      have hMi : M ≤ i := Nat.le_of_not_lt fun h => by rw [hM i h] at hil; cases hil
      refine hrun i hMi hiN a _ ha.other (fun j hj hw => ha.done j hj (waits_ready hw hi)) ?_
      refine ih _ _ ?_ (inv.set hi hiN) (fun t ht => by rw [getD_set_ne false (by omega)]; exact hM t ht) (fun t ht => by rw [getD_set_ne false (by omega)]; exact htl t ht) ?_
      · have := count_set hisz hil (List.range N) List.nodup_range (List.mem_range.2 hiN)
        simp only [left] at hm ⊢
        omega
      · refine ⟨ha.defers, by simp [Act.put, ha.size], fun d hd => ?_, fun j hj hl => ?_⟩
        · have := hd i hiN
          simp only [Act.put, Array.getElem?_setIfInBounds_ne this]
          exact ha.other d hd
        · by_cases hji : i = j
          · subst hji
            simp only [Act.put]
            rw [Array.getElem?_setIfInBounds_self_of_lt (by rw [ha.size]; exact hD i hiN)]
          · have hne : D i ≠ D j := fun e => hji (hinj i j hiN hj e)
            simp only [Act.put, Array.getElem?_setIfInBounds_ne hne]
            rw [getD_set_ne false hji] at hl
            exact ha.done j hj hl


theorem left_mid (N M m : Nat) (h : M ≤ N) : (left N (Array.replicate M true ++ Array.replicate m false)).length = N - M := by
  obtain ⟨k, rfl⟩ : ∃ k, N = M + k := ⟨N - M, by omega⟩
  have h1 : ∀ i, i < M → (Array.replicate M true ++ Array.replicate m false).getD i false = true := by
    intro i hi
    simp only [Array.getD_eq_getD_getElem?]
    rw [Array.getElem?_append_left (by simpa using hi)]
    simp [hi]
  have h2 : ∀ i, M ≤ i → (Array.replicate M true ++ Array.replicate m false).getD i false = false := by
    intro i hi
    simp only [Array.getD_eq_getD_getElem?]
    rw [Array.getElem?_append_right (by simpa using hi)]
    cases h : (Array.replicate m false)[i - (Array.replicate M true).size]? with
    | none => rfl
    | some x =>
      rw [Array.getElem?_replicate] at h
      split at h
      · cases h; rfl
      · cases h
  unfold left
  rw [List.range_add, List.filter_append, List.length_append]
  rw [List.filter_eq_nil_iff.2 (fun i hi => by rw [h1 i (List.mem_range.1 hi)]; simp)]
  rw [List.filter_eq_self.2 (fun i hi => by
    obtain ⟨j, _, rfl⟩ := List.mem_map.1 hi
    rw [h2 _ (by omega)]; rfl)]
  simp

/-- A region's second head: readers, in any order, then the tail. -/
theorem wpAnyIn_mid {M N f : Nat} {D : Nat → Nat} {v : Nat → Value} {a0 : Act} {w : World} {listed : Array Bool} (hl : listed = Array.replicate M true ++ Array.replicate (ops.size - M) false) (hf : f = ops.size - M) (hMN : M ≤ N)
    (hs : Region.sinkB .any ops N = true) (hc : chainL .any ops N = true) (hback : backB ops N = true) (hn : N < ops.size)
    (hD : ∀ i, i < N → D i < a0.tmps.size) (hinj : ∀ i j, i < N → j < N → D i = D j → i = j) (hv : ∀ i, i < M → a0.tmps[D i]? = some (v i))
    (hrun : ∀ i, M ≤ i → i < N → ∀ (a : Act) (K : Act → World → Prop), (∀ d, (∀ i, i < N → D i ≠ d) → a.tmps[d]? = a0.tmps[d]?) → (∀ j, j < N → Region.waitsFor .any ops i j = true → a.tmps[D j]? = some (v j)) →
      K (a.put (some (D i)) (v i)) w → wpOpIn F n P ops Q i K a w)
    (hfin : wpAnyIn F n P .any ops Q (ops.size - N) (Array.replicate N true ++ Array.replicate (ops.size - N) false) (headAct D v a0 N) w) :
    wpAnyIn F n P .any ops Q f listed a0 w := by
  subst hl hf
  have h1 : ∀ i, i < M → (Array.replicate M true ++ Array.replicate (ops.size - M) false).getD i false = true := by
    intro i hi
    simp only [Array.getD_eq_getD_getElem?]
    rw [Array.getElem?_append_left (by simpa using hi)]
    simp [hi]
  have h2 : ∀ i, M ≤ i → (Array.replicate M true ++ Array.replicate (ops.size - M) false).getD i false = false := by
    intro i hi
    simp only [Array.getD_eq_getD_getElem?]
    rw [Array.getElem?_append_right (by simpa using hi)]
    cases h : (Array.replicate (ops.size - M) false)[i - (Array.replicate M true).size]? with
    | none => rfl
    | some x =>
      rw [Array.getElem?_replicate] at h
      split at h
      · cases h; rfl
      · cases h
  have := wpAnyIn_headM (M := M) (Q := Q) (w := w) hs hc hback hn hD hinj hrun (fun a h1 _ h3 h4 => by rw [headAct_eq hD hinj h1 h3 h4]; exact hfin) (N - M) (Array.replicate M true ++ Array.replicate (ops.size - M) false) a0 (left_mid _ _ _ hMN)
    ⟨by simp; omega, fun j oj hj hl e he hb => by
        have hjM : j < M := Nat.lt_of_not_le fun h => by rw [h2 j h] at hl; cases hl
        have hb' := List.all_eq_true.1 hback j (List.mem_range.2 (by omega))
        rw [hj] at hb'
        simp only at hb'
        have := Array.all_eq_true_iff_forall_mem.1 hb' e he
        exact h1 _ (by have : e.on < j := by simpa using this
                       omega), fun t ht h => by
        exact getD_in (by simp; omega) (h2 t (by omega))⟩
    h1 (fun t ht => h2 t (by omega)) ⟨rfl, rfl, fun _ _ => rfl, fun i hi hl => hv i (Nat.lt_of_not_le fun h => by rw [h2 i h] at hl; cases hl)⟩
  rw [show N - M + (ops.size - N) = ops.size - M by omega] at this
  exact this
/-- A region: readers first, in any order, then a tail of any form. -/
theorem wpIn_region_headL {id N : Nat} {D : Nat → Nat} {v : Nat → Value} {a0 : Act} {w : World} (hm : P.follows .mixedOrders = true)
    (hs : Region.sinkB .any ops N = true) (hc : chainL .any ops N = true) (hback : backB ops N = true) (hn : N < ops.size)
    (hD : ∀ i, i < N → D i < a0.tmps.size) (hinj : ∀ i j, i < N → j < N → D i = D j → i = j)
    (hrun : ∀ i, i < N → ∀ (a : Act) (K : Act → World → Prop), (∀ d, (∀ i, i < N → D i ≠ d) → a.tmps[d]? = a0.tmps[d]?) → (∀ j, j < N → Region.waitsFor .any ops i j = true → a.tmps[D j]? = some (v j)) →
      K (a.put (some (D i)) (v i)) w.drew → wpOpIn F n P ops Q i K a w.drew)
    (hfin : wpAnyIn F n P .any ops Q (ops.size - N) (Array.replicate N true ++ Array.replicate (ops.size - N) false) (headAct D v a0 N) w.drew) :
    (Code.region id ops true).wpIn F n P Q a0 w :=
  wpIn_region_any hm (wpAnyIn_mid (M := 0) (by simp) (by simp) (Nat.zero_le _) hs hc hback hn hD hinj (fun i hi => by omega) (fun i _ => hrun i) hfin)
end
end Go.Proofs.Ytcdmhldhhjolpaa
