/- A drawn region inside a fence whose first operations only read, and whose tail is forced: the head in any order, then the tail. No program in sight. -/
import Derived.StillTail
import Derived.OrdersIn
import Derived.TacticsIn
namespace Go.Proofs.Ytcdmhldhhjolpaa
open Go

section
variable {F : Fence} {n : Nat} {P : Program} {ops : Array Oper} {Q : Exit → Act → World → Prop} {md : Region.Mode}

/-- Each of the head's operations waits for earlier ones alone. -/
def backB (ops : Array Oper) (N : Nat) : Bool := (List.range N).all fun i => match ops[i]? with | some o => o.after.all fun e => decide (e.on < i) | none => false

/-- The act behind some of the head's operations: who is listed has yielded. -/
structure HeadAct (N : Nat) (D : Nat → Nat) (v : Nat → Value) (a0 : Act) (listed : Array Bool) (a : Act) : Prop where
  defers : a.defers = a0.defers
  size : a.tmps.size = a0.tmps.size
  other : ∀ d, (∀ i, i < N → D i ≠ d) → a.tmps[d]? = a0.tmps[d]?
  done : ∀ i, i < N → listed.getD i false = true → a.tmps[D i]? = some (v i)

def left (N : Nat) (listed : Array Bool) : List Nat := (List.range N).filter fun i => !listed.getD i false

theorem left_nil {N : Nat} {listed : Array Bool} (h : left N listed = []) (i : Nat) (hi : i < N) : listed.getD i false = true := by
  cases hl : listed.getD i false
  · have : i ∈ left N listed := List.mem_filter.2 ⟨List.mem_range.2 hi, by simp [hl]⟩
    rw [h] at this; cases this
  · rfl

theorem count_set {listed : Array Bool} {i : Nat} (hsz : i < listed.size) (h : listed.getD i false = false) : ∀ l : List Nat, l.Nodup → i ∈ l →
    (l.filter fun j => !(listed.setIfInBounds i true).getD j false).length + 1 = (l.filter fun j => !listed.getD j false).length := by
  intro l
  induction l with
  | nil => intro _ hm; cases hm
  | cons x l ih =>
    intro hnd hm
    rw [List.nodup_cons] at hnd
    by_cases hx : x = i
    · subst hx
      have e : (l.filter fun j => !(listed.setIfInBounds x true).getD j false) = l.filter fun j => !listed.getD j false := by
        apply List.filter_congr
        intro j hj
        have : x ≠ j := fun e => hnd.1 (e ▸ hj)
        rw [getD_set_ne false this]
      have e1 : (listed.setIfInBounds x true).getD x false = true := by simp [hsz]
      simp only [List.filter_cons, e1, h, Bool.not_true, Bool.not_false, Bool.false_eq_true, if_false, if_true, e, List.length_cons]
    · have hm' : i ∈ l := by
        rcases List.mem_cons.1 hm with h' | h'
        · exact absurd h'.symm hx
        · exact h'
      have := ih hnd.2 hm'
      simp only [List.filter_cons, getD_set_ne false (Ne.symm hx)]
      cases listed.getD x false <;> simp at this ⊢ <;> omega

theorem waits_ready {j i : Nat} {listed : Array Bool} (h : Region.waitsFor md ops j i = true) (hr : j ∈ Region.ready md ops listed) : listed.getD i false = true := by
  obtain ⟨oj, hoj, e, he, hb, hon⟩ := Region.waitsFor_spec h
  obtain ⟨_, o', ho', hall⟩ := mem_ready.1 hr
  have : o' = oj := Option.some.inj (ho'.symm.trans hoj)
  subst this
  rw [← hon]; exact hall e he hb

theorem first_ready {N : Nat} {listed : Array Bool} (hback : backB ops N = true) (hN : N ≤ ops.size) (hsz : listed.size = ops.size) :
    ∀ i, i < N → listed.getD i false = false → ∃ j, j ∈ Region.ready md ops listed := by
  intro i
  induction i using Nat.strongRecOn with
  | _ i ih =>
    intro hi hl
    have h1 := List.all_eq_true.1 hback i (List.mem_range.2 hi)
    have hlt : i < ops.size := by omega
    have ho : ops[i]? = some ops[i] := Array.getElem?_eq_getElem hlt
    rw [ho] at h1
    simp only at h1
    by_cases hall : ∀ e ∈ ops[i].after, Region.binds md e = true → listed.getD e.on false = true
    · exact ⟨i, mem_ready.2 ⟨getD_in (by omega) hl, _, ho, hall⟩⟩
    · obtain ⟨e, he⟩ := Classical.not_forall.1 hall
      obtain ⟨he1, he⟩ := Classical.not_forall.1 he
      obtain ⟨he2, he⟩ := Classical.not_forall.1 he
      have hlt' : e.on < i := by
        have := Array.all_eq_true_iff_forall_mem.1 h1 e he1
        simpa using this
      exact ih e.on hlt' (by omega) (by simpa using he)

theorem wpAnyIn_head {N : Nat} {D : Nat → Nat} {v : Nat → Value} {a0 : Act} {w : World}
    (hs : Region.sinkB md ops N = true) (hc : Region.chainB md ops N = true) (hback : backB ops N = true) (hn : N < ops.size)
    (hD : ∀ i, i < N → D i < a0.tmps.size) (hinj : ∀ i j, i < N → j < N → D i = D j → i = j)
    (hrun : ∀ i, i < N → ∀ (a : Act) (K : Act → World → Prop), (∀ d, (∀ i, i < N → D i ≠ d) → a.tmps[d]? = a0.tmps[d]?) → (∀ j, j < N → Region.waitsFor md ops i j = true → a.tmps[D j]? = some (v j)) →
      K (a.put (some (D i)) (v i)) w → wpOpIn F n P ops Q i K a w)
    (hfin : ∀ a : Act, a.defers = a0.defers → a.tmps.size = a0.tmps.size → (∀ d, (∀ i, i < N → D i ≠ d) → a.tmps[d]? = a0.tmps[d]?) → (∀ i, i < N → a.tmps[D i]? = some (v i)) →
      wpAnyIn F n P md ops Q (ops.size - N) (Array.replicate N true ++ Array.replicate (ops.size - N) false) a w) :
    ∀ (m : Nat) (listed : Array Bool) (a : Act), (left N listed).length = m → HeadInv md ops N listed → (∀ t, N ≤ t → listed.getD t false = false) → HeadAct N D v a0 listed a →
      wpAnyIn F n P md ops Q (m + (ops.size - N)) listed a w := by
  intro m
  induction m with
  | zero =>
    intro listed a hm inv htl ha
    have hnil : left N listed = [] := List.length_eq_zero_iff.1 hm
    have hall := fun i hi => left_nil hnil i hi
    have e : listed = Array.replicate N true ++ Array.replicate (ops.size - N) false := by
      apply Array.ext
      · rw [inv.size]; simp; omega
      · intro i h1 h2
        by_cases hi : i < N
        · have := hall i hi
          rw [Array.getElem_append_left (by simpa using hi)]
          simpa [h1] using this
        · have := htl i (by omega)
          rw [Array.getElem_append_right (by simp; omega)]
          simpa [h1] using this
    rw [Nat.zero_add, e]
    exact hfin a ha.defers ha.size ha.other fun i hi => ha.done i hi (hall i hi)
  | succ m ih =>
    intro listed a hm inv htl ha
    obtain ⟨i0, hi0⟩ : ∃ i0, i0 ∈ left N listed := by
      cases hl : left N listed with
      | nil => rw [hl] at hm; simp at hm
      | cons x l => exact ⟨x, by simp⟩
    have hi0' := List.mem_filter.1 hi0
    have hi0N := List.mem_range.1 hi0'.1
    have hi0l : listed.getD i0 false = false := by simpa using hi0'.2
    rw [show m + 1 + (ops.size - N) = (m + (ops.size - N)) + 1 by omega]
    refine ⟨fun h0 => ?_, fun i hi => ?_⟩
    · obtain ⟨j, hj⟩ := first_ready (md := md) hback (by omega) inv.size i0 hi0N hi0l
      rw [h0] at hj; cases hj
    · have hiN : i < N := by
        rcases Nat.lt_or_ge i N with h | h
        · exact h
        · exact absurd hi (tail_waits hs hc hn inv _ i0 rfl hi0N (getD_in (by rw [inv.size]; omega) hi0l) i h)
      have hil : listed.getD i false = false := getD_both (mem_ready.1 hi).1
      have hisz : i < listed.size := by rw [inv.size]; omega
      refine hrun i hiN a _ ha.other (fun j hj hw => ha.done j hj (waits_ready hw hi)) ?_
      refine ih _ _ ?_ (inv.set hi hiN) (fun t ht => by rw [getD_set_ne false (by omega)]; exact htl t ht) ?_
      · have := count_set hisz hil (List.range N) List.nodup_range (List.mem_range.2 hiN)
        simp only [left] at hm ⊢
        omega
      · refine ⟨ha.defers, by simp [Act.put, ha.size], fun d hd => ?_, fun j hj hl => ?_⟩
        · have := hd i hiN
          simp only [Act.put, Array.getElem?_setIfInBounds_ne this]
          exact ha.other d hd
        · by_cases hji : i = j
          · subst hji
            simp only [Act.put]
            rw [Array.getElem?_setIfInBounds_self_of_lt (by rw [ha.size]; exact hD i hiN)]
          · have hne : D i ≠ D j := fun e => hji (hinj i j hiN hj e)
            simp only [Act.put, Array.getElem?_setIfInBounds_ne hne]
            rw [getD_set_ne false hji] at hl
            exact ha.done j hj hl

theorem left_all (N m : Nat) : (left N (Array.replicate m false)).length = N := by
  simp only [left, getD_replicate_false]
  rw [List.filter_eq_self.2 (by simp)]
  simp

/-- The act behind the whole head. -/
def headAct (D : Nat → Nat) (v : Nat → Value) (a0 : Act) (N : Nat) : Act := (List.range N).foldl (fun a i => a.put (some (D i)) (v i)) a0

theorem headAct_is {D : Nat → Nat} {v : Nat → Value} {a0 : Act} {N : Nat} (hD : ∀ i, i < N → D i < a0.tmps.size) (hinj : ∀ i j, i < N → j < N → D i = D j → i = j) :
    ∀ k, k ≤ N → (headAct D v a0 k).defers = a0.defers ∧ (headAct D v a0 k).tmps.size = a0.tmps.size ∧ (∀ d, (∀ i, i < k → D i ≠ d) → (headAct D v a0 k).tmps[d]? = a0.tmps[d]?) ∧
      (∀ i, i < k → (headAct D v a0 k).tmps[D i]? = some (v i)) := by
  intro k
  induction k with
  | zero => intro _; exact ⟨rfl, rfl, fun _ _ => rfl, fun i hi => by omega⟩
  | succ k ih =>
    intro hk
    obtain ⟨h1, h2, h3, h4⟩ := ih (by omega)
    have e : headAct D v a0 (k + 1) = (headAct D v a0 k).put (some (D k)) (v k) := by simp [headAct, List.range_succ]
    rw [e]
    refine ⟨h1, by simp [Act.put, h2], fun d hd => ?_, fun i hi => ?_⟩
    · simp only [Act.put, Array.getElem?_setIfInBounds_ne (hd k (by omega))]
      exact h3 d fun i hi => hd i (by omega)
    · by_cases hik : i = k
      · subst hik
        simp only [Act.put]
        rw [Array.getElem?_setIfInBounds_self_of_lt (by rw [h2]; exact hD i (by omega))]
      · have hne : D k ≠ D i := fun e => hik (hinj i k (by omega) (by omega) e.symm)
        simp only [Act.put, Array.getElem?_setIfInBounds_ne hne]
        exact h4 i (by omega)

theorem headAct_eq {D : Nat → Nat} {v : Nat → Value} {a0 a : Act} {N : Nat} (hD : ∀ i, i < N → D i < a0.tmps.size) (hinj : ∀ i j, i < N → j < N → D i = D j → i = j)
    (h1 : a.defers = a0.defers) (h3 : ∀ d, (∀ i, i < N → D i ≠ d) → a.tmps[d]? = a0.tmps[d]?) (h4 : ∀ i, i < N → a.tmps[D i]? = some (v i)) : a = headAct D v a0 N := by
  obtain ⟨g1, g2, g3, g4⟩ := headAct_is (v := v) hD hinj N (Nat.le_refl _)
  have : a.tmps = (headAct D v a0 N).tmps := by
    apply Array.ext_getElem?
    intro d
    by_cases hd : ∀ i, i < N → D i ≠ d
    · rw [h3 d hd, g3 d hd]
    · obtain ⟨i, hi⟩ := Classical.not_forall.1 hd
      have hi1 : i < N := Classical.byContradiction fun h => hi fun h' => absurd h' h
      have hid : D i = d := Classical.byContradiction fun h => hi fun _ => h
      subst hid
      rw [h4 i hi1, g4 i hi1]
  cases a; cases hq : headAct D v a0 N
  rw [hq] at this g1
  simp only at this h1 g1
  rw [this, h1, g1]

/-- A region: readers first, in any order, then the tail. -/
theorem wpIn_region_head {id N : Nat} {D : Nat → Nat} {v : Nat → Value} {a0 : Act} {w : World} (hm : P.follows .mixedOrders = true)
    (hs : Region.sinkB .any ops N = true) (hc : Region.chainB .any ops N = true) (hback : backB ops N = true) (hn : N < ops.size)
    (hD : ∀ i, i < N → D i < a0.tmps.size) (hinj : ∀ i j, i < N → j < N → D i = D j → i = j)
    (hrun : ∀ i, i < N → ∀ (a : Act) (K : Act → World → Prop), (∀ d, (∀ i, i < N → D i ≠ d) → a.tmps[d]? = a0.tmps[d]?) → (∀ j, j < N → Region.waitsFor .any ops i j = true → a.tmps[D j]? = some (v j)) →
      K (a.put (some (D i)) (v i)) w.drew → wpOpIn F n P ops Q i K a w.drew)
    (hfin : wpAnyIn F n P .any ops Q (ops.size - N) (Array.replicate N true ++ Array.replicate (ops.size - N) false) (headAct D v a0 N) w.drew) :
    (Code.region id ops true).wpIn F n P Q a0 w := by
  refine wpIn_region_any hm ?_
  have := wpAnyIn_head (Q := Q) (w := w.drew) hs hc hback hn hD hinj hrun (fun a h1 _ h3 h4 => by rw [headAct_eq hD hinj h1 h3 h4]; exact hfin) N (Array.replicate ops.size false) a0 (left_all N _)
    ⟨by simp, fun j oj _ hl => (by rw [getD_replicate_false] at hl; cases hl), fun t _ ht => getD_in (by simpa using ht) (getD_replicate_false _ _)⟩
    (fun t _ => getD_replicate_false _ _) ⟨rfl, rfl, fun _ _ => rfl, fun i _ hl => (by rw [getD_replicate_false] at hl; cases hl)⟩
  rw [show N + (ops.size - N) = ops.size by omega] at this
  exact this
end
end Go.Proofs.Ytcdmhldhhjolpaa
