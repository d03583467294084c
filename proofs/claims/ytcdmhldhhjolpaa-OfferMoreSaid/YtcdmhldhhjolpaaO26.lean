/- What is ready with a later clock and one more, and without one, in plain lists. Chapter 07. No program in sight. -/
import Derived.Test.YtcdmhldhhjolpaaO24
namespace Go.Proofs.Ytcdmhldhhjolpaa

theorem flat_congr_at {α α' β : Type} (f : α × Nat → List β) (f' : α' × Nat → List β) : ∀ (l : List α) (l' : List α') (n : Nat), l.length = l'.length → (∀ i x x', l[i]? = some x → l'[i]? = some x' → f (x, i + n) = f' (x', i + n)) → (l.zipIdx n).flatMap f = (l'.zipIdx n).flatMap f'
  | [], [], _, _, _ => rfl
  | [], _ :: _, _, h, _ => by simp at h
  | _ :: _, [], _, h, _ => by simp at h
  | x :: l, x' :: l', n, hl, h => by
    rw [List.zipIdx_cons, List.zipIdx_cons, List.flatMap_cons, List.flatMap_cons]
    have h0 := h 0 x x' rfl rfl
    rw [Nat.zero_add] at h0
    rw [h0, flat_congr_at f f' l l' (n + 1) (by simpa using hl) (fun i y y' hy hy' => by
      have := h (i + 1) y y' (by simpa using hy) (by simpa using hy')
      rwa [show i + 1 + n = i + (n + 1) from by omega] at this)]
theorem flat_congr {α α' β : Type} (f : α × Nat → List β) (f' : α' × Nat → List β) (l : List α) (l' : List α') (hl : l.length = l'.length) (h : ∀ i x x', l[i]? = some x → l'[i]? = some x' → f (x, i) = f' (x', i)) : l.zipIdx.flatMap f = l'.zipIdx.flatMap f' :=
  flat_congr_at f f' l l' 0 hl (fun i x x' h1 h2 => by rw [Nat.add_zero]; exact h i x x' h1 h2)
theorem flat_filter {α β : Type} (P : β → Bool) (f : α → List β) : ∀ l : List α, (l.flatMap f).filter P = l.flatMap fun x => (f x).filter P
  | [] => rfl
  | x :: l => by rw [List.flatMap_cons, List.filter_append, flat_filter P f l, List.flatMap_cons]
theorem mem_zip' {α : Type} {l : List α} {x : α} {i : Nat} (h : l[i]? = some x) : (x, i) ∈ l.zipIdx := List.mem_zipIdx_iff_getElem?.2 h
theorem set_at {α : Type} {l : List α} {g i : Nat} {x y : α} {e : α} (h : (l.set g e)[i]? = some x) (h' : l[i]? = some y) : (i = g ∧ x = e) ∨ (i ≠ g ∧ x = y) := by
  rw [List.getElem?_set] at h
  split at h
  · rename_i hi
    split at h
    · exact .inl ⟨hi.symm, (Option.some.inj h).symm⟩
    · cases h
  · rename_i hi
    exact .inr ⟨fun e => hi e.symm, Option.some.inj (h.symm.trans h')⟩

/-! A goroutine that ends. -/
def keepM (g : Nat) (m : Mt) : Bool := decide (m.p ≠ (g : Int)) && decide (m.q ≠ (g : Int))
theorem mAll_fewer (du : List Du) (o : Ofr) (p i : Int) (rows : List (List Ofr)) (g : Nat) (hp : p ≠ g) : mAll du o p i (rows.set g []) = (mAll du o p i rows).filter (keepM g) := by
  unfold mAll
  rw [flat_filter]
  refine flat_congr _ _ _ _ (by simp) (fun q row' row h' h => ?_)
  rcases set_at h' h with ⟨rfl, rfl⟩ | ⟨hq, rfl⟩
  · refine Eq.symm (List.filter_eq_nil_iff.2 fun m hm => ?_)
    obtain ⟨j, b, _, rfl, _⟩ := mem_mRow hm
    simp [keepM]
  · refine Eq.symm (List.filter_eq_self.2 fun m hm => ?_)
    obtain ⟨j, b, _, rfl, _⟩ := mem_mRow hm
    simp only [keepM, Bool.and_eq_true, decide_eq_true_eq]
    exact ⟨hp, by omega⟩
theorem rAll_fewer (du : List Du) (ck : Int) (dial look : List Bool) (rows : List (List Ofr)) (g : Nat) : rAll du ck dial look (rows.set g []) = (rAll du ck dial look rows).filter (keepM g) := by
  unfold rAll rTo
  rw [flat_filter]
  refine flat_congr _ _ _ _ (by simp) (fun p row' row h' h => ?_)
  rcases set_at h' h with ⟨rfl, rfl⟩ | ⟨hp, rfl⟩
  · refine Eq.symm (List.filter_eq_nil_iff.2 fun m hm => ?_)
    obtain ⟨y, _, hm⟩ := List.mem_flatMap.1 hm
    have := (rOne_pi hm).1
    simp [keepM, this]
  · show (row'.zipIdx.flatMap fun x => rOne du ck _ _ (rows.set g []) p x.1 x.2) = List.filter (keepM g) (row'.zipIdx.flatMap fun x => rOne du ck _ _ rows p x.1 x.2)
    rw [flat_filter]
    refine flat_congr _ _ _ _ rfl (fun i o o' ho ho' => ?_)
    obtain rfl := Option.some.inj (ho.symm.trans ho')
    unfold rOne
    rw [List.filter_append, mAll_fewer du o _ _ rows g (by omega)]
    congr 1
    split
    · refine Eq.symm (List.filter_eq_self.2 fun m hm => ?_)
      obtain rfl := List.mem_singleton.1 hm
      simp only [keepM, Bool.and_eq_true, decide_eq_true_eq]
      exact ⟨by omega, by omega⟩
    · rfl

/-! A later clock, one row more. -/
theorem clampV_mono {x y : Int} (h : x ≤ y) : clampV x ≤ clampV y := by unfold clampV; omega
theorem aloneB_mono {du : List Du} {ck later : Int} {dl lk : Bool} {o : Ofr} (hl : ck ≤ later) (h : aloneB du ck dl lk o = true) : aloneB du later dl lk o = true := by
  unfold aloneB at h ⊢
  split
  · rename_i hk; rwa [if_pos hk] at h
  · rename_i hk
    rw [if_neg hk] at h
    split
    · rename_i hk2; rwa [if_pos hk2] at h
    · rename_i hk2
      rw [if_neg hk2] at h
      split
      · rename_i hk3
        rw [if_pos hk3] at h
        simp only [decide_eq_true_eq] at h ⊢
        have := clampV_mono hl
        omega
      · rename_i hk3; rwa [if_neg hk3] at h
theorem at_more {α : Type} {l : List α} {i : Nat} {x y : α} (h : l[i]? = some x) : (l ++ [y])[i]? = some x := by
  rw [List.getElem?_append_left (List.getElem?_eq_some_iff.1 h).1, h]
theorem rAll_more {du : List Du} {ck later : Int} {dial look : List Bool} {rows : List (List Ofr)} {more : List Ofr} {m : Mt} (hl : ck ≤ later) (h : m ∈ rAll du ck dial look rows) : m ∈ rAll du later dial look (rows ++ [more]) := by
  obtain ⟨p, i, row, o, h1, h2, h⟩ := mem_rAll h
  refine List.mem_flatMap.2 ⟨(row, p), mem_zip' (at_more h1), List.mem_flatMap.2 ⟨(o, i), mem_zip' h2, ?_⟩⟩
  show m ∈ rOne du later _ _ (rows ++ [more]) p o i
  unfold rOne at h ⊢
  refine List.mem_append.2 ?_
  rcases List.mem_append.1 h with h | h
  · left
    split at h
    · rename_i ha
      rw [if_pos (aloneB_mono hl ha)]
      exact h
    · simp at h
  · right
    obtain ⟨x, hx, hm⟩ := List.mem_flatMap.1 h
    exact List.mem_flatMap.2 ⟨x, mem_zip' (at_more (mem_zip hx)), hm⟩
end Go.Proofs.Ytcdmhldhhjolpaa
