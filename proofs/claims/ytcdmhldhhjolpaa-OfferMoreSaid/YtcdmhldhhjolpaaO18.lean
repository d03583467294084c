/- What is ready, in plain lists: rising, of cases that there are. Chapter 07. No program in sight. -/
import Derived.Test.YtcdmhldhhjolpaaO14
namespace Go.Proofs.Ytcdmhldhhjolpaa

theorem flat_len {α β : Type} (f : α → List β) (c : Nat) : ∀ (l : List α), (∀ x ∈ l, (f x).length ≤ c) → (l.flatMap f).length ≤ l.length * c
  | [], _ => by simp
  | x :: l, h => by
    have h1 := h x (by simp)
    have h2 := flat_len f c l (fun y hy => h y (by simp [hy]))
    rw [List.flatMap_cons, List.length_append, List.length_cons, Nat.add_mul]
    omega
theorem mem_zip {α : Type} {l : List α} {x : α × Nat} (h : x ∈ l.zipIdx) : l[x.2]? = some x.1 := by
  have := List.mem_zipIdx_iff_getElem?.1 h
  simpa using this
theorem zip_rise {α : Type} (l : List α) : l.zipIdx.Pairwise fun a b => a.2 < b.2 := by
  have h : (l.zipIdx.map Prod.snd).Pairwise (· < ·) := by
    rw [List.zipIdx_map_snd]
    exact List.pairwise_lt_range'
  exact List.pairwise_map.1 h
theorem zip_flat {α β : Type} {R : β → β → Prop} (f : α × Nat → List β) (l : List α) (h1 : ∀ x ∈ l.zipIdx, (f x).Pairwise R) (h2 : ∀ x ∈ l.zipIdx, ∀ y ∈ l.zipIdx, x.2 < y.2 → ∀ a ∈ f x, ∀ b ∈ f y, R a b) : (l.zipIdx.flatMap f).Pairwise R := by
  rw [List.pairwise_flatMap]
  refine ⟨h1, ?_⟩
  have h := zip_rise l
  rw [List.pairwise_iff_getElem] at h ⊢
  intro i j hi hj hij
  exact h2 _ (List.getElem_mem _) _ (List.getElem_mem _) (h i j hi hj hij)

/-- How long. -/
theorem rAll_len (du : List Du) (ck : Int) (dial look : List Bool) (rows : List (List Ofr)) (h1 : rows.length ≤ 30) (h2 : ∀ r ∈ rows, r.length ≤ 100) : (rAll du ck dial look rows).length ≤ 10000000 := by
  have hm : ∀ o p i, (mAll du o p i rows).length ≤ 3000 := by
    intro o p i
    have := flat_len (fun x : List Ofr × Nat => mRow du o p i x.2 x.1) 100 rows.zipIdx (fun x hx => by
      have hr := h2 x.1 (List.mem_iff_getElem?.2 ⟨_, mem_zip hx⟩)
      have := flat_len (fun y : Ofr × Nat => mOne du o p i x.2 y.1 y.2) 1 x.1.zipIdx (fun y _ => by unfold mOne; split <;> simp)
      rw [List.length_zipIdx] at this
      show ((x.1.zipIdx.flatMap fun y : Ofr × Nat => mOne du o p i x.2 y.1 y.2)).length ≤ 100
      omega)
    rw [List.length_zipIdx] at this
    show ((rows.zipIdx.flatMap fun x : List Ofr × Nat => mRow du o p i x.2 x.1)).length ≤ 3000
    omega
  have ho : ∀ dl lk p o i, (rOne du ck dl lk rows p o i).length ≤ 3001 := by
    intro dl lk p o i
    have := hm o p i
    unfold rOne
    rw [List.length_append]
    split <;> simp <;> omega
  have := flat_len (fun x : List Ofr × Nat => rAt du ck dial look rows x.1 x.2) 300100 rows.zipIdx (fun x hx => by
    have hr := h2 x.1 (List.mem_iff_getElem?.2 ⟨_, mem_zip hx⟩)
    have := flat_len (fun y : Ofr × Nat => rOne du ck (dial[x.2]?.getD false) (look[x.2]?.getD false) rows x.2 y.1 y.2) 3001 x.1.zipIdx (fun y _ => ho _ _ _ _ _)
    rw [List.length_zipIdx] at this
    show ((x.1.zipIdx.flatMap fun y : Ofr × Nat => rOne du ck (dial[x.2]?.getD false) (look[x.2]?.getD false) rows x.2 y.1 y.2)).length ≤ 300100
    omega)
  rw [List.length_zipIdx] at this
  show ((rows.zipIdx.flatMap fun x : List Ofr × Nat => rAt du ck dial look rows x.1 x.2)).length ≤ 10000000
  omega

theorem mem_mOne {du : List Du} {o b : Ofr} {p i : Int} {q j : Nat} {m : Mt} (h : m ∈ mOne du o p i q b j) : m = ⟨p, i, q, j⟩ ∧ (q : Int) ≠ p ∧ meetB du o b = true := by
  unfold mOne at h
  split at h
  · rename_i hh
    simp at h
    exact ⟨h, hh⟩
  · simp at h
theorem mem_mRow {du : List Du} {o : Ofr} {p i : Int} {q : Nat} {row : List Ofr} {m : Mt} (h : m ∈ mRow du o p i q row) : ∃ (j : Nat) (b : Ofr), row[j]? = some b ∧ m = ⟨p, i, q, j⟩ ∧ (q : Int) ≠ p ∧ meetB du o b = true := by
  obtain ⟨x, hx, hm⟩ := List.mem_flatMap.1 h
  exact ⟨x.2, x.1, mem_zip hx, mem_mOne hm⟩
theorem mem_mAll {du : List Du} {o : Ofr} {p i : Int} {rows : List (List Ofr)} {m : Mt} (h : m ∈ mAll du o p i rows) : ∃ (q j : Nat) (row : List Ofr) (b : Ofr), rows[q]? = some row ∧ row[j]? = some b ∧ m = ⟨p, i, q, j⟩ ∧ (q : Int) ≠ p ∧ meetB du o b = true := by
  obtain ⟨x, hx, hm⟩ := List.mem_flatMap.1 h
  obtain ⟨j, b, hb, h⟩ := mem_mRow hm
  exact ⟨x.2, j, x.1, b, mem_zip hx, hb, h⟩
theorem mem_rOne {du : List Du} {ck : Int} {dl lk : Bool} {rows : List (List Ofr)} {p i : Nat} {o : Ofr} {m : Mt} (h : m ∈ rOne du ck dl lk rows p o i) :
    (m = ⟨p, i, -1, -1⟩ ∧ aloneB du ck dl lk o = true) ∨ ∃ (q j : Nat) (row : List Ofr) (b : Ofr), rows[q]? = some row ∧ row[j]? = some b ∧ m = ⟨p, i, q, j⟩ ∧ (q : Int) ≠ p ∧ meetB du o b = true := by
  unfold rOne at h
  rcases List.mem_append.1 h with h | h
  · split at h
    · rename_i ha
      simp at h
      exact .inl ⟨h, ha⟩
    · simp at h
  · exact .inr (mem_mAll h)
theorem mem_rAll {du : List Du} {ck : Int} {dial look : List Bool} {rows : List (List Ofr)} {m : Mt} (h : m ∈ rAll du ck dial look rows) :
    ∃ (p i : Nat) (row : List Ofr) (o : Ofr), rows[p]? = some row ∧ row[i]? = some o ∧ m ∈ rOne du ck (dial[p]?.getD false) (look[p]?.getD false) rows p o i := by
  obtain ⟨x, hx, hm⟩ := List.mem_flatMap.1 h
  obtain ⟨y, hy, hm⟩ := List.mem_flatMap.1 hm
  exact ⟨x.2, y.2, x.1, y.1, mem_zip hx, mem_zip hy, hm⟩
theorem meetB_true {du : List Du} {a b : Ofr} (h : meetB du a b = true) : a.k = 0 ∧ b.k = 1 ∧ a.d = b.d ∧ ∃ d, duAt du a.d = some d ∧ d.c = 0 ∧ d.b = false := by
  unfold meetB at h
  split at h
  · rename_i hh
    refine ⟨hh.1, hh.2.1, hh.2.2, ?_⟩
    split at h
    · rename_i d hd
      refine ⟨d, hd, ?_⟩
      simp at h
      exact ⟨h.2, h.1⟩
    · cases h
  · cases h
theorem aloneB_take {du : List Du} {ck : Int} {dl lk : Bool} {o : Ofr} (h : aloneB du ck dl lk o = true) (hk : o.k = 1) : ∃ d, duAt du o.d = some d ∧ readyB d = true := by
  unfold aloneB at h
  rw [if_neg (by omega), if_pos hk] at h
  split at h
  · rename_i d hd; exact ⟨d, hd, h⟩
  · cases h
theorem duAt_some {du : List Du} {x : Int} {d : Du} (h : duAt du x = some d) : ∃ k : Nat, x = k ∧ du[k]? = some d := by
  unfold duAt at h
  split at h
  · cases h
  · exact ⟨x.toNat, by omega, h⟩

theorem rOne_rise (du : List Du) (ck : Int) (dl lk : Bool) (rows : List (List Ofr)) (p : Nat) (o : Ofr) (i : Nat) : (rOne du ck dl lk rows p o i).Pairwise fun x y => lessB x y = true := by
  unfold rOne
  rw [List.pairwise_append]
  refine ⟨?_, zip_flat _ _ (fun x hx => zip_flat _ _ (fun y hy => ?_) (fun y hy z hz hyz a ha b hb => ?_)) (fun x hx y hy hxy a ha b hb => ?_), fun a ha b hb => ?_⟩
  · split <;> simp
  · unfold mOne; split <;> simp
  · obtain ⟨rfl, -⟩ := mem_mOne ha
    obtain ⟨rfl, -⟩ := mem_mOne hb
    simp [lessB]; omega
  · obtain ⟨j, _, _, rfl, -⟩ := mem_mRow ha
    obtain ⟨j, _, _, rfl, -⟩ := mem_mRow hb
    simp [lessB]; omega
  · split at ha
    · simp at ha
      subst ha
      obtain ⟨q, j, _, _, _, _, rfl, -⟩ := mem_mAll hb
      simp [lessB]; omega
    · simp at ha
theorem rOne_pi {du : List Du} {ck : Int} {dl lk : Bool} {rows : List (List Ofr)} {p i : Nat} {o : Ofr} {m : Mt} (h : m ∈ rOne du ck dl lk rows p o i) : m.p = p ∧ m.i = i := by
  rcases mem_rOne h with ⟨rfl, -⟩ | ⟨q, j, _, _, _, _, rfl, -⟩
  · exact ⟨rfl, rfl⟩
  · exact ⟨rfl, rfl⟩
theorem rAll_rise (du : List Du) (ck : Int) (dial look : List Bool) (rows : List (List Ofr)) : (rAll du ck dial look rows).Pairwise fun x y => lessB x y = true := by
  refine zip_flat _ _ (fun x hx => zip_flat _ _ (fun y hy => rOne_rise _ _ _ _ _ _ _ _) (fun y hy z hz hyz a ha b hb => ?_)) (fun x hx y hy hxy a ha b hb => ?_)
  · have h1 := rOne_pi ha
    have h2 := rOne_pi hb
    simp [lessB]; omega
  · obtain ⟨y', _, ha⟩ := List.mem_flatMap.1 ha
    obtain ⟨z', _, hb⟩ := List.mem_flatMap.1 hb
    have h1 := rOne_pi ha
    have h2 := rOne_pi hb
    simp [lessB]; omega
theorem rAll_less {du : List Du} {ck : Int} {dial look : List Bool} {rows : List (List Ofr)} {k : Nat} {x y : Mt} (h1 : (rAll du ck dial look rows)[k]? = some x) (h2 : (rAll du ck dial look rows)[k + 1]? = some y) : lessB x y = true := by
  have h := List.pairwise_iff_getElem.1 (rAll_rise du ck dial look rows)
  obtain ⟨a, ha⟩ := List.getElem?_eq_some_iff.1 h1
  obtain ⟨b, hb⟩ := List.getElem?_eq_some_iff.1 h2
  have := h k (k + 1) a b (by omega)
  rwa [ha, hb] at this

/-- What stands of each that is ready. -/
inductive Kind (rows : List (List Ofr)) (du : List Du) : Mt → Prop
  | alone (p i : Nat) (row : List Ofr) (a : Ofr) (h1 : rows[p]? = some row) (h2 : row[i]? = some a) (h3 : a.k ≠ 1) : Kind rows du ⟨p, i, -1, -1⟩
  | take (p i : Nat) (row : List Ofr) (a : Ofr) (k : Nat) (d : Du) (h1 : rows[p]? = some row) (h2 : row[i]? = some a) (h3 : a.k = 1) (h4 : a.d = k) (h5 : du[k]? = some d) (h6 : readyB d = true) : Kind rows du ⟨p, i, -1, -1⟩
  | meet (p i q j : Nat) (row row2 : List Ofr) (a b : Ofr) (k : Nat) (d : Du) (h1 : rows[p]? = some row) (h2 : row[i]? = some a) (h3 : rows[q]? = some row2) (h4 : row2[j]? = some b) (h5 : q ≠ p) (h6 : a.k = 0) (h7 : b.k = 1) (h8 : a.d = k) (h9 : b.d = k) (h10 : du[k]? = some d) (h11 : d.c = 0) (h12 : d.b = false) : Kind rows du ⟨p, i, q, j⟩
theorem rAll_kind {du : List Du} {ck : Int} {dial look : List Bool} {rows : List (List Ofr)} {m : Mt} (h : m ∈ rAll du ck dial look rows) : Kind rows du m := by
  obtain ⟨p, i, row, o, h1, h2, h⟩ := mem_rAll h
  rcases mem_rOne h with ⟨rfl, ha⟩ | ⟨q, j, row2, b, h3, h4, rfl, hqp, hm⟩
  · by_cases hk : o.k = 1
    · obtain ⟨d, hd, hr⟩ := aloneB_take ha hk
      obtain ⟨k, hk', hd⟩ := duAt_some hd
      exact .take p i row o k d h1 h2 hk hk' hd hr
    · exact .alone p i row o h1 h2 hk
  · obtain ⟨hk, hk', hd, d, hda, hc, hb⟩ := meetB_true hm
    obtain ⟨k, hk2, hda⟩ := duAt_some hda
    exact .meet p i q j row row2 o b k d h1 h2 h3 h4 (by omega) hk hk' hk2 (by omega) hda hc hb
end Go.Proofs.Ytcdmhldhhjolpaa
