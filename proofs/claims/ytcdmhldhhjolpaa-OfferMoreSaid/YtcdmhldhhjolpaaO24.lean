/- What is ready of one alone, of two turned about, in plain lists. Chapter 07. No program in sight. -/
import Derived.Test.YtcdmhldhhjolpaaO18
namespace Go.Proofs.Ytcdmhldhhjolpaa

theorem flat_pre {α β : Type} (f : α × Nat → List β) (l : List α) (k : Nat) : (l.take k).zipIdx.flatMap f <+: l.zipIdx.flatMap f := by
  conv => arg 2; rw [← List.take_append_drop k l, List.zipIdx_append, List.flatMap_append]
  exact List.prefix_append _ _
theorem pre_at {β : Type} {a l : List β} {x : β} (h : a ++ [x] <+: l) : l[a.length]? = some x := by
  obtain ⟨t, rfl⟩ := h
  simp
/-- What is ready by itself, of one row. -/
def aOne (du : List Du) (ck : Int) (dl lk : Bool) (a : List Ofr) : List Mt := a.zipIdx.flatMap fun x => if aloneB du ck dl lk x.1 then [⟨0, x.2, -1, -1⟩] else []
theorem aOne_yes {du : List Du} {ck : Int} {dl lk : Bool} {a : List Ofr} {i : Nat} {o : Ofr} (h : a[i]? = some o) (hb : aloneB du ck dl lk o = true) : aOne du ck dl lk (a.take (i + 1)) = aOne du ck dl lk (a.take i) ++ [⟨0, i, -1, -1⟩] := by
  unfold aOne
  rw [flat_succ _ h]
  simp [hb]
theorem aOne_no {du : List Du} {ck : Int} {dl lk : Bool} {a : List Ofr} {i : Nat} {o : Ofr} (h : a[i]? = some o) (hb : aloneB du ck dl lk o = false) : aOne du ck dl lk (a.take (i + 1)) = aOne du ck dl lk (a.take i) := by
  unfold aOne
  rw [flat_succ _ h]
  simp [hb]
theorem aOne_at {du : List Du} {ck : Int} {dl lk : Bool} {a : List Ofr} {i : Nat} {o : Ofr} (h : a[i]? = some o) (hb : aloneB du ck dl lk o = true) : (aOne du ck dl lk a)[(aOne du ck dl lk (a.take i)).length]? = some ⟨0, i, -1, -1⟩ := by
  refine pre_at ?_
  rw [← aOne_yes h hb]
  exact flat_pre _ a (i + 1)
theorem aOne_le (du : List Du) (ck : Int) (dl lk : Bool) (a : List Ofr) (i : Nat) : (aOne du ck dl lk (a.take i)).length ≤ (aOne du ck dl lk a).length := (flat_pre _ a i).length_le
theorem mAll_self (du : List Du) (o : Ofr) (i : Int) (a : List Ofr) : mAll du o 0 i [a] = [] := by
  refine List.eq_nil_iff_forall_not_mem.2 fun m hm => ?_
  obtain ⟨q, j, row, b, hq, hj, rfl, hne, _⟩ := mem_mAll hm
  cases q with
  | zero => exact hne rfl
  | succ q => simp at hq
theorem rAll_one (du : List Du) (ck : Int) (dl lk : Bool) (a : List Ofr) : rAll du ck [dl] [lk] [a] = aOne du ck dl lk a := by
  show (a.zipIdx.flatMap fun x => rOne du ck dl lk [a] (0 : Nat) x.1 x.2) ++ [] = _
  rw [List.append_nil]
  unfold aOne
  congr 1
  funext x
  unfold rOne
  rw [show ((0 : Nat) : Int) = 0 from rfl, mAll_self, List.append_nil]

theorem flat_sum {α β : Type} (f : α × Nat → List β) (g : α → Nat) (h : ∀ x, (f x).length = g x.1) (l : List α) : (l.zipIdx.flatMap f).length = (l.map g).sum := by
  rw [List.length_flatMap]
  congr 1
  rw [show (fun x => (f x).length) = g ∘ Prod.fst from funext h, ← List.map_map, List.zipIdx_map_fst]
def metN (du : List Du) (o : Ofr) (s : List Ofr) : Nat := (s.map fun b => if meetB du o b then 1 else 0).sum
theorem mRow_len (du : List Du) (o : Ofr) (p i : Int) (q : Nat) (row : List Ofr) (h : (q : Int) ≠ p) : (mRow du o p i q row).length = metN du o row := by
  unfold mRow metN
  refine flat_sum _ _ (fun x => ?_) row
  unfold mOne
  by_cases hm : meetB du o x.1 = true
  · simp [hm, h]
  · simp [hm]
theorem mRow_nil (du : List Du) (o : Ofr) (p i : Int) (q : Nat) (row : List Ofr) (h : (q : Int) = p) : mRow du o p i q row = [] := by
  refine List.eq_nil_iff_forall_not_mem.2 fun m hm => ?_
  obtain ⟨j, b, _, _, hne, _⟩ := mem_mRow hm
  exact hne h
def rdyN (du : List Du) (ck : Int) (s : List Ofr) (o : Ofr) : Nat := (if aloneB du ck false false o then 1 else 0) + metN du o s
theorem rRow_len0 (du : List Du) (ck : Int) (a b : List Ofr) : (rRow du ck false false [a, b] 0 a).length = (a.map (rdyN du ck b)).sum := by
  refine flat_sum _ _ (fun x => ?_) a
  unfold rOne rdyN
  rw [List.length_append]
  have h : mAll du x.1 ((0 : Nat) : Int) (x.2 : Int) [a, b] = mRow du x.1 ((0 : Nat) : Int) x.2 0 a ++ (mRow du x.1 ((0 : Nat) : Int) x.2 1 b ++ []) := rfl
  rw [h, mRow_nil _ _ _ _ _ _ rfl, List.nil_append, List.append_nil, mRow_len _ _ _ _ _ _ (by decide)]
  congr 1
  split <;> rfl
theorem rRow_len1 (du : List Du) (ck : Int) (a b : List Ofr) : (rRow du ck false false [a, b] 1 b).length = (b.map (rdyN du ck a)).sum := by
  refine flat_sum _ _ (fun x => ?_) b
  unfold rOne rdyN
  rw [List.length_append]
  have h : mAll du x.1 ((1 : Nat) : Int) (x.2 : Int) [a, b] = mRow du x.1 ((1 : Nat) : Int) x.2 0 a ++ (mRow du x.1 ((1 : Nat) : Int) x.2 1 b ++ []) := rfl
  rw [h, mRow_nil du x.1 _ _ 1 b rfl, List.append_nil, List.append_nil, mRow_len _ _ _ _ _ _ (by decide)]
  congr 1
  split <;> rfl
theorem rAll_two (du : List Du) (ck : Int) (a b : List Ofr) : (rAll du ck [] [] [a, b]).length = (a.map (rdyN du ck b)).sum + (b.map (rdyN du ck a)).sum := by
  have h : rAll du ck [] [] [a, b] = rRow du ck false false [a, b] 0 a ++ (rRow du ck false false [a, b] 1 b ++ []) := rfl
  rw [h, List.append_nil, List.length_append, rRow_len0, rRow_len1]
theorem rAll_turned (du : List Du) (ck : Int) (a b : List Ofr) : (rAll du ck [] [] [a, b]).length = (rAll du ck [] [] [b, a]).length := by
  rw [rAll_two, rAll_two, Nat.add_comm]
end Go.Proofs.Ytcdmhldhhjolpaa
