
/- Tools of the seat of chapter 07: rows put one behind the other, a row taken away. -/
import Derived.Test.YtcdmhldhhjolpaaO27
namespace Go.Proofs.Ytcdmhldhhjolpaa
open Go.RowKit

/-- 'append(own, read...)', of any length that the reach lets. -/
theorem wp_append_rdG {P : Program} {o : Oper} {a : Act} {w : World} {K : Act → World → Prop} {Q : Exit → Act → World → Prop} (s x : Operand) (t : TypeId)
    (ho : o.op = .call { callee := .builtin .append, args := #[s, x], argTypes := #[t, t] })
    (base : Nat) (e : TypeId) (i : TypeInfo) (z : Value) (sz bytes : Nat) (ht : P.underlying t = some (.slice e)) (hi : P.info? e = some i) (hz : i.zero = some z) (hsize : i.size = sz) (hby : i.bytes = bytes) (hzs : z.cells.size = sz) (hsz : 0 < sz)
    (v : Value) (n : Nat) (xs : List Value) (hs : a.eval s = v) (hown : w.ownsRow base e sz v n xs) (u : Value) (m : Nat) (ys : List Value) (hx : a.eval x = u) (hu : RdF w sz u m ys) (h1 : ∀ u ∈ ys, u.oneCell' = true)
    (hmax : n + m ≤ maxLen) (hbb : (n + m) * bytes ≤ 140737488355328) (hbase : base ≤ w.heap.size)
    (h : ∀ v' w', w'.ownsRow base e sz v' (n + m) (xs ++ ys) → w.grownBy w' v.ownBlock → K (a.put o.dst v') w') : o.wp P a w K Q := by
  obtain ⟨ao, c, rfl⟩ := hu.shape
  cases ao with
  | none =>
    obtain ⟨rfl, _, rfl, rfl⟩ := hu.nilcap
    have hrun := run_append_owned_none (P := P) (w := w) base t o.type e i sz ht hi v n xs hown
    unfold Oper.wp
    simp [execOp, ho, resolve, invoke, builtin, hs, hx, hrun, Result.andThen]
    exact h v w (by simpa using hown) (grownBy_refl _ _)
  | some ad =>
    exact wp_append_own w s x t ho base e i z sz bytes ht hi hz hsize hby hzs hsz v n xs hs hown ad m c ys hx hu.1 hu.news.2 h1 hmax hbb hbase
      fun v' w' h1 h2 _ => h v' w' h1 h2
theorem wpList_append_rdG {P : Program} {ops : Array Oper} {rest : List Oper} {o : Oper} {a : Act} {w : World} {Q : Exit → Act → World → Prop} (hgd : o.guard = none) (s x : Operand) (t : TypeId)
    (ho : o.op = .call { callee := .builtin .append, args := #[s, x], argTypes := #[t, t] })
    (base : Nat) (e : TypeId) (i : TypeInfo) (z : Value) (sz bytes : Nat) (ht : P.underlying t = some (.slice e)) (hi : P.info? e = some i) (hz : i.zero = some z) (hsize : i.size = sz) (hby : i.bytes = bytes) (hzs : z.cells.size = sz) (hsz : 0 < sz)
    (v : Value) (n : Nat) (xs : List Value) (hs : a.eval s = v) (hown : w.ownsRow base e sz v n xs) (u : Value) (m : Nat) (ys : List Value) (hx : a.eval x = u) (hu : RdF w sz u m ys) (h1 : ∀ u ∈ ys, u.oneCell' = true)
    (hmax : n + m ≤ maxLen) (hbb : (n + m) * bytes ≤ 140737488355328) (hbase : base ≤ w.heap.size)
    (h : ∀ v' w', w'.ownsRow base e sz v' (n + m) (xs ++ ys) → w.grownBy w' v.ownBlock → wpList P ops Q rest (a.put o.dst v') w') : wpList P ops Q (o :: rest) a w :=
  wpList_plain hgd fun _ hK => wp_append_rdG s x t ho base e i z sz bytes ht hi hz hsize hby hzs hsz v n xs hs hown u m ys hx hu h1 hmax hbb hbase fun v' w' h1 h2 => hK _ _ (h v' w' h1 h2)

section
variable {w W : World} {vs : List Value} {rows : List (List Ofr)}
/-- Each row's slice. -/
def Each (w : World) (vs : List Value) (rows : List (List Ofr)) : Prop := ∀ (i : Nat) (r : List Ofr), rows[i]? = some r → ∃ u, vs[i]? = some u ∧ RdO w u r
theorem each_one (hl : vs.length = rows.length * 1) (h : Each w vs rows) : ∀ u ∈ vs, u.oneCell' = true := by
  intro u hu
  obtain ⟨i, hi, rfl⟩ := List.mem_iff_getElem.1 hu
  obtain ⟨u', hu', ho⟩ := h i rows[i] (List.getElem?_eq_getElem (by omega))
  rw [List.getElem?_eq_getElem hi] at hu'
  cases hu'
  obtain ⟨a, c, he⟩ := ho.shape
  rw [he]
  rfl
theorem Each.below (h : Each w vs rows) (hb : Below w.heap.size w W) : Each W vs rows := fun i r hr => let ⟨u, hu, ho⟩ := h i r hr; ⟨u, hu, ho.below hb⟩
theorem rr_more {base n nm pm : Nat} {v : Value} {am : Option Addr} {more : List Ofr} (hl : vs.length = rows.length * 1) (hown : W.ownsRow base 31 1 v n (vs ++ [.slice am nm pm])) (h : Each W vs rows) (hm : RdO W (.slice am nm pm) more) : RdRR W v (rows ++ [more]) := by
  have hf := RdF.of_owns hown
  have hn : n = (rows ++ [more]).length := by
    have := hf.1
    simp only [List.length_append, List.length_cons, List.length_nil] at this ⊢
    omega
  rw [hn] at hf
  refine ⟨_, hf, fun i r hr => ?_⟩
  by_cases hi : i < rows.length
  · rw [List.getElem?_append_left hi] at hr
    obtain ⟨u, hu, ho⟩ := h i r hr
    exact ⟨u, by rw [List.getElem?_append_left (by omega)]; exact hu, ho⟩
  · have hlt := (List.getElem?_eq_some_iff.1 hr).1
    simp only [List.length_append, List.length_cons, List.length_nil] at hlt
    obtain rfl : i = rows.length := by omega
    simp at hr
    subst hr
    exact ⟨_, by rw [List.getElem?_append_right (by omega)]; simp [hl], hm⟩
theorem rr_fewer {base n k : Nat} {v : Value} (hl : vs.length = rows.length * 1) (hown : W.ownsRow base 31 1 v n vs) (hk : k < n) (hbase : w.heap.size ≤ base) (hb : Below w.heap.size w W) (h : Each w vs rows) :
    ∃ b cap cur, v = .slice (some ⟨b, 0, none⟩) n cap ∧ n = rows.length ∧ base ≤ b ∧ W.heap[b]? = some (.cells cur 31 (0, 0)) ∧ k < cur.size ∧ n ≤ cap ∧ RdRR (W.setCell ⟨b, k, none⟩ (.slice none 0 0)) v (rows.set k []) := by
  obtain ⟨hx, ⟨_, h0⟩ | ⟨b, cap, cur, rfl, hbb, hbk, hn, hm, hs, ht⟩⟩ := hown
  · omega
  · have hn' : n = rows.length := by omega
    have hkc : k < cur.size := by omega
    refine ⟨b, cap, cur, rfl, hn', hbb, hbk, hkc, hn, vs.set k (.slice none 0 0), ?_, fun i r hr => ?_⟩
    · refine ⟨by simp [hl], .inr ⟨by simp; omega, b, 0, cap, by rw [List.length_set, hn'], by simp; omega, by simpa using block_lt hbk, fun j u hu => ?_⟩⟩
      rw [cell_block (blk_set hbk), Nat.zero_add, Array.getElem?_setIfInBounds]
      rw [List.getElem?_set] at hu
      split at hu
      · rename_i hjk
        split at hu
        · rw [if_pos hjk, if_pos hkc]
          exact hu
        · cases hu
      · rename_i hjk
        rw [if_neg hjk]
        have := (List.getElem?_eq_some_iff.1 hu).1
        have h3 : (cur.toList.take (n * 1))[j]? = some u := by rw [ht, hu]
        rw [List.getElem?_take] at h3
        split at h3
        · simpa using h3
        · cases h3
    · have hb' : Below w.heap.size w (W.setCell ⟨b, k, none⟩ (.slice none 0 0)) := hb.setCell (by exact Nat.le_trans hbase hbb) _
      rw [List.getElem?_set] at hr
      split at hr
      · rename_i hki
        split at hr
        · cases hr
          exact ⟨.slice none 0 0, by rw [List.getElem?_set, if_pos hki, if_pos (by omega)], RdF.nil _ _⟩
        · cases hr
      · rename_i hki
        obtain ⟨u, hu, ho⟩ := h i r hr
        exact ⟨u, by rw [List.getElem?_set, if_neg hki]; exact hu, ho.below hb'⟩
end
theorem filter_take {α : Type} (P : α → Bool) {l : List α} {i : Nat} {x : α} (h : l[i]? = some x) : (l.take (i + 1)).filter P = (l.take i).filter P ++ (if P x then [x] else []) := by
  rw [List.take_add_one, h, List.filter_append]
  congr 1
  simp [List.filter_cons]
theorem gone_at (gone : Int) (nr : Nat) (h0 : nr ≠ 0) (h1 : nr ≤ 1000) : ∃ g : Nat, g < nr ∧ (wrap64 (gone.tmod nr + nr)).tmod nr = g := by
  have hp : (0 : Int) < (nr : Int) := by omega
  have ha := Int.lt_tmod_of_pos gone hp
  have hb := Int.tmod_lt_of_pos gone hp
  rw [IntWalk.wrap64_in _ (by omega)]
  generalize gone.tmod nr = x at ha hb
  rw [Int.tmod_eq_emod_of_nonneg (by omega)]
  have hc := Int.emod_nonneg (x + nr) (Int.ne_of_gt hp)
  have hd := Int.emod_lt_of_pos (x + nr) hp
  exact ⟨((x + nr) % nr).toNat, by omega, by omega⟩
end Go.Proofs.Ytcdmhldhhjolpaa
