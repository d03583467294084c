/- Slices that are read, of elements of any number of cells: what lies where. No program in sight. -/
import Derived.Test.YtcdmhldhhjolpaaKit
import Derived.Laws.AppendOwnNone
import Derived.Deep.Draws
namespace Go.Proofs.Ytcdmhldhhjolpaa
open Go.RowKit

/-- In the world w the value v is a slice of n elements of sz cells each, which hold xs. -/
def RdF (w : World) (sz : Nat) (v : Value) (n : Nat) (xs : List Value) : Prop :=
  xs.length = n * sz ∧
  ((n = 0 ∧ ∃ a c, v = .slice a 0 c ∧ (a = none → c = 0)) ∨
   (0 < n ∧ ∃ b off cap, v = .slice (some ⟨b, off, none⟩) n cap ∧ n ≤ cap ∧ b < w.heap.size ∧ ∀ j u, xs[j]? = some u → w.cell? ⟨b, off + j, none⟩ = some u))

section
variable {w w' : World} {sz n : Nat} {v : Value} {xs : List Value}

theorem RdF.below (h : RdF w sz v n xs) (hb : Below w.heap.size w w') : RdF w' sz v n xs := by
  obtain ⟨hl, h | ⟨hn, b, off, cap, hv, hc, hlt, hx⟩⟩ := h
  · exact ⟨hl, .inl h⟩
  · exact ⟨hl, .inr ⟨hn, b, off, cap, hv, hc, Nat.lt_of_lt_of_le hlt hb.size, fun j x h => (hb.cell (p := ⟨b, off + j, none⟩) hlt).trans (hx j x h)⟩⟩
theorem RdF.drewN (h : RdF w sz v n xs) (k : Nat) : RdF (w.drewN k) sz v n xs := h.below ⟨rfl, rfl, rfl, Nat.le_refl _, fun _ _ => rfl⟩
theorem RdF.shape (h : RdF w sz v n xs) : ∃ a c, v = .slice a n c := by
  obtain ⟨hl, ⟨rfl, a, c, rfl, _⟩ | ⟨hn, b, off, cap, rfl, _⟩⟩ := h
  · exact ⟨a, c, rfl⟩
  · exact ⟨_, _, rfl⟩
theorem RdF.le {a : Option Addr} {m c : Nat} (h : RdF w sz (.slice a m c) n xs) : m = n ∧ n ≤ c := by
  obtain ⟨hl, ⟨rfl, a', c', he, _⟩ | ⟨hn, b, off, cap, he, hc, _⟩⟩ := h
  · cases he; exact ⟨rfl, Nat.zero_le _⟩
  · cases he; exact ⟨rfl, hc⟩
theorem RdF.nilcap {m c : Nat} (h : RdF w sz (.slice none m c) n xs) : n = 0 ∧ m = 0 ∧ c = 0 ∧ xs = [] := by
  obtain ⟨hl, ⟨rfl, a', c', he, hac⟩ | ⟨hn, b, off, cap, he, _⟩⟩ := h
  · cases he; exact ⟨rfl, rfl, hac rfl, List.length_eq_zero_iff.1 (by simpa using hl)⟩
  · cases he
theorem RdF.nil (w : World) (sz : Nat) : RdF w sz (.slice none 0 0) 0 [] := ⟨by simp, .inl ⟨rfl, _, _, rfl, fun _ => rfl⟩⟩
/-- Where there are elements, where they lie. -/
theorem RdF.lies {a : Option Addr} {m c : Nat} (h : RdF w sz (.slice a m c) n xs) (hn : 0 < n) : ∃ b off, a = some ⟨b, off, none⟩ ∧ b < w.heap.size ∧ ∀ j u, xs[j]? = some u → w.cell? ⟨b, off + j, none⟩ = some u := by
  obtain ⟨hl, ⟨rfl, _⟩ | ⟨_, b, off, cap, he, hc, hlt, hx⟩⟩ := h
  · omega
  · cases he; exact ⟨b, off, rfl, hlt, hx⟩
theorem RdF.new (w : World) (sz n : Nat) (xs : List Value) (T : TypeId) (hl : xs.length = n * sz) (hn : 0 < n) : RdF (w.alloc (.cells xs.toArray T)) sz (.slice (some ⟨w.heap.size, 0, none⟩) n n) n xs :=
  ⟨hl, .inr ⟨hn, _, _, _, rfl, Nat.le_refl _, by simp, fun j u hu => by
    rw [World.cell?_alloc_at _ _ _ _ rfl, Nat.zero_add]; simpa using hu⟩⟩
theorem RdF.of_block {b : Nat} {T : TypeId} (h : w.heap[b]? = some (.cells xs.toArray T)) (hl : xs.length = n * sz) (hn : 0 < n) : RdF w sz (.slice (some ⟨b, 0, none⟩) n n) n xs :=
  ⟨hl, .inr ⟨hn, _, _, _, rfl, Nat.le_refl _, block_lt h, fun j u hu => by rw [Nat.zero_add, cell_block h]; simpa using hu⟩⟩

theorem RdF.of_owns {base e : Nat} (h : w.ownsRow base e sz v n xs) : RdF w sz v n xs := by
  obtain ⟨hl, ⟨rfl, rfl⟩ | ⟨g, cap, cur, rfl, _, hg, hn, _, hs, ht⟩⟩ := h
  · exact ⟨hl, .inl ⟨rfl, none, 0, rfl, fun _ => rfl⟩⟩
  · rcases Nat.eq_zero_or_pos n with rfl | h0
    · exact ⟨hl, .inl ⟨rfl, _, _, rfl, fun h => by cases h⟩⟩
    · refine ⟨hl, .inr ⟨h0, g, 0, cap, rfl, hn, block_lt hg, fun j u hu => ?_⟩⟩
      rw [Nat.zero_add, cell_block hg]
      have : (cur.toList.take (n * sz))[j]? = some u := by rw [ht, hu]
      rw [List.getElem?_take] at this
      split at this
      · simpa using this
      · cases this

/-- What append reads. -/
theorem RdF.news {a : Addr} {m c : Nat} (h : RdF w sz (.slice (some a) m c) n xs) : m = n ∧ ∀ (j : Nat) (u : Value), xs[j]? = some u → w.cell? (a.add j) = some u := by
  obtain ⟨hl, ⟨rfl, a', c', he, _⟩ | ⟨hn, b, off, cap, he, hc, hlt, hx⟩⟩ := h
  · cases he
    have : xs = [] := List.length_eq_zero_iff.1 (by simpa using hl)
    subst this
    exact ⟨rfl, fun j u hu => by simp at hu⟩
  · cases he
    refine ⟨rfl, fun j u hu => ?_⟩
    rw [Addr.add_lit]
    exact hx j u hu

/-- Where a slice lies, its first k elements (of s cells each) dropped; its first ones taken. -/
def cutA (a : Option Addr) (k c s : Nat) : Option Addr := if c = k then a else a.map (·.add (k * s))
def takeA (a : Option Addr) (c s : Nat) : Option Addr := if c = 0 then a else a.map (·.add (0 * s))

theorem RdF.cut {a : Option Addr} {m c k : Nat} (h : RdF w sz (.slice a m c) n xs) (hk : k ≤ n) : RdF w sz (.slice (cutA a k c sz) (n - k) (c - k)) (n - k) (xs.drop (k * sz)) := by
  have hle := h.le
  have hlen : (xs.drop (k * sz)).length = (n - k) * sz := by rw [List.length_drop, h.1, Nat.sub_mul]
  obtain ⟨hl, ⟨rfl, a', c', he, hac⟩ | ⟨hn, b, off, cap, he, hc, hlt, hx⟩⟩ := h
  · cases he
    obtain rfl : k = 0 := by omega
    refine ⟨hlen, .inl ⟨rfl, _, _, rfl, fun h => ?_⟩⟩
    have : a = none := by
      simp only [cutA] at h
      split at h
      · exact h
      · simpa using h
    simpa using hac this
  · cases he
    rcases Nat.eq_zero_or_pos (n - k) with h0 | h0
    · refine ⟨hlen, .inl ⟨h0, _, _, by rw [h0], fun h => ?_⟩⟩
      simp only [cutA] at h
      split at h <;> simp at h
    · refine ⟨hlen, .inr ⟨h0, b, off + k * sz, c - k, ?_, by omega, hlt, fun j u hu => ?_⟩⟩
      · rw [cutA, if_neg (by omega)]
        simp [Addr.add_lit]
      · rw [Nat.add_assoc]
        exact hx _ u (by rwa [List.getElem?_drop] at hu)
theorem RdF.take {a : Option Addr} {m c k : Nat} (h : RdF w sz (.slice a m c) n xs) (hk : k ≤ n) : RdF w sz (.slice (takeA a c sz) k c) k (xs.take (k * sz)) := by
  have hle := h.le
  have hlen : (xs.take (k * sz)).length = k * sz := by rw [List.length_take, h.1]; exact Nat.min_eq_left (Nat.mul_le_mul_right _ hk)
  rcases Nat.eq_zero_or_pos k with rfl | h0
  · refine ⟨hlen, .inl ⟨rfl, _, _, rfl, fun hn => ?_⟩⟩
    have : a = none := by
      simp only [takeA] at hn
      split at hn
      · exact hn
      · simpa using hn
    subst this
    exact h.nilcap.2.2.1
  · obtain ⟨b, off, rfl, hlt, hx⟩ := h.lies (by omega)
    refine ⟨hlen, .inr ⟨h0, b, off, c, ?_, by omega, hlt, fun j u hu => ?_⟩⟩
    · rw [takeA, if_neg (by omega)]
      simp [Addr.add_lit]
    · rw [List.getElem?_take] at hu
      split at hu
      · exact hx j u hu
      · cases hu

theorem run_cut {P : Program} {t : TypeId} (hu : P.underlying t = some (.slice (P.elem t))) (hs : ∀ w, (sizeOf (P.elem t)).run P w = .ok sz w) (a : Option Addr) (len cap k : Nat) (hk : k ≤ len) (w : World) :
    (Instr.sliceAt t (.slice a len cap) (some (.int .i64 (k : Int))) none none).run P w = .ok (.slice (cutA a k cap sz) (len - k) (cap - k)) w := by
  rw [run_sliceAt_slice _ _ _ _ _ _ hu, run_slice_l _ _ _ _ _ hu _ _ (by omega) (by omega), hs]
  simp [Result.andThen, sliced, cutA]
theorem run_take {P : Program} {t : TypeId} (hu : P.underlying t = some (.slice (P.elem t))) (hs : ∀ w, (sizeOf (P.elem t)).run P w = .ok sz w) (a : Option Addr) (len cap k : Nat) (hk : k ≤ cap) (w : World) :
    (Instr.sliceAt t (.slice a len cap) none (some (.int .i64 (k : Int))) none).run P w = .ok (.slice (takeA a cap sz) k cap) w := by
  rw [run_sliceAt_slice _ _ _ _ _ _ hu, run_slice_h _ _ _ _ _ hu _ _ (by omega) (by omega), hs]
  simp [Result.andThen, sliced, takeA]
end

theorem grownBy_refl (w : World) (row : Option Nat) : w.grownBy w row := ⟨rfl, rfl, rfl, Nat.le_refl _, fun _ _ _ => rfl⟩
theorem ownBlock_ge {w : World} {base e sz n : Nat} {v : Value} {xs : List Value} (h : w.ownsRow base e sz v n xs) {j : Nat} (hj : v.ownBlock = some j) : base ≤ j := by
  obtain ⟨_, ⟨rfl, _⟩ | ⟨g, cap, cur, rfl, hg, _⟩⟩ := h
  · cases hj
  · cases hj; exact hg
theorem owns_below {w w' : World} {base e sz n : Nat} {v : Value} {xs : List Value} (h : w.ownsRow base e sz v n xs) (hb : Below w.heap.size w w') : w'.ownsRow base e sz v n xs :=
  h.kept (row := none) ⟨hb.os, hb.tape, hb.output, hb.size, fun k hk _ => hb.block k hk⟩ (by cases v.ownBlock <;> simp)
theorem owns_base {w : World} {base base' e sz n : Nat} {v : Value} {xs : List Value} (h : w.ownsRow base e sz v n xs) (hb : base' ≤ base) : w.ownsRow base' e sz v n xs := by
  obtain ⟨hl, h | ⟨g, cap, cur, h1, h2, h3⟩⟩ := h
  · exact ⟨hl, .inl h⟩
  · exact ⟨hl, .inr ⟨g, cap, cur, h1, Nat.le_trans hb h2, h3⟩⟩
/-- Two rows of different elements lie apart. -/
theorem owns_apart {w : World} {base base' e e' sz sz' n n' : Nat} {v v' : Value} {xs xs' : List Value} (h : w.ownsRow base e sz v n xs) (h' : w.ownsRow base' e' sz' v' n' xs') (hne : e ≠ e') : v.ownBlock = none ∨ v.ownBlock ≠ v'.ownBlock := by
  obtain ⟨_, ⟨rfl, _⟩ | ⟨g, cap, cur, rfl, _, hg, _⟩⟩ := h
  · exact .inl rfl
  · right
    obtain ⟨_, ⟨rfl, _⟩ | ⟨g', cap', cur', rfl, _, hg', _⟩⟩ := h'
    · simp [Value.ownBlock]
    · intro e
      obtain rfl : g = g' := by simpa [Value.ownBlock] using e
      rw [hg] at hg'
      simp at hg'
      exact hne hg'.2

/-- 'append(own, read...)': whatever the slice that is read. -/
theorem wp_append_rdF {P : Program} {o : Oper} {a : Act} {w : World} {K : Act → World → Prop} {Q : Exit → Act → World → Prop} (s x : Operand) (t : TypeId)
    (ho : o.op = .call { callee := .builtin .append, args := #[s, x], argTypes := #[t, t] })
    (base : Nat) (e : TypeId) (i : TypeInfo) (z : Value) (sz bytes : Nat) (ht : P.underlying t = some (.slice e)) (hi : P.info? e = some i) (hz : i.zero = some z) (hsize : i.size = sz) (hby : i.bytes = bytes) (hzs : z.cells.size = sz) (hsz : 0 < sz)
    (v : Value) (n : Nat) (xs : List Value) (hs : a.eval s = v) (hown : w.ownsRow base e sz v n xs) (u : Value) (m : Nat) (ys : List Value) (hx : a.eval x = u) (hu : RdF w sz u m ys) (h1 : ∀ u ∈ ys, u.oneCell' = true)
    (hmax : n + m ≤ 100000) (hbb : bytes ≤ 100000) (hbase : base ≤ w.heap.size)
    (h : ∀ v' w', w'.ownsRow base e sz v' (n + m) (xs ++ ys) → w.grownBy w' v.ownBlock → K (a.put o.dst v') w') : o.wp P a w K Q := by
  obtain ⟨ao, c, rfl⟩ := hu.shape
  cases ao with
  | none =>
    obtain ⟨rfl, _, rfl, rfl⟩ := hu.nilcap
    have hrun := run_append_owned_none (P := P) (w := w) base t o.type e i sz ht hi v n xs hown
    unfold Oper.wp
    simp [execOp, ho, resolve, invoke, builtin, hs, hx, hrun, Result.andThen]
    exact h v w (by simpa using hown) (grownBy_refl _ _)
  | some ad =>
    have hb : (n + m) * bytes ≤ 100000 * 100000 := Nat.mul_le_mul hmax hbb
    exact wp_append_own w s x t ho base e i z sz bytes ht hi hz hsize hby hzs hsz v n xs hs hown ad m c ys hx hu.1 hu.news.2 h1 (by unfold maxLen; omega) (by omega) hbase
      fun v' w' h1 h2 _ => h v' w' h1 h2
theorem wpList_append_rdF {P : Program} {ops : Array Oper} {rest : List Oper} {o : Oper} {a : Act} {w : World} {Q : Exit → Act → World → Prop} (hgd : o.guard = none) (s x : Operand) (t : TypeId)
    (ho : o.op = .call { callee := .builtin .append, args := #[s, x], argTypes := #[t, t] })
    (base : Nat) (e : TypeId) (i : TypeInfo) (z : Value) (sz bytes : Nat) (ht : P.underlying t = some (.slice e)) (hi : P.info? e = some i) (hz : i.zero = some z) (hsize : i.size = sz) (hby : i.bytes = bytes) (hzs : z.cells.size = sz) (hsz : 0 < sz)
    (v : Value) (n : Nat) (xs : List Value) (hs : a.eval s = v) (hown : w.ownsRow base e sz v n xs) (u : Value) (m : Nat) (ys : List Value) (hx : a.eval x = u) (hu : RdF w sz u m ys) (h1 : ∀ u ∈ ys, u.oneCell' = true)
    (hmax : n + m ≤ 100000) (hbb : bytes ≤ 100000) (hbase : base ≤ w.heap.size)
    (h : ∀ v' w', w'.ownsRow base e sz v' (n + m) (xs ++ ys) → w.grownBy w' v.ownBlock → wpList P ops Q rest (a.put o.dst v') w') : wpList P ops Q (o :: rest) a w :=
  wpList_plain hgd fun _ hK => wp_append_rdF s x t ho base e i z sz bytes ht hi hz hsize hby hzs hsz v n xs hs hown u m ys hx hu h1 hmax hbb hbase fun v' w' h1 h2 => hK _ _ (h v' w' h1 h2)
theorem step_append_rdF {P : Program} {ops : Array Oper} {o : Oper} {a : Act} {w : World} {K : Act → World → Prop} {Q : Exit → Act → World → Prop} {E : Prop} (hgd : o.guard = none) (s x : Operand) (t : TypeId)
    (ho : o.op = .call { callee := .builtin .append, args := #[s, x], argTypes := #[t, t] })
    (base : Nat) (e : TypeId) (i : TypeInfo) (z : Value) (sz bytes : Nat) (ht : P.underlying t = some (.slice e)) (hi : P.info? e = some i) (hz : i.zero = some z) (hsize : i.size = sz) (hby : i.bytes = bytes) (hzs : z.cells.size = sz) (hsz : 0 < sz)
    (v : Value) (n : Nat) (xs : List Value) (hs : a.eval s = v) (hown : w.ownsRow base e sz v n xs) (u : Value) (m : Nat) (ys : List Value) (hx : a.eval x = u) (hu : RdF w sz u m ys) (h1 : ∀ u ∈ ys, u.oneCell' = true)
    (hmax : n + m ≤ 100000) (hbb : bytes ≤ 100000) (hbase : base ≤ w.heap.size)
    (h : ∀ v' w', w'.ownsRow base e sz v' (n + m) (xs ++ ys) → w.grownBy w' v.ownBlock → K (a.put o.dst v') w') :
    if Region.wanted o (yielded ops a.tmps) = true then Oper.wp P o a w K Q else E := by
  have hw : Region.wanted o (yielded ops a.tmps) = true := by simp [Region.wanted, hgd]
  rw [if_pos hw]
  exact wp_append_rdF s x t ho base e i z sz bytes ht hi hz hsize hby hzs hsz v n xs hs hown u m ys hx hu h1 hmax hbb hbase h
end Go.Proofs.Ytcdmhldhhjolpaa
