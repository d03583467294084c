
/- Walks of the seat of chapter 05: acts; where DuctOrder's loop stands. -/
import Derived.Test.YtkffmjcipnlbhaaD15
import Derived.Test.YtkffmjcipnlbhaaD6
namespace Go.Proofs.Ytkffmjcipnlbhaa
open Go.RowKit
attribute [local go_sem ↓] Go.wp_at_zero Go.wp_at_succ
attribute [local go_sem] more_size cell_more_old frozen_more_old setCell_more_old more_drew drew_more old_alloc old_more old_drew old_setCell cell_alloc_old frozen_alloc_old setCell_alloc_old

/-- An act: what is done, and its letter. -/
structure Ac where
  d : Int
  m : Lt
def acCells : List Ac → List Value
  | [] => []
  | a :: l => .int .i64 a.d :: .int .i8 a.m.k :: .int .i64 a.m.f :: .int .i64 a.m.n :: .int .i64 a.m.s :: .string a.m.t :: .int .i64 a.m.e :: acCells l
theorem acCells_len (l : List Ac) : (acCells l).length = l.length * 7 := by
  induction l with
  | nil => rfl
  | cons r l ih => simp only [acCells, List.length_cons, ih]; omega
theorem acCells_at {l : List Ac} {k : Nat} {a : Ac} (h : l[k]? = some a) : (acCells l)[k * 7]? = some (.int .i64 a.d) ∧ (acCells l)[k * 7 + 1]? = some (.int .i8 a.m.k) ∧ (acCells l)[k * 7 + 2]? = some (.int .i64 a.m.f) ∧ (acCells l)[k * 7 + 3]? = some (.int .i64 a.m.n) ∧ (acCells l)[k * 7 + 4]? = some (.int .i64 a.m.s) ∧ (acCells l)[k * 7 + 5]? = some (.string a.m.t) ∧ (acCells l)[k * 7 + 6]? = some (.int .i64 a.m.e) := by
  induction l generalizing k with
  | nil => simp at h
  | cons x l ih =>
    cases k with
    | zero => simp at h; subst h; simp [acCells]
    | succ k =>
      have := ih (k := k) (by simpa using h)
      rw [show (k + 1) * 7 = k * 7 + 7 from by omega]
      simpa [acCells] using this
/-- In the world w the value v is a slice of the acts l. -/
def RdC (w : World) (v : Value) (l : List Ac) : Prop := RdF w 7 v l.length (acCells l)
theorem RdC.below {w w' : World} {v : Value} {l : List Ac} (h : RdC w v l) (hb : Below w.heap.size w w') : RdC w' v l := RdF.below h hb
theorem RdC.len {w : World} {a : Option Addr} {m c : Nat} {l : List Ac} (h : RdC w (.slice a m c) l) : m = l.length := (RdF.le h).1
theorem RdC.at {w : World} {a : Option Addr} {m c : Nat} {l : List Ac} (h : RdC w (.slice a m c) l) {k : Nat} {d : Int} {x : Lt} (hk : l[k]? = some ⟨d, x⟩) : ∃ b off, a = some ⟨b, off, none⟩ ∧ b < w.heap.size ∧
    w.cell? ⟨b, off + k * 7, none⟩ = some (.int .i64 d) ∧ w.cell? ⟨b, off + k * 7 + 1, none⟩ = some (.int .i8 x.k) ∧ w.cell? ⟨b, off + k * 7 + 2, none⟩ = some (.int .i64 x.f) ∧ w.cell? ⟨b, off + k * 7 + 3, none⟩ = some (.int .i64 x.n) ∧ w.cell? ⟨b, off + k * 7 + 4, none⟩ = some (.int .i64 x.s) ∧ w.cell? ⟨b, off + k * 7 + 5, none⟩ = some (.string x.t) ∧ w.cell? ⟨b, off + k * 7 + 6, none⟩ = some (.int .i64 x.e) := by
  have hlt : k < l.length := (List.getElem?_eq_some_iff.1 hk).1
  obtain ⟨b, off, rfl, hb, hx⟩ := RdF.lies h (by omega)
  obtain ⟨h0, h1, h2, h3, h4, h5, h6⟩ := acCells_at hk
  exact ⟨b, off, rfl, hb, hx _ _ h0, by rw [Nat.add_assoc]; exact hx _ _ h1, by rw [Nat.add_assoc]; exact hx _ _ h2, by rw [Nat.add_assoc]; exact hx _ _ h3, by rw [Nat.add_assoc]; exact hx _ _ h4, by rw [Nat.add_assoc]; exact hx _ _ h5, by rw [Nat.add_assoc]; exact hx _ _ h6⟩

/-- Where the loop stands: what is in the duct is what the slice holds. -/
def OrdS (w : World) (b5 : Nat) (size : Int) (s7 s8 : Value) (wx : World) : Prop :=
  ∃ (q : List Lt) (m : Nat) (ai ad : Option Addr) (pi pd : Nat) (cl : Bool), m = q.length ∧ (m : Int) ≤ size ∧ s7 = .slice ai m pi ∧ s8 = .bool cl ∧ OwnO wx w.heap.size 32 6 (.slice ai m pi) m (ltCells q) ∧
    wx.heap[b5]? = some (.cells #[.int .i64 size, .slice ad m pd, .bool cl] 26) ∧ RdT wx (.slice ad m pd) q ∧ (q ≠ [] → ∀ g g', ai = some g → ad = some g' → g.block ≠ g'.block) ∧ Below w.heap.size w wx
def OrdR (w : World) (b5 : Nat) (size : Int) (n : Nat) (s7 s8 i : Value) (wx : World) : Prop := ∃ k : Nat, k ≤ n ∧ i = .int .i64 k ∧ OrdS w b5 size s7 s8 wx
theorem OwnO.set3 {w : World} {base e sz n B : Nat} {v : Value} {xs : List Value} {cs : Array Value} {t : TypeId} {fr : Nat × Nat} (h : OwnO w base e sz v n xs) (hB : w.heap[B]? = some (.cells cs t fr)) (ht : t ≠ e) (u0 u1 u2 : Value) :
    OwnO (((w.setCell ⟨B, 0, none⟩ u0).setCell ⟨B, 1, none⟩ u1).setCell ⟨B, 2, none⟩ u2) base e sz v n xs :=
  h.same fun b cs' hk => ot3 (w := w) (c := b) rfl (fun e' => by subst e'; rw [hB] at hk; simp at hk; exact ht hk.2.1) u0 u1 u2
theorem RdT.grown {w w' : World} {a : Option Addr} {n p : Nat} {l : List Lt} {row : Option Nat} (h : RdT w (.slice a n p) l) (hg : w.grownBy w' row) (hne : l ≠ [] → ∀ g, a = some g → some g.block ≠ row) : RdT w' (.slice a n p) l := by
  refine ⟨?_, fun hl b off n' p' hv => ?_⟩
  · obtain ⟨hl, h0 | ⟨hn, b, off, cap, hv, hc, hlt, hx⟩⟩ := h.1
    · exact ⟨hl, .inl h0⟩
    · have hl0 : l ≠ [] := fun e => by rw [e] at hn; exact absurd hn (by simp)
      cases hv
      have e := hg.block b hlt (hne hl0 _ rfl)
      exact ⟨hl, .inr ⟨hn, b, off, _, rfl, hc, Nat.lt_of_lt_of_le hlt hg.size, fun j u hj => (World.cell?_of_block e).trans (hx j u hj)⟩⟩
  · cases hv
    obtain ⟨cs, fr, hk⟩ := h.2 hl _ _ _ _ rfl
    exact ⟨cs, fr, (hg.block b (block_lt hk) (hne hl _ rfl)).trans hk⟩
theorem not_rowO {w : World} {B : Nat} {cs : Array Value} {t e : TypeId} {fr : Nat × Nat} (h : w.heap[B]? = some (.cells cs t fr)) (hte : t ≠ e) {base size k : Nat} {v : Value} {xs : List Value} (hr : OwnO w base e size v k xs) : some B ≠ v.ownBlock := by
  rcases hr.2 with ⟨rfl, _⟩ | ⟨g, off, cap, cur, rfl, _, hgb, _⟩
  · simp [Value.ownBlock]
  · intro e'
    obtain rfl : B = g := by simpa [Value.ownBlock] using e'
    have := h.symm.trans hgb
    simp at this
    exact hte this.2.1
theorem OwnO.lt {w : World} {base e sz n : Nat} {v : Value} {xs : List Value} (h : OwnO w base e sz v n xs) {j : Nat} (hj : v.ownBlock = some j) : j < w.heap.size := by
  rcases h.2 with ⟨rfl, _⟩ | ⟨g, off, cap, cur, rfl, hb, hg, _⟩
  · cases hj
  · cases hj; exact block_lt hg
theorem RdT.lt {w : World} {a : Addr} {n p : Nat} {l : List Lt} (h : RdT w (.slice (some a) n p) l) (hl : l ≠ []) : a.block < w.heap.size := by
  obtain ⟨hl', h0 | ⟨hn, b, off, cap, hv, hc, hlt, hx⟩⟩ := h.1
  · exact absurd (List.length_eq_zero_iff.1 h0.1) hl
  · cases hv; exact hlt
theorem OrdS.below {w : World} {b5 : Nat} {size : Int} {s7 s8 : Value} {wx wy : World} (h : OrdS w b5 size s7 s8 wx) (hb : Below wx.heap.size wx wy) : OrdS w b5 size s7 s8 wy := by
  obtain ⟨q, m, ai, ad, pi, pd, cl, h1, h2, h3, h4, h5, h6, h7, h8, h9⟩ := h
  exact ⟨q, m, ai, ad, pi, pd, cl, h1, h2, h3, h4, h5.below hb, block_keep' hb h6, h7.below hb, h8, h9.trans (hb.mono h9.size)⟩
end Go.Proofs.Ytkffmjcipnlbhaa
