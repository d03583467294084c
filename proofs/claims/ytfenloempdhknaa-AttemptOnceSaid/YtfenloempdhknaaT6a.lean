
/- Sixteen cells are stored. No program in sight. -/
import Derived.Test.YtfenloempdhknaaCls2
namespace Go.Proofs.Ytfenloempdhknaa
open Go.RowKit

theorem set_lit {w : World} {b i : Nat} {cs ds : Array Value} {t : TypeId} {v : Value} (h : w.heap[b]? = some (.cells cs t (0, 0))) (hd : cs.setIfInBounds i v = ds) : (w.setCell ⟨b, i, none⟩ v).heap[b]? = some (.cells ds t (0, 0)) := by
  subst hd; exact blk_set h
/-- Sixteen cells are stored, from the first. -/
theorem sets16 {w : World} {b : Nat} {t : TypeId} {c0 c1 c2 c3 c4 c5 c6 c7 c8 c9 c10 c11 c12 c13 c14 c15 : Value} (h : w.heap[b]? = some (.cells #[c0, c1, c2, c3, c4, c5, c6, c7, c8, c9, c10, c11, c12, c13, c14, c15] t (0, 0))) (v0 v1 v2 v3 v4 v5 v6 v7 v8 v9 v10 v11 v12 v13 v14 v15 : Value) :
    ∃ U : World, (World.setCell (World.setCell (World.setCell (World.setCell (World.setCell (World.setCell (World.setCell (World.setCell (World.setCell (World.setCell (World.setCell (World.setCell (World.setCell (World.setCell (World.setCell (World.setCell w ⟨b, 0, none⟩ v0) ⟨b, 1, none⟩ v1) ⟨b, 2, none⟩ v2) ⟨b, 3, none⟩ v3) ⟨b, 4, none⟩ v4) ⟨b, 5, none⟩ v5) ⟨b, 6, none⟩ v6) ⟨b, 7, none⟩ v7) ⟨b, 8, none⟩ v8) ⟨b, 9, none⟩ v9) ⟨b, 10, none⟩ v10) ⟨b, 11, none⟩ v11) ⟨b, 12, none⟩ v12) ⟨b, 13, none⟩ v13) ⟨b, 14, none⟩ v14) ⟨b, 15, none⟩ v15) = U ∧ U.heap[b]? = some (.cells #[v0, v1, v2, v3, v4, v5, v6, v7, v8, v9, v10, v11, v12, v13, v14, v15] t (0, 0)) ∧ (∀ k, k ≠ b → U.heap[k]? = w.heap[k]?) ∧ U.heap.size = w.heap.size ∧ U.os = w.os ∧ U.tape = w.tape ∧ U.output = w.output := by
  have h0 : (World.setCell w ⟨b, 0, none⟩ v0).heap[b]? = some (.cells #[v0, c1, c2, c3, c4, c5, c6, c7, c8, c9, c10, c11, c12, c13, c14, c15] t (0, 0)) := set_lit h rfl
  have o0 : ∀ k, k ≠ b → (World.setCell w ⟨b, 0, none⟩ v0).heap[k]? = w.heap[k]? := fun k hk => (Below.heap_setCell _ _ _ k hk)
  have s0 : (World.setCell w ⟨b, 0, none⟩ v0).heap.size = w.heap.size := (setCell_size _ _ _)
  have a0 : (World.setCell w ⟨b, 0, none⟩ v0).os = w.os ∧ (World.setCell w ⟨b, 0, none⟩ v0).tape = w.tape ∧ (World.setCell w ⟨b, 0, none⟩ v0).output = w.output := ⟨rfl, rfl, rfl⟩
  generalize World.setCell w ⟨b, 0, none⟩ v0 = w0 at *
  have h1 : (World.setCell w0 ⟨b, 1, none⟩ v1).heap[b]? = some (.cells #[v0, v1, c2, c3, c4, c5, c6, c7, c8, c9, c10, c11, c12, c13, c14, c15] t (0, 0)) := set_lit h0 rfl
  have o1 : ∀ k, k ≠ b → (World.setCell w0 ⟨b, 1, none⟩ v1).heap[k]? = w.heap[k]? := fun k hk => (Below.heap_setCell _ _ _ k hk).trans (o0 k hk)
  have s1 : (World.setCell w0 ⟨b, 1, none⟩ v1).heap.size = w.heap.size := (setCell_size _ _ _).trans s0
  have a1 : (World.setCell w0 ⟨b, 1, none⟩ v1).os = w.os ∧ (World.setCell w0 ⟨b, 1, none⟩ v1).tape = w.tape ∧ (World.setCell w0 ⟨b, 1, none⟩ v1).output = w.output := ⟨a0.1, a0.2.1, a0.2.2⟩
  generalize World.setCell w0 ⟨b, 1, none⟩ v1 = w1 at *
  have h2 : (World.setCell w1 ⟨b, 2, none⟩ v2).heap[b]? = some (.cells #[v0, v1, v2, c3, c4, c5, c6, c7, c8, c9, c10, c11, c12, c13, c14, c15] t (0, 0)) := set_lit h1 rfl
  have o2 : ∀ k, k ≠ b → (World.setCell w1 ⟨b, 2, none⟩ v2).heap[k]? = w.heap[k]? := fun k hk => (Below.heap_setCell _ _ _ k hk).trans (o1 k hk)
  have s2 : (World.setCell w1 ⟨b, 2, none⟩ v2).heap.size = w.heap.size := (setCell_size _ _ _).trans s1
  have a2 : (World.setCell w1 ⟨b, 2, none⟩ v2).os = w.os ∧ (World.setCell w1 ⟨b, 2, none⟩ v2).tape = w.tape ∧ (World.setCell w1 ⟨b, 2, none⟩ v2).output = w.output := ⟨a1.1, a1.2.1, a1.2.2⟩
  generalize World.setCell w1 ⟨b, 2, none⟩ v2 = w2 at *
  have h3 : (World.setCell w2 ⟨b, 3, none⟩ v3).heap[b]? = some (.cells #[v0, v1, v2, v3, c4, c5, c6, c7, c8, c9, c10, c11, c12, c13, c14, c15] t (0, 0)) := set_lit h2 rfl
  have o3 : ∀ k, k ≠ b → (World.setCell w2 ⟨b, 3, none⟩ v3).heap[k]? = w.heap[k]? := fun k hk => (Below.heap_setCell _ _ _ k hk).trans (o2 k hk)
  have s3 : (World.setCell w2 ⟨b, 3, none⟩ v3).heap.size = w.heap.size := (setCell_size _ _ _).trans s2
  have a3 : (World.setCell w2 ⟨b, 3, none⟩ v3).os = w.os ∧ (World.setCell w2 ⟨b, 3, none⟩ v3).tape = w.tape ∧ (World.setCell w2 ⟨b, 3, none⟩ v3).output = w.output := ⟨a2.1, a2.2.1, a2.2.2⟩
  generalize World.setCell w2 ⟨b, 3, none⟩ v3 = w3 at *
  have h4 : (World.setCell w3 ⟨b, 4, none⟩ v4).heap[b]? = some (.cells #[v0, v1, v2, v3, v4, c5, c6, c7, c8, c9, c10, c11, c12, c13, c14, c15] t (0, 0)) := set_lit h3 rfl
  have o4 : ∀ k, k ≠ b → (World.setCell w3 ⟨b, 4, none⟩ v4).heap[k]? = w.heap[k]? := fun k hk => (Below.heap_setCell _ _ _ k hk).trans (o3 k hk)
  have s4 : (World.setCell w3 ⟨b, 4, none⟩ v4).heap.size = w.heap.size := (setCell_size _ _ _).trans s3
  have a4 : (World.setCell w3 ⟨b, 4, none⟩ v4).os = w.os ∧ (World.setCell w3 ⟨b, 4, none⟩ v4).tape = w.tape ∧ (World.setCell w3 ⟨b, 4, none⟩ v4).output = w.output := ⟨a3.1, a3.2.1, a3.2.2⟩
  generalize World.setCell w3 ⟨b, 4, none⟩ v4 = w4 at *
  have h5 : (World.setCell w4 ⟨b, 5, none⟩ v5).heap[b]? = some (.cells #[v0, v1, v2, v3, v4, v5, c6, c7, c8, c9, c10, c11, c12, c13, c14, c15] t (0, 0)) := set_lit h4 rfl
  have o5 : ∀ k, k ≠ b → (World.setCell w4 ⟨b, 5, none⟩ v5).heap[k]? = w.heap[k]? := fun k hk => (Below.heap_setCell _ _ _ k hk).trans (o4 k hk)
  have s5 : (World.setCell w4 ⟨b, 5, none⟩ v5).heap.size = w.heap.size := (setCell_size _ _ _).trans s4
  have a5 : (World.setCell w4 ⟨b, 5, none⟩ v5).os = w.os ∧ (World.setCell w4 ⟨b, 5, none⟩ v5).tape = w.tape ∧ (World.setCell w4 ⟨b, 5, none⟩ v5).output = w.output := ⟨a4.1, a4.2.1, a4.2.2⟩
  generalize World.setCell w4 ⟨b, 5, none⟩ v5 = w5 at *
  have h6 : (World.setCell w5 ⟨b, 6, none⟩ v6).heap[b]? = some (.cells #[v0, v1, v2, v3, v4, v5, v6, c7, c8, c9, c10, c11, c12, c13, c14, c15] t (0, 0)) := set_lit h5 rfl
  have o6 : ∀ k, k ≠ b → (World.setCell w5 ⟨b, 6, none⟩ v6).heap[k]? = w.heap[k]? := fun k hk => (Below.heap_setCell _ _ _ k hk).trans (o5 k hk)
  have s6 : (World.setCell w5 ⟨b, 6, none⟩ v6).heap.size = w.heap.size := (setCell_size _ _ _).trans s5
  have a6 : (World.setCell w5 ⟨b, 6, none⟩ v6).os = w.os ∧ (World.setCell w5 ⟨b, 6, none⟩ v6).tape = w.tape ∧ (World.setCell w5 ⟨b, 6, none⟩ v6).output = w.output := ⟨a5.1, a5.2.1, a5.2.2⟩
  generalize World.setCell w5 ⟨b, 6, none⟩ v6 = w6 at *
  have h7 : (World.setCell w6 ⟨b, 7, none⟩ v7).heap[b]? = some (.cells #[v0, v1, v2, v3, v4, v5, v6, v7, c8, c9, c10, c11, c12, c13, c14, c15] t (0, 0)) := set_lit h6 rfl
  have o7 : ∀ k, k ≠ b → (World.setCell w6 ⟨b, 7, none⟩ v7).heap[k]? = w.heap[k]? := fun k hk => (Below.heap_setCell _ _ _ k hk).trans (o6 k hk)
  have s7 : (World.setCell w6 ⟨b, 7, none⟩ v7).heap.size = w.heap.size := (setCell_size _ _ _).trans s6
  have a7 : (World.setCell w6 ⟨b, 7, none⟩ v7).os = w.os ∧ (World.setCell w6 ⟨b, 7, none⟩ v7).tape = w.tape ∧ (World.setCell w6 ⟨b, 7, none⟩ v7).output = w.output := ⟨a6.1, a6.2.1, a6.2.2⟩
  generalize World.setCell w6 ⟨b, 7, none⟩ v7 = w7 at *
  have h8 : (World.setCell w7 ⟨b, 8, none⟩ v8).heap[b]? = some (.cells #[v0, v1, v2, v3, v4, v5, v6, v7, v8, c9, c10, c11, c12, c13, c14, c15] t (0, 0)) := set_lit h7 rfl
  have o8 : ∀ k, k ≠ b → (World.setCell w7 ⟨b, 8, none⟩ v8).heap[k]? = w.heap[k]? := fun k hk => (Below.heap_setCell _ _ _ k hk).trans (o7 k hk)
  have s8 : (World.setCell w7 ⟨b, 8, none⟩ v8).heap.size = w.heap.size := (setCell_size _ _ _).trans s7
  have a8 : (World.setCell w7 ⟨b, 8, none⟩ v8).os = w.os ∧ (World.setCell w7 ⟨b, 8, none⟩ v8).tape = w.tape ∧ (World.setCell w7 ⟨b, 8, none⟩ v8).output = w.output := ⟨a7.1, a7.2.1, a7.2.2⟩
  generalize World.setCell w7 ⟨b, 8, none⟩ v8 = w8 at *
  have h9 : (World.setCell w8 ⟨b, 9, none⟩ v9).heap[b]? = some (.cells #[v0, v1, v2, v3, v4, v5, v6, v7, v8, v9, c10, c11, c12, c13, c14, c15] t (0, 0)) := set_lit h8 rfl
  have o9 : ∀ k, k ≠ b → (World.setCell w8 ⟨b, 9, none⟩ v9).heap[k]? = w.heap[k]? := fun k hk => (Below.heap_setCell _ _ _ k hk).trans (o8 k hk)
  have s9 : (World.setCell w8 ⟨b, 9, none⟩ v9).heap.size = w.heap.size := (setCell_size _ _ _).trans s8
  have a9 : (World.setCell w8 ⟨b, 9, none⟩ v9).os = w.os ∧ (World.setCell w8 ⟨b, 9, none⟩ v9).tape = w.tape ∧ (World.setCell w8 ⟨b, 9, none⟩ v9).output = w.output := ⟨a8.1, a8.2.1, a8.2.2⟩
  generalize World.setCell w8 ⟨b, 9, none⟩ v9 = w9 at *
  have h10 : (World.setCell w9 ⟨b, 10, none⟩ v10).heap[b]? = some (.cells #[v0, v1, v2, v3, v4, v5, v6, v7, v8, v9, v10, c11, c12, c13, c14, c15] t (0, 0)) := set_lit h9 rfl
  have o10 : ∀ k, k ≠ b → (World.setCell w9 ⟨b, 10, none⟩ v10).heap[k]? = w.heap[k]? := fun k hk => (Below.heap_setCell _ _ _ k hk).trans (o9 k hk)
  have s10 : (World.setCell w9 ⟨b, 10, none⟩ v10).heap.size = w.heap.size := (setCell_size _ _ _).trans s9
  have a10 : (World.setCell w9 ⟨b, 10, none⟩ v10).os = w.os ∧ (World.setCell w9 ⟨b, 10, none⟩ v10).tape = w.tape ∧ (World.setCell w9 ⟨b, 10, none⟩ v10).output = w.output := ⟨a9.1, a9.2.1, a9.2.2⟩
  generalize World.setCell w9 ⟨b, 10, none⟩ v10 = w10 at *
  have h11 : (World.setCell w10 ⟨b, 11, none⟩ v11).heap[b]? = some (.cells #[v0, v1, v2, v3, v4, v5, v6, v7, v8, v9, v10, v11, c12, c13, c14, c15] t (0, 0)) := set_lit h10 rfl
  have o11 : ∀ k, k ≠ b → (World.setCell w10 ⟨b, 11, none⟩ v11).heap[k]? = w.heap[k]? := fun k hk => (Below.heap_setCell _ _ _ k hk).trans (o10 k hk)
  have s11 : (World.setCell w10 ⟨b, 11, none⟩ v11).heap.size = w.heap.size := (setCell_size _ _ _).trans s10
  have a11 : (World.setCell w10 ⟨b, 11, none⟩ v11).os = w.os ∧ (World.setCell w10 ⟨b, 11, none⟩ v11).tape = w.tape ∧ (World.setCell w10 ⟨b, 11, none⟩ v11).output = w.output := ⟨a10.1, a10.2.1, a10.2.2⟩
  generalize World.setCell w10 ⟨b, 11, none⟩ v11 = w11 at *
  have h12 : (World.setCell w11 ⟨b, 12, none⟩ v12).heap[b]? = some (.cells #[v0, v1, v2, v3, v4, v5, v6, v7, v8, v9, v10, v11, v12, c13, c14, c15] t (0, 0)) := set_lit h11 rfl
  have o12 : ∀ k, k ≠ b → (World.setCell w11 ⟨b, 12, none⟩ v12).heap[k]? = w.heap[k]? := fun k hk => (Below.heap_setCell _ _ _ k hk).trans (o11 k hk)
  have s12 : (World.setCell w11 ⟨b, 12, none⟩ v12).heap.size = w.heap.size := (setCell_size _ _ _).trans s11
  have a12 : (World.setCell w11 ⟨b, 12, none⟩ v12).os = w.os ∧ (World.setCell w11 ⟨b, 12, none⟩ v12).tape = w.tape ∧ (World.setCell w11 ⟨b, 12, none⟩ v12).output = w.output := ⟨a11.1, a11.2.1, a11.2.2⟩
  generalize World.setCell w11 ⟨b, 12, none⟩ v12 = w12 at *
  have h13 : (World.setCell w12 ⟨b, 13, none⟩ v13).heap[b]? = some (.cells #[v0, v1, v2, v3, v4, v5, v6, v7, v8, v9, v10, v11, v12, v13, c14, c15] t (0, 0)) := set_lit h12 rfl
  have o13 : ∀ k, k ≠ b → (World.setCell w12 ⟨b, 13, none⟩ v13).heap[k]? = w.heap[k]? := fun k hk => (Below.heap_setCell _ _ _ k hk).trans (o12 k hk)
  have s13 : (World.setCell w12 ⟨b, 13, none⟩ v13).heap.size = w.heap.size := (setCell_size _ _ _).trans s12
  have a13 : (World.setCell w12 ⟨b, 13, none⟩ v13).os = w.os ∧ (World.setCell w12 ⟨b, 13, none⟩ v13).tape = w.tape ∧ (World.setCell w12 ⟨b, 13, none⟩ v13).output = w.output := ⟨a12.1, a12.2.1, a12.2.2⟩
  generalize World.setCell w12 ⟨b, 13, none⟩ v13 = w13 at *
  have h14 : (World.setCell w13 ⟨b, 14, none⟩ v14).heap[b]? = some (.cells #[v0, v1, v2, v3, v4, v5, v6, v7, v8, v9, v10, v11, v12, v13, v14, c15] t (0, 0)) := set_lit h13 rfl
  have o14 : ∀ k, k ≠ b → (World.setCell w13 ⟨b, 14, none⟩ v14).heap[k]? = w.heap[k]? := fun k hk => (Below.heap_setCell _ _ _ k hk).trans (o13 k hk)
  have s14 : (World.setCell w13 ⟨b, 14, none⟩ v14).heap.size = w.heap.size := (setCell_size _ _ _).trans s13
  have a14 : (World.setCell w13 ⟨b, 14, none⟩ v14).os = w.os ∧ (World.setCell w13 ⟨b, 14, none⟩ v14).tape = w.tape ∧ (World.setCell w13 ⟨b, 14, none⟩ v14).output = w.output := ⟨a13.1, a13.2.1, a13.2.2⟩
  generalize World.setCell w13 ⟨b, 14, none⟩ v14 = w14 at *
  have h15 : (World.setCell w14 ⟨b, 15, none⟩ v15).heap[b]? = some (.cells #[v0, v1, v2, v3, v4, v5, v6, v7, v8, v9, v10, v11, v12, v13, v14, v15] t (0, 0)) := set_lit h14 rfl
  have o15 : ∀ k, k ≠ b → (World.setCell w14 ⟨b, 15, none⟩ v15).heap[k]? = w.heap[k]? := fun k hk => (Below.heap_setCell _ _ _ k hk).trans (o14 k hk)
  have s15 : (World.setCell w14 ⟨b, 15, none⟩ v15).heap.size = w.heap.size := (setCell_size _ _ _).trans s14
  have a15 : (World.setCell w14 ⟨b, 15, none⟩ v15).os = w.os ∧ (World.setCell w14 ⟨b, 15, none⟩ v15).tape = w.tape ∧ (World.setCell w14 ⟨b, 15, none⟩ v15).output = w.output := ⟨a14.1, a14.2.1, a14.2.2⟩
  generalize World.setCell w14 ⟨b, 15, none⟩ v15 = w15 at *
  exact ⟨w15, rfl, h15, o15, s15, a15.1, a15.2.1, a15.2.2⟩
theorem owns_same {w w' : World} {base e sz n : Nat} {v : Value} {xs : List Value} (h : w.ownsRow base e sz v n xs) (hb : ∀ k, base ≤ k → w'.heap[k]? = w.heap[k]?) : w'.ownsRow base e sz v n xs := by
  obtain ⟨h1, h2 | ⟨g, cap, cur, rfl, hg, hk, rest⟩⟩ := h
  · exact ⟨h1, .inl h2⟩
  · exact ⟨h1, .inr ⟨g, cap, cur, rfl, hg, (hb g hg).trans hk, rest⟩⟩
end Go.Proofs.Ytfenloempdhknaa
