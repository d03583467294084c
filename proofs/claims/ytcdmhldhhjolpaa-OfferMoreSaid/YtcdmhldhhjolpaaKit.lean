/- Small lemmas on worlds: no program in sight. 'w.more x d': the world w with the blocks x behind its own, and d draws. -/
import Derived.WalkKit
import Derived.Lib.Hide
namespace Go.Proofs.Ytcdmhldhhjolpaa
open Go.RowKit

theorem heap_alloc_if (w : World) (o : Obj) (k : Nat) : (w.alloc o).heap[k]? = if k = w.heap.size then some o else w.heap[k]? := by
  show (w.heap.push o)[k]? = _
  rw [Array.getElem?_push]

theorem size_alloc (w : World) (o : Obj) : (w.alloc o).heap.size = w.heap.size + 1 := by
  show (w.heap.push o).size = _
  simp

theorem block_lt {w : World} {b : Nat} {o : Obj} (h : w.heap[b]? = some o) : b < w.heap.size := by
  rcases Nat.lt_or_ge b w.heap.size with h' | h'
  · exact h'
  · simp [Array.getElem?_eq_none h'] at h

/-- The world w with the blocks x behind its own, and d draws. -/
def more (w : World) (x : Array Obj) (d : Nat) : World := { w with heap := w.heap ++ x, drawn := d }

theorem heap_more (w : World) (x : Array Obj) (d : Nat) : (more w x d).heap = w.heap ++ x := rfl

theorem more_size (w : World) (x : Array Obj) (d : Nat) : (more w x d).heap.size = w.heap.size + x.size := by
  show (w.heap ++ x).size = _
  simp

theorem heap_more_past (w : World) (x : Array Obj) (d n : Nat) (h : n < w.heap.size) : (more w x d).heap[n]? = w.heap[n]? := by
  show (w.heap ++ x)[n]? = _
  rw [Array.getElem?_append_left h]

theorem more_cell (w : World) (x : Array Obj) (d n i : Nat) (h : n < w.heap.size) : (more w x d).cell? ⟨n, i, none⟩ = w.cell? ⟨n, i, none⟩ := by
  simp only [World.cell?, heap_more_past w x d n h]

theorem more_frozen (w : World) (x : Array Obj) (d n i : Nat) (h : n < w.heap.size) : (more w x d).frozen? ⟨n, i, none⟩ = w.frozen? ⟨n, i, none⟩ := by
  simp only [World.frozen?, heap_more_past w x d n h]

theorem modify_append (a b : Array Obj) (n : Nat) (f : Obj → Obj) (h : n < a.size) : (a ++ b).modify n f = a.modify n f ++ b := by
  apply Array.ext_getElem?
  intro j
  simp only [Array.getElem?_modify, Array.getElem?_append, Array.size_modify]
  by_cases hj : j < a.size
  · simp [hj]
  · have : n ≠ j := by omega
    simp [hj, this]

theorem more_setCell (w : World) (x : Array Obj) (d n i : Nat) (v : Value) (h : n < w.heap.size) : (more w x d).setCell ⟨n, i, none⟩ v = more (w.setCell ⟨n, i, none⟩ v) x d := by
  simp only [World.setCell, more]
  rw [modify_append _ _ _ _ h]

theorem more_drew (w : World) (x : Array Obj) (d : Nat) : (more w x d).drew = more w x (d + 1) := rfl
theorem drew_more (w : World) (x : Array Obj) (d : Nat) : more w.drew x d = more w x d := rfl
theorem more_more (w : World) (x y : Array Obj) (d e : Nat) : more (more w x d) y e = more w (x ++ y) e := by
  simp only [more, Array.append_assoc]

theorem lt_add_more (n m c : Nat) (h : n < m) : n < m + c := Nat.lt_add_right c h

theorem below_more {B : Nat} {a w : World} (h : Below B a w) (hB : B ≤ w.heap.size) (x : Array Obj) (d : Nat) : Below B a (more w x d) :=
  h.trans ⟨rfl, rfl, rfl, by rw [more_size]; omega, fun k hk => heap_more_past w x d k (by omega)⟩

theorem more_of_below {w w' : World} (h : Below w.heap.size w w') : ∃ x d, w' = more w x d := by
  refine ⟨w'.heap.extract w.heap.size w'.heap.size, w'.drawn, ?_⟩
  have e : w'.heap = w.heap ++ w'.heap.extract w.heap.size w'.heap.size := by
    apply Array.ext_getElem?
    intro j
    have hs := h.size
    by_cases hj : j < w.heap.size
    · rw [Array.getElem?_append_left hj, h.block j hj]
    · rw [Array.getElem?_append_right (by omega), Array.getElem?_extract]
      by_cases hj' : j < w'.heap.size
      · simp only [show j - w.heap.size < min w'.heap.size w'.heap.size - w.heap.size from by omega, if_true]
        congr 1; omega
      · simp only [show ¬ (j - w.heap.size < min w'.heap.size w'.heap.size - w.heap.size) from by omega, if_false]
        simp; omega
  cases w; cases w'
  have h1 := h.os; have h2 := h.tape; have h3 := h.output
  simp only at h1 h2 h3 e
  subst h1 h2 h3
  simp only [more]
  congr 1

/-- One of the new blocks is known. -/
theorem more_of_block {w w' : World} {b : Nat} {o : Obj} (h : Below w.heap.size w w') (hb : w'.heap[b]? = some o) (hge : w.heap.size ≤ b) :
    ∃ x y d, b = w.heap.size + x.size ∧ w' = more ((more w x w.drawn).alloc o) y d := by
  obtain ⟨z, d, rfl⟩ := more_of_below h
  have hlt := block_lt hb
  rw [more_size] at hlt
  refine ⟨z.extract 0 (b - w.heap.size), z.extract (b - w.heap.size + 1) z.size, d, ?_, ?_⟩
  · rw [Array.size_extract]; omega
  · have hz : z[b - w.heap.size]? = some o := by
      rw [heap_more, Array.getElem?_append_right hge] at hb; exact hb
    have e : w.heap ++ z = (w.heap ++ z.extract 0 (b - w.heap.size)).push o ++ z.extract (b - w.heap.size + 1) z.size := by
      apply Array.ext_getElem?
      intro j
      by_cases h1 : j < w.heap.size
      · rw [Array.getElem?_append_left h1, Array.getElem?_append_left (by simp; omega), Array.getElem?_push, Array.getElem?_append_left h1]
        rw [if_neg (by simp; omega)]
      · rw [Array.getElem?_append_right (by omega)]
        by_cases h2 : j < b
        · rw [Array.getElem?_append_left (by simp; omega), Array.getElem?_push, if_neg (by simp; omega), Array.getElem?_append_right (by omega), Array.getElem?_extract]
          rw [if_pos (by omega)]
          congr 1; omega
        · by_cases h3 : j = b
          · subst h3
            rw [Array.getElem?_append_left (by simp; omega), Array.getElem?_push, if_pos (by simp; omega)]
            exact hz
          · rw [Array.getElem?_append_right (by simp; omega), Array.getElem?_extract]
            simp only [Array.size_push, Array.size_append, Array.size_extract]
            by_cases h4 : j < w.heap.size + z.size
            · rw [if_pos (by omega)]
              congr 1; omega
            · rw [if_neg (by omega)]
              simp; omega
    show ({ w with heap := w.heap ++ z, drawn := d } : World) = { w with heap := (w.heap ++ z.extract 0 (b - w.heap.size)).push o ++ z.extract (b - w.heap.size + 1) z.size, drawn := d }
    rw [e]

theorem heap_more_at (w : World) (x : Array Obj) (o : Obj) (y : Array Obj) (c d : Nat) : (more ((more w x c).alloc o) y d).heap[w.heap.size + x.size]? = some o := by
  rw [heap_more_past _ _ _ _ (by rw [size_alloc, more_size]; omega), heap_alloc_if, more_size, if_pos rfl]

/-- A block that is known whole: each of its cells. -/
theorem cell_block {w : World} {b : Nat} {cs : Array Value} {t : TypeId} {fr : Nat × Nat} (h : w.heap[b]? = some (.cells cs t fr)) (o : Nat) :
    w.cell? ⟨b, o, none⟩ = cs[o]? := by simp [World.cell?, h]
theorem free_block {w : World} {b : Nat} {cs : Array Value} {t : TypeId} (h : w.heap[b]? = some (.cells cs t (0, 0))) (o : Nat) :
    w.frozen? ⟨b, o, none⟩ = false := by simp [World.frozen?, h]

theorem block_keep {B : Nat} {w w' : World} {b : Nat} {o : Obj} (hb : Below B w w') (h : w.heap[b]? = some o) (hlt : b < B) : w'.heap[b]? = some o := by
  rw [hb.block b hlt, h]

theorem block_keep' {w w' : World} {b : Nat} {o : Obj} (hb : Below w.heap.size w w') (h : w.heap[b]? = some o) : w'.heap[b]? = some o :=
  block_keep hb h (block_lt h)

theorem block_set {w : World} {a : Addr} {u : Value} {b : Nat} {o : Obj} (h : w.heap[b]? = some o) (hne : b ≠ a.block) : (w.setCell a u).heap[b]? = some o := by
  rw [Below.heap_setCell w a u b hne, h]
theorem block_alloc {w : World} {x : Obj} {b : Nat} {o : Obj} (h : w.heap[b]? = some o) : (w.alloc x).heap[b]? = some o := by
  rw [Below.heap_alloc w x b (block_lt h), h]
theorem blk_set {w : World} {b i : Nat} {cs : Array Value} {t : TypeId} {v : Value} (h : w.heap[b]? = some (.cells cs t (0, 0))) : (w.setCell ⟨b, i, none⟩ v).heap[b]? = some (.cells (cs.setIfInBounds i v) t (0, 0)) :=
  heap_setCell_same w b i cs t v h

/-- What lay, lies. -/
theorem below_facts {W W1 : World} (hb : Below W.heap.size W W1) :
    (∀ b o, b < W.heap.size → W1.cell? ⟨b, o, none⟩ = W.cell? ⟨b, o, none⟩) ∧ (∀ b o, b < W.heap.size → W1.frozen? ⟨b, o, none⟩ = W.frozen? ⟨b, o, none⟩) ∧ W.heap.size ≤ W1.heap.size :=
  ⟨fun b o h => hb.cell (p := ⟨b, o, none⟩) h, fun b o h => hb.frozen (p := ⟨b, o, none⟩) h, hb.size⟩

/-- A function whose first result lies in a block that is known whole. -/
theorem ret_cell {P : Program} {fn : Func} {R : Ending → World → Prop} {a : Act} {w : World} {v : Value} (b : Nat) (cs : Array Value) (t : TypeId)
    (h : w.heap[b]? = some (.cells cs t (0, 0))) (hr : ∀ w' : World, (∀ o, w'.cell? ⟨b, o, none⟩ = cs[o]?) → (results fn a.tmps).run P w' = .ok v w') (hd : a.defers = []) (hR : R (.returned v) w) : bodyPost P fn R .ret a w :=
  bodyPost_ret (hr w (cell_block h)) hd hR

theorem store1 {w : World} {b : Nat} {t : TypeId} {c0 v0 : Value} (h : w.heap[b]? = some (.cells #[c0] t (0, 0))) :
    (World.setCell w ⟨b, 0, none⟩ v0).heap[b]? = some (.cells #[v0] t (0, 0)) := by
  have e := (blk_set (i := 0) (v := v0) h)
  simpa using e
theorem store2 {w : World} {b : Nat} {t : TypeId} {c0 c1 v0 v1 : Value} (h : w.heap[b]? = some (.cells #[c0, c1] t (0, 0))) :
    (World.setCell (World.setCell w ⟨b, 0, none⟩ v0) ⟨b, 1, none⟩ v1).heap[b]? = some (.cells #[v0, v1] t (0, 0)) := by
  have e := (blk_set (i := 1) (v := v1) (blk_set (i := 0) (v := v0) h))
  simpa using e
theorem store3 {w : World} {b : Nat} {t : TypeId} {c0 c1 c2 v0 v1 v2 : Value} (h : w.heap[b]? = some (.cells #[c0, c1, c2] t (0, 0))) :
    (World.setCell (World.setCell (World.setCell w ⟨b, 0, none⟩ v0) ⟨b, 1, none⟩ v1) ⟨b, 2, none⟩ v2).heap[b]? = some (.cells #[v0, v1, v2] t (0, 0)) := by
  have e := (blk_set (i := 2) (v := v2) (blk_set (i := 1) (v := v1) (blk_set (i := 0) (v := v0) h)))
  simpa using e
theorem store6 {w : World} {b : Nat} {t : TypeId} {c0 c1 c2 c3 c4 c5 v0 v1 v2 v3 v4 v5 : Value} (h : w.heap[b]? = some (.cells #[c0, c1, c2, c3, c4, c5] t (0, 0))) :
    (World.setCell (World.setCell (World.setCell (World.setCell (World.setCell (World.setCell w ⟨b, 0, none⟩ v0) ⟨b, 1, none⟩ v1) ⟨b, 2, none⟩ v2) ⟨b, 3, none⟩ v3) ⟨b, 4, none⟩ v4) ⟨b, 5, none⟩ v5).heap[b]? = some (.cells #[v0, v1, v2, v3, v4, v5] t (0, 0)) := by
  have e := (blk_set (i := 5) (v := v5) (blk_set (i := 4) (v := v4) (blk_set (i := 3) (v := v3) (blk_set (i := 2) (v := v2) (blk_set (i := 1) (v := v1) (blk_set (i := 0) (v := v0) h))))))
  simpa using e
theorem store7 {w : World} {b : Nat} {t : TypeId} {c0 c1 c2 c3 c4 c5 c6 v0 v1 v2 v3 v4 v5 v6 : Value} (h : w.heap[b]? = some (.cells #[c0, c1, c2, c3, c4, c5, c6] t (0, 0))) :
    (World.setCell (World.setCell (World.setCell (World.setCell (World.setCell (World.setCell (World.setCell w ⟨b, 0, none⟩ v0) ⟨b, 1, none⟩ v1) ⟨b, 2, none⟩ v2) ⟨b, 3, none⟩ v3) ⟨b, 4, none⟩ v4) ⟨b, 5, none⟩ v5) ⟨b, 6, none⟩ v6).heap[b]? = some (.cells #[v0, v1, v2, v3, v4, v5, v6] t (0, 0)) := by
  have e := (blk_set (i := 6) (v := v6) (blk_set (i := 5) (v := v5) (blk_set (i := 4) (v := v4) (blk_set (i := 3) (v := v3) (blk_set (i := 2) (v := v2) (blk_set (i := 1) (v := v1) (blk_set (i := 0) (v := v0) h)))))))
  simpa using e
theorem store9 {w : World} {b : Nat} {t : TypeId} {c0 c1 c2 c3 c4 c5 c6 c7 c8 v0 v1 v2 v3 v4 v5 v6 v7 v8 : Value} (h : w.heap[b]? = some (.cells #[c0, c1, c2, c3, c4, c5, c6, c7, c8] t (0, 0))) :
    (World.setCell (World.setCell (World.setCell (World.setCell (World.setCell (World.setCell (World.setCell (World.setCell (World.setCell w ⟨b, 0, none⟩ v0) ⟨b, 1, none⟩ v1) ⟨b, 2, none⟩ v2) ⟨b, 3, none⟩ v3) ⟨b, 4, none⟩ v4) ⟨b, 5, none⟩ v5) ⟨b, 6, none⟩ v6) ⟨b, 7, none⟩ v7) ⟨b, 8, none⟩ v8).heap[b]? = some (.cells #[v0, v1, v2, v3, v4, v5, v6, v7, v8] t (0, 0)) := by
  have e := (blk_set (i := 8) (v := v8) (blk_set (i := 7) (v := v7) (blk_set (i := 6) (v := v6) (blk_set (i := 5) (v := v5) (blk_set (i := 4) (v := v4) (blk_set (i := 3) (v := v3) (blk_set (i := 2) (v := v2) (blk_set (i := 1) (v := v1) (blk_set (i := 0) (v := v0) h)))))))))
  simpa using e
theorem store10 {w : World} {b : Nat} {t : TypeId} {c0 c1 c2 c3 c4 c5 c6 c7 c8 c9 v0 v1 v2 v3 v4 v5 v6 v7 v8 v9 : Value} (h : w.heap[b]? = some (.cells #[c0, c1, c2, c3, c4, c5, c6, c7, c8, c9] t (0, 0))) :
    (World.setCell (World.setCell (World.setCell (World.setCell (World.setCell (World.setCell (World.setCell (World.setCell (World.setCell (World.setCell w ⟨b, 0, none⟩ v0) ⟨b, 1, none⟩ v1) ⟨b, 2, none⟩ v2) ⟨b, 3, none⟩ v3) ⟨b, 4, none⟩ v4) ⟨b, 5, none⟩ v5) ⟨b, 6, none⟩ v6) ⟨b, 7, none⟩ v7) ⟨b, 8, none⟩ v8) ⟨b, 9, none⟩ v9).heap[b]? = some (.cells #[v0, v1, v2, v3, v4, v5, v6, v7, v8, v9] t (0, 0)) := by
  have e := (blk_set (i := 9) (v := v9) (blk_set (i := 8) (v := v8) (blk_set (i := 7) (v := v7) (blk_set (i := 6) (v := v6) (blk_set (i := 5) (v := v5) (blk_set (i := 4) (v := v4) (blk_set (i := 3) (v := v3) (blk_set (i := 2) (v := v2) (blk_set (i := 1) (v := v1) (blk_set (i := 0) (v := v0) h))))))))))
  simpa using e

/-- A block number of the world's. (A word of its own: the walk's simp takes it apart by one equation a block, without conditions.) -/
def Old (w : World) (n : Nat) : Prop := n < w.heap.size

theorem old_alloc (w : World) (o : Obj) (n : Nat) : Old (w.alloc o) n = (n = w.heap.size ∨ Old w n) := by
  simp only [Old, size_alloc]
  exact propext ⟨by omega, by omega⟩
theorem old_more (w : World) (x : Array Obj) (d n : Nat) : Old (more w x d) n = ((w.heap.size ≤ n ∧ n < w.heap.size + x.size) ∨ Old w n) := by
  simp only [Old, more_size]
  exact propext ⟨by omega, by omega⟩
theorem old_drew (w : World) (n : Nat) : Old w.drew n = Old w n := rfl
theorem old_setCell (w : World) (a : Addr) (v : Value) (n : Nat) : Old (w.setCell a v) n = Old w n := by
  simp [Old, World.setCell]
theorem old_lt {w : World} {n : Nat} (h : n < w.heap.size) : Old w n := h

theorem cell_more_old (w : World) (x : Array Obj) (d n i : Nat) (h : Old w n) : (more w x d).cell? ⟨n, i, none⟩ = w.cell? ⟨n, i, none⟩ := more_cell w x d n i h
theorem frozen_more_old (w : World) (x : Array Obj) (d n i : Nat) (h : Old w n) : (more w x d).frozen? ⟨n, i, none⟩ = w.frozen? ⟨n, i, none⟩ := more_frozen w x d n i h
theorem setCell_more_old (w : World) (x : Array Obj) (d n i : Nat) (v : Value) (h : Old w n) : (more w x d).setCell ⟨n, i, none⟩ v = more (w.setCell ⟨n, i, none⟩ v) x d := more_setCell w x d n i v h
theorem cell_alloc_old (w : World) (o : Obj) (n i : Nat) (h : Old w n) : (w.alloc o).cell? ⟨n, i, none⟩ = w.cell? ⟨n, i, none⟩ := World.cell?_alloc_past o n i h
theorem frozen_alloc_old (w : World) (o : Obj) (n i : Nat) (h : Old w n) : (w.alloc o).frozen? ⟨n, i, none⟩ = w.frozen? ⟨n, i, none⟩ := World.frozen?_alloc_past o n i h
theorem setCell_alloc_old (w : World) (o : Obj) (n i : Nat) (v : Value) (h : Old w n) : (w.alloc o).setCell ⟨n, i, none⟩ v = (w.setCell ⟨n, i, none⟩ v).alloc o := World.setCell_alloc_past o n i v h

theorem hm_more {w : World} {x : Array Obj} {d b : Nat} {o : Obj} (h : w.heap[b]? = some o) : (more w x d).heap[b]? = some o := by
  rw [heap_more_past w x d b (block_lt h), h]
theorem hm_new {w : World} {b : Nat} {o : Obj} (h : b = w.heap.size) : (w.alloc o).heap[b]? = some o := by
  rw [heap_alloc_if, if_pos h]
theorem hm_drew {w : World} {b : Nat} {o : Obj} (h : w.heap[b]? = some o) : w.drew.heap[b]? = some o := h

/-- The cells of a new block, at their addresses. -/
theorem news_alloc (w : World) (l : List Value) (T : TypeId) : ∀ (j : Nat) (u : Value), l[j]? = some u → (w.alloc (.cells l.toArray T)).cell? ((⟨w.heap.size, 0, none⟩ : Addr).add j) = some u := by
  intro j u h
  rw [Addr.add_lit, World.cell?_alloc_at _ _ _ _ rfl, Nat.zero_add]
  simpa using h

/-- A new slice without elements owns nothing. -/
theorem owns_empty (w : World) (B e sz : Nat) (h : B ≤ w.heap.size) : (w.alloc (.cells #[] e)).ownsRow B e sz (.slice (some ⟨w.heap.size, 0, none⟩) 0 0) 0 [] :=
  ⟨by simp, .inr ⟨w.heap.size, 0, #[], rfl, h, hm_new rfl, Nat.le_refl _, by unfold maxLen; omega, by simp, by simp⟩⟩

theorem ints_one (l : List Int) : ∀ u ∈ l.map (Value.int .i64), u.oneCell' = true := by
  intro u hu
  obtain ⟨x, _, rfl⟩ := List.mem_map.1 hu
  rfl

end Go.Proofs.Ytcdmhldhhjolpaa
