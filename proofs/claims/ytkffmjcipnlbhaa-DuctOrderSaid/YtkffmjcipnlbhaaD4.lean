
/- Walks of the seat of chapter 05: New, Put, Take, Close. -/
import Derived.Test.YtkffmjcipnlbhaaD3
namespace Go.Proofs.Ytkffmjcipnlbhaa
open Go.RowKit
attribute [local go_sem ↓] Go.wp_at_zero Go.wp_at_succ
attribute [local go_sem] more_size cell_more_old frozen_more_old setCell_more_old more_drew drew_more old_alloc old_more old_drew old_setCell cell_alloc_old frozen_alloc_old setCell_alloc_old

theorem rdF_mk {w : World} {v : Value} {n : Nat} {l : List Lt} (h : RdL w v l) (hn : n = l.length) : RdF w 6 v n (ltCells l) := by
  subst hn; exact h
theorem st3 {w : World} {b : Nat} {t : TypeId} {c0 c1 c2 : Value} (h : w.heap[b]? = some (.cells #[c0, c1, c2] t (0, 0))) (u0 u1 u2 : Value) :
    (((w.setCell ⟨b, 0, none⟩ u0).setCell ⟨b, 1, none⟩ u1).setCell ⟨b, 2, none⟩ u2).heap[b]? = some (.cells #[u0, u1, u2] t (0, 0)) := by
  have e := blk_set (i := 2) (v := u2) (blk_set (i := 1) (v := u1) (blk_set (i := 0) (v := u0) h))
  simpa using e
theorem ot3 {w : World} {b c : Nat} {o : Option Obj} (h : w.heap[c]? = o) (hne : c ≠ b) (u0 u1 u2 : Value) :
    (((w.setCell ⟨b, 0, none⟩ u0).setCell ⟨b, 1, none⟩ u1).setCell ⟨b, 2, none⟩ u2).heap[c]? = o :=
  ((Below.heap_setCell _ _ _ c hne).trans ((Below.heap_setCell _ _ _ c hne).trans (Below.heap_setCell _ _ _ c hne))).trans h
theorem ow3 {w : World} {b : Nat} {base e size k : Nat} {v : Value} {xs : List Value} (hr : w.ownsRow base e size v k xs) (hb : b < base) (u0 u1 u2 : Value) :
    (((w.setCell ⟨b, 0, none⟩ u0).setCell ⟨b, 1, none⟩ u1).setCell ⟨b, 2, none⟩ u2).ownsRow base e size v k xs :=
  ownsRow_setCell_below (ownsRow_setCell_below (ownsRow_setCell_below hr hb _) hb _) hb _
theorem ot6 {w : World} {b c : Nat} {o : Option Obj} (h : w.heap[c]? = o) (hne : c ≠ b) (v0 v1 v2 v3 v4 v5 : Value) :
    (World.setCell (World.setCell (World.setCell (World.setCell (World.setCell (World.setCell w ⟨b, 0, none⟩ v0) ⟨b, 1, none⟩ v1) ⟨b, 2, none⟩ v2) ⟨b, 3, none⟩ v3) ⟨b, 4, none⟩ v4) ⟨b, 5, none⟩ v5).heap[c]? = o :=
  ((Below.heap_setCell _ _ _ c hne).trans ((Below.heap_setCell _ _ _ c hne).trans ((Below.heap_setCell _ _ _ c hne).trans ((Below.heap_setCell _ _ _ c hne).trans ((Below.heap_setCell _ _ _ c hne).trans (Below.heap_setCell _ _ _ c hne)))))).trans h
/-- What Take does last: both its results are stored, and once more. -/
theorem handed {w : World} {B Bm : Nat} {z0 z1 z2 c0 c1 c2 c3 c4 c5 : Value} (hB : w.heap[B]? = some (.cells #[z0, z1, z2] 26)) (hM : w.heap[Bm]? = some (.cells #[c0, c1, c2, c3, c4, c5] 32)) (hne : Bm ≠ B) (u0 u1 u2 v0 v1 v2 v3 v4 v5 : Value) :
    ∃ U : World, World.drew (World.setCell (World.setCell (World.setCell (World.setCell (World.setCell (World.setCell (World.setCell (World.setCell (World.setCell (World.setCell (World.setCell (World.setCell w ⟨B, 0, none⟩ u0) ⟨B, 1, none⟩ u1) ⟨B, 2, none⟩ u2) ⟨Bm, 0, none⟩ v0) ⟨Bm, 1, none⟩ v1) ⟨Bm, 2, none⟩ v2) ⟨Bm, 3, none⟩ v3) ⟨Bm, 4, none⟩ v4) ⟨Bm, 5, none⟩ v5) ⟨B, 0, none⟩ u0) ⟨B, 1, none⟩ u1) ⟨B, 2, none⟩ u2) = U ∧
      U.heap[B]? = some (.cells #[u0, u1, u2] 26) ∧ U.heap[Bm]? = some (.cells #[v0, v1, v2, v3, v4, v5] 32) ∧ (∀ k, k ≠ B → k ≠ Bm → U.heap[k]? = w.heap[k]?) ∧ U.heap.size = w.heap.size ∧ U.os = w.os ∧ U.tape = w.tape ∧ U.output = w.output ∧
      (∀ base n v xs, Bm < base → B < base → w.ownsRow base 32 6 v n xs → U.ownsRow base 32 6 v n xs) := by
  have e1 := st3 hB u0 u1 u2
  have e2 := ot3 hM hne u0 u1 u2
  have e3 : ∀ k, k ≠ B → _ := fun k hk => ot3 (w := w) (c := k) rfl hk u0 u1 u2
  have e4 : ∀ base n v xs, Bm < base → B < base → w.ownsRow base 32 6 v n xs → _ := fun base n v xs _ h2 h => ow3 (b := B) h h2 u0 u1 u2
  have e5 : (((w.setCell ⟨B, 0, none⟩ u0).setCell ⟨B, 1, none⟩ u1).setCell ⟨B, 2, none⟩ u2).heap.size = w.heap.size := by simp only [setCell_size]
  have o1 : (((w.setCell ⟨B, 0, none⟩ u0).setCell ⟨B, 1, none⟩ u1).setCell ⟨B, 2, none⟩ u2).os = w.os := rfl
  have t1 : (((w.setCell ⟨B, 0, none⟩ u0).setCell ⟨B, 1, none⟩ u1).setCell ⟨B, 2, none⟩ u2).tape = w.tape := rfl
  have p1 : (((w.setCell ⟨B, 0, none⟩ u0).setCell ⟨B, 1, none⟩ u1).setCell ⟨B, 2, none⟩ u2).output = w.output := rfl
  generalize ((w.setCell ⟨B, 0, none⟩ u0).setCell ⟨B, 1, none⟩ u1).setCell ⟨B, 2, none⟩ u2 = V at *
  have g := grownBy_sets6 V Bm v0 v1 v2 v3 v4 v5
  have f1 := ot6 e1 (Ne.symm hne) v0 v1 v2 v3 v4 v5
  have f2 := store6 (v0 := v0) (v1 := v1) (v2 := v2) (v3 := v3) (v4 := v4) (v5 := v5) e2
  have f3 : ∀ k, k ≠ B → k ≠ Bm → _ := fun k hk hm => ot6 (e3 k hk) hm v0 v1 v2 v3 v4 v5
  have f4 : ∀ base n v xs, Bm < base → B < base → w.ownsRow base 32 6 v n xs → _ := fun base n v xs h1 h2 h => owns_sets6 (v0 := v0) (v1 := v1) (v2 := v2) (v3 := v3) (v4 := v4) (v5 := v5) (e4 base n v xs h1 h2 h) h1
  have f5 : (World.setCell (World.setCell (World.setCell (World.setCell (World.setCell (World.setCell V ⟨Bm, 0, none⟩ v0) ⟨Bm, 1, none⟩ v1) ⟨Bm, 2, none⟩ v2) ⟨Bm, 3, none⟩ v3) ⟨Bm, 4, none⟩ v4) ⟨Bm, 5, none⟩ v5).heap.size = w.heap.size := by simp only [setCell_size]; exact e5
  have o2 := g.os.trans o1
  have t2 := g.tape.trans t1
  have p2 := g.output.trans p1
  clear g e1 e2 e3 e4 e5 o1 t1 p1
  generalize (World.setCell (World.setCell (World.setCell (World.setCell (World.setCell (World.setCell V ⟨Bm, 0, none⟩ v0) ⟨Bm, 1, none⟩ v1) ⟨Bm, 2, none⟩ v2) ⟨Bm, 3, none⟩ v3) ⟨Bm, 4, none⟩ v4) ⟨Bm, 5, none⟩ v5) = T at *
  exact ⟨_, rfl, st3 f1 u0 u1 u2, ot3 f2 hne u0 u1 u2, fun k h1 h2 => ot3 (f3 k h1 h2) h1 u0 u1 u2, by show (World.setCell _ _ _).heap.size = _; simp only [setCell_size]; exact f5, o2, t2, p2, fun base n v xs h1 h2 h => (ow3 (f4 base n v xs h1 h2 h) h2 u0 u1 u2).drew⟩
/-- A slice of letters that is read, whose block is one of letters. -/
def RdT (w : World) (v : Value) (l : List Lt) : Prop := RdL w v l ∧ (l ≠ [] → ∀ b off n p, v = .slice (some ⟨b, off, none⟩) n p → ∃ cs fr, w.heap[b]? = some (.cells cs 32 fr))
theorem RdT.rd {w : World} {v : Value} {l : List Lt} (h : RdT w v l) : RdL w v l := h.1
theorem RdT.same {w w' : World} {v : Value} {l : List Lt} (h : RdT w v l) (hb : ∀ (b : Nat) (cs : Array Value) (fr : Nat × Nat), w.heap[b]? = some (Obj.cells cs 32 fr) → w'.heap[b]? = w.heap[b]?) (hs : w.heap.size ≤ w'.heap.size) : RdT w' v l := by
  obtain ⟨⟨hl, h0 | ⟨hn, b, off, cap, hv, hc, hlt, hx⟩⟩, ht⟩ := h
  · refine ⟨⟨hl, .inl h0⟩, fun hne => ?_⟩
    exact absurd (List.length_eq_zero_iff.1 h0.1) hne
  · have hne : l ≠ [] := fun e => by rw [e] at hn; exact absurd hn (by simp)
    obtain ⟨cs, fr, hk⟩ := ht hne _ _ _ _ hv
    have e := hb b cs fr hk
    refine ⟨⟨hl, .inr ⟨hn, b, off, cap, hv, hc, Nat.lt_of_lt_of_le hlt hs, fun j u hj => (World.cell?_of_block e).trans (hx j u hj)⟩⟩, fun _ b' off' n' p' hv' => ?_⟩
    rw [hv] at hv'
    cases hv'
    exact ⟨cs, fr, e.trans hk⟩
theorem RdT.below {w w' : World} {v : Value} {l : List Lt} (h : RdT w v l) (hb : Below w.heap.size w w') : RdT w' v l := h.same (fun b cs fr hk => hb.block b (block_lt hk)) hb.size
theorem RdT.set3 {w : World} {v : Value} {l : List Lt} {B : Nat} {cs : Array Value} {t : TypeId} {fr : Nat × Nat} (h : RdT w v l) (hB : w.heap[B]? = some (.cells cs t fr)) (ht : t ≠ 32) (u0 u1 u2 : Value) :
    RdT (((w.setCell ⟨B, 0, none⟩ u0).setCell ⟨B, 1, none⟩ u1).setCell ⟨B, 2, none⟩ u2) v l :=
  h.same (fun b cs' fr' hk => ot3 (w := w) (c := b) rfl (fun e => by subst e; rw [hB] at hk; simp at hk; exact ht hk.2.1) u0 u1 u2) (by simp only [setCell_size]; exact Nat.le_refl _)
theorem RdF.ofOwnsL {w : World} {base n : Nat} {v : Value} {l : List Lt} (h : w.ownsRow base 32 6 v n (ltCells l)) (hn : l.length = n) : RdT w v l :=
  ⟨rdL_mk (RdF.of_owns h) hn rfl, fun hne b off n' p hv => by
    rcases h.2 with ⟨h0, _⟩ | ⟨g, cap, cur, hv', _, hg, _⟩
    · rw [hv] at h0; cases h0
    · rw [hv] at hv'; cases hv'; exact ⟨_, _, hg⟩⟩
theorem RdT.nil0 {w : World} {a : Option Addr} {p : Nat} (h : RdL w (.slice a 0 p) []) : RdT w (.slice a 0 p) [] := ⟨h, fun h => absurd rfl h⟩
theorem RdT.cut {w : World} {a : Option Addr} {n p : Nat} {x : Lt} {l : List Lt} (h : RdT w (.slice a n p) (x :: l)) (hn : n = l.length + 1) : RdT w (.slice (cutA a 1 p 6) (n - 1) (p - 1)) l := by
  refine ⟨rdL_mk (RdF.cut (xs := ltCells (x :: l)) (k := 1) (n := n) (by have := h.1; subst hn; exact this) (by omega)) (by omega) (by rw [ltCells_drop (x :: l) 1]; rfl), fun hne b off n' p' hv => ?_⟩
  simp only [Value.slice.injEq, cutA] at hv
  have ha : ∃ o, a = some ⟨b, o, none⟩ := by
    obtain ⟨g, o, rfl, _⟩ := RdF.lies h.1 (by simp)
    obtain ⟨hv, _⟩ := hv
    split at hv
    · exact ⟨_, hv⟩
    · simp only [Option.map_some, Option.some.injEq, Addr.add] at hv
      cases hv
      exact ⟨o, rfl⟩
  obtain ⟨o, rfl⟩ := ha
  exact h.2 (by simp) _ _ _ _ rfl

set_option maxHeartbeats 2000000 in
theorem put9_shut (c : Int) (a au : Option Addr) (n p m pu : Nat) (l l2 : List Lt) (w : World) (h1 : 0 ≤ c) (h2 : c ≤ 64) (h3 : (n : Int) ≤ c) (hl : RdL w (.slice a n p) l) (hu : RdL w (.slice au m pu) l2)  :
    Calls Try.prog 9 #[.agg #[.int .i64 c, .slice a n p, .bool true], .slice au m pu] w fun r w' => r = .returned (.tuple #[.agg #[.int .i64 c, .slice a n p, .bool true], .int .i64 52]) ∧ Below w.heap.size w w' := by
  have hm : m = l2.length := hu.len
  have HN := Lib.hid hl.len
  have HL := Lib.hid hl
  have HU := Lib.hid hu
  have HM := Lib.hid hm
  clear hl hu hm
  go_enter Try.func9, Try.ntmps9
  go_wp2_with fail
  refine (does27_put_shut c a n p l (w.heap.size + 1) _ h1 h2 h3 (HL.out.below (by (repeat' (first | (with_reducible exact Below.refl _ _) | (with_reducible assumption) | (with_reducible refine Below.drew ?_) | (with_reducible refine Below.alloc ?_ ?_ _) | (with_reducible refine below_more ?_ ?_ _ _) | (with_reducible refine Below.setCell ?_ ?_ _) | (with_reducible refine Below.trans ?_ (Below.mono (by assumption) ?_)))) <;> first | omega | (simp; done) | (simp; omega) | (simp [more_size]; done) | (simp [more_size]; omega)))).mono ?_
  rintro r w1 ⟨rfl, hb⟩
  have kR : w1.heap[w.heap.size + 2]? = some (.cells #[.int .i64 0, .slice none 0 0, .bool false] 26) := block_keep' hb (by (repeat' (first | (with_reducible assumption) | (with_reducible refine hm_new ?_; (first | rfl | (simp; done) | (simp [more_size]; done) | (simp [more_size]; omega))) | (with_reducible refine block_alloc ?_) | (with_reducible refine hm_more ?_) | (with_reducible refine hm_drew ?_))))
  have hB : Below w.heap.size w w1 := by (repeat' (first | (with_reducible exact Below.refl _ _) | (with_reducible assumption) | (with_reducible refine Below.drew ?_) | (with_reducible refine Below.alloc ?_ ?_ _) | (with_reducible refine below_more ?_ ?_ _ _) | (with_reducible refine Below.setCell ?_ ?_ _) | (with_reducible refine Below.trans ?_ (Below.mono (by assumption) ?_)))) <;> first | omega | (simp; done) | (simp; omega) | (simp [more_size]; done) | (simp [more_size]; omega)
  have cR := cell_block kR
  have fR := free_block kR
  have HB := Lib.hid hB
  clear hb hB kR
  go_wp2
  refine bodyPost_ret ?_ rfl ⟨rfl, ?_⟩
  · simp [results, Try.results9, go_sem, cR, fR]
  · have hb := HB.out
    (repeat' (first | (with_reducible exact Below.refl _ _) | (with_reducible assumption) | (with_reducible refine Below.drew ?_) | (with_reducible refine Below.alloc ?_ ?_ _) | (with_reducible refine below_more ?_ ?_ _ _) | (with_reducible refine Below.setCell ?_ ?_ _) | (with_reducible refine Below.trans ?_ (Below.mono (by assumption) ?_)))) <;> first | omega | (simp; done) | (simp; omega) | (simp [more_size]; done) | (simp [more_size]; omega)

set_option maxHeartbeats 2000000 in
theorem put9_full (c : Int) (a au : Option Addr) (n p m pu : Nat) (l l2 : List Lt) (w : World) (h1 : 0 ≤ c) (h2 : c ≤ 64) (h3 : (n : Int) ≤ c) (hl : RdL w (.slice a n p) l) (hu : RdL w (.slice au m pu) l2) (hfull : c - n < (m : Int)) :
    Calls Try.prog 9 #[.agg #[.int .i64 c, .slice a n p, .bool false], .slice au m pu] w fun r w' => r = .returned (.tuple #[.agg #[.int .i64 c, .slice a n p, .bool false], .int .i64 50]) ∧ Below w.heap.size w w' := by
  have hm : m = l2.length := hu.len
  have HN := Lib.hid hl.len
  have HL := Lib.hid hl
  have HU := Lib.hid hu
  have HM := Lib.hid hm
  clear hl hu hm
  go_enter Try.func9, Try.ntmps9
  go_wp2_with fail
  refine (does27_put_full c a n p l (w.heap.size + 1) au m pu _ h1 h2 h3 (HL.out.below (by (repeat' (first | (with_reducible exact Below.refl _ _) | (with_reducible assumption) | (with_reducible refine Below.drew ?_) | (with_reducible refine Below.alloc ?_ ?_ _) | (with_reducible refine below_more ?_ ?_ _ _) | (with_reducible refine Below.setCell ?_ ?_ _) | (with_reducible refine Below.trans ?_ (Below.mono (by assumption) ?_)))) <;> first | omega | (simp; done) | (simp; omega) | (simp [more_size]; done) | (simp [more_size]; omega))) (by simp) (by simp [go_sem]) hfull).mono ?_
  rintro r w1 ⟨rfl, hb⟩
  have kR : w1.heap[w.heap.size + 2]? = some (.cells #[.int .i64 0, .slice none 0 0, .bool false] 26) := block_keep' hb (by (repeat' (first | (with_reducible assumption) | (with_reducible refine hm_new ?_; (first | rfl | (simp; done) | (simp [more_size]; done) | (simp [more_size]; omega))) | (with_reducible refine block_alloc ?_) | (with_reducible refine hm_more ?_) | (with_reducible refine hm_drew ?_))))
  have hB : Below w.heap.size w w1 := by (repeat' (first | (with_reducible exact Below.refl _ _) | (with_reducible assumption) | (with_reducible refine Below.drew ?_) | (with_reducible refine Below.alloc ?_ ?_ _) | (with_reducible refine below_more ?_ ?_ _ _) | (with_reducible refine Below.setCell ?_ ?_ _) | (with_reducible refine Below.trans ?_ (Below.mono (by assumption) ?_)))) <;> first | omega | (simp; done) | (simp; omega) | (simp [more_size]; done) | (simp [more_size]; omega)
  have cR := cell_block kR
  have fR := free_block kR
  have HB := Lib.hid hB
  clear hb hB kR
  go_wp2
  refine bodyPost_ret ?_ rfl ⟨rfl, ?_⟩
  · simp [results, Try.results9, go_sem, cR, fR]
  · have hb := HB.out
    (repeat' (first | (with_reducible exact Below.refl _ _) | (with_reducible assumption) | (with_reducible refine Below.drew ?_) | (with_reducible refine Below.alloc ?_ ?_ _) | (with_reducible refine below_more ?_ ?_ _ _) | (with_reducible refine Below.setCell ?_ ?_ _) | (with_reducible refine Below.trans ?_ (Below.mono (by assumption) ?_)))) <;> first | omega | (simp; done) | (simp; omega) | (simp [more_size]; done) | (simp [more_size]; omega)

set_option maxHeartbeats 2000000 in
theorem put9_ok (c : Int) (a au : Option Addr) (n p m pu : Nat) (l l2 : List Lt) (w : World) (h1 : 0 ≤ c) (h2 : c ≤ 64) (h3 : (n : Int) ≤ c) (hl : RdL w (.slice a n p) l) (hu : RdL w (.slice au m pu) l2) (hroom : (m : Int) ≤ c - n) :
    Calls Try.prog 9 #[.agg #[.int .i64 c, .slice a n p, .bool false], .slice au m pu] w fun r w' => ∃ a' p', r = .returned (.tuple #[.agg #[.int .i64 c, .slice a' (n + m) p', .bool false], .int .i64 0]) ∧ RdT w' (.slice a' (n + m) p') (l ++ l2) ∧ Below w.heap.size w w' := by
  have hm : m = l2.length := hu.len
  have HN := Lib.hid hl.len
  have HL := Lib.hid hl
  have HU := Lib.hid hu
  have HM := Lib.hid hm
  clear hl hu hm
  go_enter Try.func9, Try.ntmps9
  go_wp2_with fail
  refine (does27_put_ok c a n p l (w.heap.size + 1) au m pu l2 _ h1 h2 h3 (HL.out.below (by (repeat' (first | (with_reducible exact Below.refl _ _) | (with_reducible assumption) | (with_reducible refine Below.drew ?_) | (with_reducible refine Below.alloc ?_ ?_ _) | (with_reducible refine below_more ?_ ?_ _ _) | (with_reducible refine Below.setCell ?_ ?_ _) | (with_reducible refine Below.trans ?_ (Below.mono (by assumption) ?_)))) <;> first | omega | (simp; done) | (simp; omega) | (simp [more_size]; done) | (simp [more_size]; omega))) (by simp) (by simp [go_sem]) hroom HM (Lib.hid (rdF_mk (HU.out.below (by (repeat' (first | (with_reducible exact Below.refl _ _) | (with_reducible assumption) | (with_reducible refine Below.drew ?_) | (with_reducible refine Below.alloc ?_ ?_ _) | (with_reducible refine below_more ?_ ?_ _ _) | (with_reducible refine Below.setCell ?_ ?_ _) | (with_reducible refine Below.trans ?_ (Below.mono (by assumption) ?_)))) <;> first | omega | (simp; done) | (simp; omega) | (simp [more_size]; done) | (simp [more_size]; omega))) HM.out))).mono ?_
  rintro r w1 ⟨a3, p3, rfl, hr, hb⟩
  have kR : w1.heap[w.heap.size + 2]? = some (.cells #[.int .i64 0, .slice none 0 0, .bool false] 26) := block_keep' hb (by (repeat' (first | (with_reducible assumption) | (with_reducible refine hm_new ?_; (first | rfl | (simp; done) | (simp [more_size]; done) | (simp [more_size]; omega))) | (with_reducible refine block_alloc ?_) | (with_reducible refine hm_more ?_) | (with_reducible refine hm_drew ?_))))
  have hB : Below w.heap.size w w1 := by (repeat' (first | (with_reducible exact Below.refl _ _) | (with_reducible assumption) | (with_reducible refine Below.drew ?_) | (with_reducible refine Below.alloc ?_ ?_ _) | (with_reducible refine below_more ?_ ?_ _ _) | (with_reducible refine Below.setCell ?_ ?_ _) | (with_reducible refine Below.trans ?_ (Below.mono (by assumption) ?_)))) <;> first | omega | (simp; done) | (simp; omega) | (simp [more_size]; done) | (simp [more_size]; omega)
  have cR := cell_block kR
  have fR := free_block kR
  have HB := Lib.hid hB
  have HO := Lib.hid (owns_set3 (u0 := .int .i64 c) (u1 := .slice a3 (n + m) p3) (u2 := .bool false) kR (by decide) hr)
  clear hb hB kR hr
  go_wp2
  refine bodyPost_ret ?_ rfl ⟨a3, p3, rfl, ?_, ?_⟩
  · simp [results, Try.results9, go_sem, cR, fR]
  · exact RdF.ofOwnsL HO.out (by rw [List.length_append, HM.out, ← HN.out])
  · have hb := HB.out
    (repeat' (first | (with_reducible exact Below.refl _ _) | (with_reducible assumption) | (with_reducible refine Below.drew ?_) | (with_reducible refine Below.alloc ?_ ?_ _) | (with_reducible refine below_more ?_ ?_ _ _) | (with_reducible refine Below.setCell ?_ ?_ _) | (with_reducible refine Below.trans ?_ (Below.mono (by assumption) ?_)))) <;> first | omega | (simp; done) | (simp; omega) | (simp [more_size]; done) | (simp [more_size]; omega)

set_option maxHeartbeats 2000000 in
theorem close11_shut (c : Int) (a : Option Addr) (n : Nat) (p : Nat) (l : List Lt) (w : World) (h1 : 0 ≤ c) (h2 : c ≤ 64) (h3 : ((n : Nat) : Int) ≤ c) (hl : RdL w (.slice a n p) l) :
    Calls Try.prog 11 #[.agg #[.int .i64 c, .slice a n p, .bool true]] w fun r w' => r = .returned (.tuple #[.agg #[.int .i64 c, .slice a n p, .bool true], .int .i64 52]) ∧ Below w.heap.size w w' := by
  have HL := Lib.hid hl
  have HN := Lib.hid hl.len
  clear hl
  go_enter Try.func11, Try.ntmps11
  go_wp2_with fail
  refine (does27_close_shut c a n p l _ h1 h2 h3 (HL.out.below (by (repeat' (first | (with_reducible exact Below.refl _ _) | (with_reducible assumption) | (with_reducible refine Below.drew ?_) | (with_reducible refine Below.alloc ?_ ?_ _) | (with_reducible refine below_more ?_ ?_ _ _) | (with_reducible refine Below.setCell ?_ ?_ _) | (with_reducible refine Below.trans ?_ (Below.mono (by assumption) ?_)))) <;> first | omega | (simp; done) | (simp; omega) | (simp [more_size]; done) | (simp [more_size]; omega)))).mono ?_
  rintro r w1 ⟨rfl, hb⟩
  have kR : w1.heap[w.heap.size + 1]? = some (.cells #[.int .i64 0, .slice none 0 0, .bool false] 26) := block_keep' hb (by (repeat' (first | (with_reducible assumption) | (with_reducible refine hm_new ?_; (first | rfl | (simp; done) | (simp [more_size]; done) | (simp [more_size]; omega))) | (with_reducible refine block_alloc ?_) | (with_reducible refine hm_more ?_) | (with_reducible refine hm_drew ?_))))
  have hB : Below w.heap.size w w1 := by (repeat' (first | (with_reducible exact Below.refl _ _) | (with_reducible assumption) | (with_reducible refine Below.drew ?_) | (with_reducible refine Below.alloc ?_ ?_ _) | (with_reducible refine below_more ?_ ?_ _ _) | (with_reducible refine Below.setCell ?_ ?_ _) | (with_reducible refine Below.trans ?_ (Below.mono (by assumption) ?_)))) <;> first | omega | (simp; done) | (simp; omega) | (simp [more_size]; done) | (simp [more_size]; omega)
  have cR := cell_block kR
  have fR := free_block kR
  have HB := Lib.hid hB
  
  clear hb hB kR
  go_wp2
  refine bodyPost_ret ?_ rfl ⟨rfl, ?_⟩
  · simp [results, Try.results11, go_sem, cR, fR]
  · have hb := HB.out
    (repeat' (first | (with_reducible exact Below.refl _ _) | (with_reducible assumption) | (with_reducible refine Below.drew ?_) | (with_reducible refine Below.alloc ?_ ?_ _) | (with_reducible refine below_more ?_ ?_ _ _) | (with_reducible refine Below.setCell ?_ ?_ _) | (with_reducible refine Below.trans ?_ (Below.mono (by assumption) ?_)))) <;> first | omega | (simp; done) | (simp; omega) | (simp [more_size]; done) | (simp [more_size]; omega)

set_option maxHeartbeats 2000000 in
theorem close11_open (c : Int) (a : Option Addr) (n : Nat) (p : Nat) (l : List Lt) (w : World) (h1 : 0 ≤ c) (h2 : c ≤ 64) (h3 : ((n : Nat) : Int) ≤ c) (hl : RdL w (.slice a n p) l) :
    Calls Try.prog 11 #[.agg #[.int .i64 c, .slice a n p, .bool false]] w fun r w' => ∃ a' p', r = .returned (.tuple #[.agg #[.int .i64 c, .slice a' n p', .bool true], .int .i64 0]) ∧ RdT w' (.slice a' n p') l ∧ Below w.heap.size w w' := by
  have HL := Lib.hid hl
  have HN := Lib.hid hl.len
  clear hl
  go_enter Try.func11, Try.ntmps11
  go_wp2_with fail
  refine (does27_close_open c a n p l _ h1 h2 h3 (HL.out.below (by (repeat' (first | (with_reducible exact Below.refl _ _) | (with_reducible assumption) | (with_reducible refine Below.drew ?_) | (with_reducible refine Below.alloc ?_ ?_ _) | (with_reducible refine below_more ?_ ?_ _ _) | (with_reducible refine Below.setCell ?_ ?_ _) | (with_reducible refine Below.trans ?_ (Below.mono (by assumption) ?_)))) <;> first | omega | (simp; done) | (simp; omega) | (simp [more_size]; done) | (simp [more_size]; omega)))).mono ?_
  rintro r w1 ⟨a3, p3, rfl, hr, hb⟩
  have kR : w1.heap[w.heap.size + 1]? = some (.cells #[.int .i64 0, .slice none 0 0, .bool false] 26) := block_keep' hb (by (repeat' (first | (with_reducible assumption) | (with_reducible refine hm_new ?_; (first | rfl | (simp; done) | (simp [more_size]; done) | (simp [more_size]; omega))) | (with_reducible refine block_alloc ?_) | (with_reducible refine hm_more ?_) | (with_reducible refine hm_drew ?_))))
  have hB : Below w.heap.size w w1 := by (repeat' (first | (with_reducible exact Below.refl _ _) | (with_reducible assumption) | (with_reducible refine Below.drew ?_) | (with_reducible refine Below.alloc ?_ ?_ _) | (with_reducible refine below_more ?_ ?_ _ _) | (with_reducible refine Below.setCell ?_ ?_ _) | (with_reducible refine Below.trans ?_ (Below.mono (by assumption) ?_)))) <;> first | omega | (simp; done) | (simp; omega) | (simp [more_size]; done) | (simp [more_size]; omega)
  have cR := cell_block kR
  have fR := free_block kR
  have HB := Lib.hid hB
  have HO := Lib.hid (owns_set3 (u0 := .int .i64 c) (u1 := .slice a3 n p3) (u2 := .bool true) kR (by decide) hr)
  clear hr
  clear hb hB kR
  go_wp2
  refine bodyPost_ret ?_ rfl ⟨a3, p3, rfl, ?_, ?_⟩
  · simp [results, Try.results11, go_sem, cR, fR]
  · exact RdF.ofOwnsL HO.out HN.out.symm
  · have hb := HB.out
    (repeat' (first | (with_reducible exact Below.refl _ _) | (with_reducible assumption) | (with_reducible refine Below.drew ?_) | (with_reducible refine Below.alloc ?_ ?_ _) | (with_reducible refine below_more ?_ ?_ _ _) | (with_reducible refine Below.setCell ?_ ?_ _) | (with_reducible refine Below.trans ?_ (Below.mono (by assumption) ?_)))) <;> first | omega | (simp; done) | (simp; omega) | (simp [more_size]; done) | (simp [more_size]; omega)

set_option maxHeartbeats 2000000 in
theorem take10_empty (c : Int) (a : Option Addr) (p : Nat) (w : World) (h1 : 0 ≤ c) (h2 : c ≤ 64) (h3 : ((0 : Nat) : Int) ≤ c) (hl : RdL w (.slice a 0 p) []) :
    Calls Try.prog 10 #[.agg #[.int .i64 c, .slice a 0 p, .bool false]] w fun r w' => r = .returned (.tuple #[.agg #[.int .i8 0, .int .i64 0, .int .i64 0, .int .i64 0, .string ⟨#[]⟩, .int .i64 0], .agg #[.int .i64 c, .slice a 0 p, .bool false], .int .i64 51]) ∧ Below w.heap.size w w' := by
  have HL := Lib.hid hl
  have HN := Lib.hid hl.len
  clear hl
  go_enter Try.func10, Try.ntmps10
  go_wp2_with fail
  refine (does27_take_empty c a p (w.heap.size + 1) _ h1 h2 h3 (HL.out.below (by (repeat' (first | (with_reducible exact Below.refl _ _) | (with_reducible assumption) | (with_reducible refine Below.drew ?_) | (with_reducible refine Below.alloc ?_ ?_ _) | (with_reducible refine below_more ?_ ?_ _ _) | (with_reducible refine Below.setCell ?_ ?_ _) | (with_reducible refine Below.trans ?_ (Below.mono (by assumption) ?_)))) <;> first | omega | (simp; done) | (simp; omega) | (simp [more_size]; done) | (simp [more_size]; omega)))).mono ?_
  rintro r w1 ⟨rfl, hb⟩
  have kM : w1.heap[w.heap.size + 1]? = some (.cells #[.int .i8 0, .int .i64 0, .int .i64 0, .int .i64 0, .string ⟨#[]⟩, .int .i64 0] 32) := block_keep' hb (by (repeat' (first | (with_reducible assumption) | (with_reducible refine hm_new ?_; (first | rfl | (simp; done) | (simp [more_size]; done) | (simp [more_size]; omega))) | (with_reducible refine block_alloc ?_) | (with_reducible refine hm_more ?_) | (with_reducible refine hm_drew ?_))))
  have kR : w1.heap[w.heap.size + 1 + 1]? = some (.cells #[.int .i64 0, .slice none 0 0, .bool false] 26) := block_keep' hb (by (repeat' (first | (with_reducible assumption) | (with_reducible refine hm_new ?_; (first | rfl | (simp; done) | (simp [more_size]; done) | (simp [more_size]; omega))) | (with_reducible refine block_alloc ?_) | (with_reducible refine hm_more ?_) | (with_reducible refine hm_drew ?_))))
  have oM := block_lt kM
  have oR := block_lt kR
  have cR := cell_block kR
  have fR := free_block kR
  have cM := cell_block kM
  have fM := free_block kM
  have HKM := Lib.hid kM
  have HKR := Lib.hid kR
  have hB : Below w.heap.size w w1 := by (repeat' (first | (with_reducible exact Below.refl _ _) | (with_reducible assumption) | (with_reducible refine Below.drew ?_) | (with_reducible refine Below.alloc ?_ ?_ _) | (with_reducible refine below_more ?_ ?_ _ _) | (with_reducible refine Below.setCell ?_ ?_ _) | (with_reducible refine Below.trans ?_ (Below.mono (by assumption) ?_)))) <;> first | omega | (simp; done) | (simp; omega) | (simp [more_size]; done) | (simp [more_size]; omega)
  have HB := Lib.hid hB
  clear kR kM hb hB
  go_wp2
  go_region_law (fail)
  all_goals
    obtain ⟨U, eU, kR, kM, kX, sU, oU, tU, pU, rU⟩ := handed HKR.out HKM.out (by omega) (.int .i64 c) (.slice a 0 p) (.bool false) (.int .i8 0) (.int .i64 0) (.int .i64 0) (.int .i64 0) (.string ⟨#[]⟩) (.int .i64 0)
    rw [eU]
    have cR := cell_block kR
    have cM := cell_block kM
    have HBU : Hid (Below w.heap.size w U) := Lib.hid ⟨oU.trans HB.out.os, tU.trans HB.out.tape, pU.trans HB.out.output, by rw [sU]; exact HB.out.size, fun i hi => (kX i (by omega) (by omega)).trans (HB.out.block i hi)⟩
    clear eU kR kM kX sU oU tU pU rU
    go_wp2
    refine bodyPost_ret ?_ rfl ⟨rfl, ?_⟩
    · simp [results, Try.results10, go_sem, cR, cM]
    · exact HBU.out

set_option maxHeartbeats 2000000 in
theorem take10_shut (c : Int) (a : Option Addr) (p : Nat) (w : World) (h1 : 0 ≤ c) (h2 : c ≤ 64) (h3 : ((0 : Nat) : Int) ≤ c) (hl : RdL w (.slice a 0 p) []) :
    Calls Try.prog 10 #[.agg #[.int .i64 c, .slice a 0 p, .bool true]] w fun r w' => ∃ a' p', r = .returned (.tuple #[.agg #[.int .i8 0, .int .i64 0, .int .i64 0, .int .i64 0, .string ⟨#[]⟩, .int .i64 0], .agg #[.int .i64 c, .slice a' 0 p', .bool true], .int .i64 0]) ∧ RdT w' (.slice a' 0 p') [] ∧ Below w.heap.size w w' := by
  have HL := Lib.hid hl
  have HN := Lib.hid hl.len
  clear hl
  go_enter Try.func10, Try.ntmps10
  go_wp2_with fail
  refine (does27_take_shut c a p (w.heap.size + 1) _ h1 h2 h3 (HL.out.below (by (repeat' (first | (with_reducible exact Below.refl _ _) | (with_reducible assumption) | (with_reducible refine Below.drew ?_) | (with_reducible refine Below.alloc ?_ ?_ _) | (with_reducible refine below_more ?_ ?_ _ _) | (with_reducible refine Below.setCell ?_ ?_ _) | (with_reducible refine Below.trans ?_ (Below.mono (by assumption) ?_)))) <;> first | omega | (simp; done) | (simp; omega) | (simp [more_size]; done) | (simp [more_size]; omega)))).mono ?_
  rintro r w1 ⟨a3, p3, rfl, hr, hb⟩
  have kM : w1.heap[w.heap.size + 1]? = some (.cells #[.int .i8 0, .int .i64 0, .int .i64 0, .int .i64 0, .string ⟨#[]⟩, .int .i64 0] 32) := block_keep' hb (by (repeat' (first | (with_reducible assumption) | (with_reducible refine hm_new ?_; (first | rfl | (simp; done) | (simp [more_size]; done) | (simp [more_size]; omega))) | (with_reducible refine block_alloc ?_) | (with_reducible refine hm_more ?_) | (with_reducible refine hm_drew ?_))))
  have kR : w1.heap[w.heap.size + 1 + 1]? = some (.cells #[.int .i64 0, .slice none 0 0, .bool false] 26) := block_keep' hb (by (repeat' (first | (with_reducible assumption) | (with_reducible refine hm_new ?_; (first | rfl | (simp; done) | (simp [more_size]; done) | (simp [more_size]; omega))) | (with_reducible refine block_alloc ?_) | (with_reducible refine hm_more ?_) | (with_reducible refine hm_drew ?_))))
  have oM := block_lt kM
  have oR := block_lt kR
  have cR := cell_block kR
  have fR := free_block kR
  have cM := cell_block kM
  have fM := free_block kM
  have HKM := Lib.hid kM
  have HKR := Lib.hid kR
  have hB : Below w.heap.size w w1 := by (repeat' (first | (with_reducible exact Below.refl _ _) | (with_reducible assumption) | (with_reducible refine Below.drew ?_) | (with_reducible refine Below.alloc ?_ ?_ _) | (with_reducible refine below_more ?_ ?_ _ _) | (with_reducible refine Below.setCell ?_ ?_ _) | (with_reducible refine Below.trans ?_ (Below.mono (by assumption) ?_)))) <;> first | omega | (simp; done) | (simp; omega) | (simp [more_size]; done) | (simp [more_size]; omega)
  have HB := Lib.hid hB
  have HR := Lib.hid hr
  clear kR kM hb hB hr
  go_wp2
  go_region_law (fail)
  all_goals
    obtain ⟨U, eU, kR, kM, kX, sU, oU, tU, pU, rU⟩ := handed HKR.out HKM.out (by omega) (.int .i64 c) (.slice a3 0 p3) (.bool true) (.int .i8 0) (.int .i64 0) (.int .i64 0) (.int .i64 0) (.string ⟨#[]⟩) (.int .i64 0)
    rw [eU]
    have cR := cell_block kR
    have cM := cell_block kM
    have HBU : Hid (Below w.heap.size w U) := Lib.hid ⟨oU.trans HB.out.os, tU.trans HB.out.tape, pU.trans HB.out.output, by rw [sU]; exact HB.out.size, fun i hi => (kX i (by omega) (by omega)).trans (HB.out.block i hi)⟩
    clear eU kR kM kX sU oU tU pU rU
    go_wp2
    refine bodyPost_ret ?_ rfl ⟨a3, p3, rfl, ?_, ?_⟩
    · simp [results, Try.results10, go_sem, cR, cM]
    · exact RdT.nil0 (RdF.any0 HR.out)
    · exact HBU.out

set_option maxHeartbeats 2000000 in
theorem take10_some (c : Int) (a : Option Addr) (n : Nat) (p : Nat) (l : List Lt) (x : Lt) (b : Bool) (w : World) (h1 : 0 ≤ c) (h2 : c ≤ 64) (h3 : ((n : Nat) : Int) ≤ c) (hl : RdL w (.slice a n p) (x :: l)) :
    Calls Try.prog 10 #[.agg #[.int .i64 c, .slice a n p, .bool b]] w fun r w' => ∃ a' p', r = .returned (.tuple #[.agg #[.int .i8 x.k, .int .i64 x.f, .int .i64 x.n, .int .i64 x.s, .string x.t, .int .i64 x.e], .agg #[.int .i64 c, .slice a' (n - 1) p', .bool b], .int .i64 0]) ∧ RdT w' (.slice a' (n - 1) p') l ∧ Below w.heap.size w w' := by
  have HL := Lib.hid hl
  have HN := Lib.hid hl.len
  clear hl
  go_enter Try.func10, Try.ntmps10
  go_wp2_with fail
  refine (does27_take_some c a n p l b (w.heap.size + 1) x _ h1 h2 h3 (HL.out.below (by (repeat' (first | (with_reducible exact Below.refl _ _) | (with_reducible assumption) | (with_reducible refine Below.drew ?_) | (with_reducible refine Below.alloc ?_ ?_ _) | (with_reducible refine below_more ?_ ?_ _ _) | (with_reducible refine Below.setCell ?_ ?_ _) | (with_reducible refine Below.trans ?_ (Below.mono (by assumption) ?_)))) <;> first | omega | (simp; done) | (simp; omega) | (simp [more_size]; done) | (simp [more_size]; omega))) (by (repeat' (first | (with_reducible assumption) | (with_reducible refine hm_new ?_; (first | rfl | (simp; done) | (simp [more_size]; done) | (simp [more_size]; omega))) | (with_reducible refine block_alloc ?_) | (with_reducible refine hm_more ?_) | (with_reducible refine hm_drew ?_))))).mono ?_
  rintro r w1 ⟨a2, p2, rfl, hr, kM, hg⟩
  have kM : w1.heap[w.heap.size + 1]? = some (.cells #[.int .i8 x.k, .int .i64 x.f, .int .i64 x.n, .int .i64 x.s, .string x.t, .int .i64 x.e] 32) := kM
  have kR : w1.heap[w.heap.size + 1 + 1]? = some (.cells #[.int .i64 0, .slice none 0 0, .bool false] 26) := (hg.block _ (by simp) (by simp)).trans (by (repeat' (first | (with_reducible assumption) | (with_reducible refine hm_new ?_; (first | rfl | (simp; done) | (simp [more_size]; done) | (simp [more_size]; omega))) | (with_reducible refine block_alloc ?_) | (with_reducible refine hm_more ?_) | (with_reducible refine hm_drew ?_))))
  have oM := block_lt kM
  have oR := block_lt kR
  have cR := cell_block kR
  have fR := free_block kR
  have cM := cell_block kM
  have fM := free_block kM
  have HKM := Lib.hid kM
  have HKR := Lib.hid kR
  have hB : ∀ i, i < w.heap.size → w1.heap[i]? = w.heap[i]? := fun i hi => (hg.block i (by simp; omega) (by simp; omega)).trans (Below.block (B := w.heap.size) (w := w) (by (repeat' (first | (with_reducible exact Below.refl _ _) | (with_reducible assumption) | (with_reducible refine Below.drew ?_) | (with_reducible refine Below.alloc ?_ ?_ _) | (with_reducible refine below_more ?_ ?_ _ _) | (with_reducible refine Below.setCell ?_ ?_ _) | (with_reducible refine Below.trans ?_ (Below.mono (by assumption) ?_)))) <;> first | omega | (simp; done) | (simp; omega) | (simp [more_size]; done) | (simp [more_size]; omega)) i hi)
  have HS := Lib.hid (show w.heap.size ≤ w1.heap.size from Nat.le_trans (by simp; omega) hg.size)
  have HB := Lib.hid hB
  have HR := Lib.hid hr
  have HO1 := Lib.hid (show w1.os = w.os from hg.os)
  have HT1 := Lib.hid (show w1.tape = w.tape from hg.tape)
  have HP1 := Lib.hid (show w1.output = w.output from hg.output)
  clear hB
  clear kR kM hg hr
  go_wp2
  go_region_law (fail)
  all_goals
    obtain ⟨U, eU, kR, kM, kX, sU, oU, tU, pU, rU⟩ := handed HKR.out HKM.out (by omega) (.int .i64 c) (.slice (cutA a2 1 p2 6) (n - 1) (p2 - 1)) (.bool b) (.int .i8 x.k) (.int .i64 x.f) (.int .i64 x.n) (.int .i64 x.s) (.string x.t) (.int .i64 x.e)
    rw [eU]
    have cR := cell_block kR
    have cM := cell_block kM
    have HBU : Hid (Below w.heap.size w U) := Lib.hid ⟨oU.trans HO1.out, tU.trans HT1.out, pU.trans HP1.out, by rw [sU]; exact HS.out, fun i hi => (kX i (by omega) (by omega)).trans (HB.out i hi)⟩
    have HRU := Lib.hid (rU _ _ _ _ (by simp) (by simp) HR.out)
    clear eU kR kM kX sU oU tU pU rU
    go_wp2
    refine bodyPost_ret ?_ rfl ⟨cutA a2 1 p2 6, p2 - 1, rfl, ?_, ?_⟩
    · simp [results, Try.results10, go_sem, cR, cM]
    · have := HN.out
      simp only [List.length_cons] at this
      exact RdT.cut (RdF.ofOwnsL HRU.out (by simp; omega)) (by omega)
    · exact HBU.out
end Go.Proofs.Ytkffmjcipnlbhaa
