
/- Walks of the seat of chapter 16: what each place does. -/
import Derived.Test.YtfenloempdhknaaT4
namespace Go.Proofs.Ytfenloempdhknaa
open Go.RowKit
attribute [local go_sem ↓] Go.wp_at_zero Go.wp_at_succ
attribute [local go_sem] more_size cell_more_old frozen_more_old setCell_more_old more_drew drew_more old_alloc old_more old_drew old_setCell cell_alloc_old frozen_alloc_old setCell_alloc_old

theorem goes_st {base B : Nat} {x : At} {l : List De} {w : World} (h : Goes base B x l w) (v : Int) : Goes base B { x with st := v } l (w.setCell ⟨B, 14, none⟩ (.int .i8 v)) := by
  obtain ⟨a, n, p, h1, h2, h3⟩ := h
  exact ⟨a, n, p, h1, by simpa using blk_set (i := 14) (v := .int .i8 v) h2, owns_set (i := 14) (u := .int .i8 v) h2 (by decide) h3⟩
theorem goes_sk {base B : Nat} {x : At} {l : List De} {w : World} (h : Goes base B x l w) (v : Int) : Goes base B { x with sk := v } l (w.setCell ⟨B, 15, none⟩ (.int .i64 v)) := by
  obtain ⟨a, n, p, h1, h2, h3⟩ := h
  exact ⟨a, n, p, h1, by simpa using blk_set (i := 15) (v := .int .i64 v) h2, owns_set (i := 15) (u := .int .i64 v) h2 (by decide) h3⟩
theorem Goes.alloc {base B : Nat} {x : At} {l : List De} {w : World} (h : Goes base B x l w) (o : Obj) : Goes base B x l (w.alloc o) := h.below ((Below.refl _ _).alloc (Nat.le_refl _) _)

set_option maxRecDepth 100000 in
set_option maxHeartbeats 2000000 in
theorem dialled20_cut (base B : Nat) (x : At) (l : List De) (m : Lt) (w : World) (hl : l.length ≤ 8) (hg : Goes base B x l w) (hB : base ≤ B) :
    Calls Try.prog 20 #[.pointer (some ⟨B, 0, none⟩), .int .i64 1, .agg #[.int .i8 m.k, .int .i64 m.f, .int .i64 m.n, .int .i64 m.s, .string m.t, .int .i64 m.e]] w (Done base w (Goes base B { x with st := 1 } (l ++ [⟨5, x.id⟩]))) := by
  have HG := Lib.hid hg
  obtain ⟨av, n, p, hn, hk, how⟩ := hg
  have oB := block_lt hk
  have qB : Old w B := oB
  have c := cell_block hk
  have f := free_block hk
  have hbw : base ≤ w.heap.size := by omega
  clear hk how hn
  go_enter Try.func20, Try.ntmps20
  go_wp2_with fail
  refine (does23 base B { x with st := 1 } l 5 x.id _ (by omega) ((goes_st HG.out 1).alloc _) hB).mono ?_
  rintro r w2 ⟨⟨v, rfl⟩, hg, hb⟩
  have G2 := Lib.hid hg
  have B2 := Lib.hid ((((Below.refl base w).setCell (p := ⟨B, 14, none⟩) hB (.int .i8 1)).alloc (by simp only [setCell_size]; exact hbw) _).trans hb)
  clear hg hb c f
  go_wp2_with fail
  refine bodyPost_ret (results_none rfl _ _ _) rfl ?_
  exact ⟨⟨_, rfl⟩, G2.out, B2.out⟩

set_option maxRecDepth 100000 in
set_option maxHeartbeats 2000000 in
theorem dialled20_end (base B : Nat) (x : At) (l : List De) (i : Int) (m : Lt) (w : World) (hl : l.length ≤ 8) (hg : Goes base B x l w) (hB : base ≤ B) (hi : i ≠ 1) (hw : x.ow ≤ 1125899906842624) :
    Calls Try.prog 20 #[.pointer (some ⟨B, 0, none⟩), .int .i64 i, .agg #[.int .i8 m.k, .int .i64 m.f, .int .i64 m.n, .int .i64 m.s, .string m.t, .int .i64 m.e]] w (Done base w (Goes base B { x with st := 2, sk := endV m } (l ++ if m.e = 0 then [] else [⟨3, ofV x.ow 4⟩]))) := by
  have HG := Lib.hid hg
  obtain ⟨av, n, p, hn, hk, how⟩ := hg
  have oB := block_lt hk
  have qB : Old w B := oB
  have HK := Lib.hid hk
  have hbw : base ≤ w.heap.size := by omega
  have e1 : (i == 1) = false := by simp [hi]
  clear hk how hn hi
  by_cases hm : m.e = 0
  · rw [if_pos hm, List.append_nil]
    have e0 : (m.e != 0) = false := by simp [hm]
    clear hm
    have c0 := cell_block HK.out
    have f0 := free_block HK.out
    go_enter Try.func20, Try.ntmps20
    go_wp2_with fail
    refine (end24 m _).mono ?_
    rintro r w1 ⟨rfl, hb⟩
    have hB1 : Below w.heap.size w w1 := by (repeat' (first | (with_reducible exact Below.refl _ _) | (with_reducible assumption) | (with_reducible refine Below.drew ?_) | (with_reducible refine Below.alloc ?_ ?_ _) | (with_reducible refine below_more ?_ ?_ _ _) | (with_reducible refine Below.setCell ?_ ?_ _) | (with_reducible refine Below.trans ?_ (Below.mono (by assumption) ?_)))) <;> first | omega | (simp; done) | (simp; omega) | (simp [more_size]; done) | (simp [more_size]; omega)
    have kM : w1.heap[w.heap.size]? = some (.cells #[.int .i8 m.k, .int .i64 m.f, .int .i64 m.n, .int .i64 m.s, .string m.t, .int .i64 m.e] 36) := block_keep' hb (by (repeat' (first | (with_reducible assumption) | (with_reducible refine hm_new ?_; (first | rfl | (simp; done) | (simp [more_size]; done) | (simp [more_size]; omega))) | (with_reducible refine block_alloc ?_) | (with_reducible refine hm_more ?_) | (with_reducible refine hm_drew ?_))))
    have k1 := block_keep' hB1 HK.out
    have c1 := cell_block k1
    have f1 := free_block k1
    have cM := cell_block kM
    have oM := block_lt kM
    have o1 := block_lt k1
    have q1 : Old w1 B := o1
    have G1 := Lib.hid (goes_sk (goes_st (HG.out.below hB1) 2) (endV m))
    have B1 := Lib.hid (((hB1.mono hbw).setCell (p := ⟨B, 14, none⟩) hB (.int .i8 2)).setCell (p := ⟨B, 15, none⟩) hB (.int .i64 (endV m)))
    clear hb hB1 kM k1 c0 f0
    go_wp2_with fail
    refine bodyPost_ret (results_none rfl _ _ _) rfl ?_
    exact ⟨⟨_, rfl⟩, G1.out, B1.out⟩
  · rw [if_neg hm]
    have e0 : (m.e != 0) = true := by simp [hm]
    clear hm
    have c0 := cell_block HK.out
    have f0 := free_block HK.out
    go_enter Try.func20, Try.ntmps20
    go_wp2_with fail
    refine (end24 m _).mono ?_
    rintro r w1 ⟨rfl, hb⟩
    have hB1 : Below w.heap.size w w1 := by (repeat' (first | (with_reducible exact Below.refl _ _) | (with_reducible assumption) | (with_reducible refine Below.drew ?_) | (with_reducible refine Below.alloc ?_ ?_ _) | (with_reducible refine below_more ?_ ?_ _ _) | (with_reducible refine Below.setCell ?_ ?_ _) | (with_reducible refine Below.trans ?_ (Below.mono (by assumption) ?_)))) <;> first | omega | (simp; done) | (simp; omega) | (simp [more_size]; done) | (simp [more_size]; omega)
    have kM : w1.heap[w.heap.size]? = some (.cells #[.int .i8 m.k, .int .i64 m.f, .int .i64 m.n, .int .i64 m.s, .string m.t, .int .i64 m.e] 36) := block_keep' hb (by (repeat' (first | (with_reducible assumption) | (with_reducible refine hm_new ?_; (first | rfl | (simp; done) | (simp [more_size]; done) | (simp [more_size]; omega))) | (with_reducible refine block_alloc ?_) | (with_reducible refine hm_more ?_) | (with_reducible refine hm_drew ?_))))
    have k1 := block_keep' hB1 HK.out
    have c1 := cell_block k1
    have f1 := free_block k1
    have cM := cell_block kM
    have oM := block_lt kM
    have o1 := block_lt k1
    have q1 : Old w1 B := o1
    have G1 := Lib.hid (goes_sk (goes_st (HG.out.below hB1) 2) (endV m))
    have B1 := Lib.hid (((hB1.mono hbw).setCell (p := ⟨B, 14, none⟩) hB (.int .i8 2)).setCell (p := ⟨B, 15, none⟩) hB (.int .i64 (endV m)))
    clear hb hB1 kM k1 c0 f0
    go_wp2_with fail
    refine (back25 base B { x with st := 2, sk := endV m } l _ (by omega) G1.out hB hw).mono ?_
    rintro r w2 ⟨⟨v, rfl⟩, hg, hb⟩
    have G2 := Lib.hid hg
    have B2 := Lib.hid (B1.out.trans hb)
    clear hg hb c1 f1 cM
    go_wp2_with fail
    refine bodyPost_ret (results_none rfl _ _ _) rfl ?_
    exact ⟨⟨_, rfl⟩, G2.out, B2.out⟩

set_option maxRecDepth 100000 in
set_option maxHeartbeats 2000000 in
theorem aborted21 (base B : Nat) (x : At) (l : List De) (i : Int) (m : Lt) (w : World) (hl : l.length ≤ 8) (hg : Goes base B x l w) (hB : base ≤ B) (hw : x.ow ≤ 1125899906842624) :
    Calls Try.prog 21 #[.pointer (some ⟨B, 0, none⟩), .int .i64 i, .agg #[.int .i8 m.k, .int .i64 m.f, .int .i64 m.n, .int .i64 m.s, .string m.t, .int .i64 m.e]] w (Done base w (Goes base B { x with st := 3 } (l ++ dropL (endV m) ++ [⟨3, ofV x.ow 4⟩]))) := by
  have HG := Lib.hid hg
  obtain ⟨av, n, p, hn, hk, how⟩ := hg
  have oB := block_lt hk
  have qB : Old w B := oB
  have hbw : base ≤ w.heap.size := by omega
  have c0 := cell_block hk
  have f0 := free_block hk
  clear hk how hn
  go_enter Try.func21, Try.ntmps21
  go_wp2_with fail
  refine (end24 m _).mono ?_
  rintro r w1 ⟨rfl, hb⟩
  have G1 := Lib.hid (((goes_st HG.out 3).alloc (.cells #[.int .i8 m.k, .int .i64 m.f, .int .i64 m.n, .int .i64 m.s, .string m.t, .int .i64 m.e] 36)).below hb)
  have hb1 : Below base w w1 := (((Below.refl base w).setCell (p := ⟨B, 14, none⟩) hB (.int .i8 3)).alloc (by simp only [setCell_size]; exact hbw) _).trans (hb.mono (by simp; omega))
  have B1 := Lib.hid hb1
  clear hb hb1 c0 f0
  go_wp2_with fail
  refine (drops26 base B { x with st := 3 } l (endV m) _ (by omega) G1.out hB).mono ?_
  rintro r w2 ⟨⟨v, rfl⟩, hg, hb⟩
  have G2 := Lib.hid hg
  have B2 := Lib.hid (B1.out.trans hb)
  have hlen : (l ++ dropL (endV m)).length ≤ 10 := by
    rw [List.length_append]
    have : (dropL (endV m)).length ≤ 1 := by unfold dropL; split <;> simp
    omega
  clear hg hb
  go_wp2_with fail
  refine (back25 base B { x with st := 3 } (l ++ dropL (endV m)) _ hlen G2.out hB hw).mono ?_
  rintro r w3 ⟨⟨v, rfl⟩, hg, hb⟩
  have G3 := Lib.hid hg
  have B3 := Lib.hid (B2.out.trans hb)
  clear hg hb
  go_wp2_with fail
  refine bodyPost_ret (results_none rfl _ _ _) rfl ?_
  exact ⟨⟨_, rfl⟩, G3.out, B3.out⟩

set_option maxRecDepth 100000 in
set_option maxHeartbeats 2000000 in
theorem told22_drop (base B : Nat) (x : At) (l : List De) (m : Lt) (w : World) (hl : l.length ≤ 8) (hg : Goes base B x l w) (hB : base ≤ B) (hs : 0 ≤ x.sk) (hw : x.ow ≤ 1125899906842624) :
    Calls Try.prog 22 #[.pointer (some ⟨B, 0, none⟩), .int .i64 1, .agg #[.int .i8 m.k, .int .i64 m.f, .int .i64 m.n, .int .i64 m.s, .string m.t, .int .i64 m.e]] w (Done base w (Goes base B { x with st := 3 } (l ++ [⟨6, x.sk⟩] ++ [⟨3, ofV x.ow 4⟩]))) := by
  have HG := Lib.hid hg
  obtain ⟨av, n, p, hn, hk, how⟩ := hg
  have oB := block_lt hk
  have qB : Old w B := oB
  have hbw : base ≤ w.heap.size := by omega
  have c0 := cell_block hk
  have f0 := free_block hk
  clear hk how hn
  go_enter Try.func22, Try.ntmps22
  go_wp2_with fail
  refine (drops26_some base B { x with st := 3 } l x.sk _ (by omega) ((goes_st HG.out 3).alloc _) hB hs).mono ?_
  rintro r w2 ⟨⟨v, rfl⟩, hg, hb⟩
  have G2 := Lib.hid hg
  have B2 := Lib.hid ((((Below.refl base w).setCell (p := ⟨B, 14, none⟩) hB (.int .i8 3)).alloc (by simp only [setCell_size]; exact hbw) _).trans hb)
  have hlen : (l ++ [(⟨6, x.sk⟩ : De)]).length ≤ 10 := by simp; omega
  clear hg hb c0 f0
  go_wp2_with fail
  refine (back25 base B { x with st := 3 } (l ++ [⟨6, x.sk⟩]) _ hlen G2.out hB hw).mono ?_
  rintro r w3 ⟨⟨v, rfl⟩, hg, hb⟩
  have G3 := Lib.hid hg
  have B3 := Lib.hid (B2.out.trans hb)
  clear hg hb
  go_wp2_with fail
  refine bodyPost_ret (results_none rfl _ _ _) rfl ?_
  exact ⟨⟨_, rfl⟩, G3.out, B3.out⟩
set_option maxRecDepth 100000 in
set_option maxHeartbeats 2000000 in
theorem told22_else (base B : Nat) (x : At) (l : List De) (i : Int) (m : Lt) (w : World) (hl : l.length ≤ 8) (hg : Goes base B x l w) (hB : base ≤ B) (hs : i ≠ 1 ∨ (i = 1 ∧ x.sk < 0)) :
    Calls Try.prog 22 #[.pointer (some ⟨B, 0, none⟩), .int .i64 i, .agg #[.int .i8 m.k, .int .i64 m.f, .int .i64 m.n, .int .i64 m.s, .string m.t, .int .i64 m.e]] w (Done base w (Goes base B { x with st := 3 } l)) := by
  have HG := Lib.hid hg
  obtain ⟨av, n, p, hn, hk, how⟩ := hg
  have oB := block_lt hk
  have qB : Old w B := oB
  have hbw : base ≤ w.heap.size := by omega
  have c0 := cell_block hk
  have f0 := free_block hk
  clear hk how hn
  rcases hs with hs | ⟨rfl, hs⟩
  · have e1 : (i == 1) = false := by simp [hs]
    clear hs
    go_enter Try.func22, Try.ntmps22
    go_wp2_with fail
    refine bodyPost_ret (results_none rfl _ _ _) rfl ?_
    exact ⟨⟨_, rfl⟩, (goes_st HG.out 3).alloc _, ((Below.refl base w).setCell (p := ⟨B, 14, none⟩) hB (.int .i8 3)).alloc (by simp only [setCell_size]; exact hbw) _⟩
  · have hd : decide (0 ≤ x.sk) = false := by simp; omega
    go_enter Try.func22, Try.ntmps22
    go_wp2_with fail
    refine bodyPost_ret (results_none rfl _ _ _) rfl ?_
    exact ⟨⟨_, rfl⟩, (goes_st HG.out 3).alloc _, ((Below.refl base w).setCell (p := ⟨B, 14, none⟩) hB (.int .i8 3)).alloc (by simp only [setCell_size]; exact hbw) _⟩
end Go.Proofs.Ytfenloempdhknaa
