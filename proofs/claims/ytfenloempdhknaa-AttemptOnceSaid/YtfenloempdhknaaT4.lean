
/- Walks of the seat of chapter 16: what an attempt that goes on does. -/
import Derived.Test.YtfenloempdhknaaT3
namespace Go.Proofs.Ytfenloempdhknaa
open Go.RowKit
attribute [local go_sem ↓] Go.wp_at_zero Go.wp_at_succ
attribute [local go_sem] more_size cell_more_old frozen_more_old setCell_more_old more_drew drew_more old_alloc old_more old_drew old_setCell cell_alloc_old frozen_alloc_old setCell_alloc_old

theorem info39 : (Try.prog.info? 39).map (fun i => (i.zero, i.size, i.bytes)) = some (some (.agg #[.int .i8 0, .int .i64 0, .int .i8 0, .int .i64 0, .int .i64 0, .int .i64 0, .string ⟨#[]⟩, .int .i64 0, .int .i8 0, .int .u16 0, .int .u16 0, .int .u16 0, .int .u16 0, .int .u16 0, .int .u16 0, .int .u16 0, .int .u16 0, .int .i64 0, .pointer none]), 19, 112) := by kernel_rfl
theorem grown_blk {w w3 : World} {B : Nat} {o : Obj} {row : Option Nat} (h : w.heap[B]? = some o) (hg : w.grownBy w3 row) (hne : some B ≠ row) : w3.heap[B]? = some o := (hg.block B (block_lt h) hne).trans h
theorem not_row {w : World} {B : Nat} {cs : Array Value} {t e : TypeId} {fr : Nat × Nat} (h : w.heap[B]? = some (.cells cs t fr)) (hte : t ≠ e) {base size k : Nat} {v : Value} {xs : List Value} (hr : w.ownsRow base e size v k xs) : some B ≠ v.ownBlock := by
  rcases hr.2 with ⟨rfl, _⟩ | ⟨g, cap, cur, rfl, _, hgb, _⟩
  · simp [Value.ownBlock]
  · intro e'
    obtain rfl : B = g := by simpa [Value.ownBlock] using e'
    have := h.symm.trans hgb
    simp at this
    exact hte this.2.1
theorem grownBy_set (W : World) (b i : Nat) (v : Value) : W.grownBy (W.setCell ⟨b, i, none⟩ v) (some b) :=
  ⟨rfl, rfl, rfl, by rw [setCell_size]; exact Nat.le_refl _, fun k _ hk => Below.heap_setCell _ _ _ k (fun e => hk (by rw [e]))⟩
theorem owns_set {w : World} {B i : Nat} {cs : Array Value} {t e : TypeId} {fr : Nat × Nat} {u : Value} (h : w.heap[B]? = some (.cells cs t fr)) (hte : t ≠ e) {base size k : Nat} {v : Value} {xs : List Value} (hr : w.ownsRow base e size v k xs) :
    (w.setCell ⟨B, i, none⟩ u).ownsRow base e size v k xs := hr.kept (grownBy_set w B i u) (.inr (not_row h hte hr).symm)

/-- Where an attempt that goes on stands: its cells, and what it has done. -/
def Goes (base B : Nat) (x : At) (l : List De) (w : World) : Prop :=
  ∃ (a : Option Addr) (n p : Nat), n = l.length ∧ w.heap[B]? = some (.cells #[.int .i64 x.id, .int .i64 x.rc, .int .i64 x.ow, .int .i64 x.n, .int .i8 x.f, .int .u16 x.g0, .int .u16 x.g1, .int .u16 x.g2, .int .u16 x.g3, .int .u16 x.g4, .int .u16 x.g5, .int .u16 x.g6, .int .u16 x.g7, .int .i64 x.p, .int .i8 x.st, .int .i64 x.sk, .slice a n p] 61) ∧ w.ownsRow base 39 19 (.slice a n p) n (deCells l)
def Done (base : Nat) (w : World) (F : World → Prop) (r : Ending) (w' : World) : Prop := (∃ v, r = .returned v) ∧ F w' ∧ Below base w w'
theorem rdD_of {w : World} {base n p : Nat} {a : Option Addr} {l : List De} (hn : n = l.length) (h : w.ownsRow base 39 19 (.slice a n p) n (deCells l)) : RdD w (.slice a n p) l := by
  subst hn; exact RdF.of_owns h

set_option maxRecDepth 100000 in
set_option maxHeartbeats 2000000 in
theorem does23 (base B : Nat) (x : At) (l : List De) (kd a : Int) (w : World) (hl : l.length ≤ 10) (hg : Goes base B x l w) (hB : base ≤ B) :
    Calls Try.prog 23 #[.pointer (some ⟨B, 0, none⟩), .int .i8 kd, .int .i64 a] w (Done base w (Goes base B x (l ++ [⟨kd, a⟩]))) := by
  obtain ⟨av, n, p, hn, hk, how⟩ := hg
  obtain ⟨i0, hi, hz0, hz1, hz2⟩ := info_parts info39
  have HK := Lib.hid hk
  have HO := Lib.hid how
  have HN := Lib.hid hn
  have oB := block_lt hk
  have c := cell_block hk
  have hbase : base ≤ w.heap.size := by omega
  have hn10 : n ≤ 10 := by omega
  clear hk how hn
  go_enter Try.func23, Try.ntmps23
  go_wp2_with (first
    | (at_builtin; refine wpList_append_own _ rfl (.tmp 10) (.tmp 14) 31 rfl base 39 i0 (.agg #[.int .i8 0, .int .i64 0, .int .i8 0, .int .i64 0, .int .i64 0, .int .i64 0, .string ⟨#[]⟩, .int .i64 0, .int .i8 0, .int .u16 0, .int .u16 0, .int .u16 0, .int .u16 0, .int .u16 0, .int .u16 0, .int .u16 0, .int .u16 0, .int .i64 0, .pointer none]) 19 112 Try.underlying31 hi hz0 hz1 hz2 rfl (by decide) (.slice av n p) n (deCells l) rfl (HO.out.alloc _) ⟨w.heap.size, 0, none⟩ 1 1 (deCells [⟨kd, a⟩]) rfl rfl (news_alloc w (deCells [⟨kd, a⟩]) 39) (deCells_one [⟨kd, a⟩]) ?c3 ?c4 ?c5 ?_))
  case c3 => unfold maxLen; omega
  case c4 => omega
  case c5 => simp; omega
  intro v' w1 hown' hgrow _
  obtain ⟨a', p', rfl⟩ := (RdF.of_owns hown').shape
  have kA := block_alloc (x := .cells (deCells [⟨kd, a⟩]).toArray 39) HK.out
  have oA := HO.out.alloc (.cells (deCells [⟨kd, a⟩]).toArray 39)
  have k1 := grown_blk kA hgrow (not_row kA (by decide) oA)
  have c1 := cell_block k1
  have f1 := free_block k1
  have o1 := block_lt k1
  have hb1 : Below base w w1 := ((Below.refl base w).alloc hbase _).grown hgrow (by simp; omega) (fun j hj => ownBlock_ge HO.out hj)
  have K2 : Hid ((w1.setCell ⟨B, 16, none⟩ (.slice a' (n + 1) p')).heap[B]? = some (.cells #[.int .i64 x.id, .int .i64 x.rc, .int .i64 x.ow, .int .i64 x.n, .int .i8 x.f, .int .u16 x.g0, .int .u16 x.g1, .int .u16 x.g2, .int .u16 x.g3, .int .u16 x.g4, .int .u16 x.g5, .int .u16 x.g6, .int .u16 x.g7, .int .i64 x.p, .int .i8 x.st, .int .i64 x.sk, .slice a' (n + 1) p'] 61)) := Lib.hid (by simpa using blk_set (i := 16) (v := .slice a' (n + 1) p') k1)
  have O2 := Lib.hid (owns_set (i := 16) (u := .slice a' (n + 1) p') k1 (by decide) hown')
  have B2 := Lib.hid (hb1.setCell (p := ⟨B, 16, none⟩) hB (.slice a' (n + 1) p'))
  clear kA oA k1 hown' hgrow hb1 c
  go_wp2_with fail
  refine bodyPost_ret (results_none rfl _ _ _) rfl ?_
  exact ⟨⟨_, rfl⟩, ⟨a', n + 1, p', by rw [List.length_append, ← HN.out]; rfl, K2.out, by rw [deCells_app]; exact O2.out⟩, B2.out⟩

theorem Goes.below {base B : Nat} {x : At} {l : List De} {w w' : World} (h : Goes base B x l w) (hb : Below w.heap.size w w') : Goes base B x l w' := by
  obtain ⟨a, n, p, h1, h2, h3⟩ := h
  exact ⟨a, n, p, h1, block_keep' hb h2, owns_below h3 hb⟩
theorem done_trans {base : Nat} {w0 w1 : World} {F : World → Prop} {r : Ending} {w' : World} (hb : Below base w0 w1) (h : Done base w1 F r w') : Done base w0 F r w' := ⟨h.1, h.2.1, hb.trans h.2.2⟩

set_option maxRecDepth 100000 in
set_option maxHeartbeats 2000000 in
theorem back25 (base B : Nat) (x : At) (l : List De) (w : World) (hl : l.length ≤ 10) (hg : Goes base B x l w) (hB : base ≤ B) (hw : x.ow ≤ 1125899906842624) :
    Calls Try.prog 25 #[.pointer (some ⟨B, 0, none⟩)] w (Done base w (Goes base B x (l ++ [⟨3, ofV x.ow 4⟩]))) := by
  have HG := Lib.hid hg
  obtain ⟨av, n, p, hn, hk, how⟩ := hg
  have oB := block_lt hk
  have c := cell_block hk
  clear hk how hn
  go_enter Try.func25, Try.ntmps25
  go_wp2_with fail
  refine (of17 x.ow 4 _ (by decide) (by decide) hw).mono ?_
  rintro r w1 ⟨rfl, rfl⟩
  go_wp2_with fail
  refine (does23 base B x l 3 (ofV x.ow 4) _ hl HG.out hB).mono ?_
  rintro r w2 ⟨⟨v, rfl⟩, hg, hb⟩
  have G2 := Lib.hid hg
  clear hg c
  go_wp2_with fail
  refine bodyPost_ret (results_none rfl _ _ _) rfl ?_
  exact ⟨⟨_, rfl⟩, G2.out, hb⟩

set_option maxRecDepth 100000 in
set_option maxHeartbeats 2000000 in
theorem drops26_some (base B : Nat) (x : At) (l : List De) (sk : Int) (w : World) (hl : l.length ≤ 10) (hg : Goes base B x l w) (hB : base ≤ B) (hs : 0 ≤ sk) :
    Calls Try.prog 26 #[.pointer (some ⟨B, 0, none⟩), .int .i64 sk] w (Done base w (Goes base B x (l ++ [⟨6, sk⟩]))) := by
  have HG := Lib.hid hg
  clear hg
  go_enter Try.func26, Try.ntmps26
  go_wp2_with fail
  refine (does23 base B x l 6 sk _ hl HG.out hB).mono ?_
  rintro r w2 ⟨⟨v, rfl⟩, hg, hb⟩
  have G2 := Lib.hid hg
  clear hg
  go_wp2_with fail
  refine bodyPost_ret (results_none rfl _ _ _) rfl ?_
  exact ⟨⟨_, rfl⟩, G2.out, hb⟩
theorem drops26_none (base B : Nat) (x : At) (l : List De) (sk : Int) (w : World) (hg : Goes base B x l w) (hs : sk < 0) :
    Calls Try.prog 26 #[.pointer (some ⟨B, 0, none⟩), .int .i64 sk] w (Done base w (Goes base B x l)) := by
  have HG := Lib.hid hg
  have hd : decide (0 ≤ sk) = false := by simp; omega
  clear hg
  go_enter Try.func26, Try.ntmps26
  go_wp2_with fail
  refine bodyPost_ret (results_none rfl _ _ _) rfl ?_
  exact ⟨⟨_, rfl⟩, HG.out, Below.refl _ _⟩
/-- What is done with a socket, if there is one. -/
def dropL (sk : Int) : List De := if 0 ≤ sk then [⟨6, sk⟩] else []
theorem drops26 (base B : Nat) (x : At) (l : List De) (sk : Int) (w : World) (hl : l.length ≤ 10) (hg : Goes base B x l w) (hB : base ≤ B) :
    Calls Try.prog 26 #[.pointer (some ⟨B, 0, none⟩), .int .i64 sk] w (Done base w (Goes base B x (l ++ dropL sk))) := by
  by_cases h : 0 ≤ sk
  · rw [dropL, if_pos h]; exact drops26_some base B x l sk w hl hg hB h
  · rw [dropL, if_neg h, List.append_nil]; exact drops26_none base B x l sk w hg (by omega)

/-- A dial's end. -/
def endV (m : Lt) : Int := if m.e = 0 then m.s else -1
set_option maxHeartbeats 400000 in
theorem end24 (m : Lt) (w : World) : Calls Try.prog 24 #[.agg #[.int .i8 m.k, .int .i64 m.f, .int .i64 m.n, .int .i64 m.s, .string m.t, .int .i64 m.e]] w fun r w' => r = .returned (.int .i64 (endV m)) ∧ Below w.heap.size w w' := by
  by_cases h : m.e = 0
  · have E : Hid (endV m = m.s) := Lib.hid (by rw [endV, if_pos h])
    go_enter Try.func24, Try.ntmps24
    go_wp2
    go_ret
    exact ⟨by rw [E.out]; rfl, by (repeat' (first | (with_reducible exact Below.refl _ _) | (with_reducible assumption) | (with_reducible refine Below.drew ?_) | (with_reducible refine Below.alloc ?_ ?_ _) | (with_reducible refine below_more ?_ ?_ _ _) | (with_reducible refine Below.setCell ?_ ?_ _) | (with_reducible refine Below.trans ?_ (Below.mono (by assumption) ?_)))) <;> first | omega | (simp; done) | (simp; omega) | (simp [more_size]; done) | (simp [more_size]; omega)⟩
  · have E : Hid (endV m = -1) := Lib.hid (by rw [endV, if_neg h])
    have e0 : (m.e != 0) = true := by simp [h]
    have e1 : (m.e == 0) = false := by simp [h]
    clear h
    go_enter Try.func24, Try.ntmps24
    go_wp2
    go_ret
    exact ⟨by rw [E.out]; rfl, by (repeat' (first | (with_reducible exact Below.refl _ _) | (with_reducible assumption) | (with_reducible refine Below.drew ?_) | (with_reducible refine Below.alloc ?_ ?_ _) | (with_reducible refine below_more ?_ ?_ _ _) | (with_reducible refine Below.setCell ?_ ?_ _) | (with_reducible refine Below.trans ?_ (Below.mono (by assumption) ?_)))) <;> first | omega | (simp; done) | (simp; omega) | (simp [more_size]; done) | (simp [more_size]; omega)⟩
end Go.Proofs.Ytfenloempdhknaa
