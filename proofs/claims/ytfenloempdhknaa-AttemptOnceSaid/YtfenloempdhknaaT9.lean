
/- Walks of the seat of chapter 16: Begin. -/
import Derived.Test.YtfenloempdhknaaT6
namespace Go.Proofs.Ytfenloempdhknaa
open Go.RowKit
attribute [local go_sem ↓] Go.wp_at_zero Go.wp_at_succ
attribute [local go_sem] more_size cell_more_old frozen_more_old setCell_more_old more_drew drew_more old_alloc old_more old_drew old_setCell cell_alloc_old frozen_alloc_old setCell_alloc_old

theorem res7 {tmps : Array Value} {W : World} {b : Nat} {c0 c1 c2 c3 c4 c5 c6 c7 c8 c9 c10 c11 c12 c13 c14 c15 v7 : Value} (h6 : tmps[10]?.getD undef = .pointer (some ⟨b, 0, none⟩)) (h7 : tmps[11]?.getD undef = v7)
    (hc : ∀ o, W.cell? ⟨b, o, none⟩ = #[c0, c1, c2, c3, c4, c5, c6, c7, c8, c9, c10, c11, c12, c13, c14, c15][o]?) :
    (results Try.f7 tmps).run Try.prog W = .ok (.tuple #[.agg #[c0, c1, c2, c3, c4, c5, c6, c7, c8, c9, c10, c11, c12, c13, c14, c15], v7]) W := by
  simp [results, Try.results7, go_sem, hc, h6, h7]

theorem cka {w : World} {b o : Nat} {x : Obj} {r : Option Value} (h : w.cell? ⟨b, o, none⟩ = r) (hb : b < w.heap.size) : (w.alloc x).cell? ⟨b, o, none⟩ = r := (World.cell?_alloc_past x b o hb).trans h
def BeginR (id rc ow n p : Int) (w : World) (r : Ending) (w' : World) : Prop :=
  ∃ (bD : Nat), r = .returned (.tuple #[.agg #[.int .i64 id, .int .i64 rc, .int .i64 ow, .int .i64 n, .int .i8 0, .int .u16 0, .int .u16 0, .int .u16 0, .int .u16 0, .int .u16 0, .int .u16 0, .int .u16 0, .int .u16 0, .int .i64 p, .int .i8 0, .int .i64 (-1)], .slice (some ⟨bD, 0, none⟩) 1 1]) ∧ w'.heap[bD]? = some (.cells #[.int .i8 4, .int .i64 id, .int .i8 0, .int .i64 0, .int .i64 0, .int .i64 0, .string ⟨#[]⟩, .int .i64 0, .int .i8 0, .int .u16 0, .int .u16 0, .int .u16 0, .int .u16 0, .int .u16 0, .int .u16 0, .int .u16 0, .int .u16 0, .int .i64 p, .pointer none] 39) ∧ Below w.heap.size w w'

set_option maxRecDepth 100000 in
set_option maxHeartbeats 4000000 in
theorem begin7 (id rc ow n p : Int) (w : World) :
    Calls Try.prog 7 #[.int .i64 id, .int .i64 rc, .int .i64 ow, .int .i64 n, .agg #[.int .i8 0, .int .u16 0, .int .u16 0, .int .u16 0, .int .u16 0, .int .u16 0, .int .u16 0, .int .u16 0, .int .u16 0, .int .i64 p]] w (BeginR id rc ow n p w) := by
  go_enter Try.func7, Try.ntmps7
  go_wp2_with fail
  have kX : ((w.alloc (.cells #[.int .i8 0, .int .u16 0, .int .u16 0, .int .u16 0, .int .u16 0, .int .u16 0, .int .u16 0, .int .u16 0, .int .u16 0, .int .i64 p] 28)).alloc (.cells #[.int .i64 0, .int .i64 0, .int .i64 0, .int .i64 0, .int .i8 0, .int .u16 0, .int .u16 0, .int .u16 0, .int .u16 0, .int .u16 0, .int .u16 0, .int .u16 0, .int .u16 0, .int .i64 0, .int .i8 0, .int .i64 0] 30)).heap[w.heap.size]? = some (.cells #[.int .i8 0, .int .u16 0, .int .u16 0, .int .u16 0, .int .u16 0, .int .u16 0, .int .u16 0, .int .u16 0, .int .u16 0, .int .i64 p] 28) := by (repeat' (first | (with_reducible assumption) | (with_reducible refine hm_new ?_; (first | rfl | (simp; done) | (simp [more_size]; done) | (simp [more_size]; omega))) | (with_reducible refine block_alloc ?_) | (with_reducible refine hm_more ?_) | (with_reducible refine hm_drew ?_)))
  have kR : ((w.alloc (.cells #[.int .i8 0, .int .u16 0, .int .u16 0, .int .u16 0, .int .u16 0, .int .u16 0, .int .u16 0, .int .u16 0, .int .u16 0, .int .i64 p] 28)).alloc (.cells #[.int .i64 0, .int .i64 0, .int .i64 0, .int .i64 0, .int .i8 0, .int .u16 0, .int .u16 0, .int .u16 0, .int .u16 0, .int .u16 0, .int .u16 0, .int .u16 0, .int .u16 0, .int .i64 0, .int .i8 0, .int .i64 0] 30)).heap[w.heap.size + 1]? = some (.cells #[.int .i64 0, .int .i64 0, .int .i64 0, .int .i64 0, .int .i8 0, .int .u16 0, .int .u16 0, .int .u16 0, .int .u16 0, .int .u16 0, .int .u16 0, .int .u16 0, .int .u16 0, .int .i64 0, .int .i8 0, .int .i64 0] 30) := by (repeat' (first | (with_reducible assumption) | (with_reducible refine hm_new ?_; (first | rfl | (simp; done) | (simp [more_size]; done) | (simp [more_size]; omega))) | (with_reducible refine block_alloc ?_) | (with_reducible refine hm_more ?_) | (with_reducible refine hm_drew ?_)))
  have HB : Hid (Below w.heap.size w ((w.alloc (.cells #[.int .i8 0, .int .u16 0, .int .u16 0, .int .u16 0, .int .u16 0, .int .u16 0, .int .u16 0, .int .u16 0, .int .u16 0, .int .i64 p] 28)).alloc (.cells #[.int .i64 0, .int .i64 0, .int .i64 0, .int .i64 0, .int .i8 0, .int .u16 0, .int .u16 0, .int .u16 0, .int .u16 0, .int .u16 0, .int .u16 0, .int .u16 0, .int .u16 0, .int .i64 0, .int .i8 0, .int .i64 0] 30))) := Lib.hid (by (repeat' (first | (with_reducible exact Below.refl _ _) | (with_reducible assumption) | (with_reducible refine Below.drew ?_) | (with_reducible refine Below.alloc ?_ ?_ _) | (with_reducible refine below_more ?_ ?_ _ _) | (with_reducible refine Below.setCell ?_ ?_ _) | (with_reducible refine Below.trans ?_ (Below.mono (by assumption) ?_)))) <;> first | omega | (simp; done) | (simp; omega) | (simp [more_size]; done) | (simp [more_size]; omega))
  generalize ((w.alloc (.cells #[.int .i8 0, .int .u16 0, .int .u16 0, .int .u16 0, .int .u16 0, .int .u16 0, .int .u16 0, .int .u16 0, .int .u16 0, .int .i64 p] 28)).alloc (.cells #[.int .i64 0, .int .i64 0, .int .i64 0, .int .i64 0, .int .i8 0, .int .u16 0, .int .u16 0, .int .u16 0, .int .u16 0, .int .u16 0, .int .u16 0, .int .u16 0, .int .u16 0, .int .i64 0, .int .i8 0, .int .i64 0] 30)) = w1 at *
  have cX := cell_block kX
  have cR := cell_block kR
  have fR := free_block kR
  have oX := block_lt kX
  have oR := block_lt kR
  have qR : Old w1 (w.heap.size + 1) := oR
  have KR := Lib.hid kR
  clear kX kR
  go_region_held3 (fun w' => ∀ o, w'.cell? ⟨w.heap.size, o, none⟩ = w1.cell? ⟨w.heap.size, o, none⟩) (first | (with_reducible assumption) | (intro o; repeat' (first | (with_reducible rfl) | (with_reducible refine ckd ?_) | (with_reducible refine cka ?_ (by first | assumption | (simp only [setCell_size]; assumption))) | (with_reducible refine ck (Nat.ne_of_lt (Nat.lt_succ_self _)) ?_)))) (fail)
  all_goals
    go_wp2_with fail
    obtain ⟨U, hU, kU, eU, sU, osU, tpU, ouU⟩ := sets16 KR.out (.int .i64 id) (.int .i64 rc) (.int .i64 ow) (.int .i64 n) (.int .i8 0) (.int .u16 0) (.int .u16 0) (.int .u16 0) (.int .u16 0) (.int .u16 0) (.int .u16 0) (.int .u16 0) (.int .u16 0) (.int .i64 p) (.int .i8 0) (.int .i64 (-1))
    rw [hU]
    refine bodyPost_ret (v := .tuple #[.agg #[.int .i64 id, .int .i64 rc, .int .i64 ow, .int .i64 n, .int .i8 0, .int .u16 0, .int .u16 0, .int .u16 0, .int .u16 0, .int .u16 0, .int .u16 0, .int .u16 0, .int .u16 0, .int .i64 p, .int .i8 0, .int .i64 (-1)], .slice (some ⟨w1.heap.size, 0, none⟩) 1 1]) (res7 (W := (U.alloc (.cells #[.int .i8 4, .int .i64 id, .int .i8 0, .int .i64 0, .int .i64 0, .int .i64 0, .string ⟨#[]⟩, .int .i64 0, .int .i8 0, .int .u16 0, .int .u16 0, .int .u16 0, .int .u16 0, .int .u16 0, .int .u16 0, .int .u16 0, .int .u16 0, .int .i64 p, .pointer none] 39)).drew) rfl rfl (fun o => cka (cell_block kU o) (by rw [sU]; exact oR))) rfl ⟨w1.heap.size, rfl, hm_drew (hm_new sU.symm), ?_⟩
    exact ((HB.out.trans ⟨osU, tpU, ouU, Nat.le_of_eq sU.symm, fun k hk => eU k (by omega)⟩).alloc (by rw [sU]; omega) _).drew
end Go.Proofs.Ytfenloempdhknaa
