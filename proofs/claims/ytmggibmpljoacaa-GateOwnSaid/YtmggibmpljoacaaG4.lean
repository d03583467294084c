
/- Walks of the seat of chapter 06: Leave. -/
import Derived.Test.YtmggibmpljoacaaG3
namespace Go.Proofs.Ytmggibmpljoacaa
open Go.RowKit
attribute [local go_sem ↓] Go.wp_at_zero Go.wp_at_succ
attribute [local go_sem] more_size cell_more_old frozen_more_old setCell_more_old more_drew drew_more old_alloc old_more old_drew old_setCell cell_alloc_old frozen_alloc_old setCell_alloc_old
attribute [local go_sem ↓] load25 store25
attribute [local go_sem] run25 runs25 blk_drew has_drew blk_drewN has_drewN old_drewN blk_alloc_old has_alloc_old blk_alloc_new has_alloc_new setBlk_size setBlk_drew old_setBlk cell_setBlk' cell_setBlk_ne frozen_setBlk blk_setBlk' blk_setBlk_ne has_setBlk' has_setBlk_ne setBlk_alloc_old setBlk_new

theorem RdL.tail {w : World} {a : Option Addr} {n p : Nat} {l : List Lt} (h : RdL w (.slice a n p) l) (h1 : 1 ≤ n) : RdL w (.slice (cutA a 1 p 6) (n - 1) (p - 1)) (l.drop 1) := by
  have hn := h.len
  subst hn
  have := RdF.cut h h1
  rw [ltCells_drop] at this
  show RdF _ _ _ _ _
  rw [List.length_drop]
  exact this
set_option maxHeartbeats 2000000 in
theorem out20 (c : Int) (a : Option Addr) (n p : Nat) (b : Bool) (l : List Lt) (w : World) (hl : RdL w (.slice a n p) l) (h1 : 1 ≤ n) (h3 : n ≤ 1000) :
    Calls Try.prog 20 #[.agg #[.int .i64 c, .slice a n p, .bool b]] w fun r w' => ∃ a' p', r = .returned (.agg #[.int .i64 c, .slice a' (n - 1) p', .bool b]) ∧ w'.ownsRow w.heap.size 38 6 (.slice a' (n - 1) p') (n - 1) (ltCells (l.drop 1)) ∧ Below w.heap.size w w' := by
  have q1 := run_cut (P := Try.prog) (t := 23) (sz := 6) (by kernel_rfl) (fun w => by kernel_rfl) a n p 1 h1
  rw [show (((1 : Nat)) : Int) = 1 from rfl] at q1
  have HL := Lib.hid hl
  have HN := Lib.hid hl.len
  have hdl : (l.drop 1).length = n - 1 := by rw [List.length_drop, ← hl.len]
  have HDL := Lib.hid hdl
  clear hl hdl
  go_enter Try.func20, Try.ntmps20
  go_wp2_with fail
  refine (clone24 _ (l.drop 1) _ (by have := HDL.out; omega) ((HL.out.tail h1).below (by (repeat' (first | (with_reducible exact Below.refl _ _) | (with_reducible assumption) | (with_reducible refine Below.drew ?_) | (with_reducible refine Below.alloc ?_ ?_ _) | (with_reducible refine below_more ?_ ?_ _ _) | (with_reducible refine Below.setCell ?_ ?_ _) | (with_reducible refine Below.trans ?_ (Below.mono (by assumption) ?_)))) <;> first | omega | (simp; done) | (simp; omega) | (simp [more_size]; done) | (simp [more_size]; omega)))).mono ?_
  rintro r w1 ⟨v2, rfl, hown, hb⟩
  rw [HDL.out] at hown
  obtain ⟨a', p', rfl⟩ := (RdF.of_owns hown).shape
  have k1 : w1.heap[w.heap.size]? = some (.cells #[.int .i64 c, .slice a n p, .bool b] 43) := block_keep' hb (by (repeat' (first | (with_reducible assumption) | (with_reducible refine hm_new ?_; (first | rfl | (simp; done) | (simp [more_size]; done) | (simp [more_size]; omega))) | (with_reducible refine block_alloc ?_) | (with_reducible refine hm_more ?_) | (with_reducible refine hm_drew ?_))))
  have k2 : w1.heap[w.heap.size + 1]? = some (.cells #[.int .i64 0, .slice none 0 0, .bool false] 25) := block_keep' hb (by (repeat' (first | (with_reducible assumption) | (with_reducible refine hm_new ?_; (first | rfl | (simp; done) | (simp [more_size]; done) | (simp [more_size]; omega))) | (with_reducible refine block_alloc ?_) | (with_reducible refine hm_more ?_) | (with_reducible refine hm_drew ?_))))
  have hB : Below w.heap.size w w1 := by (repeat' (first | (with_reducible exact Below.refl _ _) | (with_reducible assumption) | (with_reducible refine Below.drew ?_) | (with_reducible refine Below.alloc ?_ ?_ _) | (with_reducible refine below_more ?_ ?_ _ _) | (with_reducible refine Below.setCell ?_ ?_ _) | (with_reducible refine Below.trans ?_ (Below.mono (by assumption) ?_)))) <;> first | omega | (simp; done) | (simp; omega) | (simp [more_size]; done) | (simp [more_size]; omega)
  have k3 : (w1.setCell ⟨w.heap.size, 1, none⟩ (.slice a' (n - 1) p')).heap[w.heap.size]? = some (.cells #[.int .i64 c, .slice a' (n - 1) p', .bool b] 43) := by simpa using blk_set (i := 1) (v := .slice a' (n - 1) p') k1
  have k4 : (w1.setCell ⟨w.heap.size, 1, none⟩ (.slice a' (n - 1) p')).heap[w.heap.size + 1]? = some (.cells #[.int .i64 0, .slice none 0 0, .bool false] 25) := block_set k2 (Nat.succ_ne_self _)
  have c1 := cell_block k1
  have f1 := free_block k1
  have o1 := block_lt k1
  have l3 := blk_of k3
  have m3 : Has (w1.setCell ⟨w.heap.size, 1, none⟩ (.slice a' (n - 1) p')) w.heap.size 3 := has_of k3
  have m4 : Has (w1.setCell ⟨w.heap.size, 1, none⟩ (.slice a' (n - 1) p')) (w.heap.size + 1) 3 := has_of k4
  have cU : ∀ o, (setBlk (w1.setCell ⟨w.heap.size, 1, none⟩ (.slice a' (n - 1) p')) (w.heap.size + 1) #[.int .i64 c, .slice a' (n - 1) p', .bool b]).cell? ⟨w.heap.size + 1, o, none⟩ = (#[.int .i64 c, .slice a' (n - 1) p', .bool b] : Array Value)[o]? := fun o => cell_setBlk _ _ _ 3 _ m4 rfl
  have HB := Lib.hid (Below.setBlk (hB.setCell (p := ⟨w.heap.size, 1, none⟩) (Nat.le_refl _) (.slice a' (n - 1) p')) (Nat.le_succ w.heap.size) #[.int .i64 c, .slice a' (n - 1) p', .bool b])
  have hown' : w1.ownsRow (w.heap.size + 2) 38 6 (.slice a' (n - 1) p') (n - 1) (ltCells (l.drop 1)) := owns_base hown (by simp)
  have HO := Lib.hid (owns_base (owns_setBlk (owns_same (w' := w1.setCell ⟨w.heap.size, 1, none⟩ (.slice a' (n - 1) p')) hown' (fun k hk => Below.heap_setCell _ _ _ k (fun e => by simp at e; omega))) (Nat.lt_succ_self _) #[.int .i64 c, .slice a' (n - 1) p', .bool b]) (show w.heap.size ≤ w.heap.size + 2 by omega))
  clear hown hown' hb hB k1 k2 k3 k4 q1
  go_wp2_with fail
  refine bodyPost_ret (v := .agg #[.int .i64 c, .slice a' (n - 1) p', .bool b]) ?_ rfl ⟨a', p', rfl, HO.out, HB.out⟩
  simp [results, Try.results20, go_sem, cU]
theorem leave9_empty (c : Int) (a : Option Addr) (p : Nat) (b : Bool) (w : World) : Calls Try.prog 9 #[.agg #[.int .i64 c, .slice a 0 p, .bool b]] w (NoR 51 w) := by
  go_enter Try.func9, Try.ntmps9
  go_wp2_with fail
  refine bodyPost_ret (v := .tuple #[.agg #[.int .i64 0, .slice none 0 0, .bool false], .int .i64 51]) ?_ rfl ⟨rfl, by (repeat' (first | (with_reducible exact Below.refl _ _) | (with_reducible assumption) | (with_reducible refine Below.drew ?_) | (with_reducible refine Below.alloc ?_ ?_ _) | (with_reducible refine below_more ?_ ?_ _ _) | (with_reducible refine Below.setCell ?_ ?_ _) | (with_reducible refine Below.trans ?_ (Below.mono (by assumption) ?_)))) <;> first | omega | (simp; done) | (simp; omega) | (simp [more_size]; done) | (simp [more_size]; omega)⟩
  simp [results, Try.results9, go_sem]
set_option maxHeartbeats 2000000 in
theorem leave9 (c : Int) (a : Option Addr) (n p : Nat) (b : Bool) (l : List Lt) (w : World) (hl : RdL w (.slice a n p) l) (h1 : 1 ≤ n) (h3 : n ≤ 1000) :
    Calls Try.prog 9 #[.agg #[.int .i64 c, .slice a n p, .bool b]] w (DuctR c (n - 1) b (l.drop 1) 0 w) := by
  have HL := Lib.hid hl
  have hn0 : ((n : Int) == 0) = false := by simp; omega
  clear hl
  go_enter Try.func9, Try.ntmps9
  go_wp2_with fail
  refine (out20 c a n p b l _ (HL.out.below (by (repeat' (first | (with_reducible exact Below.refl _ _) | (with_reducible assumption) | (with_reducible refine Below.drew ?_) | (with_reducible refine Below.alloc ?_ ?_ _) | (with_reducible refine below_more ?_ ?_ _ _) | (with_reducible refine Below.setCell ?_ ?_ _) | (with_reducible refine Below.trans ?_ (Below.mono (by assumption) ?_)))) <;> first | omega | (simp; done) | (simp; omega) | (simp [more_size]; done) | (simp [more_size]; omega))) h1 h3).mono ?_
  rintro r w1 ⟨a', p', rfl, ho, hb⟩
  have kR : w1.heap[w.heap.size + 1]? = some (.cells #[.int .i64 0, .slice none 0 0, .bool false] 25) := block_keep' hb (by (repeat' (first | (with_reducible assumption) | (with_reducible refine hm_new ?_; (first | rfl | (simp; done) | (simp [more_size]; done) | (simp [more_size]; omega))) | (with_reducible refine block_alloc ?_) | (with_reducible refine hm_more ?_) | (with_reducible refine hm_drew ?_))))
  have hB : Below w.heap.size w w1 := by (repeat' (first | (with_reducible exact Below.refl _ _) | (with_reducible assumption) | (with_reducible refine Below.drew ?_) | (with_reducible refine Below.alloc ?_ ?_ _) | (with_reducible refine below_more ?_ ?_ _ _) | (with_reducible refine Below.setCell ?_ ?_ _) | (with_reducible refine Below.trans ?_ (Below.mono (by assumption) ?_)))) <;> first | omega | (simp; done) | (simp; omega) | (simp [more_size]; done) | (simp [more_size]; omega)
  have mR : Has w1 (w.heap.size + 1) 3 := has_of kR
  have cU : ∀ o, (setBlk w1 (w.heap.size + 1) #[.int .i64 c, .slice a' (n - 1) p', .bool b]).cell? ⟨w.heap.size + 1, o, none⟩ = (#[.int .i64 c, .slice a' (n - 1) p', .bool b] : Array Value)[o]? := fun o => cell_setBlk _ _ _ 3 _ mR rfl
  have HB := Lib.hid (Below.setBlk hB (Nat.le_succ _) #[.int .i64 c, .slice a' (n - 1) p', .bool b])
  have HO := Lib.hid (owns_base (owns_setBlk ho (show w.heap.size + 1 < _ by simp) #[.int .i64 c, .slice a' (n - 1) p', .bool b]) (show w.heap.size ≤ _ by simp; omega))
  clear kR hb hB ho
  go_wp2_with fail
  refine bodyPost_ret (v := .tuple #[.agg #[.int .i64 c, .slice a' (n - 1) p', .bool b], .int .i64 0]) ?_ rfl ⟨a', p', rfl, HO.out, HB.out⟩
  simp [results, Try.results9, go_sem, cU]
end Go.Proofs.Ytmggibmpljoacaa
