
/- Walks of the seat of chapter 06: Enter, Leave. -/
import Derived.Test.YtmggibmpljoacaaG2
import Derived.ArgAppend
namespace Go.Proofs.Ytmggibmpljoacaa
open Go.RowKit
attribute [local go_sem ↓] Go.wp_at_zero Go.wp_at_succ
attribute [local go_sem] more_size cell_more_old frozen_more_old setCell_more_old more_drew drew_more old_alloc old_more old_drew old_setCell cell_alloc_old frozen_alloc_old setCell_alloc_old
attribute [local go_sem ↓] load25 store25
attribute [local go_sem] run25 runs25 blk_drew has_drew blk_drewN has_drewN old_drewN blk_alloc_old has_alloc_old blk_alloc_new has_alloc_new setBlk_size setBlk_drew old_setBlk cell_setBlk' cell_setBlk_ne frozen_setBlk blk_setBlk' blk_setBlk_ne has_setBlk' has_setBlk_ne setBlk_alloc_old setBlk_new

theorem enter8_shut (c : Int) (a : Option Addr) (n p : Nat) (w : World) : Calls Try.prog 8 #[.agg #[.int .i64 c, .slice a n p, .bool true]] w (NoR 52 w) := by
  go_enter Try.func8, Try.ntmps8
  go_wp2_with fail
  refine bodyPost_ret (v := .tuple #[.agg #[.int .i64 0, .slice none 0 0, .bool false], .int .i64 52]) ?_ rfl ⟨rfl, by (repeat' (first | (with_reducible exact Below.refl _ _) | (with_reducible assumption) | (with_reducible refine Below.drew ?_) | (with_reducible refine Below.alloc ?_ ?_ _) | (with_reducible refine below_more ?_ ?_ _ _) | (with_reducible refine Below.setCell ?_ ?_ _) | (with_reducible refine Below.trans ?_ (Below.mono (by assumption) ?_)))) <;> first | omega | (simp; done) | (simp; omega) | (simp [more_size]; done) | (simp [more_size]; omega)⟩
  simp [results, Try.results8, go_sem]
theorem enter8_full (c : Int) (a : Option Addr) (n p : Nat) (w : World) (h1 : c ≤ (n : Int)) (h2 : -1099511627776 ≤ c) (h3 : (n : Int) ≤ 1000) : Calls Try.prog 8 #[.agg #[.int .i64 c, .slice a n p, .bool false]] w (NoR 50 w) := by
  go_enter Try.func8, Try.ntmps8
  go_wp2_with fail
  refine (room18_none c a n p _ h1 h2 h3).mono ?_
  rintro r w1 ⟨rfl, hb⟩
  have kR : w1.heap[w.heap.size + 1]? = some (.cells #[.int .i64 0, .slice none 0 0, .bool false] 25) := block_keep' hb (by (repeat' (first | (with_reducible assumption) | (with_reducible refine hm_new ?_; (first | rfl | (simp; done) | (simp [more_size]; done) | (simp [more_size]; omega))) | (with_reducible refine block_alloc ?_) | (with_reducible refine hm_more ?_) | (with_reducible refine hm_drew ?_))))
  have hB : Below w.heap.size w w1 := by (repeat' (first | (with_reducible exact Below.refl _ _) | (with_reducible assumption) | (with_reducible refine Below.drew ?_) | (with_reducible refine Below.alloc ?_ ?_ _) | (with_reducible refine below_more ?_ ?_ _ _) | (with_reducible refine Below.setCell ?_ ?_ _) | (with_reducible refine Below.trans ?_ (Below.mono (by assumption) ?_)))) <;> first | omega | (simp; done) | (simp; omega) | (simp [more_size]; done) | (simp [more_size]; omega)
  have mR : Has w1 (w.heap.size + 1) 3 := has_of kR
  have cU : ∀ o, (setBlk w1 (w.heap.size + 1) #[.int .i64 0, .slice none 0 0, .bool false]).cell? ⟨w.heap.size + 1, o, none⟩ = (#[.int .i64 0, .slice none 0 0, .bool false] : Array Value)[o]? := fun o => cell_setBlk _ _ _ 3 _ mR rfl
  have HB2 := Lib.hid (Below.setBlk hB (Nat.le_succ _) #[.int .i64 0, .slice none 0 0, .bool false])
  clear kR hb hB
  go_wp2_with fail
  refine bodyPost_ret (v := .tuple #[.agg #[.int .i64 0, .slice none 0 0, .bool false], .int .i64 50]) ?_ rfl ⟨rfl, HB2.out⟩
  simp [results, Try.results8, go_sem, cU]
set_option maxHeartbeats 2000000 in
theorem enter8 (c : Int) (a : Option Addr) (n p : Nat) (l : List Lt) (w : World) (hl : RdL w (.slice a n p) l) (h1 : (n : Int) < c) (h2 : c ≤ 9223372036854775807) (h3 : n ≤ 1000) :
    Calls Try.prog 8 #[.agg #[.int .i64 c, .slice a n p, .bool false]] w (DuctR c (n + 1) false (l ++ [zLt]) 0 w) := by
  obtain ⟨i0, hi, hz0, hz1, hz2⟩ := info_parts info38
  have HL := Lib.hid hl
  have HN := Lib.hid hl.len
  have hp : n ≤ p := by have := (RdF.le hl).2; have := (RdF.le hl).1; omega
  have he : (c - (n : Int) == 0) = false := by simp; omega
  clear hl
  go_enter Try.func8, Try.ntmps8
  go_wp2_with fail
  refine (room18_some c a n p _ h1 h2).mono ?_
  rintro r w1 ⟨rfl, hb⟩
  have kA : w1.heap[w.heap.size]? = some (.cells #[.int .i64 c, .slice a n p, .bool false] 25) := block_keep' hb (by (repeat' (first | (with_reducible assumption) | (with_reducible refine hm_new ?_; (first | rfl | (simp; done) | (simp [more_size]; done) | (simp [more_size]; omega))) | (with_reducible refine block_alloc ?_) | (with_reducible refine hm_more ?_) | (with_reducible refine hm_drew ?_))))
  have kR : w1.heap[w.heap.size + 1]? = some (.cells #[.int .i64 0, .slice none 0 0, .bool false] 25) := block_keep' hb (by (repeat' (first | (with_reducible assumption) | (with_reducible refine hm_new ?_; (first | rfl | (simp; done) | (simp [more_size]; done) | (simp [more_size]; omega))) | (with_reducible refine block_alloc ?_) | (with_reducible refine hm_more ?_) | (with_reducible refine hm_drew ?_))))
  have hB : Below w.heap.size w w1 := by (repeat' (first | (with_reducible exact Below.refl _ _) | (with_reducible assumption) | (with_reducible refine Below.drew ?_) | (with_reducible refine Below.alloc ?_ ?_ _) | (with_reducible refine below_more ?_ ?_ _ _) | (with_reducible refine Below.setCell ?_ ?_ _) | (with_reducible refine Below.trans ?_ (Below.mono (by assumption) ?_)))) <;> first | omega | (simp; done) | (simp; omega) | (simp [more_size]; done) | (simp [more_size]; omega)
  have HB1 := Lib.hid hB
  have KA := Lib.hid kA
  have KR := Lib.hid kR
  have cA := cell_block kA
  have oA := block_lt kA
  clear kA kR hb hB
  go_wp2_with fail
  refine (clip19 a n p _ hp h3).mono ?_
  rintro r w2 ⟨rfl, rfl⟩
  have HL1 := Lib.hid (HL.out.below HB1.out)
  go_wp2_with (first
    | (at_builtin; refine wpList_append_grows _ rfl (.tmp 16) (.tmp 18) 23 rfl 38 i0 (.agg #[.int .i8 0, .int .i64 0, .int .i64 0, .int .i64 0, .string ⟨#[]⟩, .int .i64 0]) 6 56 Try.underlying23 hi hz0 hz1 hz2 rfl (by decide) a n n (ltCells l) rfl ?c1 ?c2 ?c3 ⟨w1.heap.size, 0, none⟩ 1 1 (ltCells [zLt]) rfl rfl (news_alloc w1 (ltCells [zLt]) 38) (ltCells_one [zLt]) (Nat.lt_succ_self n) ?c4 ?c5 ?_))
  case c1 => intro ha; subst ha; have := RdF.nilcap HL.out; exact ⟨this.2.1, this.2.1⟩
  case c2 => rw [ltCells_len, ← HN.out]
  case c3 => intro b hb j u hj; subst hb; exact (RdF.news ((HL1.out.below ((Below.refl _ _).alloc (Nat.le_refl _) _)))).2 j u hj
  case c4 => unfold maxLen; omega
  case c5 => omega
  intro v' w3 hown hgrow
  have hown' : w3.ownsRow (w.heap.size + 2) 38 6 v' (n + 1) (ltCells (l ++ [zLt])) := by rw [ltCells_app]; exact owns_base hown (by have := block_lt KR.out; simp; omega)
  obtain ⟨a', p', rfl⟩ := (RdF.of_owns hown').shape
  have h13 : Below w1.heap.size w1 w3 := ((Below.refl _ w1).alloc (Nat.le_refl _) _).grown hgrow (by simp) (fun j hj => by cases hj)
  have k1 := block_keep' h13 KA.out
  have k2 := block_keep' h13 KR.out
  have k3 : (w3.setCell ⟨w.heap.size, 1, none⟩ (.slice a' (n + 1) p')).heap[w.heap.size]? = some (.cells #[.int .i64 c, .slice a' (n + 1) p', .bool false] 25) := by simpa using blk_set (i := 1) (v := .slice a' (n + 1) p') k1
  have k4 : (w3.setCell ⟨w.heap.size, 1, none⟩ (.slice a' (n + 1) p')).heap[w.heap.size + 1]? = some (.cells #[.int .i64 0, .slice none 0 0, .bool false] 25) := block_set k2 (Nat.succ_ne_self _)
  have c1 := cell_block k1
  have f1 := free_block k1
  have o1 := block_lt k1
  have l3 := blk_of k3
  have m3 : Has (w3.setCell ⟨w.heap.size, 1, none⟩ (.slice a' (n + 1) p')) w.heap.size 3 := has_of k3
  have m4 : Has (w3.setCell ⟨w.heap.size, 1, none⟩ (.slice a' (n + 1) p')) (w.heap.size + 1) 3 := has_of k4
  have cU : ∀ o, (setBlk (w3.setCell ⟨w.heap.size, 1, none⟩ (.slice a' (n + 1) p')) (w.heap.size + 1) #[.int .i64 c, .slice a' (n + 1) p', .bool false]).cell? ⟨w.heap.size + 1, o, none⟩ = (#[.int .i64 c, .slice a' (n + 1) p', .bool false] : Array Value)[o]? := fun o => cell_setBlk _ _ _ 3 _ m4 rfl
  have HB := Lib.hid (Below.setBlk ((HB1.out.trans (h13.mono HB1.out.size)).setCell (p := ⟨w.heap.size, 1, none⟩) (Nat.le_refl _) (.slice a' (n + 1) p')) (Nat.le_succ w.heap.size) #[.int .i64 c, .slice a' (n + 1) p', .bool false])
  have HO := Lib.hid (owns_base (owns_setBlk (owns_same (w' := w3.setCell ⟨w.heap.size, 1, none⟩ (.slice a' (n + 1) p')) hown' (fun k hk => Below.heap_setCell _ _ _ k (fun e => by simp at e; omega))) (Nat.lt_succ_self _) #[.int .i64 c, .slice a' (n + 1) p', .bool false]) (show w.heap.size ≤ w.heap.size + 2 by omega))
  clear hown hown' hgrow h13 k1 k2 k3 k4 cA oA
  go_wp2_with fail
  refine bodyPost_ret (v := .tuple #[.agg #[.int .i64 c, .slice a' (n + 1) p', .bool false], .int .i64 0]) ?_ rfl ⟨a', p', rfl, HO.out, HB.out⟩
  simp [results, Try.results8, go_sem, cU]
end Go.Proofs.Ytmggibmpljoacaa
