
/- Walks of the seat of chapter 07: 'wakes'. -/
import Derived.Test.YtcdmhldhhjolpaaO16
namespace Go.Proofs.Ytcdmhldhhjolpaa
open Go.RowKit
attribute [local go_sem ↓] Go.wp_at_zero Go.wp_at_succ
attribute [local go_sem] more_size cell_more_old frozen_more_old setCell_more_old more_drew drew_more old_alloc old_more old_drew old_setCell cell_alloc_old frozen_alloc_old setCell_alloc_old
attribute [local go_sem ↓] load42 store42 load61 store61 load38 store38 load30 store30
attribute [local go_sem] run42 runs42 run61 runs61 run38 runs38 run30 runs30 blk_drew has_drew blk_drewN has_drewN old_drewN blk_alloc_old has_alloc_old blk_alloc_new has_alloc_new setBlk_size setBlk_drew old_setBlk cell_setBlk' cell_setBlk_ne frozen_setBlk blk_setBlk' blk_setBlk_ne has_setBlk' has_setBlk_ne setBlk_alloc_old setBlk_new

def xLt (n : Int) : Lt := ⟨0, 0, n, 0, ⟨#[]⟩, 0⟩
def xRows : List (List Ofr) := [[⟨0, 3, xLt 7, 0⟩], [⟨1, 3, xLt 0, 0⟩], [⟨1, 3, xLt 0, 0⟩]]
def xDu (b : Bool) : List Du := [⟨0, none, 0, 0, false⟩, ⟨0, none, 0, 0, false⟩, ⟨0, none, 0, 0, false⟩, ⟨0, none, 0, 0, b⟩]
theorem xAll0 : rAll (xDu false) 0 [] [] xRows = [⟨0, 0, 1, 0⟩, ⟨0, 0, 2, 0⟩] := by kernel_rfl
theorem xAll1 : rAll (xDu true) 0 [] [] xRows = [⟨1, 0, -1, -1⟩, ⟨2, 0, -1, -1⟩] := by kernel_rfl
theorem xRR {W : World} {a b c g : Nat} (hA : W.heap[a]? = some (.cells #[.int .i8 0, .int .i64 3, .int .i8 0, .int .i64 0, .int .i64 7, .int .i64 0, .string ⟨#[]⟩, .int .i64 0, .int .i64 0] 38)) (hB : W.heap[b]? = some (.cells #[.int .i8 1, .int .i64 3, .int .i8 0, .int .i64 0, .int .i64 0, .int .i64 0, .string ⟨#[]⟩, .int .i64 0, .int .i64 0] 38)) (hC : W.heap[c]? = some (.cells #[.int .i8 1, .int .i64 3, .int .i8 0, .int .i64 0, .int .i64 0, .int .i64 0, .string ⟨#[]⟩, .int .i64 0, .int .i64 0] 38))
    (hR : W.heap[g]? = some (.cells #[.slice (some ⟨a, 0, none⟩) 1 1, .slice (some ⟨b, 0, none⟩) 1 1, .slice (some ⟨c, 0, none⟩) 1 1] 31)) : RdRR W (.slice (some ⟨g, 0, none⟩) 3 3) xRows := by
  refine ⟨[.slice (some ⟨a, 0, none⟩) 1 1, .slice (some ⟨b, 0, none⟩) 1 1, .slice (some ⟨c, 0, none⟩) 1 1], RdF.of_block hR rfl (by decide), fun i r hr => ?_⟩
  match i, hr with
  | 0, hr => cases hr; exact ⟨_, rfl, RdF.of_block (xs := ofCells [⟨0, 3, xLt 7, 0⟩]) hA rfl (by decide)⟩
  | 1, hr => cases hr; exact ⟨_, rfl, RdF.of_block (xs := ofCells [⟨1, 3, xLt 0, 0⟩]) hB rfl (by decide)⟩
  | 2, hr => cases hr; exact ⟨_, rfl, RdF.of_block (xs := ofCells [⟨1, 3, xLt 0, 0⟩]) hC rfl (by decide)⟩
theorem xU {W : World} {g : Nat} (b : Bool) (h : W.heap[g]? = some (.cells #[.int .i64 0, .slice none 0 0, .bool false, .int .i64 0, .slice none 0 0, .bool false, .int .i64 0, .slice none 0 0, .bool false, .int .i64 0, .slice none 0 0, .bool b] 42)) : RdU W (.slice (some ⟨g, 0, none⟩) 4 4) (xDu b) := RdF.of_block (xs := duCells (xDu b)) h rfl (by decide)
theorem xAll8 (g d : Nat) (b : Bool) (l : List Mt) (w : World) (hR : RdRR w (.slice (some ⟨g, 0, none⟩) 3 3) xRows) (hU : RdU w (.slice (some ⟨d, 0, none⟩) 4 4) (xDu b)) (hl : rAll (xDu b) 0 [] [] xRows = l) (h2 : l.length = 2) :
    Calls Try.prog 8 #[.slice (some ⟨g, 0, none⟩) 3 3, .slice (some ⟨d, 0, none⟩) 4 4, .int .i64 0, .slice none 0 0, .slice none 0 0] w fun r w' => ∃ b q, r = .returned (.slice (some ⟨b, 0, none⟩) 2 q) ∧ w.heap.size ≤ b ∧ RdM w' (.slice (some ⟨b, 0, none⟩) 2 q) l ∧ Below w.heap.size w w' := by
  refine (all8 _ _ none none 3 3 4 4 0 0 0 0 0 xRows (xDu b) [] [] w hR hU (RdF.nil _ _) (RdF.nil _ _) (by decide) (by decide) (by decide) (by rw [hl, h2]; decide)).mono ?_
  rintro r w' ⟨a, c, q, rfl, hc, ho, hb⟩
  rw [hl] at hc ho
  obtain rfl : c = 2 := by omega
  have hr : RdM w' (.slice a 2 q) l := by unfold RdM; rw [h2]; exact RdF.of_owns ho
  obtain ⟨_, ⟨_, h0⟩ | ⟨g, cap, cur, he, hg, _⟩⟩ := ho
  · cases h0
  · cases he
    exact ⟨g, q, rfl, hg, hr, hb⟩
theorem xSet {W : World} {g : Nat} (h : W.heap[g]? = some (.cells #[.int .i64 0, .slice none 0 0, .bool false, .int .i64 0, .slice none 0 0, .bool false, .int .i64 0, .slice none 0 0, .bool false, .int .i64 0, .slice none 0 0, .bool false] 42)) : (W.setCell ⟨g, 11, none⟩ (.bool true)).heap[g]? = some (.cells #[.int .i64 0, .slice none 0 0, .bool false, .int .i64 0, .slice none 0 0, .bool false, .int .i64 0, .slice none 0 0, .bool false, .int .i64 0, .slice none 0 0, .bool true] 42) := by
  have e := blk_set (i := 11) (v := .bool true) h
  simpa using e
theorem rdM_set {W : World} {b c o n p : Nat} {v : Value} {l : List Mt} (h : RdM W (.slice (some ⟨b, 0, none⟩) n p) l) (hne : b ≠ c) : RdM (W.setCell ⟨c, o, none⟩ v) (.slice (some ⟨b, 0, none⟩) n p) l := by
  obtain ⟨hl, ⟨h0, a', c', he, hac⟩ | ⟨hn, b', off, cap, he, hc, hlt, hx⟩⟩ := h
  · exact ⟨hl, .inl ⟨h0, a', c', he, hac⟩⟩
  · cases he
    refine ⟨hl, .inr ⟨hn, b, 0, p, rfl, hc, by simpa using hlt, fun j u hu => ?_⟩⟩
    rw [← hx j u hu]
    simp only [World.cell?, Below.heap_setCell W ⟨c, o, none⟩ v b hne]
theorem rdM_drewN {W : World} {v : Value} {l : List Mt} (n : Nat) (h : RdM W v l) : RdM (W.drewN n) v l := h
theorem keep_set {W : World} {b c o : Nat} {v : Value} {cs : Array Value} {ds : Array Value} {T T' : TypeId} (h : W.heap[b]? = some (.cells cs T)) (hc : W.heap[c]? = some (.cells ds T')) (hT : T ≠ T') : (W.setCell ⟨c, o, none⟩ v).heap[b]? = some (.cells cs T) := by
  rw [Below.heap_setCell W ⟨c, o, none⟩ v b (show b ≠ c from fun e => by subst e; rw [h] at hc; cases hc; exact hT rfl)]
  exact h
theorem xLetter (g : Nat) (w : World) (hR : RdRR w (.slice (some ⟨g, 0, none⟩) 3 3) xRows) : Calls Try.prog 11 #[.agg #[.int .i64 0, .int .i64 0, .int .i64 2, .int .i64 0], .slice (some ⟨g, 0, none⟩) 3 3] w fun r w' => r = .returned (.tuple #[.agg #[.int .i8 0, .int .i64 0, .int .i64 7, .int .i64 0, .string ⟨#[]⟩, .int .i64 0], .bool true]) ∧ Below w.heap.size w w' :=
  letter11 _ 3 3 0 0 2 0 xRows _ _ ⟨0, 3, xLt 7, 0⟩ ⟨1, 3, xLt 0, 0⟩ w hR rfl rfl rfl rfl rfl rfl rfl
set_option maxHeartbeats 4000000 in
theorem wakes7 (w : World) : Calls Try.prog 7 #[] w fun r w' => r = .returned (.bool true) ∧ Below w.heap.size w w' := by
  have hmk : ∀ w : World, (Instr.makeSlice 23 (.int .i64 4) (.int .i64 4)).run Try.prog w = .ok (.slice (some ⟨w.heap.size, 0, none⟩) 4 4) (w.alloc (.cells #[.int .i64 0, .slice none 0 0, .bool false, .int .i64 0, .slice none 0 0, .bool false, .int .i64 0, .slice none 0 0, .bool false, .int .i64 0, .slice none 0 0, .bool false] 42)) := fun _ => by kernel_rfl
  go_enter Try.func7, Try.ntmps7
  go_wp2_with fail
  refine (put15 3 7 _).mono ?_
  rintro r w1 ⟨rfl, hb1⟩
  have HB1 := Lib.hid hb1
  have hz1 : w.heap.size ≤ w1.heap.size := hb1.size
  clear hb1
  go_wp2_with fail
  refine (take16 3 _).mono ?_
  rintro r w2 ⟨rfl, hb2⟩
  have hB2 : Below w1.heap.size w1 w2 := by (repeat' (first | (with_reducible exact Below.refl _ _) | (with_reducible assumption) | (with_reducible refine Below.drew ?_) | (with_reducible refine Below.alloc ?_ ?_ _) | (with_reducible refine below_more ?_ ?_ _ _) | (with_reducible refine Below.setCell ?_ ?_ _) | (with_reducible refine Below.trans ?_ (Below.mono (by assumption) ?_)))) <;> first | omega | (simp; done) | (simp; omega) | (simp [more_size]; done) | (simp [more_size]; omega)
  have HB2 := Lib.hid (HB1.out.trans (hB2.mono hz1))
  have KA := Lib.hid (show w2.heap[w1.heap.size]? = some (.cells #[.int .i8 0, .int .i64 3, .int .i8 0, .int .i64 0, .int .i64 7, .int .i64 0, .string ⟨#[]⟩, .int .i64 0, .int .i64 0] 38) from block_keep' hb2 (by (repeat' (first | (with_reducible assumption) | (with_reducible refine hm_new ?_; (first | rfl | (simp; done) | (simp [more_size]; done) | (simp [more_size]; omega))) | (with_reducible refine block_alloc ?_) | (with_reducible refine hm_more ?_) | (with_reducible refine hm_drew ?_)))))
  have hz2 : w.heap.size ≤ w2.heap.size := HB2.out.size
  clear hb2 hB2
  go_wp2_with fail
  refine (take16 3 _).mono ?_
  rintro r w3 ⟨rfl, hb3⟩
  have hB3 : Below w2.heap.size w2 w3 := by (repeat' (first | (with_reducible exact Below.refl _ _) | (with_reducible assumption) | (with_reducible refine Below.drew ?_) | (with_reducible refine Below.alloc ?_ ?_ _) | (with_reducible refine below_more ?_ ?_ _ _) | (with_reducible refine Below.setCell ?_ ?_ _) | (with_reducible refine Below.trans ?_ (Below.mono (by assumption) ?_)))) <;> first | omega | (simp; done) | (simp; omega) | (simp [more_size]; done) | (simp [more_size]; omega)
  have HB3 := Lib.hid (HB2.out.trans (hB3.mono hz2))
  have KA3 := Lib.hid (block_keep' hB3 KA.out)
  have KB3 := Lib.hid (show w3.heap[w2.heap.size]? = some (.cells #[.int .i8 1, .int .i64 3, .int .i8 0, .int .i64 0, .int .i64 0, .int .i64 0, .string ⟨#[]⟩, .int .i64 0, .int .i64 0] 38) from block_keep' hb3 (by (repeat' (first | (with_reducible assumption) | (with_reducible refine hm_new ?_; (first | rfl | (simp; done) | (simp [more_size]; done) | (simp [more_size]; omega))) | (with_reducible refine block_alloc ?_) | (with_reducible refine hm_more ?_) | (with_reducible refine hm_drew ?_)))))
  have hz3 : w.heap.size ≤ w3.heap.size := HB3.out.size
  clear hb3 hB3 KA
  go_upto_region 3 with fail
  have kA : (((w3.alloc (.cells #[.int .i8 1, .int .i64 3, .int .i8 0, .int .i64 0, .int .i64 0, .int .i64 0, .string ⟨#[]⟩, .int .i64 0, .int .i64 0] 38)).alloc (.cells #[.slice (some ⟨w1.heap.size, 0, none⟩) 1 1, .slice (some ⟨w2.heap.size, 0, none⟩) 1 1, .slice (some ⟨w3.heap.size, 0, none⟩) 1 1] 31)).alloc (.cells #[.int .i64 0, .slice none 0 0, .bool false, .int .i64 0, .slice none 0 0, .bool false, .int .i64 0, .slice none 0 0, .bool false, .int .i64 0, .slice none 0 0, .bool false] 42)).heap[w1.heap.size]? = some (.cells #[.int .i8 0, .int .i64 3, .int .i8 0, .int .i64 0, .int .i64 7, .int .i64 0, .string ⟨#[]⟩, .int .i64 0, .int .i64 0] 38) := block_alloc (block_alloc (block_alloc KA3.out))
  have kB : (((w3.alloc (.cells #[.int .i8 1, .int .i64 3, .int .i8 0, .int .i64 0, .int .i64 0, .int .i64 0, .string ⟨#[]⟩, .int .i64 0, .int .i64 0] 38)).alloc (.cells #[.slice (some ⟨w1.heap.size, 0, none⟩) 1 1, .slice (some ⟨w2.heap.size, 0, none⟩) 1 1, .slice (some ⟨w3.heap.size, 0, none⟩) 1 1] 31)).alloc (.cells #[.int .i64 0, .slice none 0 0, .bool false, .int .i64 0, .slice none 0 0, .bool false, .int .i64 0, .slice none 0 0, .bool false, .int .i64 0, .slice none 0 0, .bool false] 42)).heap[w2.heap.size]? = some (.cells #[.int .i8 1, .int .i64 3, .int .i8 0, .int .i64 0, .int .i64 0, .int .i64 0, .string ⟨#[]⟩, .int .i64 0, .int .i64 0] 38) := block_alloc (block_alloc (block_alloc KB3.out))
  have kC : (((w3.alloc (.cells #[.int .i8 1, .int .i64 3, .int .i8 0, .int .i64 0, .int .i64 0, .int .i64 0, .string ⟨#[]⟩, .int .i64 0, .int .i64 0] 38)).alloc (.cells #[.slice (some ⟨w1.heap.size, 0, none⟩) 1 1, .slice (some ⟨w2.heap.size, 0, none⟩) 1 1, .slice (some ⟨w3.heap.size, 0, none⟩) 1 1] 31)).alloc (.cells #[.int .i64 0, .slice none 0 0, .bool false, .int .i64 0, .slice none 0 0, .bool false, .int .i64 0, .slice none 0 0, .bool false, .int .i64 0, .slice none 0 0, .bool false] 42)).heap[w3.heap.size]? = some (.cells #[.int .i8 1, .int .i64 3, .int .i8 0, .int .i64 0, .int .i64 0, .int .i64 0, .string ⟨#[]⟩, .int .i64 0, .int .i64 0] 38) := by (repeat' (first | (with_reducible assumption) | (with_reducible refine hm_new ?_; (first | rfl | (simp; done) | (simp [more_size]; done) | (simp [more_size]; omega))) | (with_reducible refine block_alloc ?_) | (with_reducible refine hm_more ?_) | (with_reducible refine hm_drew ?_)))
  have kR : (((w3.alloc (.cells #[.int .i8 1, .int .i64 3, .int .i8 0, .int .i64 0, .int .i64 0, .int .i64 0, .string ⟨#[]⟩, .int .i64 0, .int .i64 0] 38)).alloc (.cells #[.slice (some ⟨w1.heap.size, 0, none⟩) 1 1, .slice (some ⟨w2.heap.size, 0, none⟩) 1 1, .slice (some ⟨w3.heap.size, 0, none⟩) 1 1] 31)).alloc (.cells #[.int .i64 0, .slice none 0 0, .bool false, .int .i64 0, .slice none 0 0, .bool false, .int .i64 0, .slice none 0 0, .bool false, .int .i64 0, .slice none 0 0, .bool false] 42)).heap[w3.heap.size + 1]? = some (.cells #[.slice (some ⟨w1.heap.size, 0, none⟩) 1 1, .slice (some ⟨w2.heap.size, 0, none⟩) 1 1, .slice (some ⟨w3.heap.size, 0, none⟩) 1 1] 31) := by (repeat' (first | (with_reducible assumption) | (with_reducible refine hm_new ?_; (first | rfl | (simp; done) | (simp [more_size]; done) | (simp [more_size]; omega))) | (with_reducible refine block_alloc ?_) | (with_reducible refine hm_more ?_) | (with_reducible refine hm_drew ?_)))
  have kD : (((w3.alloc (.cells #[.int .i8 1, .int .i64 3, .int .i8 0, .int .i64 0, .int .i64 0, .int .i64 0, .string ⟨#[]⟩, .int .i64 0, .int .i64 0] 38)).alloc (.cells #[.slice (some ⟨w1.heap.size, 0, none⟩) 1 1, .slice (some ⟨w2.heap.size, 0, none⟩) 1 1, .slice (some ⟨w3.heap.size, 0, none⟩) 1 1] 31)).alloc (.cells #[.int .i64 0, .slice none 0 0, .bool false, .int .i64 0, .slice none 0 0, .bool false, .int .i64 0, .slice none 0 0, .bool false, .int .i64 0, .slice none 0 0, .bool false] 42)).heap[w3.heap.size + 1 + 1]? = some (.cells #[.int .i64 0, .slice none 0 0, .bool false, .int .i64 0, .slice none 0 0, .bool false, .int .i64 0, .slice none 0 0, .bool false, .int .i64 0, .slice none 0 0, .bool false] 42) := by (repeat' (first | (with_reducible assumption) | (with_reducible refine hm_new ?_; (first | rfl | (simp; done) | (simp [more_size]; done) | (simp [more_size]; omega))) | (with_reducible refine block_alloc ?_) | (with_reducible refine hm_more ?_) | (with_reducible refine hm_drew ?_)))
  have hbs : Below w.heap.size w (((w3.alloc (.cells #[.int .i8 1, .int .i64 3, .int .i8 0, .int .i64 0, .int .i64 0, .int .i64 0, .string ⟨#[]⟩, .int .i64 0, .int .i64 0] 38)).alloc (.cells #[.slice (some ⟨w1.heap.size, 0, none⟩) 1 1, .slice (some ⟨w2.heap.size, 0, none⟩) 1 1, .slice (some ⟨w3.heap.size, 0, none⟩) 1 1] 31)).alloc (.cells #[.int .i64 0, .slice none 0 0, .bool false, .int .i64 0, .slice none 0 0, .bool false, .int .i64 0, .slice none 0 0, .bool false, .int .i64 0, .slice none 0 0, .bool false] 42)) := by
    have := HB3.out
    (repeat' (first | (with_reducible exact Below.refl _ _) | (with_reducible assumption) | (with_reducible refine Below.drew ?_) | (with_reducible refine Below.alloc ?_ ?_ _) | (with_reducible refine below_more ?_ ?_ _ _) | (with_reducible refine Below.setCell ?_ ?_ _) | (with_reducible refine Below.trans ?_ (Below.mono (by assumption) ?_)))) <;> first | omega | (simp; done) | (simp; omega) | (simp [more_size]; done) | (simp [more_size]; omega)
  have hg : w3.heap.size + 1 + 1 < (((w3.alloc (.cells #[.int .i8 1, .int .i64 3, .int .i8 0, .int .i64 0, .int .i64 0, .int .i64 0, .string ⟨#[]⟩, .int .i64 0, .int .i64 0] 38)).alloc (.cells #[.slice (some ⟨w1.heap.size, 0, none⟩) 1 1, .slice (some ⟨w2.heap.size, 0, none⟩) 1 1, .slice (some ⟨w3.heap.size, 0, none⟩) 1 1] 31)).alloc (.cells #[.int .i64 0, .slice none 0 0, .bool false, .int .i64 0, .slice none 0 0, .bool false, .int .i64 0, .slice none 0 0, .bool false, .int .i64 0, .slice none 0 0, .bool false] 42)).heap.size := by simp
  have HRR := Lib.hid (xRR kA kB kC kR)
  have HUU := Lib.hid (xU false kD)
  have HKD := Lib.hid kD
  have HKA := Lib.hid kA
  have HKB := Lib.hid kB
  have HKC := Lib.hid kC
  have HKR := Lib.hid kR
  have HBS := Lib.hid hbs
  have hwz : w.heap.size ≤ w3.heap.size + 1 + 1 := by omega
  clear kA kB kC kR kD hbs
  generalize hW : (((w3.alloc (.cells #[.int .i8 1, .int .i64 3, .int .i8 0, .int .i64 0, .int .i64 0, .int .i64 0, .string ⟨#[]⟩, .int .i64 0, .int .i64 0] 38)).alloc (.cells #[.slice (some ⟨w1.heap.size, 0, none⟩) 1 1, .slice (some ⟨w2.heap.size, 0, none⟩) 1 1, .slice (some ⟨w3.heap.size, 0, none⟩) 1 1] 31)).alloc (.cells #[.int .i64 0, .slice none 0 0, .bool false, .int .i64 0, .slice none 0 0, .bool false, .int .i64 0, .slice none 0 0, .bool false, .int .i64 0, .slice none 0 0, .bool false] 42)) = W at *
  clear hW
  generalize hR : w3.heap.size + 1 = gR at *
  have HGR := Lib.hid hR
  clear hR hmk KA3 KB3
  go_wp2_with fail
  refine (xAll8 gR (gR + 1) false _ W HRR.out HUU.out xAll0 rfl).mono ?_
  rintro r w4 ⟨b4, q4, rfl, h4, hm4, hb4⟩
  have HM4 := Lib.hid hm4
  have HB4 := Lib.hid (HBS.out.trans (hb4.mono HBS.out.size))
  have HX4 := Lib.hid hb4
  clear hm4 hb4
  go_wp2_with fail
  refine (pick17 _ q4 _ _ _ HM4.out).mono ?_
  rintro r w5 ⟨rfl, hb5⟩
  have HM5 := Lib.hid (HM4.out.below hb5)
  have HB5 := Lib.hid (HB4.out.trans (hb5.mono HB4.out.size))
  have HX5 := Lib.hid (HX4.out.trans (hb5.mono HX4.out.size))
  clear hb5
  go_wp2_with fail
  refine (xLetter gR _ ((HRR.out.below HX5.out).below (by (repeat' (first | (with_reducible exact Below.refl _ _) | (with_reducible assumption) | (with_reducible refine Below.drew ?_) | (with_reducible refine Below.alloc ?_ ?_ _) | (with_reducible refine below_more ?_ ?_ _ _) | (with_reducible refine Below.setCell ?_ ?_ _) | (with_reducible refine Below.trans ?_ (Below.mono (by assumption) ?_)))) <;> first | omega | (simp; done) | (simp; omega) | (simp [more_size]; done) | (simp [more_size]; omega)))).mono ?_
  rintro r w6 ⟨rfl, hb6⟩
  have hB6 : Below w5.heap.size w5 w6 := by (repeat' (first | (with_reducible exact Below.refl _ _) | (with_reducible assumption) | (with_reducible refine Below.drew ?_) | (with_reducible refine Below.alloc ?_ ?_ _) | (with_reducible refine below_more ?_ ?_ _ _) | (with_reducible refine Below.setCell ?_ ?_ _) | (with_reducible refine Below.trans ?_ (Below.mono (by assumption) ?_)))) <;> first | omega | (simp; done) | (simp; omega) | (simp [more_size]; done) | (simp [more_size]; omega)
  have kD6 : w6.heap[gR + 1]? = some (.cells #[.int .i64 0, .slice none 0 0, .bool false, .int .i64 0, .slice none 0 0, .bool false, .int .i64 0, .slice none 0 0, .bool false, .int .i64 0, .slice none 0 0, .bool false] 42) := block_keep' hB6 (block_keep' HX5.out HKD.out)
  have kM6 : w6.heap[w5.heap.size]? = some (.cells #[.int .i64 0, .int .i64 0, .int .i64 2, .int .i64 0] 30) := block_keep' hb6 (by (repeat' (first | (with_reducible assumption) | (with_reducible refine hm_new ?_; (first | rfl | (simp; done) | (simp [more_size]; done) | (simp [more_size]; omega))) | (with_reducible refine block_alloc ?_) | (with_reducible refine hm_more ?_) | (with_reducible refine hm_drew ?_))))
  have HX6 := Lib.hid (HX5.out.trans (hB6.mono HX5.out.size))
  have HB6 := Lib.hid (HB5.out.trans (hB6.mono HB5.out.size))
  have HM6 := Lib.hid (HM5.out.below hB6)
  have HD6 := Lib.hid kD6
  have HKM := Lib.hid kM6
  have hwz' : w.heap.size ≤ gR + 1 := by have := HGR.out; omega
  have cD := cell_block kD6
  have fD := free_block kD6
  have oD := block_lt kD6
  have qD : Old w6 (gR + 1) := oD
  clear kD6 kM6 hB6 hb6
  go_upto_region 7 with fail
  have k7A := block_alloc (keep_set (o := 11) (v := .bool true) (block_keep' HX6.out HKA.out) HD6.out (by decide)) (x := .cells #[.int .i8 0, .int .i64 0, .int .i64 7, .int .i64 0, .string ⟨#[]⟩, .int .i64 0] 36)
  have k7B := block_alloc (keep_set (o := 11) (v := .bool true) (block_keep' HX6.out HKB.out) HD6.out (by decide)) (x := .cells #[.int .i8 0, .int .i64 0, .int .i64 7, .int .i64 0, .string ⟨#[]⟩, .int .i64 0] 36)
  have k7C := block_alloc (keep_set (o := 11) (v := .bool true) (block_keep' HX6.out HKC.out) HD6.out (by decide)) (x := .cells #[.int .i8 0, .int .i64 0, .int .i64 7, .int .i64 0, .string ⟨#[]⟩, .int .i64 0] 36)
  have k7R := block_alloc (keep_set (o := 11) (v := .bool true) (block_keep' HX6.out HKR.out) HD6.out (by decide)) (x := .cells #[.int .i8 0, .int .i64 0, .int .i64 7, .int .i64 0, .string ⟨#[]⟩, .int .i64 0] 36)
  have k7D := block_alloc (xSet HD6.out) (x := .cells #[.int .i8 0, .int .i64 0, .int .i64 7, .int .i64 0, .string ⟨#[]⟩, .int .i64 0] 36)
  have k7M := block_alloc (keep_set (o := 11) (v := .bool true) HKM.out HD6.out (by decide)) (x := .cells #[.int .i8 0, .int .i64 0, .int .i64 7, .int .i64 0, .string ⟨#[]⟩, .int .i64 0] 36)
  have k7L : ((w6.setCell ⟨gR + 1, 11, none⟩ (.bool true)).alloc (.cells #[.int .i8 0, .int .i64 0, .int .i64 7, .int .i64 0, .string ⟨#[]⟩, .int .i64 0] 36)).heap[w6.heap.size]? = some (.cells #[.int .i8 0, .int .i64 0, .int .i64 7, .int .i64 0, .string ⟨#[]⟩, .int .i64 0] 36) := by (repeat' (first | (with_reducible assumption) | (with_reducible refine hm_new ?_; (first | rfl | (simp; done) | (simp [more_size]; done) | (simp [more_size]; omega))) | (with_reducible refine block_alloc ?_) | (with_reducible refine hm_more ?_) | (with_reducible refine hm_drew ?_)))
  have hm7 : RdM ((w6.setCell ⟨gR + 1, 11, none⟩ (.bool true)).alloc (.cells #[.int .i8 0, .int .i64 0, .int .i64 7, .int .i64 0, .string ⟨#[]⟩, .int .i64 0] 36)) (.slice (some ⟨b4, 0, none⟩) 2 q4) [⟨0, 0, 1, 0⟩, ⟨0, 0, 2, 0⟩] := (rdM_set (c := gR + 1) (o := 11) (v := .bool true) HM6.out (show b4 ≠ gR + 1 by omega)).below (by (repeat' (first | (with_reducible exact Below.refl _ _) | (with_reducible assumption) | (with_reducible refine Below.drew ?_) | (with_reducible refine Below.alloc ?_ ?_ _) | (with_reducible refine below_more ?_ ?_ _ _) | (with_reducible refine Below.setCell ?_ ?_ _) | (with_reducible refine Below.trans ?_ (Below.mono (by assumption) ?_)))) <;> first | omega | (simp; done) | (simp; omega) | (simp [more_size]; done) | (simp [more_size]; omega))
  have hb7 : Below w.heap.size w ((w6.setCell ⟨gR + 1, 11, none⟩ (.bool true)).alloc (.cells #[.int .i8 0, .int .i64 0, .int .i64 7, .int .i64 0, .string ⟨#[]⟩, .int .i64 0] 36)) := (HB6.out.setCell (by exact hwz') _).alloc (by simp only [setCell_size]; exact HB6.out.size) _
  generalize ((w6.setCell ⟨gR + 1, 11, none⟩ (.bool true)).alloc (.cells #[.int .i8 0, .int .i64 0, .int .i64 7, .int .i64 0, .string ⟨#[]⟩, .int .i64 0] 36)) = W7 at *
  have HRR7 := Lib.hid (xRR k7A k7B k7C k7R)
  have HUU7 := Lib.hid (xU true k7D)
  have HB7 := Lib.hid hb7
  have HM7 := Lib.hid hm7
  have HKM7 := Lib.hid k7M
  have HKL7 := Lib.hid k7L
  clear k7A k7B k7C k7R k7D k7M k7L hm7 hb7 cD fD oD qD
  go_wp2_with fail
  refine (xAll8 gR (gR + 1) true _ W7 HRR7.out HUU7.out xAll1 rfl).mono ?_
  rintro r w8 ⟨b8, q8, rfl, h8, hm8, hb8⟩
  have HB8 := Lib.hid (HB7.out.trans (hb8.mono HB7.out.size))
  have hm4 := HM7.out.below hb8
  have kM8 := block_keep' hb8 HKM7.out
  have kL8 := block_keep' hb8 HKL7.out
  have r40 := fun n => runMt (rdM_drewN n hm4) (k := 0) (x := ⟨0, 0, 1, 0⟩) rfl
  have r41 := fun n => runMt (rdM_drewN n hm4) (k := 1) (x := ⟨0, 0, 2, 0⟩) rfl
  have r80 := fun n => runMt (rdM_drewN n hm8) (k := 0) (x := ⟨1, 0, -1, -1⟩) rfl
  simp only [Nat.zero_mul, Nat.one_mul, Nat.zero_add] at r40 r41 r80
  have lM := blk_of kM8
  have mM : Has w8 w5.heap.size 4 := has_of kM8
  have rM : ∀ n, (loadS 30 (.pointer (some ⟨w5.heap.size, 0, none⟩))).run Try.prog (w8.drewN n) = .ok (.agg #[.int .i64 0, .int .i64 0, .int .i64 2, .int .i64 0]) (w8.drewN n) := fun n => by rw [run30 (show Has (w8.drewN n) _ 4 from mM), blk_drewN, lM]
  have cL := cell_block kL8
  have oM : Old w8 w5.heap.size := block_lt kM8
  have oL : Old w8 w6.heap.size := block_lt kL8
  clear hm8 hb8 hm4 kM8 kL8
  go_upto_region 8 with fail
  clear lM mM
  go_quiet (fail)
  go_wp2_with fail
  go_ret
  have hB := HB8.out
  exact ⟨rfl, ⟨hB.os, hB.tape, hB.output, hB.size, hB.block⟩⟩
end Go.Proofs.Ytcdmhldhhjolpaa
