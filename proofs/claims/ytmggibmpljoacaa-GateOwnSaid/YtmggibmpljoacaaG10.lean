
/- Walks of the seat of chapter 06: GateOwn. -/
import Derived.Test.YtmggibmpljoacaaG9a
import Derived.StillTailTactics
namespace Go.Proofs.Ytmggibmpljoacaa
open Go.RowKit
attribute [local go_sem ↓] Go.wp_at_zero Go.wp_at_succ
attribute [local go_sem] more_size cell_more_old frozen_more_old setCell_more_old more_drew drew_more old_alloc old_more old_drew old_setCell cell_alloc_old frozen_alloc_old setCell_alloc_old
attribute [local go_sem ↓] load25 store25
attribute [local go_sem] run25 runs25 blk_drew has_drew blk_drewN has_drewN old_drewN blk_alloc_old has_alloc_old blk_alloc_new has_alloc_new setBlk_size setBlk_drew old_setBlk cell_setBlk' cell_setBlk_ne frozen_setBlk blk_setBlk' blk_setBlk_ne has_setBlk' has_setBlk_ne setBlk_alloc_old setBlk_new

/-- A row of letters in new memory; nothing is said of them but that each has a number. -/
def NumRow (w : World) (base : Nat) (v : Value) (n : Nat) : Prop :=
  n = 0 ∨ ∃ g p cs, v = .slice (some ⟨g, 0, none⟩) n p ∧ base ≤ g ∧ w.heap[g]? = some (.cells cs 38) ∧ ∀ k, k < n → ∃ x, cs[k * 6 + 2]? = some (.int .i64 x)
theorem NumRow.below {w w' : World} {base n : Nat} {v : Value} (h : NumRow w base v n) (hb : Below w.heap.size w w') : NumRow w' base v n := by
  obtain h | ⟨g, p, cs, h0, h1, h2, h3⟩ := h
  · exact .inl h
  · exact .inr ⟨g, p, cs, h0, h1, block_keep' hb h2, h3⟩
theorem NumRow.base {w : World} {base base' n : Nat} {v : Value} (h : NumRow w base v n) (hb : base' ≤ base) : NumRow w base' v n := by
  obtain h | ⟨g, p, cs, h0, h1, h2, h3⟩ := h
  · exact .inl h
  · exact .inr ⟨g, p, cs, h0, Nat.le_trans hb h1, h2, h3⟩
theorem NumRow.set {w : World} {base n : Nat} {v : Value} (h : NumRow w base v n) (b o : Nat) (y : Int) : NumRow (w.setCell ⟨b, o, none⟩ (.int .i64 y)) base v n := by
  obtain h | ⟨g, p, cs, h0, h1, h2, h3⟩ := h
  · exact .inl h
  · by_cases hg : g = b
    · subst hg
      refine .inr ⟨g, p, _, h0, h1, blk_set h2, fun k hk => ?_⟩
      obtain ⟨x, hx⟩ := h3 k hk
      rw [Array.getElem?_setIfInBounds]
      split
      · rename_i he
        subst he
        have := (Array.getElem?_eq_some_iff.1 hx).1
        exact ⟨y, by simp [this]⟩
      · exact ⟨x, hx⟩
    · exact .inr ⟨g, p, cs, h0, h1, block_set h2 hg, h3⟩
theorem NumRow.of_owns {w : World} {base n : Nat} {v : Value} {l : List Lt} (h : w.ownsRow base 38 6 v n (ltCells l)) (hn : n = l.length) : NumRow w base v n := by
  subst hn
  obtain ⟨h1, h2 | ⟨g, cap, cur, rfl, hg, hk, h4, h5, h6, h7⟩⟩ := h
  · exact .inl h2.2
  · refine .inr ⟨g, cap, cur, rfl, hg, hk, fun k hk' => ?_⟩
    obtain ⟨x, hx⟩ : ∃ x, l[k]? = some x := ⟨_, List.getElem?_eq_getElem hk'⟩
    have h8 := (ltCells_at hx).2.2.1
    rw [← h7, List.getElem?_take] at h8
    split at h8
    · exact ⟨x.n, by simpa using h8⟩
    · cases h8
/-- A duct and an error, whichever; its letters lie in new memory. -/
def AnyR (w : World) (r : Ending) (w' : World) : Prop :=
  ∃ c a n p b e, r = .returned (.tuple #[.agg #[.int .i64 c, .slice a n p, .bool b], .int .i64 e]) ∧ n ≤ 1000 ∧ NumRow w' w.heap.size (.slice a n p) n ∧ Below w.heap.size w w'
theorem NoR.any {e : Int} {w w' : World} {r : Ending} (h : NoR e w r w') : AnyR w r w' := ⟨0, none, 0, 0, false, e, h.1, Nat.zero_le _, .inl rfl, h.2⟩
theorem DuctR.any {c : Int} {n : Nat} {b : Bool} {l : List Lt} {e : Int} {w w' : World} {r : Ending} (h : DuctR c n b l e w r w') (hn : n = l.length) (h1 : n ≤ 1000) : AnyR w r w' := by
  obtain ⟨a, p, h2, h3, h4⟩ := h
  exact ⟨c, a, n, p, b, e, h2, h1, .of_owns h3 hn, h4⟩
theorem enter8_any (c : Int) (a : Option Addr) (n p : Nat) (b : Bool) (l : List Lt) (w : World) (hl : RdL w (.slice a n p) l) (h1 : -1099511627776 ≤ c) (h2 : c ≤ 9223372036854775807) (h3 : n ≤ 200) :
    Calls Try.prog 8 #[.agg #[.int .i64 c, .slice a n p, .bool b]] w (AnyR w) := by
  cases b
  · by_cases h : (n : Int) < c
    · exact (enter8 c a n p l w hl h h2 (by omega)).mono fun r w' hr => hr.any (by rw [List.length_append, ← hl.len]; rfl) (by omega)
    · exact (enter8_full c a n p w (by omega) h1 (by omega)).mono fun r w' hr => hr.any
  · exact (enter8_shut c a n p w).mono fun r w' hr => hr.any
theorem leave9_any (c : Int) (a : Option Addr) (n p : Nat) (b : Bool) (l : List Lt) (w : World) (hl : RdL w (.slice a n p) l) (h3 : n ≤ 200) :
    Calls Try.prog 9 #[.agg #[.int .i64 c, .slice a n p, .bool b]] w (AnyR w) := by
  by_cases h : n = 0
  · subst h
    exact (leave9_empty c a p b w).mono fun r w' hr => hr.any
  · exact (leave9 c a n p b l w hl (by omega) (by omega)).mono fun r w' hr => hr.any (by rw [List.length_drop, ← hl.len]) (by omega)
/-- Where the writing loops stand. -/
def OwnR (wz : World) (B4 B6 m : Nat) (C1 C2 : Obj) (v1 v2 : Value) (n1 n2 : Nat) (s : Value) (wr : World) : Prop :=
  ∃ k : Nat, k ≤ m ∧ s = .int .i64 k ∧ wr.heap[B4]? = some C1 ∧ wr.heap[B6]? = some C2 ∧ NumRow wr wz.heap.size v1 n1 ∧ NumRow wr wz.heap.size v2 n2 ∧ Below wz.heap.size wz wr

set_option maxRecDepth 100000 in
set_option maxHeartbeats 4000000 in
theorem own5_all (c : Int) (a : Option Addr) (n p : Nat) (b : Bool) (l : List Lt) (w : World) (hl : RdL w (.slice a n p) l) (hc2 : c ≤ 9223372036854775807) :
    Calls Try.prog 5 #[.agg #[.int .i64 c, .slice a n p, .bool b]] w fun r w' => r = .returned (.bool true) ∧ Below w.heap.size w w' := by
  obtain ⟨i0, hi, hz0, hz1, hz2⟩ := info_parts info38
  have HL := Lib.hid hl
  have HN := Lib.hid hl.len
  have HRN : Hid (RdF w 6 (.slice a n p) n (ltCells l)) := Lib.hid (by have h : RdF w 6 (.slice a n p) l.length (ltCells l) := hl; rwa [← hl.len] at h)
  clear hl
  go_enter Try.func5, Try.ntmps5
  go_wp2_with fail
  refine (great12 c a n p b _ 25 _ (by (repeat' (first | (with_reducible assumption) | (with_reducible refine hm_new ?_; (first | rfl | (simp; done) | (simp [more_size]; done) | (simp [more_size]; omega))) | (with_reducible refine block_alloc ?_) | (with_reducible refine hm_more ?_) | (with_reducible refine hm_drew ?_))))).mono ?_
  rintro r w1 ⟨h, hb1⟩
  have kD : w1.heap[w.heap.size]? = some (.cells #[.int .i64 c, .slice a n p, .bool b] 25) := block_keep' hb1 (by (repeat' (first | (with_reducible assumption) | (with_reducible refine hm_new ?_; (first | rfl | (simp; done) | (simp [more_size]; done) | (simp [more_size]; omega))) | (with_reducible refine block_alloc ?_) | (with_reducible refine hm_more ?_) | (with_reducible refine hm_drew ?_))))
  have KD := Lib.hid kD
  have HB1 := Lib.hid (show Below w.heap.size w w1 by (repeat' (first | (with_reducible exact Below.refl _ _) | (with_reducible assumption) | (with_reducible refine Below.drew ?_) | (with_reducible refine Below.alloc ?_ ?_ _) | (with_reducible refine below_more ?_ ?_ _ _) | (with_reducible refine Below.setCell ?_ ?_ _) | (with_reducible refine Below.trans ?_ (Below.mono (by assumption) ?_)))) <;> first | omega | (simp; done) | (simp; omega) | (simp [more_size]; done) | (simp [more_size]; omega))
  have cD := cell_block kD
  have lD := blk_of kD
  have mD : Has w1 w.heap.size 3 := has_of kD
  have oD := block_lt kD
  have qD : Old w1 w.heap.size := oD
  clear kD hb1
  rcases h with rfl | ⟨rfl, h200, hc⟩
  · go_wp2_with fail
    refine (wakes7 _).mono ?_
    rintro r w2 ⟨rfl, hb⟩
    have hB := HB1.out.trans (hb.mono HB1.out.size)
    go_wp2_with fail
    go_ret
    exact ⟨rfl, hB⟩
  · go_upto_region 4 with fail
    have kDx : (w1.alloc (.cells #[.int .i64 c, .slice a n p, .bool b] 25)).heap[w.heap.size]? = some (.cells #[.int .i64 c, .slice a n p, .bool b] 25) := block_alloc KD.out
    have kWx : (w1.alloc (.cells #[.int .i64 c, .slice a n p, .bool b] 25)).heap[w1.heap.size]? = some (.cells #[.int .i64 c, .slice a n p, .bool b] 25) := by (repeat' (first | (with_reducible assumption) | (with_reducible refine hm_new ?_; (first | rfl | (simp; done) | (simp [more_size]; done) | (simp [more_size]; omega))) | (with_reducible refine block_alloc ?_) | (with_reducible refine hm_more ?_) | (with_reducible refine hm_drew ?_)))
    have hBx : Below w.heap.size w (w1.alloc (.cells #[.int .i64 c, .slice a n p, .bool b] 25)) := HB1.out.alloc HB1.out.size _
    clear cD lD mD oD qD
    generalize (w1.alloc (.cells #[.int .i64 c, .slice a n p, .bool b] 25)) = wx at *
    have KDx := Lib.hid kDx
    have KWx := Lib.hid kWx
    have HBx := Lib.hid hBx
    have cDx := cell_block kDx
    have oDx := block_lt kDx
    have qDx : Old wx w.heap.size := oDx
    have oWx := block_lt kWx
    have qWx : Old wx w1.heap.size := oWx
    clear kDx kWx hBx
    go_wp2_with (first
      | (at_builtin; refine wpList_append_rdF rfl (.tmp 15) (.tmp 17) 23 rfl wx.heap.size 38 i0 (.agg #[.int .i8 0, .int .i64 0, .int .i64 0, .int .i64 0, .string ⟨#[]⟩, .int .i64 0]) 6 56 Try.underlying23 hi hz0 hz1 hz2 rfl (by decide) _ 0 [] rfl (owns_empty' wx) _ n (ltCells l) rfl ?e1 (ltCells_one l) (by omega) (by omega) (by simp) ?_))
    case e1 => exact RdF.below HRN.out (by have hb := HBx.out; (repeat' (first | (with_reducible exact Below.refl _ _) | (with_reducible assumption) | (with_reducible refine Below.drew ?_) | (with_reducible refine Below.alloc ?_ ?_ _) | (with_reducible refine below_more ?_ ?_ _ _) | (with_reducible refine Below.setCell ?_ ?_ _) | (with_reducible refine Below.trans ?_ (Below.mono (by assumption) ?_)))) <;> first | omega | (simp; done) | (simp; omega) | (simp [more_size]; done) | (simp [more_size]; omega))
    intro v' w2 hown hgrow
    have hb2 : Below wx.heap.size wx w2 := ((Below.refl _ wx).alloc (Nat.le_refl _) _).grown hgrow (by simp) (fun j hj => by cases hj; exact Nat.le_refl _)
    have hown' : w2.ownsRow wx.heap.size 38 6 v' n (ltCells l) := by simpa using hown
    obtain ⟨a', p', rfl⟩ := (RdF.of_owns hown').shape
    have k1 := block_keep' hb2 KWx.out
    have k2 := block_keep' hb2 KDx.out
    have c1 := cell_block k1
    have f1 := free_block k1
    have o1 := block_lt k1
    have q1 : Old w2 w1.heap.size := o1
    have hne : w.heap.size ≠ w1.heap.size := by have := block_lt KD.out; omega
    have KWz := Lib.hid (show (w2.setCell ⟨w1.heap.size, 1, none⟩ (.slice a' n p')).heap[w1.heap.size]? = some (.cells #[.int .i64 c, .slice a' n p', .bool b] 25) by simpa using blk_set (i := 1) (v := .slice a' n p') k1)
    have KDz := Lib.hid (show (w2.setCell ⟨w1.heap.size, 1, none⟩ (.slice a' n p')).heap[w.heap.size]? = some (.cells #[.int .i64 c, .slice a n p, .bool b] 25) from block_set k2 hne)
    have HBz := Lib.hid (show Below w.heap.size w (w2.setCell ⟨w1.heap.size, 1, none⟩ (.slice a' n p')) from (HBx.out.trans (hb2.mono HBx.out.size)).setCell (p := ⟨w1.heap.size, 1, none⟩) HB1.out.size _)
    have HRz := Lib.hid (show RdL (w2.setCell ⟨w1.heap.size, 1, none⟩ (.slice a' n p')) (.slice a' n p') l from rd_owns (owns_same (w' := w2.setCell ⟨w1.heap.size, 1, none⟩ (.slice a' n p')) hown' (fun k hk => Below.heap_setCell _ _ _ k (fun e => by simp at e; omega))) HN.out)
    clear hown hown' hgrow hb2 k1 k2 cDx oDx qDx oWx qWx
    go_upto_region 5 with fail
    generalize (w2.setCell ⟨w1.heap.size, 1, none⟩ (.slice a' n p')) = wz at *
    have cDz := cell_block KDz.out
    have lDz := blk_of KDz.out
    have mDz : Has wz w.heap.size 3 := has_of KDz.out
    have oDz := block_lt KDz.out
    have qDz : Old wz w.heap.size := oDz
    clear c1 f1 o1 q1
    go_wp2_with fail
    refine (enter8_any c a n p b l _ (HL.out.below HBz.out) hc hc2 h200).mono ?_
    rintro r w3 ⟨c1, a1, n1, p1, b1, e1, rfl, hn1, hr1, hb3⟩
    have HR1 := Lib.hid hr1
    have HB3 := Lib.hid hb3
    have KD3 := Lib.hid (block_keep' hb3 KDz.out)
    have hz3 : wz.heap.size ≤ w3.heap.size := hb3.size
    have lD3 := blk_of KD3.out
    have mD3 : Has w3 w.heap.size 3 := has_of KD3.out
    have oD3 := block_lt KD3.out
    have qD3 : Old w3 w.heap.size := oD3
    clear hr1 hb3 cDz lDz mDz oDz qDz
    go_wp2_with fail
    refine (leave9_any c a n p b l _ (HL.out.below (HBz.out.trans ((HB3.out.alloc hz3 _).mono HBz.out.size))) h200).mono ?_
    rintro r w4 ⟨c2, a2, n2, p2, b2, e2, rfl, hn2, hr2, hb4⟩
    have HR2 := Lib.hid (hr2.base (show wz.heap.size ≤ _ by simp; omega))
    have HR1' := Lib.hid ((HR1.out.below (show Below w3.heap.size w3 w4 by (repeat' (first | (with_reducible exact Below.refl _ _) | (with_reducible assumption) | (with_reducible refine Below.drew ?_) | (with_reducible refine Below.alloc ?_ ?_ _) | (with_reducible refine below_more ?_ ?_ _ _) | (with_reducible refine Below.setCell ?_ ?_ _) | (with_reducible refine Below.trans ?_ (Below.mono (by assumption) ?_)))) <;> first | omega | (simp; done) | (simp; omega) | (simp [more_size]; done) | (simp [more_size]; omega))))
    have KA4 := Lib.hid (show w4.heap[w3.heap.size]? = some (.cells #[.int .i64 c1, .slice a1 n1 p1, .bool b1] 25) from block_keep' hb4 (by (repeat' (first | (with_reducible assumption) | (with_reducible refine hm_new ?_; (first | rfl | (simp; done) | (simp [more_size]; done) | (simp [more_size]; omega))) | (with_reducible refine block_alloc ?_) | (with_reducible refine hm_more ?_) | (with_reducible refine hm_drew ?_)))))
    have HB4 := Lib.hid (HB3.out.trans ((show Below w3.heap.size w3 w4 by (repeat' (first | (with_reducible exact Below.refl _ _) | (with_reducible assumption) | (with_reducible refine Below.drew ?_) | (with_reducible refine Below.alloc ?_ ?_ _) | (with_reducible refine below_more ?_ ?_ _ _) | (with_reducible refine Below.setCell ?_ ?_ _) | (with_reducible refine Below.trans ?_ (Below.mono (by assumption) ?_)))) <;> first | omega | (simp; done) | (simp; omega) | (simp [more_size]; done) | (simp [more_size]; omega)).mono hz3))
    clear hr2 hb4 lD3 mD3 oD3 qD3
    go_upto_region 7 with fail
    have KAs := Lib.hid (show (w4.alloc (.cells #[.int .i64 c2, .slice a2 n2 p2, .bool b2] 25)).heap[w3.heap.size]? = some (.cells #[.int .i64 c1, .slice a1 n1 p1, .bool b1] 25) from block_alloc KA4.out)
    have KBs := Lib.hid (show (w4.alloc (.cells #[.int .i64 c2, .slice a2 n2 p2, .bool b2] 25)).heap[w4.heap.size]? = some (.cells #[.int .i64 c2, .slice a2 n2 p2, .bool b2] 25) by (repeat' (first | (with_reducible assumption) | (with_reducible refine hm_new ?_; (first | rfl | (simp; done) | (simp [more_size]; done) | (simp [more_size]; omega))) | (with_reducible refine block_alloc ?_) | (with_reducible refine hm_more ?_) | (with_reducible refine hm_drew ?_))))
    have HBs := Lib.hid (show Below wz.heap.size wz (w4.alloc (.cells #[.int .i64 c2, .slice a2 n2 p2, .bool b2] 25)) from HB4.out.alloc HB4.out.size _)
    have HR1s := Lib.hid (HR1'.out.below (show Below w4.heap.size w4 (w4.alloc (.cells #[.int .i64 c2, .slice a2 n2 p2, .bool b2] 25)) from (Below.refl _ _).alloc (Nat.le_refl _) _))
    have HR2s := Lib.hid (HR2.out.below (show Below w4.heap.size w4 (w4.alloc (.cells #[.int .i64 c2, .slice a2 n2 p2, .bool b2] 25)) from (Below.refl _ _).alloc (Nat.le_refl _) _))
    generalize (w4.alloc (.cells #[.int .i64 c2, .slice a2 n2 p2, .bool b2] 25)) = ws at *
    go_wp2_with fail
    go_loopw [8] (OwnR wz w3.heap.size w4.heap.size n1 (.cells #[.int .i64 c1, .slice a1 n1 p1, .bool b1] 25) (.cells #[.int .i64 c2, .slice a2 n2 p2, .bool b2] 25) (.slice a1 n1 p1) (.slice a2 n2 p2) n1 n2) (fun i _ => n1 - (intOf i).toNat)
    case atStart => exact ⟨0, Nat.zero_le _, rfl, KAs.out, KBs.out, HR1s.out, HR2s.out, HBs.out⟩
    case round =>
      obtain ⟨k, hk, rfl, kA, kB, hr1, hr2, hbr⟩ := hrel
      have KA := Lib.hid kA
      have KB := Lib.hid kB
      have HR1r := Lib.hid hr1
      have HR2r := Lib.hid hr2
      have HBR := Lib.hid hbr
      have cA := cell_block kA
      have oA := block_lt kA
      have qA : Old wr w3.heap.size := oA
      clear kA kB hr1 hr2 hbr
      by_cases hlt : k < n1
      · have hi' : (k : Int) < (n1 : Int) := by omega
        have hi0 : (0 : Int) ≤ (k : Int) := by omega
        obtain ⟨g, pg, cs, hg0, hg1, hg2, hg3⟩ := (show NumRow wr wz.heap.size (.slice a1 n1 p1) n1 from HR1r.out).resolve_left (by omega)
        obtain ⟨x, hx⟩ := hg3 k hlt
        have ha : a1 = some ⟨g, 0, none⟩ := by cases hg0; rfl
        clear hg0
        subst ha
        have cg : wr.cell? ⟨g, k * 6 + 2, none⟩ = some (.int .i64 x) := by rw [cell_block hg2]; exact hx
        have fg := free_block hg2
        have og := block_lt hg2
        have qg : Old wr g := og
        have hneA : w3.heap.size ≠ g := by
          rintro rfl
          have := KA.out.symm.trans hg2
          simp at this
        have hneB : w4.heap.size ≠ g := by
          rintro rfl
          have := KB.out.symm.trans hg2
          simp at this
        clear hg2 hg3 hx
        go_wp2_with fail
        go_still_tail 12, (by kernel_rfl)
        change wpList _ _ _ _ _ wr.drew
        have KA5 : Hid (wr.drew.heap[w3.heap.size]? = _) := KA
        have KB5 : Hid (wr.drew.heap[w4.heap.size]? = _) := KB
        have HR15 : Hid (NumRow wr.drew wz.heap.size _ n1) := HR1r
        have HR25 : Hid (NumRow wr.drew wz.heap.size _ n2) := HR2r
        have HB5 : Hid (Below wz.heap.size wz wr.drew) := Lib.hid (Below.drew HBR.out)
        have cA5 : ∀ o, wr.drew.cell? ⟨w3.heap.size, o, none⟩ = _ := cA
        have cg5 : wr.drew.cell? ⟨g, k * 6 + 2, none⟩ = some (.int .i64 x) := cg
        have fg5 : ∀ o, wr.drew.frozen? ⟨g, o, none⟩ = false := fg
        have og5 : g < wr.drew.heap.size := og
        have qg5 : Old wr.drew g := og
        clear cA oA qA cg fg og qg
        generalize wr.drew = w5 at *
        go_wp2_with fail
        go_roundw
        case rel => exact ⟨k + 1, by omega, by go_num, block_set KA5.out hneA, block_set KB5.out hneB, HR15.out.set _ _ _, HR25.out.set _ _ _, HB5.out.setCell (p := ⟨g, k * 6 + 2, none⟩) hg1 _⟩
        case measure => first | (simp [intOf]; done) | (simp [intOf]; omega)
      · have hi' : ¬ (k : Int) < (n1 : Int) := by omega
        go_wp2_with fail
        clear cA oA qA
        go_loopw [9] (OwnR wz w3.heap.size w4.heap.size n2 (.cells #[.int .i64 c1, .slice a1 n1 p1, .bool b1] 25) (.cells #[.int .i64 c2, .slice a2 n2 p2, .bool b2] 25) (.slice a1 n1 p1) (.slice a2 n2 p2) n1 n2) (fun i _ => n2 - (intOf i).toNat)
        case atStart => exact ⟨0, Nat.zero_le _, rfl, KA.out, KB.out, HR1r.out, HR2r.out, HBR.out⟩
        case round =>
          obtain ⟨k, hk, rfl, kA, kB, hr1, hr2, hbr⟩ := hrel
          have KA := Lib.hid kA
          have KB := Lib.hid kB
          have HR1r := Lib.hid hr1
          have HR2r := Lib.hid hr2
          have HBR := Lib.hid hbr
          have cA := cell_block kB
          have oA := block_lt kB
          have qA : Old wr w4.heap.size := oA
          clear kA kB hr1 hr2 hbr
          by_cases hlt : k < n2
          · have hi' : (k : Int) < (n2 : Int) := by omega
            have hi0 : (0 : Int) ≤ (k : Int) := by omega
            obtain ⟨g, pg, cs, hg0, hg1, hg2, hg3⟩ := (show NumRow wr wz.heap.size (.slice a2 n2 p2) n2 from HR2r.out).resolve_left (by omega)
            obtain ⟨x, hx⟩ := hg3 k hlt
            have ha : a2 = some ⟨g, 0, none⟩ := by cases hg0; rfl
            clear hg0
            subst ha
            have cg : wr.cell? ⟨g, k * 6 + 2, none⟩ = some (.int .i64 x) := by rw [cell_block hg2]; exact hx
            have fg := free_block hg2
            have og := block_lt hg2
            have qg : Old wr g := og
            have hneA : w3.heap.size ≠ g := by
              rintro rfl
              have := KA.out.symm.trans hg2
              simp at this
            have hneB : w4.heap.size ≠ g := by
              rintro rfl
              have := KB.out.symm.trans hg2
              simp at this
            clear hg2 hg3 hx
            go_wp2_with fail
            go_still_tail 12, (by kernel_rfl)
            change wpList _ _ _ _ _ wr.drew
            have KA5 : Hid (wr.drew.heap[w3.heap.size]? = _) := KA
            have KB5 : Hid (wr.drew.heap[w4.heap.size]? = _) := KB
            have HR15 : Hid (NumRow wr.drew wz.heap.size _ n1) := HR1r
            have HR25 : Hid (NumRow wr.drew wz.heap.size _ n2) := HR2r
            have HB5 : Hid (Below wz.heap.size wz wr.drew) := Lib.hid (Below.drew HBR.out)
            have cA5 : ∀ o, wr.drew.cell? ⟨w4.heap.size, o, none⟩ = _ := cA
            have cg5 : wr.drew.cell? ⟨g, k * 6 + 2, none⟩ = some (.int .i64 x) := cg
            have fg5 : ∀ o, wr.drew.frozen? ⟨g, o, none⟩ = false := fg
            have og5 : g < wr.drew.heap.size := og
            have qg5 : Old wr.drew g := og
            clear cA oA qA cg fg og qg
            generalize wr.drew = w5 at *
            go_wp2_with fail
            go_roundw
            case rel => exact ⟨k + 1, by omega, by go_num, block_set KA5.out hneA, block_set KB5.out hneB, HR15.out.set _ _ _, HR25.out.set _ _ _, HB5.out.setCell (p := ⟨g, k * 6 + 2, none⟩) hg1 _⟩
            case measure => first | (simp [intOf]; done) | (simp [intOf]; omega)
          · have hi' : ¬ (k : Int) < (n2 : Int) := by omega
            have kW := block_keep' HBR.out KWz.out
            have kD := block_keep' HBR.out KDz.out
            have lW := blk_of kW
            have mW : Has wr w1.heap.size 3 := has_of kW
            have oW := block_lt kW
            have qW : Old wr w1.heap.size := oW
            have lD := blk_of kD
            have mD : Has wr w.heap.size 3 := has_of kD
            have oD := block_lt kD
            have qD : Old wr w.heap.size := oD
            have HBF := Lib.hid (HBz.out.trans (HBR.out.mono HBz.out.size))
            clear kW kD
            go_wp2_with fail
            refine (same15 c b a a' n p p' l _ (by omega) (HL.out.below HBF.out) (HRz.out.below HBR.out)).mono ?_
            rintro r w6 ⟨rfl, hb6⟩
            have HB6 := Lib.hid (HBF.out.trans (hb6.mono HBF.out.size))
            clear hb6 cA oA qA lW mW oW qW lD mD oD qD
            go_wp2_with fail
            refine (wakes7 _).mono ?_
            rintro r w7 ⟨rfl, hb⟩
            have hB := HB6.out.trans (hb.mono HB6.out.size)
            go_wp2_with fail
            go_ret
            exact ⟨rfl, hB⟩
end Go.Proofs.Ytmggibmpljoacaa
