
/- Walks of the seat of chapter 23: the reference's Serve. -/
import Derived.Test.YtkpbohgadldpjaaA15
namespace Go.Proofs.Ytkpbohgadldpjaa
open Go.RowKit
attribute [local go_sem ↓] Go.wp_at_zero Go.wp_at_succ
attribute [local go_sem] more_size cell_more_old frozen_more_old setCell_more_old more_drew drew_more old_alloc old_more old_drew old_setCell cell_alloc_old frozen_alloc_old setCell_alloc_old

theorem step_append_own {P : Program} {ops : Array Oper} {o : Oper} {a : Act} {w : World} {K : Act → World → Prop} {Q : Exit → Act → World → Prop} {E : Prop} (hgd : o.guard = none) (s x : Operand) (t : TypeId)
    (ho : o.op = .call { callee := .builtin .append, args := #[s, x], argTypes := #[t, t] })
    (base : Nat) (e : TypeId) (i : TypeInfo) (z : Value) (size bytes : Nat) (ht : P.underlying t = some (.slice e)) (hi : P.info? e = some i) (hz : i.zero = some z) (hsize : i.size = size) (hby : i.bytes = bytes) (hzs : z.cells.size = size) (hsz : 0 < size)
    (v : Value) (n : Nat) (xs : List Value) (hs : a.eval s = v) (hown : w.ownsRow base e size v n xs)
    (ad : Addr) (m c : Nat) (news : List Value) (hx : a.eval x = .slice (some ad) m c) (hl : news.length = m * size) (hnews : ∀ j u, news[j]? = some u → w.cell? (ad.add j) = some u) (h1 : ∀ u ∈ news, u.oneCell' = true)
    (h63 : n + m ≤ maxLen) (hbytes : (n + m) * bytes ≤ 140737488355328) (hbase : base ≤ w.heap.size)
    (h : ∀ v' w', w'.ownsRow base e size v' (n + m) (xs ++ news) → w.grownBy w' v.ownBlock → K (a.put o.dst v') w') :
    if Region.wanted o (yielded ops a.tmps) = true then Oper.wp P o a w K Q else E := by
  have hw : Region.wanted o (yielded ops a.tmps) = true := by simp [Region.wanted, hgd]
  rw [if_pos hw]
  exact wp_append_own w s x t ho base e i z size bytes ht hi hz hsize hby hzs hsz v n xs hs hown ad m c news hx hl hnews h1 h63 hbytes hbase fun v' w' h1 h2 _ => h v' w' h1 h2

theorem owns_at {W : World} {X B e sz : Nat} (h : W.heap[X]? = some (.cells #[] e)) (hB : B ≤ X) : W.ownsRow B e sz (.slice (some ⟨X, 0, none⟩) 0 0) 0 [] :=
  ⟨by simp, .inr ⟨X, 0, #[], rfl, hB, h, Nat.le_refl _, by unfold maxLen; omega, by simp, by simp⟩⟩
/-- What one row holds, another, fresh and empty, having grown. -/
theorem rd_apart {W W4 : World} {X B : Nat} {v : Value} {l : List Int} {n : Nat} (h : W.ownsRow B 3 1 v n (l.map (Value.int .i64))) (hn : n = l.length) (hX : W.heap[X]? = some (.cells #[] 3)) (hg : W.grownBy W4 (some X)) : RdI W4 v l := by
  subst hn
  by_cases h0 : l = []
  · subst h0
    rcases RdI.of_owns h with h | ⟨hne, _⟩
    · exact .inl h
    · exact absurd rfl hne
  · refine RdI.of_owns (h.kept hg (.inr ?_))
    obtain ⟨_, ⟨rfl, hz⟩ | ⟨g, cap, cur, rfl, _, hgb, hn, _, hs, _⟩⟩ := h
    · exact absurd (List.length_eq_zero_iff.1 hz) h0
    · intro e
      obtain rfl : g = X := by simpa [Value.ownBlock] using e
      rw [hX] at hgb
      simp at hgb
      subst hgb
      simp at hs
      have : l.length = 0 := by omega
      exact h0 (List.length_eq_zero_iff.1 this)
theorem grown_block {w w3 : World} {B : Nat} {o : Obj} {row : Option Nat} (h : w.heap[B]? = some o) (hg : w.grownBy w3 row) (hne : some B ≠ row) : w3.heap[B]? = some o := (hg.block B (block_lt h) hne).trans h

set_option maxRecDepth 100000 in
set_option maxHeartbeats 4000000 in
theorem serve23 (v v' : Value) (l s : List Int) (m : Nat) (w : World) (hm : m = min l.length s.length) (hl : l.length ≤ 1000) (hs : s.length ≤ 1000) (h : RdI w v l) (h' : RdI w v' s) :
    Calls Try.prog 23 #[v, v'] w fun e W' => ∃ r a b, e = .returned (.tuple #[r, a, b]) ∧ RdR W' r (rpl (prs l s m)) ∧ RdI W' a (l.drop m) ∧ RdI W' b (s.drop m) ∧ Below w.heap.size w W' := by
  have hml : m ≤ l.length := by omega
  have hms : m ≤ s.length := by omega
  have hcase : ((s.length : Int) < (l.length : Int) ∧ Hid (m = s.length)) ∨ ((l.length : Int) ≤ (s.length : Int) ∧ Hid (m = l.length)) := by
    rcases Nat.lt_or_ge s.length l.length with h | h
    · exact .inl ⟨by omega, by show m = _; omega⟩
    · exact .inr ⟨by omega, by show m = _; omega⟩
  clear hm
  obtain ⟨i0, hi, hz0, hz1, hz2⟩ := info_parts info32
  obtain ⟨j0, hj, jz0, jz1, jz2⟩ := info_parts info3
  obtain ⟨a, c, rfl, hx⟩ := rdI_cases h
  obtain ⟨a', c', rfl, hx'⟩ := rdI_cases h'
  have H := Lib.hid h
  have H' := Lib.hid h'
  have HX := Lib.hid hx
  have HX' := Lib.hid hx'
  clear h h' hx hx'
  rcases hcase with ⟨hc, HM⟩ | ⟨hc, HM⟩
  all_goals
    go_enter Try.func23, Try.ntmps23
    go_wp2
    go_loopw [7, 9] (fun o i wr => ∃ k : Nat, k ≤ m ∧ i = .int .i64 k ∧ wr.ownsRow w.heap.size 32 3 o k (rpCells (rpl (prs l s k))) ∧ Below w.heap.size w wr) (fun _ i _ => m - (intOf i).toNat)
    case atStart => exact ⟨0, Nat.zero_le _, rfl, World.ownsRow_nil _ _ _ _, Below.refl _ _⟩
    case round =>
      obtain ⟨k, hk, rfl, hown, hbl⟩ := hrel
      have HO := Lib.hid hown
      have HB := Lib.hid hbl
      clear hown hbl
      by_cases hlt : k < m
      · have hkl : k < l.length := by omega
        have hks : k < s.length := by omega
        obtain ⟨x, hxk⟩ : ∃ x, l[k]? = some x := ⟨l[k], List.getElem?_eq_getElem hkl⟩
        obtain ⟨y, hyk⟩ : ∃ y, s[k]? = some y := ⟨s[k], List.getElem?_eq_getElem hks⟩
        obtain ⟨b, o, rfl, hb, hx⟩ := HX.out (fun e => by subst e; simp at hkl)
        obtain ⟨b', o', rfl, hb', hx'⟩ := HX'.out (fun e => by subst e; simp at hks)
        have k1 := hx k x hxk
        have k2 := hx' k y hyk
        have HK : Hid (rpl (prs l s (k + 1)) = rpl (prs l s k) ++ [⟨x, y, 0⟩]) := by show _ = _; rw [prs_succ, rpl_app, hxk, hyk]; rfl
        have i1 : (k : Int) < (l.length : Int) := by omega
        have i2 : (k : Int) < (s.length : Int) := by omega
        have i3 : (0 : Int) ≤ (k : Int) := by omega
        have hsz := HB.out.size
        have hk1000 : k ≤ 1000 := by omega
        clear hxk hyk hx hx' HX HX'
        go_wp2
        go_region_held3 (fun w' => (∀ b o, b < (w).heap.size → w'.cell? ⟨b, o, none⟩ = (w).cell? ⟨b, o, none⟩) ∧ Below ((w).heap.size) w w') (with_reducible first | assumption | exact cls_of HB.out.drew | exact cls_of ((HB.out.alloc hsz _).drew) | exact cls_of (by assumption))
          ((refine step_append_own rfl (.tmp 20) (.tmp 30) 25 rfl w.heap.size 32 i0 (.agg #[.int .i64 0, .int .i64 0, .int .i64 0]) 3 24 Try.underlying25 hi hz0 hz1 hz2 rfl (by decide) _ k _ (by rfl) ((HO.out.alloc _).drew) ⟨wr.heap.size, 0, none⟩ 1 1 [.int .i64 x, .int .i64 y, .int .i64 0] (by rfl) rfl (news_alloc wr [.int .i64 x, .int .i64 y, .int .i64 0] 32) (by intro u hu; simp at hu; rcases hu with rfl | rfl | rfl <;> rfl) (by unfold maxLen; omega) (by omega) (by simp; omega) ?_; intro v3 w3 hown3 hgrow3; have hb3 : Below w.heap.size w w3 := ((HB.out.alloc hsz _).drew).grown hgrow3 (by simp; omega) (fun j hj => ownBlock_ge HO.out hj)))
        have hown4 : w3.ownsRow w.heap.size 32 3 v3 (k + 1) (rpCells (rpl (prs l s (k + 1)))) := by rw [HK.out, rpCells_app]; exact hown3
        have HO4 := Lib.hid hown4
        have HB4 := Lib.hid hb3
        clear hown3 hown4 hb3 hgrow3
        go_wp2
        go_roundw
        case rel => exact ⟨k + 1, by omega, by go_num, HO4.out, HB4.out⟩
        case measure => simp [intOf]; omega
      · have hkm : k = m := by omega
        subst hkm
        have hsz := HB.out.size
        obtain rfl := HM.out
        clear HX HX'
        have q1 := run_cut22 a l.length c _ hml
        have q2 := run_cut22 a' s.length c' _ hms
        have HRR := Lib.hid (RdR.of_owns (l := rpl (prs l s _)) (by rw [rpl_len]; exact HO.out))
        have hA := (H.out.below HB.out).cut hml
        have hA' := (H'.out.below HB.out).cut hms
        try simp only [Nat.sub_self] at q1 q2 hA hA'
        have HA := Lib.hid hA
        have HA' := Lib.hid hA'
        clear hA hA'
        have hEE : (wr.alloc (.cells #[] 3)).heap[wr.heap.size]? = some (.cells #[] 3) := hm_new rfl
        have hE1 : ((wr.alloc (.cells #[] 3)).alloc (.cells #[] 3)).heap[wr.heap.size]? = some (.cells #[] 3) := block_alloc (hm_new rfl)
        have hE2 : ((wr.alloc (.cells #[] 3)).alloc (.cells #[] 3)).heap[wr.heap.size + 1]? = some (.cells #[] 3) := hm_new (by simp)
        have HEE := Lib.hid hEE
        have HE1 := Lib.hid hE1
        have HE2 := Lib.hid hE2
        clear hEE hE1 hE2
        go_wp2
        go_region_held3 (fun _ => True) (trivial) (first
          | ((refine step_append_rd rfl (.tmp 33) (.tmp 36) 22 rfl wr.heap.size 3 j0 Try.underlying22 hj jz0 jz1 jz2 (.slice (some ⟨wr.heap.size, 0, none⟩) 0 0) 0 [] (by rfl) (owns_at (W := (wr.alloc (.cells #[] 3)).drew) HEE.out (Nat.le_refl _)) _ _ (by rfl) (HA.out.below (((Below.refl _ wr).alloc (Nat.le_refl _) _).drew)) (by rw [List.length_drop]; omega) (by simp) ?_; intro v3 w3 hown3 hgrow3; have hb3 : Below wr.heap.size wr w3 := (((Below.refl _ wr).alloc (Nat.le_refl _) _).drew).grown hgrow3 (by simp) (fun j hj => by simp [Value.ownBlock] at hj; omega)))
          | ((refine step_append_rd rfl (.tmp 33) (.tmp 36) 22 rfl wr.heap.size 3 j0 Try.underlying22 hj jz0 jz1 jz2 (.slice (some ⟨wr.heap.size, 0, none⟩) 0 0) 0 [] (by rfl) (owns_at (W := ((wr.alloc (.cells #[] 3)).alloc (.cells #[] 3)).drew) HE1.out (Nat.le_refl _)) _ _ (by rfl) (HA.out.below ((((Below.refl _ wr).alloc (Nat.le_refl _) _).alloc (by simp) _).drew)) (by rw [List.length_drop]; omega) (by simp; omega) ?_; intro v3 w3 hown3 hgrow3; have hk3 := grown_block (w := ((wr.alloc (.cells #[] 3)).alloc (.cells #[] 3)).drew) HE2.out hgrow3 (by simp [Value.ownBlock]); have hb3 : Below wr.heap.size wr w3 := ((((Below.refl _ wr).alloc (Nat.le_refl _) _).alloc (by simp) _).drew).grown hgrow3 (by simp; omega) (fun j hj => by simp [Value.ownBlock] at hj; omega)))
          | ((refine step_append_rd rfl (.tmp 33) (.tmp 36) 22 rfl wr.heap.size 3 j0 Try.underlying22 hj jz0 jz1 jz2 (.slice (some ⟨wr.heap.size + 1, 0, none⟩) 0 0) 0 [] (by rfl) (owns_at (W := ((wr.alloc (.cells #[] 3)).alloc (.cells #[] 3)).drew) HE2.out (by omega)) _ _ (by rfl) (HA.out.below ((((Below.refl _ wr).alloc (Nat.le_refl _) _).alloc (by simp) _).drew)) (by rw [List.length_drop]; omega) (by simp; omega) ?_; intro v3 w3 hown3 hgrow3; have hk3 := grown_block (w := ((wr.alloc (.cells #[] 3)).alloc (.cells #[] 3)).drew) HE1.out hgrow3 (by simp [Value.ownBlock]); have hb3 : Below wr.heap.size wr w3 := ((((Below.refl _ wr).alloc (Nat.le_refl _) _).alloc (by simp) _).drew).grown hgrow3 (by simp; omega) (fun j hj => by simp [Value.ownBlock] at hj; omega)))
          | ((refine step_append_rd rfl (.tmp 38) (.tmp 41) 22 rfl wr.heap.size 3 j0 Try.underlying22 hj jz0 jz1 jz2 (.slice (some ⟨w3.heap.size, 0, none⟩) 0 0) 0 [] (by rfl) (owns_at (W := w3.alloc (.cells #[] 3)) (hm_new rfl) hb3.size) _ _ (by rfl) (HA'.out.below (hb3.alloc hb3.size _)) (by rw [List.length_drop]; omega) (by have := hb3.size; simp; omega) ?_; intro v4 w4 hown4 hgrow4; have hra := rd_apart (hown3.alloc (.cells #[] 3)) (by simp) (hm_new rfl) hgrow4; have hb4 : Below wr.heap.size wr w4 := (hb3.alloc hb3.size _).grown hgrow4 (by have := hb3.size; simp; omega) (fun j hj => by have := hb3.size; simp [Value.ownBlock] at hj; omega)))
          | ((refine step_append_rd rfl (.tmp 38) (.tmp 41) 22 rfl wr.heap.size 3 j0 Try.underlying22 hj jz0 jz1 jz2 (.slice (some ⟨wr.heap.size + 1, 0, none⟩) 0 0) 0 [] (by rfl) (owns_at (W := w3) hk3 (by omega)) _ _ (by rfl) (HA'.out.below hb3) (by rw [List.length_drop]; omega) hb3.size ?_; intro v4 w4 hown4 hgrow4; have hra := rd_apart hown3 (by simp) hk3 hgrow4; have hb4 : Below wr.heap.size wr w4 := hb3.grown hgrow4 hb3.size (fun j hj => by simp [Value.ownBlock] at hj; omega)))
          | ((refine step_append_rd rfl (.tmp 38) (.tmp 41) 22 rfl wr.heap.size 3 j0 Try.underlying22 hj jz0 jz1 jz2 (.slice (some ⟨wr.heap.size, 0, none⟩) 0 0) 0 [] (by rfl) (owns_at (W := w3) hk3 (Nat.le_refl _)) _ _ (by rfl) (HA'.out.below hb3) (by rw [List.length_drop]; omega) hb3.size ?_; intro v4 w4 hown4 hgrow4; have hra := rd_apart hown3 (by simp) hk3 hgrow4; have hb4 : Below wr.heap.size wr w4 := hb3.grown hgrow4 hb3.size (fun j hj => by simp [Value.ownBlock] at hj; omega))))
        all_goals
          simp only [Nat.zero_add, List.nil_append] at hown4
          have HRA := Lib.hid hra
          have HRB := Lib.hid (RdI.of_owns hown4)
          have HB4 := Lib.hid hb4
          clear hra hown3 hown4 hgrow3 hgrow4 hb3 hb4 q1 q2
          go_wp2
          go_ret3
          exact ⟨_, _, _, rfl, HRR.out.below HB4.out, HRA.out, HRB.out, HB.out.trans (HB4.out.mono hsz)⟩
end Go.Proofs.Ytkpbohgadldpjaa
