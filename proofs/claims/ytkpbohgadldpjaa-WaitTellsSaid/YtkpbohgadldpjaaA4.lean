
/- Walks of the seat of chapter 23: Serve: a loop over an iterator. -/
import Derived.Test.YtkpbohgadldpjaaA3
import Derived.RangeFuncBox
import Derived.RangeFuncNested
import Derived.RangeFuncLeaves
import Derived.Shelf.Abstract
import Derived.OwnWalkIn
import Derived.TacticsInMore
import Derived.LoopNIn
import Derived.LoopIn
import Derived.Maps.AppendAt
import Derived.RegionIn
import Derived.Stop.RegionWithIn
import Derived.BigRegionIn
import Derived.Test.YtkpbohgadldpjaaHeadIn
namespace Go.Proofs.Ytkpbohgadldpjaa
open Go.RowKit
attribute [local go_sem ↓] Go.wp_at_zero Go.wp_at_succ
attribute [local go_sem] more_size cell_more_old frozen_more_old setCell_more_old more_drew drew_more old_alloc old_more old_drew old_setCell cell_alloc_old frozen_alloc_old setCell_alloc_old
open Go.Shelf
attribute [local go_sem] Oper.semAt_some

theorem wpIn_at_zero {F : Fence} {n : Nat} {P : Program} {o : Oper} {l : List Oper} {h : 0 < (o :: l).toArray.size} {a : Act} {w : World} {K : Act → World → Prop} {Q : Exit → Act → World → Prop} : Go.Oper.wpIn F n P ((o :: l).toArray[0]'h) a w K Q = Go.Oper.wpIn F n P o a w K Q := rfl
theorem wpIn_at_succ {F : Fence} {m : Nat} {P : Program} {o : Oper} {l : List Oper} {n : Nat} {h : n + 1 < (o :: l).toArray.size} {a : Act} {w : World} {K : Act → World → Prop} {Q : Exit → Act → World → Prop} : Go.Oper.wpIn F m P ((o :: l).toArray[n + 1]'h) a w K Q = Go.Oper.wpIn F m P (l.toArray[n]'(by simpa using h)) a w K Q := rfl
attribute [local go_sem ↓] wpIn_at_zero wpIn_at_succ

/-- Who is served what, of k rounds. -/
def prs (l s : List Int) (k : Nat) : List (Int × Int) := (List.range k).map fun j => (l[j]?.getD 0, s[j]?.getD 0)
theorem prs_succ (l s : List Int) (k : Nat) : prs l s (k + 1) = prs l s k ++ [(l[k]?.getD 0, s[k]?.getD 0)] := by simp [prs, List.range_succ]
theorem prs_length (l s : List Int) (k : Nat) : (prs l s k).length = k := by simp [prs]

theorem two_ways {A B : World → Prop} {e : Ending} {W : World} (h : (e = .returned (.bool true) ∧ A W) ∨ (e = .returned (.bool false) ∧ B W)) : ∃ c : Bool, e = .returned (.bool c) ∧ ((c = true ∧ A W) ∨ (c = false ∧ B W)) := by
  rcases h with ⟨h1, h2⟩ | ⟨h1, h2⟩
  · exact ⟨true, h1, .inl ⟨rfl, h2⟩⟩
  · exact ⟨false, h1, .inr ⟨rfl, h2⟩⟩

/-- What a round of the caller's keeps: what lay below n₀, and the two boxes. -/
def KpP (n₀ Bl Bs : Nat) (W W' : World) : Prop := Below n₀ W W' ∧ W'.cell? ⟨Bl, 0, none⟩ = W.cell? ⟨Bl, 0, none⟩ ∧ W'.cell? ⟨Bs, 0, none⟩ = W.cell? ⟨Bs, 0, none⟩
theorem KpP.refl (n₀ Bl Bs : Nat) (W : World) : KpP n₀ Bl Bs W W := ⟨Below.refl _ _, rfl, rfl⟩
theorem KpP.trans {n₀ Bl Bs : Nat} {A B C : World} (h : KpP n₀ Bl Bs A B) (k : KpP n₀ Bl Bs B C) : KpP n₀ Bl Bs A C := ⟨h.1.trans k.1, k.2.1.trans h.2.1, k.2.2.trans h.2.2⟩
theorem KpP.drew {n₀ Bl Bs : Nat} {A B : World} (h : KpP n₀ Bl Bs A B) : KpP n₀ Bl Bs A B.drew := ⟨h.1.drew, h.2.1, h.2.2⟩

set_option maxRecDepth 100000 in
set_option maxHeartbeats 4000000 in
/-- The iterator's text: for every loop body that keeps what lay below n₀. -/
theorem pairs33 (F : Fence) (n : Nat) (h33 : F.fn 33) (hro : F.round = none) (hn : 1 ≤ n) (lp Bl Bs n₀ : Nat) (vl vs : Value) (l s : List Int) (hl : l.length ≤ 1000) (hs : s.length ≤ 1000) (J Jx : List (Int × Int) → World → Prop)
    (B0 : Nat) (hJ : AbidesFrom B0 J) (hY : ∀ pre x W, J pre W → pre.length < min l.length s.length → YieldAt F (n - 1) Try.prog lp #[.int .i64 x.1, .int .i64 x.2] W fun e W' =>
      (e = .returned (.bool true) ∧ J (pre ++ [x]) W' ∧ KpP n₀ Bl Bs W W') ∨ (e = .returned (.bool false) ∧ Jx (pre ++ [x]) W'))
    (W : World) (hBl : W.cell? ⟨Bl, 0, none⟩ = some vl) (hBs : W.cell? ⟨Bs, 0, none⟩ = some vs)
    (b o c b' o' c' : Nat) (e1 : vl = .slice (some ⟨b, o, none⟩) l.length c) (e2 : vs = .slice (some ⟨b', o', none⟩) s.length c') (hb : b < n₀) (hb' : b' < n₀)
    (hx : ∀ j x, l[j]? = some x → W.cell? ⟨b, o + j, none⟩ = some (.int .i64 x)) (hx' : ∀ j x, s[j]? = some x → W.cell? ⟨b', o' + j, none⟩ = some (.int .i64 x)) (h0 : J [] W) :
    CallsIn F n Try.prog 33 #[.func (.yield lp) #[] #[], .pointer (some ⟨Bl, 0, none⟩), .pointer (some ⟨Bs, 0, none⟩)] W fun e W' => (∃ v, e = .returned v) ∧
      ((∃ ys, ys = prs l s (min l.length s.length) ∧ J ys W') ∨ (∃ pre, (∃ k, k ≤ min l.length s.length ∧ pre = prs l s k) ∧ Jx pre W')) := by
  subst e1 e2
  have HX := Lib.hid hx
  have HX' := Lib.hid hx'
  clear hx hx'
  obtain ⟨m, hm⟩ : ∃ m, min l.length s.length = m := ⟨_, rfl⟩
  have hm1 : m ≤ l.length := by omega
  have hm2 : m ≤ s.length := by omega
  rw [hm] at hY ⊢
  have hcase : ((s.length : Int) < (l.length : Int) ∧ Hid (m = s.length)) ∨ ((l.length : Int) ≤ (s.length : Int) ∧ Hid (m = l.length)) := by
    rcases Nat.lt_or_ge s.length l.length with h | h
    · exact .inl ⟨by omega, by show m = _; omega⟩
    · exact .inr ⟨by omega, by show m = _; omega⟩
  clear hm
  rcases hcase with ⟨hc, HM⟩ | ⟨hc, HM⟩
  all_goals
    refine callsIn_of_wp Try.func33 rfl h33 ?_ hro
    simp only [Try.ntmps33, List.size_toArray, List.length_cons, List.length_nil, Nat.reduceAdd, Nat.reduceSub, Array.replicate_succ, Array.replicate_zero, List.push_toArray, List.append_toArray, List.nil_append, List.cons_append]
    gi_wp2
    gi_loopw [10] (fun i wr => ∃ k : Nat, k ≤ m ∧ i = .int .i64 k ∧ J (prs l s k) wr ∧ KpP n₀ Bl Bs W wr) (fun i _ => m - (intOf i).toNat)
    case atStart => exact ⟨0, Nat.zero_le _, rfl, h0, KpP.refl _ _ _ _⟩
    case round =>
      obtain ⟨k, hk, rfl, hJs, hnx⟩ := hrel
      by_cases hlt : k < m
      · have hkl : k < l.length := by omega
        have hks : k < s.length := by omega
        obtain ⟨x, hxk⟩ : ∃ x, l[k]? = some x := ⟨l[k], List.getElem?_eq_getElem hkl⟩
        obtain ⟨y, hyk⟩ : ∃ y, s[k]? = some y := ⟨s[k], List.getElem?_eq_getElem hks⟩
        have k1 : wr.cell? ⟨b, o + k, none⟩ = some (.int .i64 x) := (hnx.1.cell (p := ⟨b, o + k, none⟩) hb).trans (HX.out k x hxk)
        have k2 : wr.cell? ⟨b', o' + k, none⟩ = some (.int .i64 y) := (hnx.1.cell (p := ⟨b', o' + k, none⟩) hb').trans (HX'.out k y hyk)
        have k3 : wr.cell? ⟨Bl, 0, none⟩ = some (.slice (some ⟨b, o, none⟩) l.length c) := hnx.2.1.trans hBl
        have k4 : wr.cell? ⟨Bs, 0, none⟩ = some (.slice (some ⟨b', o', none⟩) s.length c') := hnx.2.2.trans hBs
        have hJd : J (prs l s k) wr.drew := hJ _ wr wr.drew none hJs ⟨rfl, rfl, rfl, Nat.le_refl _, fun _ _ _ => rfl⟩ (fun r e => by cases e)
        obtain ⟨fn, tmps, assign, body, hy, hR⟩ := hY _ (x, y) wr.drew hJd (by rw [prs_length]; exact hlt)
        dsimp only at hy
        have HK : Hid (prs l s (k + 1) = prs l s k ++ [(x, y)]) := by show prs l s (k + 1) = _; rw [prs_succ, hxk, hyk]; rfl
        have HNX := Lib.hid hnx
        have HJS := Lib.hid hJs
        have i1 : (k : Int) < (l.length : Int) := by omega
        have i2 : (k : Int) < (s.length : Int) := by omega
        clear hxk hyk hnx hJs hJd hBl hBs
        gi_wp2
        refine wpIn_region_head (N := 9) (D := fun i => 13 + i) (v := fun i => (#[.func (.yield lp) #[] #[], .slice (some ⟨b, o, none⟩) l.length c, .int .i64 k, .pointer (some ⟨b, o + k, none⟩), .int .i64 x, .slice (some ⟨b', o', none⟩) s.length c', .int .i64 k, .pointer (some ⟨b', o' + k, none⟩), .int .i64 y] : Array Value).getD i undef)
          (by kernel_rfl) (by kernel_rfl) (by kernel_rfl) (by kernel_rfl) (by simp) (by simp; omega) (by intro i j _ _ h; (try dsimp only at h); omega) ?_ ?_
        · intro i hi a K ho hd hk
          have hi9 : i = 0 ∨ i = 1 ∨ i = 2 ∨ i = 3 ∨ i = 4 ∨ i = 5 ∨ i = 6 ∨ i = 7 ∨ i = 8 := by omega
          have e0 := ho 0 (by intro i hi; omega)
          have e1 := ho 1 (by intro i hi; omega)
          have e2 := ho 2 (by intro i hi; omega)
          have e4 := ho 4 (by intro i hi; omega)
          clear ho
          simp only [List.getElem?_toArray, List.getElem?_cons_zero, List.getElem?_cons_succ] at e0 e1 e2 e4
          rcases hi9 with rfl | rfl | rfl | rfl | rfl | rfl | rfl | rfl | rfl
          · clear hd; refine wpOpIn_step rfl (fun K' hK => ?_); go_simp
            exact hK _ _ hk
          · clear hd; refine wpOpIn_step rfl (fun K' hK => ?_); go_simp
            exact hK _ _ hk
          · clear hd; refine wpOpIn_step rfl (fun K' hK => ?_); go_simp
            exact hK _ _ hk
          · have e14 := hd 1 (by omega) (by kernel_rfl); have e15 := hd 2 (by omega) (by kernel_rfl); clear hd; refine wpOpIn_step rfl (fun K' hK => ?_); go_simp
            exact hK _ _ hk
          · have e16 := hd 3 (by omega) (by kernel_rfl); clear hd; refine wpOpIn_step rfl (fun K' hK => ?_); go_simp
            exact hK _ _ hk
          · clear hd; refine wpOpIn_step rfl (fun K' hK => ?_); go_simp
            exact hK _ _ hk
          · clear hd; refine wpOpIn_step rfl (fun K' hK => ?_); go_simp
            exact hK _ _ hk
          · have e18 := hd 5 (by omega) (by kernel_rfl); have e19 := hd 6 (by omega) (by kernel_rfl); clear hd; refine wpOpIn_step rfl (fun K' hK => ?_); go_simp
            exact hK _ _ hk
          · have e20 := hd 7 (by omega) (by kernel_rfl); clear hd; refine wpOpIn_step rfl (fun K' hK => ?_); go_simp
            exact hK _ _ hk
        simp only [headAct, List.range_succ, List.range_zero, List.nil_append, List.cons_append, List.foldl_cons, List.foldl_nil]
        refine wpAnyIn_ready (rs := [9]) (by kernel_rfl) (by simp) ?_; refine AllReadyIn.cons rfl (fun K hK => ?_) AllReadyIn.nil; go_simp
        refine hR.mono ?_; rintro e W3 h3
        rcases h3 with ⟨rfl, hJ3, hk3⟩ | ⟨rfl, hJx3⟩
        · refine hK _ _ ?_; clear hK K
          refine wpAnyIn_ready (rs := [10]) (by kernel_rfl) (by simp) ?_; refine AllReadyIn.cons rfl (fun K hK => ?_) AllReadyIn.nil; go_simp
          refine hK _ _ ?_; clear hK K
          refine wpAnyIn_done (by kernel_rfl) ?_ _
          gi_wp2
          go_roundw
          case rel => exact ⟨k + 1, by omega, by go_num, by rw [HK.out]; exact hJ3, (HNX.out.drew).trans hk3⟩
          case measure => simp [intOf]; omega
        · refine hK _ _ ?_; clear hK K
          refine wpAnyIn_ready (rs := [10]) (by kernel_rfl) (by simp) ?_; refine AllReadyIn.cons rfl (fun K hK => ?_) AllReadyIn.nil; go_simp
          refine hK _ _ ?_; clear hK K
          refine wpAnyIn_done (by kernel_rfl) ?_ _
          gi_wp2
          refine bodyPost_ret (results_none rfl _ _ _) rfl ?_
          exact ⟨⟨_, rfl⟩, .inr ⟨_, ⟨k + 1, by omega, rfl⟩, by rw [HK.out]; exact hJx3⟩⟩
      · have hkm : k = m := by omega
        have hstop : ¬ k < m := hlt
        rw [HM.out] at hstop
        have HKM := Lib.hid hkm
        have HJS := Lib.hid hJs
        clear hkm hJs hBl hBs
        gi_wp2
        go_end0
        exact ⟨⟨_, rfl⟩, .inl ⟨_, rfl, by rw [← HKM.out]; exact HJS.out⟩⟩
end Go.Proofs.Ytkpbohgadldpjaa
