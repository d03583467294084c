
/- Walks of the seat of chapter 23: the references' Join, Next, Quit, Tell, Waits. -/
import Derived.Test.YtkpbohgadldpjaaA12
import Derived.Test.YtkpbohgadldpjaaA9
namespace Go.Proofs.Ytkpbohgadldpjaa
open Go.RowKit
attribute [local go_sem ↓] Go.wp_at_zero Go.wp_at_succ
attribute [local go_sem] more_size cell_more_old frozen_more_old setCell_more_old more_drew drew_more old_alloc old_more old_drew old_setCell cell_alloc_old frozen_alloc_old setCell_alloc_old

theorem cls_grown {w a w' : World} {row : Option Nat} (h : (∀ b o, b < w.heap.size → a.cell? ⟨b, o, none⟩ = w.cell? ⟨b, o, none⟩) ∧ Below w.heap.size w a) (hg : a.grownBy w' row) (hr : ∀ k, row = some k → w.heap.size ≤ k) :
    (∀ b o, b < w.heap.size → w'.cell? ⟨b, o, none⟩ = w.cell? ⟨b, o, none⟩) ∧ Below w.heap.size w w' := cls_of (h.2.grown hg h.2.size hr)

set_option maxHeartbeats 4000000 in
theorem join18 (v u : Value) (l cs : List Int) (most : Int) (w : World) (hl : l.length ≤ 1000) (hcs : cs.length ≤ 1000) (h : RdI w v l) (hu : RdI w u cs) :
    Calls Try.prog 18 #[v, .int .i64 most, u] w fun r w' => ∃ v', r = .returned (.tuple #[v', .int .i64 (joinL most l cs).2]) ∧ w'.ownsRow w.heap.size 3 1 v' (joinL most l cs).1.length ((joinL most l cs).1.map (Value.int .i64)) ∧ Below w.heap.size w w' := by
  obtain ⟨i0, hi, hz0, hz1, hz2⟩ := info_parts info3
  obtain ⟨a, c, rfl, hx⟩ := rdI_cases hu
  have HX := Lib.hid hx
  have H := Lib.hid h
  clear hu hx h
  generalize hJ : joinL most l cs = J
  have HJ := Lib.hid hJ
  clear hJ
  go_enter Try.func18, Try.ntmps18
  go_wp2_with (first
    | (at_builtin; refine wpList_append_rd rfl (.tmp 10) (.tmp 11) 22 rfl w.heap.size 3 i0 Try.underlying22 hi hz0 hz1 hz2 _ 0 [] rfl (owns_empty w _ 3 1 (Nat.le_refl _)) _ l rfl (H.out.below (by (repeat' (first | (with_reducible exact Below.refl _ _) | (with_reducible assumption) | (with_reducible refine Below.drew ?_) | (with_reducible refine Below.alloc ?_ ?_ _) | (with_reducible refine below_more ?_ ?_ _ _) | (with_reducible refine Below.setCell ?_ ?_ _) | (with_reducible refine Below.trans ?_ (Below.mono (by assumption) ?_)))) <;> first | omega | (simp; done) | (simp; omega) | (simp [more_size]; done) | (simp [more_size]; omega))) (by omega) (by simp) ?_))
  intro v1 w1 hown hgrow
  have hb : Below w.heap.size w w1 := ((Below.refl _ w).alloc (Nat.le_refl _) _).grown hgrow (by simp) (fun j hj => by cases hj; exact Nat.le_refl _)
  have hown' : w1.ownsRow w.heap.size 3 1 v1 l.length (l.map (Value.int .i64)) := by simpa using hown
  have HO := Lib.hid hown'
  have HB := Lib.hid hb
  clear hown hown' hgrow hb
  go_wp2_with fail
  go_loopw [8, 9] (fun o i wr => ∃ (k : Nat) (ol : List Int), k ≤ cs.length ∧ ol.length ≤ 1000 + k ∧ i = .int .i64 k ∧ joinL most ol (cs.drop k) = J ∧ wr.ownsRow w.heap.size 3 1 o ol.length (ol.map (Value.int .i64)) ∧ Below w.heap.size w wr)
    (fun _ i _ => cs.length - (intOf i).toNat)
  case atStart => exact ⟨0, l, Nat.zero_le _, by omega, rfl, HJ.out, HO.out, HB.out⟩
  case round =>
    obtain ⟨k, ol, hk, hol, rfl, hJk, hown, hbl⟩ := hrel
    have HJK := Lib.hid hJk
    have HO' := Lib.hid hown
    have HB' := Lib.hid hbl
    clear hJk hown hbl HO HB
    by_cases hk' : k < cs.length
    · obtain ⟨b, o, rfl, hb, hx⟩ := HX.out (fun e => by subst e; simp at hk')
      obtain ⟨z, hz⟩ : ∃ z, cs[k]? = some z := ⟨cs[k], List.getElem?_eq_getElem hk'⟩
      have hc : wr.cell? ⟨b, o + k, none⟩ = some (.int .i64 z) := (HB'.out.cell (p := ⟨b, o + k, none⟩) hb).trans (hx k z hz)
      have HS := Lib.hid (joinL_step (most := most) (o := ol) hz)
      clear hz hx HX
      obtain ⟨a8, c8, rfl⟩ := (RdI.of_owns HO'.out).shape
      by_cases hzo : z ∈ ol
      · have hE : Hid (J = (ol, 2)) := by show _ = _; rw [← HJK.out, HS.out, if_pos hzo]
        have hix := (idxV_has ol z).2 hzo
        clear hzo
        go_wp2_with fail
        refine (at32 _ ol z _ (by omega) (RdI.of_owns HO'.out)).mono ?_
        rintro r w2 ⟨rfl, rfl⟩
        go_wp2
        go_ret2
        exact ⟨_, by rw [hE.out]; rfl, by rw [hE.out]; exact HO'.out, HB'.out⟩
      · have hix : idxV ol z < 0 := by have := mt (idxV_has ol z).1 hzo; omega
        by_cases hm : most ≤ (ol.length : Int)
        · have hE : Hid (J = (ol, 230)) := by show _ = _; rw [← HJK.out, HS.out, if_neg hzo, if_pos hm]
          clear hzo
          go_wp2_with fail
          refine (at32 _ ol z _ (by omega) (RdI.of_owns HO'.out)).mono ?_
          rintro r w2 ⟨rfl, rfl⟩
          go_wp2
          go_ret2
          exact ⟨_, by rw [hE.out]; rfl, by rw [hE.out]; exact HO'.out, HB'.out⟩
        · have hE : Hid (joinL most (ol ++ [z]) (cs.drop (k + 1)) = J) := by show _ = _; rw [← HJK.out, HS.out, if_neg hzo, if_neg hm]
          have hm' : (ol.length : Int) < most := by omega
          clear hzo hm
          go_wp2_with fail
          refine (at32 _ ol z _ (by omega) (RdI.of_owns HO'.out)).mono ?_
          rintro r w2 ⟨rfl, rfl⟩
          have hsz := HB'.out.size
          go_wp2_with (first
            | (at_builtin; refine wpList_append_rd rfl (.tmp 32) (.tmp 37) 22 rfl w.heap.size 3 i0 Try.underlying22 hi hz0 hz1 hz2 _ _ _ rfl (HO'.out.alloc _) _ [z] rfl (by exact rdI_new _ [z] (by simp)) (by simp; omega) (by simp; omega) ?_))
          intro v' w3 hown' hgrow
          have hb3 : Below w.heap.size w w3 := (HB'.out.alloc hsz _).grown hgrow (by simp; omega) (fun j hj => ownBlock_ge HO'.out hj)
          have hown3 : w3.ownsRow w.heap.size 3 1 v' (ol ++ [z]).length ((ol ++ [z]).map (Value.int .i64)) := by simpa using hown'
          clear hown' hgrow hc
          go_wp2
          go_roundw
          case rel => exact ⟨k + 1, ol ++ [z], by omega, by simp; omega, by go_num, hE.out, hown3, hb3⟩
          case measure => simp [intOf]; omega
    · have hE : Hid (J = (ol, 0)) := by show _ = _; rw [← HJK.out, joinL_end (by omega)]
      go_wp2
      go_ret2
      exact ⟨_, by rw [hE.out]; rfl, by rw [hE.out]; exact HO'.out, HB'.out⟩

theorem next19_none (w : World) (a : Option Addr) (c : Nat) : Calls Try.prog 19 #[.slice a 0 c] w fun r w' => r = .returned (.tuple #[.int .i64 0, .slice none 0 0, .bool false]) ∧ w = w' := by
  go_enter Try.func19, Try.ntmps19
  go_wp2
  go_ret3
  exact ⟨rfl, rfl⟩

set_option maxRecDepth 100000 in
set_option maxHeartbeats 1000000 in
theorem next19 (v : Value) (l : List Int) (y : Int) (w : World) (hl : l.length + 1 ≤ 1000) (h : RdI w v (y :: l)) :
    Calls Try.prog 19 #[v] w fun r w' => ∃ v', r = .returned (.tuple #[.int .i64 y, v', .bool true]) ∧ w'.ownsRow w.heap.size 3 1 v' l.length (l.map (Value.int .i64)) ∧ Below w.heap.size w w' := by
  obtain ⟨i0, hi, hz0, hz1, hz2⟩ := info_parts info3
  have h' := h
  rcases h' with ⟨h0, _⟩ | ⟨hne, b, off, cap, rfl, hcap, hlt, hx⟩
  · cases h0
  have hc := hx 0 y rfl
  rw [Nat.add_zero] at hc
  have H := Lib.hid h
  have q1 := run_cut22 (some ⟨b, off, none⟩) (y :: l).length cap 1 (by simp)
  simp only [List.length_cons] at q1
  have q2 : ((1 : Nat) : Int) = 1 := rfl
  rw [q2] at q1
  clear h hx hne q2
  have hn : (0 : Int) < ((y :: l).length : Int) := by simp only [List.length_cons]; omega
  simp only [List.length_cons] at hn hcap ⊢
  go_enter Try.func19, Try.ntmps19
  go_wp2
  go_region_held3 (fun w' => (∀ b o, b < (w).heap.size → w'.cell? ⟨b, o, none⟩ = (w).cell? ⟨b, o, none⟩) ∧ Below ((w).heap.size) w w') (with_reducible first | assumption | exact cls_start | exact cls_of (((Below.refl _ w).alloc (Nat.le_refl _) _).drew) | exact cls_of (by assumption))
    ((refine step_append_rd rfl (.tmp 11) (.tmp 13) 22 rfl w.heap.size 3 i0 Try.underlying22 hi hz0 hz1 hz2 (.slice (some ⟨w.heap.size, 0, none⟩) 0 0) 0 [] (by rfl) (owns_empty w.drew w.heap.size 3 1 (Nat.le_refl _)) (.slice (cutA (some ⟨b, off, none⟩) 1 cap 1) l.length (cap - 1)) l (by rfl) ((H.out.cut (k := 1) (by simp)).below (((Below.refl _ w).drew).alloc (Nat.le_refl _) _)) (by omega) (by simp) ?_; intro v3 w3 hown3 hgrow3; have hb3 : Below w.heap.size w w3 := (((Below.refl _ w).alloc (Nat.le_refl _) _).drew).grown hgrow3 (by simp) (fun j hj => by simp [Value.ownBlock] at hj; omega)))
  go_wp2
  go_ret3
  exact ⟨_, rfl, by simpa using hown3, hb3⟩
set_option maxHeartbeats 400000 in
theorem tell21 (v : Value) (l : List Int) (e : Int) (w : World) (hl : l.length ≤ 1000) (h : RdI w v l) :
    Calls Try.prog 21 #[v, .int .i64 e] w fun r w' => ∃ v', r = .returned v' ∧ w'.ownsRow w.heap.size 32 3 v' (tellL e l).length (rpCells (tellL e l)) ∧ Below w.heap.size w w' := by
  rcases h with ⟨rfl, a, c, rfl, -⟩ | ⟨hne, b, off, cap, rfl, hcap, hlt, hx⟩
  · go_enter Try.func21, Try.ntmps21
    go_wp2
    refine wp_loop_rounds 1 ?_
    rw [rounds_succ]
    go_wp2
    go_ret
    exact ⟨_, rfl, World.ownsRow_nil _ _ _ _, Below.refl _ _⟩
  · have HX := Lib.hid hx
    clear hx
    have HN := Lib.hid hne
    clear hne
    obtain ⟨i0, hi, hz0, hz1, hz2⟩ := info_parts info32
    go_enter Try.func21, Try.ntmps21
    go_wp2
    go_loopw [5, 6] (fun o i wr => ∃ k : Nat, k ≤ l.length ∧ i = .int .i64 k ∧ wr.ownsRow w.heap.size 32 3 o (tellL e (l.take k)).length (rpCells (tellL e (l.take k))) ∧ Below w.heap.size w wr)
      (fun _ i _ => l.length - (intOf i).toNat)
    case atStart => exact ⟨0, Nat.zero_le _, rfl, World.ownsRow_nil _ _ _ _, Below.refl _ _⟩
    case round =>
      obtain ⟨k, hk, rfl, hown, hbl⟩ := hrel
      by_cases hk' : k < l.length
      · obtain ⟨z, hz⟩ : ∃ z, l[k]? = some z := ⟨l[k], List.getElem?_eq_getElem hk'⟩
        have hc : wr.cell? ⟨b, off + k, none⟩ = some (.int .i64 z) := (hbl.cell (p := ⟨b, off + k, none⟩) hlt).trans (HX.out k z hz)
        have HZ := Lib.hid hz
        clear hz
        have hln : (tellL e (l.take k)).length ≤ 1000 := by simp [tellL]; omega
        have hsz := hbl.size
        have HB := Lib.hid hbl
        clear hbl
        go_wp2_with (first
          | (at_builtin; refine wpList_append_own _ rfl _ _ 25 rfl w.heap.size 32 i0 (.agg #[.int .i64 0, .int .i64 0, .int .i64 0]) 3 24 Try.underlying25 hi hz0 hz1 hz2 rfl (by decide) _ _ _ rfl (hown.alloc _) ⟨wr.heap.size, 0, none⟩ 1 1 [.int .i64 z, .int .i64 (-1), .int .i64 e] rfl rfl ?c1 ?c2 ?c3 ?c4 ?c5 ?_))
        case c1 => exact news_alloc wr [.int .i64 z, .int .i64 (-1), .int .i64 e] 32
        case c2 => intro u hu; simp at hu; rcases hu with rfl | rfl | rfl <;> rfl
        case c3 => unfold maxLen; omega
        case c4 => omega
        case c5 => simp; omega
        · intro v' w1 hown' hgrow _
          have hb1 : Below w.heap.size w w1 := (HB.out.alloc hsz _).grown hgrow (by simp; omega) (fun j hj => ownBlock_ge hown hj)
          have hown2 : w1.ownsRow w.heap.size 32 3 v' (tellL e (l.take (k + 1))).length (rpCells (tellL e (l.take (k + 1)))) := by
            rw [tell_step HZ.out, rpCells_app, List.length_append]; exact hown'
          clear hown' hgrow hown hc
          go_wp2
          go_roundw
          case rel => exact ⟨k + 1, by omega, by go_num, hown2, hb1⟩
          case measure => simp [intOf]; omega
      · have hkn : l.take k = l := List.take_of_length_le (by omega)
        rw [hkn] at hown
        clear hkn
        go_wp2
        go_ret
        exact ⟨_, rfl, hown, hbl⟩


theorem quit_step {l cs : List Int} {k : Nat} {z : Int} (hz : l[k]? = some z) : quitL (l.take (k + 1)) cs = quitL (l.take k) cs ++ (if hasB cs z then [] else [z]) := by
  unfold quitL
  rw [filt_step hz]
  cases hasB cs z <;> simp

set_option maxHeartbeats 4000000 in
theorem quit20 (v u : Value) (l cs : List Int) (w : World) (hl : l.length ≤ 1000) (hcs : cs.length ≤ 1000) (h : RdI w v l) (hu : RdI w u cs) :
    Calls Try.prog 20 #[v, u] w fun r w' => ∃ v', r = .returned (.tuple #[v', .int .i64 ((l.length : Int) - (quitL l cs).length)]) ∧ RdI w' v' (quitL l cs) ∧ Below w.heap.size w w' := by
  obtain ⟨i0, hi, hz0, hz1, hz2⟩ := info_parts info3
  obtain ⟨a, c, rfl, hx⟩ := rdI_cases h
  have HX := Lib.hid hx
  have HU := Lib.hid hu
  clear hu hx h
  go_enter Try.func20, Try.ntmps20
  go_wp2
  go_loopw [6, 7] (fun o i wr => ∃ k : Nat, k ≤ l.length ∧ i = .int .i64 k ∧ wr.ownsRow w.heap.size 3 1 o (quitL (l.take k) cs).length ((quitL (l.take k) cs).map (Value.int .i64)) ∧ Below w.heap.size w wr)
    (fun _ i _ => l.length - (intOf i).toNat)
  case atStart => exact ⟨0, Nat.zero_le _, rfl, World.ownsRow_nil _ _ _ _, Below.refl _ _⟩
  case round =>
    obtain ⟨k, hk, rfl, hown, hbl⟩ := hrel
    have HO := Lib.hid hown
    have HB := Lib.hid hbl
    clear hown hbl
    by_cases hk' : k < l.length
    · obtain ⟨b, o, rfl, hb, hx⟩ := HX.out (fun e => by subst e; simp at hk')
      obtain ⟨z, hz⟩ : ∃ z, l[k]? = some z := ⟨l[k], List.getElem?_eq_getElem hk'⟩
      have hc : wr.cell? ⟨b, o + k, none⟩ = some (.int .i64 z) := (HB.out.cell (p := ⟨b, o + k, none⟩) hb).trans (hx k z hz)
      have HS := Lib.hid (quit_step (cs := cs) hz)
      clear hz hx HX
      by_cases hzo : z ∈ cs
      · have hix := (idxV_has cs z).2 hzo
        have hS : Hid (quitL (l.take (k + 1)) cs = quitL (l.take k) cs) := by show _ = _; rw [HS.out]; simp [hasB, hzo]
        clear hzo
        go_wp2_with fail
        refine (at32 _ cs z _ (by omega) (HU.out.below HB.out)).mono ?_
        rintro r w2 ⟨rfl, rfl⟩
        go_wp2
        go_roundw
        case rel => exact ⟨k + 1, by omega, by go_num, by rw [hS.out]; exact HO.out, HB.out⟩
        case measure => simp [intOf]; omega
      · have hix : idxV cs z < 0 := by have := mt (idxV_has cs z).1 hzo; omega
        have hS : Hid (quitL (l.take (k + 1)) cs = quitL (l.take k) cs ++ [z]) := by show _ = _; rw [HS.out]; simp [hasB, hzo]
        have hln : (quitL (l.take k) cs).length ≤ 1000 := Nat.le_trans (List.length_filter_le _ _) (by simp; omega)
        clear hzo
        go_wp2_with fail
        refine (at32 _ cs z _ (by omega) (HU.out.below HB.out)).mono ?_
        rintro r w2 ⟨rfl, rfl⟩
        have hsz := HB.out.size
        go_wp2_with (first
          | (at_builtin; refine wpList_append_rd rfl (.tmp 21) (.tmp 26) 22 rfl w.heap.size 3 i0 Try.underlying22 hi hz0 hz1 hz2 _ _ _ rfl (HO.out.alloc _) _ [z] rfl (by exact rdI_new _ [z] (by simp)) (by simp; omega) (by simp; omega) ?_))
        intro v' w3 hown' hgrow
        have hb3 : Below w.heap.size w w3 := (HB.out.alloc hsz _).grown hgrow (by simp; omega) (fun j hj => ownBlock_ge HO.out hj)
        have hown3 : w3.ownsRow w.heap.size 3 1 v' (quitL (l.take (k + 1)) cs).length ((quitL (l.take (k + 1)) cs).map (Value.int .i64)) := by rw [hS.out]; simpa using hown'
        have HO3 := Lib.hid hown3
        have HB3 := Lib.hid hb3
        clear hown' hown3 hb3 hgrow hc
        go_wp2
        go_roundw
        case rel => exact ⟨k + 1, by omega, by go_num, HO3.out, HB3.out⟩
        case measure => simp [intOf]; omega
    · have hkn : l.take k = l := List.take_of_length_le (by omega)
      have hown := HO.out
      rw [hkn] at hown
      have HO2 := Lib.hid hown
      have hle : (quitL l cs).length ≤ l.length := List.length_filter_le _ _
      obtain ⟨a6, c6, rfl⟩ := (RdI.of_owns hown).shape
      clear hkn hown HO
      go_wp2
      go_ret2
      exact ⟨_, rfl, RdI.of_owns HO2.out, HB.out⟩

set_option maxHeartbeats 1000000 in
theorem waits22 (v u : Value) (l cs : List Int) (w : World) (hl : l.length ≤ 1000) (hcs : cs.length ≤ 1000) (h : RdI w v l) (hu : RdI w u cs) :
    Calls Try.prog 22 #[v, u] w fun r w' => r = .returned (.bool (allIn l cs)) ∧ w = w' := by
  obtain ⟨a, c, rfl, hx⟩ := rdI_cases hu
  have HX := Lib.hid hx
  have H := Lib.hid h
  clear hu hx h
  go_enter Try.func22, Try.ntmps22
  go_wp2
  go_loop [5] (fun i => ∃ k : Nat, k ≤ cs.length ∧ i = .int .i64 k ∧ ∀ j y, j < k → cs[j]? = some y → y ∈ l) (fun i => cs.length - (intOf i).toNat)
  case atStart => exact ⟨0, Nat.zero_le _, rfl, fun j y hj => by omega⟩
  case round =>
    obtain ⟨k, hk, rfl, hno⟩ := hrel
    have HNO := Lib.hid hno
    clear hno
    by_cases hk' : k < cs.length
    · obtain ⟨b, o, rfl, hb, hx⟩ := HX.out (fun e => by subst e; simp at hk')
      obtain ⟨z, hz⟩ : ∃ z, cs[k]? = some z := ⟨cs[k], List.getElem?_eq_getElem hk'⟩
      have hc := hx k z hz
      have HZ := Lib.hid hz
      clear hz hx
      by_cases hzo : z ∈ l
      · have hix := (idxV_has l z).2 hzo
        have HL := Lib.hid hzo
        clear hzo
        go_wp2_with fail
        refine (at32 _ l z _ (by omega) H.out).mono ?_
        rintro r w2 ⟨rfl, rfl⟩
        go_wp2
        go_round
        case rel => exact ⟨k + 1, by omega, by go_num, fun j y hj hy => by
          rcases Nat.lt_or_ge j k with h' | h'
          · exact HNO.out j y h' hy
          · obtain rfl : j = k := by omega
            rw [HZ.out] at hy
            rw [← Option.some.inj hy]
            exact HL.out⟩
        case measure => simp [intOf]; omega
      · have hix : idxV l z < 0 := by have := mt (idxV_has l z).1 hzo; omega
        have hE : Hid (allIn l cs = false) := by
          show _ = _
          simp only [allIn, decide_eq_false_iff_not]
          intro hall
          exact hzo (hall z (List.mem_of_getElem? HZ.out))
        clear hzo
        go_wp2_with fail
        refine (at32 _ l z _ (by omega) H.out).mono ?_
        rintro r w2 ⟨rfl, rfl⟩
        go_wp2
        go_ret
        exact ⟨by rw [hE.out]; rfl, rfl⟩
    · have hE : Hid (allIn l cs = true) := by
        show _ = _
        simp only [allIn, decide_eq_true_eq]
        intro x hx
        obtain ⟨j, hj⟩ := List.mem_iff_getElem?.1 hx
        exact HNO.out j x (by have := (List.getElem?_eq_some_iff.1 hj).1; omega) hj
      go_wp2
      go_ret
      exact ⟨by rw [hE.out]; rfl, rfl⟩
end Go.Proofs.Ytkpbohgadldpjaa
