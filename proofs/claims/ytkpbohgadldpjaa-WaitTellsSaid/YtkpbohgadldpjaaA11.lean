
/- Walks of the seat of chapter 23: Quit. -/
import Derived.Test.YtkpbohgadldpjaaA10
import Derived.Lib.SliceRun
import Derived.Laws.IdiomCopy
import Derived.Lib.LazyBuf
namespace Go.Proofs.Ytkpbohgadldpjaa
open Go.RowKit
attribute [local go_sem ↓] Go.wp_at_zero Go.wp_at_succ
attribute [local go_sem] more_size cell_more_old frozen_more_old setCell_more_old more_drew drew_more old_alloc old_more old_drew old_setCell cell_alloc_old frozen_alloc_old setCell_alloc_old

theorem cur_fn (cur : Array Value) : ∃ f0 : Nat → Value, ∀ i, i < cur.size → cur[i]? = some (f0 i) := ⟨fun i => cur[i]?.getD undef, fun i hi => by simp [hi]⟩

/-- The closure of Quit: is this one among those that go? -/
theorem gone30 (v : Value) (cs : List Int) (y : Int) (B : Nat) (w : World) (hcs : cs.length ≤ 4611686018427387904) (h : RdI w v cs) (hB : w.cell? ⟨B, 0, none⟩ = some v) :
    Calls Try.prog 30 #[.int .i64 y, .pointer (some ⟨B, 0, none⟩)] w fun r w' => r = .returned (.bool (hasB cs y)) ∧ w = w' := by
  have H := Lib.hid h
  clear h
  go_enter Try.func30, Try.ntmps30
  go_wp2_with fail
  refine (contains28 v cs y _ hcs H.out).mono ?_
  rintro r w1 ⟨rfl, rfl⟩
  go_wp2
  go_ret
  exact ⟨rfl, rfl⟩

/-- The first of whom p holds; -1: there is none. -/
def fstV (p : Int → Bool) : List Int → Int
  | [] => -1
  | y :: l => if p y then 0 else (if fstV p l < 0 then -1 else fstV p l + 1)
theorem fstV_at {p : Int → Bool} {l : List Int} {k : Nat} {x : Int} (hk : l[k]? = some x) (hx : p x = true) (hno : ∀ j y, j < k → l[j]? = some y → p y = false) : fstV p l = k := by
  induction l generalizing k with
  | nil => simp at hk
  | cons y l ih =>
    cases k with
    | zero => simp at hk; subst hk; simp [fstV, hx]
    | succ k =>
      have hy : p y = false := hno 0 y (by omega) (by simp)
      have := ih (k := k) (by simpa using hk) (fun j z hj h => hno (j + 1) z (by omega) (by simpa using h))
      simp only [fstV, hy, this]
      simp only [Bool.false_eq_true, if_false]
      rw [if_neg (by omega)]
      omega
theorem fstV_none {p : Int → Bool} {l : List Int} (hno : ∀ j y, j < l.length → l[j]? = some y → p y = false) : fstV p l = -1 := by
  induction l with
  | nil => rfl
  | cons y l ih =>
    have hy : p y = false := hno 0 y (by simp) (by simp)
    have := ih (fun j z hj h => hno (j + 1) z (by simpa using hj) (by simpa using h))
    simp [fstV, hy, this]

/-- The first one, or none: where the walk of DeleteFunc parts. -/
theorem fst_cases (p : Int → Bool) (l : List Int) : (∀ j y, j < l.length → l[j]? = some y → p y = false) ∨ ∃ (k : Nat) (x : Int), l[k]? = some x ∧ p x = true ∧ ∀ j y, j < k → l[j]? = some y → p y = false := by
  induction l with
  | nil => exact .inl (fun j y hj => by simp at hj)
  | cons z l ih =>
    cases hz : p z
    · rcases ih with h | ⟨k, x, h1, h2, h3⟩
      · refine .inl fun j y hj hy => ?_
        cases j with
        | zero => simp at hy; rw [← hy]; exact hz
        | succ j => exact h j y (by simpa using hj) (by simpa using hy)
      · refine .inr ⟨k + 1, x, by simpa using h1, h2, fun j y hj hy => ?_⟩
        cases j with
        | zero => simp at hy; rw [← hy]; exact hz
        | succ j => exact h3 j y (by omega) (by simpa using hy)
    · exact .inr ⟨0, z, by simp, hz, fun j y hj => by omega⟩

set_option maxHeartbeats 400000 in
theorem indexFunc34_gone (v u : Value) (cs l : List Int) (B : Nat) (w : World) (hl : l.length ≤ 4611686018427387904) (hcs : cs.length ≤ 4611686018427387904) (h : RdI w v cs) (hB : w.cell? ⟨B, 0, none⟩ = some v) (hu : RdI w u l) :
    Calls Try.prog 34 #[u, .func (.func 30) #[] #[.pointer (some ⟨B, 0, none⟩)]] w fun r w' => r = .returned (.int .i64 (fstV (hasB cs) l)) ∧ w = w' := by
  have H := Lib.hid h
  have HB := Lib.hid hB
  clear h hB
  rcases hu with ⟨rfl, a, c, rfl, -⟩ | ⟨hne, b, off, cap, rfl, hcap, hlt, hx⟩
  · go_enter Try.func34, Try.ntmps34
    go_wp2
    refine wp_loop_rounds 1 ?_
    rw [rounds_succ]
    go_wp2
    go_ret
    exact ⟨rfl, rfl⟩
  · have HX := Lib.hid hx
    clear hx
    have HN := Lib.hid hne
    clear hne
    go_enter Try.func34, Try.ntmps34
    go_wp2
    go_loop [8] (fun i => ∃ k : Nat, k ≤ l.length ∧ i = .int .i64 k ∧ ∀ j y, j < k → l[j]? = some y → hasB cs y = false) (fun i => l.length - (intOf i).toNat)
    case atStart => exact ⟨0, Nat.zero_le _, rfl, fun j y hj => by omega⟩
    case round =>
      obtain ⟨k, hk, rfl, hno⟩ := hrel
      have HNO := Lib.hid hno
      clear hno
      by_cases hk' : k < l.length
      · obtain ⟨z, hz⟩ : ∃ z, l[k]? = some z := ⟨l[k], List.getElem?_eq_getElem hk'⟩
        have hc := HX.out k z hz
        have HZ := Lib.hid hz
        clear hz
        cases hb : hasB cs z
        · have HL := Lib.hid hb
          go_wp2_with fail
          refine (gone30 v cs z B _ hcs H.out HB.out).mono ?_
          rintro r w1 ⟨rfl, rfl⟩
          go_wp2
          go_round
          case rel => exact ⟨k + 1, by omega, by go_num, fun j y hj hy => by
            rcases Nat.lt_or_ge j k with h' | h'
            · exact HNO.out j y h' hy
            · obtain rfl : j = k := by omega
              rw [HZ.out] at hy
              rw [← Option.some.inj hy]
              exact HL.out⟩
          case measure => simp [intOf]; omega
        · have HE : Hid (fstV (hasB cs) l = k) := by show fstV (hasB cs) l = k; exact fstV_at HZ.out hb HNO.out
          go_wp2_with fail
          refine (gone30 v cs z B _ hcs H.out HB.out).mono ?_
          rintro r w1 ⟨rfl, rfl⟩
          go_wp2
          go_ret
          exact ⟨by rw [HE.out]; rfl, rfl⟩
      · have HE : Hid (fstV (hasB cs) l = -1) := by show fstV (hasB cs) l = -1; exact fstV_none (fun j y hj hy => HNO.out j y (by omega) hy)
        go_wp2
        go_ret
        exact ⟨by rw [HE.out]; rfl, rfl⟩

theorem filt_step {l : List Int} {q : Int → Bool} {j : Nat} {x : Int} (h : l[j]? = some x) : (l.take (j + 1)).filter q = (l.take j).filter q ++ (if q x then [x] else []) := by
  have hj : j < l.length := (List.getElem?_eq_some_iff.1 h).1
  have hx : l[j] = x := (List.getElem?_eq_some_iff.1 h).2
  rw [List.take_succ_eq_append_getElem hj, List.filter_append, hx]
  cases hq : q x <;> simp [hq]
theorem filt_pre {l : List Int} {q : Int → Bool} {k : Nat} (h : ∀ j y, j < k → l[j]? = some y → q y = true) (hk : k ≤ l.length) : (l.take k).filter q = l.take k := by
  rw [List.filter_eq_self]
  intro x hx
  obtain ⟨j, hj⟩ := List.mem_iff_getElem?.1 hx
  rw [List.getElem?_take] at hj
  split at hj
  · rename_i h1; exact h j x h1 hj
  · cases hj

set_option maxRecDepth 100000 in
set_option maxHeartbeats 4000000 in
theorem delete29 (u v : Value) (cs l : List Int) (B : Nat) (W0 w : World) (hl : l.length ≤ 1000) (hcs : cs.length ≤ 1000) (h : RdI W0 u cs) (hB : W0.cell? ⟨B, 0, none⟩ = some u) (hBl : B < W0.heap.size)
    (hb : Below W0.heap.size W0 w) (hown : w.ownsRow W0.heap.size 3 1 v l.length (l.map (Value.int .i64))) :
    Calls Try.prog 29 #[v, .func (.func 30) #[] #[.pointer (some ⟨B, 0, none⟩)]] w fun r w' => ∃ v', r = .returned v' ∧ RdI w' v' (l.filter fun x => !hasB cs x) ∧ Below W0.heap.size W0 w' := by
  have HU := fun (wr : World) (hbr : Below W0.heap.size W0 wr) => h.below hbr
  have HBB := fun (wr : World) (hbr : Below W0.heap.size W0 wr) => (hbr.cell (p := ⟨B, 0, none⟩) hBl).trans hB
  have HUU := Lib.hid HU
  have HBX := Lib.hid HBB
  have HL := Lib.hid hb
  have hrd := RdI.of_owns hown
  have HRD := Lib.hid hrd
  clear HU HBB h hB
  rcases fst_cases (hasB cs) l with hno | ⟨k, x, hk, hx, hno⟩
  · have HE : Hid (fstV (hasB cs) l = -1) := by show _ = _; exact fstV_none hno
    have HF : Hid ((l.filter fun x => !hasB cs x) = l) := by
      show _ = _
      rw [List.filter_eq_self]
      intro x hx
      obtain ⟨j, hj⟩ := List.mem_iff_getElem?.1 hx
      simp [hno j x (List.getElem?_eq_some_iff.1 hj).1 hj]
    clear hno hown hrd
    go_enter Try.func29, Try.ntmps29
    go_wp2_with fail
    refine (indexFunc34_gone u v cs l B _ (by omega) (by omega) (HUU.out _ HL.out) (HBX.out _ HL.out) HRD.out).mono ?_
    rintro r w1 ⟨rfl, rfl⟩
    rw [HE.out]
    go_wp2
    go_ret
    exact ⟨_, rfl, by rw [HF.out]; exact HRD.out, HL.out⟩
  · have hkl : k < l.length := (List.getElem?_eq_some_iff.1 hk).1
    have HE : Hid (fstV (hasB cs) l = k) := by show _ = _; exact fstV_at hk hx hno
    have HP : Hid ((l.take (k + 1)).filter (fun x => !hasB cs x) = l.take k) := by
      show _ = _
      rw [filt_step hk, filt_pre (fun j y hj hy => by simp [hno j y hj hy]) (by omega)]
      simp [hx]
    obtain ⟨hxl, ⟨rfl, h0⟩ | ⟨g, cap, cur, rfl, hge, hgb, hn, _, hcs', htk⟩⟩ := hown
    · omega
    rw [Nat.mul_one] at htk hcs'
    obtain ⟨f0, hf0⟩ := cur_fn cur
    rw [hcs'] at hf0
    have hrow : w.rowIs g 3 cap f0 := ⟨cur, hgb, hcs', hf0⟩
    have hrow0 : ∀ (i : Nat) (y : Int), l[i]? = some y → f0 i = .int .i64 y := by
      intro i y hy
      have hil : i < l.length := (List.getElem?_eq_some_iff.1 hy).1
      have : (cur.toList.take l.length)[i]? = some (.int .i64 y) := by rw [htk, List.getElem?_map, hy]; rfl
      rw [List.getElem?_take, if_pos hil, Array.getElem?_toList, hf0 i (by omega)] at this
      exact Option.some.inj this
    have HR0 := Lib.hid hrow0
    have HR := Lib.hid hrow
    clear hrow0 hrow hcs' htk hgb hno hk hx hrd hxl hf0
    have hk1 : ((k : Int) == -1) = false := by simp
    go_enter Try.func29, Try.ntmps29
    go_wp2_with fail
    refine (indexFunc34_gone u _ cs l B _ (by omega) (by omega) (HUU.out _ HL.out) (HBX.out _ HL.out) HRD.out).mono ?_
    rintro r w1 ⟨rfl, rfl⟩
    rw [HE.out]
    go_wp2
    go_loopw [5, 6] (fun vi vj wr => ∃ (i j : Nat) (f : Nat → Value), vi = .int .i64 i ∧ vj = .int .i64 j ∧ j ≤ l.length ∧ i < j ∧ ((l.take j).filter fun x => !hasB cs x).length = i ∧ wr.rowIs g 3 cap f ∧
        (∀ (t : Nat) (y : Int), ((l.take j).filter fun x => !hasB cs x)[t]? = some y → f t = .int .i64 y) ∧ (∀ (t : Nat) (y : Int), j ≤ t → l[t]? = some y → f t = .int .i64 y) ∧ Below W0.heap.size W0 wr)
      (fun _ vj _ => l.length - (intOf vj).toNat)
    case atStart =>
      refine ⟨k, k + 1, f0, rfl, by go_num, by omega, by omega, by rw [HP.out]; simp; omega, HR.out, fun t y ht => ?_, fun t y _ hy => HR0.out t y hy, HL.out⟩
      rw [HP.out, List.getElem?_take] at ht
      split at ht
      · exact HR0.out t y ht
      · cases ht
    case round =>
      obtain ⟨i, j, f, rfl, rfl, hj, hij, hlen, hrow, hf1, hf2, hbl⟩ := hrel
      have HN := Lib.hid hlen
      have HF1 := Lib.hid hf1
      have HF2 := Lib.hid hf2
      have HRW := Lib.hid hrow
      have HB := Lib.hid hbl
      clear hlen hf1 hf2 hrow hbl HR HR0 HP HRD HL HE
      by_cases hlt : j < l.length
      · obtain ⟨x, hx⟩ : ∃ x, l[j]? = some x := ⟨l[j], List.getElem?_eq_getElem hlt⟩
        have hc : wr.cell? ⟨g, j, none⟩ = some (.int .i64 x) := by rw [HRW.out.cell (by omega), HF2.out j x (Nat.le_refl _) hx]
        have hci : wr.cell? ⟨g, i, none⟩ = some (f i) := HRW.out.cell (by omega)
        have hfi := HRW.out.frozen i
        have HX := Lib.hid (filt_step (q := fun x => !hasB cs x) hx)
        have HXX := Lib.hid hx
        clear hx
        cases hq : hasB cs x
        · have HXN : Hid ((l.take (j + 1)).filter (fun x => !hasB cs x) = (l.take j).filter (fun x => !hasB cs x) ++ [x]) := by show _ = _; rw [HX.out]; simp [hq]
          clear HX
          go_wp2_with fail
          refine (gone30 u cs x B _ (by omega) (HUU.out _ HB.out) (HBX.out _ HB.out)).mono ?_
          rintro r w2 ⟨rfl, rfl⟩
          rw [hq]
          go_wp2
          go_roundw
          case rel =>
            refine ⟨i + 1, j + 1, _, by go_num, by go_num, by omega, by omega, by rw [HXN.out, List.length_append, HN.out]; rfl, HRW.out.set i _, fun t y ht => ?_, fun t y ht hy => ?_, HB.out.setCell (by exact hge) _⟩
            · rw [HXN.out] at ht
              by_cases hti : t = i
              · subst hti
                rw [List.getElem?_append_right (by rw [HN.out]; exact Nat.le_refl _), HN.out, Nat.sub_self] at ht
                simp at ht
                rw [if_pos rfl, ht]
              · rw [if_neg hti]
                refine HF1.out t y ?_
                have : t < ((l.take j).filter (fun x => !hasB cs x) ++ [x]).length := (List.getElem?_eq_some_iff.1 ht).1
                rw [List.length_append, HN.out] at this
                rwa [List.getElem?_append_left (by rw [HN.out]; simp at this; omega)] at ht
            · rw [if_neg (by omega)]
              exact HF2.out t y (by omega) hy
          case measure => simp [intOf]; omega
        · have HXN : Hid ((l.take (j + 1)).filter (fun x => !hasB cs x) = (l.take j).filter (fun x => !hasB cs x)) := by show _ = _; rw [HX.out]; simp [hq]
          clear HX
          go_wp2_with fail
          refine (gone30 u cs x B _ (by omega) (HUU.out _ HB.out) (HBX.out _ HB.out)).mono ?_
          rintro r w2 ⟨rfl, rfl⟩
          rw [hq]
          go_wp2
          go_roundw
          case rel => exact ⟨i, j + 1, f, rfl, by go_num, by omega, by omega, by rw [HXN.out]; exact HN.out, HRW.out, by rw [HXN.out]; exact HF1.out, fun t y ht hy => HF2.out t y (by omega) hy, HB.out⟩
          case measure => simp [intOf]; omega
      · have hjl : j = l.length := by omega
        subst hjl
        have hne : cap ≠ i := by omega
        have q1 : ∀ w : World, (Instr.sliceAt 22 (.slice (some ⟨g, 0, none⟩) l.length cap) (some (.int .i64 (i : Int))) none none).run Try.prog w = .ok (.slice (some ⟨g, i, none⟩) (l.length - i) (cap - i)) w := by
          intro w
          rw [run_cut22 _ _ _ _ (by omega), cutA, if_neg hne]
          simp [Addr.add_lit]
        have q2 : ∀ ty, (Builtin.clear_ #[22] ty #[.slice (some ⟨g, i, none⟩) (l.length - i) (cap - i)]).run Try.prog wr = .ok (.tuple #[]) (wr.setCells g i (List.replicate (l.length - i) (.int .i64 0))) :=
          fun ty => Lib.run_clear_slice wr 22 3 ty (.int .i64 0) Try.underlying22 (fun w => by kernel_rfl) rfl rfl g i (l.length - i) (cap - i) (by omega) (fun j hj => by rw [HRW.out.cell (by omega)]; rfl) (fun j hj => HRW.out.frozen _)
        have q3 : ∀ w : World, (Instr.sliceAt 22 (.slice (some ⟨g, 0, none⟩) l.length cap) none (some (.int .i64 (i : Int))) none).run Try.prog w = .ok (.slice (some ⟨g, 0, none⟩) i cap) w := by
          intro w
          have hu : Try.prog.underlying 22 = some (.slice (Try.prog.elem 22)) := by kernel_rfl
          have hs : (sizeOf (Try.prog.elem 22)).run Try.prog w = .ok 1 w := by kernel_rfl
          rw [run_sliceAt_slice _ _ _ _ _ _ hu, run_slice_h _ _ _ _ _ hu _ _ (by omega) (by omega), hs]
          simp [Result.andThen, sliced, Addr.add]
        have hF : ((l.take l.length).filter fun x => !hasB cs x) = l.filter fun x => !hasB cs x := by rw [List.take_length]
        have HF := Lib.hid hF
        clear hF
        go_wp2
        go_ret
        refine ⟨_, rfl, ?_, Go.below_setCells hge _ _ _ HB.out⟩
        have hrow := Go.rowIs_setCells (List.replicate (l.length - i) (.int .i64 0)) i wr f HRW.out
        rw [← HF.out]
        by_cases h0 : i = 0
        · have hnil := List.length_eq_zero_iff.1 (HN.out.trans h0)
          rw [hnil, h0]
          exact .inl ⟨rfl, _, _, rfl, fun h => by cases h⟩
        · have hlen := HN.out
          refine .inr ⟨fun h => h0 (by rw [h] at hlen; exact hlen.symm), g, 0, cap, by rw [hlen]; rfl, by rw [hlen]; omega, hrow.lt, fun t y ht => ?_⟩
          have hti : t < i := by rw [← HN.out]; exact (List.getElem?_eq_some_iff.1 ht).1
          rw [Nat.zero_add, hrow.cell (by omega), if_neg (by omega), HF1.out t y ht]

/-- Who waits still. -/
def quitL (l cs : List Int) : List Int := l.filter fun x => !hasB cs x

set_option maxHeartbeats 1000000 in
theorem quit15 (v u : Value) (l cs : List Int) (w : World) (hl : l.length ≤ 1000) (hcs : cs.length ≤ 1000) (h : RdI w v l) (hu : RdI w u cs) :
    Calls Try.prog 15 #[v, u] w fun r w' => ∃ v', r = .returned (.tuple #[v', .int .i64 ((l.length : Int) - (quitL l cs).length)]) ∧ RdI w' v' (quitL l cs) ∧ Below w.heap.size w w' := by
  obtain ⟨a, c, rfl⟩ := h.shape
  obtain ⟨au, cu, rfl⟩ := hu.shape
  have H := Lib.hid h
  have HU := Lib.hid hu
  clear h hu
  go_enter Try.func15, Try.ntmps15
  go_wp2_with fail
  have hb0 : Below w.heap.size w (w.alloc (.cells #[.slice au cs.length cu] 22)) := by (repeat' (first | (with_reducible exact Below.refl _ _) | (with_reducible assumption) | (with_reducible refine Below.drew ?_) | (with_reducible refine Below.alloc ?_ ?_ _) | (with_reducible refine below_more ?_ ?_ _ _) | (with_reducible refine Below.setCell ?_ ?_ _) | (with_reducible refine Below.trans ?_ (Below.mono (by assumption) ?_)))) <;> first | omega | (simp; done) | (simp; omega) | (simp [more_size]; done) | (simp [more_size]; omega)
  refine (clone25 _ l _ hl (H.out.below hb0)).mono ?_
  rintro r w1 ⟨v1, rfl, hown, hb1⟩
  rw [World.size_alloc] at hown hb1
  have hb1' : Below (w.alloc (.cells #[.slice au cs.length cu] 22)).heap.size (w.alloc (.cells #[.slice au cs.length cu] 22)) w1 := by rw [World.size_alloc]; exact hb1
  have hcB : (w.alloc (.cells #[.slice au cs.length cu] 22)).cell? ⟨w.heap.size, 0, none⟩ = some (.slice au cs.length cu) := by simp [go_sem]
  have HO := Lib.hid hown
  have HB1 := Lib.hid hb1'
  have HB0 := Lib.hid hb0
  have HC := Lib.hid hcB
  clear hown hb1 hb1' hb0 hcB
  go_wp2_with fail
  refine (delete29 _ v1 cs l w.heap.size (w.alloc (.cells #[.slice au cs.length cu] 22)) w1 hl hcs (HU.out.below HB0.out) HC.out (by rw [World.size_alloc]; omega) HB1.out (by rw [World.size_alloc]; exact HO.out)).mono ?_
  rintro r w2 ⟨v2, rfl, hrd, hb2⟩
  have hrd' : RdI w2 v2 (quitL l cs) := hrd
  have hle : (quitL l cs).length ≤ l.length := List.length_filter_le _ _
  obtain ⟨a2, c2, rfl⟩ := hrd'.shape
  have HRD := Lib.hid hrd'
  have HB2 := Lib.hid (HB0.out.trans (hb2.mono HB0.out.size))
  clear hrd hrd' hb2
  go_wp2
  go_ret2
  exact ⟨_, rfl, HRD.out, HB2.out⟩
end Go.Proofs.Ytkpbohgadldpjaa
