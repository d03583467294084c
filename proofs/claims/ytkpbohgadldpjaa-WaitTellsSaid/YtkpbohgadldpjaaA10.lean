
/- Walks of the seat of chapter 23: append of a slice that is read; who is next; the references' places. -/
import Derived.Test.YtkpbohgadldpjaaA8
import Derived.Test.YtkpbohgadldpjaaCls2
import Derived.Laws.AppendOwnNone
namespace Go.Proofs.Ytkpbohgadldpjaa
open Go.RowKit
attribute [local go_sem ↓] Go.wp_at_zero Go.wp_at_succ
attribute [local go_sem] more_size cell_more_old frozen_more_old setCell_more_old more_drew drew_more old_alloc old_more old_drew old_setCell cell_alloc_old frozen_alloc_old setCell_alloc_old

/-- What append reads of a slice of numbers. -/
theorem RdI.news {w : World} {a : Addr} {n c : Nat} {l : List Int} (h : RdI w (.slice (some a) n c) l) : n = l.length ∧ ∀ (j : Nat) (u : Value), (l.map (Value.int .i64))[j]? = some u → w.cell? (a.add j) = some u := by
  rcases h with ⟨rfl, a', c', he, _⟩ | ⟨hne, b, off, cap, he, hc, hlt, hx⟩
  · cases he
    exact ⟨rfl, fun j u hu => by simp at hu⟩
  · cases he
    refine ⟨rfl, fun j u hu => ?_⟩
    rw [List.getElem?_map] at hu
    obtain ⟨x, hx', rfl⟩ := Option.map_eq_some_iff.1 hu
    rw [Addr.add_lit]
    exact hx j x hx'

theorem grownBy_refl (w : World) (row : Option Nat) : w.grownBy w row := ⟨rfl, rfl, rfl, Nat.le_refl _, fun _ _ _ => rfl⟩

/-- 'append(own, read...)', of numbers: whatever the slice that is read. -/
theorem wp_append_rd {P : Program} {o : Oper} {a : Act} {w : World} {K : Act → World → Prop} {Q : Exit → Act → World → Prop} (s x : Operand) (t : TypeId)
    (ho : o.op = .call { callee := .builtin .append, args := #[s, x], argTypes := #[t, t] })
    (base : Nat) (e : TypeId) (i : TypeInfo) (ht : P.underlying t = some (.slice e)) (hi : P.info? e = some i) (hz : i.zero = some (.int .i64 0)) (hsize : i.size = 1) (hby : i.bytes = 8)
    (v : Value) (n : Nat) (xs : List Value) (hs : a.eval s = v) (hown : w.ownsRow base e 1 v n xs) (u : Value) (l : List Int) (hx : a.eval x = u) (hu : RdI w u l)
    (h63 : n + l.length ≤ 100000) (hbase : base ≤ w.heap.size)
    (h : ∀ v' w', w'.ownsRow base e 1 v' (n + l.length) (xs ++ l.map (Value.int .i64)) → w.grownBy w' v.ownBlock → K (a.put o.dst v') w') : o.wp P a w K Q := by
  obtain ⟨ao, c, rfl⟩ := hu.shape
  cases ao with
  | none =>
    obtain ⟨rfl, h0, rfl⟩ := hu.nilcap
    have hrun := run_append_owned_none (P := P) (w := w) base t o.type e i 1 ht hi v n xs hown
    unfold Oper.wp
    simp [execOp, ho, resolve, invoke, builtin, hs, hx, hrun, Result.andThen]
    exact h v w (by simpa using hown) (grownBy_refl _ _)
  | some ad =>
    exact wp_append_own w s x t ho base e i (.int .i64 0) 1 8 ht hi hz hsize hby rfl (by decide) v n xs hs hown ad l.length c (l.map (Value.int .i64)) hx (by simp) hu.news.2 (ints_one l) (by unfold maxLen; omega) (by omega) hbase
      fun v' w' h1 h2 _ => h v' w' h1 h2

theorem wpList_append_rd {P : Program} {ops : Array Oper} {rest : List Oper} {o : Oper} {a : Act} {w : World} {Q : Exit → Act → World → Prop} (hgd : o.guard = none) (s x : Operand) (t : TypeId)
    (ho : o.op = .call { callee := .builtin .append, args := #[s, x], argTypes := #[t, t] })
    (base : Nat) (e : TypeId) (i : TypeInfo) (ht : P.underlying t = some (.slice e)) (hi : P.info? e = some i) (hz : i.zero = some (.int .i64 0)) (hsize : i.size = 1) (hby : i.bytes = 8)
    (v : Value) (n : Nat) (xs : List Value) (hs : a.eval s = v) (hown : w.ownsRow base e 1 v n xs) (u : Value) (l : List Int) (hx : a.eval x = u) (hu : RdI w u l)
    (h63 : n + l.length ≤ 100000) (hbase : base ≤ w.heap.size)
    (h : ∀ v' w', w'.ownsRow base e 1 v' (n + l.length) (xs ++ l.map (Value.int .i64)) → w.grownBy w' v.ownBlock → wpList P ops Q rest (a.put o.dst v') w') : wpList P ops Q (o :: rest) a w :=
  wpList_plain hgd fun _ hK => wp_append_rd s x t ho base e i ht hi hz hsize hby v n xs hs hown u l hx hu h63 hbase fun v' w' h1 h2 => hK _ _ (h v' w' h1 h2)

/-- The same, at a step of a region that draws its order. -/
theorem step_append_rd {P : Program} {ops : Array Oper} {o : Oper} {a : Act} {w : World} {K : Act → World → Prop} {Q : Exit → Act → World → Prop} {E : Prop} (hgd : o.guard = none) (s x : Operand) (t : TypeId)
    (ho : o.op = .call { callee := .builtin .append, args := #[s, x], argTypes := #[t, t] })
    (base : Nat) (e : TypeId) (i : TypeInfo) (ht : P.underlying t = some (.slice e)) (hi : P.info? e = some i) (hz : i.zero = some (.int .i64 0)) (hsize : i.size = 1) (hby : i.bytes = 8)
    (v : Value) (n : Nat) (xs : List Value) (hs : a.eval s = v) (hown : w.ownsRow base e 1 v n xs) (u : Value) (l : List Int) (hx : a.eval x = u) (hu : RdI w u l)
    (h63 : n + l.length ≤ 100000) (hbase : base ≤ w.heap.size)
    (h : ∀ v' w', w'.ownsRow base e 1 v' (n + l.length) (xs ++ l.map (Value.int .i64)) → w.grownBy w' v.ownBlock → K (a.put o.dst v') w') :
    if Region.wanted o (yielded ops a.tmps) = true then Oper.wp P o a w K Q else E := by
  have hw : Region.wanted o (yielded ops a.tmps) = true := by simp [Region.wanted, hgd]
  rw [if_pos hw]
  exact wp_append_rd s x t ho base e i ht hi hz hsize hby v n xs hs hown u l hx hu h63 hbase h

set_option maxHeartbeats 400000 in
theorem at32 (v : Value) (l : List Int) (y : Int) (w : World) (hl : l.length ≤ 4611686018427387904) (h : RdI w v l) :
    Calls Try.prog 32 #[v, .int .i64 y] w fun r w' => r = .returned (.int .i64 (idxV l y)) ∧ w = w' := by
  rcases h with ⟨rfl, a, c, rfl, -⟩ | ⟨hne, b, off, cap, rfl, hcap, hlt, hx⟩
  · go_enter Try.func32, Try.ntmps32
    go_wp2
    refine wp_loop_rounds 1 ?_
    rw [rounds_succ]
    go_wp2
    go_ret
    exact ⟨rfl, rfl⟩
  · have HX := Lib.hid hx
    clear hx
    have HN := Lib.hid hne
    clear hne
    go_enter Try.func32, Try.ntmps32
    go_wp2
    go_loop [5] (fun i => ∃ k : Nat, k ≤ l.length ∧ i = .int .i64 k ∧ ∀ j, j < k → l[j]? ≠ some y) (fun i => l.length - (intOf i).toNat)
    case atStart => exact ⟨0, Nat.zero_le _, rfl, fun j hj => by omega⟩
    case round =>
      obtain ⟨k, hk, rfl, hno⟩ := hrel
      have HNO := Lib.hid hno
      clear hno
      by_cases hk' : k < l.length
      · obtain ⟨z, hz⟩ : ∃ z, l[k]? = some z := ⟨l[k], List.getElem?_eq_getElem hk'⟩
        have hc := HX.out k z hz
        have HZ := Lib.hid hz
        clear hz
        by_cases hyz : z = y
        · have HE : Hid (idxV l y = k) := by show idxV l y = k; exact idxV_at (by rw [HZ.out, hyz]) HNO.out
          have hb : (z == y) = true := by simpa using hyz
          clear hyz
          go_wp2
          go_ret
          exact ⟨by rw [HE.out]; rfl, rfl⟩
        · have hb : (z == y) = false := by simpa using hyz
          have HY := Lib.hid hyz
          clear hyz
          go_wp2
          go_round
          case rel => exact ⟨k + 1, by omega, by go_num, fun j hj => by
            rcases Nat.lt_or_ge j k with h' | h'
            · exact HNO.out j h'
            · obtain rfl : j = k := by omega
              rw [HZ.out]
              intro e
              exact HY.out (Option.some.inj e)⟩
          case measure => simp [intOf]; omega
      · have HE : Hid (idxV l y = -1) := by show idxV l y = -1; exact idxV_none (fun j hj => HNO.out j (by omega))
        go_wp2
        go_ret
        exact ⟨by rw [HE.out]; rfl, rfl⟩


set_option maxHeartbeats 1000000 in
theorem push31 (v u : Value) (l s : List Int) (w : World) (hl : l.length ≤ 1000) (hs : s.length ≤ 1000) (h : RdI w v l) (hu : RdI w u s) :
    Calls Try.prog 31 #[v, u] w fun r w' => ∃ v', r = .returned v' ∧ w'.ownsRow w.heap.size 3 1 v' (l ++ s).length ((l ++ s).map (Value.int .i64)) ∧ Below w.heap.size w w' := by
  obtain ⟨i0, hi, hz0, hz1, hz2⟩ := info_parts info3
  have H := Lib.hid h
  have HU := Lib.hid hu
  clear h hu
  go_enter Try.func31, Try.ntmps31
  go_wp2_with (first
    | (at_builtin; refine wpList_append_rd rfl (.tmp 6) (.tmp 7) 22 rfl w.heap.size 3 i0 Try.underlying22 hi hz0 hz1 hz2 _ 0 [] rfl (World.ownsRow_nil _ _ _ _) _ l rfl H.out (by omega) (Nat.le_refl _) ?_))
  intro v1 w1 hown hgrow
  have hb1 : Below w.heap.size w w1 := (Below.refl _ w).grown hgrow (Nat.le_refl _) (fun j hj => by cases hj)
  have HO := Lib.hid hown
  have HB := Lib.hid hb1
  clear hown hgrow hb1
  go_wp2_with (first
    | (at_builtin; refine wpList_append_rd rfl (.tmp 9) (.tmp 10) 22 rfl w.heap.size 3 i0 Try.underlying22 hi hz0 hz1 hz2 _ _ _ rfl HO.out _ s rfl (HU.out.below HB.out) (by omega) HB.out.size ?_))
  intro v2 w2 hown hgrow
  have hb2 : Below w.heap.size w w2 := HB.out.grown hgrow HB.out.size (fun j hj => ownBlock_ge HO.out hj)
  clear hgrow
  go_wp2
  go_ret
  exact ⟨_, rfl, by simpa using hown, hb2⟩

/-- Who is next: where the row is empty. -/
theorem next_none (w : World) (a : Option Addr) (c : Nat) : Calls Try.prog 17 #[.slice a 0 c] w fun r w' => r = .returned (.tuple #[.int .i64 0, .slice none 0 0, .bool false]) ∧ w = w' := by
  go_enter Try.func17, Try.ntmps17
  go_wp2
  go_ret3
  exact ⟨rfl, rfl⟩

set_option maxRecDepth 100000 in
set_option maxHeartbeats 1000000 in
theorem next17 (v : Value) (l : List Int) (y : Int) (w : World) (hl : l.length + 1 ≤ 1000) (h : RdI w v (y :: l)) :
    Calls Try.prog 17 #[v] w fun r w' => ∃ v', r = .returned (.tuple #[.int .i64 y, v', .bool true]) ∧ w'.ownsRow w.heap.size 3 1 v' l.length (l.map (Value.int .i64)) ∧ Below w.heap.size w w' := by
  have h' := h
  rcases h' with ⟨h0, _⟩ | ⟨hne, b, off, cap, rfl, hcap, hlt, hx⟩
  · cases h0
  have hc := hx 0 y rfl
  rw [Nat.add_zero] at hc
  have H := Lib.hid h
  have q1 := run_cut22 (some ⟨b, off, none⟩) (y :: l).length cap 1 (by simp)
  simp only [List.length_cons] at q1
  have q2 : ((1 : Nat) : Int) = 1 := rfl
  rw [q2] at q1
  clear h hx hne q2
  have hn : (0 : Int) < ((y :: l).length : Int) := by simp only [List.length_cons]; omega
  simp only [List.length_cons] at hn hcap ⊢
  go_enter Try.func17, Try.ntmps17
  go_wp2
  go_region_held3 (fun w' => (∀ b o, b < (w).heap.size → w'.cell? ⟨b, o, none⟩ = (w).cell? ⟨b, o, none⟩) ∧ Below ((w).heap.size) w w') ((with_reducible first | assumption | exact cls_start | exact cls_startN _ | exact cls_startN' _ | exact cls_step (by assumption) (by assumption) | exact cls_alloc (by assumption) | exact cls_drew (by assumption))) (first
    | (go_at_call 25; refine (clone25 _ l _ (by omega) ((H.out.cut (k := 1) (by simp)).below (And.right (by assumption)))).mono ?_; rintro e w' ⟨va, rfl, hva, hb⟩))
  go_wp2
  go_ret3
  exact ⟨_, rfl, hva, (Below.drew (Below.refl _ _)).trans hb⟩
end Go.Proofs.Ytkpbohgadldpjaa
