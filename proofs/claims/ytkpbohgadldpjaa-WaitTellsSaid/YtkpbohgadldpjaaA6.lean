
/- Walks of the seat of chapter 23: Serve. -/
import Derived.Test.YtkpbohgadldpjaaA5
import Derived.Maps.AppendAt
namespace Go.Proofs.Ytkpbohgadldpjaa
open Go.RowKit
attribute [local go_sem ↓] Go.wp_at_zero Go.wp_at_succ
attribute [local go_sem] more_size cell_more_old frozen_more_old setCell_more_old more_drew drew_more old_alloc old_more old_drew old_setCell cell_alloc_old frozen_alloc_old setCell_alloc_old
open Go.Shelf
attribute [local go_sem] Oper.semAt_some

/-- Where a slice lies, its first k elements (of s cells each) dropped. -/
def cutA (a : Option Addr) (k c s : Nat) : Option Addr := if c = k then a else a.map (·.add (k * s))

theorem run_cut22 (a : Option Addr) (len cap k : Nat) (hk : k ≤ len) (w : World) :
    (Instr.sliceAt 22 (.slice a len cap) (some (.int .i64 (k : Int))) none none).run Try.prog w = .ok (.slice (cutA a k cap 1) (len - k) (cap - k)) w := by
  have hu : Try.prog.underlying 22 = some (.slice (Try.prog.elem 22)) := by kernel_rfl
  have hs : (sizeOf (Try.prog.elem 22)).run Try.prog w = .ok 1 w := by kernel_rfl
  rw [run_sliceAt_slice _ _ _ _ _ _ hu, run_slice_l _ _ _ _ _ hu _ _ (by omega) (by omega), hs]
  simp [Result.andThen, sliced, cutA]

theorem RdI.cut {w : World} {a : Option Addr} {c k : Nat} {l : List Int} (h : RdI w (.slice a l.length c) l) (hk : k ≤ l.length) : RdI w (.slice (cutA a k c 1) (l.length - k) (c - k)) (l.drop k) := by
  by_cases hd : l.drop k = []
  · rw [hd]
    have : l.length - k = 0 := by rw [← List.length_drop, hd]; rfl
    rw [this]
    refine .inl ⟨rfl, _, _, rfl, fun hn => ?_⟩
    have : a = none := by
      simp only [cutA] at hn
      split at hn
      · exact hn
      · simpa using hn
    subst this
    have := h.nilcap
    omega
  · rcases h with ⟨rfl, _⟩ | ⟨hne, b, off, cap, he, hc, hlt, hx⟩
    · simp at hd
    · cases he
      have hkl : k < l.length := by
        rcases Nat.lt_or_ge k l.length with h | h
        · exact h
        · exact absurd (List.drop_eq_nil_of_le h) hd
      refine .inr ⟨hd, b, off + k, c - k, ?_, by simp; omega, hlt, fun j x hj => ?_⟩
      · rw [List.length_drop, cutA, if_neg (by omega)]
        simp [Addr.add]
      · rw [Nat.add_assoc]
        exact hx (k + j) x (by rwa [List.getElem?_drop] at hj)

theorem setCell_id {w : World} {b : Nat} {t : TypeId} {v : Value} (h : w.heap[b]? = some (.cells #[v] t (0, 0))) : w.setCell ⟨b, 0, none⟩ v = w := by
  have e : (w.setCell ⟨b, 0, none⟩ v).heap = w.heap := by
    apply Array.ext_getElem?
    intro j
    by_cases hj : j = b
    · subst hj
      rw [heap_setCell_same w j 0 _ t v h, h]
      simp
    · exact Below.heap_setCell w _ v j hj
  cases w
  simp only [World.setCell] at e ⊢
  simp only [e]

theorem RdI.put {w : World} {v : Value} {l : List Int} {D : Nat} {o o' : Obj} (h : RdI w v l) (hD : w.heap[D]? = some o) (ho : o.isCells = false) : RdI (w.putObj D o') v l := by
  rcases h with h | ⟨hne, b, off, cap, he, hc, hlt, hx⟩
  · exact .inl h
  · have hb : b ≠ D := by
      rintro rfl
      cases l with
      | nil => exact hne rfl
      | cons x l =>
        have := hx 0 x rfl
        simp only [World.cell?, hD] at this
        cases o <;> simp [Obj.isCells] at this ho
    refine .inr ⟨hne, b, off, cap, he, hc, by simpa using hlt, fun j x hj => ?_⟩
    rw [← hx j x hj]
    exact World.cell?_of_block (w := w) (World.putObj_heap_other hb)

def rpl (x : List (Int × Int)) : List Rp := x.map fun x => ⟨x.1, x.2, 0⟩
theorem rpl_app (x : List (Int × Int)) (y : Int × Int) : rpl (x ++ [y]) = rpl x ++ [⟨y.1, y.2, 0⟩] := by simp [rpl]

theorem owns_below {w w' : World} {base e sz n : Nat} {v : Value} {xs : List Value} (h : w.ownsRow base e sz v n xs) (hb : Below w.heap.size w w') : w'.ownsRow base e sz v n xs :=
  h.kept (row := none) ⟨hb.os, hb.tape, hb.output, hb.size, fun k hk _ => hb.block k hk⟩ (by cases v.ownBlock <;> simp)
theorem owns_base {w : World} {base base' e sz n : Nat} {v : Value} {xs : List Value} (h : w.ownsRow base e sz v n xs) (hb : base' ≤ base) : w.ownsRow base' e sz v n xs := by
  obtain ⟨hl, h | ⟨g, cap, cur, h1, h2, h3⟩⟩ := h
  · exact ⟨hl, .inl h⟩
  · exact ⟨hl, .inr ⟨g, cap, cur, h1, Nat.le_trans hb h2, h3⟩⟩
/-- Two rows of different elements lie apart. -/
theorem owns_apart {w : World} {base base' e e' sz sz' n n' : Nat} {v v' : Value} {xs xs' : List Value} (h : w.ownsRow base e sz v n xs) (h' : w.ownsRow base' e' sz' v' n' xs') (hne : e ≠ e') : v.ownBlock = none ∨ v.ownBlock ≠ v'.ownBlock := by
  obtain ⟨_, ⟨rfl, _⟩ | ⟨g, cap, cur, rfl, _, hg, _⟩⟩ := h
  · exact .inl rfl
  · right
    obtain ⟨_, ⟨rfl, _⟩ | ⟨g', cap', cur', rfl, _, hg', _⟩⟩ := h'
    · simp [Value.ownBlock]
    · intro e
      obtain rfl : g = g' := by simpa [Value.ownBlock] using e
      rw [hg] at hg'
      simp at hg'
      exact hne hg'.2

/-- What stays while Serve clones. -/
structure Srv (w W0 : World) (v : Value) (D m : Nat) (xs : List Value) (W : World) : Prop where
  below : Below w.heap.size w W
  size : W0.heap.size ≤ W.heap.size
  box : Boxed W w.heap.size 25 v
  row : W.ownsRow w.heap.size 32 3 v m xs
  d : W.heap[D]? = some (.deferred (some []))
def SrvS (w W0 : World) (v : Value) (D m : Nat) (xs : List Value) (W : World) : Prop :=
  (∀ b o, b < w.heap.size → W.cell? ⟨b, o, none⟩ = w.cell? ⟨b, o, none⟩) ∧ W.cell? ⟨w.heap.size, 0, none⟩ = some v ∧ W.frozen? ⟨w.heap.size, 0, none⟩ = false ∧ Srv w W0 v D m xs W
theorem Srv.all {w W0 W : World} {v : Value} {D m : Nat} {xs : List Value} (h : Srv w W0 v D m xs W) :
    (∀ b o, b < w.heap.size → W.cell? ⟨b, o, none⟩ = w.cell? ⟨b, o, none⟩) ∧ W.cell? ⟨w.heap.size, 0, none⟩ = some v ∧ W.frozen? ⟨w.heap.size, 0, none⟩ = false ∧ Srv w W0 v D m xs W :=
  ⟨fun b o hb => h.below.cell (p := ⟨b, o, none⟩) hb, h.box.cell, h.box.frozen, h⟩
theorem Srv.step {w W0 W W' : World} {v : Value} {D m : Nat} {xs : List Value} (h : Srv w W0 v D m xs W) (hb : Below W.heap.size W W') : Srv w W0 v D m xs W' :=
  ⟨h.below.trans (hb.mono h.below.size), Nat.le_trans h.size hb.size, block_keep' hb h.box, h.row.kept (row := none) ⟨hb.os, hb.tape, hb.output, hb.size, fun k hk _ => hb.block k hk⟩ (by cases v.ownBlock <;> simp), block_keep' hb h.d⟩

theorem srv_step {w W0 A W' : World} {v : Value} {D m : Nat} {xs : List Value} (hb : Below A.heap.size A W')
    (h : (∀ b o, b < w.heap.size → A.cell? ⟨b, o, none⟩ = w.cell? ⟨b, o, none⟩) ∧ A.cell? ⟨w.heap.size, 0, none⟩ = some v ∧ A.frozen? ⟨w.heap.size, 0, none⟩ = false ∧ Srv w W0 v D m xs A) :
    (∀ b o, b < w.heap.size → W'.cell? ⟨b, o, none⟩ = w.cell? ⟨b, o, none⟩) ∧ W'.cell? ⟨w.heap.size, 0, none⟩ = some v ∧ W'.frozen? ⟨w.heap.size, 0, none⟩ = false ∧ Srv w W0 v D m xs W' :=
  (h.2.2.2.step hb).all
theorem srv_drew {w W0 A : World} {v : Value} {D m : Nat} {xs : List Value} (h : Srv w W0 v D m xs A) :
    (∀ b o, b < w.heap.size → A.drew.cell? ⟨b, o, none⟩ = w.cell? ⟨b, o, none⟩) ∧ A.drew.cell? ⟨w.heap.size, 0, none⟩ = some v ∧ A.drew.frozen? ⟨w.heap.size, 0, none⟩ = false ∧ Srv w W0 v D m xs A.drew :=
  (h.step (Below.refl _ _).drew).all
theorem srv_store {w W0 A : World} {v : Value} {D m : Nat} {xs : List Value}
    (h : (∀ b o, b < w.heap.size → A.cell? ⟨b, o, none⟩ = w.cell? ⟨b, o, none⟩) ∧ A.cell? ⟨w.heap.size, 0, none⟩ = some v ∧ A.frozen? ⟨w.heap.size, 0, none⟩ = false ∧ Srv w W0 v D m xs A) :
    (∀ b o, b < w.heap.size → (A.setCell ⟨w.heap.size, 0, none⟩ v).cell? ⟨b, o, none⟩ = w.cell? ⟨b, o, none⟩) ∧ (A.setCell ⟨w.heap.size, 0, none⟩ v).cell? ⟨w.heap.size, 0, none⟩ = some v ∧ (A.setCell ⟨w.heap.size, 0, none⟩ v).frozen? ⟨w.heap.size, 0, none⟩ = false ∧ Srv w W0 v D m xs (A.setCell ⟨w.heap.size, 0, none⟩ v) := by
  rw [setCell_id h.2.2.2.box]; exact h
theorem srv_rd {w W0 A : World} {v u : Value} {D m : Nat} {xs : List Value} {l : List Int}
    (h : (∀ b o, b < w.heap.size → A.cell? ⟨b, o, none⟩ = w.cell? ⟨b, o, none⟩) ∧ A.cell? ⟨w.heap.size, 0, none⟩ = some v ∧ A.frozen? ⟨w.heap.size, 0, none⟩ = false ∧ Srv w W0 v D m xs A) (hr : RdI w u l) : RdI A u l :=
  hr.below h.2.2.2.below

theorem kpP_b {n₀ Bl Bs : Nat} {w : World} (hn : n₀ ≤ w.heap.size) (h1 : Bl < w.heap.size) (h2 : Bs < w.heap.size) (W : World) (l : Nat) (o o' : Obj) (hl : w.heap.size ≤ l) (h : W.heap[l]? = some o) (hc : o.isCells = false) (hw : o.isWalk = false) : KpP n₀ Bl Bs W (W.putObj l o') :=
  ⟨belowK_b hn W l o o' hl h hc hw, (belowK_b (n₀ := Bl + 1) (w := w) h1 W l o o' hl h hc hw).cell (p := ⟨Bl, 0, none⟩) (Nat.lt_succ_self _), (belowK_b (n₀ := Bs + 1) (w := w) h2 W l o o' hl h hc hw).cell (p := ⟨Bs, 0, none⟩) (Nat.lt_succ_self _)⟩

set_option maxRecDepth 100000 in
set_option maxHeartbeats 4000000 in
theorem serve8 (v v' : Value) (l s : List Int) (m : Nat) (w : World) (hm : m = min l.length s.length) (hl : l.length ≤ 1000) (hs : s.length ≤ 1000) (h : RdI w v l) (h' : RdI w v' s) :
    Calls Try.prog 8 #[v, v'] w fun e W' => ∃ r a b, e = .returned (.tuple #[r, a, b]) ∧ W'.ownsRow w.heap.size 32 3 r m (rpCells (rpl (prs l s m))) ∧ W'.ownsRow w.heap.size 3 1 a (l.drop m).length ((l.drop m).map (Value.int .i64)) ∧ W'.ownsRow w.heap.size 3 1 b (s.drop m).length ((s.drop m).map (Value.int .i64)) ∧ Below w.heap.size w W' := by
  have hml : m ≤ l.length := by omega
  have hms : m ≤ s.length := by omega
  have HM := Lib.hid hm
  clear hm
  refine (callsIn_wide (n := 4)).1 ?_
  obtain ⟨i0, hi, hz0, hz1, hz2⟩ := info_parts info32
  obtain ⟨a, c, rfl, hx⟩ := rdI_cases h
  obtain ⟨a', c', rfl, hx'⟩ := rdI_cases h'
  have H := Lib.hid h
  have H' := Lib.hid h'
  have HX := Lib.hid hx
  have HX' := Lib.hid hx'
  clear h h' hx hx'
  refine callsIn_of_wp_marks Try.func8 rfl trivial ?_ rfl
  simp only [Try.ntmps8, List.size_toArray, List.length_cons, List.length_nil, Nat.reduceAdd, Nat.reduceSub, Array.replicate_succ, Array.replicate_zero, List.push_toArray, List.append_toArray, List.nil_append, List.cons_append]
  gi_wp2_with (refine ⟨trivial, ?_⟩; gi_at_call 24; refine (pairs24 Fence.wide 3 trivial rfl _ _ _ _ _ _ _).mono ?_; rintro e w' ⟨rfl, rfl⟩)
  have bO := Boxed.new w 25 (.slice none 0 0)
  have bL := Boxed.new (w.alloc (.cells #[.slice none 0 0] 25)) 22 (.slice a l.length c)
  have bS := Boxed.new ((w.alloc (.cells #[.slice none 0 0] 25)).alloc (.cells #[.slice a l.length c] 22)) 22 (.slice a' s.length c')
  have bO := (bO.alloc (.cells #[.slice a l.length c] 22)).alloc (.cells #[.slice a' s.length c'] 22)
  have bL := bL.alloc (.cells #[.slice a' s.length c'] 22)
  rw [World.size_alloc] at bL
  rw [World.size_alloc, World.size_alloc] at bS
  have hB0 : Below w.heap.size w (((w.alloc (.cells #[.slice none 0 0] 25)).alloc (.cells #[.slice a l.length c] 22)).alloc (.cells #[.slice a' s.length c'] 22)) := by (repeat' (first | (with_reducible exact Below.refl _ _) | (with_reducible assumption) | (with_reducible refine Below.drew ?_) | (with_reducible refine Below.alloc ?_ ?_ _) | (with_reducible refine below_more ?_ ?_ _ _) | (with_reducible refine Below.setCell ?_ ?_ _) | (with_reducible refine Below.trans ?_ (Below.mono (by assumption) ?_)))) <;> first | omega | (simp; done) | (simp; omega) | (simp [more_size]; done) | (simp [more_size]; omega)
  have hz0' : (((w.alloc (.cells #[.slice none 0 0] 25)).alloc (.cells #[.slice a l.length c] 22)).alloc (.cells #[.slice a' s.length c'] 22)).heap.size = w.heap.size + 3 := by simp only [World.size_alloc]
  have HZ := Lib.hid hz0'
  clear hz0'
  gi_wp2
  generalize (((w.alloc (.cells #[.slice none 0 0] 25)).alloc (.cells #[.slice a l.length c] 22)).alloc (.cells #[.slice a' s.length c'] 22)) = w0 at *
  refine wpIn_rangeFunc_ownG rfl (by omega) (gf := 33) (lb := #[.pointer (some ⟨w.heap.size + 1, 0, none⟩), .pointer (some ⟨w.heap.size + 1 + 1, 0, none⟩)]) rfl trivial (enters_of Try.func33 (by kernel_rfl) rfl)
    (pairs_stops Fence.wide 3 trivial rfl (by omega) (w.heap.size + 1) (w.heap.size + 1 + 1) w.heap.size a a' c c' l s hl hs w0 bL.cell bS.cell bL.lt bS.lt hB0.size
      (fun hne => by obtain ⟨b, o, e, hb, hx⟩ := HX.out hne; exact ⟨b, o, e, hb, fun j x hj => (hB0.cell (p := ⟨b, o + j, none⟩) hb).trans (hx j x hj)⟩)
      (fun hne => by obtain ⟨b, o, e, hb, hx⟩ := HX'.out hne; exact ⟨b, o, e, hb, fun j x hj => (hB0.cell (p := ⟨b, o + j, none⟩) hb).trans (hx j x hj)⟩))
    KpP.trans (kpP_b hB0.size bL.lt bS.lt) (Below.refl _ _) (fun _ => rfl)
    (fun pre W => (∃ v, Boxed W w.heap.size 25 v ∧ W.ownsRow w.heap.size 32 3 v (rpl pre).length (rpCells (rpl pre)) ∧ True) ∧ (Boxed W (w.heap.size + 1) 22 (.slice a l.length c) ∧ Boxed W (w.heap.size + 1 + 1) 22 (.slice a' s.length c')) ∧ Below w.heap.size w W)
    (fun _ _ _ => False)
    (OwnFrom.and (Own.from (holdsRow_own w.heap.size w.heap.size 25 32 3 (fun pre => (rpl pre).length) (fun pre => rpCells (rpl pre)) (fun _ _ => True)) _) (OwnFrom.and (OwnFrom.and (Own.from (boxed_own _ _ (fun _ => .slice a l.length c)) _) (Own.from (boxed_own _ _ (fun _ => .slice a' s.length c')) _)) (ownFrom_below (Nat.le_refl _) hB0.size)))
    (fun _ _ _ _ _ hs _ _ => hs)
    ⟨⟨_, bO, World.ownsRow_nil _ _ _ _, trivial⟩, ⟨bL, bS⟩, hB0⟩
    (fun x => { tmps := #[.slice a l.length c, .slice a' s.length c', undef, undef, .pointer (some ⟨w.heap.size, 0, none⟩), .slice none 0 0, .slice none 0 0, .int .i64 x.1, .int .i64 x.2, undef, .slice a l.length c, .slice a' s.length c',
      .func (.func 33) #[] #[.pointer (some ⟨w.heap.size + 1, 0, none⟩), .pointer (some ⟨w.heap.size + 1 + 1, 0, none⟩)], .int .i64 x.1, .int .i64 x.2, undef, undef, undef, undef, undef, undef, undef, undef, undef, undef, undef, undef, undef, undef, undef, undef, undef], defers := [] }) ?assign ?body ?done ?stop
  case assign =>
    intro l x W K hK
    gi_wp2
    exact hK
  case body =>
    rintro lo pre x W ⟨⟨v, hv, hrow, -⟩, ⟨bL1, bS1⟩, hB⟩ hlt
    have hc := hv.cell
    have hpl : (rpl pre).length ≤ 1000 := by simp only [rpl, List.length_map]; omega
    have HR := Lib.hid hrow
    gi_wp2_with (gi_at_builtin; refine wpListIn_append_own _ rfl _ _ 25 rfl w.heap.size 32 i0 (.agg #[.int .i64 0, .int .i64 0, .int .i64 0]) 3 24 Try.underlying25 hi hz0 hz1 hz2 rfl (by decide) _ _ _ rfl (hrow.alloc _) ⟨W.heap.size, 0, none⟩ 1 1 [.int .i64 x.1, .int .i64 x.2, .int .i64 0] rfl rfl (news_alloc W [.int .i64 x.1, .int .i64 x.2, .int .i64 0] 32) (by intro u hu; simp at hu; rcases hu with rfl | rfl | rfl <;> rfl) (by unfold maxLen; omega) (by omega) (by have := hB.size; simp; omega) ?_; intro v' w1 hown' hgrow _; obtain ⟨g', cap', rfl⟩ := ownsRow_succ hown'; obtain ⟨hv1, hv2, hr2, hk2, hb2⟩ := hv.appended (by decide) hrow hB.size (Nat.le_refl _) hown' hgrow; have bL2 := ((bL1.alloc _).kept hgrow (bL1.not_row (by decide) hrow)); have bS2 := ((bS1.alloc _).kept hgrow (bS1.not_row (by decide) hrow)); have hc1 := hv1.cell; have hf1 := hv1.frozen)
    have bL3 := bL2.other (B' := w.heap.size) (by omega) (.slice (some ⟨g', 0, none⟩) ((rpl pre).length + 1) cap')
    have bS3 := bS2.other (B' := w.heap.size) (by omega) (.slice (some ⟨g', 0, none⟩) ((rpl pre).length + 1) cap')
    exact ⟨hk2.from _, ⟨hb2, bL3.cell.trans bL1.cell.symm, bS3.cell.trans bS1.cell.symm⟩, ⟨_, hv2, by rw [rpl_app, rpCells_app, List.length_append]; exact hr2, trivial⟩, ⟨bL3, bS3⟩, hB.trans hb2⟩
  case done =>
    rintro D ys W hD rfl ⟨⟨v, hv, hrow, -⟩, -, hB⟩ hK
    rw [← HM.out] at hrow
    have hlen : (rpl (prs l s m)).length = m := by simp [rpl, prs]
    rw [hlen] at hrow
    have hv0 : ∃ p cp, v = .slice p m cp := by
      obtain ⟨_, ⟨rfl, h0⟩ | ⟨g, cap, cur, rfl, _⟩⟩ := hrow
      · exact ⟨_, _, by rw [h0]⟩
      · exact ⟨_, _, rfl⟩
    obtain ⟨p, cp, rfl⟩ := hv0
    have SV : Srv w W (.slice p m cp) D m (rpCells (rpl (prs l s m))) W := ⟨hB, Nat.le_refl _, hv, hrow, hK⟩
    have hc := hv.cell
    clear hv hrow hB hK hlen
    generalize hxs : rpCells (rpl (prs l s m)) = xs at *
    have HXS := Lib.hid hxs
    clear hxs
    have q1 := run_cut22 a l.length c m hml
    have q2 := run_cut22 a' s.length c' m hms
    gi_wp2
    refine wpIn_wide.2 ?_
    go_region_held3 (fun W' => (∀ b o, b < w.heap.size → W'.cell? ⟨b, o, none⟩ = w.cell? ⟨b, o, none⟩) ∧ W'.cell? ⟨w.heap.size, 0, none⟩ = some (.slice p m cp) ∧ W'.frozen? ⟨w.heap.size, 0, none⟩ = false ∧ Srv w W (.slice p m cp) D m xs W')
      (with_reducible first | exact srv_drew SV | assumption | exact srv_step (by assumption) (by assumption) | exact srv_store (by assumption))
      (first
        | (go_at_call_of 25 (Value.slice (cutA a m c 1) (l.length - m) (c - m)); refine (clone25 _ (l.drop m) _ (by simp; omega) ((srv_rd (by assumption) H.out).cut hml)).mono ?_; rintro e w1 ⟨va, rfl, hva, hba⟩)
        | (go_at_call_of 25 (Value.slice (cutA a' m c' 1) (s.length - m) (c' - m)); refine (clone25 _ (s.drop m) _ (by simp; omega) ((srv_rd (by assumption) H'.out).cut hms)).mono ?_; rintro e w2 ⟨vb, rfl, hvb, hbb⟩))
    have hS : Srv w W (.slice p m cp) D m xs w2 := (SV.step (Below.drew (Below.refl _ _))).step hba |>.step hbb
    rw [setCell_id hS.box]
    have hra := owns_base (owns_below hva hbb) (show w.heap.size ≤ W.drew.heap.size from SV.below.size)
    have hrb := owns_base hvb (Nat.le_trans (show w.heap.size ≤ W.drew.heap.size from SV.below.size) hba.size)
    have hcb := hS.box.cell
    clear hva hvb hba hbb q1 q2 hc
    gi_wp2
    refine ⟨by simp, .inl ⟨_, _, rfl, run_takeDeferred hS.d, ?_⟩⟩
    have hne : w.heap.size ≠ D := by have := bO.lt; omega
    have bP : Boxed (w2.putObj D (.deferred none)) w.heap.size 25 (.slice p m cp) := hS.box.kept (grownBy_putObj' _ _ _) (by simpa using hne)
    have hcP := bP.cell
    refine ⟨.tuple #[.slice p m cp, va, vb], by simp [results, Try.results8, go_sem, hcP], _, _, _, rfl, ?_, ownsRow_putObj hra _ hS.d rfl, ownsRow_putObj hrb _ hS.d rfl, hS.below.trans (belowK_b (w := w) (Nat.le_refl _) w2 D _ _ (by have := bO.lt; omega) hS.d rfl rfl)⟩
    rw [HXS.out]
    exact ownsRow_putObj hS.row _ hS.d rfl
  case stop =>
    rintro D c pre W _ _ h _
    exact h.elim
end Go.Proofs.Ytkpbohgadldpjaa
