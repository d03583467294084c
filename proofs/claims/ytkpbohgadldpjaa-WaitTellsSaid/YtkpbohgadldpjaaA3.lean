
/- Walks of the seat of chapter 23: Tell, Clone. -/
import Derived.Test.YtkpbohgadldpjaaA2
import Derived.Lib.SliceRun
namespace Go.Proofs.Ytkpbohgadldpjaa
open Go.RowKit
attribute [local go_sem ↓] Go.wp_at_zero Go.wp_at_succ
attribute [local go_sem] more_size cell_more_old frozen_more_old setCell_more_old more_drew drew_more old_alloc old_more old_drew old_setCell cell_alloc_old frozen_alloc_old setCell_alloc_old

theorem info3 : (Try.prog.info? 3).map (fun i => (i.zero, i.size, i.bytes)) = some (some (.int .i64 0), 1, 8) := by kernel_rfl
theorem info32 : (Try.prog.info? 32).map (fun i => (i.zero, i.size, i.bytes)) = some (some (.agg #[.int .i64 0, .int .i64 0, .int .i64 0]), 3, 24) := by kernel_rfl

def tellL (e : Int) (l : List Int) : List Rp := l.map fun c => ⟨c, -1, e⟩

theorem tell_step {e : Int} {l : List Int} {k : Nat} {z : Int} (hz : l[k]? = some z) : tellL e (l.take (k + 1)) = tellL e (l.take k) ++ [⟨z, -1, e⟩] := by
  have hk : k < l.length := (List.getElem?_eq_some_iff.1 hz).1
  have hz' : l[k] = z := (List.getElem?_eq_some_iff.1 hz).2
  rw [List.take_succ_eq_append_getElem hk, hz']
  simp [tellL]

theorem ownBlock_ge {w : World} {base e sz n : Nat} {v : Value} {xs : List Value} (h : w.ownsRow base e sz v n xs) {j : Nat} (hj : v.ownBlock = some j) : base ≤ j := by
  obtain ⟨_, ⟨rfl, _⟩ | ⟨g, cap, cur, rfl, hg, _⟩⟩ := h
  · cases hj
  · cases hj; exact hg
set_option maxHeartbeats 400000 in
theorem tell9 (v : Value) (l : List Int) (e : Int) (w : World) (hl : l.length ≤ 1000) (h : RdI w v l) :
    Calls Try.prog 9 #[v, .int .i64 e] w fun r w' => ∃ v', r = .returned v' ∧ w'.ownsRow w.heap.size 32 3 v' (tellL e l).length (rpCells (tellL e l)) ∧ Below w.heap.size w w' := by
  rcases h with ⟨rfl, a, c, rfl, -⟩ | ⟨hne, b, off, cap, rfl, hcap, hlt, hx⟩
  · go_enter Try.func9, Try.ntmps9
    go_wp2
    refine wp_loop_rounds 1 ?_
    rw [rounds_succ]
    go_wp2
    go_ret
    exact ⟨_, rfl, World.ownsRow_nil _ _ _ _, Below.refl _ _⟩
  · have HX := Lib.hid hx
    clear hx
    have HN := Lib.hid hne
    clear hne
    obtain ⟨i0, hi, hz0, hz1, hz2⟩ := info_parts info32
    go_enter Try.func9, Try.ntmps9
    go_wp2
    go_loopw [4, 9] (fun o i wr => ∃ k : Nat, k ≤ l.length ∧ i = .int .i64 k ∧ wr.ownsRow w.heap.size 32 3 o (tellL e (l.take k)).length (rpCells (tellL e (l.take k))) ∧ Below w.heap.size w wr)
      (fun _ i _ => l.length - (intOf i).toNat)
    case atStart => exact ⟨0, Nat.zero_le _, rfl, World.ownsRow_nil _ _ _ _, Below.refl _ _⟩
    case round =>
      obtain ⟨k, hk, rfl, hown, hbl⟩ := hrel
      by_cases hk' : k < l.length
      · obtain ⟨z, hz⟩ : ∃ z, l[k]? = some z := ⟨l[k], List.getElem?_eq_getElem hk'⟩
        have hc : wr.cell? ⟨b, off + k, none⟩ = some (.int .i64 z) := (hbl.cell (p := ⟨b, off + k, none⟩) hlt).trans (HX.out k z hz)
        have HZ := Lib.hid hz
        clear hz
        have hln : (tellL e (l.take k)).length ≤ 1000 := by simp [tellL]; omega
        have hsz := hbl.size
        have HB := Lib.hid hbl
        clear hbl
        go_wp2_with (first
          | (at_builtin; refine wpList_append_own _ rfl _ _ 25 rfl w.heap.size 32 i0 (.agg #[.int .i64 0, .int .i64 0, .int .i64 0]) 3 24 Try.underlying25 hi hz0 hz1 hz2 rfl (by decide) _ _ _ rfl (hown.alloc _) ⟨wr.heap.size, 0, none⟩ 1 1 [.int .i64 z, .int .i64 (-1), .int .i64 e] rfl rfl ?c1 ?c2 ?c3 ?c4 ?c5 ?_))
        case c1 => exact news_alloc wr [.int .i64 z, .int .i64 (-1), .int .i64 e] 32
        case c2 => intro u hu; simp at hu; rcases hu with rfl | rfl | rfl <;> rfl
        case c3 => unfold maxLen; omega
        case c4 => omega
        case c5 => simp; omega
        · intro v' w1 hown' hgrow _
          have hb1 : Below w.heap.size w w1 := (HB.out.alloc hsz _).grown hgrow (by simp; omega) (fun j hj => ownBlock_ge hown hj)
          have hown2 : w1.ownsRow w.heap.size 32 3 v' (tellL e (l.take (k + 1))).length (rpCells (tellL e (l.take (k + 1)))) := by
            rw [tell_step HZ.out, rpCells_app, List.length_append]; exact hown'
          clear hown' hgrow hown hc
          go_wp2
          go_roundw
          case rel => exact ⟨k + 1, by omega, by go_num, hown2, hb1⟩
          case measure => simp [intOf]; omega
      · have hkn : l.take k = l := List.take_of_length_le (by omega)
        rw [hkn] at hown
        clear hkn
        go_wp2
        go_ret
        exact ⟨_, rfl, hown, hbl⟩

set_option maxHeartbeats 400000 in
theorem clone25 (v : Value) (l : List Int) (w : World) (hl : l.length ≤ 1000) (h : RdI w v l) :
    Calls Try.prog 25 #[v] w fun r w' => ∃ v', r = .returned v' ∧ w'.ownsRow w.heap.size 3 1 v' l.length (l.map (Value.int .i64)) ∧ Below w.heap.size w w' := by
  obtain ⟨i0, hi, hz0, hz1, hz2⟩ := info_parts info3
  have qT : ∀ (w : World) (a : Option Addr) (n c n' c' : Nat), (binOp .eql 22 (.slice a n c) (.slice none n' c')).run Try.prog w = .ok (.bool a.isNone) w := fun w a n c n' c' => Lib.run_eql_slice_nil w _ _ a n c n' c' Try.underlying22
  rcases h with ⟨rfl, a, c, rfl, -⟩ | ⟨hne, b, off, cap, rfl, hcap, hlt, hx⟩
  · cases a with
    | none =>
      go_enter Try.func25, Try.ntmps25
      go_wp2
      go_ret
      exact ⟨_, rfl, World.ownsRow_nil _ _ _ _, Below.refl _ _⟩
    | some a =>
      go_enter Try.func25, Try.ntmps25
      go_wp2
      go_ret
      exact ⟨_, rfl, owns_empty w _ 3 1 (Nat.le_refl _), by (repeat' (first | (with_reducible exact Below.refl _ _) | (with_reducible assumption) | (with_reducible refine Below.drew ?_) | (with_reducible refine Below.alloc ?_ ?_ _) | (with_reducible refine below_more ?_ ?_ _ _) | (with_reducible refine Below.setCell ?_ ?_ _) | (with_reducible refine Below.trans ?_ (Below.mono (by assumption) ?_)))) <;> first | omega | (simp; done) | (simp; omega) | (simp [more_size]; done) | (simp [more_size]; omega)⟩
  · have HN := Lib.hid hne
    have HX := Lib.hid hx
    clear hne hx
    go_enter Try.func25, Try.ntmps25
    go_wp2_with (first
      | (at_builtin; refine wpList_append_own _ rfl _ _ 22 rfl w.heap.size 3 i0 (.int .i64 0) 1 8 Try.underlying22 hi hz0 hz1 hz2 rfl (by decide) _ 0 [] rfl (owns_empty w _ 3 1 (Nat.le_refl _)) ⟨b, off, none⟩ l.length cap (l.map (Value.int .i64)) rfl (by simp) ?c1 (ints_one l) ?c3 ?c4 ?c5 ?_))
    case c1 =>
      intro j u hu
      rw [List.getElem?_map, Option.map_eq_some_iff] at hu
      obtain ⟨x, hx, rfl⟩ := hu
      rw [Addr.add_lit, World.cell?_alloc_past _ _ _ hlt]
      exact HX.out j x hx
    case c3 => unfold maxLen; omega
    case c4 => omega
    case c5 => simp
    intro v' w1 hown' hgrow _
    have hb1 : Below w.heap.size w w1 := ((Below.refl _ w).alloc (Nat.le_refl _) _).grown hgrow (by simp) (fun j hj => by cases hj; exact Nat.le_refl _)
    clear hgrow
    go_wp2
    go_ret
    exact ⟨_, rfl, hown', hb1⟩
end Go.Proofs.Ytkpbohgadldpjaa
