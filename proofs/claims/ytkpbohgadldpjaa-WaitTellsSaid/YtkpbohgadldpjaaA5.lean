
/- Walks of the seat of chapter 23: the iterator's contract; Serve. -/
import Derived.Test.YtkpbohgadldpjaaA4
namespace Go.Proofs.Ytkpbohgadldpjaa
open Go.RowKit
attribute [local go_sem ↓] Go.wp_at_zero Go.wp_at_succ
attribute [local go_sem] more_size cell_more_old frozen_more_old setCell_more_old more_drew drew_more old_alloc old_more old_drew old_setCell cell_alloc_old frozen_alloc_old setCell_alloc_old
open Go.Shelf
attribute [local go_sem] Oper.semAt_some

set_option maxRecDepth 100000 in
set_option maxHeartbeats 1000000 in
/-- No round where one of the two is empty. -/
theorem pairs33_none (F : Fence) (n : Nat) (h33 : F.fn 33) (hro : F.round = none) (lp Bl Bs : Nat) (a a' : Option Addr) (x x' c c' : Nat) (hx : x ≤ 1000) (hx' : x' ≤ 1000) (h : x = 0 ∨ x' = 0) (J : List (Int × Int) → World → Prop) (W : World)
    (hBl : W.cell? ⟨Bl, 0, none⟩ = some (.slice a x c)) (hBs : W.cell? ⟨Bs, 0, none⟩ = some (.slice a' x' c')) (h0 : J [] W) :
    CallsIn F n Try.prog 33 #[.func (.yield lp) #[] #[], .pointer (some ⟨Bl, 0, none⟩), .pointer (some ⟨Bs, 0, none⟩)] W fun e W' => (∃ v, e = .returned v) ∧ J [] W' := by
  have hcase : ((x' : Int) < (x : Int) ∧ Hid (x' = 0)) ∨ ((x : Int) ≤ (x' : Int) ∧ Hid (x = 0)) := by
    rcases Nat.lt_or_ge x' x with h1 | h1
    · exact .inl ⟨by omega, by show _ = _; omega⟩
    · exact .inr ⟨by omega, by show _ = _; omega⟩
  clear h
  rcases hcase with ⟨hc, H⟩ | ⟨hc, H⟩
  all_goals
    obtain rfl := H.out
    clear H
    refine callsIn_of_wp Try.func33 rfl h33 ?_ hro
    simp only [Try.ntmps33, List.size_toArray, List.length_cons, List.length_nil, Nat.reduceAdd, Nat.reduceSub, Array.replicate_succ, Array.replicate_zero, List.push_toArray, List.append_toArray, List.nil_append, List.cons_append]
    gi_wp2
    gi_loopw [10] (fun i wr => i = .int .i64 0 ∧ J [] wr) (fun _ _ => 0)
    case atStart => exact ⟨rfl, h0⟩
    case round =>
      obtain ⟨rfl, hJs⟩ := hrel
      gi_wp2
      go_end0
      exact ⟨⟨_, rfl⟩, hJs⟩

set_option maxHeartbeats 1000000 in
theorem pairs24 (F : Fence) (n : Nat) (h24 : F.fn 24) (hro : F.round = none) (a a' : Option Addr) (x c x' c' : Nat) (w : World) :
    CallsIn F n Try.prog 24 #[.slice a x c, .slice a' x' c'] w fun e w' => e = .returned (.func (.func 33) #[] #[.pointer (some ⟨w.heap.size, 0, none⟩), .pointer (some ⟨w.heap.size + 1, 0, none⟩)]) ∧ w' = (w.alloc (.cells #[.slice a x c] 22)).alloc (.cells #[.slice a' x' c'] 22) := by
  refine callsIn_of_wp Try.func24 rfl h24 ?_ hro
  simp only [Try.ntmps24, List.size_toArray, List.length_cons, List.length_nil, Nat.reduceAdd, Nat.reduceSub, Array.replicate_succ, Array.replicate_zero, List.push_toArray, List.append_toArray, List.nil_append, List.cons_append]
  gi_wp2
  go_ret
  exact ⟨rfl, rfl⟩

/-- A value of ints, laid open: some slice; and where there are elements, where they lie. -/
theorem rdI_cases {w : World} {v : Value} {l : List Int} (h : RdI w v l) : ∃ a c, v = .slice a l.length c ∧ (l ≠ [] → ∃ b o, a = some ⟨b, o, none⟩ ∧ b < w.heap.size ∧ ∀ j x, l[j]? = some x → w.cell? ⟨b, o + j, none⟩ = some (.int .i64 x)) := by
  rcases h with ⟨rfl, a, c, rfl, -⟩ | ⟨hne, b, off, cap, rfl, hcap, hlt, hx⟩
  · exact ⟨a, c, rfl, fun h => absurd rfl h⟩
  · exact ⟨_, _, rfl, fun _ => ⟨b, off, rfl, hlt, hx⟩⟩

theorem pairs_stops (F : Fence) (n : Nat) (h33 : F.fn 33) (hro : F.round = none) (hn : 1 ≤ n) (Bl Bs n₀ : Nat) (a a' : Option Addr) (c c' : Nat) (l s : List Int) (hl : l.length ≤ 1000) (hs : s.length ≤ 1000) (w : World)
    (hBl : w.cell? ⟨Bl, 0, none⟩ = some (.slice a l.length c)) (hBs : w.cell? ⟨Bs, 0, none⟩ = some (.slice a' s.length c')) (hb1 : Bl < w.heap.size) (hb2 : Bs < w.heap.size) (hn₀ : n₀ ≤ w.heap.size)
    (hx : l ≠ [] → ∃ b o, a = some ⟨b, o, none⟩ ∧ b < n₀ ∧ ∀ j x, l[j]? = some x → w.cell? ⟨b, o + j, none⟩ = some (.int .i64 x))
    (hx' : s ≠ [] → ∃ b o, a' = some ⟨b, o, none⟩ ∧ b < n₀ ∧ ∀ j x, s[j]? = some x → w.cell? ⟨b, o + j, none⟩ = some (.int .i64 x)) :
    SeqStopsK F n Try.prog 33 #[.pointer (some ⟨Bl, 0, none⟩), .pointer (some ⟨Bs, 0, none⟩)] (fun x : Int × Int => #[Value.int .i64 x.1, Value.int .i64 x.2]) (KpP n₀ Bl Bs) (fun ys => ys = prs l s (min l.length s.length))
      (fun pre => ∃ k, k ≤ min l.length s.length ∧ pre = prs l s k) (min l.length s.length) w := fun lp J Jx W hW hA _ hY h0 => by
  have hc1 := (hW.cell (p := ⟨Bl, 0, none⟩) (by show Bl < _; exact hb1)).trans hBl
  have hc2 := (hW.cell (p := ⟨Bs, 0, none⟩) (by show Bs < _; exact hb2)).trans hBs
  by_cases h : l = [] ∨ s = []
  · have h' : l.length = 0 ∨ s.length = 0 := by rcases h with rfl | rfl <;> simp
    have hm : min l.length s.length = 0 := by omega
    rw [hm]
    exact (pairs33_none F n h33 hro lp Bl Bs a a' _ _ c c' hl hs h' J W hc1 hc2 h0).mono fun e W' ⟨he, hj⟩ => ⟨he, .inl ⟨_, rfl, hj⟩⟩
  · obtain ⟨b, o, rfl, hb, hcx⟩ := hx (fun e => h (.inl e))
    obtain ⟨b', o', rfl, hb', hcx'⟩ := hx' (fun e => h (.inr e))
    exact pairs33 F n h33 hro hn lp Bl Bs n₀ _ _ l s hl hs J Jx _ hA hY W hc1 hc2 b o c b' o' c' rfl rfl hb hb'
      (fun j x hj => (hW.cell (p := ⟨b, o + j, none⟩) (by show b < _; omega)).trans (hcx j x hj)) (fun j x hj => (hW.cell (p := ⟨b', o' + j, none⟩) (by show b' < _; omega)).trans (hcx' j x hj)) h0
end Go.Proofs.Ytkpbohgadldpjaa
