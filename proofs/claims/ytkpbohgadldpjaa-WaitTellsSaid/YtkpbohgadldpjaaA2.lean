
/- Walks of the seat of chapter 23: the references' places and comparisons; an answer to all. -/
import Derived.Test.YtkpbohgadldpjaaA1
namespace Go.Proofs.Ytkpbohgadldpjaa
open Go.RowKit
attribute [local go_sem ↓] Go.wp_at_zero Go.wp_at_succ
attribute [local go_sem] more_size cell_more_old frozen_more_old setCell_more_old more_drew drew_more old_alloc old_more old_drew old_setCell cell_alloc_old frozen_alloc_old setCell_alloc_old

/-- A reply: to whom, which socket, which error. -/
structure Rp where
  (to so er : Int)
def Rp.cells (r : Rp) : List Value := [.int .i64 r.to, .int .i64 r.so, .int .i64 r.er]
def rpCells : List Rp → List Value
  | [] => []
  | r :: l => .int .i64 r.to :: .int .i64 r.so :: .int .i64 r.er :: rpCells l
theorem rpCells_len (l : List Rp) : (rpCells l).length = l.length * 3 := by
  induction l with
  | nil => rfl
  | cons r l ih => simp only [rpCells, List.length_cons, ih]; omega
theorem rpCells_app (l m : List Rp) : rpCells (l ++ m) = rpCells l ++ rpCells m := by
  induction l with
  | nil => rfl
  | cons r l ih => simp [rpCells, ih]
theorem rpCells_at {l : List Rp} {k : Nat} {r : Rp} (h : l[k]? = some r) : (rpCells l)[k * 3]? = some (.int .i64 r.to) ∧ (rpCells l)[k * 3 + 1]? = some (.int .i64 r.so) ∧ (rpCells l)[k * 3 + 2]? = some (.int .i64 r.er) := by
  induction l generalizing k with
  | nil => simp at h
  | cons x l ih =>
    cases k with
    | zero => simp at h; subst h; simp [rpCells]
    | succ k =>
      have := ih (k := k) (by simpa using h)
      rw [show (k + 1) * 3 = k * 3 + 3 from by omega]
      simpa [rpCells] using this

/-- In the world w the value v is a slice of the replies l. -/
def RdR (w : World) (v : Value) (l : List Rp) : Prop :=
  (l = [] ∧ ∃ a c, v = .slice a 0 c) ∨
  (l ≠ [] ∧ ∃ b off cap, v = .slice (some ⟨b, off, none⟩) l.length cap ∧ l.length ≤ cap ∧ b < w.heap.size ∧ ∀ k r, l[k]? = some r →
    w.cell? ⟨b, off + k * 3, none⟩ = some (.int .i64 r.to) ∧ w.cell? ⟨b, off + k * 3 + 1, none⟩ = some (.int .i64 r.so) ∧ w.cell? ⟨b, off + k * 3 + 2, none⟩ = some (.int .i64 r.er))

theorem RdR.below {w w' : World} {v : Value} {l : List Rp} (h : RdR w v l) (hb : Below w.heap.size w w') : RdR w' v l := by
  rcases h with h | ⟨hn, b, off, cap, hv, hc, hlt, hx⟩
  · exact .inl h
  · have hcc : ∀ j, w'.cell? ⟨b, j, none⟩ = w.cell? ⟨b, j, none⟩ := fun j => hb.cell (p := ⟨b, j, none⟩) hlt
    exact .inr ⟨hn, b, off, cap, hv, hc, Nat.lt_of_lt_of_le hlt hb.size, fun k r h => ⟨(hcc _).trans (hx k r h).1, (hcc _).trans (hx k r h).2.1, (hcc _).trans (hx k r h).2.2⟩⟩

theorem RdR.shape {w : World} {v : Value} {l : List Rp} (h : RdR w v l) : ∃ a c, v = .slice a l.length c := by
  rcases h with ⟨rfl, a, c, rfl, -⟩ | ⟨_, b, off, cap, rfl, _⟩
  · exact ⟨a, c, rfl⟩
  · exact ⟨_, _, rfl⟩

theorem RdR.of_owns {w : World} {base e : Nat} {v : Value} {l : List Rp} (h : w.ownsRow base e 3 v l.length (rpCells l)) : RdR w v l := by
  obtain ⟨hl, ⟨rfl, h0⟩ | ⟨g, cap, cur, rfl, _, hg, hn, _, hs, ht⟩⟩ := h
  · exact .inl ⟨List.length_eq_zero_iff.1 h0, none, 0, rfl⟩
  · by_cases h0 : l = []
    · subst h0
      exact .inl ⟨rfl, _, _, rfl⟩
    · have key : ∀ j u, (rpCells l)[j]? = some u → w.cell? ⟨g, 0 + j, none⟩ = some u := by
        intro j u hu
        rw [Nat.zero_add, cell_block hg]
        have : (cur.toList.take (l.length * 3))[j]? = some u := by rw [ht, hu]
        rw [List.getElem?_take] at this
        split at this
        · simpa using this
        · cases this
      refine .inr ⟨h0, g, 0, cap, rfl, hn, block_lt hg, fun k r hr => ?_⟩
      obtain ⟨h1, h2, h3⟩ := rpCells_at hr
      exact ⟨key _ _ h1, by rw [Nat.add_assoc]; exact key _ _ h2, by rw [Nat.add_assoc]; exact key _ _ h3⟩

set_option maxHeartbeats 400000 in
theorem place14 (v : Value) (l : List Int) (y : Int) (w : World) (hl : l.length ≤ 4611686018427387904) (h : RdI w v l) :
    Calls Try.prog 14 #[v, .int .i64 y] w fun r w' => r = .returned (.int .i64 (idxV l y)) ∧ w = w' := by
  rcases h with ⟨rfl, a, c, rfl, -⟩ | ⟨hne, b, off, cap, rfl, hcap, hlt, hx⟩
  · go_enter Try.func14, Try.ntmps14
    go_wp2
    refine wp_loop_rounds 1 ?_
    rw [rounds_succ]
    go_wp2
    go_ret
    exact ⟨rfl, rfl⟩
  · have HX := Lib.hid hx
    clear hx
    have HN := Lib.hid hne
    clear hne
    go_enter Try.func14, Try.ntmps14
    go_wp2
    go_loop [5] (fun i => ∃ k : Nat, k ≤ l.length ∧ i = .int .i64 k ∧ ∀ j, j < k → l[j]? ≠ some y) (fun i => l.length - (intOf i).toNat)
    case atStart => exact ⟨0, Nat.zero_le _, rfl, fun j hj => by omega⟩
    case round =>
      obtain ⟨k, hk, rfl, hno⟩ := hrel
      have HNO := Lib.hid hno
      clear hno
      by_cases hk' : k < l.length
      · obtain ⟨z, hz⟩ : ∃ z, l[k]? = some z := ⟨l[k], List.getElem?_eq_getElem hk'⟩
        have hc := HX.out k z hz
        have HZ := Lib.hid hz
        clear hz
        by_cases hyz : z = y
        · have HE : Hid (idxV l y = k) := by show idxV l y = k; exact idxV_at (by rw [HZ.out, hyz]) HNO.out
          have hb : (z == y) = true := by simpa using hyz
          clear hyz
          go_wp2
          go_ret
          exact ⟨by rw [HE.out]; rfl, rfl⟩
        · have hb : (z == y) = false := by simpa using hyz
          have HY := Lib.hid hyz
          clear hyz
          go_wp2
          go_round
          case rel => exact ⟨k + 1, by omega, by go_num, fun j hj => by
            rcases Nat.lt_or_ge j k with h' | h'
            · exact HNO.out j h'
            · obtain rfl : j = k := by omega
              rw [HZ.out]
              intro e
              exact HY.out (Option.some.inj e)⟩
          case measure => simp [intOf]; omega
      · have HE : Hid (idxV l y = -1) := by show idxV l y = -1; exact idxV_none (fun j hj => HNO.out j (by omega))
        go_wp2
        go_ret
        exact ⟨by rw [HE.out]; rfl, rfl⟩

theorem below_drewN' {w : World} (n : Nat) : Below w.heap.size w (w.drewN n) := below_drewN (Below.refl _ _) n

set_option maxHeartbeats 400000 in
/-- The same numbers: true. -/
theorem same11 (v u : Value) (l : List Int) (w : World) (hl : l.length ≤ 4611686018427387904) (hv : RdI w v l) (hu : RdI w u l) :
    Calls Try.prog 11 #[v, u] w fun r w' => r = .returned (.bool true) ∧ Below w.heap.size w w' := by
  rcases hv with ⟨rfl, a, c, rfl, -⟩ | ⟨hne, b1, o1, cap1, rfl, hc1, hlt1, hx1⟩
  · obtain ⟨a', c', rfl⟩ := hu.shape
    go_enter Try.func11, Try.ntmps11
    go_wp2
    refine wp_loop_rounds 1 ?_
    rw [rounds_succ]
    go_wp2
    go_ret
    exact ⟨rfl, Below.refl _ _⟩
  · rcases hu with ⟨h0, _⟩ | ⟨_, b2, o2, cap2, rfl, hc2, hlt2, hx2⟩
    · exact absurd h0 hne
    have H1 := Lib.hid hx1
    have H2 := Lib.hid hx2
    have HN := Lib.hid hne
    clear hx1 hx2 hne
    go_enter Try.func11, Try.ntmps11
    go_wp2
    go_loopw [5] (fun i wr => ∃ k : Nat, k ≤ l.length ∧ i = .int .i64 k ∧ ∃ m, wr = w.drewN m) (fun i _ => l.length - (intOf i).toNat)
    case atStart => exact ⟨0, Nat.zero_le _, rfl, 0, rfl⟩
    case round =>
      obtain ⟨k, hk, rfl, m, rfl⟩ := hrel
      by_cases hk' : k < l.length
      · obtain ⟨z, hz⟩ : ∃ z, l[k]? = some z := ⟨l[k], List.getElem?_eq_getElem hk'⟩
        have c1 := H1.out k z hz
        have c2 := H2.out k z hz
        clear hz
        have hi : (k : Int) < (l.length : Int) := by omega
        have hi0 : (0 : Int) ≤ (k : Int) := by omega
        go_wp2
        go_quiet (fail)
        go_wp2
        go_roundw
        case rel => exact ⟨k + 1, by omega, by go_num, _, rfl⟩
        case measure => simp [intOf]; omega
      · go_wp2
        go_ret
        exact ⟨rfl, below_drewN' m⟩
set_option maxHeartbeats 400000 in
/-- The same replies: true. -/
theorem same10 (v u : Value) (l : List Rp) (w : World) (hl : l.length ≤ 4611686018427387904) (hv : RdR w v l) (hu : RdR w u l) :
    Calls Try.prog 10 #[v, u] w fun r w' => r = .returned (.bool true) ∧ Below w.heap.size w w' := by
  rcases hv with ⟨rfl, a, c, rfl, -⟩ | ⟨hne, b1, o1, cap1, rfl, hc1, hlt1, hx1⟩
  · obtain ⟨a', c', rfl⟩ := hu.shape
    go_enter Try.func10, Try.ntmps10
    go_wp2
    refine wp_loop_rounds 1 ?_
    rw [rounds_succ]
    go_wp2
    go_ret
    exact ⟨rfl, Below.refl _ _⟩
  · rcases hu with ⟨h0, _⟩ | ⟨_, b2, o2, cap2, rfl, hc2, hlt2, hx2⟩
    · exact absurd h0 hne
    have H1 := Lib.hid hx1
    have H2 := Lib.hid hx2
    have HN := Lib.hid hne
    clear hx1 hx2 hne
    go_enter Try.func10, Try.ntmps10
    go_wp2
    go_loopw [5] (fun i wr => ∃ k : Nat, k ≤ l.length ∧ i = .int .i64 k ∧ ∃ m, wr = w.drewN m) (fun i _ => l.length - (intOf i).toNat)
    case atStart => exact ⟨0, Nat.zero_le _, rfl, 0, rfl⟩
    case round =>
      obtain ⟨k, hk, rfl, m, rfl⟩ := hrel
      by_cases hk' : k < l.length
      · obtain ⟨z, hz⟩ : ∃ z, l[k]? = some z := ⟨l[k], List.getElem?_eq_getElem hk'⟩
        obtain ⟨c1, c2, c3⟩ := H1.out k z hz
        obtain ⟨d1, d2, d3⟩ := H2.out k z hz
        clear hz
        obtain ⟨to, so, er⟩ := z
        simp only at c1 c2 c3 d1 d2 d3
        have hi : (k : Int) < (l.length : Int) := by omega
        have hi0 : (0 : Int) ≤ (k : Int) := by omega
        go_wp2
        go_quiet (fail)
        go_wp2
        go_roundw
        case rel => exact ⟨k + 1, by omega, by go_num, _, rfl⟩
        case measure => simp [intOf]; omega
      · go_wp2
        go_ret
        exact ⟨rfl, below_drewN' m⟩
end Go.Proofs.Ytkpbohgadldpjaa
