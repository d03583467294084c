
/- Walks of the seat of chapter 23: the reference's Drop. -/
import Derived.Test.YtkpbohgadldpjaaA12
namespace Go.Proofs.Ytkpbohgadldpjaa
open Go.RowKit
attribute [local go_sem ↓] Go.wp_at_zero Go.wp_at_succ
attribute [local go_sem] more_size cell_more_old frozen_more_old setCell_more_old more_drew drew_more old_alloc old_more old_drew old_setCell cell_alloc_old frozen_alloc_old setCell_alloc_old

/-- Where a slice lies, its first k elements taken. -/
def takeA (a : Option Addr) (c s : Nat) : Option Addr := if c = 0 then a else a.map (·.add (0 * s))

theorem run_take22 (a : Option Addr) (len cap k : Nat) (hk : k ≤ cap) (w : World) :
    (Instr.sliceAt 22 (.slice a len cap) none (some (.int .i64 (k : Int))) none).run Try.prog w = .ok (.slice (takeA a cap 1) k cap) w := by
  have hu : Try.prog.underlying 22 = some (.slice (Try.prog.elem 22)) := by kernel_rfl
  have hs : (sizeOf (Try.prog.elem 22)).run Try.prog w = .ok 1 w := by kernel_rfl
  rw [run_sliceAt_slice _ _ _ _ _ _ hu, run_slice_h _ _ _ _ _ hu _ _ (by omega) (by omega), hs]
  simp [Result.andThen, sliced, takeA]

theorem RdI.le {w : World} {a : Option Addr} {n c : Nat} {l : List Int} (h : RdI w (.slice a n c) l) : l.length ≤ c ∧ n = l.length := by
  rcases h with ⟨rfl, a', c', he, _⟩ | ⟨hne, b, off, cap, he, hc, hlt, hx⟩
  · cases he; simp
  · cases he; exact ⟨hc, rfl⟩

theorem RdI.take {w : World} {a : Option Addr} {c k : Nat} {l : List Int} (h : RdI w (.slice a l.length c) l) (hk : k ≤ l.length) : RdI w (.slice (takeA a c 1) k c) (l.take k) := by
  have hle := h.le.1
  by_cases h0 : k = 0
  · subst h0
    refine .inl ⟨by simp, _, _, rfl, fun hn => ?_⟩
    have : a = none := by
      simp only [takeA] at hn
      split at hn
      · exact hn
      · simpa using hn
    subst this
    exact h.nilcap.2.2
  · rcases h with ⟨rfl, _⟩ | ⟨hne, b, off, cap, he, hc, hlt, hx⟩
    · simp at hk; omega
    · cases he
      refine .inr ⟨fun h => h0 (by have := congrArg List.length h; simp at this; rcases this with h | h; exact h; exact absurd h hne), b, off, c, ?_, by simp; omega, hlt, fun j x hj => ?_⟩
      · have e : (l.take k).length = k := by simp; omega
        rw [e, takeA, if_neg (by omega)]
        simp [Addr.add]
      · rw [List.getElem?_take] at hj
        split at hj
        · exact hx j x hj
        · cases hj

/-- The row without the first of these. -/
def dropL (l : List Int) (x : Int) : List Int := if 0 ≤ idxV l x then l.take (idxV l x).toNat ++ l.drop ((idxV l x).toNat + 1) else l

theorem idxV_lt (l : List Int) (x : Int) : idxV l x < l.length ∨ l = [] := by
  induction l with
  | nil => exact .inr rfl
  | cons y l ih =>
    left
    simp only [idxV, List.length_cons]
    rcases ih with ih | rfl
    · split
      · omega
      · split <;> omega
    · simp only [idxV, List.length_nil]
      split <;> simp

set_option maxRecDepth 100000 in
set_option maxHeartbeats 4000000 in
theorem drop16 (v u : Value) (l : List Int) (x : Int) (w : World) (hl : l.length ≤ 1000) (h : RdI w v l) (hu : RdI w u [x]) :
    Calls Try.prog 16 #[v, u] w fun r w' => ∃ v' n, r = .returned (.tuple #[v', .int .i64 n]) ∧ RdI w' v' (dropL l x) ∧ Below w.heap.size w w' := by
  rcases hu with ⟨h0, _⟩ | ⟨_, b, off, cap, rfl, hcap, hlt, hx⟩
  · cases h0
  have hc0 := hx 0 x rfl
  rw [Nat.add_zero] at hc0
  have HC := Lib.hid hc0
  have H := Lib.hid h
  clear hx hc0 h
  simp only [List.length_cons, List.length_nil, Nat.zero_add] at hcap ⊢
  go_enter Try.func16, Try.ntmps16
  go_wp2_with fail
  refine (push31 _ _ [] l _ (by simp) hl (rdI_nil _) H.out).mono ?_
  rintro r w1 ⟨v1, rfl, hown, hb1⟩
  have hrd : RdI w1 v1 l := RdI.of_owns (by simpa using hown)
  obtain ⟨a1, c1, rfl⟩ := hrd.shape
  have hc1 : w1.cell? ⟨b, off, none⟩ = some (.int .i64 x) := (hb1.cell (p := ⟨b, off, none⟩) hlt).trans HC.out
  have HR := Lib.hid hrd
  have HB := Lib.hid hb1
  clear hown hrd hb1 hlt
  go_wp2_with fail
  have hlo := idxV_lo l x
  refine wp_loop_rounds 2 ?_
  rw [rounds_succ]
  rcases (show idxV l x = -1 ∨ 0 ≤ idxV l x from by omega) with hi | hi
  · have HE : Hid (dropL l x = l) := by show _ = _; rw [dropL, if_neg (by omega)]
    have HI := Lib.hid hi
    clear hi hlo
    go_wp2_with fail
    refine (place14 _ l x _ (by omega) HR.out).mono ?_
    rintro r w2 ⟨rfl, rfl⟩
    rw [HI.out]
    go_wp2_with fail
    rw [rounds_succ]
    go_wp2
    go_ret2
    exact ⟨_, _, rfl, by rw [HE.out]; exact HR.out, HB.out⟩
  · obtain ⟨k, hk⟩ : ∃ k : Nat, idxV l x = k := ⟨(idxV l x).toNat, by omega⟩
    have hkl : k < l.length := by
      rcases idxV_lt l x with h | rfl
      · omega
      · simp [idxV] at hi
    have HE : Hid (dropL l x = l.take k ++ l.drop (k + 1)) := by show _ = _; rw [dropL, if_pos hi, hk]; rfl
    have HK := Lib.hid hk
    have hle := HR.out.le.1
    have q1 := run_take22 a1 l.length c1 k (by omega)
    have q2 := run_cut22 a1 l.length c1 (k + 1) (by omega)
    have e1 : (((k + 1 : Nat)) : Int) = (k : Int) + 1 := by omega
    rw [e1] at q2
    have hw : IntKind.i64.wrap ((k : Int) + 1) = (k : Int) + 1 := by rw [IntKind.wrap_i64]; omega
    clear hk hi hlo e1
    go_wp2_with fail
    refine (place14 _ l x _ (by omega) HR.out).mono ?_
    rintro r w2 ⟨rfl, rfl⟩
    rw [HK.out]
    go_wp2
    go_region_held3 (fun w' => (∀ b o, b < (w1).heap.size → w'.cell? ⟨b, o, none⟩ = (w1).cell? ⟨b, o, none⟩) ∧ Below ((w1).heap.size) w1 w') ((with_reducible first | assumption | exact cls_start | exact cls_startN _ | exact cls_startN' _ | exact cls_step (by assumption) (by assumption) | exact cls_alloc (by assumption) | exact cls_drew (by assumption))) (first
      | (go_at_call 31; refine (push31 _ _ (l.take k) (l.drop (k + 1)) _ (by simp; omega) (by simp; omega) ((HR.out.take (by omega)).below (And.right (by assumption))) ((HR.out.cut (by omega)).below (And.right (by assumption)))).mono ?_; rintro e w' ⟨va, rfl, hva, hb⟩))
    have hb2 : Below w1.heap.size w1 w' := (Below.drew (Below.refl _ _)).trans hb
    have HR2 := Lib.hid (RdI.of_owns hva)
    have HB2 := Lib.hid (HB.out.trans (hb2.mono HB.out.size))
    clear hva hb hb2 hw q1 q2
    go_wp2_with fail
    rw [rounds_succ]
    go_wp2
    go_ret2
    exact ⟨_, _, rfl, by rw [HE.out]; exact HR2.out, HB2.out⟩
end Go.Proofs.Ytkpbohgadldpjaa
