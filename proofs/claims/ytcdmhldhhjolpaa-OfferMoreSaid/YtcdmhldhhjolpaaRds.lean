/- Slices of numbers that are read: what lies where. No program in sight. -/
import Derived.Test.YtcdmhldhhjolpaaKit
namespace Go.Proofs.Ytcdmhldhhjolpaa
open Go.RowKit

/-- In the world w the value v is a slice of the numbers l. -/
def RdI (w : World) (v : Value) (l : List Int) : Prop :=
  (l = [] ∧ ∃ a c, v = .slice a 0 c ∧ (a = none → c = 0)) ∨
  (l ≠ [] ∧ ∃ b off cap, v = .slice (some ⟨b, off, none⟩) l.length cap ∧ l.length ≤ cap ∧ b < w.heap.size ∧ ∀ j x, l[j]? = some x → w.cell? ⟨b, off + j, none⟩ = some (.int .i64 x))

theorem RdI.below {w w' : World} {v : Value} {l : List Int} (h : RdI w v l) (hb : Below w.heap.size w w') : RdI w' v l := by
  rcases h with h | ⟨hn, b, off, cap, hv, hc, hlt, hx⟩
  · exact .inl h
  · exact .inr ⟨hn, b, off, cap, hv, hc, Nat.lt_of_lt_of_le hlt hb.size, fun j x h => (hb.cell (p := ⟨b, off + j, none⟩) hlt).trans (hx j x h)⟩

theorem RdI.shape {w : World} {v : Value} {l : List Int} (h : RdI w v l) : ∃ a c, v = .slice a l.length c := by
  rcases h with ⟨rfl, a, c, rfl, -⟩ | ⟨_, b, off, cap, rfl, _⟩
  · exact ⟨a, c, rfl⟩
  · exact ⟨_, _, rfl⟩
theorem RdI.nilcap {w : World} {n c : Nat} {l : List Int} (h : RdI w (.slice none n c) l) : l = [] ∧ n = 0 ∧ c = 0 := by
  rcases h with ⟨rfl, a, c', he, hac⟩ | ⟨_, b, off, cap, he, _⟩
  · cases he; exact ⟨rfl, rfl, hac rfl⟩
  · cases he

theorem RdI.of_owns {w : World} {base e : Nat} {v : Value} {l : List Int} (h : w.ownsRow base e 1 v l.length (l.map (Value.int .i64))) : RdI w v l := by
  obtain ⟨hl, ⟨rfl, h0⟩ | ⟨g, cap, cur, rfl, _, hg, hn, _, hs, ht⟩⟩ := h
  · exact .inl ⟨List.length_eq_zero_iff.1 h0, none, 0, rfl, fun _ => rfl⟩
  · by_cases h0 : l = []
    · subst h0
      exact .inl ⟨rfl, _, _, rfl, fun h => by cases h⟩
    · refine .inr ⟨h0, g, 0, cap, rfl, hn, block_lt hg, fun j x hx => ?_⟩
      have hj : j < l.length := (List.getElem?_eq_some_iff.1 hx).1
      rw [Nat.zero_add, cell_block hg]
      have : (cur.toList.take (l.length * 1))[j]? = some (Value.int .i64 x) := by rw [ht, List.getElem?_map, hx]; rfl
      rw [List.getElem?_take] at this
      split at this
      · simpa using this
      · cases this

/-- Where x first stands; -1: nowhere. -/
def idxV : List Int → Int → Int
  | [], _ => -1
  | y :: l, x => if y = x then 0 else if idxV l x < 0 then -1 else idxV l x + 1

def hasB (l : List Int) (x : Int) : Bool := decide (x ∈ l)

theorem idxV_lo (l : List Int) (x : Int) : -1 ≤ idxV l x := by
  induction l with
  | nil => simp [idxV]
  | cons y l ih => simp only [idxV]; split <;> (try split) <;> omega
theorem idxV_has (l : List Int) (x : Int) : (0 ≤ idxV l x) ↔ x ∈ l := by
  induction l with
  | nil => simp [idxV]
  | cons y l ih =>
    simp only [idxV, List.mem_cons]
    by_cases h : y = x
    · simp [h]
    · simp only [h, if_false]
      have := idxV_lo l x
      split
      · rename_i h'
        constructor
        · intro h2; omega
        · rintro (h2 | h2)
          · exact absurd h2.symm h
          · have := ih.2 h2; omega
      · rename_i h'
        exact ⟨fun _ => Or.inr (ih.1 (by omega)), fun _ => by omega⟩
theorem idxV_at {l : List Int} {x : Int} {k : Nat} (hk : l[k]? = some x) (hno : ∀ j, j < k → l[j]? ≠ some x) : idxV l x = k := by
  induction l generalizing k with
  | nil => simp at hk
  | cons y l ih =>
    cases k with
    | zero => simp at hk; subst hk; simp [idxV]
    | succ k =>
      have hy : y ≠ x := fun h => hno 0 (by omega) (by simp [h])
      have := ih (k := k) (by simpa using hk) (fun j hj h => hno (j + 1) (by omega) (by simpa using h))
      simp only [idxV, hy, if_false, this]
      rw [if_neg (by omega)]
      omega
theorem idxV_none {l : List Int} {x : Int} (hno : ∀ j, j < l.length → l[j]? ≠ some x) : idxV l x = -1 := by
  have h : ¬ x ∈ l := fun h => by
    obtain ⟨j, hj⟩ := List.mem_iff_getElem?.1 h
    exact hno j (List.getElem?_eq_some_iff.1 hj).1 hj
  have := idxV_lo l x
  have h2 : ¬ 0 ≤ idxV l x := fun h' => h ((idxV_has l x).1 h')
  omega
end Go.Proofs.Ytcdmhldhhjolpaa
