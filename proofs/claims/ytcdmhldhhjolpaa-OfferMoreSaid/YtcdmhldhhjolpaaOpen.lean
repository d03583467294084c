/- Reading what came in, down to its leaves: a struct's cells, a slice's elements. Over any program. -/
import Derived.Test.YtcdmhldhhjolpaaLift
namespace Go.Proofs.Ytcdmhldhhjolpaa
open Go.ChangeShapes Go.WideShapes Go.ChangeAt Go.RowKit

/-- The leaves of a type: where each lies, and its type. -/
def leaves (P : Program) : Nat → TypeId → Option (List (Nat × TypeId))
  | 0, _ => none
  | d + 1, t =>
    match P.underlying t with
    | some (.struct fs) => (fs.toList.mapM fun f => (leaves P d f.type).map (List.map fun x => (f.offset + x.1, x.2))).map List.flatten
    | some (.array n e) => (leaves P d e).map fun l => (List.range n).flatMap fun i => l.map fun x => (i * P.cellsOf e + x.1, x.2)
    | some _ => some [(0, t)]
    | none => none

section
variable {H : Type} {enc : TypeId × Value → H} {P : Program} {W : World}

/-- A cell, read by its own type: what it weighs and where it leads are among what the whole weighs and where the whole leads. -/
def LeafIn (enc : TypeId × Value → H) (P : Program) (W : World) (ws : List Nat) (ps : List MemPlace) (u : TypeId) (v : Value) : Prop :=
  ∃ fuel d q, DataW.trod enc P W 0 (fun _ => true) true fuel u [v] = some (d, q) ∧ (∀ n ∈ d.weights P u, n ∈ ws) ∧ (∀ x ∈ q, x ∈ ps)

theorem LeafIn.mono {ws ws' : List Nat} {ps ps' : List MemPlace} {u : TypeId} {v : Value} (h : LeafIn enc P W ws ps u v) (h1 : ∀ n ∈ ws, n ∈ ws') (h2 : ∀ x ∈ ps, x ∈ ps') : LeafIn enc P W ws' ps' u v :=
  let ⟨fuel, d, q, a, b, c⟩ := h
  ⟨fuel, d, q, a, fun n hn => h1 n (b n hn), fun x hx => h2 x (c x hx)⟩

theorem mapM_mem {α β : Type} {f : α → Option β} : ∀ {l : List α} {r : List β}, l.mapM f = some r → ∀ x ∈ l, ∃ y ∈ r, f x = some y
  | [], _, _, x, hx => by cases hx
  | a :: l, r, h, x, hx => by
    rw [List.mapM_cons] at h
    simp only [bind, Option.bind_eq_some_iff, pure, Option.some.injEq] at h
    obtain ⟨y, hy, r', hr, rfl⟩ := h
    rcases List.mem_cons.1 hx with rfl | hx
    · exact ⟨y, List.mem_cons_self, hy⟩
    · obtain ⟨z, hz, e⟩ := mapM_mem hr x hx
      exact ⟨z, List.mem_cons_of_mem _ hz, e⟩

theorem mapM_range {β : Type} {f : Nat → Option β} {n : Nat} {r : List β} (h : (List.range n).mapM f = some r) : r.length = n ∧ ∀ i, i < n → ∃ y, r[i]? = some y ∧ f i = some y := by
  have key : ∀ (l : List Nat) (r : List β), l.mapM f = some r → r.length = l.length ∧ ∀ (i : Nat) (x : Nat), l[i]? = some x → ∃ y, r[i]? = some y ∧ f x = some y := by
    intro l
    induction l with
    | nil => intro r h; simp at h; subst h; simp
    | cons a l ih =>
      intro r h
      rw [List.mapM_cons] at h
      simp only [bind, Option.bind_eq_some_iff, pure, Option.some.injEq] at h
      obtain ⟨y, hy, r', hr, rfl⟩ := h
      obtain ⟨h1, h2⟩ := ih r' hr
      refine ⟨by simp [h1], fun i x hx => ?_⟩
      cases i with
      | zero => simp at hx; subst hx; exact ⟨y, by simp, hy⟩
      | succ i => simp at hx; simpa using h2 i x hx
  obtain ⟨h1, h2⟩ := key _ _ h
  refine ⟨by simpa using h1, fun i hi => h2 i i (by simp [hi])⟩

theorem mapM_length {α β : Type} {f : α → Option β} : ∀ {l : List α} {r : List β}, l.mapM f = some r → r.length = l.length
  | [], r, h => by simp at h; subst h; rfl
  | a :: l, r, h => by
    rw [List.mapM_cons] at h
    simp only [bind, Option.bind_eq_some_iff, pure, Option.some.injEq] at h
    obtain ⟨y, _, r', hr, rfl⟩ := h
    simp [mapM_length hr]

theorem mapM_each {α β : Type} {f : α → Option β} : ∀ {l : List α} {r : List β}, l.mapM f = some r → ∀ (j : Nat) (x : α), l[j]? = some x → ∃ y, r[j]? = some y ∧ f x = some y
  | [], _, _, j, x, hx => by simp at hx
  | a :: l, r, h, j, x, hx => by
    rw [List.mapM_cons] at h
    simp only [bind, Option.bind_eq_some_iff, pure, Option.some.injEq] at h
    obtain ⟨y, hy, r', hr, rfl⟩ := h
    cases j with
    | zero => simp at hx; subst hx; exact ⟨y, by simp, hy⟩
    | succ j => simp at hx; simpa using mapM_each hr j x hx

theorem weightsAll_mem {e : TypeId} : ∀ {l : List (DataW H)} {d : DataW H}, d ∈ l → ∀ n ∈ d.weights P e, n ∈ DataW.weightsAll P e l
  | a :: l, d, h, n, hn => by
    simp only [DataW.weightsAll, List.mem_append]
    rcases List.mem_cons.1 h with rfl | h
    · exact Or.inl hn
    · exact Or.inr (weightsAll_mem h n hn)

theorem trod_leaf_one {fuel : Nat} {t : TypeId} {k : TypeDesc} {cs : List Value} {d : DataW H} {ps : List MemPlace} (hu : P.underlying t = some k) (h1 : ∀ fs, k ≠ .struct fs) (h2 : ∀ n e, k ≠ .array n e)
    (h : DataW.trod enc P W 0 (fun _ => true) true fuel t cs = some (d, ps)) : ∃ v, cs = [v] := by
  cases fuel with
  | zero => simp [DataW.trod] at h
  | succ fuel =>
    match cs with
    | [v] => exact ⟨v, rfl⟩
    | [] => cases k <;> simp [DataW.trod, hu] at h h1 h2
    | _ :: _ :: _ => cases k <;> simp [DataW.trod, hu] at h h1 h2

/-- **Each leaf of what came in, by its own type.** -/
theorem trod_leaves : ∀ (D : Nat) (t : TypeId) (L : List (Nat × TypeId)), leaves P D t = some L → ∀ (fuel : Nat) (cs : List Value) (d : DataW H) (ps : List MemPlace),
    DataW.trod enc P W 0 (fun _ => true) true fuel t cs = some (d, ps) → ∀ x ∈ L, ∃ v, cs[x.1]? = some v ∧ LeafIn enc P W (d.weights P t) ps x.2 v
  | 0, t, L, hL => by simp [leaves] at hL
  | D + 1, t, L, hL => by
    intro fuel cs d ps h x hx
    cases hu : P.underlying t with
    | none => simp [leaves, hu] at hL
    | some k =>
      by_cases hs : ∃ fs, k = .struct fs
      · obtain ⟨fs, rfl⟩ := hs
        simp only [leaves, hu, Option.map_eq_some_iff] at hL
        obtain ⟨LL, hLL, rfl⟩ := hL
        cases fuel with
        | zero => simp [DataW.trod] at h
        | succ fuel =>
          simp only [DataW.trod, hu] at h
          split at h
          · simp only [Option.map_eq_some_iff, Prod.mk.injEq] at h
            obtain ⟨xs, hxs, rfl, rfl⟩ := h
            obtain ⟨l, hl, hxl⟩ := List.mem_flatten.1 hx
            obtain ⟨j, hj⟩ := List.mem_iff_getElem?.1 hl
            have hjf : ∃ f, fs.toList[j]? = some f := by
              have : j < LL.length := (List.getElem?_eq_some_iff.1 hj).1
              have hlen : LL.length = fs.toList.length := mapM_length hLL
              exact ⟨fs.toList[j]'(by omega), List.getElem?_eq_getElem (by omega)⟩
            obtain ⟨f, hf⟩ := hjf
            obtain ⟨y, hy, hyf⟩ := mapM_each hLL j f hf
            rw [hj] at hy
            obtain rfl := Option.some.inj hy
            obtain ⟨z, hz, hzf⟩ := mapM_each hxs j f hf
            simp only [Option.map_eq_some_iff] at hyf
            obtain ⟨lf, hlf, rfl⟩ := hyf
            obtain ⟨x', hx', rfl⟩ := List.mem_map.1 hxl
            obtain ⟨v, hv, hleaf⟩ := trod_leaves D f.type lf hlf fuel _ z.1 z.2 hzf x' hx'
            refine ⟨v, ?_, hleaf.mono ?_ ?_⟩
            · rw [List.getElem?_take] at hv
              split at hv
              · rwa [List.getElem?_drop] at hv
              · cases hv
            · intro n hn
              simp only [DataW.weights, hu]
              exact DataW.weights_mem_each (j := j) (t := f.type) (d := z.1) (by simp [hf]) (by simp [hz]) n hn
            · intro p hp
              exact List.mem_flatMap.2 ⟨z, List.mem_of_getElem? hz, hp⟩
          · cases h
      · by_cases ha : ∃ n e, k = .array n e
        · obtain ⟨n, e, rfl⟩ := ha
          simp only [leaves, hu, Option.map_eq_some_iff] at hL
          obtain ⟨l, hl, rfl⟩ := hL
          cases fuel with
          | zero => simp [DataW.trod] at h
          | succ fuel =>
            simp only [DataW.trod, hu] at h
            split at h
            · simp only [Option.map_eq_some_iff, Prod.mk.injEq] at h
              obtain ⟨xs, hxs, rfl, rfl⟩ := h
              obtain ⟨i, hi, hxi⟩ := List.mem_flatMap.1 hx
              have hin : i < n := by simpa using hi
              obtain ⟨x', hx', rfl⟩ := List.mem_map.1 hxi
              obtain ⟨z, hz, hzf⟩ := (mapM_range hxs).2 i hin
              obtain ⟨v, hv, hleaf⟩ := trod_leaves D e l hl fuel _ z.1 z.2 hzf x' hx'
              refine ⟨v, ?_, hleaf.mono ?_ ?_⟩
              · rw [List.getElem?_take] at hv
                split at hv
                · rwa [List.getElem?_drop] at hv
                · cases hv
              · intro n hn
                simp only [DataW.weights, hu]
                exact weightsAll_mem (List.mem_map.2 ⟨z, List.mem_of_getElem? hz, rfl⟩) n hn
              · intro p hp
                exact List.mem_flatMap.2 ⟨z, List.mem_of_getElem? hz, hp⟩
            · cases h
        · have hs' : ∀ fs, k ≠ .struct fs := fun fs e => hs ⟨fs, e⟩
          have ha' : ∀ n e, k ≠ .array n e := fun n e h => ha ⟨n, e, h⟩
          have hL' : L = [(0, t)] := by
            cases k <;> first | exact absurd rfl (hs' _) | exact absurd rfl (ha' _ _) | (simp only [leaves, hu] at hL; exact (Option.some.inj hL).symm)
          subst hL'
          obtain rfl : x = (0, t) := by simpa using hx
          obtain ⟨v, rfl⟩ := trod_leaf_one hu hs' ha' h
          exact ⟨v, rfl, fuel, d, ps, h, fun n hn => hn, fun p hp => hp⟩

theorem leaf_int {ws : List Nat} {ps : List MemPlace} {u : TypeId} {v : Value} {k : IntKind} (hu : P.underlying u = some (.int k)) (h : LeafIn enc P W ws ps u v) : ∃ n, v = .int k n ∧ (Lit.int k n).wf = true := by
  obtain ⟨fuel, d, q, h, _, _⟩ := h
  obtain ⟨a, e, _, w⟩ := DataW.trod_int hu h
  exact ⟨a, by simpa using e, w⟩
theorem leaf_string {ws : List Nat} {ps : List MemPlace} {u : TypeId} {v : Value} (hu : P.underlying u = some .string) (h : LeafIn enc P W ws ps u v) : ∃ s, v = .string s ∧ s.size ≤ maxLen ∧ s.size ∈ ws := by
  obtain ⟨fuel, d, q, h, hw, _⟩ := h
  cases fuel with
  | zero => simp [DataW.trod] at h
  | succ fuel =>
    cases v <;> simp [DataW.trod, hu] at h
    rename_i s
    obtain ⟨h1, rfl, rfl⟩ := h
    exact ⟨s, rfl, h1, hw _ (by simp [DataW.weights])⟩
theorem leaf_bool {ws : List Nat} {ps : List MemPlace} {u : TypeId} {v : Value} (hu : P.underlying u = some .bool) (h : LeafIn enc P W ws ps u v) : ∃ b, v = .bool b := by
  obtain ⟨fuel, d, q, h, _, _⟩ := h
  cases fuel with
  | zero => simp [DataW.trod] at h
  | succ fuel =>
    cases v <;> simp [DataW.trod, hu] at h
    exact ⟨_, rfl⟩
/-- A struct that came in by value: its cells, each read by its own type. -/
theorem open_struct {D base : Nat} {t : TypeId} {fs : Array Field} {L : List (Nat × TypeId)} {v : Value} {d : DataW H} {ps : List MemPlace} (hu : P.underlying t = some (.struct fs)) (hL : leaves P D t = some L)
    (hval : Value.okWide P W .any base t v) (hT : DataW.Trod enc P W 0 (fun _ => true) true t v d ps) :
    ∃ l : List Value, v = .agg l.toArray ∧ l.length = P.cellsOf t ∧ ∀ x ∈ L, ∃ c, l[x.1]? = some c ∧ LeafIn enc P W (d.weights P t) ps x.2 c := by
  obtain ⟨cs, rfl, hsz⟩ := okWide_struct hu hval
  obtain ⟨fuel, hf⟩ := hT
  exact ⟨cs.toList, by simp, by simpa using hsz, fun x hx => trod_leaves D t L hL fuel _ d ps hf x hx⟩

theorem leaf_at {L : List (Nat × TypeId)} {l : List Value} {ws : List Nat} {ps : List MemPlace} (hx : ∀ x ∈ L, ∃ c, l[x.1]? = some c ∧ LeafIn enc P W ws ps x.2 c) (o : Nat) (u : TypeId) {c : Value} (hc : l[o]? = some c) (hm : (o, u) ∈ L) : LeafIn enc P W ws ps u c := by
  obtain ⟨c', h1, h2⟩ := hx (o, u) hm
  obtain rfl := Option.some.inj (h1.symm.trans hc)
  exact h2

theorem cells_all {w : World} {a : Addr} {n : Nat} {cs : List Value} (h : w.cells? 0 a n = some cs) : cs.length = n ∧ ∀ j, j < n → ∃ c, cs[j]? = some c ∧ w.cell? (a.add j) = some c := by
  simp only [World.cells?, Nat.zero_le, if_true] at h
  exact mapM_range h

/-- A slice that came in: nil, or its elements (those behind its length too), each read by its own type. -/
theorem open_slice' {t e : TypeId} {ws : List Nat} {ps : List MemPlace} {v : Value} (hu : P.underlying t = some (.slice e)) (h : LeafIn enc P W ws ps t v) :
    v = .slice none 0 0 ∨ ∃ a len cap fuel, v = .slice (some a) len cap ∧ len ≤ cap ∧ cap ≤ maxLen ∧ cap * P.bytesOf e ∈ ws ∧
      ∀ i, i < cap → ∃ cs d q, W.cells? 0 (a.add (i * P.cellsOf e)) (P.cellsOf e) = some cs ∧ DataW.trod enc P W 0 (fun _ => true) true fuel e cs = some (d, q) ∧ (∀ n ∈ d.weights P e, n ∈ ws) ∧ (∀ x ∈ q, x ∈ ps) := by
  obtain ⟨fuel, d, q, h, hw, hp⟩ := h
  cases fuel with
  | zero => simp [DataW.trod] at h
  | succ fuel =>
    cases v <;> simp only [DataW.trod, hu] at h <;> try (cases h; done)
    rename_i a len cap
    cases a with
    | none =>
      left
      cases len <;> cases cap <;> simp at h
      rfl
    | some a =>
      right
      simp only at h
      split at h
      · rename_i hc
        obtain ⟨_, hle, hmax⟩ := hc
        simp only [Option.bind_eq_some_iff, Option.map_eq_some_iff, Prod.mk.injEq, if_true] at h
        obtain ⟨elems, hel, rest, hrest, hd, hq⟩ := h
        subst hd hq
        have h1 := mapM_range hel
        have h2 := mapM_range hrest
        refine ⟨a, len, cap, fuel, rfl, hle, hmax, ?_, fun i hi => ?_⟩
        · refine hw _ ?_
          simp only [DataW.weights, hu, List.length_map, h1.1, h2.1]
          rw [show len + (cap - len) = cap from by omega]
          exact List.mem_cons_self
        · by_cases hil : i < len
          · obtain ⟨y, hy, hyf⟩ := h1.2 i hil
            obtain ⟨cs, hcs, hcf⟩ := Option.bind_eq_some_iff.1 hyf
            refine ⟨cs, y.1, y.2, hcs, hcf, fun n hn => hw _ ?_, fun x hx => hp _ ?_⟩
            · simp only [DataW.weights, hu, List.mem_cons, List.mem_append]
              exact Or.inr (Or.inl (weightsAll_mem (List.mem_map.2 ⟨y, List.mem_of_getElem? hy, rfl⟩) n hn))
            · exact List.mem_append_right _ (List.mem_flatMap.2 ⟨y, List.mem_append_left _ (List.mem_of_getElem? hy), hx⟩)
          · obtain ⟨y, hy, hyf⟩ := h2.2 (i - len) (by omega)
            rw [show len + (i - len) = i from by omega] at hyf
            obtain ⟨cs, hcs, hcf⟩ := Option.bind_eq_some_iff.1 hyf
            refine ⟨cs, y.1, y.2, hcs, hcf, fun n hn => hw _ ?_, fun x hx => hp _ ?_⟩
            · simp only [DataW.weights, hu, List.mem_cons, List.mem_append]
              exact Or.inr (Or.inr (weightsAll_mem (List.mem_map.2 ⟨y, List.mem_of_getElem? hy, rfl⟩) n hn))
            · exact List.mem_append_right _ (List.mem_flatMap.2 ⟨y, List.mem_append_right _ (List.mem_of_getElem? hy), hx⟩)
      · cases h

theorem list6 {α : Type} {l : List α} (h : l.length = 6) : ∃ a b c d e f, l = [a, b, c, d, e, f] := by
  match l, h with
  | [a, b, c, d, e, f], _ => exact ⟨a, b, c, d, e, f, rfl⟩
theorem list10 {α : Type} {l : List α} (h : l.length = 10) : ∃ a b c d e f g i j k, l = [a, b, c, d, e, f, g, i, j, k] := by
  match l, h with
  | [a, b, c, d, e, f, g, i, j, k], _ => exact ⟨a, b, c, d, e, f, g, i, j, k, rfl⟩
end
end Go.Proofs.Ytcdmhldhhjolpaa
