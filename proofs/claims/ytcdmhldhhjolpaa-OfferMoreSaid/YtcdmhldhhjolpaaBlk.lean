/- Whole blocks: a struct that is read, or written, at once. No program in sight. -/
import Derived.Test.YtcdmhldhhjolpaaCls2
import Derived.Deep.MidRow
namespace Go.Proofs.Ytcdmhldhhjolpaa
open Go.RowKit

/-- The cells of a block; a block of n cells, none of them frozen. -/
def blk (w : World) (b : Nat) : Array Value := match w.heap[b]? with | some (.cells cs _ _) => cs | _ => #[]
def Has (w : World) (b n : Nat) : Prop := ∃ cs t, w.heap[b]? = some (.cells cs t (0, 0)) ∧ cs.size = n
noncomputable def setBlk (w : World) (b : Nat) (cs : Array Value) : World := w.setCells b 0 cs.toList
noncomputable def loadS (ty : TypeId) (p : Value) : Sem Value := Instr.loadAt ty p
noncomputable def storeS (ty : TypeId) (p v : Value) : Sem Unit := Instr.storeAt ty p v

theorem blk_of {w : World} {b : Nat} {cs : Array Value} {t : TypeId} {fr : Nat × Nat} (h : w.heap[b]? = some (.cells cs t fr)) : blk w b = cs := by simp [blk, h]
theorem has_of {w : World} {b : Nat} {cs : Array Value} {t : TypeId} (h : w.heap[b]? = some (.cells cs t (0, 0))) : Has w b cs.size := ⟨cs, t, h, rfl⟩
theorem blk_drew (w : World) (b : Nat) : blk w.drew b = blk w b := rfl
theorem has_drew (w : World) (b n : Nat) : Has w.drew b n = Has w b n := rfl
theorem blk_drewN (w : World) (n b : Nat) : blk (w.drewN n) b = blk w b := rfl
theorem has_drewN (w : World) (m b n : Nat) : Has (w.drewN m) b n = Has w b n := rfl
theorem old_drewN (w : World) (m n : Nat) : Old (w.drewN m) n = Old w n := rfl
theorem blk_alloc_old (w : World) (o : Obj) (b : Nat) (h : Old w b) : blk (w.alloc o) b = blk w b := by
  simp only [blk, Below.heap_alloc w o b h]
theorem has_alloc_old (w : World) (o : Obj) (b n : Nat) (h : Old w b) : Has (w.alloc o) b n = Has w b n := by
  simp only [Has, Below.heap_alloc w o b h]
theorem blk_alloc_new (w : World) (cs : Array Value) (t : TypeId) (fr : Nat × Nat) (b : Nat) (h : b = w.heap.size) : blk (w.alloc (.cells cs t fr)) b = cs := blk_of (hm_new h)
theorem has_alloc_new (w : World) (cs : Array Value) (t : TypeId) (b n : Nat) (h : b = w.heap.size) (hn : cs.size = n) : Has (w.alloc (.cells cs t (0, 0))) b n = True := by
  subst hn; exact eq_true (has_of (hm_new h))

theorem setCells_heap (b : Nat) (t : TypeId) : ∀ (vs : List Value) (o : Nat) (w : World) (zs : Array Value), w.heap[b]? = some (.cells zs t (0, 0)) → o + vs.length ≤ zs.size →
    (w.setCells b o vs).heap[b]? = some (.cells (zs.toList.take o ++ vs ++ zs.toList.drop (o + vs.length)).toArray t (0, 0))
  | [], o, w, zs, h, _ => by simp [World.setCells, h]
  | v :: vs, o, w, zs, h, hl => by
    rw [World.setCells]
    have hlt : o < zs.size := by simp at hl; omega
    have h' := blk_set (i := o) (v := v) h
    rw [setCells_heap b t vs (o + 1) _ _ h' (by simp at hl ⊢; omega)]
    congr 2
    apply congrArg
    apply List.ext_getElem?
    intro j
    simp only [Array.toList_setIfInBounds, List.getElem?_append, List.getElem?_take, List.getElem?_drop, List.getElem?_set, List.length_take, List.length_set, Array.length_toList, List.length_append, List.length_cons]
    simp only [List.length_cons] at hl
    rcases Nat.lt_trichotomy j o with hj | rfl | hj
    · simp [show j < min (o + 1) zs.size from by omega, show j < min o zs.size from by omega, show j < o + 1 from by omega, show j < o from hj, show ¬ o = j from by omega,
        show j < min (o + 1) zs.size + vs.length from by omega, show j < min o zs.size + (vs.length + 1) from by omega]
    · simp [show j < min (j + 1) zs.size from by omega, show ¬ j < min j zs.size from by omega, show j - min j zs.size = 0 from by omega, hlt,
        show j < min (j + 1) zs.size + vs.length from by omega, show j < min j zs.size + (vs.length + 1) from by omega]
    · by_cases hk : j < o + 1 + vs.length
      · simp [show ¬ j < min (o + 1) zs.size from by omega, show ¬ j < min o zs.size from by omega,
          show j < min (o + 1) zs.size + vs.length from by omega, show j < min o zs.size + (vs.length + 1) from by omega]
        rw [show j - min o zs.size = (j - min (o + 1) zs.size) + 1 from by omega]
        simp
      · simp [show ¬ j < min (o + 1) zs.size from by omega, show ¬ j < min o zs.size from by omega,
          show ¬ j < min (o + 1) zs.size + vs.length from by omega, show ¬ j < min o zs.size + (vs.length + 1) from by omega,
          show ¬ o = o + 1 + vs.length + (j - (min (o + 1) zs.size + vs.length)) from by omega]
        congr 1
        omega
theorem setCells_other (b k : Nat) (hk : k ≠ b) : ∀ (vs : List Value) (o : Nat) (w : World), (w.setCells b o vs).heap[k]? = w.heap[k]?
  | [], _, _ => rfl
  | v :: vs, o, w => by rw [World.setCells, setCells_other b k hk vs, Below.heap_setCell _ _ _ _ hk]
theorem setCells_same (b : Nat) : ∀ (vs : List Value) (o : Nat) (w : World), (w.setCells b o vs).os = w.os ∧ (w.setCells b o vs).tape = w.tape ∧ (w.setCells b o vs).output = w.output ∧ (w.setCells b o vs).heap.size = w.heap.size ∧ (w.drew.setCells b o vs) = (w.setCells b o vs).drew
  | [], _, _ => ⟨rfl, rfl, rfl, rfl, rfl⟩
  | v :: vs, o, w => by
    simp only [World.setCells]
    obtain ⟨h1, h2, h3, h4, h5⟩ := setCells_same b vs (o + 1) (w.setCell ⟨b, o, none⟩ v)
    exact ⟨h1, h2, h3, h4.trans (setCell_size _ _ _), h5⟩

theorem setBlk_at {w : World} {b : Nat} {zs cs : Array Value} {t : TypeId} (h : w.heap[b]? = some (.cells zs t (0, 0))) (hs : cs.size = zs.size) : (setBlk w b cs).heap[b]? = some (.cells cs t (0, 0)) := by
  have := setCells_heap b t cs.toList 0 w zs h (by simp; omega)
  rw [setBlk, this]
  simp [List.drop_of_length_le, hs]
theorem setBlk_ne (w : World) (b k : Nat) (cs : Array Value) (hk : k ≠ b) : (setBlk w b cs).heap[k]? = w.heap[k]? := setCells_other b k hk _ _ _
theorem setBlk_size (w : World) (b : Nat) (cs : Array Value) : (setBlk w b cs).heap.size = w.heap.size := (setCells_same b _ _ _).2.2.2.1
theorem setBlk_drew (w : World) (b : Nat) (cs : Array Value) : setBlk w.drew b cs = (setBlk w b cs).drew := (setCells_same b _ _ _).2.2.2.2
theorem old_setBlk (w : World) (b n : Nat) (cs : Array Value) : Old (setBlk w b cs) n = Old w n := by simp only [Old, setBlk_size]
theorem Below.setBlk {B : Nat} {a w : World} {b : Nat} (h : Below B a w) (hb : B ≤ b) (cs : Array Value) : Below B a (setBlk w b cs) :=
  h.trans ⟨(setCells_same b _ _ _).1, (setCells_same b _ _ _).2.1, (setCells_same b _ _ _).2.2.1, Nat.le_of_eq (setBlk_size _ _ _).symm, fun k hk => setBlk_ne _ _ _ _ (by omega)⟩
theorem cell_setBlk (w : World) (b i n : Nat) (cs : Array Value) (h : Has w b n) (hs : cs.size = n) : (setBlk w b cs).cell? ⟨b, i, none⟩ = cs[i]? := by
  obtain ⟨zs, t, hz, rfl⟩ := h
  exact cell_block (setBlk_at hz hs) i
theorem cell_setBlk_ne (w : World) (b c i : Nat) (cs : Array Value) (h : c ≠ b) : (setBlk w b cs).cell? ⟨c, i, none⟩ = w.cell? ⟨c, i, none⟩ := by
  simp only [World.cell?, setBlk_ne w b c cs h]
theorem frozen_setBlk (w : World) (b : Nat) (a : Addr) (cs : Array Value) : (setBlk w b cs).frozen? a = w.frozen? a := World.frozen?_setCells _ _ _ _ _
theorem blk_setBlk (w : World) (b n : Nat) (cs : Array Value) (h : Has w b n) (hs : cs.size = n) : blk (setBlk w b cs) b = cs := by
  obtain ⟨zs, t, hz, rfl⟩ := h
  exact blk_of (setBlk_at hz hs)
theorem blk_setBlk_ne (w : World) (b c : Nat) (cs : Array Value) (h : c ≠ b) : blk (setBlk w b cs) c = blk w c := by
  simp only [blk, setBlk_ne w b c cs h]
theorem has_setBlk (w : World) (b n : Nat) (cs : Array Value) (h : Has w b n) (hs : cs.size = n) : Has (setBlk w b cs) b n = True := by
  obtain ⟨zs, t, hz, rfl⟩ := h
  exact eq_true ⟨cs, t, setBlk_at hz hs, hs⟩
theorem blk_setBlk' (w : World) (b : Nat) (cs : Array Value) (h : Has w b cs.size) : blk (setBlk w b cs) b = cs := blk_setBlk w b _ cs h rfl
theorem cell_setBlk' (w : World) (b i : Nat) (cs : Array Value) (h : Has w b cs.size) : (setBlk w b cs).cell? ⟨b, i, none⟩ = cs[i]? := cell_setBlk w b i _ cs h rfl
theorem has_setBlk' (w : World) (b n : Nat) (cs : Array Value) (h : Has w b cs.size) (hs : cs.size = n) : Has (setBlk w b cs) b n = True := has_setBlk w b n cs (hs ▸ h) hs
theorem has_setBlk_ne (w : World) (b c n : Nat) (cs : Array Value) (h : c ≠ b) : Has (setBlk w b cs) c n = Has w c n := by
  simp only [Has, setBlk_ne w b c cs h]

section
variable {P : Program}
theorem run_loadS {w : World} {b n : Nat} {ty : TypeId} {fs : Array Field} (hu : P.underlying ty = some (.struct fs)) (hi : (P.info? ty).map (·.size) = some n) (h : Has w b n) : (loadS ty (.pointer (some ⟨b, 0, none⟩))).run P w = .ok (.agg (blk w b)) w := by
  obtain ⟨cs, t, hz, rfl⟩ := h
  rw [blk_of hz]
  have := run_loadVar_row (P := P) w b t ty cs (0, 0) _ hz hu rfl hi
  simp only [loadS, Instr.loadAt, Instr.sureAddr, Sem.run_bind, Sem.run_pure, Result.andThen_ok, this]
theorem run_storeS {w : World} {b n : Nat} {ty : TypeId} {cs : Array Value} (hi : (P.info? ty).map (·.size) = some n) (h : Has w b n) (hs : cs.size = n) (h1 : cs.all (·.oneCell') = true) : (storeS ty (.pointer (some ⟨b, 0, none⟩)) (.agg cs)).run P w = .ok () (setBlk w b cs) := by
  obtain ⟨zs, t, hz, rfl⟩ := h
  refine run_storeAt_mid (P := P) w b 0 ty cs (fun j hj => ⟨?_, ?_⟩) (by rw [hi, hs]) h1
  · rw [Nat.zero_add, cell_block hz, Array.getElem?_eq_getElem (by omega)]; rfl
  · rw [Nat.zero_add, free_block hz]
theorem setBlk_alloc_old (w : World) (o : Obj) (b : Nat) (cs : Array Value) (h : Old w b) : setBlk (w.alloc o) b cs = (setBlk w b cs).alloc o := by
  have key : ∀ (vs : List Value) (k : Nat) (w : World), Old w b → (w.alloc o).setCells b k vs = (w.setCells b k vs).alloc o := by
    intro vs
    induction vs with
    | nil => intro k w _; rfl
    | cons v vs ih =>
      intro k w h
      rw [World.setCells, World.setCells, setCell_alloc_old w o b k v h, ih _ _ (by rw [old_setCell]; exact h)]
  exact key _ _ _ h
theorem setBlk_new (w : World) (zs cs : Array Value) (t : TypeId) (b : Nat) (hb : b = w.heap.size) (hs : cs.size = zs.size) : setBlk (w.alloc (.cells zs t (0, 0))) b cs = w.alloc (.cells cs t (0, 0)) := by
  subst hb
  have key : ∀ (vs : List Value) (o : Nat) (zs : Array Value), o + vs.length ≤ zs.size → (w.alloc (.cells zs t (0, 0))).setCells w.heap.size o vs = w.alloc (.cells (zs.toList.take o ++ vs ++ zs.toList.drop (o + vs.length)).toArray t (0, 0)) := by
    intro vs o zs hl
    have h := setCells_heap w.heap.size t vs o (w.alloc (.cells zs t (0, 0))) zs (hm_new rfl) hl
    have hs := setCells_same w.heap.size vs o (w.alloc (.cells zs t (0, 0)))
    have hd : ∀ (vs : List Value) (o : Nat) (w' : World), (w'.setCells w.heap.size o vs) = { w' with heap := (w'.setCells w.heap.size o vs).heap } := by
      intro vs
      induction vs with
      | nil => intro o w'; rfl
      | cons v vs ih => intro o w'; rw [World.setCells, ih]; rfl
    rw [hd vs o (w.alloc _)]
    show ({ w with heap := _ } : World) = { w with heap := _ }
    congr 1
    apply Array.ext_getElem?
    intro j
    by_cases hj : j = w.heap.size
    · subst hj; rw [h]; simp
    · rw [setCells_other _ _ hj]
      show (w.heap.push _)[j]? = (w.heap.push _)[j]?
      rw [Array.getElem?_push, Array.getElem?_push, if_neg hj, if_neg hj]
  have := key cs.toList 0 zs (by simp; omega)
  rw [setBlk, this]
  simp [List.drop_of_length_le, hs]
end
end Go.Proofs.Ytcdmhldhhjolpaa
