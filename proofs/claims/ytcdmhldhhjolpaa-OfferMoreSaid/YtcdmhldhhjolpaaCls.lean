/- The class of the worlds behind a world: all that lay, lies. What a drawn region's walk keeps. No program in sight. -/
import Derived.Test.YtcdmhldhhjolpaaKit
import Derived.Deep.Draws
namespace Go.Proofs.Ytcdmhldhhjolpaa
open Go.RowKit

/-- The world w' lies behind w: its cells are as they were. (Written out, so that the walk's simp sees the rule.) -/
theorem cls_of {w w' : World} (hb : Below w.heap.size w w') : (∀ b o, b < w.heap.size → w'.cell? ⟨b, o, none⟩ = w.cell? ⟨b, o, none⟩) ∧ Below w.heap.size w w' :=
  ⟨fun b o h => hb.cell (p := ⟨b, o, none⟩) h, hb⟩

theorem cls_step {w a w' : World} (hb : Below a.heap.size a w') (h : (∀ b o, b < w.heap.size → a.cell? ⟨b, o, none⟩ = w.cell? ⟨b, o, none⟩) ∧ Below w.heap.size w a) :
    (∀ b o, b < w.heap.size → w'.cell? ⟨b, o, none⟩ = w.cell? ⟨b, o, none⟩) ∧ Below w.heap.size w w' :=
  cls_of (h.2.trans (hb.mono h.2.size))

theorem cls_alloc {w a : World} {x : Obj} (h : (∀ b o, b < w.heap.size → a.cell? ⟨b, o, none⟩ = w.cell? ⟨b, o, none⟩) ∧ Below w.heap.size w a) :
    (∀ b o, b < w.heap.size → (a.alloc x).cell? ⟨b, o, none⟩ = w.cell? ⟨b, o, none⟩) ∧ Below w.heap.size w (a.alloc x) :=
  cls_of (h.2.alloc h.2.size _)

theorem cls_drew {w a : World} (h : (∀ b o, b < w.heap.size → a.cell? ⟨b, o, none⟩ = w.cell? ⟨b, o, none⟩) ∧ Below w.heap.size w a) :
    (∀ b o, b < w.heap.size → a.drew.cell? ⟨b, o, none⟩ = w.cell? ⟨b, o, none⟩) ∧ Below w.heap.size w a.drew :=
  cls_of h.2.drew

theorem cls_start {w : World} : (∀ b o, b < w.heap.size → w.drew.cell? ⟨b, o, none⟩ = w.cell? ⟨b, o, none⟩) ∧ Below w.heap.size w w.drew :=
  cls_of (Below.refl _ _).drew

theorem below_drewN'' {w : World} (n : Nat) : Below w.heap.size w (w.drewN n) := ⟨rfl, rfl, rfl, Nat.le_refl _, fun _ _ => rfl⟩
theorem cls_startN {w : World} (n : Nat) : (∀ b o, b < w.heap.size → (w.drewN n).drew.cell? ⟨b, o, none⟩ = w.cell? ⟨b, o, none⟩) ∧ Below w.heap.size w (w.drewN n).drew :=
  cls_of (below_drewN'' n).drew
theorem cls_startN' {w : World} (n : Nat) : (∀ b o, b < w.heap.size → (w.drewN n).cell? ⟨b, o, none⟩ = w.cell? ⟨b, o, none⟩) ∧ Below w.heap.size w (w.drewN n) :=
  cls_of (below_drewN'' n)
theorem hm_drewN {w : World} {b n : Nat} {o : Obj} (h : w.heap[b]? = some o) : (w.drewN n).heap[b]? = some o := h
end Go.Proofs.Ytcdmhldhhjolpaa
