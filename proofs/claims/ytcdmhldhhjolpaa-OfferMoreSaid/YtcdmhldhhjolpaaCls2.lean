/- More on the class of the worlds behind a world; a cut at the world. -/
import Derived.Test.YtcdmhldhhjolpaaCls
namespace Go.Proofs.Ytcdmhldhhjolpaa
open Go.RowKit

theorem cls_block {w w' : World} {b : Nat} {o : Obj} (h : (∀ b o, b < w.heap.size → w'.cell? ⟨b, o, none⟩ = w.cell? ⟨b, o, none⟩) ∧ Below w.heap.size w w') (k : w.heap[b]? = some o) : w'.heap[b]? = some o :=
  block_keep h.2 k (block_lt k)
theorem cls_fin {B : Nat} {w0 w w' : World} (hB : Below B w0 w) (hz : B ≤ w.heap.size) (h : (∀ b o, b < w.heap.size → w'.cell? ⟨b, o, none⟩ = w.cell? ⟨b, o, none⟩) ∧ Below w.heap.size w w') : Below B w0 w' :=
  hB.trans (h.2.mono hz)

/-- The world under a name of its own: what follows hangs on F alone. -/
theorem cut_world {P : Program} {Q : Exit → Act → World → Prop} {a : Act} {w : World} {c : Code} (F : World → Prop) (hF : F w) (h : ∀ w', F w' → c.wp P Q a w') : c.wp P Q a w := h w hF
theorem cut_calls {P : Program} {f : FuncId} {args : Array Value} {w : World} {R : Ending → World → Prop} (F : World → Prop) (hF : F w) (h : ∀ w', F w' → Calls P f args w' R) : Calls P f args w R := h w hF

theorem sets10 {w : World} {b c : Nat} {o : Obj} {v0 v1 v2 v3 v4 v5 v6 v7 v8 v9 : Value} (h : w.heap[c]? = some o) (hne : c ≠ b) :
    (World.setCell (World.setCell (World.setCell (World.setCell (World.setCell (World.setCell (World.setCell (World.setCell (World.setCell (World.setCell w ⟨b, 0, none⟩ v0) ⟨b, 1, none⟩ v1) ⟨b, 2, none⟩ v2) ⟨b, 3, none⟩ v3) ⟨b, 4, none⟩ v4) ⟨b, 5, none⟩ v5) ⟨b, 6, none⟩ v6) ⟨b, 7, none⟩ v7) ⟨b, 8, none⟩ v8) ⟨b, 9, none⟩ v9).heap[c]? = some o :=
  block_set (block_set (block_set (block_set (block_set (block_set (block_set (block_set (block_set (block_set h hne) hne) hne) hne) hne) hne) hne) hne) hne) hne
theorem setCell_size (w : World) (a : Addr) (v : Value) : (w.setCell a v).heap.size = w.heap.size := by simp [World.setCell]
end Go.Proofs.Ytcdmhldhhjolpaa
