
/- Walks of the seat of chapter 07: OfferOnce: the frame, a round's head. -/
import Derived.Test.YtcdmhldhhjolpaaO17
import Derived.Test.YtcdmhldhhjolpaaO18
import Derived.StillTailTactics
import Derived.Deep.DeepCutAuto
namespace Go.Proofs.Ytcdmhldhhjolpaa
open Go.RowKit
attribute [local go_sem ↓] Go.wp_at_zero Go.wp_at_succ
attribute [local go_sem] more_size cell_more_old frozen_more_old setCell_more_old more_drew drew_more old_alloc old_more old_drew old_setCell cell_alloc_old frozen_alloc_old setCell_alloc_old
attribute [local go_sem ↓] load42 store42 load61 store61 load38 store38 load30 store30
attribute [local go_sem] run42 runs42 run61 runs61 run38 runs38 run30 runs30 blk_drew has_drew blk_drewN has_drewN old_drewN blk_alloc_old has_alloc_old blk_alloc_new has_alloc_new setBlk_size setBlk_drew old_setBlk cell_setBlk' cell_setBlk_ne frozen_setBlk blk_setBlk' blk_setBlk_ne has_setBlk' has_setBlk_ne setBlk_alloc_old setBlk_new

/-- The loop's body. -/
noncomputable def body3 : Code := ((Try.f3.body.bind firstLoop).getD .skip)
/-- The frame at a round's beginning. -/
def frm (ar ad al : Option Addr) (nr pr nd pd nl pl : Nat) (k : Nat) (X : Nat → Value) : Act := { tmps := #[.slice ar nr pr, .slice ad nd pd, X 2, X 3, X 4, X 5, X 6, X 7, X 8, X 9, X 10, .slice al nl pl, .int .i64 k, X 13, X 14, X 15, X 16, X 17, X 18, X 19, X 20, X 21, X 22, X 23, X 24, X 25, X 26, X 27, X 28, X 29, X 30, X 31, X 32, X 33, X 34, X 35, X 36, X 37, X 38, X 39, X 40, X 41, X 42, X 43, X 44, X 45, X 46, X 47, X 48, X 49, X 50, X 51, X 52, X 53, X 54, X 55, X 56, X 57, X 58, X 59, X 60, X 61, X 62, X 63, X 64, X 65, X 66, X 67, X 68, X 69, X 70, X 71, X 72, X 73, X 74, X 75, X 76, X 77, X 78, X 79, X 80, X 81, X 82, X 83, X 84, X 85, X 86, X 87, X 88, X 89, X 90, X 91, X 92, X 93, X 94, X 95, X 96, X 97, X 98, X 99, X 100, X 101, X 102, X 103, X 104, X 105, X 106, X 107, X 108, X 109, X 110, X 111, X 112, X 113, X 114, X 115, X 116, X 117, X 118, X 119, X 120, X 121, X 122, X 123, X 124, X 125, X 126, X 127, X 128, X 129, X 130, X 131, X 132, X 133, X 134, X 135, X 136, X 137, X 138, X 139, X 140, X 141, X 142, X 143, X 144, X 145, X 146, X 147, X 148, X 149, X 150, X 151, X 152, X 153, X 154, X 155, X 156, X 157, X 158, X 159, X 160, X 161, X 162, X 163, X 164, X 165, X 166, X 167, X 168, X 169, X 170, X 171, X 172, X 173, X 174, X 175, X 176, X 177, X 178, X 179, X 180, X 181, X 182, X 183, X 184, X 185, X 186, X 187, X 188, X 189, X 190, X 191, X 192, X 193, X 194, X 195, X 196, X 197, X 198, X 199, X 200, X 201, X 202, X 203, X 204, X 205, X 206, X 207, X 208, X 209, X 210, X 211, X 212, X 213, X 214, X 215, X 216, X 217, X 218, X 219], defers := [] }
def WI (ar ad al : Option Addr) (nr pr nd pd nl pl : Nat) (w : World) (a' : Act) (w' : World) : Prop :=
  ∃ (k : Nat) (X : Nat → Value), a' = frm ar ad al nr pr nd pd nl pl k X ∧ k ≤ nl ∧ Below w.heap.size w w'
def Wm (nl : Nat) (a' : Act) : Nat := nl - (intOf (a'.tmps.getD 12 undef)).toNat
theorem wi_mk {ar ad al : Option Addr} {nr pr nd pd nl pl : Nat} {w : World} {a' : Act} {w' : World} (k : Nat) (hf : a' = frm ar ad al nr pr nd pd nl pl k (fun k => a'.tmps.toList.getD k undef)) (hk : k ≤ nl) (hb : Below w.heap.size w w') : WI ar ad al nr pr nd pd nl pl w a' w' := ⟨k, _, hf, hk, hb⟩
theorem wm_lt {nl : Nat} {a' : Act} {N : Nat} (k : Int) (h : a'.tmps.getD 12 undef = .int .i64 k) (hk : nl - k.toNat < N) : Wm nl a' < N := by
  unfold Wm
  rw [h]
  exact hk
theorem wm_frm (ar ad al : Option Addr) (nr pr nd pd nl pl : Nat) (k : Nat) (X : Nat → Value) : Wm nl (frm ar ad al nr pr nd pd nl pl k X) = nl - k := rfl
end Go.Proofs.Ytcdmhldhhjolpaa
