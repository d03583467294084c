
/- Walks of the seat of chapter 07: OfferOnce: the round behind its head: a case that is ready by itself. -/
import Derived.Test.YtcdmhldhhjolpaaO19
namespace Go.Proofs.Ytcdmhldhhjolpaa
open Go.RowKit
attribute [local go_sem ↓] Go.wp_at_zero Go.wp_at_succ
attribute [local go_sem] more_size cell_more_old frozen_more_old setCell_more_old more_drew drew_more old_alloc old_more old_drew old_setCell cell_alloc_old frozen_alloc_old setCell_alloc_old
theorem has_drewP (w : World) (b n : Nat) : Has w.drew b n = Has w b n := propext Iff.rfl
theorem has_drewNP (w : World) (m b n : Nat) : Has (w.drewN m) b n = Has w b n := propext Iff.rfl
attribute [local go_sem ↓] load42 store42 load61 store61 load38 store38 load30 store30
attribute [local go_sem] run42 runs42 run61 runs61 run38 runs38 run30 runs30 blk_drew has_drewP blk_drewN has_drewNP old_drewN blk_alloc_old has_alloc_old blk_alloc_new has_alloc_new setBlk_size setBlk_drew old_setBlk cell_setBlk' cell_setBlk_ne frozen_setBlk blk_setBlk' blk_setBlk_ne has_setBlk' has_setBlk_ne setBlk_alloc_old setBlk_new

def seqR : Code → Code | .seq _ b => b | c => c
def seqL : Code → Code | .seq a _ => a | c => c
def blkIn : Code → Code | .block _ c => c | c => c
/-- The round's code behind 'a := rows[m.P][m.I]'. -/
noncomputable def rest11 : Code := seqR (seqR (seqR (blkIn (seqL (seqR body3)))))
/-- The frame there. -/
def frm2 (ar ad al : Option Addr) (nr pr nd pd nl pl : Nat) (k : Nat) (B A : Nat) (Z : Nat → Value) : Act := { tmps := #[.slice ar nr pr, .slice ad nd pd, Z 2, Z 3, Z 4, Z 5, Z 6, Z 7, Z 8, Z 9, Z 10, .slice al nl pl, .int .i64 k, .pointer (some ⟨B, 0, none⟩), .pointer (some ⟨A, 0, none⟩), Z 15, Z 16, Z 17, Z 18, Z 19, Z 20, Z 21, Z 22, Z 23, Z 24, Z 25, Z 26, Z 27, Z 28, Z 29, Z 30, Z 31, Z 32, Z 33, Z 34, Z 35, Z 36, Z 37, Z 38, Z 39, Z 40, Z 41, Z 42, Z 43, Z 44, Z 45, Z 46, Z 47, Z 48, Z 49, Z 50, Z 51, Z 52, Z 53, Z 54, Z 55, Z 56, Z 57, Z 58, Z 59, Z 60, Z 61, Z 62, Z 63, Z 64, Z 65, Z 66, Z 67, Z 68, Z 69, Z 70, Z 71, Z 72, Z 73, Z 74, Z 75, Z 76, Z 77, Z 78, Z 79, Z 80, Z 81, Z 82, Z 83, Z 84, Z 85, Z 86, Z 87, Z 88, Z 89, Z 90, Z 91, Z 92, Z 93, Z 94, Z 95, Z 96, Z 97, Z 98, Z 99, Z 100, Z 101, Z 102, Z 103, Z 104, Z 105, Z 106, Z 107, Z 108, Z 109, Z 110, Z 111, Z 112, Z 113, Z 114, Z 115, Z 116, Z 117, Z 118, Z 119, Z 120, Z 121, Z 122, Z 123, Z 124, Z 125, Z 126, Z 127, Z 128, Z 129, Z 130, Z 131, Z 132, Z 133, Z 134, Z 135, Z 136, Z 137, Z 138, Z 139, Z 140, Z 141, Z 142, Z 143, Z 144, Z 145, Z 146, Z 147, Z 148, Z 149, Z 150, Z 151, Z 152, Z 153, Z 154, Z 155, Z 156, Z 157, Z 158, Z 159, Z 160, Z 161, Z 162, Z 163, Z 164, Z 165, Z 166, Z 167, Z 168, Z 169, Z 170, Z 171, Z 172, Z 173, Z 174, Z 175, Z 176, Z 177, Z 178, Z 179, Z 180, Z 181, Z 182, Z 183, Z 184, Z 185, Z 186, Z 187, Z 188, Z 189, Z 190, Z 191, Z 192, Z 193, Z 194, Z 195, Z 196, Z 197, Z 198, Z 199, Z 200, Z 201, Z 202, Z 203, Z 204, Z 205, Z 206, Z 207, Z 208, Z 209, Z 210, Z 211, Z 212, Z 213, Z 214, Z 215, Z 216, Z 217, Z 218, Z 219], defers := [] }

set_option maxRecDepth 100000 in
set_option maxHeartbeats 4000000 in
theorem once_alone (ar ad al : Option Addr) (nr pr nd pd nl pl k B A : Nat) (p i : Int) (o : Ofr) (wd : World) (a : Act) (ha : a = frm2 ar ad al nr pr nd pd nl pl k B A (fun k => a.tmps.toList.getD k undef))
    (hB : wd.heap[B]? = some (.cells #[.int .i64 p, .int .i64 i, .int .i64 (-1), .int .i64 (-1)] 30)) (hA : wd.heap[A]? = some (.cells #[.int .i8 o.k, .int .i64 o.d, .int .i8 o.m.k, .int .i64 o.m.f, .int .i64 o.m.n, .int .i64 o.m.s, .string o.m.t, .int .i64 o.m.e, .int .i64 o.t] 38)) (hk : o.k ≠ 1)
    (Q : Exit → Act → World → Prop) (hQ : ∀ a', a' = frm ar ad al nr pr nd pd nl pl k (fun k => a'.tmps.toList.getD k undef) → Q (.exit 1) a' wd) :
    Code.wp Try.prog rest11 Q a wd := by
  generalize (fun k => a.tmps.toList.getD k undef) = Z at ha
  subst ha
  have HQ := Lib.hid hQ
  clear hQ
  have cB := cell_block hB
  have cA := cell_block hA
  have oB := block_lt hB
  have oA := block_lt hA
  have hkd : decide (o.k = 1) = false := by simpa using hk
  clear hB hA
  conv => arg 2; whnf
  unfold frm2
  go_wp2_with fail
  exact HQ.out _ (by kernel_rfl)

set_option maxRecDepth 100000 in
set_option maxHeartbeats 4000000 in
theorem once_take (ar ad al : Option Addr) (nr pr nd pd nl pl k B A : Nat) (p i : Int) (o : Ofr) (wd : World) (a : Act) (ha : a = frm2 ar ad al nr pr nd pd nl pl k B A (fun k => a.tmps.toList.getD k undef))
    (hB : wd.heap[B]? = some (.cells #[.int .i64 p, .int .i64 i, .int .i64 (-1), .int .i64 (-1)] 30)) (hA : wd.heap[A]? = some (.cells #[.int .i8 o.k, .int .i64 o.d, .int .i8 o.m.k, .int .i64 o.m.f, .int .i64 o.m.n, .int .i64 o.m.s, .string o.m.t, .int .i64 o.m.e, .int .i64 o.t] 38)) (hk : o.k = 1)
    (du : List Du) (d : Du) (e : Nat) (hU : RdU wd (.slice ad nd pd) du) (hd : o.d = e) (he : du[e]? = some d) (hr : readyB d = true)
    (Q : Exit → Act → World → Prop) (hQ : ∀ a' w', a' = frm ar ad al nr pr nd pd nl pl k (fun k => a'.tmps.toList.getD k undef) → Below wd.heap.size wd w' → Q (.exit 1) a' w') :
    Code.wp Try.prog rest11 Q a wd := by
  generalize (fun k => a.tmps.toList.getD k undef) = Z at ha
  subst ha
  have HQ := Lib.hid hQ
  clear hQ
  have cB := cell_block hB
  have cA := cell_block hA
  have oB := block_lt hB
  have oA := block_lt hA
  have hlt : e < nd := by have := hU.len; have := (List.getElem?_eq_some_iff.1 he).1; omega
  obtain ⟨bu, ou, rfl, hbu, -⟩ := hU.at he
  have hrun := runDu hU he
  have HR := Lib.hid hr
  clear hB hA hU hr he
  obtain ⟨ok, od, om, ot⟩ := o
  simp only at hk hd
  subst hk hd
  have e0 : (0 : Int) ≤ (e : Int) := by omega
  have e1 : (e : Int) < (nd : Int) := by omega
  have e2 : decide ((e : Int) < 0) = false := by simp
  have e3 : decide ((nd : Int) ≤ (e : Int)) = false := by simp; omega
  have e4 : decide (nd ≤ e) = false := by simp; omega
  conv => arg 2; whnf
  unfold frm2
  go_wp2_with fail
  refine (ready10 d _).mono ?_
  rintro r w1 ⟨rfl, hb⟩
  rw [HR.out]
  go_wp2_with fail
  exact HQ.out _ _ (by kernel_rfl) hb
end Go.Proofs.Ytcdmhldhhjolpaa
