
/- Walks of the seat of chapter 16: AttemptOnce. -/
import Derived.Test.YtfenloempdhknaaT14
import Derived.Test.YtfenloempdhknaaMn
namespace Go.Proofs.Ytfenloempdhknaa
open Go.RowKit
attribute [local go_sem ↓] Go.wp_at_zero Go.wp_at_succ
attribute [local go_sem] more_size cell_more_old frozen_more_old setCell_more_old more_drew drew_more old_alloc old_more old_drew old_setCell cell_alloc_old frozen_alloc_old setCell_alloc_old
attribute [local go_sem ↓] load30 store30
attribute [local go_sem] run30 runs30 blk_drew has_drew blk_drewN has_drewN old_drewN blk_alloc_old has_alloc_old blk_alloc_new has_alloc_new setBlk_size setBlk_drew old_setBlk cell_setBlk' cell_setBlk_ne frozen_setBlk blk_setBlk' blk_setBlk_ne has_setBlk' has_setBlk_ne setBlk_alloc_old setBlk_new
attribute [local go_sem high] run_mn4 run_mx4

theorem belowN {B : Nat} {w w' : World} (h : Below B w w') (m : Nat) : Below B w (w'.drewN m) := ⟨h.os, h.tape, h.output, h.size, h.block⟩
theorem quiet_left' {P : Program} {f : FuncId} {args : Array Value} {w : World} {n : Nat} {v : Value}
    (h : Calls P f args (w.drewN n) fun e w' => e = .returned v ∧ w.drewN n = w') : Calls P f args (w.drewN n) fun e w'' => e = .returned v ∧ ∃ m, w'' = w.drewN m :=
  h.mono fun _ _ ⟨he, hm⟩ => ⟨he, n, hm.symm⟩
theorem tmod1 (x : Int) : x.tmod 1 = 0 := by simp
theorem tmod2 (x : Int) : x.tmod 2 = -1 ∨ x.tmod 2 = 0 ∨ x.tmod 2 = 1 := by
  have h1 := Int.tmod_lt_of_pos x (show (0 : Int) < 2 by decide)
  have h2 := Int.tmod_lt_of_pos (-x) (show (0 : Int) < 2 by decide)
  rw [Int.neg_tmod] at h2
  omega
theorem kk2 (x : Int) : (wrap64 (x.tmod 2 + 2)).tmod 2 = 0 ∨ (wrap64 (x.tmod 2 + 2)).tmod 2 = 1 := by
  rcases tmod2 x with h | h | h <;> rw [h]
  · right; kernel_rfl
  · left; kernel_rfl
  · right; kernel_rfl
theorem kk1 (x : Int) : (wrap64 (x.tmod 1 + 1)).tmod 1 = 0 := by simp
/-- The number that a pick names, held within bounds. -/
def mn2 (x y : Int) : Int := min x y
def mx2 (x y : Int) : Int := max x y
theorem run_mn2 {P : Program} (w : World) (ts : Array TypeId) (t : TypeId) (k k' : IntKind) (x y : Int) : (Builtin.min_ ts t #[.int k x, .int k' y]).run P w = .ok (.int k (mn2 x y)) w := by
  have : (Builtin.min_ ts t #[.int k x, .int k' y]).run P w = .ok (.int k (if y < x then y else x)) w := by
    simp [Builtin.min_, Builtin.min2]
  rw [this]
  congr 2
  unfold mn2
  repeat' split
  all_goals omega
theorem run_mx2 {P : Program} (w : World) (ts : Array TypeId) (t : TypeId) (k k' : IntKind) (x y : Int) : (Builtin.max_ ts t #[.int k x, .int k' y]).run P w = .ok (.int k (mx2 x y)) w := by
  have : (Builtin.max_ ts t #[.int k x, .int k' y]).run P w = .ok (.int k (if x < y then y else x)) w := by
    simp [Builtin.max_, Builtin.max2]
  rw [this]
  congr 2
  unfold mx2
  repeat' split
  all_goals omega
theorem clip_in (x : Int) : 0 ≤ mx2 0 (mn2 x 1000) ∧ mx2 0 (mn2 x 1000) ≤ 1000 := by unfold mx2 mn2; omega
attribute [local go_sem high] run_mn2 run_mx2
theorem load39 (p : Value) : Instr.loadAt 39 p = loadS 39 p := rfl
theorem store39 (p v : Value) : Instr.storeAt 39 p v = storeS 39 p v := rfl
theorem runs39 {w : World} {b : Nat} {k a : Int} (h : Has w b 19) : (storeS 39 (.pointer (some ⟨b, 0, none⟩)) (.agg #[.int .i8 k, .int .i64 (a), .int .i8 0, .int .i64 0, .int .i64 0, .int .i64 0, .string ⟨#[]⟩, .int .i64 0, .int .i8 0, .int .u16 0, .int .u16 0, .int .u16 0, .int .u16 0, .int .u16 0, .int .u16 0, .int .u16 0, .int .u16 0, .int .i64 0, .pointer none])).run Try.prog w = .ok () (setBlk w b #[.int .i8 k, .int .i64 (a), .int .i8 0, .int .i64 0, .int .i64 0, .int .i64 0, .string ⟨#[]⟩, .int .i64 0, .int .i8 0, .int .u16 0, .int .u16 0, .int .u16 0, .int .u16 0, .int .u16 0, .int .u16 0, .int .u16 0, .int .u16 0, .int .i64 0, .pointer none]) := run_storeS (by kernel_rfl) h rfl (by simp [Value.oneCell'])
theorem runDe {w : World} {b off n p : Nat} {l : List De} (h : RdD w (.slice (some ⟨b, off, none⟩) n p) l) {k : Nat} {x : De} (hk : l[k]? = some x) :
    (loadS 39 (.pointer (some ⟨b, off + k * 19, none⟩))).run Try.prog w = .ok (.agg #[.int .i8 x.k, .int .i64 (x.a), .int .i8 0, .int .i64 0, .int .i64 0, .int .i64 0, .string ⟨#[]⟩, .int .i64 0, .int .i8 0, .int .u16 0, .int .u16 0, .int .u16 0, .int .u16 0, .int .u16 0, .int .u16 0, .int .u16 0, .int .u16 0, .int .i64 0, .pointer none]) w := by
  obtain ⟨b', off', he, _, c0, c1, c2, c3, c4, c5, c6, c7, c8, c9, c10, c11, c12, c13, c14, c15, c16, c17, c18⟩ := h.at hk
  cases he
  refine run_loadAt_mid (P := Try.prog) w b (off + k * 19) 39 #[.int .i8 x.k, .int .i64 (x.a), .int .i8 0, .int .i64 0, .int .i64 0, .int .i64 0, .string ⟨#[]⟩, .int .i64 0, .int .i8 0, .int .u16 0, .int .u16 0, .int .u16 0, .int .u16 0, .int .u16 0, .int .u16 0, .int .u16 0, .int .u16 0, .int .i64 0, .pointer none].toList _ (fun j v hv => ?_) Try.underlying39 rfl (by kernel_rfl)
  match j, hv with
  | 0, hv => cases hv; exact c0
  | 1, hv => cases hv; exact c1
  | 2, hv => cases hv; exact c2
  | 3, hv => cases hv; exact c3
  | 4, hv => cases hv; exact c4
  | 5, hv => cases hv; exact c5
  | 6, hv => cases hv; exact c6
  | 7, hv => cases hv; exact c7
  | 8, hv => cases hv; exact c8
  | 9, hv => cases hv; exact c9
  | 10, hv => cases hv; exact c10
  | 11, hv => cases hv; exact c11
  | 12, hv => cases hv; exact c12
  | 13, hv => cases hv; exact c13
  | 14, hv => cases hv; exact c14
  | 15, hv => cases hv; exact c15
  | 16, hv => cases hv; exact c16
  | 17, hv => cases hv; exact c17
  | 18, hv => cases hv; exact c18
theorem tk_de_well (i r o n p s : Int) (w : World) (hw : o ≤ 1125899906842624) : Calls Try.prog 11 #[.agg #[.int .i64 i, .int .i64 r, .int .i64 o, .int .i64 n, .int .i8 0, .int .u16 0, .int .u16 0, .int .u16 0, .int .u16 0, .int .u16 0, .int .u16 0, .int .u16 0, .int .u16 0, .int .i64 p, .int .i8 0, .int .i64 (-1)], .int .i64 0, .agg #[.int .i8 11, .int .i64 0, .int .i64 0, .int .i64 s, .string ⟨#[]⟩, .int .i64 0]] w (TakeP i r o n p 2 s [] w) := by
  have h := tk_de i r o n p (-1) ⟨11, 0, 0, s, ⟨#[]⟩, 0⟩ w hw
  rw [show endV (⟨11, 0, 0, s, ⟨#[]⟩, 0⟩ : Lt) = s from rfl, show backL (⟨11, 0, 0, s, ⟨#[]⟩, 0⟩ : Lt).e o = [] from rfl] at h
  exact h
theorem tk_de_ill (i r o n p : Int) (w : World) (hw : o ≤ 1125899906842624) : Calls Try.prog 11 #[.agg #[.int .i64 i, .int .i64 r, .int .i64 o, .int .i64 n, .int .i8 0, .int .u16 0, .int .u16 0, .int .u16 0, .int .u16 0, .int .u16 0, .int .u16 0, .int .u16 0, .int .u16 0, .int .i64 p, .int .i8 0, .int .i64 (-1)], .int .i64 0, .agg #[.int .i8 11, .int .i64 0, .int .i64 0, .int .i64 0, .string ⟨#[]⟩, .int .i64 160]] w (TakeP i r o n p 2 (-1) [⟨3, ofV o 4⟩] w) := by
  have h := tk_de i r o n p (-1) ⟨11, 0, 0, 0, ⟨#[]⟩, 160⟩ w hw
  rw [show endV (⟨11, 0, 0, 0, ⟨#[]⟩, 160⟩ : Lt) = -1 from rfl, show backL (⟨11, 0, 0, 0, ⟨#[]⟩, 160⟩ : Lt).e o = [⟨3, ofV o 4⟩] from rfl] at h
  exact h
theorem tk_ab_well (i r o n p s : Int) (w : World) (hs : 0 ≤ s) (hw : o ≤ 1125899906842624) : Calls Try.prog 11 #[.agg #[.int .i64 i, .int .i64 r, .int .i64 o, .int .i64 n, .int .i8 0, .int .u16 0, .int .u16 0, .int .u16 0, .int .u16 0, .int .u16 0, .int .u16 0, .int .u16 0, .int .u16 0, .int .i64 p, .int .i8 1, .int .i64 (-1)], .int .i64 0, .agg #[.int .i8 11, .int .i64 0, .int .i64 0, .int .i64 s, .string ⟨#[]⟩, .int .i64 0]] w (TakeP i r o n p 3 (-1) [⟨6, s⟩, ⟨3, ofV o 4⟩] w) := by
  have h := tk_ab i r o n p (-1) ⟨11, 0, 0, s, ⟨#[]⟩, 0⟩ w hw
  rw [show endV (⟨11, 0, 0, s, ⟨#[]⟩, 0⟩ : Lt) = s from rfl, show dropL s = [⟨6, s⟩] from if_pos hs] at h
  exact h
theorem tk_ab_ill (i r o n p : Int) (w : World) (hw : o ≤ 1125899906842624) : Calls Try.prog 11 #[.agg #[.int .i64 i, .int .i64 r, .int .i64 o, .int .i64 n, .int .i8 0, .int .u16 0, .int .u16 0, .int .u16 0, .int .u16 0, .int .u16 0, .int .u16 0, .int .u16 0, .int .u16 0, .int .i64 p, .int .i8 1, .int .i64 (-1)], .int .i64 0, .agg #[.int .i8 11, .int .i64 0, .int .i64 0, .int .i64 0, .string ⟨#[]⟩, .int .i64 160]] w (TakeP i r o n p 3 (-1) [⟨3, ofV o 4⟩] w) := by
  have h := tk_ab i r o n p (-1) ⟨11, 0, 0, 0, ⟨#[]⟩, 160⟩ w hw
  rw [show endV (⟨11, 0, 0, 0, ⟨#[]⟩, 160⟩ : Lt) = -1 from rfl, show dropL (-1) = [] from rfl] at h
  exact h
attribute [local go_sem ↓] load39 store39
attribute [local go_sem] runs39


def firstLoop : Code → Option Code
  | .loop c => some c
  | .seq a b => match firstLoop a with
    | some c => some c
    | none => firstLoop b
  | .block _ c => firstLoop c
  | .scope c => firstLoop c
  | .cond _ a b => match firstLoop a with
    | some c => some c
    | none => firstLoop b
  | _ => none
/-- The loop's body. -/
noncomputable def body3 : Code := ((Try.f3.body.bind firstLoop).getD .skip)
/-- The frame at a round's beginning: the slots that mean something; X: the others. -/
def frm (id rc ow n : Int) (a : Option Addr) (m p B : Nat) (bk sh td op i : Int) (X : Nat → Value) : Act := { tmps := #[.int .i64 id, .int .i64 rc, .int .i64 ow, .int .i64 n, .slice a m p, X 5, X 6, X 7, X 8, X 9, X 10, .pointer (some ⟨B, 0, none⟩), X 12, .int .i64 bk, .int .i64 sh, .int .i64 td, .int .i64 op, .int .i64 i, X 18, X 19, X 20, X 21, X 22, X 23, X 24, X 25, X 26, X 27, X 28, X 29, X 30, X 31, X 32, X 33, X 34, X 35, X 36, X 37, X 38, X 39, X 40, X 41, X 42, X 43, X 44, X 45, X 46, X 47, X 48, X 49, X 50, X 51, X 52, X 53, X 54, X 55, X 56, X 57, X 58, X 59, X 60, X 61, X 62, X 63, X 64, X 65, X 66, X 67, X 68, X 69, X 70, X 71, X 72, X 73, X 74, X 75, X 76, X 77, X 78, X 79, X 80, X 81, X 82, X 83, X 84, X 85, X 86, X 87, X 88, X 89, X 90, X 91, X 92, X 93, X 94, X 95, X 96, X 97, X 98, X 99, X 100, X 101, X 102, X 103, X 104, X 105, X 106, X 107, X 108, X 109, X 110, X 111, X 112, X 113, X 114, X 115, X 116, X 117, X 118, X 119, X 120, X 121, X 122, X 123, X 124, X 125, X 126, X 127, X 128, X 129, X 130, X 131, X 132, X 133, X 134, X 135, X 136, X 137, X 138, X 139, X 140, X 141, X 142, X 143, X 144, X 145, X 146, X 147, X 148, X 149, X 150, X 151, X 152, X 153, X 154, X 155, X 156, X 157, X 158, X 159, X 160, X 161, X 162, X 163, X 164, X 165, X 166, X 167, X 168, X 169, X 170, X 171, X 172, X 173, X 174, X 175, X 176, X 177, X 178, X 179, X 180, X 181, X 182, X 183, X 184, X 185, X 186, X 187, X 188, X 189, X 190, X 191, X 192, X 193, X 194, X 195, X 196, X 197, X 198, X 199, X 200, X 201, X 202, X 203, X 204, X 205, X 206, X 207, X 208, X 209, X 210, X 211, X 212, X 213, X 214, X 215, X 216, X 217, X 218, X 219, X 220, X 221, X 222, X 223, X 224, X 225, X 226, X 227, X 228, X 229, X 230, X 231, X 232, X 233, X 234, X 235, X 236, X 237, X 238, X 239, X 240, X 241, X 242, X 243, X 244, X 245, X 246, X 247, X 248, X 249], defers := [] }
def WI (id rc ow n : Int) (a : Option Addr) (m p B : Nat) (w : World) (a' : Act) (w' : World) : Prop :=
  ∃ (st sk bk sh td op i : Int) (X : Nat → Value), a' = frm id rc ow n a m p B bk sh td op i X ∧ OnceS st sk bk sh td op i ∧ w'.heap[B]? = some (.cells #[.int .i64 id, .int .i64 rc, .int .i64 ow, .int .i64 n, .int .i8 0, .int .u16 0, .int .u16 0, .int .u16 0, .int .u16 0, .int .u16 0, .int .u16 0, .int .u16 0, .int .u16 0, .int .i64 1, .int .i8 st, .int .i64 (sk)] 30) ∧ Below w.heap.size w w'
def Wm (a' : Act) : Nat := 3 - (intOf (a'.tmps.getD 17 undef)).toNat
theorem wi_mk {id rc ow n : Int} {a : Option Addr} {m p B : Nat} {w : World} {a' : Act} {w' : World} (st sk bk sh td op i : Int) (hf : a' = frm id rc ow n a m p B bk sh td op i (fun k => a'.tmps.toList.getD k undef)) (hs : OnceS st sk bk sh td op i)
    (hk : w'.heap[B]? = some (.cells #[.int .i64 id, .int .i64 rc, .int .i64 ow, .int .i64 n, .int .i8 0, .int .u16 0, .int .u16 0, .int .u16 0, .int .u16 0, .int .u16 0, .int .u16 0, .int .u16 0, .int .u16 0, .int .i64 1, .int .i8 st, .int .i64 (sk)] 30)) (hb : Below w.heap.size w w') : WI id rc ow n a m p B w a' w' := ⟨st, sk, bk, sh, td, op, i, _, hf, hs, hk, hb⟩
theorem wm_lt {a' : Act} {N : Nat} (k : Int) (h : a'.tmps.getD 17 undef = .int .i64 k) (hk : 3 - k.toNat < N) : Wm a' < N := by
  unfold Wm
  rw [h]
  exact hk
theorem wm_frm (id rc ow n : Int) (a : Option Addr) (m p B : Nat) (bk sh td op i : Int) (X : Nat → Value) : Wm (frm id rc ow n a m p B bk sh td op i X) = 3 - i.toNat := rfl
end Go.Proofs.Ytfenloempdhknaa
