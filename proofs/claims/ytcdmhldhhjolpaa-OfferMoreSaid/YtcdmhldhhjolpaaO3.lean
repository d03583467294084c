
/- Walks of the seat of chapter 07: what is ready by itself, by its kind; who meets. -/
import Derived.Test.YtcdmhldhhjolpaaO2
import Derived.StillTailTactics
import Derived.Deep.DeepCutAuto
namespace Go.Proofs.Ytcdmhldhhjolpaa
open Go.RowKit
attribute [local go_sem ↓] Go.wp_at_zero Go.wp_at_succ
attribute [local go_sem] more_size cell_more_old frozen_more_old setCell_more_old more_drew drew_more old_alloc old_more old_drew old_setCell cell_alloc_old frozen_alloc_old setCell_alloc_old
attribute [local go_sem ↓] load42 store42 load61 store61 load38 store38 load30 store30
attribute [local go_sem] run42 runs42 run61 runs61 run38 runs38 run30 runs30 blk_drew has_drew blk_drewN has_drewN old_drewN blk_alloc_old has_alloc_old blk_alloc_new has_alloc_new setBlk_size setBlk_drew old_setBlk cell_setBlk' cell_setBlk_ne frozen_setBlk blk_setBlk' blk_setBlk_ne has_setBlk' has_setBlk_ne setBlk_alloc_old setBlk_new

theorem belowN {B : Nat} {w w' : World} (h : Below B w w') (m : Nat) : Below B w (w'.drewN m) := ⟨h.os, h.tape, h.output, h.size, h.block⟩
theorem quiet_left' {P : Program} {f : FuncId} {args : Array Value} {w : World} {n : Nat} {v : Value}
    (h : Calls P f args (w.drewN n) fun e w' => e = .returned v ∧ w.drewN n = w') : Calls P f args (w.drewN n) fun e w'' => e = .returned v ∧ ∃ m, w'' = w.drewN m :=
  h.mono fun _ _ ⟨he, hm⟩ => ⟨he, n, hm.symm⟩
def kindB (du : List Du) (f : Du → Bool) (i : Int) : Bool := match duAt du i with | some d => f d | none => false
set_option maxHeartbeats 1000000 in
theorem kind29 (ad : Option Addr) (nd pd : Nat) (ck : Int) (dl lk : Bool) (du : List Du) (o : Ofr) (w : World) (h : RdU w (.slice ad nd pd) du) :
    Calls Try.prog 29 #[.agg #[.slice ad nd pd, .int .i64 ck, .bool dl, .bool lk], .agg #[.int .i8 o.k, .int .i64 o.d, .int .i8 o.m.k, .int .i64 o.m.f, .int .i64 o.m.n, .int .i64 o.m.s, .string o.m.t, .int .i64 o.m.e, .int .i64 o.t]] w fun r w' => r = .returned (.bool (kindB du roomB o.d)) ∧ Below w.heap.size w w' := by
  have H := Lib.hid h
  clear h
  cases hd : duAt du o.d with
  | none =>
    have HV : Hid (kindB du roomB o.d = false) := Lib.hid (by rw [kindB, hd])
    have HD := Lib.hid hd
    rw [HV.out]
    clear hd
    go_enter Try.func29, Try.ntmps29
    go_wp2_with fail
    refine (duct30_none ad nd pd ck o.d dl lk du _ (H.out.below (by (repeat' (first | (with_reducible exact Below.refl _ _) | (with_reducible assumption) | (with_reducible refine Below.drew ?_) | (with_reducible refine Below.alloc ?_ ?_ _) | (with_reducible refine below_more ?_ ?_ _ _) | (with_reducible refine Below.setCell ?_ ?_ _) | (with_reducible refine Below.trans ?_ (Below.mono (by assumption) ?_)))) <;> first | omega | (simp; done) | (simp; omega) | (simp [more_size]; done) | (simp [more_size]; omega))) HD.out).mono ?_
    rintro r w1 ⟨rfl, hb⟩
    have hB : Below w.heap.size w w1 := by (repeat' (first | (with_reducible exact Below.refl _ _) | (with_reducible assumption) | (with_reducible refine Below.drew ?_) | (with_reducible refine Below.alloc ?_ ?_ _) | (with_reducible refine below_more ?_ ?_ _ _) | (with_reducible refine Below.setCell ?_ ?_ _) | (with_reducible refine Below.trans ?_ (Below.mono (by assumption) ?_)))) <;> first | omega | (simp; done) | (simp; omega) | (simp [more_size]; done) | (simp [more_size]; omega)
    have hz := hB.size
    clear hb
    go_wp2_with fail
    go_ret
    exact ⟨rfl, by (repeat' (first | (with_reducible exact Below.refl _ _) | (with_reducible assumption) | (with_reducible refine Below.drew ?_) | (with_reducible refine Below.alloc ?_ ?_ _) | (with_reducible refine below_more ?_ ?_ _ _) | (with_reducible refine Below.setCell ?_ ?_ _) | (with_reducible refine Below.trans ?_ (Below.mono (by assumption) ?_)))) <;> first | omega | (simp; done) | (simp; omega) | (simp [more_size]; done) | (simp [more_size]; omega)⟩
  | some d =>
    have HV : Hid (kindB du roomB o.d = roomB d) := Lib.hid (by rw [kindB, hd])
    have HD := Lib.hid hd
    rw [HV.out]
    clear hd
    go_enter Try.func29, Try.ntmps29
    go_wp2_with fail
    refine (duct30_some ad nd pd ck o.d dl lk du d _ (H.out.below (by (repeat' (first | (with_reducible exact Below.refl _ _) | (with_reducible assumption) | (with_reducible refine Below.drew ?_) | (with_reducible refine Below.alloc ?_ ?_ _) | (with_reducible refine below_more ?_ ?_ _ _) | (with_reducible refine Below.setCell ?_ ?_ _) | (with_reducible refine Below.trans ?_ (Below.mono (by assumption) ?_)))) <;> first | omega | (simp; done) | (simp; omega) | (simp [more_size]; done) | (simp [more_size]; omega))) HD.out).mono ?_
    rintro r w1 ⟨rfl, hb⟩
    have hB : Below w.heap.size w w1 := by (repeat' (first | (with_reducible exact Below.refl _ _) | (with_reducible assumption) | (with_reducible refine Below.drew ?_) | (with_reducible refine Below.alloc ?_ ?_ _) | (with_reducible refine below_more ?_ ?_ _ _) | (with_reducible refine Below.setCell ?_ ?_ _) | (with_reducible refine Below.trans ?_ (Below.mono (by assumption) ?_)))) <;> first | omega | (simp; done) | (simp; omega) | (simp [more_size]; done) | (simp [more_size]; omega)
    clear hb
    go_wp2_with fail
    refine (room31 d _).mono ?_
    rintro r w2 ⟨⟨x, rfl, hx⟩, hb⟩
    have HX := Lib.hid hx
    have hB2 : Below w1.heap.size w1 w2 := by (repeat' (first | (with_reducible exact Below.refl _ _) | (with_reducible assumption) | (with_reducible refine Below.drew ?_) | (with_reducible refine Below.alloc ?_ ?_ _) | (with_reducible refine below_more ?_ ?_ _ _) | (with_reducible refine Below.setCell ?_ ?_ _) | (with_reducible refine Below.trans ?_ (Below.mono (by assumption) ?_)))) <;> first | omega | (simp; done) | (simp; omega) | (simp [more_size]; done) | (simp [more_size]; omega)
    clear hb hx
    go_wp2_with fail
    go_ret
    exact ⟨by rw [HX.out]; rfl, hB.trans (hB2.mono hB.size)⟩
set_option maxHeartbeats 1000000 in
theorem kind32 (ad : Option Addr) (nd pd : Nat) (ck : Int) (dl lk : Bool) (du : List Du) (o : Ofr) (w : World) (h : RdU w (.slice ad nd pd) du) :
    Calls Try.prog 32 #[.agg #[.slice ad nd pd, .int .i64 ck, .bool dl, .bool lk], .agg #[.int .i8 o.k, .int .i64 o.d, .int .i8 o.m.k, .int .i64 o.m.f, .int .i64 o.m.n, .int .i64 o.m.s, .string o.m.t, .int .i64 o.m.e, .int .i64 o.t]] w fun r w' => r = .returned (.bool (kindB du readyB o.d)) ∧ Below w.heap.size w w' := by
  have H := Lib.hid h
  clear h
  cases hd : duAt du o.d with
  | none =>
    have HV : Hid (kindB du readyB o.d = false) := Lib.hid (by rw [kindB, hd])
    have HD := Lib.hid hd
    rw [HV.out]
    clear hd
    go_enter Try.func32, Try.ntmps32
    go_wp2_with fail
    refine (duct30_none ad nd pd ck o.d dl lk du _ (H.out.below (by (repeat' (first | (with_reducible exact Below.refl _ _) | (with_reducible assumption) | (with_reducible refine Below.drew ?_) | (with_reducible refine Below.alloc ?_ ?_ _) | (with_reducible refine below_more ?_ ?_ _ _) | (with_reducible refine Below.setCell ?_ ?_ _) | (with_reducible refine Below.trans ?_ (Below.mono (by assumption) ?_)))) <;> first | omega | (simp; done) | (simp; omega) | (simp [more_size]; done) | (simp [more_size]; omega))) HD.out).mono ?_
    rintro r w1 ⟨rfl, hb⟩
    have hB : Below w.heap.size w w1 := by (repeat' (first | (with_reducible exact Below.refl _ _) | (with_reducible assumption) | (with_reducible refine Below.drew ?_) | (with_reducible refine Below.alloc ?_ ?_ _) | (with_reducible refine below_more ?_ ?_ _ _) | (with_reducible refine Below.setCell ?_ ?_ _) | (with_reducible refine Below.trans ?_ (Below.mono (by assumption) ?_)))) <;> first | omega | (simp; done) | (simp; omega) | (simp [more_size]; done) | (simp [more_size]; omega)
    have hz := hB.size
    clear hb
    go_wp2_with fail
    go_ret
    exact ⟨rfl, by (repeat' (first | (with_reducible exact Below.refl _ _) | (with_reducible assumption) | (with_reducible refine Below.drew ?_) | (with_reducible refine Below.alloc ?_ ?_ _) | (with_reducible refine below_more ?_ ?_ _ _) | (with_reducible refine Below.setCell ?_ ?_ _) | (with_reducible refine Below.trans ?_ (Below.mono (by assumption) ?_)))) <;> first | omega | (simp; done) | (simp; omega) | (simp [more_size]; done) | (simp [more_size]; omega)⟩
  | some d =>
    have HV : Hid (kindB du readyB o.d = readyB d) := Lib.hid (by rw [kindB, hd])
    have HD := Lib.hid hd
    rw [HV.out]
    clear hd
    go_enter Try.func32, Try.ntmps32
    go_wp2_with fail
    refine (duct30_some ad nd pd ck o.d dl lk du d _ (H.out.below (by (repeat' (first | (with_reducible exact Below.refl _ _) | (with_reducible assumption) | (with_reducible refine Below.drew ?_) | (with_reducible refine Below.alloc ?_ ?_ _) | (with_reducible refine below_more ?_ ?_ _ _) | (with_reducible refine Below.setCell ?_ ?_ _) | (with_reducible refine Below.trans ?_ (Below.mono (by assumption) ?_)))) <;> first | omega | (simp; done) | (simp; omega) | (simp [more_size]; done) | (simp [more_size]; omega))) HD.out).mono ?_
    rintro r w1 ⟨rfl, hb⟩
    have hB : Below w.heap.size w w1 := by (repeat' (first | (with_reducible exact Below.refl _ _) | (with_reducible assumption) | (with_reducible refine Below.drew ?_) | (with_reducible refine Below.alloc ?_ ?_ _) | (with_reducible refine below_more ?_ ?_ _ _) | (with_reducible refine Below.setCell ?_ ?_ _) | (with_reducible refine Below.trans ?_ (Below.mono (by assumption) ?_)))) <;> first | omega | (simp; done) | (simp; omega) | (simp [more_size]; done) | (simp [more_size]; omega)
    clear hb
    go_wp2_with fail
    refine (ready33 d _).mono ?_
    rintro r w2 ⟨rfl, hb⟩
    have hB2 : Below w1.heap.size w1 w2 := by (repeat' (first | (with_reducible exact Below.refl _ _) | (with_reducible assumption) | (with_reducible refine Below.drew ?_) | (with_reducible refine Below.alloc ?_ ?_ _) | (with_reducible refine below_more ?_ ?_ _ _) | (with_reducible refine Below.setCell ?_ ?_ _) | (with_reducible refine Below.trans ?_ (Below.mono (by assumption) ?_)))) <;> first | omega | (simp; done) | (simp; omega) | (simp [more_size]; done) | (simp [more_size]; omega)
    clear hb
    go_wp2_with fail
    go_ret
    exact ⟨rfl, hB.trans (hB2.mono hB.size)⟩
set_option maxHeartbeats 1000000 in
theorem kind34 (ad : Option Addr) (nd pd : Nat) (ck : Int) (dl lk : Bool) (o : Ofr) (w : World) :
    Calls Try.prog 34 #[.agg #[.slice ad nd pd, .int .i64 ck, .bool dl, .bool lk], .agg #[.int .i8 o.k, .int .i64 o.d, .int .i8 o.m.k, .int .i64 o.m.f, .int .i64 o.m.n, .int .i64 o.m.s, .string o.m.t, .int .i64 o.m.e, .int .i64 o.t]] w fun r w' => r = .returned (.bool (decide (clampV o.t ≤ clampV ck))) ∧ Below w.heap.size w w' := by
  go_enter Try.func34, Try.ntmps34
  go_wp2_with fail
  go_quiet ((go_at_call 35; first | exact quiet_left' (clamp35 ck _) | exact quiet_left' (clamp35 o.t _)))
  go_wp2_with fail
  go_ret
  exact ⟨rfl, belowN (by (repeat' (first | (with_reducible exact Below.refl _ _) | (with_reducible assumption) | (with_reducible refine Below.drew ?_) | (with_reducible refine Below.alloc ?_ ?_ _) | (with_reducible refine below_more ?_ ?_ _ _) | (with_reducible refine Below.setCell ?_ ?_ _) | (with_reducible refine Below.trans ?_ (Below.mono (by assumption) ?_)))) <;> first | omega | (simp; done) | (simp; omega) | (simp [more_size]; done) | (simp [more_size]; omega)) _⟩
theorem kind36 (ad : Option Addr) (nd pd : Nat) (ck : Int) (dl lk : Bool) (o : Ofr) (w : World) :
    Calls Try.prog 36 #[.agg #[.slice ad nd pd, .int .i64 ck, .bool dl, .bool lk], .agg #[.int .i8 o.k, .int .i64 o.d, .int .i8 o.m.k, .int .i64 o.m.f, .int .i64 o.m.n, .int .i64 o.m.s, .string o.m.t, .int .i64 o.m.e, .int .i64 o.t]] w fun r w' => r = .returned (.bool dl) ∧ Below w.heap.size w w' := by
  go_enter Try.func36, Try.ntmps36
  go_wp2_with fail
  go_ret
  exact ⟨rfl, by (repeat' (first | (with_reducible exact Below.refl _ _) | (with_reducible assumption) | (with_reducible refine Below.drew ?_) | (with_reducible refine Below.alloc ?_ ?_ _) | (with_reducible refine below_more ?_ ?_ _ _) | (with_reducible refine Below.setCell ?_ ?_ _) | (with_reducible refine Below.trans ?_ (Below.mono (by assumption) ?_)))) <;> first | omega | (simp; done) | (simp; omega) | (simp [more_size]; done) | (simp [more_size]; omega)⟩
theorem kind37 (ad : Option Addr) (nd pd : Nat) (ck : Int) (dl lk : Bool) (o : Ofr) (w : World) :
    Calls Try.prog 37 #[.agg #[.slice ad nd pd, .int .i64 ck, .bool dl, .bool lk], .agg #[.int .i8 o.k, .int .i64 o.d, .int .i8 o.m.k, .int .i64 o.m.f, .int .i64 o.m.n, .int .i64 o.m.s, .string o.m.t, .int .i64 o.m.e, .int .i64 o.t]] w fun r w' => r = .returned (.bool lk) ∧ Below w.heap.size w w' := by
  go_enter Try.func37, Try.ntmps37
  go_wp2_with fail
  go_ret
  exact ⟨rfl, by (repeat' (first | (with_reducible exact Below.refl _ _) | (with_reducible assumption) | (with_reducible refine Below.drew ?_) | (with_reducible refine Below.alloc ?_ ?_ _) | (with_reducible refine below_more ?_ ?_ _ _) | (with_reducible refine Below.setCell ?_ ?_ _) | (with_reducible refine Below.trans ?_ (Below.mono (by assumption) ?_)))) <;> first | omega | (simp; done) | (simp; omega) | (simp [more_size]; done) | (simp [more_size]; omega)⟩
def kindsV : Value := .agg #[.func (.func 29) #[] #[], .func (.func 32) #[] #[], .func (.func 34) #[] #[], .func (.func 36) #[] #[], .func (.func 37) #[] #[]]
theorem kinds25 (w : World) : Calls Try.prog 25 #[] w fun r w' => r = .returned kindsV ∧ Below w.heap.size w w' := by
  unfold kindsV
  go_enter Try.func25, Try.ntmps25
  go_wp2_with fail
  refine bodyPost_ret ?_ rfl ⟨rfl, by (repeat' (first | (with_reducible exact Below.refl _ _) | (with_reducible assumption) | (with_reducible refine Below.drew ?_) | (with_reducible refine Below.alloc ?_ ?_ _) | (with_reducible refine below_more ?_ ?_ _ _) | (with_reducible refine Below.setCell ?_ ?_ _) | (with_reducible refine Below.trans ?_ (Below.mono (by assumption) ?_)))) <;> first | omega | (simp; done) | (simp; omega) | (simp [more_size]; done) | (simp [more_size]; omega)⟩
  simp [results, Try.results25, go_sem]

set_option maxHeartbeats 4000000 in
theorem alone20 (ad : Option Addr) (nd pd : Nat) (ck : Int) (dl lk : Bool) (du : List Du) (ok od mk mf mn ms me ot : Int) (mt : ByteArray) (w : World) (h : RdU w (.slice ad nd pd) du) (hk : ok ≤ 127) :
    Calls Try.prog 20 #[.agg #[.slice ad nd pd, .int .i64 ck, .bool dl, .bool lk], .agg #[.int .i8 ok, .int .i64 od, .int .i8 mk, .int .i64 mf, .int .i64 mn, .int .i64 ms, .string mt, .int .i64 me, .int .i64 ot]] w fun r w' => r = .returned (.bool (aloneB du ck dl lk (⟨ok, od, ⟨mk, mf, mn, ms, mt, me⟩, ot⟩ : Ofr))) ∧ Below w.heap.size w w' := by
  have H := Lib.hid h
  clear h
  rcases (show ok = 0 ∨ ok = 1 ∨ ok = 2 ∨ ok = 3 ∨ ok = 4 ∨ ok < 0 ∨ 5 ≤ ok from by omega) with rfl | rfl | rfl | rfl | rfl | hk' | hk'
  · have HV : Hid (aloneB du ck dl lk (⟨0, od, ⟨mk, mf, mn, ms, mt, me⟩, ot⟩ : Ofr) = kindB du roomB od) := Lib.hid rfl
    rw [HV.out]
    go_enter Try.func20, Try.ntmps20
    go_wp2_with fail
    refine (kinds25 _).mono ?_
    rintro r w1 ⟨rfl, hb⟩
    have kS : w1.heap[w.heap.size]? = some (.cells #[.slice ad nd pd, .int .i64 ck, .bool dl, .bool lk] 61) := block_keep' hb (by (repeat' (first | (with_reducible assumption) | (with_reducible refine hm_new ?_; (first | rfl | (simp; done) | (simp [more_size]; done) | (simp [more_size]; omega))) | (with_reducible refine block_alloc ?_) | (with_reducible refine hm_more ?_) | (with_reducible refine hm_drew ?_))))
    have kO : w1.heap[w.heap.size + 1]? = some (.cells #[.int .i8 0, .int .i64 od, .int .i8 mk, .int .i64 mf, .int .i64 mn, .int .i64 ms, .string mt, .int .i64 me, .int .i64 ot] 38) := block_keep' hb (by (repeat' (first | (with_reducible assumption) | (with_reducible refine hm_new ?_; (first | rfl | (simp; done) | (simp [more_size]; done) | (simp [more_size]; omega))) | (with_reducible refine block_alloc ?_) | (with_reducible refine hm_more ?_) | (with_reducible refine hm_drew ?_))))
    have hB : Below w.heap.size w w1 := by (repeat' (first | (with_reducible exact Below.refl _ _) | (with_reducible assumption) | (with_reducible refine Below.drew ?_) | (with_reducible refine Below.alloc ?_ ?_ _) | (with_reducible refine below_more ?_ ?_ _ _) | (with_reducible refine Below.setCell ?_ ?_ _) | (with_reducible refine Below.trans ?_ (Below.mono (by assumption) ?_)))) <;> first | omega | (simp; done) | (simp; omega) | (simp [more_size]; done) | (simp [more_size]; omega)
    have KS := Lib.hid kS
    have KO := Lib.hid kO
    have HB := Lib.hid hB
    clear kS kO hb hB
    unfold kindsV
    go_upto_region 2 with fail
    have KS2 := Lib.hid (show (w1.alloc (.cells #[.func (.func 29) #[] #[], .func (.func 32) #[] #[], .func (.func 34) #[] #[], .func (.func 36) #[] #[], .func (.func 37) #[] #[]] 68)).heap[w.heap.size]? = some (.cells #[.slice ad nd pd, .int .i64 ck, .bool dl, .bool lk] 61) from block_alloc KS.out)
    have KO2 := Lib.hid (show (w1.alloc (.cells #[.func (.func 29) #[] #[], .func (.func 32) #[] #[], .func (.func 34) #[] #[], .func (.func 36) #[] #[], .func (.func 37) #[] #[]] 68)).heap[w.heap.size + 1]? = some (.cells #[.int .i8 0, .int .i64 od, .int .i8 mk, .int .i64 mf, .int .i64 mn, .int .i64 ms, .string mt, .int .i64 me, .int .i64 ot] 38) from block_alloc KO.out)
    have KL2 := Lib.hid (show (w1.alloc (.cells #[.func (.func 29) #[] #[], .func (.func 32) #[] #[], .func (.func 34) #[] #[], .func (.func 36) #[] #[], .func (.func 37) #[] #[]] 68)).heap[w1.heap.size]? = some (.cells #[.func (.func 29) #[] #[], .func (.func 32) #[] #[], .func (.func 34) #[] #[], .func (.func 36) #[] #[], .func (.func 37) #[] #[]] 68) from by (repeat' (first | (with_reducible assumption) | (with_reducible refine hm_new ?_; (first | rfl | (simp; done) | (simp [more_size]; done) | (simp [more_size]; omega))) | (with_reducible refine block_alloc ?_) | (with_reducible refine hm_more ?_) | (with_reducible refine hm_drew ?_))))
    have HB2 := Lib.hid (show Below w.heap.size w (w1.alloc (.cells #[.func (.func 29) #[] #[], .func (.func 32) #[] #[], .func (.func 34) #[] #[], .func (.func 36) #[] #[], .func (.func 37) #[] #[]] 68)) from HB.out.alloc HB.out.size _)
    generalize (w1.alloc (.cells #[.func (.func 29) #[] #[], .func (.func 32) #[] #[], .func (.func 34) #[] #[], .func (.func 36) #[] #[], .func (.func 37) #[] #[]] 68)) = ws at *
    refine wp_region_still_tail 16 (by kernel_rfl) (by kernel_rfl) ?_
    replace KS2 : Hid (({ heap := ws.heap, tape := ws.tape, drawn := ws.drawn + 1, os := ws.os, output := ws.output } : World).heap[w.heap.size]? = _) := KS2
    replace KO2 : Hid (({ heap := ws.heap, tape := ws.tape, drawn := ws.drawn + 1, os := ws.os, output := ws.output } : World).heap[w.heap.size + 1]? = _) := KO2
    replace KL2 : Hid (({ heap := ws.heap, tape := ws.tape, drawn := ws.drawn + 1, os := ws.os, output := ws.output } : World).heap[w1.heap.size]? = _) := KL2
    replace HB2 : Hid (Below w.heap.size w ({ heap := ws.heap, tape := ws.tape, drawn := ws.drawn + 1, os := ws.os, output := ws.output } : World)) := Lib.hid (Below.drew HB2.out)
    generalize ({ heap := ws.heap, tape := ws.tape, drawn := ws.drawn + 1, os := ws.os, output := ws.output } : World) = wt at *
    have lS := blk_of KS2.out
    have mS : Has wt w.heap.size 4 := has_of KS2.out
    have oS := block_lt KS2.out
    have qS : Old wt w.heap.size := oS
    have lO := blk_of KO2.out
    have mO : Has wt (w.heap.size + 1) 9 := has_of KO2.out
    have oO := block_lt KO2.out
    have qO : Old wt (w.heap.size + 1) := oO
    have cO := cell_block KO2.out
    have cL := cell_block KL2.out
    have oL := block_lt KL2.out
    have qL : Old wt w1.heap.size := oL
    simp only [List.take_succ_cons, List.take_zero, List.drop_succ_cons, List.drop_zero]
    repeat still_step
    refine wpStill_nil ?_
    go_wp2_with fail
    refine (kind29 ad nd pd ck dl lk du (⟨0, od, ⟨mk, mf, mn, ms, mt, me⟩, ot⟩ : Ofr) _ (H.out.below HB2.out)).mono ?_
    rintro r w2 ⟨rfl, hb⟩
    have hB := HB2.out.trans (hb.mono HB2.out.size)
    clear hb
    go_wp2_with fail
    go_ret
    exact ⟨rfl, hB⟩
  · have HV : Hid (aloneB du ck dl lk (⟨1, od, ⟨mk, mf, mn, ms, mt, me⟩, ot⟩ : Ofr) = kindB du readyB od) := Lib.hid rfl
    rw [HV.out]
    go_enter Try.func20, Try.ntmps20
    go_wp2_with fail
    refine (kinds25 _).mono ?_
    rintro r w1 ⟨rfl, hb⟩
    have kS : w1.heap[w.heap.size]? = some (.cells #[.slice ad nd pd, .int .i64 ck, .bool dl, .bool lk] 61) := block_keep' hb (by (repeat' (first | (with_reducible assumption) | (with_reducible refine hm_new ?_; (first | rfl | (simp; done) | (simp [more_size]; done) | (simp [more_size]; omega))) | (with_reducible refine block_alloc ?_) | (with_reducible refine hm_more ?_) | (with_reducible refine hm_drew ?_))))
    have kO : w1.heap[w.heap.size + 1]? = some (.cells #[.int .i8 1, .int .i64 od, .int .i8 mk, .int .i64 mf, .int .i64 mn, .int .i64 ms, .string mt, .int .i64 me, .int .i64 ot] 38) := block_keep' hb (by (repeat' (first | (with_reducible assumption) | (with_reducible refine hm_new ?_; (first | rfl | (simp; done) | (simp [more_size]; done) | (simp [more_size]; omega))) | (with_reducible refine block_alloc ?_) | (with_reducible refine hm_more ?_) | (with_reducible refine hm_drew ?_))))
    have hB : Below w.heap.size w w1 := by (repeat' (first | (with_reducible exact Below.refl _ _) | (with_reducible assumption) | (with_reducible refine Below.drew ?_) | (with_reducible refine Below.alloc ?_ ?_ _) | (with_reducible refine below_more ?_ ?_ _ _) | (with_reducible refine Below.setCell ?_ ?_ _) | (with_reducible refine Below.trans ?_ (Below.mono (by assumption) ?_)))) <;> first | omega | (simp; done) | (simp; omega) | (simp [more_size]; done) | (simp [more_size]; omega)
    have KS := Lib.hid kS
    have KO := Lib.hid kO
    have HB := Lib.hid hB
    clear kS kO hb hB
    unfold kindsV
    go_upto_region 2 with fail
    have KS2 := Lib.hid (show (w1.alloc (.cells #[.func (.func 29) #[] #[], .func (.func 32) #[] #[], .func (.func 34) #[] #[], .func (.func 36) #[] #[], .func (.func 37) #[] #[]] 68)).heap[w.heap.size]? = some (.cells #[.slice ad nd pd, .int .i64 ck, .bool dl, .bool lk] 61) from block_alloc KS.out)
    have KO2 := Lib.hid (show (w1.alloc (.cells #[.func (.func 29) #[] #[], .func (.func 32) #[] #[], .func (.func 34) #[] #[], .func (.func 36) #[] #[], .func (.func 37) #[] #[]] 68)).heap[w.heap.size + 1]? = some (.cells #[.int .i8 1, .int .i64 od, .int .i8 mk, .int .i64 mf, .int .i64 mn, .int .i64 ms, .string mt, .int .i64 me, .int .i64 ot] 38) from block_alloc KO.out)
    have KL2 := Lib.hid (show (w1.alloc (.cells #[.func (.func 29) #[] #[], .func (.func 32) #[] #[], .func (.func 34) #[] #[], .func (.func 36) #[] #[], .func (.func 37) #[] #[]] 68)).heap[w1.heap.size]? = some (.cells #[.func (.func 29) #[] #[], .func (.func 32) #[] #[], .func (.func 34) #[] #[], .func (.func 36) #[] #[], .func (.func 37) #[] #[]] 68) from by (repeat' (first | (with_reducible assumption) | (with_reducible refine hm_new ?_; (first | rfl | (simp; done) | (simp [more_size]; done) | (simp [more_size]; omega))) | (with_reducible refine block_alloc ?_) | (with_reducible refine hm_more ?_) | (with_reducible refine hm_drew ?_))))
    have HB2 := Lib.hid (show Below w.heap.size w (w1.alloc (.cells #[.func (.func 29) #[] #[], .func (.func 32) #[] #[], .func (.func 34) #[] #[], .func (.func 36) #[] #[], .func (.func 37) #[] #[]] 68)) from HB.out.alloc HB.out.size _)
    generalize (w1.alloc (.cells #[.func (.func 29) #[] #[], .func (.func 32) #[] #[], .func (.func 34) #[] #[], .func (.func 36) #[] #[], .func (.func 37) #[] #[]] 68)) = ws at *
    refine wp_region_still_tail 16 (by kernel_rfl) (by kernel_rfl) ?_
    replace KS2 : Hid (({ heap := ws.heap, tape := ws.tape, drawn := ws.drawn + 1, os := ws.os, output := ws.output } : World).heap[w.heap.size]? = _) := KS2
    replace KO2 : Hid (({ heap := ws.heap, tape := ws.tape, drawn := ws.drawn + 1, os := ws.os, output := ws.output } : World).heap[w.heap.size + 1]? = _) := KO2
    replace KL2 : Hid (({ heap := ws.heap, tape := ws.tape, drawn := ws.drawn + 1, os := ws.os, output := ws.output } : World).heap[w1.heap.size]? = _) := KL2
    replace HB2 : Hid (Below w.heap.size w ({ heap := ws.heap, tape := ws.tape, drawn := ws.drawn + 1, os := ws.os, output := ws.output } : World)) := Lib.hid (Below.drew HB2.out)
    generalize ({ heap := ws.heap, tape := ws.tape, drawn := ws.drawn + 1, os := ws.os, output := ws.output } : World) = wt at *
    have lS := blk_of KS2.out
    have mS : Has wt w.heap.size 4 := has_of KS2.out
    have oS := block_lt KS2.out
    have qS : Old wt w.heap.size := oS
    have lO := blk_of KO2.out
    have mO : Has wt (w.heap.size + 1) 9 := has_of KO2.out
    have oO := block_lt KO2.out
    have qO : Old wt (w.heap.size + 1) := oO
    have cO := cell_block KO2.out
    have cL := cell_block KL2.out
    have oL := block_lt KL2.out
    have qL : Old wt w1.heap.size := oL
    simp only [List.take_succ_cons, List.take_zero, List.drop_succ_cons, List.drop_zero]
    repeat still_step
    refine wpStill_nil ?_
    go_wp2_with fail
    refine (kind32 ad nd pd ck dl lk du (⟨1, od, ⟨mk, mf, mn, ms, mt, me⟩, ot⟩ : Ofr) _ (H.out.below HB2.out)).mono ?_
    rintro r w2 ⟨rfl, hb⟩
    have hB := HB2.out.trans (hb.mono HB2.out.size)
    clear hb
    go_wp2_with fail
    go_ret
    exact ⟨rfl, hB⟩
  · have HV : Hid (aloneB du ck dl lk (⟨2, od, ⟨mk, mf, mn, ms, mt, me⟩, ot⟩ : Ofr) = decide (clampV ot ≤ clampV ck)) := Lib.hid rfl
    rw [HV.out]
    go_enter Try.func20, Try.ntmps20
    go_wp2_with fail
    refine (kinds25 _).mono ?_
    rintro r w1 ⟨rfl, hb⟩
    have kS : w1.heap[w.heap.size]? = some (.cells #[.slice ad nd pd, .int .i64 ck, .bool dl, .bool lk] 61) := block_keep' hb (by (repeat' (first | (with_reducible assumption) | (with_reducible refine hm_new ?_; (first | rfl | (simp; done) | (simp [more_size]; done) | (simp [more_size]; omega))) | (with_reducible refine block_alloc ?_) | (with_reducible refine hm_more ?_) | (with_reducible refine hm_drew ?_))))
    have kO : w1.heap[w.heap.size + 1]? = some (.cells #[.int .i8 2, .int .i64 od, .int .i8 mk, .int .i64 mf, .int .i64 mn, .int .i64 ms, .string mt, .int .i64 me, .int .i64 ot] 38) := block_keep' hb (by (repeat' (first | (with_reducible assumption) | (with_reducible refine hm_new ?_; (first | rfl | (simp; done) | (simp [more_size]; done) | (simp [more_size]; omega))) | (with_reducible refine block_alloc ?_) | (with_reducible refine hm_more ?_) | (with_reducible refine hm_drew ?_))))
    have hB : Below w.heap.size w w1 := by (repeat' (first | (with_reducible exact Below.refl _ _) | (with_reducible assumption) | (with_reducible refine Below.drew ?_) | (with_reducible refine Below.alloc ?_ ?_ _) | (with_reducible refine below_more ?_ ?_ _ _) | (with_reducible refine Below.setCell ?_ ?_ _) | (with_reducible refine Below.trans ?_ (Below.mono (by assumption) ?_)))) <;> first | omega | (simp; done) | (simp; omega) | (simp [more_size]; done) | (simp [more_size]; omega)
    have KS := Lib.hid kS
    have KO := Lib.hid kO
    have HB := Lib.hid hB
    clear kS kO hb hB
    unfold kindsV
    go_upto_region 2 with fail
    have KS2 := Lib.hid (show (w1.alloc (.cells #[.func (.func 29) #[] #[], .func (.func 32) #[] #[], .func (.func 34) #[] #[], .func (.func 36) #[] #[], .func (.func 37) #[] #[]] 68)).heap[w.heap.size]? = some (.cells #[.slice ad nd pd, .int .i64 ck, .bool dl, .bool lk] 61) from block_alloc KS.out)
    have KO2 := Lib.hid (show (w1.alloc (.cells #[.func (.func 29) #[] #[], .func (.func 32) #[] #[], .func (.func 34) #[] #[], .func (.func 36) #[] #[], .func (.func 37) #[] #[]] 68)).heap[w.heap.size + 1]? = some (.cells #[.int .i8 2, .int .i64 od, .int .i8 mk, .int .i64 mf, .int .i64 mn, .int .i64 ms, .string mt, .int .i64 me, .int .i64 ot] 38) from block_alloc KO.out)
    have KL2 := Lib.hid (show (w1.alloc (.cells #[.func (.func 29) #[] #[], .func (.func 32) #[] #[], .func (.func 34) #[] #[], .func (.func 36) #[] #[], .func (.func 37) #[] #[]] 68)).heap[w1.heap.size]? = some (.cells #[.func (.func 29) #[] #[], .func (.func 32) #[] #[], .func (.func 34) #[] #[], .func (.func 36) #[] #[], .func (.func 37) #[] #[]] 68) from by (repeat' (first | (with_reducible assumption) | (with_reducible refine hm_new ?_; (first | rfl | (simp; done) | (simp [more_size]; done) | (simp [more_size]; omega))) | (with_reducible refine block_alloc ?_) | (with_reducible refine hm_more ?_) | (with_reducible refine hm_drew ?_))))
    have HB2 := Lib.hid (show Below w.heap.size w (w1.alloc (.cells #[.func (.func 29) #[] #[], .func (.func 32) #[] #[], .func (.func 34) #[] #[], .func (.func 36) #[] #[], .func (.func 37) #[] #[]] 68)) from HB.out.alloc HB.out.size _)
    generalize (w1.alloc (.cells #[.func (.func 29) #[] #[], .func (.func 32) #[] #[], .func (.func 34) #[] #[], .func (.func 36) #[] #[], .func (.func 37) #[] #[]] 68)) = ws at *
    refine wp_region_still_tail 16 (by kernel_rfl) (by kernel_rfl) ?_
    replace KS2 : Hid (({ heap := ws.heap, tape := ws.tape, drawn := ws.drawn + 1, os := ws.os, output := ws.output } : World).heap[w.heap.size]? = _) := KS2
    replace KO2 : Hid (({ heap := ws.heap, tape := ws.tape, drawn := ws.drawn + 1, os := ws.os, output := ws.output } : World).heap[w.heap.size + 1]? = _) := KO2
    replace KL2 : Hid (({ heap := ws.heap, tape := ws.tape, drawn := ws.drawn + 1, os := ws.os, output := ws.output } : World).heap[w1.heap.size]? = _) := KL2
    replace HB2 : Hid (Below w.heap.size w ({ heap := ws.heap, tape := ws.tape, drawn := ws.drawn + 1, os := ws.os, output := ws.output } : World)) := Lib.hid (Below.drew HB2.out)
    generalize ({ heap := ws.heap, tape := ws.tape, drawn := ws.drawn + 1, os := ws.os, output := ws.output } : World) = wt at *
    have lS := blk_of KS2.out
    have mS : Has wt w.heap.size 4 := has_of KS2.out
    have oS := block_lt KS2.out
    have qS : Old wt w.heap.size := oS
    have lO := blk_of KO2.out
    have mO : Has wt (w.heap.size + 1) 9 := has_of KO2.out
    have oO := block_lt KO2.out
    have qO : Old wt (w.heap.size + 1) := oO
    have cO := cell_block KO2.out
    have cL := cell_block KL2.out
    have oL := block_lt KL2.out
    have qL : Old wt w1.heap.size := oL
    simp only [List.take_succ_cons, List.take_zero, List.drop_succ_cons, List.drop_zero]
    repeat still_step
    refine wpStill_nil ?_
    go_wp2_with fail
    refine (kind34 ad nd pd ck dl lk (⟨2, od, ⟨mk, mf, mn, ms, mt, me⟩, ot⟩ : Ofr) _).mono ?_
    rintro r w2 ⟨rfl, hb⟩
    have hB := HB2.out.trans (hb.mono HB2.out.size)
    clear hb
    go_wp2_with fail
    go_ret
    exact ⟨rfl, hB⟩
  · have HV : Hid (aloneB du ck dl lk (⟨3, od, ⟨mk, mf, mn, ms, mt, me⟩, ot⟩ : Ofr) = dl) := Lib.hid rfl
    rw [HV.out]
    go_enter Try.func20, Try.ntmps20
    go_wp2_with fail
    refine (kinds25 _).mono ?_
    rintro r w1 ⟨rfl, hb⟩
    have kS : w1.heap[w.heap.size]? = some (.cells #[.slice ad nd pd, .int .i64 ck, .bool dl, .bool lk] 61) := block_keep' hb (by (repeat' (first | (with_reducible assumption) | (with_reducible refine hm_new ?_; (first | rfl | (simp; done) | (simp [more_size]; done) | (simp [more_size]; omega))) | (with_reducible refine block_alloc ?_) | (with_reducible refine hm_more ?_) | (with_reducible refine hm_drew ?_))))
    have kO : w1.heap[w.heap.size + 1]? = some (.cells #[.int .i8 3, .int .i64 od, .int .i8 mk, .int .i64 mf, .int .i64 mn, .int .i64 ms, .string mt, .int .i64 me, .int .i64 ot] 38) := block_keep' hb (by (repeat' (first | (with_reducible assumption) | (with_reducible refine hm_new ?_; (first | rfl | (simp; done) | (simp [more_size]; done) | (simp [more_size]; omega))) | (with_reducible refine block_alloc ?_) | (with_reducible refine hm_more ?_) | (with_reducible refine hm_drew ?_))))
    have hB : Below w.heap.size w w1 := by (repeat' (first | (with_reducible exact Below.refl _ _) | (with_reducible assumption) | (with_reducible refine Below.drew ?_) | (with_reducible refine Below.alloc ?_ ?_ _) | (with_reducible refine below_more ?_ ?_ _ _) | (with_reducible refine Below.setCell ?_ ?_ _) | (with_reducible refine Below.trans ?_ (Below.mono (by assumption) ?_)))) <;> first | omega | (simp; done) | (simp; omega) | (simp [more_size]; done) | (simp [more_size]; omega)
    have KS := Lib.hid kS
    have KO := Lib.hid kO
    have HB := Lib.hid hB
    clear kS kO hb hB
    unfold kindsV
    go_upto_region 2 with fail
    have KS2 := Lib.hid (show (w1.alloc (.cells #[.func (.func 29) #[] #[], .func (.func 32) #[] #[], .func (.func 34) #[] #[], .func (.func 36) #[] #[], .func (.func 37) #[] #[]] 68)).heap[w.heap.size]? = some (.cells #[.slice ad nd pd, .int .i64 ck, .bool dl, .bool lk] 61) from block_alloc KS.out)
    have KO2 := Lib.hid (show (w1.alloc (.cells #[.func (.func 29) #[] #[], .func (.func 32) #[] #[], .func (.func 34) #[] #[], .func (.func 36) #[] #[], .func (.func 37) #[] #[]] 68)).heap[w.heap.size + 1]? = some (.cells #[.int .i8 3, .int .i64 od, .int .i8 mk, .int .i64 mf, .int .i64 mn, .int .i64 ms, .string mt, .int .i64 me, .int .i64 ot] 38) from block_alloc KO.out)
    have KL2 := Lib.hid (show (w1.alloc (.cells #[.func (.func 29) #[] #[], .func (.func 32) #[] #[], .func (.func 34) #[] #[], .func (.func 36) #[] #[], .func (.func 37) #[] #[]] 68)).heap[w1.heap.size]? = some (.cells #[.func (.func 29) #[] #[], .func (.func 32) #[] #[], .func (.func 34) #[] #[], .func (.func 36) #[] #[], .func (.func 37) #[] #[]] 68) from by (repeat' (first | (with_reducible assumption) | (with_reducible refine hm_new ?_; (first | rfl | (simp; done) | (simp [more_size]; done) | (simp [more_size]; omega))) | (with_reducible refine block_alloc ?_) | (with_reducible refine hm_more ?_) | (with_reducible refine hm_drew ?_))))
    have HB2 := Lib.hid (show Below w.heap.size w (w1.alloc (.cells #[.func (.func 29) #[] #[], .func (.func 32) #[] #[], .func (.func 34) #[] #[], .func (.func 36) #[] #[], .func (.func 37) #[] #[]] 68)) from HB.out.alloc HB.out.size _)
    generalize (w1.alloc (.cells #[.func (.func 29) #[] #[], .func (.func 32) #[] #[], .func (.func 34) #[] #[], .func (.func 36) #[] #[], .func (.func 37) #[] #[]] 68)) = ws at *
    refine wp_region_still_tail 16 (by kernel_rfl) (by kernel_rfl) ?_
    replace KS2 : Hid (({ heap := ws.heap, tape := ws.tape, drawn := ws.drawn + 1, os := ws.os, output := ws.output } : World).heap[w.heap.size]? = _) := KS2
    replace KO2 : Hid (({ heap := ws.heap, tape := ws.tape, drawn := ws.drawn + 1, os := ws.os, output := ws.output } : World).heap[w.heap.size + 1]? = _) := KO2
    replace KL2 : Hid (({ heap := ws.heap, tape := ws.tape, drawn := ws.drawn + 1, os := ws.os, output := ws.output } : World).heap[w1.heap.size]? = _) := KL2
    replace HB2 : Hid (Below w.heap.size w ({ heap := ws.heap, tape := ws.tape, drawn := ws.drawn + 1, os := ws.os, output := ws.output } : World)) := Lib.hid (Below.drew HB2.out)
    generalize ({ heap := ws.heap, tape := ws.tape, drawn := ws.drawn + 1, os := ws.os, output := ws.output } : World) = wt at *
    have lS := blk_of KS2.out
    have mS : Has wt w.heap.size 4 := has_of KS2.out
    have oS := block_lt KS2.out
    have qS : Old wt w.heap.size := oS
    have lO := blk_of KO2.out
    have mO : Has wt (w.heap.size + 1) 9 := has_of KO2.out
    have oO := block_lt KO2.out
    have qO : Old wt (w.heap.size + 1) := oO
    have cO := cell_block KO2.out
    have cL := cell_block KL2.out
    have oL := block_lt KL2.out
    have qL : Old wt w1.heap.size := oL
    simp only [List.take_succ_cons, List.take_zero, List.drop_succ_cons, List.drop_zero]
    repeat still_step
    refine wpStill_nil ?_
    go_wp2_with fail
    refine (kind36 ad nd pd ck dl lk (⟨3, od, ⟨mk, mf, mn, ms, mt, me⟩, ot⟩ : Ofr) _).mono ?_
    rintro r w2 ⟨rfl, hb⟩
    have hB := HB2.out.trans (hb.mono HB2.out.size)
    clear hb
    go_wp2_with fail
    go_ret
    exact ⟨rfl, hB⟩
  · have HV : Hid (aloneB du ck dl lk (⟨4, od, ⟨mk, mf, mn, ms, mt, me⟩, ot⟩ : Ofr) = lk) := Lib.hid rfl
    rw [HV.out]
    go_enter Try.func20, Try.ntmps20
    go_wp2_with fail
    refine (kinds25 _).mono ?_
    rintro r w1 ⟨rfl, hb⟩
    have kS : w1.heap[w.heap.size]? = some (.cells #[.slice ad nd pd, .int .i64 ck, .bool dl, .bool lk] 61) := block_keep' hb (by (repeat' (first | (with_reducible assumption) | (with_reducible refine hm_new ?_; (first | rfl | (simp; done) | (simp [more_size]; done) | (simp [more_size]; omega))) | (with_reducible refine block_alloc ?_) | (with_reducible refine hm_more ?_) | (with_reducible refine hm_drew ?_))))
    have kO : w1.heap[w.heap.size + 1]? = some (.cells #[.int .i8 4, .int .i64 od, .int .i8 mk, .int .i64 mf, .int .i64 mn, .int .i64 ms, .string mt, .int .i64 me, .int .i64 ot] 38) := block_keep' hb (by (repeat' (first | (with_reducible assumption) | (with_reducible refine hm_new ?_; (first | rfl | (simp; done) | (simp [more_size]; done) | (simp [more_size]; omega))) | (with_reducible refine block_alloc ?_) | (with_reducible refine hm_more ?_) | (with_reducible refine hm_drew ?_))))
    have hB : Below w.heap.size w w1 := by (repeat' (first | (with_reducible exact Below.refl _ _) | (with_reducible assumption) | (with_reducible refine Below.drew ?_) | (with_reducible refine Below.alloc ?_ ?_ _) | (with_reducible refine below_more ?_ ?_ _ _) | (with_reducible refine Below.setCell ?_ ?_ _) | (with_reducible refine Below.trans ?_ (Below.mono (by assumption) ?_)))) <;> first | omega | (simp; done) | (simp; omega) | (simp [more_size]; done) | (simp [more_size]; omega)
    have KS := Lib.hid kS
    have KO := Lib.hid kO
    have HB := Lib.hid hB
    clear kS kO hb hB
    unfold kindsV
    go_upto_region 2 with fail
    have KS2 := Lib.hid (show (w1.alloc (.cells #[.func (.func 29) #[] #[], .func (.func 32) #[] #[], .func (.func 34) #[] #[], .func (.func 36) #[] #[], .func (.func 37) #[] #[]] 68)).heap[w.heap.size]? = some (.cells #[.slice ad nd pd, .int .i64 ck, .bool dl, .bool lk] 61) from block_alloc KS.out)
    have KO2 := Lib.hid (show (w1.alloc (.cells #[.func (.func 29) #[] #[], .func (.func 32) #[] #[], .func (.func 34) #[] #[], .func (.func 36) #[] #[], .func (.func 37) #[] #[]] 68)).heap[w.heap.size + 1]? = some (.cells #[.int .i8 4, .int .i64 od, .int .i8 mk, .int .i64 mf, .int .i64 mn, .int .i64 ms, .string mt, .int .i64 me, .int .i64 ot] 38) from block_alloc KO.out)
    have KL2 := Lib.hid (show (w1.alloc (.cells #[.func (.func 29) #[] #[], .func (.func 32) #[] #[], .func (.func 34) #[] #[], .func (.func 36) #[] #[], .func (.func 37) #[] #[]] 68)).heap[w1.heap.size]? = some (.cells #[.func (.func 29) #[] #[], .func (.func 32) #[] #[], .func (.func 34) #[] #[], .func (.func 36) #[] #[], .func (.func 37) #[] #[]] 68) from by (repeat' (first | (with_reducible assumption) | (with_reducible refine hm_new ?_; (first | rfl | (simp; done) | (simp [more_size]; done) | (simp [more_size]; omega))) | (with_reducible refine block_alloc ?_) | (with_reducible refine hm_more ?_) | (with_reducible refine hm_drew ?_))))
    have HB2 := Lib.hid (show Below w.heap.size w (w1.alloc (.cells #[.func (.func 29) #[] #[], .func (.func 32) #[] #[], .func (.func 34) #[] #[], .func (.func 36) #[] #[], .func (.func 37) #[] #[]] 68)) from HB.out.alloc HB.out.size _)
    generalize (w1.alloc (.cells #[.func (.func 29) #[] #[], .func (.func 32) #[] #[], .func (.func 34) #[] #[], .func (.func 36) #[] #[], .func (.func 37) #[] #[]] 68)) = ws at *
    refine wp_region_still_tail 16 (by kernel_rfl) (by kernel_rfl) ?_
    replace KS2 : Hid (({ heap := ws.heap, tape := ws.tape, drawn := ws.drawn + 1, os := ws.os, output := ws.output } : World).heap[w.heap.size]? = _) := KS2
    replace KO2 : Hid (({ heap := ws.heap, tape := ws.tape, drawn := ws.drawn + 1, os := ws.os, output := ws.output } : World).heap[w.heap.size + 1]? = _) := KO2
    replace KL2 : Hid (({ heap := ws.heap, tape := ws.tape, drawn := ws.drawn + 1, os := ws.os, output := ws.output } : World).heap[w1.heap.size]? = _) := KL2
    replace HB2 : Hid (Below w.heap.size w ({ heap := ws.heap, tape := ws.tape, drawn := ws.drawn + 1, os := ws.os, output := ws.output } : World)) := Lib.hid (Below.drew HB2.out)
    generalize ({ heap := ws.heap, tape := ws.tape, drawn := ws.drawn + 1, os := ws.os, output := ws.output } : World) = wt at *
    have lS := blk_of KS2.out
    have mS : Has wt w.heap.size 4 := has_of KS2.out
    have oS := block_lt KS2.out
    have qS : Old wt w.heap.size := oS
    have lO := blk_of KO2.out
    have mO : Has wt (w.heap.size + 1) 9 := has_of KO2.out
    have oO := block_lt KO2.out
    have qO : Old wt (w.heap.size + 1) := oO
    have cO := cell_block KO2.out
    have cL := cell_block KL2.out
    have oL := block_lt KL2.out
    have qL : Old wt w1.heap.size := oL
    simp only [List.take_succ_cons, List.take_zero, List.drop_succ_cons, List.drop_zero]
    repeat still_step
    refine wpStill_nil ?_
    go_wp2_with fail
    refine (kind37 ad nd pd ck dl lk (⟨4, od, ⟨mk, mf, mn, ms, mt, me⟩, ot⟩ : Ofr) _).mono ?_
    rintro r w2 ⟨rfl, hb⟩
    have hB := HB2.out.trans (hb.mono HB2.out.size)
    clear hb
    go_wp2_with fail
    go_ret
    exact ⟨rfl, hB⟩
  · have HV : Hid (aloneB du ck dl lk (⟨ok, od, ⟨mk, mf, mn, ms, mt, me⟩, ot⟩ : Ofr) = false) := Lib.hid (by simp only [aloneB]; rw [if_neg (by omega), if_neg (by omega), if_neg (by omega), if_neg (by omega), if_neg (by omega)])
    rw [HV.out]
    have hd : decide ((0 : Int) ≤ ok) = false := by simp; omega
    go_enter Try.func20, Try.ntmps20
    go_wp2_with fail
    refine (kinds25 _).mono ?_
    rintro r w1 ⟨rfl, hb⟩
    have kS : w1.heap[w.heap.size]? = some (.cells #[.slice ad nd pd, .int .i64 ck, .bool dl, .bool lk] 61) := block_keep' hb (by (repeat' (first | (with_reducible assumption) | (with_reducible refine hm_new ?_; (first | rfl | (simp; done) | (simp [more_size]; done) | (simp [more_size]; omega))) | (with_reducible refine block_alloc ?_) | (with_reducible refine hm_more ?_) | (with_reducible refine hm_drew ?_))))
    have kO : w1.heap[w.heap.size + 1]? = some (.cells #[.int .i8 ok, .int .i64 od, .int .i8 mk, .int .i64 mf, .int .i64 mn, .int .i64 ms, .string mt, .int .i64 me, .int .i64 ot] 38) := block_keep' hb (by (repeat' (first | (with_reducible assumption) | (with_reducible refine hm_new ?_; (first | rfl | (simp; done) | (simp [more_size]; done) | (simp [more_size]; omega))) | (with_reducible refine block_alloc ?_) | (with_reducible refine hm_more ?_) | (with_reducible refine hm_drew ?_))))
    have hB : Below w.heap.size w w1 := by (repeat' (first | (with_reducible exact Below.refl _ _) | (with_reducible assumption) | (with_reducible refine Below.drew ?_) | (with_reducible refine Below.alloc ?_ ?_ _) | (with_reducible refine below_more ?_ ?_ _ _) | (with_reducible refine Below.setCell ?_ ?_ _) | (with_reducible refine Below.trans ?_ (Below.mono (by assumption) ?_)))) <;> first | omega | (simp; done) | (simp; omega) | (simp [more_size]; done) | (simp [more_size]; omega)
    have KS := Lib.hid kS
    have KO := Lib.hid kO
    have HB := Lib.hid hB
    clear kS kO hb hB
    unfold kindsV
    go_upto_region 2 with fail
    have KS2 := Lib.hid (show (w1.alloc (.cells #[.func (.func 29) #[] #[], .func (.func 32) #[] #[], .func (.func 34) #[] #[], .func (.func 36) #[] #[], .func (.func 37) #[] #[]] 68)).heap[w.heap.size]? = some (.cells #[.slice ad nd pd, .int .i64 ck, .bool dl, .bool lk] 61) from block_alloc KS.out)
    have KO2 := Lib.hid (show (w1.alloc (.cells #[.func (.func 29) #[] #[], .func (.func 32) #[] #[], .func (.func 34) #[] #[], .func (.func 36) #[] #[], .func (.func 37) #[] #[]] 68)).heap[w.heap.size + 1]? = some (.cells #[.int .i8 ok, .int .i64 od, .int .i8 mk, .int .i64 mf, .int .i64 mn, .int .i64 ms, .string mt, .int .i64 me, .int .i64 ot] 38) from block_alloc KO.out)
    have KL2 := Lib.hid (show (w1.alloc (.cells #[.func (.func 29) #[] #[], .func (.func 32) #[] #[], .func (.func 34) #[] #[], .func (.func 36) #[] #[], .func (.func 37) #[] #[]] 68)).heap[w1.heap.size]? = some (.cells #[.func (.func 29) #[] #[], .func (.func 32) #[] #[], .func (.func 34) #[] #[], .func (.func 36) #[] #[], .func (.func 37) #[] #[]] 68) from by (repeat' (first | (with_reducible assumption) | (with_reducible refine hm_new ?_; (first | rfl | (simp; done) | (simp [more_size]; done) | (simp [more_size]; omega))) | (with_reducible refine block_alloc ?_) | (with_reducible refine hm_more ?_) | (with_reducible refine hm_drew ?_))))
    have HB2 := Lib.hid (show Below w.heap.size w (w1.alloc (.cells #[.func (.func 29) #[] #[], .func (.func 32) #[] #[], .func (.func 34) #[] #[], .func (.func 36) #[] #[], .func (.func 37) #[] #[]] 68)) from HB.out.alloc HB.out.size _)
    generalize (w1.alloc (.cells #[.func (.func 29) #[] #[], .func (.func 32) #[] #[], .func (.func 34) #[] #[], .func (.func 36) #[] #[], .func (.func 37) #[] #[]] 68)) = ws at *
    have lS := blk_of KS2.out
    have mS : Has ws w.heap.size 4 := has_of KS2.out
    have oS := block_lt KS2.out
    have qS : Old ws w.heap.size := oS
    have lO := blk_of KO2.out
    have mO : Has ws (w.heap.size + 1) 9 := has_of KO2.out
    have oO := block_lt KO2.out
    have qO : Old ws (w.heap.size + 1) := oO
    have cO := cell_block KO2.out
    have cL := cell_block KL2.out
    have oL := block_lt KL2.out
    have qL : Old ws w1.heap.size := oL
    go_quiet (fail)
    go_wp2_with fail
    go_ret
    exact ⟨rfl, belowN HB2.out _⟩
  · have HV : Hid (aloneB du ck dl lk (⟨ok, od, ⟨mk, mf, mn, ms, mt, me⟩, ot⟩ : Ofr) = false) := Lib.hid (by simp only [aloneB]; rw [if_neg (by omega), if_neg (by omega), if_neg (by omega), if_neg (by omega), if_neg (by omega)])
    rw [HV.out]
    have hd : (0 : Int) ≤ ok := by omega
    have hd1 : wrap64 ok = ok := by unfold wrap64; omega
    have hd2 : decide (ok < 5) = false := by simp; omega
    go_enter Try.func20, Try.ntmps20
    go_wp2_with fail
    refine (kinds25 _).mono ?_
    rintro r w1 ⟨rfl, hb⟩
    have kS : w1.heap[w.heap.size]? = some (.cells #[.slice ad nd pd, .int .i64 ck, .bool dl, .bool lk] 61) := block_keep' hb (by (repeat' (first | (with_reducible assumption) | (with_reducible refine hm_new ?_; (first | rfl | (simp; done) | (simp [more_size]; done) | (simp [more_size]; omega))) | (with_reducible refine block_alloc ?_) | (with_reducible refine hm_more ?_) | (with_reducible refine hm_drew ?_))))
    have kO : w1.heap[w.heap.size + 1]? = some (.cells #[.int .i8 ok, .int .i64 od, .int .i8 mk, .int .i64 mf, .int .i64 mn, .int .i64 ms, .string mt, .int .i64 me, .int .i64 ot] 38) := block_keep' hb (by (repeat' (first | (with_reducible assumption) | (with_reducible refine hm_new ?_; (first | rfl | (simp; done) | (simp [more_size]; done) | (simp [more_size]; omega))) | (with_reducible refine block_alloc ?_) | (with_reducible refine hm_more ?_) | (with_reducible refine hm_drew ?_))))
    have hB : Below w.heap.size w w1 := by (repeat' (first | (with_reducible exact Below.refl _ _) | (with_reducible assumption) | (with_reducible refine Below.drew ?_) | (with_reducible refine Below.alloc ?_ ?_ _) | (with_reducible refine below_more ?_ ?_ _ _) | (with_reducible refine Below.setCell ?_ ?_ _) | (with_reducible refine Below.trans ?_ (Below.mono (by assumption) ?_)))) <;> first | omega | (simp; done) | (simp; omega) | (simp [more_size]; done) | (simp [more_size]; omega)
    have KS := Lib.hid kS
    have KO := Lib.hid kO
    have HB := Lib.hid hB
    clear kS kO hb hB
    unfold kindsV
    go_upto_region 2 with fail
    have KS2 := Lib.hid (show (w1.alloc (.cells #[.func (.func 29) #[] #[], .func (.func 32) #[] #[], .func (.func 34) #[] #[], .func (.func 36) #[] #[], .func (.func 37) #[] #[]] 68)).heap[w.heap.size]? = some (.cells #[.slice ad nd pd, .int .i64 ck, .bool dl, .bool lk] 61) from block_alloc KS.out)
    have KO2 := Lib.hid (show (w1.alloc (.cells #[.func (.func 29) #[] #[], .func (.func 32) #[] #[], .func (.func 34) #[] #[], .func (.func 36) #[] #[], .func (.func 37) #[] #[]] 68)).heap[w.heap.size + 1]? = some (.cells #[.int .i8 ok, .int .i64 od, .int .i8 mk, .int .i64 mf, .int .i64 mn, .int .i64 ms, .string mt, .int .i64 me, .int .i64 ot] 38) from block_alloc KO.out)
    have KL2 := Lib.hid (show (w1.alloc (.cells #[.func (.func 29) #[] #[], .func (.func 32) #[] #[], .func (.func 34) #[] #[], .func (.func 36) #[] #[], .func (.func 37) #[] #[]] 68)).heap[w1.heap.size]? = some (.cells #[.func (.func 29) #[] #[], .func (.func 32) #[] #[], .func (.func 34) #[] #[], .func (.func 36) #[] #[], .func (.func 37) #[] #[]] 68) from by (repeat' (first | (with_reducible assumption) | (with_reducible refine hm_new ?_; (first | rfl | (simp; done) | (simp [more_size]; done) | (simp [more_size]; omega))) | (with_reducible refine block_alloc ?_) | (with_reducible refine hm_more ?_) | (with_reducible refine hm_drew ?_))))
    have HB2 := Lib.hid (show Below w.heap.size w (w1.alloc (.cells #[.func (.func 29) #[] #[], .func (.func 32) #[] #[], .func (.func 34) #[] #[], .func (.func 36) #[] #[], .func (.func 37) #[] #[]] 68)) from HB.out.alloc HB.out.size _)
    generalize (w1.alloc (.cells #[.func (.func 29) #[] #[], .func (.func 32) #[] #[], .func (.func 34) #[] #[], .func (.func 36) #[] #[], .func (.func 37) #[] #[]] 68)) = ws at *
    have lS := blk_of KS2.out
    have mS : Has ws w.heap.size 4 := has_of KS2.out
    have oS := block_lt KS2.out
    have qS : Old ws w.heap.size := oS
    have lO := blk_of KO2.out
    have mO : Has ws (w.heap.size + 1) 9 := has_of KO2.out
    have oO := block_lt KO2.out
    have qO : Old ws (w.heap.size + 1) := oO
    have cO := cell_block KO2.out
    have cL := cell_block KL2.out
    have oL := block_lt KL2.out
    have qL : Old ws w1.heap.size := oL
    go_quiet (fail)
    go_wp2_with fail
    go_ret
    exact ⟨rfl, belowN HB2.out _⟩
end Go.Proofs.Ytcdmhldhhjolpaa
