
/- Walks of the seat of chapter 16: Take, T7. -/
import Derived.Test.YtfenloempdhknaaT6
namespace Go.Proofs.Ytfenloempdhknaa
open Go.RowKit
attribute [local go_sem ↓] Go.wp_at_zero Go.wp_at_succ
attribute [local go_sem] more_size cell_more_old frozen_more_old setCell_more_old more_drew drew_more old_alloc old_more old_drew old_setCell cell_alloc_old frozen_alloc_old setCell_alloc_old

set_option maxRecDepth 100000 in
set_option maxHeartbeats 4000000 in
theorem take11_ab (x : At) (m : Lt) (w : World) (hw : x.ow ≤ 1125899906842624) :
    Calls Try.prog 11 #[.agg #[.int .i64 x.id, .int .i64 x.rc, .int .i64 x.ow, .int .i64 x.n, .int .i8 x.f, .int .u16 x.g0, .int .u16 x.g1, .int .u16 x.g2, .int .u16 x.g3, .int .u16 x.g4, .int .u16 x.g5, .int .u16 x.g6, .int .u16 x.g7, .int .i64 x.p, .int .i8 1, .int .i64 x.sk], .int .i64 0, .agg #[.int .i8 m.k, .int .i64 m.f, .int .i64 m.n, .int .i64 m.s, .string m.t, .int .i64 m.e]] w (TakeR { x with st := 3, sk := x.sk } (dropL (endV m) ++ [⟨3, ofV x.ow 4⟩]) w) := by
  have ix : ∀ w, (Instr.index 63 (.agg #[.func (.func 20) #[] #[], .func (.func 21) #[] #[], .func (.func 22) #[] #[]]) (.int .i8 1)).run Try.prog w = .ok (.func (.func 21) #[] #[]) w := fun _ => by kernel_rfl
  go_enter Try.func11, Try.ntmps11
  go_wp2_with fail
  refine (offers9 { x with st := 1 } _).mono ?_
  rintro r w1 ⟨d4, d0, a, n, p, rfl, hn, hro, hdd, hb⟩
  rw [offers1 d4 d0 rfl] at hn
  obtain rfl : n = 1 := hn
  clear hro hdd
  have kA : w1.heap[w.heap.size]? = some (.cells #[.int .i64 x.id, .int .i64 x.rc, .int .i64 x.ow, .int .i64 x.n, .int .i8 x.f, .int .u16 x.g0, .int .u16 x.g1, .int .u16 x.g2, .int .u16 x.g3, .int .u16 x.g4, .int .u16 x.g5, .int .u16 x.g6, .int .u16 x.g7, .int .i64 x.p, .int .i8 1, .int .i64 x.sk] 30) := block_keep' hb (by (repeat' (first | (with_reducible assumption) | (with_reducible refine hm_new ?_; (first | rfl | (simp; done) | (simp [more_size]; done) | (simp [more_size]; omega))) | (with_reducible refine block_alloc ?_) | (with_reducible refine hm_more ?_) | (with_reducible refine hm_drew ?_))))
  have kM : w1.heap[w.heap.size + 1]? = some (.cells #[.int .i8 m.k, .int .i64 m.f, .int .i64 m.n, .int .i64 m.s, .string m.t, .int .i64 m.e] 36) := block_keep' hb (by (repeat' (first | (with_reducible assumption) | (with_reducible refine hm_new ?_; (first | rfl | (simp; done) | (simp [more_size]; done) | (simp [more_size]; omega))) | (with_reducible refine block_alloc ?_) | (with_reducible refine hm_more ?_) | (with_reducible refine hm_drew ?_))))
  have kR : w1.heap[w.heap.size + 1 + 1]? = some (.cells #[.int .i64 0, .int .i64 0, .int .i64 0, .int .i64 0, .int .i8 0, .int .u16 0, .int .u16 0, .int .u16 0, .int .u16 0, .int .u16 0, .int .u16 0, .int .u16 0, .int .u16 0, .int .i64 0, .int .i8 0, .int .i64 0] 30) := block_keep' hb (by (repeat' (first | (with_reducible assumption) | (with_reducible refine hm_new ?_; (first | rfl | (simp; done) | (simp [more_size]; done) | (simp [more_size]; omega))) | (with_reducible refine block_alloc ?_) | (with_reducible refine hm_more ?_) | (with_reducible refine hm_drew ?_))))
  have hB : Below w.heap.size w w1 := by (repeat' (first | (with_reducible exact Below.refl _ _) | (with_reducible assumption) | (with_reducible refine Below.drew ?_) | (with_reducible refine Below.alloc ?_ ?_ _) | (with_reducible refine below_more ?_ ?_ _ _) | (with_reducible refine Below.setCell ?_ ?_ _) | (with_reducible refine Below.trans ?_ (Below.mono (by assumption) ?_)))) <;> first | omega | (simp; done) | (simp; omega) | (simp [more_size]; done) | (simp [more_size]; omega)
  have cA := cell_block kA
  have oA := block_lt kA
  clear hb
  go_upto_region 4 with fail
  have k8 : (w1.alloc (.cells #[.int .i64 x.id, .int .i64 x.rc, .int .i64 x.ow, .int .i64 x.n, .int .i8 x.f, .int .u16 x.g0, .int .u16 x.g1, .int .u16 x.g2, .int .u16 x.g3, .int .u16 x.g4, .int .u16 x.g5, .int .u16 x.g6, .int .u16 x.g7, .int .i64 x.p, .int .i8 1, .int .i64 x.sk, .slice none 0 0] 61)).heap[w1.heap.size]? = some (.cells #[.int .i64 x.id, .int .i64 x.rc, .int .i64 x.ow, .int .i64 x.n, .int .i8 x.f, .int .u16 x.g0, .int .u16 x.g1, .int .u16 x.g2, .int .u16 x.g3, .int .u16 x.g4, .int .u16 x.g5, .int .u16 x.g6, .int .u16 x.g7, .int .i64 x.p, .int .i8 1, .int .i64 x.sk, .slice none 0 0] 61) := by (repeat' (first | (with_reducible assumption) | (with_reducible refine hm_new ?_; (first | rfl | (simp; done) | (simp [more_size]; done) | (simp [more_size]; omega))) | (with_reducible refine block_alloc ?_) | (with_reducible refine hm_more ?_) | (with_reducible refine hm_drew ?_)))
  have hz4 : w1.heap.size ≤ (w1.alloc (.cells #[.int .i64 x.id, .int .i64 x.rc, .int .i64 x.ow, .int .i64 x.n, .int .i8 x.f, .int .u16 x.g0, .int .u16 x.g1, .int .u16 x.g2, .int .u16 x.g3, .int .u16 x.g4, .int .u16 x.g5, .int .u16 x.g6, .int .u16 x.g7, .int .i64 x.p, .int .i8 1, .int .i64 x.sk, .slice none 0 0] 61)).heap.size := by simp
  have hB' : Below w1.heap.size w1 (w1.alloc (.cells #[.int .i64 x.id, .int .i64 x.rc, .int .i64 x.ow, .int .i64 x.n, .int .i8 x.f, .int .u16 x.g0, .int .u16 x.g1, .int .u16 x.g2, .int .u16 x.g3, .int .u16 x.g4, .int .u16 x.g5, .int .u16 x.g6, .int .u16 x.g7, .int .i64 x.p, .int .i8 1, .int .i64 x.sk, .slice none 0 0] 61)) := by (repeat' (first | (with_reducible exact Below.refl _ _) | (with_reducible assumption) | (with_reducible refine Below.drew ?_) | (with_reducible refine Below.alloc ?_ ?_ _) | (with_reducible refine below_more ?_ ?_ _ _) | (with_reducible refine Below.setCell ?_ ?_ _) | (with_reducible refine Below.trans ?_ (Below.mono (by assumption) ?_)))) <;> first | omega | (simp; done) | (simp; omega) | (simp [more_size]; done) | (simp [more_size]; omega)
  have oM := block_lt kM
  have oR := block_lt kR
  have KR := Lib.hid ((hB'.block _ oR).trans kR)
  have cA4 := cell_block ((hB'.block _ oA).trans kA)
  have cM4 := cell_block ((hB'.block _ oM).trans kM)
  have HB4 := Lib.hid (hB.trans (hB'.mono hB.size))
  have HG : Hid (Goes w1.heap.size w1.heap.size { x with st := 1 } [] (w1.alloc (.cells #[.int .i64 x.id, .int .i64 x.rc, .int .i64 x.ow, .int .i64 x.n, .int .i8 x.f, .int .u16 x.g0, .int .u16 x.g1, .int .u16 x.g2, .int .u16 x.g3, .int .u16 x.g4, .int .u16 x.g5, .int .u16 x.g6, .int .u16 x.g7, .int .i64 x.p, .int .i8 1, .int .i64 x.sk, .slice none 0 0] 61))) := Lib.hid ⟨none, 0, 0, rfl, k8, World.ownsRow_nil _ _ _ _⟩
  clear kA kM kR hB cA k8 hB'
  generalize (w1.alloc (.cells #[.int .i64 x.id, .int .i64 x.rc, .int .i64 x.ow, .int .i64 x.n, .int .i8 x.f, .int .u16 x.g0, .int .u16 x.g1, .int .u16 x.g2, .int .u16 x.g3, .int .u16 x.g4, .int .u16 x.g5, .int .u16 x.g6, .int .u16 x.g7, .int .i64 x.p, .int .i8 1, .int .i64 x.sk, .slice none 0 0] 61)) = w4 at *
  go_region_held3 (fun w' => (∀ b o, b < w1.heap.size → w'.cell? ⟨b, o, none⟩ = w4.cell? ⟨b, o, none⟩) ∧ Below w1.heap.size w4 w') (first | (with_reducible assumption) | (refine clsB_of ?_; (repeat' (first | (with_reducible exact Below.refl _ _) | (with_reducible assumption) | (with_reducible refine Below.drew ?_) | (with_reducible refine Below.alloc ?_ ?_ _) | (with_reducible refine below_more ?_ ?_ _ _) | (with_reducible refine Below.setCell ?_ ?_ _) | (with_reducible refine Below.trans ?_ (Below.mono (by assumption) ?_)))) <;> first | omega | (simp; done) | (simp; omega) | (simp [more_size]; done) | (simp [more_size]; omega))) (first
    | (go_at_call 18; refine (places18 _).mono ?_; rintro e w5 ⟨rfl, hb5⟩; have hB5 : Below w4.heap.size w4 w5 := (by (repeat' (first | (with_reducible exact Below.refl _ _) | (with_reducible assumption) | (with_reducible refine Below.drew ?_) | (with_reducible refine Below.alloc ?_ ?_ _) | (with_reducible refine below_more ?_ ?_ _ _) | (with_reducible refine Below.setCell ?_ ?_ _) | (with_reducible refine Below.trans ?_ (Below.mono (by assumption) ?_)))) <;> first | omega | (simp; done) | (simp; omega) | (simp [more_size]; done) | (simp [more_size]; omega)))
    | (go_at_call 21; refine (aborted21 w1.heap.size w1.heap.size { x with st := 1 } [] 0 m _ (by decide) (HG.out.below (by (repeat' (first | (with_reducible exact Below.refl _ _) | (with_reducible assumption) | (with_reducible refine Below.drew ?_) | (with_reducible refine Below.alloc ?_ ?_ _) | (with_reducible refine below_more ?_ ?_ _ _) | (with_reducible refine Below.setCell ?_ ?_ _) | (with_reducible refine Below.trans ?_ (Below.mono (by assumption) ?_)))) <;> first | omega | (simp; done) | (simp; omega) | (simp [more_size]; done) | (simp [more_size]; omega))) (Nat.le_refl _) hw).mono ?_; rintro e w6 ⟨⟨v, rfl⟩, hg6, hb6⟩; have hB6 : Below w1.heap.size w4 w6 := (by (repeat' (first | (with_reducible exact Below.refl _ _) | (with_reducible assumption) | (with_reducible refine Below.drew ?_) | (with_reducible refine Below.alloc ?_ ?_ _) | (with_reducible refine below_more ?_ ?_ _ _) | (with_reducible refine Below.setCell ?_ ?_ _) | (with_reducible refine Below.trans ?_ (Below.mono (by assumption) ?_)))) <;> first | omega | (simp; done) | (simp; omega) | (simp [more_size]; done) | (simp [more_size]; omega))))
  have kR6 := (hB6.block _ oR).trans KR.out
  have B6 := Lib.hid (HB4.out.trans (hB6.mono (Nat.le_of_lt (by omega))))
  obtain ⟨av, n6, p6, hn6, k86, ho6⟩ := hg6
  have HN6 := Lib.hid hn6
  clear hn6
  have c8 := cell_block k86
  have cR := cell_block kR6
  have cR4 := cell_block KR.out
  have fR := free_block kR6
  have oR6 := block_lt kR6
  have o86 := block_lt k86
  have HO6 := Lib.hid ho6
  have KR6 := Lib.hid kR6
  clear cA4 cM4 hb5 hb6 kR6 k86 ho6 hB5 hB6
  go_wp2_with fail
  go_region_held3 (fun w' => ∀ o, w'.cell? ⟨w1.heap.size, o, none⟩ = w6.cell? ⟨w1.heap.size, o, none⟩) (first | (with_reducible assumption) | (intro o; repeat' (first | (with_reducible rfl) | (with_reducible refine ckd ?_) | (with_reducible refine ck (Nat.ne_of_gt oR) ?_)))) (fail)
  all_goals
    go_wp2_with fail
    obtain ⟨U, hU, kU, eU, sU, osU, tpU, ouU⟩ := sets16 KR6.out (.int .i64 x.id) (.int .i64 x.rc) (.int .i64 x.ow) (.int .i64 x.n) (.int .i8 x.f) (.int .u16 x.g0) (.int .u16 x.g1) (.int .u16 x.g2) (.int .u16 x.g3) (.int .u16 x.g4) (.int .u16 x.g5) (.int .u16 x.g6) (.int .u16 x.g7) (.int .i64 x.p) (.int .i8 3) (.int .i64 (x.sk))
    rw [hU]
    have cU := cell_block kU
    refine bodyPost_ret (v := .tuple #[.agg #[.int .i64 x.id, .int .i64 x.rc, .int .i64 x.ow, .int .i64 x.n, .int .i8 x.f, .int .u16 x.g0, .int .u16 x.g1, .int .u16 x.g2, .int .u16 x.g3, .int .u16 x.g4, .int .u16 x.g5, .int .u16 x.g6, .int .u16 x.g7, .int .i64 x.p, .int .i8 3, .int .i64 (x.sk)], .slice av n6 p6]) ?_ rfl ⟨av, n6, p6, rfl, HN6.out, ?_, ?_⟩
    · exact res11 (W := U.drew) rfl rfl (fun o => cU o)
    · exact owns_base (w := U.drew) (owns_same HO6.out (fun k hk => eU k (by omega))) (by omega)
    · exact B6.out.trans ⟨osU, tpU, ouU, Nat.le_of_eq sU.symm, fun k hk => eU k (by omega)⟩

end Go.Proofs.Ytfenloempdhknaa
