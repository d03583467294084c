

/- The walk of SeekTells: it returns true. -/
import Derived.Test.YthmeilgfdfkacaaW9
import Derived.Test.YthmeilgfdfkacaaCls2
namespace Go.Proofs.Ythmeilgfdfkacaa
open Go.RowKit
attribute [local go_sem ↓] Go.wp_at_zero Go.wp_at_succ
attribute [local go_sem] more_size cell_more_old frozen_more_old setCell_more_old more_drew drew_more old_alloc old_more old_drew old_setCell cell_alloc_old frozen_alloc_old setCell_alloc_old

theorem same10_none (w : World) : Calls Try.prog 10 #[.slice none 0 0, .slice none 0 0] w fun r w' => r = .returned (.bool true) ∧ Below w.heap.size w w' :=
  (same10_nil w).mono fun r w' ⟨h, m, hm⟩ => ⟨h, hm ▸ below_drewN' m⟩
theorem same10_one (b1 b2 : Nat) (id : Int) (name : ByteArray) (w : World) (h1 : w.heap[b1]? = some (.cells #[.int .i8 7, .int .i64 id, .int .i8 0, .int .i64 0, .int .i64 0, .int .i64 0, .string name, .int .i64 0, .int .i8 0, .int .u16 0, .int .u16 0, .int .u16 0, .int .u16 0, .int .u16 0, .int .u16 0, .int .u16 0, .int .u16 0, .int .i64 0, .pointer none] 51)) (h2 : w.heap[b2]? = some (.cells #[.int .i8 7, .int .i64 id, .int .i8 0, .int .i64 0, .int .i64 0, .int .i64 0, .string name, .int .i64 0, .int .i8 0, .int .u16 0, .int .u16 0, .int .u16 0, .int .u16 0, .int .u16 0, .int .u16 0, .int .u16 0, .int .u16 0, .int .i64 0, .pointer none] 51)) :
    Calls Try.prog 10 #[.slice (some ⟨b1, 0, none⟩) 1 1, .slice (some ⟨b2, 0, none⟩) 1 1] w fun r w' => r = .returned (.bool true) ∧ Below w.heap.size w w' := by
  have k1 := cell_block h1
  have k2 := cell_block h2
  refine (same10 b1 b2 1 (fun _ => ⟨7, id, 0, 0, 0, 0, 0, 0, 0, 0, 0, 0, 0, 0, 0, 0, 0, name⟩) w (by omega) (fun k hk => ?_) (fun k hk => ?_)).mono fun r w' ⟨h, m, hm⟩ => ⟨h, hm ▸ below_drewN' m⟩
  · obtain rfl : k = 0 := by omega
    simp [ddAt, k1]
  · obtain rfl : k = 0 := by omega
    simp [ddAt, k2]

set_option maxRecDepth 100000 in
set_option maxHeartbeats 8000000 in
theorem tells3 (s : Sk) (id namer : Int) (nme : ByteArray) (i k f n sk e : Int) (t : ByteArray) (w : World) (h1 : s.name.size ≤ 140737488351232) (h2 : s.mt.size ≤ 140737488351232) (h3 : t.size ≤ 140737488351232) (h4 : nme.size ≤ 140737488351232) (hl : -128 ≤ s.a) (hu : s.a ≤ 127) :
    Calls Try.prog 3 #[.agg #[.int .i64 s.id, .int .i64 s.nm, .string s.name, .int .i8 s.a, .int .i8 s.mkd, .int .i64 s.mf, .int .i64 s.mn, .int .i64 s.ms, .string s.mt, .int .i64 s.me], .int .i64 id, .int .i64 namer, .string nme, .int .i64 i, .agg #[.int .i8 k, .int .i64 f, .int .i64 n, .int .i64 sk, .string t, .int .i64 e]] w fun r w' => r = .returned (.bool true) ∧ Below w.heap.size w w' := by
  have hqf : (tkS s i e t).nm = s.nm ∧ (-128 ≤ s.a → -128 ≤ (tkS s i e t).a) ∧ (s.a ≤ 127 → (tkS s i e t).a ≤ 127) := by
    unfold tkS; split
    · simp
    · split
      · simp
      · simp
  generalize hq : tkS s i e t = q at *
  have hql := hqf.2.1 hl
  have hqu := hqf.2.2 hu
  have HQN := Lib.hid hqf.1
  clear hqf
  have HQ := Lib.hid hq
  clear hq
  by_cases c1 : 5000 < (nme.size : Int)
  · go_enter Try.func3, Try.ntmps3
    go_wp2_with fail
    refine (great6 s _ _ _ _ _ _ _ h1 h2 h3).mono ?_
    rintro r w1 ⟨g, rfl, hg, hb⟩
    obtain ⟨x, d, rfl⟩ := more_of_below hb; clear hb
    clear hg
    cases g
    all_goals
      go_wp2_with fail
      (refine (wakes7 _).mono ?_; rintro r w9 ⟨rfl, hb9⟩; obtain ⟨x9, d9, rfl⟩ := more_of_below hb9; clear hb9; go_wp2; go_ret; exact ⟨rfl, by (repeat' (first | (with_reducible exact Below.refl _ _) | (with_reducible assumption) | (with_reducible refine Below.drew ?_) | (with_reducible refine Below.alloc ?_ ?_ _) | (with_reducible refine below_more ?_ ?_ _ _) | (with_reducible refine Below.setCell ?_ ?_ _) | (with_reducible refine Below.trans ?_ (Below.mono (by assumption) ?_)))) <;> first | omega | (simp; done) | (simp; omega) | (simp [more_size]; done) | (simp [more_size]; omega)⟩)
  · go_enter Try.func3, Try.ntmps3
    go_wp2_with fail
    refine (great6 s _ _ _ _ _ _ _ h1 h2 h3).mono ?_
    rintro r w1 ⟨g, rfl, hg, hb⟩
    have kS1 : w1.heap[w.heap.size]? = some (.cells #[.int .i64 s.id, .int .i64 s.nm, .string s.name, .int .i8 s.a, .int .i8 s.mkd, .int .i64 s.mf, .int .i64 s.mn, .int .i64 s.ms, .string s.mt, .int .i64 s.me] 27) := block_keep' hb (by (repeat' (first | (with_reducible assumption) | (with_reducible refine hm_new ?_; (first | rfl | (simp; done) | (simp [more_size]; done) | (simp [more_size]; omega))) | (with_reducible refine block_alloc ?_) | (with_reducible refine hm_more ?_) | (with_reducible refine hm_drew ?_))))
    have kM1 : w1.heap[w.heap.size + 1]? = some (.cells #[.int .i8 k, .int .i64 f, .int .i64 n, .int .i64 sk, .string t, .int .i64 e] 25) := block_keep' hb (by (repeat' (first | (with_reducible assumption) | (with_reducible refine hm_new ?_; (first | rfl | (simp; done) | (simp [more_size]; done) | (simp [more_size]; omega))) | (with_reducible refine block_alloc ?_) | (with_reducible refine hm_more ?_) | (with_reducible refine hm_drew ?_))))
    have hB1 : Below w.heap.size w w1 := by (repeat' (first | (with_reducible exact Below.refl _ _) | (with_reducible assumption) | (with_reducible refine Below.drew ?_) | (with_reducible refine Below.alloc ?_ ?_ _) | (with_reducible refine below_more ?_ ?_ _ _) | (with_reducible refine Below.setCell ?_ ?_ _) | (with_reducible refine Below.trans ?_ (Below.mono (by assumption) ?_)))) <;> first | omega | (simp; done) | (simp; omega) | (simp [more_size]; done) | (simp [more_size]; omega)
    have hz1 := hB1.size
    have oM1 := block_lt kM1
    clear hb
    cases g
    case true =>
      clear hg kS1 kM1
      go_wp2_with fail
      (refine (wakes7 _).mono ?_; rintro r w9 ⟨rfl, hb9⟩; obtain ⟨x9, d9, rfl⟩ := more_of_below hb9; clear hb9; go_wp2; go_ret; exact ⟨rfl, by (repeat' (first | (with_reducible exact Below.refl _ _) | (with_reducible assumption) | (with_reducible refine Below.drew ?_) | (with_reducible refine Below.alloc ?_ ?_ _) | (with_reducible refine below_more ?_ ?_ _ _) | (with_reducible refine Below.setCell ?_ ?_ _) | (with_reducible refine Below.trans ?_ (Below.mono (by assumption) ?_)))) <;> first | omega | (simp; done) | (simp; omega) | (simp [more_size]; done) | (simp [more_size]; omega)⟩)
    case false =>
      obtain ⟨hs, hnm⟩ := hg rfl
      clear hg
      have hqn : q.nm ≤ 1099511627776 := by rw [HQN.out]; exact hnm
      have HS := Lib.hid kS1
      have HM := Lib.hid kM1
      have HB1 := Lib.hid hB1
      clear kS1 kM1 hB1
      go_wp2_with fail
      refine (begin8 _ _ _ _).mono ?_
      rintro r w2 ⟨b1, rfl, kd1, g1, hb⟩
      have kS2 := block_keep' hb HS.out
      have kM2 := block_keep' hb HM.out
      have hz2 := hb.size
      have HB2 := Lib.hid (HB1.out.trans (hb.mono hz1))
      have HD := Lib.hid kd1
      clear hb kd1 g1 HS HM HB1
      have HS := Lib.hid kS2
      have HM := Lib.hid kM2
      clear kS2 kM2
      go_wp2_with fail
      refine (begin9 _ _ _ _).mono ?_
      rintro r w3 ⟨b2, rfl, kd2, g2, hb⟩
      have kS2 := block_keep' hb (block_alloc HS.out)
      have kM2 := block_keep' hb (block_alloc HM.out)
      have kd1 := block_keep' hb (block_alloc HD.out)
      have kA2 : w3.heap[w2.heap.size]? = some (.cells #[.int .i64 id, .int .i64 namer, .string nme, .int .i8 0, .int .i8 0, .int .i64 0, .int .i64 0, .int .i64 0, .string ⟨#[]⟩, .int .i64 0] 27) := block_keep' hb (by (repeat' (first | (with_reducible assumption) | (with_reducible refine hm_new ?_; (first | rfl | (simp; done) | (simp [more_size]; done) | (simp [more_size]; omega))) | (with_reducible refine block_alloc ?_) | (with_reducible refine hm_more ?_) | (with_reducible refine hm_drew ?_))))
      have hz3 : w2.heap.size < w3.heap.size := block_lt kA2
      have hB3 : Below w.heap.size w w3 := by
        have hb2 := HB2.out
        have hz := hb2.size
        (repeat' (first | (with_reducible exact Below.refl _ _) | (with_reducible assumption) | (with_reducible refine Below.drew ?_) | (with_reducible refine Below.alloc ?_ ?_ _) | (with_reducible refine below_more ?_ ?_ _ _) | (with_reducible refine Below.setCell ?_ ?_ _) | (with_reducible refine Below.trans ?_ (Below.mono (by assumption) ?_)))) <;> first | omega | (simp; done) | (simp; omega) | (simp [more_size]; done) | (simp [more_size]; omega)
      have HB3 := Lib.hid hB3
      have HD1 := Lib.hid kd1
      have HD2 := Lib.hid kd2
      have HA := Lib.hid kA2
      clear hb kd1 kd2 g2 HS HM HD HB2 kA2 hB3
      have HS := Lib.hid kS2
      have HM := Lib.hid kM2
      clear kS2 kM2
      go_wp2_with fail
      refine cut_world (F := fun w4 => w4.heap[w.heap.size]? = some (.cells #[.int .i64 s.id, .int .i64 s.nm, .string s.name, .int .i8 s.a, .int .i8 s.mkd, .int .i64 s.mf, .int .i64 s.mn, .int .i64 s.ms, .string s.mt, .int .i64 s.me] 27) ∧ w4.heap[w.heap.size + 1]? = some (.cells #[.int .i8 k, .int .i64 f, .int .i64 n, .int .i64 sk, .string t, .int .i64 e] 25) ∧ w4.heap[w2.heap.size]? = some (.cells #[.int .i64 id, .int .i64 namer, .string nme, .int .i8 0, .int .i8 0, .int .i64 0, .int .i64 0, .int .i64 0, .string ⟨#[]⟩, .int .i64 0] 27) ∧ w4.heap[w3.heap.size]? = some (.cells #[.int .i64 id, .int .i64 namer, .string nme, .int .i8 0, .int .i8 0, .int .i64 0, .int .i64 0, .int .i64 0, .string ⟨#[]⟩, .int .i64 0] 27) ∧
        w4.heap[b1]? = some (.cells #[.int .i8 7, .int .i64 id, .int .i8 0, .int .i64 0, .int .i64 0, .int .i64 0, .string nme, .int .i64 0, .int .i8 0, .int .u16 0, .int .u16 0, .int .u16 0, .int .u16 0, .int .u16 0, .int .u16 0, .int .u16 0, .int .u16 0, .int .i64 0, .pointer none] 51) ∧ w4.heap[b2]? = some (.cells #[.int .i8 7, .int .i64 id, .int .i8 0, .int .i64 0, .int .i64 0, .int .i64 0, .string nme, .int .i64 0, .int .i8 0, .int .u16 0, .int .u16 0, .int .u16 0, .int .u16 0, .int .u16 0, .int .u16 0, .int .u16 0, .int .u16 0, .int .i64 0, .pointer none] 51) ∧ Below w.heap.size w w4) ⟨block_alloc HS.out, block_alloc HM.out, block_alloc HA.out, by (repeat' (first | (with_reducible assumption) | (with_reducible refine hm_new ?_; (first | rfl | (simp; done) | (simp [more_size]; done) | (simp [more_size]; omega))) | (with_reducible refine block_alloc ?_) | (with_reducible refine hm_more ?_) | (with_reducible refine hm_drew ?_))), block_alloc HD1.out, block_alloc HD2.out, by have hb2 := HB3.out; have hz := hb2.size; (repeat' (first | (with_reducible exact Below.refl _ _) | (with_reducible assumption) | (with_reducible refine Below.drew ?_) | (with_reducible refine Below.alloc ?_ ?_ _) | (with_reducible refine below_more ?_ ?_ _ _) | (with_reducible refine Below.setCell ?_ ?_ _) | (with_reducible refine Below.trans ?_ (Below.mono (by assumption) ?_)))) <;> first | omega | (simp; done) | (simp; omega) | (simp [more_size]; done) | (simp [more_size]; omega)⟩ ?_
      clear HS HM HA HD1 HD2 HB3
      rintro w4 ⟨kS, kM, kA, kB, kd1, kd2, hB⟩
      have oS := block_lt kS
      have oM := block_lt kM
      have oA := block_lt kA
      have oB := block_lt kB
      have cS := cell_block kS
      have cM := cell_block kM
      have cA := cell_block kA
      have cB := cell_block kB
      have HS := Lib.hid kS
      have HM := Lib.hid kM
      have HA := Lib.hid kA
      have HBB := Lib.hid kB
      have HD1 := Lib.hid kd1
      have HD2 := Lib.hid kd2
      have HB := Lib.hid hB
      clear kS kM kA kB kd1 kd2 hB
      go_region_held3 (fun w' => (∀ b o, b < (w4).heap.size → w'.cell? ⟨b, o, none⟩ = (w4).cell? ⟨b, o, none⟩) ∧ Below ((w4).heap.size) w4 w') ((with_reducible first | assumption | exact cls_start | exact cls_startN _ | exact cls_startN' _ | exact cls_step (by assumption) (by assumption) | exact cls_alloc (by assumption) | exact cls_drew (by assumption))) (first
        | (go_at_call 10; refine (same10_one _ _ id nme _ (cls_block (by assumption) HD1.out) (cls_block (by assumption) HD2.out)).mono ?_; rintro e w' ⟨rfl, hb⟩)
        | (go_at_call 12; refine (offers12_any s _ hnm hl hu).mono ?_; rintro e w' ⟨v1, rfl, ho1, hb⟩)
        | (go_at_call 13; refine (offers13_any s _ hnm).mono ?_; rintro e w' ⟨v2, rfl, ho2, hb⟩; have ho3 := ho1.below hb)
        | (go_at_call 11; refine (same11_any s _ _ _ ho3 ho2).mono ?_; rintro e w' ⟨rfl, hb⟩))
      have hS5 : (∀ (b o : Nat), b < w4.heap.size → w'.cell? ⟨b, o, none⟩ = w4.cell? ⟨b, o, none⟩) ∧ Below w4.heap.size w4 w' := by assumption
      have HS5 := Lib.hid hS5
      clear ho1 ho2 ho3 hb
      go_wp2_with fail
      refine (take14_any s i k f n sk e t _ hnm hl hu).mono ?_
      rintro r w5 ⟨rfl, hb⟩
      rw [HQ.out, skV]
      have kS5 := block_keep' hb (cls_block HS5.out HS.out)
      have kM5 := block_keep' hb (cls_block HS5.out HM.out)
      have kA5 := block_keep' hb (cls_block HS5.out HA.out)
      have kB5 := block_keep' hb (cls_block HS5.out HBB.out)
      have hB5 : Below w.heap.size w w5 := (cls_fin HB.out HB.out.size HS5.out).trans (hb.mono (Nat.le_trans HB.out.size HS5.out.2.size))
      have nSA : w.heap.size ≠ w2.heap.size := by omega
      have nMA : w.heap.size + 1 ≠ w2.heap.size := by omega
      have nBA : w3.heap.size ≠ w2.heap.size := by omega
      have nSB : w.heap.size ≠ w3.heap.size := by omega
      have nAB : w2.heap.size ≠ w3.heap.size := by omega
      clear hS5 hb HS5 HS HM HA HBB HB HD1 HD2 cS cM cA cB oS oM oA oB
      have HS := Lib.hid kS5
      have HM := Lib.hid kM5
      have HA := Lib.hid kA5
      have HBB := Lib.hid kB5
      have HB := Lib.hid hB5
      have cS := cell_block kS5
      have cM := cell_block kM5
      have cA := cell_block kA5
      have fA := free_block kA5
      have N1 := Lib.hid nSA
      have N2 := Lib.hid nMA
      have N3 := Lib.hid nBA
      have N4 := Lib.hid nSB
      have N5 := Lib.hid nAB
      clear kS5 kM5 kA5 kB5 hB5 nBA nSB nAB
      go_wp2_with fail
      refine (take15_any s i k f n sk e t _ hnm).mono ?_
      rintro r w6 ⟨rfl, hb⟩
      rw [HQ.out, skV]
      have kS6 := block_keep' hb (sets10 HS.out N1.out)
      have kA6 := block_keep' hb (store10 HA.out)
      have kB6 := block_keep' hb (sets10 HBB.out N3.out)
      have hz5 := HB.out.size
      have hB6 : Below w.heap.size w w6 := by
        have hb5 := HB.out
        have h12 : w.heap.size ≤ w2.heap.size := by omega
        (repeat' (first | (with_reducible exact Below.refl _ _) | (with_reducible assumption) | (with_reducible refine Below.drew ?_) | (with_reducible refine Below.alloc ?_ ?_ _) | (with_reducible refine below_more ?_ ?_ _ _) | (with_reducible refine Below.setCell ?_ ?_ _) | (with_reducible refine Below.trans ?_ (Below.mono (by assumption) ?_)))) <;> first | omega | (simp; done) | (simp; omega) | (simp [more_size]; done) | (simp [more_size]; omega)
      clear hb HS HM HA HBB HB cS cM cA fA nSA nMA
      have HS := Lib.hid kS6
      have HA := Lib.hid kA6
      have HBB := Lib.hid kB6
      have HB := Lib.hid hB6
      have cB := cell_block kB6
      have fB := free_block kB6
      clear kS6 kA6 kB6 hB6
      go_wp2_with fail
      refine cut_world (F := fun w7 => w7.heap[w.heap.size]? = some (.cells #[.int .i64 s.id, .int .i64 s.nm, .string s.name, .int .i8 s.a, .int .i8 s.mkd, .int .i64 s.mf, .int .i64 s.mn, .int .i64 s.ms, .string s.mt, .int .i64 s.me] 27) ∧ w7.heap[w2.heap.size]? = some (.cells #[.int .i64 q.id, .int .i64 q.nm, .string q.name, .int .i8 q.a, .int .i8 q.mkd, .int .i64 q.mf, .int .i64 q.mn, .int .i64 q.ms, .string q.mt, .int .i64 q.me] 27) ∧ w7.heap[w3.heap.size]? = some (.cells #[.int .i64 q.id, .int .i64 q.nm, .string q.name, .int .i8 q.a, .int .i8 q.mkd, .int .i64 q.mf, .int .i64 q.mn, .int .i64 q.ms, .string q.mt, .int .i64 q.me] 27) ∧ Below w.heap.size w w7)
        ⟨sets10 HS.out N4.out, sets10 HA.out N5.out, store10 HBB.out, by have hb6 := HB.out; have hz6 := hb6.size; have h12 : w.heap.size ≤ w3.heap.size := (by omega); (repeat' (first | (with_reducible exact Below.refl _ _) | (with_reducible assumption) | (with_reducible refine Below.drew ?_) | (with_reducible refine Below.alloc ?_ ?_ _) | (with_reducible refine below_more ?_ ?_ _ _) | (with_reducible refine Below.setCell ?_ ?_ _) | (with_reducible refine Below.trans ?_ (Below.mono (by assumption) ?_)))) <;> first | omega | (simp; done) | (simp; omega) | (simp [more_size]; done) | (simp [more_size]; omega)⟩ ?_
      clear HS HA HBB HB cB fB
      rintro w7 ⟨kS, kA, kB, hB⟩
      have oS := block_lt kS
      have oA := block_lt kA
      have oB := block_lt kB
      have cS := cell_block kS
      have cA := cell_block kA
      have cB := cell_block kB
      have HB := Lib.hid hB
      clear kS kA kB hB
      go_region_held3 (fun w' => (∀ b o, b < (w7).heap.size → w'.cell? ⟨b, o, none⟩ = (w7).cell? ⟨b, o, none⟩) ∧ Below ((w7).heap.size) w7 w') ((with_reducible first | assumption | exact cls_start | exact cls_startN _ | exact cls_startN' _ | exact cls_step (by assumption) (by assumption) | exact cls_alloc (by assumption) | exact cls_drew (by assumption))) (first
        | (go_at_call 10; refine (same10_none _).mono ?_; rintro e w' ⟨rfl, hb⟩)
        | (go_at_call 16; refine (over16_two s q _ _ (by (repeat' (first | (with_reducible assumption) | (with_reducible refine hm_new ?_; (first | rfl | (simp; done) | (simp [more_size]; done) | (simp [more_size]; omega))) | (with_reducible refine block_alloc ?_) | (with_reducible refine hm_more ?_) | (with_reducible refine hm_drew ?_) | (with_reducible refine hm_drewN ?_) | (with_reducible refine block_keep' (by assumption) ?_)))) hnm hl hu hqn hql hqu).mono ?_; rintro e w' ⟨rfl, hb⟩)
        | (go_at_call 17; refine (over17_two s q _ _ (by (repeat' (first | (with_reducible assumption) | (with_reducible refine hm_new ?_; (first | rfl | (simp; done) | (simp [more_size]; done) | (simp [more_size]; omega))) | (with_reducible refine block_alloc ?_) | (with_reducible refine hm_more ?_) | (with_reducible refine hm_drew ?_) | (with_reducible refine hm_drewN ?_) | (with_reducible refine block_keep' (by assumption) ?_)))) hnm hl hu hqn hql hqu).mono ?_; rintro e w' ⟨rfl, hb⟩)
        | (go_at_call 7; refine (wakes7 _).mono ?_; rintro e w' ⟨rfl, hb⟩))
      all_goals
        go_wp2
        go_ret
        exact ⟨rfl, cls_fin HB.out HB.out.size (by assumption)⟩
end Go.Proofs.Ythmeilgfdfkacaa
