
/- Walks of seat 17: the document's Over; the same cases, the same deeds. -/
import Derived.Test.YthmeilgfdfkacaaW6
import Derived.ChangeKeysEq
namespace Go.Proofs.Ythmeilgfdfkacaa
open Go.RowKit
attribute [local go_sem ↓] Go.wp_at_zero Go.wp_at_succ
attribute [local go_sem] more_size cell_more_old frozen_more_old setCell_more_old more_drew drew_more old_alloc old_more old_drew old_setCell cell_alloc_old frozen_alloc_old setCell_alloc_old

set_option maxHeartbeats 800000 in
theorem over17 (b n : Nat) (S : Nat → Sk) (w : World) (hb : b < w.heap.size) (hn : n ≤ 1000) (hS : ∀ k, k < n → skAt w b (k * 10) (S k) ∧ (S k).nm ≤ 1099511627776 ∧ -128 ≤ (S k).a ∧ (S k).a ≤ 127) :
    Calls Try.prog 17 #[.slice (some ⟨b, 0, none⟩) n n] w fun r w' => r = .returned (.bool (ovTo S n)) ∧ Below w.heap.size w w' := by
  have HS := Lib.hid hS
  clear hS
  go_enter Try.func17, Try.ntmps17
  go_wp2
  go_loopw [3] (fun i wr => ∃ k : Nat, k ≤ n ∧ i = .int .i64 k ∧ ovTo S k = true ∧ Below w.heap.size w wr) (fun i _ => n - (intOf i).toNat)
  case atStart => exact ⟨0, Nat.zero_le _, rfl, rfl, Below.refl _ _⟩
  case round =>
    obtain ⟨k, hk, rfl, hov, hbl⟩ := hrel
    have HOV := Lib.hid hov
    clear hov
    by_cases hlt : k < n
    · obtain ⟨hs, hnm, hl, hu⟩ := HS.out k hlt
      have hs' := skAt_below hs hbl hb
      have hsz := hbl.size
      have hold : Old wr b := Nat.lt_of_lt_of_le hb hsz
      have HL := Lib.hid hbl
      clear hs hbl
      generalize hgs : S k = s at *
      have HG := Lib.hid hgs
      clear hgs
      obtain ⟨id, nm, a, mk, mf, mn, ms, me, name, mt⟩ := s
      obtain ⟨h0, h1, h2, h3, h4, h5, h6, h7, h8, h9⟩ := hs'
      simp only at h0 h1 h2 h3 h4 h5 h6 h7 h8 h9 hnm hl hu
      have go : (a < 0 ∨ 2 ≤ a) ∨ a = 0 ∨ a = 1 := by omega
      rcases go with go | rfl | rfl
      · have HO : Hid (ovB a = true) := by show ovB a = true; simpa [ovB] using go
        go_wp2_with fail
        refine (offers13_no _ _ _ _ _ _ _ _ _ _ _ go).mono ?_
        clear go
        rintro r w1 ⟨rfl, hb1⟩
        obtain ⟨x, d, rfl⟩ := more_of_below hb1
        clear hb1
        go_wp2
        go_roundw
        case rel => exact ⟨k + 1, by omega, by go_num, by rw [ovTo, HOV.out, HG.out, HO.out]; rfl, by have HLo := HL.out; clear HL; (repeat' (first | (with_reducible exact Below.refl _ _) | (with_reducible assumption) | (with_reducible refine Below.drew ?_) | (with_reducible refine Below.alloc ?_ ?_ _) | (with_reducible refine below_more ?_ ?_ _ _) | (with_reducible refine Below.setCell ?_ ?_ _) | (with_reducible refine Below.trans ?_ (Below.mono (by assumption) ?_)))) <;> first | omega | (simp; done) | (simp; omega) | (simp [more_size]; done) | (simp [more_size]; omega)⟩
        case measure => simp [intOf]; omega
      · go_wp2_with fail
        refine (offers13_zero _ _ _ _ _ _ _ _ _ _ hnm).mono ?_
        rintro r w1 ⟨b1, rfl, k1, g1, hb1⟩
        clear k1 g1
        obtain ⟨x, d, rfl⟩ := more_of_below hb1
        clear hb1
        go_wp2
        go_ret
        have hfin : ovTo S n = false := ovTo_false hlt (by rw [HG.out]; rfl)
        exact ⟨by rw [hfin]; rfl, by have HLo := HL.out; clear HL; (repeat' (first | (with_reducible exact Below.refl _ _) | (with_reducible assumption) | (with_reducible refine Below.drew ?_) | (with_reducible refine Below.alloc ?_ ?_ _) | (with_reducible refine below_more ?_ ?_ _ _) | (with_reducible refine Below.setCell ?_ ?_ _) | (with_reducible refine Below.trans ?_ (Below.mono (by assumption) ?_)))) <;> first | omega | (simp; done) | (simp; omega) | (simp [more_size]; done) | (simp [more_size]; omega)⟩
      · go_wp2_with fail
        refine (offers13_one _ _ _ _ _ _ _ _ _ _ hnm).mono ?_
        rintro r w1 ⟨b1, rfl, k1, g1, hb1⟩
        clear k1 g1
        obtain ⟨x, d, rfl⟩ := more_of_below hb1
        clear hb1
        go_wp2
        go_ret
        have hfin : ovTo S n = false := ovTo_false hlt (by rw [HG.out]; rfl)
        exact ⟨by rw [hfin]; rfl, by have HLo := HL.out; clear HL; (repeat' (first | (with_reducible exact Below.refl _ _) | (with_reducible assumption) | (with_reducible refine Below.drew ?_) | (with_reducible refine Below.alloc ?_ ?_ _) | (with_reducible refine below_more ?_ ?_ _ _) | (with_reducible refine Below.setCell ?_ ?_ _) | (with_reducible refine Below.trans ?_ (Below.mono (by assumption) ?_)))) <;> first | omega | (simp; done) | (simp; omega) | (simp [more_size]; done) | (simp [more_size]; omega)⟩
    · have hkn : k = n := by omega
      have HOV' : Hid (ovTo S n = true) := by show ovTo S n = true; rw [← hkn]; exact HOV.out
      clear hkn
      have HL := Lib.hid hbl
      clear hbl
      go_wp2
      go_ret
      exact ⟨by rw [HOV'.out]; rfl, HL.out⟩

/-- A case's fields. -/
structure Cs where
  (kd du lk lf ln ls le tt : Int)
  (lt : ByteArray)
def csAt (w : World) (b o : Nat) (s : Cs) : Prop :=
  w.cell? ⟨b, o, none⟩ = some (.int .i8 s.kd) ∧ w.cell? ⟨b, o + 1, none⟩ = some (.int .i64 s.du) ∧ w.cell? ⟨b, o + 2, none⟩ = some (.int .i8 s.lk) ∧ w.cell? ⟨b, o + 3, none⟩ = some (.int .i64 s.lf) ∧
  w.cell? ⟨b, o + 4, none⟩ = some (.int .i64 s.ln) ∧ w.cell? ⟨b, o + 5, none⟩ = some (.int .i64 s.ls) ∧ w.cell? ⟨b, o + 6, none⟩ = some (.string s.lt) ∧ w.cell? ⟨b, o + 7, none⟩ = some (.int .i64 s.le) ∧
  w.cell? ⟨b, o + 8, none⟩ = some (.int .i64 s.tt)

set_option maxHeartbeats 400000 in
theorem same11_nil (w : World) : Calls Try.prog 11 #[.slice none 0 0, .slice none 0 0] w fun r w' => r = .returned (.bool true) ∧ ∃ m, w' = w.drewN m := by
  go_enter Try.func11, Try.ntmps11
  go_wp2
  refine wp_loop_rounds 1 ?_
  rw [rounds_succ]
  go_wp2
  go_ret
  exact ⟨rfl, 0, rfl⟩

set_option maxHeartbeats 800000 in
theorem same11 (b1 b2 n : Nat) (F : Nat → Cs) (w : World) (hn : n ≤ 1000) (h1 : ∀ k, k < n → csAt w b1 (k * 9) (F k)) (h2 : ∀ k, k < n → csAt w b2 (k * 9) (F k)) :
    Calls Try.prog 11 #[.slice (some ⟨b1, 0, none⟩) n n, .slice (some ⟨b2, 0, none⟩) n n] w fun r w' => r = .returned (.bool true) ∧ ∃ m, w' = w.drewN m := by
  have H1 := Lib.hid h1
  have H2 := Lib.hid h2
  clear h1 h2
  go_enter Try.func11, Try.ntmps11
  go_wp2
  go_loopw [5] (fun i wr => ∃ k : Nat, k ≤ n ∧ i = .int .i64 k ∧ ∃ m, wr = w.drewN m) (fun i _ => n - (intOf i).toNat)
  case atStart => exact ⟨0, Nat.zero_le _, rfl, 0, rfl⟩
  case round =>
    obtain ⟨k, hk, rfl, m, rfl⟩ := hrel
    by_cases hlt : k < n
    · have hs := H1.out k hlt
      have ht := H2.out k hlt
      generalize F k = s at *
      obtain ⟨kd, du, lk, lf, ln, ls, le, tt, lt⟩ := s
      obtain ⟨c0, c1, c2, c3, c4, c5, c6, c7, c8⟩ := hs
      obtain ⟨d0, d1, d2, d3, d4, d5, d6, d7, d8⟩ := ht
      simp only at c0 c1 c2 c3 c4 c5 c6 c7 c8 d0 d1 d2 d3 d4 d5 d6 d7 d8
      have hi : (k : Int) < (n : Int) := by omega
      have hi0 : (0 : Int) ≤ (k : Int) := by omega
      go_wp2
      go_quiet (fail)
      go_wp2
      go_roundw
      case rel => exact ⟨k + 1, by omega, by go_num, _, rfl⟩
      case measure => simp [intOf]; omega
    · go_wp2
      go_ret
      exact ⟨rfl, m, rfl⟩

/-- A deed's fields (one that begins no goroutine). -/
structure Dd where
  (kd aa lk lf ln ls le fam g0 g1 g2 g3 g4 g5 g6 g7 port : Int)
  (lt : ByteArray)
def ddAt (w : World) (b o : Nat) (s : Dd) : Prop :=
  w.cell? ⟨b, o, none⟩ = some (.int .i8 s.kd) ∧ w.cell? ⟨b, o + 1, none⟩ = some (.int .i64 s.aa) ∧ w.cell? ⟨b, o + 2, none⟩ = some (.int .i8 s.lk) ∧ w.cell? ⟨b, o + 3, none⟩ = some (.int .i64 s.lf) ∧
  w.cell? ⟨b, o + 4, none⟩ = some (.int .i64 s.ln) ∧ w.cell? ⟨b, o + 5, none⟩ = some (.int .i64 s.ls) ∧ w.cell? ⟨b, o + 6, none⟩ = some (.string s.lt) ∧ w.cell? ⟨b, o + 7, none⟩ = some (.int .i64 s.le) ∧
  w.cell? ⟨b, o + 8, none⟩ = some (.int .i8 s.fam) ∧ w.cell? ⟨b, o + 9, none⟩ = some (.int .u16 s.g0) ∧ w.cell? ⟨b, o + 10, none⟩ = some (.int .u16 s.g1) ∧ w.cell? ⟨b, o + 11, none⟩ = some (.int .u16 s.g2) ∧
  w.cell? ⟨b, o + 12, none⟩ = some (.int .u16 s.g3) ∧ w.cell? ⟨b, o + 13, none⟩ = some (.int .u16 s.g4) ∧ w.cell? ⟨b, o + 14, none⟩ = some (.int .u16 s.g5) ∧ w.cell? ⟨b, o + 15, none⟩ = some (.int .u16 s.g6) ∧
  w.cell? ⟨b, o + 16, none⟩ = some (.int .u16 s.g7) ∧ w.cell? ⟨b, o + 17, none⟩ = some (.int .i64 s.port) ∧ w.cell? ⟨b, o + 18, none⟩ = some (.pointer none)

set_option maxHeartbeats 400000 in
theorem same10_nil (w : World) : Calls Try.prog 10 #[.slice none 0 0, .slice none 0 0] w fun r w' => r = .returned (.bool true) ∧ ∃ m, w' = w.drewN m := by
  go_enter Try.func10, Try.ntmps10
  go_wp2
  refine wp_loop_rounds 1 ?_
  rw [rounds_succ]
  go_wp2
  go_ret
  exact ⟨rfl, 0, rfl⟩

set_option maxRecDepth 100000 in
set_option maxHeartbeats 400000 in
theorem spawned19 (w : World) : Calls Try.prog 19 #[.pointer none, .pointer none] w fun r w' => r = .returned (.bool true) ∧ w' = w := by
  go_enter Try.func19, Try.ntmps19
  go_wp2
  go_ret
  exact ⟨rfl, rfl⟩

theorem cells45 : Try.prog.cellsOf 45 = 1 := by kernel_rfl
/-- '==' of an array of eight numbers and itself. -/
theorem eqArr46 (w : World) (g0 g1 g2 g3 g4 g5 g6 g7 : Int) :
    (Op.equalIn 9999 46 (.agg #[.int .u16 g0, .int .u16 g1, .int .u16 g2, .int .u16 g3, .int .u16 g4, .int .u16 g5, .int .u16 g6, .int .u16 g7]) (.agg #[.int .u16 g0, .int .u16 g1, .int .u16 g2, .int .u16 g3, .int .u16 g4, .int .u16 g5, .int .u16 g6, .int .u16 g7])).run Try.prog w = .ok true w := by
  obtain ⟨i, hi⟩ : ∃ i, Try.prog.info? 45 = some i := Option.isSome_iff_exists.1 (by kernel_rfl)
  rw [run_equalIn_array w 9998 _ _ Try.underlying46 hi, cells45]
  simp [List.range_succ, Op.eqItems, go_sem]
attribute [local go_sem] eqArr46

set_option maxRecDepth 100000 in
set_option maxHeartbeats 1600000 in
theorem same10 (b1 b2 n : Nat) (F : Nat → Dd) (w : World) (hn : n ≤ 1000) (h1 : ∀ k, k < n → ddAt w b1 (k * 19) (F k)) (h2 : ∀ k, k < n → ddAt w b2 (k * 19) (F k)) :
    Calls Try.prog 10 #[.slice (some ⟨b1, 0, none⟩) n n, .slice (some ⟨b2, 0, none⟩) n n] w fun r w' => r = .returned (.bool true) ∧ ∃ m, w' = w.drewN m := by
  have H1 := Lib.hid h1
  have H2 := Lib.hid h2
  clear h1 h2
  go_enter Try.func10, Try.ntmps10
  go_wp2
  go_loopw [5] (fun i wr => ∃ k : Nat, k ≤ n ∧ i = .int .i64 k ∧ ∃ m, wr = w.drewN m) (fun i _ => n - (intOf i).toNat)
  case atStart => exact ⟨0, Nat.zero_le _, rfl, 0, rfl⟩
  case round =>
    obtain ⟨k, hk, rfl, m, rfl⟩ := hrel
    by_cases hlt : k < n
    · have hs := H1.out k hlt
      have ht := H2.out k hlt
      generalize F k = s at *
      obtain ⟨kd, aa, lk, lf, ln, ls, le, fam, g0, g1, g2, g3, g4, g5, g6, g7, port, lt⟩ := s
      obtain ⟨c0, c1, c2, c3, c4, c5, c6, c7, c8, c9, c10, c11, c12, c13, c14, c15, c16, c17, c18⟩ := hs
      obtain ⟨d0, d1, d2, d3, d4, d5, d6, d7, d8, d9, d10, d11, d12, d13, d14, d15, d16, d17, d18⟩ := ht
      simp only at c0 c1 c2 c3 c4 c5 c6 c7 c8 c9 c10 c11 c12 c13 c14 c15 c16 c17 c18 d0 d1 d2 d3 d4 d5 d6 d7 d8 d9 d10 d11 d12 d13 d14 d15 d16 d17 d18
      have hi : (k : Int) < (n : Int) := by omega
      have hi0 : (0 : Int) ≤ (k : Int) := by omega
      go_wp2
      go_quiet ((go_at_call 19; exact (spawned19 _).mono fun _ _ h => ⟨h.1, _, h.2⟩))
      go_wp2
      go_roundw
      case rel => exact ⟨k + 1, by omega, by go_num, _, rfl⟩
      case measure => simp [intOf]; omega
    · go_wp2
      go_ret
      exact ⟨rfl, m, rfl⟩
end Go.Proofs.Ythmeilgfdfkacaa
