
/- Walks of seat 17: Over, of any row. -/
import Derived.Test.YthmeilgfdfkacaaW5
namespace Go.Proofs.Ythmeilgfdfkacaa
open Go.RowKit
attribute [local go_sem ↓] Go.wp_at_zero Go.wp_at_succ
attribute [local go_sem] more_size cell_more_old frozen_more_old setCell_more_old more_drew drew_more old_alloc old_more old_drew old_setCell cell_alloc_old frozen_alloc_old setCell_alloc_old

/-- A seeker's fields. -/
structure Sk where
  (id nm a mkd mf mn ms me : Int)
  (name mt : ByteArray)

/-- Seeker s lies in block b from cell o on. -/
def skAt (w : World) (b o : Nat) (s : Sk) : Prop :=
  w.cell? ⟨b, o, none⟩ = some (.int .i64 s.id) ∧ w.cell? ⟨b, o + 1, none⟩ = some (.int .i64 s.nm) ∧ w.cell? ⟨b, o + 2, none⟩ = some (.string s.name) ∧ w.cell? ⟨b, o + 3, none⟩ = some (.int .i8 s.a) ∧
  w.cell? ⟨b, o + 4, none⟩ = some (.int .i8 s.mkd) ∧ w.cell? ⟨b, o + 5, none⟩ = some (.int .i64 s.mf) ∧ w.cell? ⟨b, o + 6, none⟩ = some (.int .i64 s.mn) ∧ w.cell? ⟨b, o + 7, none⟩ = some (.int .i64 s.ms) ∧
  w.cell? ⟨b, o + 8, none⟩ = some (.string s.mt) ∧ w.cell? ⟨b, o + 9, none⟩ = some (.int .i64 s.me)

theorem skAt_below {B : Nat} {w w' : World} {b o : Nat} {s : Sk} (h : skAt w b o s) (hb : Below B w w') (hlt : b < B) : skAt w' b o s := by
  obtain ⟨h0, h1, h2, h3, h4, h5, h6, h7, h8, h9⟩ := h
  have hc : ∀ j, w'.cell? ⟨b, j, none⟩ = w.cell? ⟨b, j, none⟩ := fun j => hb.cell (p := ⟨b, j, none⟩) hlt
  exact ⟨(hc _).trans h0, (hc _).trans h1, (hc _).trans h2, (hc _).trans h3, (hc _).trans h4, (hc _).trans h5, (hc _).trans h6, (hc _).trans h7, (hc _).trans h8, (hc _).trans h9⟩

/-- Is a place none of a seeker's that goes on? -/
def ovB (a : Int) : Bool := decide (a < 0 ∨ 2 ≤ a)

/-- Are the first k over? -/
def ovTo (S : Nat → Sk) : Nat → Bool
  | 0 => true
  | k + 1 => ovTo S k && ovB (S k).a

theorem ovTo_false {S : Nat → Sk} {n k : Nat} (h : k < n) (hk : ovB (S k).a = false) : ovTo S n = false := by
  induction n with
  | zero => omega
  | succ n ih =>
    rcases Nat.lt_or_ge k n with h' | h'
    · simp [ovTo, ih h']
    · obtain rfl : k = n := by omega
      simp [ovTo, hk]

set_option maxHeartbeats 800000 in
theorem over16 (b n : Nat) (S : Nat → Sk) (w : World) (hb : b < w.heap.size) (hn : n ≤ 1000) (hS : ∀ k, k < n → skAt w b (k * 10) (S k) ∧ (S k).nm ≤ 1099511627776 ∧ -128 ≤ (S k).a ∧ (S k).a ≤ 127) :
    Calls Try.prog 16 #[.slice (some ⟨b, 0, none⟩) n n] w fun r w' => r = .returned (.bool (ovTo S n)) ∧ Below w.heap.size w w' := by
  have HS := Lib.hid hS
  clear hS
  go_enter Try.func16, Try.ntmps16
  go_wp2
  go_loopw [9] (fun i wr => ∃ k : Nat, k ≤ n ∧ i = .int .i64 k ∧ ovTo S k = true ∧ Below w.heap.size w wr) (fun i _ => n - (intOf i).toNat)
  case atStart => exact ⟨0, Nat.zero_le _, rfl, rfl, Below.refl _ _⟩
  case round =>
    obtain ⟨k, hk, rfl, hov, hbl⟩ := hrel
    have HOV := Lib.hid hov
    clear hov
    by_cases hlt : k < n
    · obtain ⟨hs, hnm, hl, hu⟩ := HS.out k hlt
      have hs' := skAt_below hs hbl hb
      have hsz := hbl.size
      have hold : Old wr b := Nat.lt_of_lt_of_le hb hsz
      have HL := Lib.hid hbl
      clear hs hbl
      generalize hgs : S k = s at *
      have HG := Lib.hid hgs
      clear hgs
      obtain ⟨id, nm, a, mk, mf, mn, ms, me, name, mt⟩ := s
      obtain ⟨h0, h1, h2, h3, h4, h5, h6, h7, h8, h9⟩ := hs'
      simp only at h0 h1 h2 h3 h4 h5 h6 h7 h8 h9 hnm hl hu
      have go : (a < 0 ∨ 2 ≤ a) ∨ a = 0 ∨ a = 1 := by omega
      rcases go with go | rfl | rfl
      · have HO : Hid (ovB a = true) := by show ovB a = true; simpa [ovB] using go
        go_wp2_with fail
        refine (at20_no _ _ _ _ _ _ _ _ _ _ _ hnm hl hu go).mono ?_
        clear go
        rintro r w1 ⟨rfl, hb1⟩
        obtain ⟨x, d, rfl⟩ := more_of_below hb1
        clear hb1
        go_wp2
        go_roundw
        case rel => exact ⟨k + 1, by omega, by go_num, by rw [ovTo, HOV.out, HG.out, HO.out]; rfl, by have HLo := HL.out; clear HL; (repeat' (first | (with_reducible exact Below.refl _ _) | (with_reducible assumption) | (with_reducible refine Below.drew ?_) | (with_reducible refine Below.alloc ?_ ?_ _) | (with_reducible refine below_more ?_ ?_ _ _) | (with_reducible refine Below.setCell ?_ ?_ _) | (with_reducible refine Below.trans ?_ (Below.mono (by assumption) ?_)))) <;> first | omega | (simp; done) | (simp; omega) | (simp [more_size]; done) | (simp [more_size]; omega)⟩
        case measure => simp [intOf]; omega
      · go_wp2_with fail
        refine (at20_zero _ _ _ _ _ _ _ _ _ _ hnm).mono ?_
        rintro r w1 ⟨b1, rfl, k1, g1, hb1⟩
        clear k1 g1
        obtain ⟨x, d, rfl⟩ := more_of_below hb1
        clear hb1
        go_wp2
        go_ret
        have hfin : ovTo S n = false := ovTo_false hlt (by rw [HG.out]; rfl)
        exact ⟨by rw [hfin]; rfl, by have HLo := HL.out; clear HL; (repeat' (first | (with_reducible exact Below.refl _ _) | (with_reducible assumption) | (with_reducible refine Below.drew ?_) | (with_reducible refine Below.alloc ?_ ?_ _) | (with_reducible refine below_more ?_ ?_ _ _) | (with_reducible refine Below.setCell ?_ ?_ _) | (with_reducible refine Below.trans ?_ (Below.mono (by assumption) ?_)))) <;> first | omega | (simp; done) | (simp; omega) | (simp [more_size]; done) | (simp [more_size]; omega)⟩
      · go_wp2_with fail
        refine (at20_one _ _ _ _ _ _ _ _ _ _ hnm).mono ?_
        rintro r w1 ⟨b1, rfl, k1, g1, hb1⟩
        clear k1 g1
        obtain ⟨x, d, rfl⟩ := more_of_below hb1
        clear hb1
        go_wp2
        go_ret
        have hfin : ovTo S n = false := ovTo_false hlt (by rw [HG.out]; rfl)
        exact ⟨by rw [hfin]; rfl, by have HLo := HL.out; clear HL; (repeat' (first | (with_reducible exact Below.refl _ _) | (with_reducible assumption) | (with_reducible refine Below.drew ?_) | (with_reducible refine Below.alloc ?_ ?_ _) | (with_reducible refine below_more ?_ ?_ _ _) | (with_reducible refine Below.setCell ?_ ?_ _) | (with_reducible refine Below.trans ?_ (Below.mono (by assumption) ?_)))) <;> first | omega | (simp; done) | (simp; omega) | (simp [more_size]; done) | (simp [more_size]; omega)⟩
    · have hkn : k = n := by omega
      have HOV' : Hid (ovTo S n = true) := by show ovTo S n = true; rw [← hkn]; exact HOV.out
      clear hkn
      have HL := Lib.hid hbl
      clear hbl
      go_wp2
      go_ret
      exact ⟨by rw [HOV'.out]; rfl, HL.out⟩
end Go.Proofs.Ythmeilgfdfkacaa
