
/- Walks of the seat of chapter 16: Slots, Holds; the same numbers; a goroutine's duct. -/
import Derived.Test.YtfenloempdhknaaT1
namespace Go.Proofs.Ytfenloempdhknaa
open Go.RowKit
attribute [local go_sem ↓] Go.wp_at_zero Go.wp_at_succ
attribute [local go_sem] more_size cell_more_old frozen_more_old setCell_more_old more_drew drew_more old_alloc old_more old_drew old_setCell cell_alloc_old frozen_alloc_old setCell_alloc_old

theorem slots_take_succ {l : List At} {k : Nat} {x : At} (h : l[k]? = some x) : slotsN (l.take (k + 1)) = slotsN (l.take k) + (if slotB x = true then 1 else 0) := by
  unfold slotsN
  rw [List.take_add_one, h, List.filter_append, List.length_append]
  cases hb : slotB x <;> simp [List.filter, hb]
theorem slots_le (l : List At) (k : Nat) : slotsN (l.take k) ≤ k := by
  have h1 := List.length_filter_le slotB (l.take k)
  have h2 := List.length_take_le k l
  unfold slotsN
  omega
theorem holds_take_succ {l : List At} {k : Nat} {x : At} (h : l[k]? = some x) : holdsL (l.take (k + 1)) = holdsL (l.take k) ++ (if heldB x = true then [x.sk] else []) := by
  unfold holdsL
  rw [List.take_add_one, h, List.filter_append, List.map_append]
  cases hb : heldB x <;> simp [List.filter, hb]
theorem holds_le (l : List At) (k : Nat) : (holdsL (l.take k)).length ≤ k := by
  have h1 := List.length_filter_le heldB (l.take k)
  have h2 := List.length_take_le k l
  unfold holdsL
  rw [List.length_map]
  omega

set_option maxHeartbeats 4000000 in
theorem slots12 (a : Option Addr) (n p : Nat) (l : List At) (w : World) (hn : n ≤ 1000) (hl : RdA w (.slice a n p) l) :
    Calls Try.prog 12 #[.slice a n p] w fun r w' => r = .returned (.int .i64 (slotsN l)) ∧ Below w.heap.size w w' := by
  have HL := Lib.hid hl
  have HN := Lib.hid hl.len
  clear hl
  go_enter Try.func12, Try.ntmps12
  go_wp2
  go_loopw [2, 7] (fun s i wr => ∃ (k m : Nat), k ≤ n ∧ m ≤ k ∧ i = .int .i64 k ∧ s = .int .i64 m ∧ slotsN (l.take k) = m ∧ Below w.heap.size w wr) (fun _ i _ => n - (intOf i).toNat)
  case atStart => exact ⟨0, 0, Nat.zero_le _, Nat.zero_le _, rfl, rfl, rfl, Below.refl _ _⟩
  case round =>
    obtain ⟨k, m, hk, hm, rfl, rfl, hs, hbl⟩ := hrel
    have HS := Lib.hid hs
    have HBL := Lib.hid hbl
    have hzr : w.heap.size ≤ wr.heap.size := hbl.size
    clear hs hbl
    by_cases hlt : k < n
    · have hi : (k : Int) < (n : Int) := by omega
      have hi0 : (0 : Int) ≤ (k : Int) := by omega
      have hm0 : (0 : Int) ≤ (m : Int) := by omega
      have hm1 : (m : Int) ≤ 1000 := by omega
      obtain ⟨x, hx⟩ : ∃ x, l[k]? = some x := ⟨_, List.getElem?_eq_getElem (by have := HN.out; omega)⟩
      have HX := Lib.hid hx
      obtain ⟨b, off, rfl, hb0, c0, c1, c2, c3, c4, c5, c6, c7, c8, c9, c10, c11, c12, c13, c14, c15⟩ := (HL.out.below HBL.out).at hx
      clear hx
      have HB1 : Hid (∀ o, Below w.heap.size w (wr.alloc o)) := Lib.hid fun o => HBL.out.alloc hzr o
      have HT := Lib.hid (slots_take_succ HX.out)
      rcases (show x.st = 0 ∨ x.st = 1 ∨ (x.st = 2 ∧ 0 ≤ x.sk) ∨ (x.st = 2 ∧ x.sk < 0) ∨ (x.st ≠ 0 ∧ x.st ≠ 1 ∧ x.st ≠ 2) from by omega) with h | h | ⟨h, h'⟩ | ⟨h, h'⟩ | ⟨h, h', h''⟩
      · have HV : Hid (slotB x = true) := Lib.hid (by simp [slotB, h])
        go_wp2
        go_roundw
        case rel => exact ⟨k + 1, m + 1, by omega, by omega, by go_num, by go_num, by rw [HT.out, HS.out, if_pos HV.out], HB1.out _⟩
        case measure => first | (simp [intOf]; done) | (simp [intOf]; omega)
      · have HV : Hid (slotB x = true) := Lib.hid (by simp [slotB, h])
        go_wp2
        go_roundw
        case rel => exact ⟨k + 1, m + 1, by omega, by omega, by go_num, by go_num, by rw [HT.out, HS.out, if_pos HV.out], HB1.out _⟩
        case measure => first | (simp [intOf]; done) | (simp [intOf]; omega)
      · have HV : Hid (slotB x = true) := Lib.hid (by simp [slotB, h, h'])
        go_wp2
        go_roundw
        case rel => exact ⟨k + 1, m + 1, by omega, by omega, by go_num, by go_num, by rw [HT.out, HS.out, if_pos HV.out], HB1.out _⟩
        case measure => first | (simp [intOf]; done) | (simp [intOf]; omega)
      · have HV : Hid (¬ slotB x = true) := Lib.hid (by simp [slotB, h]; omega)
        have hd : decide (0 ≤ x.sk) = false := by simp; omega
        go_wp2
        go_roundw
        case rel => exact ⟨k + 1, m, by omega, by omega, by go_num, by go_num, by rw [HT.out, HS.out, if_neg HV.out]; rfl, HB1.out _⟩
        case measure => first | (simp [intOf]; done) | (simp [intOf]; omega)
      · have HV : Hid (¬ slotB x = true) := Lib.hid (by simp [slotB]; omega)
        have e0 : (x.st == 0) = false := by simp [h]
        have e1 : (x.st == 1) = false := by simp [h']
        have e2 : (x.st == 2) = false := by simp [h'']
        clear h h' h''
        go_wp2
        go_roundw
        case rel => exact ⟨k + 1, m, by omega, by omega, by go_num, by go_num, by rw [HT.out, HS.out, if_neg HV.out]; rfl, HB1.out _⟩
        case measure => first | (simp [intOf]; done) | (simp [intOf]; omega)
    · have hi : ¬ (k : Int) < (n : Int) := by omega
      have : l.take k = l := List.take_of_length_le (by have := HN.out; omega)
      rw [this] at HS
      go_wp2
      go_ret
      exact ⟨by rw [HS.out]; rfl, HBL.out⟩

theorem info3 : (Try.prog.info? 3).map (fun i => (i.zero, i.size, i.bytes)) = some (some (.int .i64 0), 1, 8) := by kernel_rfl
theorem ints_map (l : List Int) : (l.map (Value.int .i64)).length = l.length * 1 := by simp

set_option maxHeartbeats 4000000 in
theorem holds13 (a : Option Addr) (n p : Nat) (l : List At) (w : World) (hn : n ≤ 1000) (hl : RdA w (.slice a n p) l) :
    Calls Try.prog 13 #[.slice a n p] w fun r w' => ∃ a' p' m, r = .returned (.slice a' m p') ∧ m = (holdsL l).length ∧ w'.ownsRow w.heap.size 3 1 (.slice a' m p') m ((holdsL l).map (Value.int .i64)) ∧ Below w.heap.size w w' := by
  obtain ⟨i0, hi0, hz0, hz1, hz2⟩ := info_parts info3
  have HL := Lib.hid hl
  have HN := Lib.hid hl.len
  clear hl
  go_enter Try.func13, Try.ntmps13
  go_wp2
  go_loopw [2, 7] (fun s i wr => ∃ (k m : Nat) (a' : Option Addr) (p' : Nat), k ≤ n ∧ m ≤ k ∧ i = .int .i64 k ∧ s = .slice a' m p' ∧ (holdsL (l.take k)).length = m ∧ wr.ownsRow w.heap.size 3 1 (.slice a' m p') m ((holdsL (l.take k)).map (Value.int .i64)) ∧ Below w.heap.size w wr) (fun _ i _ => n - (intOf i).toNat)
  case atStart => exact ⟨0, 0, none, 0, Nat.zero_le _, Nat.zero_le _, rfl, rfl, rfl, World.ownsRow_nil _ _ _ _, Below.refl _ _⟩
  case round =>
    obtain ⟨k, m, a', p', hk, hm, rfl, rfl, hs, how, hbl⟩ := hrel
    have HS := Lib.hid hs
    have HO := Lib.hid how
    have HBL := Lib.hid hbl
    have hzr : w.heap.size ≤ wr.heap.size := hbl.size
    clear hs hbl how
    by_cases hlt : k < n
    · have hi : (k : Int) < (n : Int) := by omega
      have hi1 : (0 : Int) ≤ (k : Int) := by omega
      obtain ⟨x, hx⟩ : ∃ x, l[k]? = some x := ⟨_, List.getElem?_eq_getElem (by have := HN.out; omega)⟩
      have HX := Lib.hid hx
      obtain ⟨b, off, rfl, hb0, c0, c1, c2, c3, c4, c5, c6, c7, c8, c9, c10, c11, c12, c13, c14, c15⟩ := (HL.out.below HBL.out).at hx
      clear hx
      have HB1 : Hid (∀ o, Below w.heap.size w (wr.alloc o)) := Lib.hid fun o => HBL.out.alloc hzr o
      have HT := Lib.hid (holds_take_succ HX.out)
      rcases (show (x.st = 2 ∧ 0 ≤ x.sk) ∨ (x.st = 2 ∧ x.sk < 0) ∨ (x.st ≠ 2) from by omega) with ⟨h, h'⟩ | ⟨h, h'⟩ | h
      · have HV : Hid (heldB x = true) := Lib.hid (by simp [heldB, h, h'])
        go_wp2_with (first
          | (at_builtin; refine wpList_append_own _ rfl (.tmp 19) (.tmp 22) 53 rfl w.heap.size 3 i0 (.int .i64 0) 1 8 Try.underlying53 hi0 hz0 hz1 hz2 rfl (by decide) (.slice a' m p') m _ rfl ((HO.out.alloc _).alloc _) ⟨wr.heap.size + 1, 0, none⟩ 1 1 [.int .i64 x.sk] rfl rfl ?c1 ?c2 ?c3 ?c4 ?c5 ?_))
        case c1 => intro j u hu; rw [Addr.add_lit, World.cell?_alloc_at _ _ _ _ (by simp), Nat.zero_add]; simpa using hu
        case c2 => intro u hu; simp at hu; subst hu; rfl
        case c3 => unfold maxLen; omega
        case c4 => omega
        case c5 => simp; omega
        intro v' w1 hown' hgrow _
        obtain ⟨a2, p2, rfl⟩ := (RdF.of_owns hown').shape
        have HO1 := Lib.hid hown'
        have hb1 : Below w.heap.size w w1 := ((HBL.out.alloc hzr _).alloc (by simp; omega) _).grown hgrow (by simp; omega) (fun j hj => ownBlock_ge HO.out hj)
        have HB2 := Lib.hid hb1
        clear hown' hgrow hb1 c0 c1 c2 c3 c4 c5 c6 c7 c8 c9 c10 c11 c12 c13 c14 c15
        go_wp2
        go_roundw
        case rel =>
          refine ⟨k + 1, m + 1, a2, p2, by omega, by omega, by go_num, rfl, ?_, ?_, HB2.out⟩
          · rw [HT.out, if_pos HV.out, List.length_append, HS.out]; rfl
          · rw [HT.out, if_pos HV.out, List.map_append]; exact HO1.out
        case measure => first | (simp [intOf]; done) | (simp [intOf]; omega)
      · have HV : Hid (¬ heldB x = true) := Lib.hid (by simp [heldB, h]; omega)
        have hd : decide (0 ≤ x.sk) = false := by simp; omega
        go_wp2_with fail
        go_roundw
        case rel => exact ⟨k + 1, m, a', p', by omega, by omega, by go_num, rfl, by rw [HT.out, if_neg HV.out, List.append_nil, HS.out], by rw [HT.out, if_neg HV.out, List.append_nil]; exact HO.out.alloc _, HB1.out _⟩
        case measure => first | (simp [intOf]; done) | (simp [intOf]; omega)
      · have HV : Hid (¬ heldB x = true) := Lib.hid (by simp [heldB, h])
        have e2 : (x.st == 2) = false := by simp [h]
        clear h
        go_wp2_with fail
        go_roundw
        case rel => exact ⟨k + 1, m, a', p', by omega, by omega, by go_num, rfl, by rw [HT.out, if_neg HV.out, List.append_nil, HS.out], by rw [HT.out, if_neg HV.out, List.append_nil]; exact HO.out.alloc _, HB1.out _⟩
        case measure => first | (simp [intOf]; done) | (simp [intOf]; omega)
    · have hi : ¬ (k : Int) < (n : Int) := by omega
      have : l.take k = l := List.take_of_length_le (by have := HN.out; omega)
      rw [this] at HS HO
      go_wp2
      go_ret
      exact ⟨a', p', m, rfl, HS.out.symm, HO.out, HBL.out⟩

theorem below_drewN' {w : World} (n : Nat) : Below w.heap.size w (w.drewN n) := below_drewN'' n
set_option maxHeartbeats 400000 in
/-- The same numbers: true. -/
theorem same14 (v u : Value) (l : List Int) (w : World) (hl : l.length ≤ 4611686018427387904) (hv : RdI w v l) (hu : RdI w u l) :
    Calls Try.prog 14 #[v, u] w fun r w' => r = .returned (.bool true) ∧ Below w.heap.size w w' := by
  rcases hv with ⟨rfl, a, c, rfl, -⟩ | ⟨hne, b1, o1, cap1, rfl, hc1, hlt1, hx1⟩
  · obtain ⟨a', c', rfl⟩ := hu.shape
    go_enter Try.func14, Try.ntmps14
    go_wp2
    refine wp_loop_rounds 1 ?_
    rw [rounds_succ]
    go_wp2
    go_ret
    exact ⟨rfl, Below.refl _ _⟩
  · rcases hu with ⟨h0, _⟩ | ⟨_, b2, o2, cap2, rfl, hc2, hlt2, hx2⟩
    · exact absurd h0 hne
    have H1 := Lib.hid hx1
    have H2 := Lib.hid hx2
    have HN := Lib.hid hne
    clear hx1 hx2 hne
    go_enter Try.func14, Try.ntmps14
    go_wp2
    go_loopw [5] (fun i wr => ∃ k : Nat, k ≤ l.length ∧ i = .int .i64 k ∧ ∃ m, wr = w.drewN m) (fun i _ => l.length - (intOf i).toNat)
    case atStart => exact ⟨0, Nat.zero_le _, rfl, 0, rfl⟩
    case round =>
      obtain ⟨k, hk, rfl, m, rfl⟩ := hrel
      by_cases hk' : k < l.length
      · obtain ⟨z, hz⟩ : ∃ z, l[k]? = some z := ⟨l[k], List.getElem?_eq_getElem hk'⟩
        have c1 := H1.out k z hz
        have c2 := H2.out k z hz
        clear hz
        have hi : (k : Int) < (l.length : Int) := by omega
        have hi0 : (0 : Int) ≤ (k : Int) := by omega
        go_wp2
        go_quiet (fail)
        go_wp2
        go_roundw
        case rel => exact ⟨k + 1, by omega, by go_num, _, rfl⟩
        case measure => simp [intOf]; omega
      · go_wp2
        go_ret
        exact ⟨rfl, below_drewN' m⟩

/-- A goroutine's duct's number. -/
def ofV (p w : Int) : Int := if p < 0 then -1 else p * 5 + w
set_option maxHeartbeats 400000 in
theorem of17 (p i : Int) (w : World) (h0 : 0 ≤ i) (h4 : i ≤ 4) (hp : p ≤ 1125899906842624) : Calls Try.prog 17 #[.int .i64 p, .int .i64 i] w fun r w' => r = .returned (.int .i64 (ofV p i)) ∧ w = w' := by
  have hi1 : decide (i < 0) = false := by simp; omega
  have hi2 : decide (5 ≤ i) = false := by simp; omega
  by_cases h : p < 0
  · have E : Hid (ofV p i = -1) := Lib.hid (by simp [ofV, h])
    go_enter Try.func17, Try.ntmps17
    go_wp2
    go_ret
    exact ⟨by rw [E.out]; rfl, rfl⟩
  · have E : Hid (ofV p i = p * 5 + i) := Lib.hid (by simp [ofV, h])
    have hd : decide (p < 0) = false := by simpa using h
    have h5 : 0 ≤ p := by omega
    clear h
    go_enter Try.func17, Try.ntmps17
    go_wp2
    go_ret
    exact ⟨by rw [E.out]; rfl, rfl⟩
set_option maxHeartbeats 400000 in
theorem of10 (p i : Int) (w : World) (h0 : 0 ≤ i) (h4 : i ≤ 4) (hp : p ≤ 1125899906842624) : Calls Try.prog 10 #[.int .i64 p, .int .i64 i] w fun r w' => r = .returned (.int .i64 (ofV p i)) ∧ w = w' := by
  have hi1 : decide (i < 0) = false := by simp; omega
  have hi2 : decide (5 ≤ i) = false := by simp; omega
  by_cases h : p < 0
  · have E : Hid (ofV p i = -1) := Lib.hid (by simp [ofV, h])
    go_enter Try.func10, Try.ntmps10
    go_wp2
    go_ret
    exact ⟨by rw [E.out]; rfl, rfl⟩
  · have E : Hid (ofV p i = 5 * p + i) := Lib.hid (by simp [ofV, h]; omega)
    have hd : decide (p < 0) = false := by simpa using h
    have h5 : 0 ≤ p := by omega
    clear h
    go_enter Try.func10, Try.ntmps10
    go_wp2
    go_ret
    exact ⟨by rw [E.out]; rfl, rfl⟩
end Go.Proofs.Ytfenloempdhknaa
