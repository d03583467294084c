
/- Walks of seat 17: contracts that hold wherever a seeker stands. -/
import Derived.Test.YthmeilgfdfkacaaW7
namespace Go.Proofs.Ythmeilgfdfkacaa
open Go.RowKit
attribute [local go_sem ↓] Go.wp_at_zero Go.wp_at_succ
attribute [local go_sem] more_size cell_more_old frozen_more_old setCell_more_old more_drew drew_more old_alloc old_more old_drew old_setCell cell_alloc_old frozen_alloc_old setCell_alloc_old

def skV (s : Sk) : Array Value := #[.int .i64 s.id, .int .i64 s.nm, .string s.name, .int .i8 s.a, .int .i8 s.mkd, .int .i64 s.mf, .int .i64 s.mn, .int .i64 s.ms, .string s.mt, .int .i64 s.me]

/-- What a seeker's cases are: v, in the world w. -/
def OffersIs (w : World) (v : Value) (s : Sk) : Prop :=
  ((s.a < 0 ∨ 2 ≤ s.a) ∧ v = .slice none 0 0) ∨
  (s.a = 0 ∧ ∃ b, v = .slice (some ⟨b, 0, none⟩) 1 1 ∧ w.heap[b]? = some (.cells #[.int .i8 4, .int .i64 0, .int .i8 0, .int .i64 0, .int .i64 0, .int .i64 0, .string ⟨#[]⟩, .int .i64 0, .int .i64 0] 41)) ∨
  (s.a = 1 ∧ ∃ b, v = .slice (some ⟨b, 0, none⟩) 2 2 ∧ w.heap[b]? = some (.cells #[.int .i8 0, .int .i64 (ofV s.nm 0), .int .i8 s.mkd, .int .i64 s.mf, .int .i64 s.mn, .int .i64 s.ms, .string s.mt, .int .i64 s.me, .int .i64 0, .int .i8 1, .int .i64 (ofV s.nm 1), .int .i8 0, .int .i64 0, .int .i64 0, .int .i64 0, .string ⟨#[]⟩, .int .i64 0, .int .i64 0] 41))

theorem OffersIs.below {w w' : World} {v : Value} {s : Sk} (h : OffersIs w v s) (hb : Below w.heap.size w w') : OffersIs w' v s := by
  rcases h with h | ⟨ha, b, hv, hh⟩ | ⟨ha, b, hv, hh⟩
  · exact .inl h
  · exact .inr (.inl ⟨ha, b, hv, block_keep' hb hh⟩)
  · exact .inr (.inr ⟨ha, b, hv, block_keep' hb hh⟩)

theorem offers12_any (s : Sk) (w : World) (hp : s.nm ≤ 1099511627776) (hl : -128 ≤ s.a) (hu : s.a ≤ 127) :
    Calls Try.prog 12 #[.agg #[.int .i64 s.id, .int .i64 s.nm, .string s.name, .int .i8 s.a, .int .i8 s.mkd, .int .i64 s.mf, .int .i64 s.mn, .int .i64 s.ms, .string s.mt, .int .i64 s.me]] w fun r w' => ∃ v, r = .returned v ∧ OffersIs w' v s ∧ Below w.heap.size w w' := by
  obtain ⟨id, nm, a, mk, mf, mn, ms, me, name, mt⟩ := s
  simp only at hp hl hu ⊢
  rcases (show (a < 0 ∨ 2 ≤ a) ∨ a = 0 ∨ a = 1 from by omega) with h | rfl | rfl
  · exact (offers12_no _ _ _ _ _ _ _ _ _ _ _ hp hl hu h).mono fun r w' ⟨h1, h2⟩ => ⟨_, h1, .inl ⟨h, rfl⟩, h2⟩
  · exact (offers12_zero _ _ _ _ _ _ _ _ _ _ hp).mono fun r w' ⟨b, h1, h2, h3, h4⟩ => ⟨_, h1, .inr (.inl ⟨rfl, b, rfl, h2⟩), h4⟩
  · exact (offers12_one _ _ _ _ _ _ _ _ _ _ hp).mono fun r w' ⟨b, h1, h2, h3, h4⟩ => ⟨_, h1, .inr (.inr ⟨rfl, b, rfl, h2⟩), h4⟩
theorem offers13_any (s : Sk) (w : World) (hp : s.nm ≤ 1099511627776) :
    Calls Try.prog 13 #[.agg #[.int .i64 s.id, .int .i64 s.nm, .string s.name, .int .i8 s.a, .int .i8 s.mkd, .int .i64 s.mf, .int .i64 s.mn, .int .i64 s.ms, .string s.mt, .int .i64 s.me]] w fun r w' => ∃ v, r = .returned v ∧ OffersIs w' v s ∧ Below w.heap.size w w' := by
  obtain ⟨id, nm, a, mk, mf, mn, ms, me, name, mt⟩ := s
  simp only at hp ⊢
  rcases (show (a < 0 ∨ 2 ≤ a) ∨ a = 0 ∨ a = 1 from by omega) with h | rfl | rfl
  · exact (offers13_no _ _ _ _ _ _ _ _ _ _ _ h).mono fun r w' ⟨h1, h2⟩ => ⟨_, h1, .inl ⟨h, rfl⟩, h2⟩
  · exact (offers13_zero _ _ _ _ _ _ _ _ _ _ hp).mono fun r w' ⟨b, h1, h2, h3, h4⟩ => ⟨_, h1, .inr (.inl ⟨rfl, b, rfl, h2⟩), h4⟩
  · exact (offers13_one _ _ _ _ _ _ _ _ _ _ hp).mono fun r w' ⟨b, h1, h2, h3, h4⟩ => ⟨_, h1, .inr (.inr ⟨rfl, b, rfl, h2⟩), h4⟩

theorem below_drewN' {w : World} (n : Nat) : Below w.heap.size w (w.drewN n) := below_drewN (Below.refl _ _) n

theorem same11_any (s : Sk) (v1 v2 : Value) (w : World) (h1 : OffersIs w v1 s) (h2 : OffersIs w v2 s) :
    Calls Try.prog 11 #[v1, v2] w fun r w' => r = .returned (.bool true) ∧ Below w.heap.size w w' := by
  rcases h1 with ⟨ha, rfl⟩ | ⟨ha, b, rfl, hh⟩ | ⟨ha, b, rfl, hh⟩
  · rcases h2 with ⟨ha', rfl⟩ | ⟨ha', b', rfl, hh'⟩ | ⟨ha', b', rfl, hh'⟩
    · exact (same11_nil w).mono fun r w' ⟨h, m, hm⟩ => ⟨h, hm ▸ below_drewN' m⟩
    · omega
    · omega
  · rcases h2 with ⟨ha', rfl⟩ | ⟨ha', b', rfl, hh'⟩ | ⟨ha', b', rfl, hh'⟩
    · omega
    · have k1 := cell_block hh
      have k2 := cell_block hh'
      refine (same11 b b' 1 (fun _ => ⟨4, 0, 0, 0, 0, 0, 0, 0, ⟨#[]⟩⟩) w (by omega) (fun k hk => ?_) (fun k hk => ?_)).mono fun r w' ⟨h, m, hm⟩ => ⟨h, hm ▸ below_drewN' m⟩
      · obtain rfl : k = 0 := by omega
        simp [csAt, k1]
      · obtain rfl : k = 0 := by omega
        simp [csAt, k2]
    · omega
  · rcases h2 with ⟨ha', rfl⟩ | ⟨ha', b', rfl, hh'⟩ | ⟨ha', b', rfl, hh'⟩
    · omega
    · omega
    · have k1 := cell_block hh
      have k2 := cell_block hh'
      refine (same11 b b' 2 (fun k => if k = 0 then ⟨0, ofV s.nm 0, s.mkd, s.mf, s.mn, s.ms, s.me, 0, s.mt⟩ else ⟨1, ofV s.nm 1, 0, 0, 0, 0, 0, 0, ⟨#[]⟩⟩) w (by omega) (fun k hk => ?_) (fun k hk => ?_)).mono fun r w' ⟨h, m, hm⟩ => ⟨h, hm ▸ below_drewN' m⟩
      · rcases (show k = 0 ∨ k = 1 from by omega) with rfl | rfl <;> simp [csAt, k1]
      · rcases (show k = 0 ∨ k = 1 from by omega) with rfl | rfl <;> simp [csAt, k2]

/-- What comes of a case. -/
def tkS (s : Sk) (i : Int) (e : Int) (t : ByteArray) : Sk :=
  if s.a = 0 ∧ i = 0 then ⟨s.id, s.nm, 1, 7, s.id, 0, 0, e, s.name, toldText e t⟩
  else if s.a = 1 ∧ 0 ≤ i ∧ i < 2 then { s with a := 2 }
  else s

theorem take14_any (s : Sk) (i k f n sk e : Int) (t : ByteArray) (w : World) (hp : s.nm ≤ 1099511627776) (hl : -128 ≤ s.a) (hu : s.a ≤ 127) :
    Calls Try.prog 14 #[.agg #[.int .i64 s.id, .int .i64 s.nm, .string s.name, .int .i8 s.a, .int .i8 s.mkd, .int .i64 s.mf, .int .i64 s.mn, .int .i64 s.ms, .string s.mt, .int .i64 s.me], .int .i64 i, .agg #[.int .i8 k, .int .i64 f, .int .i64 n, .int .i64 sk, .string t, .int .i64 e]] w fun r w' =>
      r = .returned (.tuple #[.agg (skV (tkS s i e t)), .slice none 0 0]) ∧ Below w.heap.size w w' := by
  obtain ⟨id, nm, a, mk, mf, mn, ms, me, name, mt⟩ := s
  simp only at hp hl hu ⊢
  rcases (show (a < 0 ∨ 2 ≤ a) ∨ a = 0 ∨ a = 1 from by omega) with h | rfl | rfl
  · have e : tkS ⟨id, nm, a, mk, mf, mn, ms, me, name, mt⟩ i e t = ⟨id, nm, a, mk, mf, mn, ms, me, name, mt⟩ := by
      simp only [tkS]; rw [if_neg (by omega), if_neg (by omega)]
    rw [e]
    exact take14_no _ _ _ _ _ _ _ _ _ _ _ _ _ _ _ _ _ _ hp hl hu h
  · by_cases hi : i = 0
    · subst hi
      simpa [tkS, skV] using take14_told id nm mk mf mn ms me name mt k f n sk e t w hp
    · have e : tkS ⟨id, nm, 0, mk, mf, mn, ms, me, name, mt⟩ i e t = ⟨id, nm, 0, mk, mf, mn, ms, me, name, mt⟩ := by
        simp only [tkS]; rw [if_neg (by omega), if_neg (by omega)]
      rw [e]
      exact take14_zero_no _ _ _ _ _ _ _ _ _ _ _ _ _ _ _ _ _ hp (by omega)
  · by_cases hi : 0 ≤ i ∧ i < 2
    · have e : tkS ⟨id, nm, 1, mk, mf, mn, ms, me, name, mt⟩ i e t = ⟨id, nm, 2, mk, mf, mn, ms, me, name, mt⟩ := by
        simp only [tkS]; rw [if_neg (by omega), if_pos ⟨trivial, hi.1, hi.2⟩]
      rw [e]
      exact take14_ends _ _ _ _ _ _ _ _ _ _ _ _ _ _ _ _ _ hp hi.1 hi.2
    · have e : tkS ⟨id, nm, 1, mk, mf, mn, ms, me, name, mt⟩ i e t = ⟨id, nm, 1, mk, mf, mn, ms, me, name, mt⟩ := by
        simp only [tkS]; rw [if_neg (by omega), if_neg (by omega)]
      rw [e]
      exact take14_one_no _ _ _ _ _ _ _ _ _ _ _ _ _ _ _ _ _ hp (by omega)
theorem take15_any (s : Sk) (i k f n sk e : Int) (t : ByteArray) (w : World) (hp : s.nm ≤ 1099511627776) :
    Calls Try.prog 15 #[.agg #[.int .i64 s.id, .int .i64 s.nm, .string s.name, .int .i8 s.a, .int .i8 s.mkd, .int .i64 s.mf, .int .i64 s.mn, .int .i64 s.ms, .string s.mt, .int .i64 s.me], .int .i64 i, .agg #[.int .i8 k, .int .i64 f, .int .i64 n, .int .i64 sk, .string t, .int .i64 e]] w fun r w' =>
      r = .returned (.tuple #[.agg (skV (tkS s i e t)), .slice none 0 0]) ∧ Below w.heap.size w w' := by
  obtain ⟨id, nm, a, mk, mf, mn, ms, me, name, mt⟩ := s
  simp only at hp ⊢
  rcases (show (a < 0 ∨ 2 ≤ a) ∨ a = 0 ∨ a = 1 from by omega) with h | rfl | rfl
  · have e : tkS ⟨id, nm, a, mk, mf, mn, ms, me, name, mt⟩ i e t = ⟨id, nm, a, mk, mf, mn, ms, me, name, mt⟩ := by
      simp only [tkS]; rw [if_neg (by omega), if_neg (by omega)]
    rw [e]
    exact take15_no _ _ _ _ _ _ _ _ _ _ _ _ _ _ _ _ _ _ hp h
  · by_cases hi : i = 0
    · subst hi
      simpa [tkS, skV] using take15_told id nm mk mf mn ms me name mt k f n sk e t w hp
    · have e : tkS ⟨id, nm, 0, mk, mf, mn, ms, me, name, mt⟩ i e t = ⟨id, nm, 0, mk, mf, mn, ms, me, name, mt⟩ := by
        simp only [tkS]; rw [if_neg (by omega), if_neg (by omega)]
      rw [e]
      exact take15_zero_no _ _ _ _ _ _ _ _ _ _ _ _ _ _ _ _ _ hp (by omega)
  · by_cases hi : 0 ≤ i ∧ i < 2
    · have e : tkS ⟨id, nm, 1, mk, mf, mn, ms, me, name, mt⟩ i e t = ⟨id, nm, 2, mk, mf, mn, ms, me, name, mt⟩ := by
        simp only [tkS]; rw [if_neg (by omega), if_pos ⟨trivial, hi.1, hi.2⟩]
      rw [e]
      exact take15_ends _ _ _ _ _ _ _ _ _ _ _ _ _ _ _ _ _ hp hi.1 hi.2
    · have e : tkS ⟨id, nm, 1, mk, mf, mn, ms, me, name, mt⟩ i e t = ⟨id, nm, 1, mk, mf, mn, ms, me, name, mt⟩ := by
        simp only [tkS]; rw [if_neg (by omega), if_neg (by omega)]
      rw [e]
      exact take15_one_no _ _ _ _ _ _ _ _ _ _ _ _ _ _ _ _ _ hp (by omega)

theorem over16_one (s : Sk) (b : Nat) (w : World) (h : w.heap[b]? = some (.cells #[.int .i64 s.id, .int .i64 s.nm, .string s.name, .int .i8 s.a, .int .i8 s.mkd, .int .i64 s.mf, .int .i64 s.mn, .int .i64 s.ms, .string s.mt, .int .i64 s.me] 27)) (hp : s.nm ≤ 1099511627776) (hl : -128 ≤ s.a) (hu : s.a ≤ 127) :
    Calls Try.prog 16 #[.slice (some ⟨b, 0, none⟩) 1 1] w fun r w' => r = .returned (.bool (ovB s.a)) ∧ Below w.heap.size w w' := by
  have k := cell_block h
  refine (over16 b 1 (fun _ => s) w (block_lt h) (by omega) (fun j hj => ?_)).mono fun r w' ⟨h1, h2⟩ => ⟨by simpa [ovTo] using h1, h2⟩
  obtain rfl : j = 0 := by omega
  exact ⟨by simp [skAt, k], hp, hl, hu⟩
theorem over16_two (s q : Sk) (b : Nat) (w : World) (h : w.heap[b]? = some (.cells #[.int .i64 s.id, .int .i64 s.nm, .string s.name, .int .i8 s.a, .int .i8 s.mkd, .int .i64 s.mf, .int .i64 s.mn, .int .i64 s.ms, .string s.mt, .int .i64 s.me, .int .i64 q.id, .int .i64 q.nm, .string q.name, .int .i8 q.a, .int .i8 q.mkd, .int .i64 q.mf, .int .i64 q.mn, .int .i64 q.ms, .string q.mt, .int .i64 q.me] 27)) (hp : s.nm ≤ 1099511627776) (hl : -128 ≤ s.a) (hu : s.a ≤ 127) (hp' : q.nm ≤ 1099511627776) (hl' : -128 ≤ q.a) (hu' : q.a ≤ 127) :
    Calls Try.prog 16 #[.slice (some ⟨b, 0, none⟩) 2 2] w fun r w' => r = .returned (.bool (ovB s.a && ovB q.a)) ∧ Below w.heap.size w w' := by
  have k := cell_block h
  refine (over16 b 2 (fun j => if j = 0 then s else q) w (block_lt h) (by omega) (fun j hj => ?_)).mono fun r w' ⟨h1, h2⟩ => ⟨by simpa [ovTo] using h1, h2⟩
  rcases (show j = 0 ∨ j = 1 from by omega) with rfl | rfl
  · exact ⟨by simp [skAt, k], hp, hl, hu⟩
  · exact ⟨by simp [skAt, k], hp', hl', hu'⟩
theorem over17_two (s q : Sk) (b : Nat) (w : World) (h : w.heap[b]? = some (.cells #[.int .i64 s.id, .int .i64 s.nm, .string s.name, .int .i8 s.a, .int .i8 s.mkd, .int .i64 s.mf, .int .i64 s.mn, .int .i64 s.ms, .string s.mt, .int .i64 s.me, .int .i64 q.id, .int .i64 q.nm, .string q.name, .int .i8 q.a, .int .i8 q.mkd, .int .i64 q.mf, .int .i64 q.mn, .int .i64 q.ms, .string q.mt, .int .i64 q.me] 27)) (hp : s.nm ≤ 1099511627776) (hl : -128 ≤ s.a) (hu : s.a ≤ 127) (hp' : q.nm ≤ 1099511627776) (hl' : -128 ≤ q.a) (hu' : q.a ≤ 127) :
    Calls Try.prog 17 #[.slice (some ⟨b, 0, none⟩) 2 2] w fun r w' => r = .returned (.bool (ovB s.a && ovB q.a)) ∧ Below w.heap.size w w' := by
  have k := cell_block h
  refine (over17 b 2 (fun j => if j = 0 then s else q) w (block_lt h) (by omega) (fun j hj => ?_)).mono fun r w' ⟨h1, h2⟩ => ⟨by simpa [ovTo] using h1, h2⟩
  rcases (show j = 0 ∨ j = 1 from by omega) with rfl | rfl
  · exact ⟨by simp [skAt, k], hp, hl, hu⟩
  · exact ⟨by simp [skAt, k], hp', hl', hu'⟩
set_option maxHeartbeats 400000 in
theorem over16_none (w : World) : Calls Try.prog 16 #[.slice none 0 0] w fun r w' => r = .returned (.bool true) ∧ Below w.heap.size w w' := by
  go_enter Try.func16, Try.ntmps16
  go_wp2
  refine wp_loop_rounds 1 ?_
  rw [rounds_succ]
  go_wp2
  go_ret
  exact ⟨rfl, Below.refl _ _⟩
end Go.Proofs.Ythmeilgfdfkacaa
