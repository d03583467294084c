
/- Walks of the seat of chapter 23: Join, the document's examples. -/
import Derived.Test.YtkpbohgadldpjaaA6
import Derived.WalkMore
namespace Go.Proofs.Ytkpbohgadldpjaa
open Go.RowKit
attribute [local go_sem ↓] Go.wp_at_zero Go.wp_at_succ
attribute [local go_sem] more_size cell_more_old frozen_more_old setCell_more_old more_drew drew_more old_alloc old_more old_drew old_setCell cell_alloc_old frozen_alloc_old setCell_alloc_old

/-- What joining comes to. -/
def joinL (most : Int) : List Int → List Int → List Int × Int
  | o, [] => (o, 0)
  | o, c :: cs => if c ∈ o then (o, 2) else if most ≤ (o.length : Int) then (o, 230) else joinL most (o ++ [c]) cs

theorem joinL_step {most : Int} {o cs : List Int} {k : Nat} {z : Int} (hz : cs[k]? = some z) :
    joinL most o (cs.drop k) = if z ∈ o then (o, 2) else if most ≤ (o.length : Int) then (o, 230) else joinL most (o ++ [z]) (cs.drop (k + 1)) := by
  have hk : k < cs.length := (List.getElem?_eq_some_iff.1 hz).1
  have hz' : cs[k] = z := (List.getElem?_eq_some_iff.1 hz).2
  rw [List.drop_eq_getElem_cons hk, hz', joinL]
theorem joinL_end {most : Int} {o cs : List Int} {k : Nat} (hk : cs.length ≤ k) : joinL most o (cs.drop k) = (o, 0) := by
  rw [List.drop_eq_nil_of_le hk, joinL]

set_option maxHeartbeats 2000000 in
theorem join13 (v u : Value) (l cs : List Int) (most : Int) (w : World) (hl : l.length ≤ 1000) (hcs : cs.length ≤ 1000) (h : RdI w v l) (hu : RdI w u cs) :
    Calls Try.prog 13 #[v, .int .i64 most, u] w fun r w' => ∃ v', r = .returned (.tuple #[v', .int .i64 (joinL most l cs).2]) ∧ w'.ownsRow w.heap.size 3 1 v' (joinL most l cs).1.length ((joinL most l cs).1.map (Value.int .i64)) ∧ Below w.heap.size w w' := by
  obtain ⟨i0, hi, hz0, hz1, hz2⟩ := info_parts info3
  obtain ⟨a, c, rfl, hx⟩ := rdI_cases hu
  have HX := Lib.hid hx
  have H := Lib.hid h
  clear hu hx h
  generalize hJ : joinL most l cs = J
  have HJ := Lib.hid hJ
  clear hJ
  go_enter Try.func13, Try.ntmps13
  go_wp2_with fail
  go_step3
  go_wp2_with fail
  refine (clone25 v l _ hl H.out).mono ?_
  rintro r w1 ⟨v1, rfl, hown, hb⟩
  have HO := Lib.hid hown
  have HB := Lib.hid hb
  clear hown hb
  go_wp2_with fail
  go_step3
  go_wp2_with fail
  go_loopw [6, 7, 14] (fun o e i wr => ∃ (k : Nat) (ol : List Int), k ≤ cs.length ∧ ol.length ≤ 1000 + k ∧ i = .int .i64 k ∧ e = .int .i64 0 ∧ joinL most ol (cs.drop k) = J ∧ wr.ownsRow w.heap.size 3 1 o ol.length (ol.map (Value.int .i64)) ∧ Below w.heap.size w wr)
    (fun _ _ i _ => cs.length - (intOf i).toNat)
  case atStart => exact ⟨0, l, Nat.zero_le _, by omega, rfl, rfl, HJ.out, HO.out, HB.out⟩
  case round =>
    obtain ⟨k, ol, hk, hol, rfl, rfl, hJk, hown, hbl⟩ := hrel
    have HJK := Lib.hid hJk
    have HO' := Lib.hid hown
    have HB' := Lib.hid hbl
    clear hJk hown hbl HO HB
    by_cases hk' : k < cs.length
    · obtain ⟨b, o, rfl, hb, hx⟩ := HX.out (fun e => by subst e; simp at hk')
      obtain ⟨z, hz⟩ : ∃ z, cs[k]? = some z := ⟨cs[k], List.getElem?_eq_getElem hk'⟩
      have hc : wr.cell? ⟨b, o + k, none⟩ = some (.int .i64 z) := (HB'.out.cell (p := ⟨b, o + k, none⟩) hb).trans (hx k z hz)
      have HS := Lib.hid (joinL_step (most := most) (o := ol) hz)
      clear hz hx HX
      by_cases hzo : z ∈ ol
      · have hE : Hid (J = (ol, 2)) := by show _ = _; rw [← HJK.out, HS.out, if_pos hzo]
        have hin : hasB ol z = true := by simpa [hasB] using hzo
        clear hzo
        go_wp2_with fail
        refine (contains28 _ ol z _ (by omega) (RdI.of_owns HO'.out)).mono ?_
        rintro r w2 ⟨rfl, rfl⟩
        go_wp2
        rw [Exit.noGoto_ret]
        go_ret2
        exact ⟨_, by rw [hE.out]; rfl, by rw [hE.out]; exact HO'.out, HB'.out⟩
      · have hin : hasB ol z = false := by simpa [hasB] using hzo
        by_cases hm : most ≤ (ol.length : Int)
        · have hE : Hid (J = (ol, 230)) := by show _ = _; rw [← HJK.out, HS.out, if_neg hzo, if_pos hm]
          clear hzo
          go_wp2_with fail
          refine (contains28 _ ol z _ (by omega) (RdI.of_owns HO'.out)).mono ?_
          rintro r w2 ⟨rfl, rfl⟩
          obtain ⟨a6, c6, rfl⟩ := (RdI.of_owns HO'.out).shape
          go_wp2
          rw [Exit.noGoto_ret]
          go_ret2
          exact ⟨_, by rw [hE.out]; rfl, by rw [hE.out]; exact HO'.out, HB'.out⟩
        · have hE : Hid (joinL most (ol ++ [z]) (cs.drop (k + 1)) = J) := by show _ = _; rw [← HJK.out, HS.out, if_neg hzo, if_neg hm]
          have hm' : (ol.length : Int) < most := by omega
          clear hzo hm
          go_wp2_with fail
          refine (contains28 _ ol z _ (by omega) (RdI.of_owns HO'.out)).mono ?_
          rintro r w2 ⟨rfl, rfl⟩
          obtain ⟨a6, c6, rfl⟩ := (RdI.of_owns HO'.out).shape
          have hown := HO'.out
          have hsz := HB'.out.size
          go_wp2_with (first
            | (at_builtin; refine wpList_append_own _ rfl _ _ 22 rfl w.heap.size 3 i0 (.int .i64 0) 1 8 Try.underlying22 hi hz0 hz1 hz2 rfl (by decide) _ _ _ rfl (hown.alloc _) ⟨wr.heap.size, 0, none⟩ 1 1 [.int .i64 z] rfl rfl ?c1 ?c2 ?c3 ?c4 ?c5 ?_))
          case c1 => exact news_alloc wr [.int .i64 z] 3
          case c2 => intro u hu; simp at hu; rcases hu with rfl; rfl
          case c3 => unfold maxLen; omega
          case c4 => omega
          case c5 => simp; omega
          intro v' w3 hown' hgrow _
          have hb3 : Below w.heap.size w w3 := (HB'.out.alloc hsz _).grown hgrow (by simp; omega) (fun j hj => ownBlock_ge hown hj)
          have hown3 : w3.ownsRow w.heap.size 3 1 v' (ol ++ [z]).length ((ol ++ [z]).map (Value.int .i64)) := by
            simpa using hown'
          clear hown' hgrow hown hc
          go_wp2
          go_roundw
          case rel => exact ⟨k + 1, ol ++ [z], by omega, by simp; omega, by go_num, rfl, hE.out, hown3, hb3⟩
          case measure => simp [intOf]; omega
    · have hE : Hid (J = (ol, 0)) := by show _ = _; rw [← HJK.out, joinL_end (by omega)]
      go_wp2
      rw [Exit.noGoto_ret]
      go_ret2
      exact ⟨_, by rw [hE.out]; rfl, by rw [hE.out]; exact HO'.out, HB'.out⟩
end Go.Proofs.Ytkpbohgadldpjaa
