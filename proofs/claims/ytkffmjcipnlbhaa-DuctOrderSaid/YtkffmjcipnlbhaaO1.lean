
/- Walks of the seat of chapter 05: DuctOrder: the switch; something is put. -/
import Derived.Test.YtkffmjcipnlbhaaD16
import Derived.Deep.DeepCutAuto
import Derived.Deep.CutBlock
namespace Go.Proofs.Ytkffmjcipnlbhaa
open Go.RowKit
attribute [local go_sem ↓] Go.wp_at_zero Go.wp_at_succ
attribute [local go_sem] more_size cell_more_old frozen_more_old setCell_more_old more_drew drew_more old_alloc old_more old_drew old_setCell cell_alloc_old frozen_alloc_old setCell_alloc_old

/-- The block of number n in a function's code. -/
def findBlock (n : Nat) : Code → Option Code
  | .block m c => if m = n then some (.block m c) else findBlock n c
  | .seq a b => match findBlock n a with
    | some c => some c
    | none => findBlock n b
  | .loop c => findBlock n c
  | .scope c => findBlock n c
  | .cond _ a b => match findBlock n a with
    | some c => some c
    | none => findBlock n b
  | _ => none
noncomputable def swCode : Code := ((Try.f3.body.bind (findBlock 2)).getD .skip)

set_option maxRecDepth 100000 in
set_option maxHeartbeats 4000000 in
theorem sw_put_ok (size : Int) (b off n p b5 k : Nat) (ai ad : Option Addr) (pi pd : Nat) (m : Nat) (q : List Lt) (l : List Ac) (x : Lt) (w wr : World) (hfit : (m : Int) < size)
    (hs1 : 0 ≤ size) (hs2 : size ≤ 64) (hn : n ≤ 200) (HL : Hid (RdC w (.slice (some ⟨b, off, none⟩) n p) l)) (HX : Hid (l[k]? = some ⟨0, x⟩)) (HM : Hid (m = (q : List Lt).length)) (hms : ((m : Nat) : Int) ≤ size)
    (HOW : Hid (OwnO wr w.heap.size 32 6 (.slice ai m pi) m (ltCells q))) (H5 : Hid (wr.heap[b5]? = some (.cells #[.int .i64 size, .slice ad m pd, .bool false] 26))) (HRD : Hid (RdT wr (.slice ad m pd) q)) (HAP : Hid ((q : List Lt) ≠ [] → ∀ g g', ai = some g → ad = some g' → g.block ≠ g'.block)) (HBL : Hid (Below w.heap.size w wr)) (hz1' : w.heap.size ≤ b5)
    (v2 v3 v4 v6 v10 v11 v12 v13 v14 v15 v16 v17 v18 v19 v20 v21 v22 v23 v24 v25 v26 v27 v28 v29 v30 v31 v32 v33 v34 v35 v36 v37 v38 v39 v40 v41 v42 v43 v44 v45 v46 v48 v49 v50 v51 v52 v53 v54 v55 v56 v57 v58 v59 v60 v61 v62 v63 v64 v65 v66 v67 v68 v69 v70 v71 v72 v73 v74 v75 v76 v77 v78 v79 v80 v81 v82 v83 v84 v85 v86 v87 v88 v89 v90 v91 v92 v93 v94 v95 v96 v97 v98 v99 v100 v101 v102 v103 v104 v105 v106 v107 v108 v109 v110 v111 v112 v113 v114 v115 v116 v117 v118 v119 v120 v121 v122 v123 v124 v125 v126 v127 v128 v129 v130 v131 v132 v133 v134 v135 v136 v137 v138 v139 v140 v141 v142 v143 v144 v145 v146 v147 v148 v149 v150 v151 v152 v153 v154 v155 v156 v157 v158 v159 v160 v161 v162 v163 v164 v165 v166 v167 v168 v169 v170 v171 v172 v173 v174 v175 v176 v177 v178 v179 v180 v181 v182 v183 v184 v185 v186 v187 v188 v189 v190 v191 v192 v193 v194 : Value) (Q : Exit → Act → World → Prop)
    (hQ : ∀ (s7 s8 : Value) (u10 u11 u12 u13 u14 u15 u16 u17 u48 u49 u50 u51 u52 u53 u54 u55 u56 u57 u58 u59 u60 u61 u62 u63 u64 u65 u66 u67 u68 u69 u70 u71 u72 u73 u74 u75 u76 u77 u78 u79 u80 u81 u82 u83 u84 u85 u86 u87 u88 u89 u90 u91 u92 u93 u94 u95 u96 u97 u98 u99 u100 u101 u102 u103 u104 u105 u106 u107 u108 u109 u110 u111 u112 u113 u114 u115 u116 u117 u118 u119 u120 u121 u122 u123 u124 u125 u126 u127 u128 u129 u130 u131 u132 u133 u134 u135 u136 u137 u138 u139 u140 u141 u142 u143 u144 u145 u146 u147 u148 u149 u150 u151 u152 u153 u154 u155 u156 u157 u158 u159 u160 u161 u162 u163 u164 u165 u166 u167 u168 u169 u170 : Value) (wx : World), OrdS w b5 size s7 s8 wx → Q .normal ⟨#[.int .i64 size, .slice (some ⟨b, off, none⟩) n p, v2, v3, v4, .pointer (some ⟨b5, 0, none⟩), v6, s7, s8, .int .i64 (k : Int), u10, u11, u12, u13, u14, u15, u16, u17, v18, v19, v20, v21, v22, v23, v24, v25, v26, v27, v28, v29, v30, v31, v32, v33, v34, v35, v36, v37, v38, v39, v40, v41, v42, v43, v44, v45, v46, .int .i64 0, u48, u49, u50, u51, u52, u53, u54, u55, u56, u57, u58, u59, u60, u61, u62, u63, u64, u65, u66, u67, u68, u69, u70, u71, u72, u73, u74, u75, u76, u77, u78, u79, u80, u81, u82, u83, u84, u85, u86, u87, u88, u89, u90, u91, u92, u93, u94, u95, u96, u97, u98, u99, u100, u101, u102, u103, u104, u105, u106, u107, u108, u109, u110, u111, u112, u113, u114, u115, u116, u117, u118, u119, u120, u121, u122, u123, u124, u125, u126, u127, u128, u129, u130, u131, u132, u133, u134, u135, u136, u137, u138, u139, u140, u141, u142, u143, u144, u145, u146, u147, u148, u149, u150, u151, u152, u153, u154, u155, u156, u157, u158, u159, u160, u161, u162, u163, u164, u165, u166, u167, u168, u169, u170, v171, v172, v173, v174, v175, v176, v177, v178, v179, v180, v181, v182, v183, v184, v185, v186, v187, v188, v189, v190, v191, v192, v193, v194], []⟩ wx) :
    Code.wp Try.prog swCode Q ⟨#[.int .i64 size, .slice (some ⟨b, off, none⟩) n p, v2, v3, v4, .pointer (some ⟨b5, 0, none⟩), v6, .slice ai m pi, .bool false, .int .i64 (k : Int), v10, v11, v12, v13, v14, v15, v16, v17, v18, v19, v20, v21, v22, v23, v24, v25, v26, v27, v28, v29, v30, v31, v32, v33, v34, v35, v36, v37, v38, v39, v40, v41, v42, v43, v44, v45, v46, .int .i64 0, v48, v49, v50, v51, v52, v53, v54, v55, v56, v57, v58, v59, v60, v61, v62, v63, v64, v65, v66, v67, v68, v69, v70, v71, v72, v73, v74, v75, v76, v77, v78, v79, v80, v81, v82, v83, v84, v85, v86, v87, v88, v89, v90, v91, v92, v93, v94, v95, v96, v97, v98, v99, v100, v101, v102, v103, v104, v105, v106, v107, v108, v109, v110, v111, v112, v113, v114, v115, v116, v117, v118, v119, v120, v121, v122, v123, v124, v125, v126, v127, v128, v129, v130, v131, v132, v133, v134, v135, v136, v137, v138, v139, v140, v141, v142, v143, v144, v145, v146, v147, v148, v149, v150, v151, v152, v153, v154, v155, v156, v157, v158, v159, v160, v161, v162, v163, v164, v165, v166, v167, v168, v169, v170, v171, v172, v173, v174, v175, v176, v177, v178, v179, v180, v181, v182, v183, v184, v185, v186, v187, v188, v189, v190, v191, v192, v193, v194], []⟩ wr := by
  conv => arg 2; whnf
  have HQ := Lib.hid hQ
  clear hQ
  have k5 := H5.out
  have o5 := block_lt k5
  have q5 : Old wr b5 := o5
  have c5 := cell_block k5
  have f5 := free_block k5
  have hzr : w.heap.size ≤ wr.heap.size := HBL.out.size
  have hkn : k < n := by have h1 := (List.getElem?_eq_some_iff.1 HX.out).1; have h2 := HL.out.len; omega
  have hi : (k : Int) < (n : Int) := by omega
  have hi0' : (0 : Int) ≤ (k : Int) := by omega
  obtain ⟨i0, hi0, hz0, hz1, hz2⟩ := info_parts info32
  obtain ⟨b', off', he', hb0, g0, g1, g2, g3, g4, g5, g6⟩ := (HL.out.below HBL.out).at HX.out
  cases he'
  clear k5
  have hms0 := hms
  have h1c : ((1 : Nat) : Int) ≤ size - (m : Int) := by omega
  go_upto_region 13 with fail
  go_cut [10, 11] from 48 to 170 (fun s9 s10 wx => ∃ (B9 : Nat) (a3 : Option Addr) (p3 : Nat), s9 = .pointer (some ⟨B9, 0, none⟩) ∧ s10 = .int .i64 0 ∧ wx.heap[B9]? = some (.cells #[.int .i64 size, .slice a3 (m + 1) p3, .bool false] 26) ∧ RdT wx (.slice a3 (m + 1) p3) (q ++ [x]) ∧ FreshA wr.heap.size a3 ∧ wr.heap.size ≤ B9 ∧ Below wr.heap.size wr wx)
  case first =>
    go_region_held3 (fun w' => (∀ b o, b < (wr).heap.size → w'.cell? ⟨b, o, none⟩ = (wr).cell? ⟨b, o, none⟩) ∧ Below ((wr).heap.size) wr w') ((first | (with_reducible assumption) | (with_reducible exact cls_start) | (refine cls_of ?_; (repeat' (first | (with_reducible exact Below.refl _ _) | (with_reducible assumption) | (with_reducible refine Below.drew ?_) | (with_reducible refine Below.alloc ?_ ?_ _) | (with_reducible refine below_more ?_ ?_ _ _) | (with_reducible refine Below.setCell ?_ ?_ _) | (with_reducible refine Below.trans ?_ (Below.mono (by assumption) ?_)))) <;> first | omega | (simp; done) | (simp; omega) | (simp [more_size]; done) | (simp [more_size]; omega)))) (first
      | (go_at_call 9; refine (put9_okF size ad (some ⟨_, 0, none⟩) m pd 1 1 q [x] _ hs1 hs2 hms0 (HRD.out.rd.below (by (repeat' (first | (with_reducible exact Below.refl _ _) | (with_reducible assumption) | (with_reducible refine Below.drew ?_) | (with_reducible refine Below.alloc ?_ ?_ _) | (with_reducible refine below_more ?_ ?_ _ _) | (with_reducible refine Below.setCell ?_ ?_ _) | (with_reducible refine Below.trans ?_ (Below.mono (by assumption) ?_)))) <;> first | omega | (simp; done) | (simp; omega) | (simp [more_size]; done) | (simp [more_size]; omega))) (rdL_blk x (by (repeat' (first | (with_reducible assumption) | (with_reducible refine hm_new ?_; (first | rfl | (simp; done) | (simp [more_size]; done) | (simp [more_size]; omega))) | (with_reducible refine block_alloc ?_) | (with_reducible refine hm_more ?_) | (with_reducible refine hm_drew ?_))))) h1c).mono ?_; rintro e w' ⟨a3, p3, rfl, hr, hfr, hb⟩; have hB' : Below wr.heap.size wr w' := (by (repeat' (first | (with_reducible exact Below.refl _ _) | (with_reducible assumption) | (with_reducible refine Below.drew ?_) | (with_reducible refine Below.alloc ?_ ?_ _) | (with_reducible refine below_more ?_ ?_ _ _) | (with_reducible refine Below.setCell ?_ ?_ _) | (with_reducible refine Below.trans ?_ (Below.mono (by assumption) ?_)))) <;> first | omega | (simp; done) | (simp; omega) | (simp [more_size]; done) | (simp [more_size]; omega)); have hz' := hB'.size; have hz'' := hb.size; have hce := fun (b o : Nat) h => Below.cell (p := ⟨b, o, none⟩) hb h; have hfe := fun (b o : Nat) h => Below.frozen (p := ⟨b, o, none⟩) hb h))
    all_goals
      go_wp2_with fail
      go_meet
      refine ⟨_, a3, p3, rfl, rfl, ?_, ?_, ?_, ?_, ?_⟩
      · first
          | (((repeat' (first | (with_reducible assumption) | (with_reducible refine hm_new ?_; (first | rfl | (simp; done) | (simp [more_size]; done) | (simp [more_size]; omega))) | (with_reducible refine block_alloc ?_) | (with_reducible refine hm_more ?_) | (with_reducible refine hm_drew ?_)))); done)
          | (refine hm_drew ?_; refine st3 (c0 := .int .i64 0) (c1 := .slice none 0 0) (c2 := .bool false) (block_keep' hb ?_) _ _ _; ((repeat' (first | (with_reducible assumption) | (with_reducible refine hm_new ?_; (first | rfl | (simp; done) | (simp [more_size]; done) | (simp [more_size]; omega))) | (with_reducible refine block_alloc ?_) | (with_reducible refine hm_more ?_) | (with_reducible refine hm_drew ?_)))); done)
          | (refine st3 (c0 := .int .i64 0) (c1 := .slice none 0 0) (c2 := .bool false) (block_keep' hb ?_) _ _ _; ((repeat' (first | (with_reducible assumption) | (with_reducible refine hm_new ?_; (first | rfl | (simp; done) | (simp [more_size]; done) | (simp [more_size]; omega))) | (with_reducible refine block_alloc ?_) | (with_reducible refine hm_more ?_) | (with_reducible refine hm_drew ?_)))); done)
      · first
          | (refine RdT.below hr ?_; ((repeat' (first | (with_reducible exact Below.refl _ _) | (with_reducible assumption) | (with_reducible refine Below.drew ?_) | (with_reducible refine Below.alloc ?_ ?_ _) | (with_reducible refine below_more ?_ ?_ _ _) | (with_reducible refine Below.setCell ?_ ?_ _) | (with_reducible refine Below.trans ?_ (Below.mono (by assumption) ?_)))) <;> first | omega | (simp; done) | (simp; omega) | (simp [more_size]; done) | (simp [more_size]; omega)); done)
          | (refine RdT.drewT (RdT.set3 (cs := #[.int .i64 0, .slice none 0 0, .bool false]) (t := 26) (fr := (0, 0)) hr (block_keep' hb ?_) (by decide) _ _ _); ((repeat' (first | (with_reducible assumption) | (with_reducible refine hm_new ?_; (first | rfl | (simp; done) | (simp [more_size]; done) | (simp [more_size]; omega))) | (with_reducible refine block_alloc ?_) | (with_reducible refine hm_more ?_) | (with_reducible refine hm_drew ?_)))); done)
          | (refine RdT.set3 (cs := #[.int .i64 0, .slice none 0 0, .bool false]) (t := 26) (fr := (0, 0)) hr (block_keep' hb ?_) (by decide) _ _ _; ((repeat' (first | (with_reducible assumption) | (with_reducible refine hm_new ?_; (first | rfl | (simp; done) | (simp [more_size]; done) | (simp [more_size]; omega))) | (with_reducible refine block_alloc ?_) | (with_reducible refine hm_more ?_) | (with_reducible refine hm_drew ?_)))); done)
      · intro g hg; have := hfr g hg; first | omega | (simp at this; omega)
      · first | omega | (simp; done) | (simp; omega)
      · (repeat' (first | (with_reducible exact Below.refl _ _) | (with_reducible assumption) | (with_reducible refine Below.drew ?_) | (with_reducible refine Below.alloc ?_ ?_ _) | (with_reducible refine below_more ?_ ?_ _ _) | (with_reducible refine Below.setCell ?_ ?_ _) | (with_reducible refine Below.trans ?_ (Below.mono (by assumption) ?_)))) <;> first | omega | (simp; done) | (simp; omega) | (simp [more_size]; done) | (simp [more_size]; omega)
  case rest =>
    obtain ⟨B9, a3, p3, rfl, rfl, k9, hr9, hf9, h9, hb9⟩ := hcut
    have k5 := block_keep' hb9 H5.out
    have K9 := Lib.hid k9
    have KH5 := Lib.hid k5
    have HR9 := Lib.hid hr9
    have HF9 := Lib.hid hf9
    have HB9 := Lib.hid hb9
    have HO9 := Lib.hid (HOW.out.below hb9)
    have c9 := cell_block k9
    have o9 := block_lt k9
    have o5' := block_lt k5
    obtain ⟨b', off', he', hb0', d0, d1, d2, d3, d4, d5, d6⟩ := (HL.out.below (HBL.out.trans (hb9.mono hzr))).at HX.out
    cases he'
    have hzx : wr.heap.size ≤ wc.heap.size := hb9.size
    clear k9 k5 hr9 hf9 hb9 g0 g1 g2 g3 g4 g5 g6 c5 f5
    go_upto_region 19 with (first
      | (at_builtin; refine wpList_append_O rfl (.tmp 93) (.tmp 99) 24 rfl w.heap.size 32 i0 (.agg #[.int .i8 0, .int .i64 0, .int .i64 0, .int .i64 0, .string ⟨#[]⟩, .int .i64 0]) 6 56 Try.underlying24 hi0 hz0 hz1 hz2 rfl (.slice ai m pi) m _ rfl (HO9.out.below (by (repeat' (first | (with_reducible exact Below.refl _ _) | (with_reducible assumption) | (with_reducible refine Below.drew ?_) | (with_reducible refine Below.alloc ?_ ?_ _) | (with_reducible refine below_more ?_ ?_ _ _) | (with_reducible refine Below.setCell ?_ ?_ _) | (with_reducible refine Below.trans ?_ (Below.mono (by assumption) ?_)))) <;> first | omega | (simp; done) | (simp; omega) | (simp [more_size]; done) | (simp [more_size]; omega))) ⟨wc.heap.size, 0, none⟩ 1 1 (ltCells [x]) rfl rfl (news_alloc wc (ltCells [x]) 32) (ltCells_one [x]) (by decide) (by omega) (by omega) (by simp; omega) ?_; intro v7 w7 hown7 hgrow7 hat7))
    obtain ⟨a7, p7, rfl⟩ := hown7.shape
    have k5 := block_alloc (x := .cells (ltCells [x]).toArray 32) KH5.out
    have kO := HO9.out.below (w' := wc.alloc (.cells (ltCells [x]).toArray 32)) (by (repeat' (first | (with_reducible exact Below.refl _ _) | (with_reducible assumption) | (with_reducible refine Below.drew ?_) | (with_reducible refine Below.alloc ?_ ?_ _) | (with_reducible refine below_more ?_ ?_ _ _) | (with_reducible refine Below.setCell ?_ ?_ _) | (with_reducible refine Below.trans ?_ (Below.mono (by assumption) ?_)))) <;> first | omega | (simp; done) | (simp; omega) | (simp [more_size]; done) | (simp [more_size]; omega))
    have hrow5 := not_rowO k5 (by decide) kO
    have k57 := grown_block k5 hgrow7 hrow5
    have K5 := Lib.hid (st3 k57 (.int .i64 size) (.slice a3 (m + 1) p3) (.bool false))
    have KO := Lib.hid (hown7.set3 k57 (by decide) (.int .i64 size) (.slice a3 (m + 1) p3) (.bool false))
    have hne3 : q ++ [x] ≠ [] → ∀ g, a3 = some g → some g.block ≠ Value.ownBlock (.slice ai m pi) := fun _ g hg e => by
      have h1 := HF9.out g hg
      have h2 := HOW.out.lt e.symm
      omega
    have KR7 := (HR9.out.below (w' := wc.alloc (.cells (ltCells [x]).toArray 32)) (by (repeat' (first | (with_reducible exact Below.refl _ _) | (with_reducible assumption) | (with_reducible refine Below.drew ?_) | (with_reducible refine Below.alloc ?_ ?_ _) | (with_reducible refine below_more ?_ ?_ _ _) | (with_reducible refine Below.setCell ?_ ?_ _) | (with_reducible refine Below.trans ?_ (Below.mono (by assumption) ?_)))) <;> first | omega | (simp; done) | (simp; omega) | (simp [more_size]; done) | (simp [more_size]; omega))).grown hgrow7 hne3
    have KR := Lib.hid (KR7.set3 k57 (by decide) (.int .i64 size) (.slice a3 (m + 1) p3) (.bool false))
    have hb7 : Below w.heap.size w w7 := ((HBL.out.trans (HB9.out.mono hzr)).alloc (by omega) _).grown hgrow7 (by simp; omega) (fun j hj => HOW.out.ge hj)
    have KB := Lib.hid (((hb7.setCell (by exact hz1') (.int .i64 size) (p := ⟨b5, 0, none⟩)).setCell (by exact hz1') (.slice a3 (m + 1) p3) (p := ⟨b5, 1, none⟩)).setCell (by exact hz1') (.bool false) (p := ⟨b5, 2, none⟩))
    have KAP : Hid (q ++ [x] ≠ [] → ∀ g g', a7 = some g → a3 = some g' → g.block ≠ g'.block) := Lib.hid fun hne g g' h1 h2 e => by
      subst h1 h2
      have h3 := HF9.out g' rfl
      have h4 := HR9.out.lt hne
      rcases hat7 with h5 | h5
      · have h6 := HOW.out.lt (j := g.block) (by rw [← h5]; rfl)
        omega
      · have h6 : g.block = wc.heap.size + 1 := by simpa [Value.ownBlock] using h5
        omega
    have c9 := cell_block (grown_block (block_alloc (x := .cells (ltCells [x]).toArray 32) K9.out) hgrow7 (not_rowO (block_alloc K9.out) (by decide) kO))
    have f57 := free_block k57
    have c57 := cell_block k57
    have o57 := block_lt k57
    have HM1 : Hid (m + 1 = (q ++ [x]).length) := Lib.hid (by rw [List.length_append, ← HM.out]; rfl)
    have HMS1 : Hid (((m + 1 : Nat) : Int) ≤ size) := Lib.hid (by omega)
    have KO' : Hid (OwnO (((w7.setCell ⟨b5, 0, none⟩ (.int .i64 size)).setCell ⟨b5, 1, none⟩ (.slice a3 (m + 1) p3)).setCell ⟨b5, 2, none⟩ (.bool false)) w.heap.size 32 6 (.slice a7 (m + 1) p7) (m + 1) (ltCells (q ++ [x]))) := by rw [ltCells_app]; exact KO.out
    clear k5 kO hrow5 k57 KR7 hb7 hown7 hgrow7 hat7 hne3 KO
    go_wp2_with fail
    refine HQ.out _ _ _ _ _ _ _ _ _ _ _ _ _ _ _ _ _ _ _ _ _ _ _ _ _ _ _ _ _ _ _ _ _ _ _ _ _ _ _ _ _ _ _ _ _ _ _ _ _ _ _ _ _ _ _ _ _ _ _ _ _ _ _ _ _ _ _ _ _ _ _ _ _ _ _ _ _ _ _ _ _ _ _ _ _ _ _ _ _ _ _ _ _ _ _ _ _ _ _ _ _ _ _ _ _ _ _ _ _ _ _ _ _ _ _ _ _ _ _ _ _ _ _ _ _ _ _ _ _ _ _ _ _ _ ?_
    exact ⟨q ++ [x], m + 1, a7, a3, p7, p3, false, HM1.out, HMS1.out, rfl, rfl, KO'.out, K5.out, KR.out, KAP.out, KB.out⟩


set_option maxRecDepth 100000 in
set_option maxHeartbeats 4000000 in
theorem sw_put_full (size : Int) (b off n p b5 k : Nat) (ai ad : Option Addr) (pi pd : Nat) (m : Nat) (q : List Lt) (l : List Ac) (x : Lt) (w wr : World) (hfit : ¬ (m : Int) < size)
    (hs1 : 0 ≤ size) (hs2 : size ≤ 64) (hn : n ≤ 200) (HL : Hid (RdC w (.slice (some ⟨b, off, none⟩) n p) l)) (HX : Hid (l[k]? = some ⟨0, x⟩)) (HM : Hid (m = (q : List Lt).length)) (hms : ((m : Nat) : Int) ≤ size)
    (HOW : Hid (OwnO wr w.heap.size 32 6 (.slice ai m pi) m (ltCells q))) (H5 : Hid (wr.heap[b5]? = some (.cells #[.int .i64 size, .slice ad m pd, .bool false] 26))) (HRD : Hid (RdT wr (.slice ad m pd) q)) (HAP : Hid ((q : List Lt) ≠ [] → ∀ g g', ai = some g → ad = some g' → g.block ≠ g'.block)) (HBL : Hid (Below w.heap.size w wr)) (hz1' : w.heap.size ≤ b5)
    (v2 v3 v4 v6 v10 v11 v12 v13 v14 v15 v16 v17 v18 v19 v20 v21 v22 v23 v24 v25 v26 v27 v28 v29 v30 v31 v32 v33 v34 v35 v36 v37 v38 v39 v40 v41 v42 v43 v44 v45 v46 v48 v49 v50 v51 v52 v53 v54 v55 v56 v57 v58 v59 v60 v61 v62 v63 v64 v65 v66 v67 v68 v69 v70 v71 v72 v73 v74 v75 v76 v77 v78 v79 v80 v81 v82 v83 v84 v85 v86 v87 v88 v89 v90 v91 v92 v93 v94 v95 v96 v97 v98 v99 v100 v101 v102 v103 v104 v105 v106 v107 v108 v109 v110 v111 v112 v113 v114 v115 v116 v117 v118 v119 v120 v121 v122 v123 v124 v125 v126 v127 v128 v129 v130 v131 v132 v133 v134 v135 v136 v137 v138 v139 v140 v141 v142 v143 v144 v145 v146 v147 v148 v149 v150 v151 v152 v153 v154 v155 v156 v157 v158 v159 v160 v161 v162 v163 v164 v165 v166 v167 v168 v169 v170 v171 v172 v173 v174 v175 v176 v177 v178 v179 v180 v181 v182 v183 v184 v185 v186 v187 v188 v189 v190 v191 v192 v193 v194 : Value) (Q : Exit → Act → World → Prop)
    (hQ : ∀ (s7 s8 : Value) (u10 u11 u12 u13 u14 u15 u16 u17 u48 u49 u50 u51 u52 u53 u54 u55 u56 u57 u58 u59 u60 u61 u62 u63 u64 u65 u66 u67 u68 u69 u70 u71 u72 u73 u74 u75 u76 u77 u78 u79 u80 u81 u82 u83 u84 u85 u86 u87 u88 u89 u90 u91 u92 u93 u94 u95 u96 u97 u98 u99 u100 u101 u102 u103 u104 u105 u106 u107 u108 u109 u110 u111 u112 u113 u114 u115 u116 u117 u118 u119 u120 u121 u122 u123 u124 u125 u126 u127 u128 u129 u130 u131 u132 u133 u134 u135 u136 u137 u138 u139 u140 u141 u142 u143 u144 u145 u146 u147 u148 u149 u150 u151 u152 u153 u154 u155 u156 u157 u158 u159 u160 u161 u162 u163 u164 u165 u166 u167 u168 u169 u170 : Value) (wx : World), OrdS w b5 size s7 s8 wx → Q .normal ⟨#[.int .i64 size, .slice (some ⟨b, off, none⟩) n p, v2, v3, v4, .pointer (some ⟨b5, 0, none⟩), v6, s7, s8, .int .i64 (k : Int), u10, u11, u12, u13, u14, u15, u16, u17, v18, v19, v20, v21, v22, v23, v24, v25, v26, v27, v28, v29, v30, v31, v32, v33, v34, v35, v36, v37, v38, v39, v40, v41, v42, v43, v44, v45, v46, .int .i64 0, u48, u49, u50, u51, u52, u53, u54, u55, u56, u57, u58, u59, u60, u61, u62, u63, u64, u65, u66, u67, u68, u69, u70, u71, u72, u73, u74, u75, u76, u77, u78, u79, u80, u81, u82, u83, u84, u85, u86, u87, u88, u89, u90, u91, u92, u93, u94, u95, u96, u97, u98, u99, u100, u101, u102, u103, u104, u105, u106, u107, u108, u109, u110, u111, u112, u113, u114, u115, u116, u117, u118, u119, u120, u121, u122, u123, u124, u125, u126, u127, u128, u129, u130, u131, u132, u133, u134, u135, u136, u137, u138, u139, u140, u141, u142, u143, u144, u145, u146, u147, u148, u149, u150, u151, u152, u153, u154, u155, u156, u157, u158, u159, u160, u161, u162, u163, u164, u165, u166, u167, u168, u169, u170, v171, v172, v173, v174, v175, v176, v177, v178, v179, v180, v181, v182, v183, v184, v185, v186, v187, v188, v189, v190, v191, v192, v193, v194], []⟩ wx) :
    Code.wp Try.prog swCode Q ⟨#[.int .i64 size, .slice (some ⟨b, off, none⟩) n p, v2, v3, v4, .pointer (some ⟨b5, 0, none⟩), v6, .slice ai m pi, .bool false, .int .i64 (k : Int), v10, v11, v12, v13, v14, v15, v16, v17, v18, v19, v20, v21, v22, v23, v24, v25, v26, v27, v28, v29, v30, v31, v32, v33, v34, v35, v36, v37, v38, v39, v40, v41, v42, v43, v44, v45, v46, .int .i64 0, v48, v49, v50, v51, v52, v53, v54, v55, v56, v57, v58, v59, v60, v61, v62, v63, v64, v65, v66, v67, v68, v69, v70, v71, v72, v73, v74, v75, v76, v77, v78, v79, v80, v81, v82, v83, v84, v85, v86, v87, v88, v89, v90, v91, v92, v93, v94, v95, v96, v97, v98, v99, v100, v101, v102, v103, v104, v105, v106, v107, v108, v109, v110, v111, v112, v113, v114, v115, v116, v117, v118, v119, v120, v121, v122, v123, v124, v125, v126, v127, v128, v129, v130, v131, v132, v133, v134, v135, v136, v137, v138, v139, v140, v141, v142, v143, v144, v145, v146, v147, v148, v149, v150, v151, v152, v153, v154, v155, v156, v157, v158, v159, v160, v161, v162, v163, v164, v165, v166, v167, v168, v169, v170, v171, v172, v173, v174, v175, v176, v177, v178, v179, v180, v181, v182, v183, v184, v185, v186, v187, v188, v189, v190, v191, v192, v193, v194], []⟩ wr := by
  conv => arg 2; whnf
  have HQ := Lib.hid hQ
  clear hQ
  have k5 := H5.out
  have o5 := block_lt k5
  have q5 : Old wr b5 := o5
  have c5 := cell_block k5
  have f5 := free_block k5
  have hzr : w.heap.size ≤ wr.heap.size := HBL.out.size
  have hkn : k < n := by have h1 := (List.getElem?_eq_some_iff.1 HX.out).1; have h2 := HL.out.len; omega
  have hi : (k : Int) < (n : Int) := by omega
  have hi0' : (0 : Int) ≤ (k : Int) := by omega
  obtain ⟨i0, hi0, hz0, hz1, hz2⟩ := info_parts info32
  obtain ⟨b', off', he', hb0, g0, g1, g2, g3, g4, g5, g6⟩ := (HL.out.below HBL.out).at HX.out
  cases he'
  clear k5
  have hms0 := hms
  have hfull : size - (m : Int) < ((1 : Nat) : Int) := by omega
  have hnf : decide ((m : Int) < size) = false := by simp; omega
  go_upto_region 13 with fail
  go_cut [10, 11] from 48 to 170 (fun s9 s10 wx => ∃ B9 : Nat, s9 = .pointer (some ⟨B9, 0, none⟩) ∧ s10 = .int .i64 50 ∧ wx.heap[B9]? = some (.cells #[.int .i64 size, .slice ad m pd, .bool false] 26) ∧ wr.heap.size ≤ B9 ∧ Below wr.heap.size wr wx)
  case first =>
    go_region_held3 (fun w' => (∀ b o, b < (wr).heap.size → w'.cell? ⟨b, o, none⟩ = (wr).cell? ⟨b, o, none⟩) ∧ Below ((wr).heap.size) wr w') ((first | (with_reducible assumption) | (with_reducible exact cls_start) | (refine cls_of ?_; (repeat' (first | (with_reducible exact Below.refl _ _) | (with_reducible assumption) | (with_reducible refine Below.drew ?_) | (with_reducible refine Below.alloc ?_ ?_ _) | (with_reducible refine below_more ?_ ?_ _ _) | (with_reducible refine Below.setCell ?_ ?_ _) | (with_reducible refine Below.trans ?_ (Below.mono (by assumption) ?_)))) <;> first | omega | (simp; done) | (simp; omega) | (simp [more_size]; done) | (simp [more_size]; omega)))) (first
      | (go_at_call 9; refine (put9_full size ad (some ⟨_, 0, none⟩) m pd 1 1 q [x] _ hs1 hs2 hms0 (HRD.out.rd.below (by (repeat' (first | (with_reducible exact Below.refl _ _) | (with_reducible assumption) | (with_reducible refine Below.drew ?_) | (with_reducible refine Below.alloc ?_ ?_ _) | (with_reducible refine below_more ?_ ?_ _ _) | (with_reducible refine Below.setCell ?_ ?_ _) | (with_reducible refine Below.trans ?_ (Below.mono (by assumption) ?_)))) <;> first | omega | (simp; done) | (simp; omega) | (simp [more_size]; done) | (simp [more_size]; omega))) (rdL_blk x (by (repeat' (first | (with_reducible assumption) | (with_reducible refine hm_new ?_; (first | rfl | (simp; done) | (simp [more_size]; done) | (simp [more_size]; omega))) | (with_reducible refine block_alloc ?_) | (with_reducible refine hm_more ?_) | (with_reducible refine hm_drew ?_))))) hfull).mono ?_; rintro e w' ⟨rfl, hb⟩; have hB' : Below wr.heap.size wr w' := (by (repeat' (first | (with_reducible exact Below.refl _ _) | (with_reducible assumption) | (with_reducible refine Below.drew ?_) | (with_reducible refine Below.alloc ?_ ?_ _) | (with_reducible refine below_more ?_ ?_ _ _) | (with_reducible refine Below.setCell ?_ ?_ _) | (with_reducible refine Below.trans ?_ (Below.mono (by assumption) ?_)))) <;> first | omega | (simp; done) | (simp; omega) | (simp [more_size]; done) | (simp [more_size]; omega)); have hz' := hB'.size; have hz'' := hb.size; have hce := fun (b o : Nat) h => Below.cell (p := ⟨b, o, none⟩) hb h; have hfe := fun (b o : Nat) h => Below.frozen (p := ⟨b, o, none⟩) hb h))
    all_goals
      go_wp2_with fail
      go_meet
      refine ⟨_, rfl, rfl, ?_, ?_, ?_⟩
      · first
          | (((repeat' (first | (with_reducible assumption) | (with_reducible refine hm_new ?_; (first | rfl | (simp; done) | (simp [more_size]; done) | (simp [more_size]; omega))) | (with_reducible refine block_alloc ?_) | (with_reducible refine hm_more ?_) | (with_reducible refine hm_drew ?_)))); done)
          | (refine hm_drew ?_; refine st3 (c0 := .int .i64 0) (c1 := .slice none 0 0) (c2 := .bool false) (block_keep' hb ?_) _ _ _; ((repeat' (first | (with_reducible assumption) | (with_reducible refine hm_new ?_; (first | rfl | (simp; done) | (simp [more_size]; done) | (simp [more_size]; omega))) | (with_reducible refine block_alloc ?_) | (with_reducible refine hm_more ?_) | (with_reducible refine hm_drew ?_)))); done)
          | (refine st3 (c0 := .int .i64 0) (c1 := .slice none 0 0) (c2 := .bool false) (block_keep' hb ?_) _ _ _; ((repeat' (first | (with_reducible assumption) | (with_reducible refine hm_new ?_; (first | rfl | (simp; done) | (simp [more_size]; done) | (simp [more_size]; omega))) | (with_reducible refine block_alloc ?_) | (with_reducible refine hm_more ?_) | (with_reducible refine hm_drew ?_)))); done)
      · first | omega | (simp; done) | (simp; omega)
      · (repeat' (first | (with_reducible exact Below.refl _ _) | (with_reducible assumption) | (with_reducible refine Below.drew ?_) | (with_reducible refine Below.alloc ?_ ?_ _) | (with_reducible refine below_more ?_ ?_ _ _) | (with_reducible refine Below.setCell ?_ ?_ _) | (with_reducible refine Below.trans ?_ (Below.mono (by assumption) ?_)))) <;> first | omega | (simp; done) | (simp; omega) | (simp [more_size]; done) | (simp [more_size]; omega)
  case rest =>
    obtain ⟨B9, rfl, rfl, k9, h9, hb9⟩ := hcut
    have k5 := block_keep' hb9 H5.out
    have c9 := cell_block k9
    have o9 := block_lt k9
    have f5' := free_block k5
    have c5' := cell_block k5
    have o5' := block_lt k5
    have K5 := Lib.hid (st3 k5 (.int .i64 size) (.slice ad m pd) (.bool false))
    have KO := Lib.hid ((HOW.out.below hb9).set3 k5 (by decide) (.int .i64 size) (.slice ad m pd) (.bool false))
    have KR := Lib.hid ((HRD.out.below hb9).set3 k5 (by decide) (.int .i64 size) (.slice ad m pd) (.bool false))
    have KB := Lib.hid ((((HBL.out.trans (hb9.mono hzr)).setCell (by exact hz1') (.int .i64 size) (p := ⟨b5, 0, none⟩)).setCell (by exact hz1') (.slice ad m pd) (p := ⟨b5, 1, none⟩)).setCell (by exact hz1') (.bool false) (p := ⟨b5, 2, none⟩))
    clear k9 k5 hb9 g0 g1 g2 g3 g4 g5 g6 c5 f5
    go_wp2_with fail
    refine HQ.out _ _ _ _ _ _ _ _ _ _ _ _ _ _ _ _ _ _ _ _ _ _ _ _ _ _ _ _ _ _ _ _ _ _ _ _ _ _ _ _ _ _ _ _ _ _ _ _ _ _ _ _ _ _ _ _ _ _ _ _ _ _ _ _ _ _ _ _ _ _ _ _ _ _ _ _ _ _ _ _ _ _ _ _ _ _ _ _ _ _ _ _ _ _ _ _ _ _ _ _ _ _ _ _ _ _ _ _ _ _ _ _ _ _ _ _ _ _ _ _ _ _ _ _ _ _ _ _ _ _ _ _ _ _ ?_
    exact ⟨q, m, ai, ad, pi, pd, false, HM.out, hms, rfl, rfl, KO.out, K5.out, KR.out, HAP.out, KB.out⟩


set_option maxRecDepth 100000 in
set_option maxHeartbeats 4000000 in
theorem sw_put_shut (size : Int) (b off n p b5 k : Nat) (ai ad : Option Addr) (pi pd : Nat) (m : Nat) (q : List Lt) (l : List Ac) (x : Lt) (w wr : World) 
    (hs1 : 0 ≤ size) (hs2 : size ≤ 64) (hn : n ≤ 200) (HL : Hid (RdC w (.slice (some ⟨b, off, none⟩) n p) l)) (HX : Hid (l[k]? = some ⟨0, x⟩)) (HM : Hid (m = (q : List Lt).length)) (hms : ((m : Nat) : Int) ≤ size)
    (HOW : Hid (OwnO wr w.heap.size 32 6 (.slice ai m pi) m (ltCells q))) (H5 : Hid (wr.heap[b5]? = some (.cells #[.int .i64 size, .slice ad m pd, .bool true] 26))) (HRD : Hid (RdT wr (.slice ad m pd) q)) (HAP : Hid ((q : List Lt) ≠ [] → ∀ g g', ai = some g → ad = some g' → g.block ≠ g'.block)) (HBL : Hid (Below w.heap.size w wr)) (hz1' : w.heap.size ≤ b5)
    (v2 v3 v4 v6 v10 v11 v12 v13 v14 v15 v16 v17 v18 v19 v20 v21 v22 v23 v24 v25 v26 v27 v28 v29 v30 v31 v32 v33 v34 v35 v36 v37 v38 v39 v40 v41 v42 v43 v44 v45 v46 v48 v49 v50 v51 v52 v53 v54 v55 v56 v57 v58 v59 v60 v61 v62 v63 v64 v65 v66 v67 v68 v69 v70 v71 v72 v73 v74 v75 v76 v77 v78 v79 v80 v81 v82 v83 v84 v85 v86 v87 v88 v89 v90 v91 v92 v93 v94 v95 v96 v97 v98 v99 v100 v101 v102 v103 v104 v105 v106 v107 v108 v109 v110 v111 v112 v113 v114 v115 v116 v117 v118 v119 v120 v121 v122 v123 v124 v125 v126 v127 v128 v129 v130 v131 v132 v133 v134 v135 v136 v137 v138 v139 v140 v141 v142 v143 v144 v145 v146 v147 v148 v149 v150 v151 v152 v153 v154 v155 v156 v157 v158 v159 v160 v161 v162 v163 v164 v165 v166 v167 v168 v169 v170 v171 v172 v173 v174 v175 v176 v177 v178 v179 v180 v181 v182 v183 v184 v185 v186 v187 v188 v189 v190 v191 v192 v193 v194 : Value) (Q : Exit → Act → World → Prop)
    (hQ : ∀ (s7 s8 : Value) (u10 u11 u12 u13 u14 u15 u16 u17 u48 u49 u50 u51 u52 u53 u54 u55 u56 u57 u58 u59 u60 u61 u62 u63 u64 u65 u66 u67 u68 u69 u70 u71 u72 u73 u74 u75 u76 u77 u78 u79 u80 u81 u82 u83 u84 u85 u86 u87 u88 u89 u90 u91 u92 u93 u94 u95 u96 u97 u98 u99 u100 u101 u102 u103 u104 u105 u106 u107 u108 u109 u110 u111 u112 u113 u114 u115 u116 u117 u118 u119 u120 u121 u122 u123 u124 u125 u126 u127 u128 u129 u130 u131 u132 u133 u134 u135 u136 u137 u138 u139 u140 u141 u142 u143 u144 u145 u146 u147 u148 u149 u150 u151 u152 u153 u154 u155 u156 u157 u158 u159 u160 u161 u162 u163 u164 u165 u166 u167 u168 u169 u170 : Value) (wx : World), OrdS w b5 size s7 s8 wx → Q .normal ⟨#[.int .i64 size, .slice (some ⟨b, off, none⟩) n p, v2, v3, v4, .pointer (some ⟨b5, 0, none⟩), v6, s7, s8, .int .i64 (k : Int), u10, u11, u12, u13, u14, u15, u16, u17, v18, v19, v20, v21, v22, v23, v24, v25, v26, v27, v28, v29, v30, v31, v32, v33, v34, v35, v36, v37, v38, v39, v40, v41, v42, v43, v44, v45, v46, .int .i64 0, u48, u49, u50, u51, u52, u53, u54, u55, u56, u57, u58, u59, u60, u61, u62, u63, u64, u65, u66, u67, u68, u69, u70, u71, u72, u73, u74, u75, u76, u77, u78, u79, u80, u81, u82, u83, u84, u85, u86, u87, u88, u89, u90, u91, u92, u93, u94, u95, u96, u97, u98, u99, u100, u101, u102, u103, u104, u105, u106, u107, u108, u109, u110, u111, u112, u113, u114, u115, u116, u117, u118, u119, u120, u121, u122, u123, u124, u125, u126, u127, u128, u129, u130, u131, u132, u133, u134, u135, u136, u137, u138, u139, u140, u141, u142, u143, u144, u145, u146, u147, u148, u149, u150, u151, u152, u153, u154, u155, u156, u157, u158, u159, u160, u161, u162, u163, u164, u165, u166, u167, u168, u169, u170, v171, v172, v173, v174, v175, v176, v177, v178, v179, v180, v181, v182, v183, v184, v185, v186, v187, v188, v189, v190, v191, v192, v193, v194], []⟩ wx) :
    Code.wp Try.prog swCode Q ⟨#[.int .i64 size, .slice (some ⟨b, off, none⟩) n p, v2, v3, v4, .pointer (some ⟨b5, 0, none⟩), v6, .slice ai m pi, .bool true, .int .i64 (k : Int), v10, v11, v12, v13, v14, v15, v16, v17, v18, v19, v20, v21, v22, v23, v24, v25, v26, v27, v28, v29, v30, v31, v32, v33, v34, v35, v36, v37, v38, v39, v40, v41, v42, v43, v44, v45, v46, .int .i64 0, v48, v49, v50, v51, v52, v53, v54, v55, v56, v57, v58, v59, v60, v61, v62, v63, v64, v65, v66, v67, v68, v69, v70, v71, v72, v73, v74, v75, v76, v77, v78, v79, v80, v81, v82, v83, v84, v85, v86, v87, v88, v89, v90, v91, v92, v93, v94, v95, v96, v97, v98, v99, v100, v101, v102, v103, v104, v105, v106, v107, v108, v109, v110, v111, v112, v113, v114, v115, v116, v117, v118, v119, v120, v121, v122, v123, v124, v125, v126, v127, v128, v129, v130, v131, v132, v133, v134, v135, v136, v137, v138, v139, v140, v141, v142, v143, v144, v145, v146, v147, v148, v149, v150, v151, v152, v153, v154, v155, v156, v157, v158, v159, v160, v161, v162, v163, v164, v165, v166, v167, v168, v169, v170, v171, v172, v173, v174, v175, v176, v177, v178, v179, v180, v181, v182, v183, v184, v185, v186, v187, v188, v189, v190, v191, v192, v193, v194], []⟩ wr := by
  conv => arg 2; whnf
  have HQ := Lib.hid hQ
  clear hQ
  have k5 := H5.out
  have o5 := block_lt k5
  have q5 : Old wr b5 := o5
  have c5 := cell_block k5
  have f5 := free_block k5
  have hzr : w.heap.size ≤ wr.heap.size := HBL.out.size
  have hkn : k < n := by have h1 := (List.getElem?_eq_some_iff.1 HX.out).1; have h2 := HL.out.len; omega
  have hi : (k : Int) < (n : Int) := by omega
  have hi0' : (0 : Int) ≤ (k : Int) := by omega
  obtain ⟨i0, hi0, hz0, hz1, hz2⟩ := info_parts info32
  obtain ⟨b', off', he', hb0, g0, g1, g2, g3, g4, g5, g6⟩ := (HL.out.below HBL.out).at HX.out
  cases he'
  clear k5
  have hms0 := hms
  go_upto_region 13 with fail
  go_cut [10, 11] from 48 to 170 (fun s9 s10 wx => ∃ B9 : Nat, s9 = .pointer (some ⟨B9, 0, none⟩) ∧ s10 = .int .i64 52 ∧ wx.heap[B9]? = some (.cells #[.int .i64 size, .slice ad m pd, .bool true] 26) ∧ wr.heap.size ≤ B9 ∧ Below wr.heap.size wr wx)
  case first =>
    go_region_held3 (fun w' => (∀ b o, b < (wr).heap.size → w'.cell? ⟨b, o, none⟩ = (wr).cell? ⟨b, o, none⟩) ∧ Below ((wr).heap.size) wr w') ((first | (with_reducible assumption) | (with_reducible exact cls_start) | (refine cls_of ?_; (repeat' (first | (with_reducible exact Below.refl _ _) | (with_reducible assumption) | (with_reducible refine Below.drew ?_) | (with_reducible refine Below.alloc ?_ ?_ _) | (with_reducible refine below_more ?_ ?_ _ _) | (with_reducible refine Below.setCell ?_ ?_ _) | (with_reducible refine Below.trans ?_ (Below.mono (by assumption) ?_)))) <;> first | omega | (simp; done) | (simp; omega) | (simp [more_size]; done) | (simp [more_size]; omega)))) (first
      | (go_at_call 9; refine (put9_shut size ad (some ⟨_, 0, none⟩) m pd 1 1 q [x] _ hs1 hs2 hms0 (HRD.out.rd.below (by (repeat' (first | (with_reducible exact Below.refl _ _) | (with_reducible assumption) | (with_reducible refine Below.drew ?_) | (with_reducible refine Below.alloc ?_ ?_ _) | (with_reducible refine below_more ?_ ?_ _ _) | (with_reducible refine Below.setCell ?_ ?_ _) | (with_reducible refine Below.trans ?_ (Below.mono (by assumption) ?_)))) <;> first | omega | (simp; done) | (simp; omega) | (simp [more_size]; done) | (simp [more_size]; omega))) (rdL_blk x (by (repeat' (first | (with_reducible assumption) | (with_reducible refine hm_new ?_; (first | rfl | (simp; done) | (simp [more_size]; done) | (simp [more_size]; omega))) | (with_reducible refine block_alloc ?_) | (with_reducible refine hm_more ?_) | (with_reducible refine hm_drew ?_)))))).mono ?_; rintro e w' ⟨rfl, hb⟩; have hB' : Below wr.heap.size wr w' := (by (repeat' (first | (with_reducible exact Below.refl _ _) | (with_reducible assumption) | (with_reducible refine Below.drew ?_) | (with_reducible refine Below.alloc ?_ ?_ _) | (with_reducible refine below_more ?_ ?_ _ _) | (with_reducible refine Below.setCell ?_ ?_ _) | (with_reducible refine Below.trans ?_ (Below.mono (by assumption) ?_)))) <;> first | omega | (simp; done) | (simp; omega) | (simp [more_size]; done) | (simp [more_size]; omega)); have hz' := hB'.size; have hz'' := hb.size; have hce := fun (b o : Nat) h => Below.cell (p := ⟨b, o, none⟩) hb h; have hfe := fun (b o : Nat) h => Below.frozen (p := ⟨b, o, none⟩) hb h))
    all_goals
      go_wp2_with fail
      go_meet
      refine ⟨_, rfl, rfl, ?_, ?_, ?_⟩
      · first
          | (((repeat' (first | (with_reducible assumption) | (with_reducible refine hm_new ?_; (first | rfl | (simp; done) | (simp [more_size]; done) | (simp [more_size]; omega))) | (with_reducible refine block_alloc ?_) | (with_reducible refine hm_more ?_) | (with_reducible refine hm_drew ?_)))); done)
          | (refine hm_drew ?_; refine st3 (c0 := .int .i64 0) (c1 := .slice none 0 0) (c2 := .bool false) (block_keep' hb ?_) _ _ _; ((repeat' (first | (with_reducible assumption) | (with_reducible refine hm_new ?_; (first | rfl | (simp; done) | (simp [more_size]; done) | (simp [more_size]; omega))) | (with_reducible refine block_alloc ?_) | (with_reducible refine hm_more ?_) | (with_reducible refine hm_drew ?_)))); done)
          | (refine st3 (c0 := .int .i64 0) (c1 := .slice none 0 0) (c2 := .bool false) (block_keep' hb ?_) _ _ _; ((repeat' (first | (with_reducible assumption) | (with_reducible refine hm_new ?_; (first | rfl | (simp; done) | (simp [more_size]; done) | (simp [more_size]; omega))) | (with_reducible refine block_alloc ?_) | (with_reducible refine hm_more ?_) | (with_reducible refine hm_drew ?_)))); done)
      · first | omega | (simp; done) | (simp; omega)
      · (repeat' (first | (with_reducible exact Below.refl _ _) | (with_reducible assumption) | (with_reducible refine Below.drew ?_) | (with_reducible refine Below.alloc ?_ ?_ _) | (with_reducible refine below_more ?_ ?_ _ _) | (with_reducible refine Below.setCell ?_ ?_ _) | (with_reducible refine Below.trans ?_ (Below.mono (by assumption) ?_)))) <;> first | omega | (simp; done) | (simp; omega) | (simp [more_size]; done) | (simp [more_size]; omega)
  case rest =>
    obtain ⟨B9, rfl, rfl, k9, h9, hb9⟩ := hcut
    have k5 := block_keep' hb9 H5.out
    have c9 := cell_block k9
    have o9 := block_lt k9
    have f5' := free_block k5
    have c5' := cell_block k5
    have o5' := block_lt k5
    have K5 := Lib.hid (st3 k5 (.int .i64 size) (.slice ad m pd) (.bool true))
    have KO := Lib.hid ((HOW.out.below hb9).set3 k5 (by decide) (.int .i64 size) (.slice ad m pd) (.bool true))
    have KR := Lib.hid ((HRD.out.below hb9).set3 k5 (by decide) (.int .i64 size) (.slice ad m pd) (.bool true))
    have KB := Lib.hid ((((HBL.out.trans (hb9.mono hzr)).setCell (by exact hz1') (.int .i64 size) (p := ⟨b5, 0, none⟩)).setCell (by exact hz1') (.slice ad m pd) (p := ⟨b5, 1, none⟩)).setCell (by exact hz1') (.bool true) (p := ⟨b5, 2, none⟩))
    clear k9 k5 hb9 g0 g1 g2 g3 g4 g5 g6 c5 f5
    go_wp2_with fail
    refine HQ.out _ _ _ _ _ _ _ _ _ _ _ _ _ _ _ _ _ _ _ _ _ _ _ _ _ _ _ _ _ _ _ _ _ _ _ _ _ _ _ _ _ _ _ _ _ _ _ _ _ _ _ _ _ _ _ _ _ _ _ _ _ _ _ _ _ _ _ _ _ _ _ _ _ _ _ _ _ _ _ _ _ _ _ _ _ _ _ _ _ _ _ _ _ _ _ _ _ _ _ _ _ _ _ _ _ _ _ _ _ _ _ _ _ _ _ _ _ _ _ _ _ _ _ _ _ _ _ _ _ _ _ _ _ _ ?_
    exact ⟨q, m, ai, ad, pi, pd, true, HM.out, hms, rfl, rfl, KO.out, K5.out, KR.out, HAP.out, KB.out⟩

end Go.Proofs.Ytkffmjcipnlbhaa
