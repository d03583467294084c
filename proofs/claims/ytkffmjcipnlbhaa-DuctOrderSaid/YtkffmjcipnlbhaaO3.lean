
/- Walks of the seat of chapter 05: DuctOrder: the duct is closed; nothing is done. -/
import Derived.Test.YtkffmjcipnlbhaaO1
import Derived.Deep.DeepCutAuto
import Derived.Deep.CutBlock
namespace Go.Proofs.Ytkffmjcipnlbhaa
open Go.RowKit
attribute [local go_sem ↓] Go.wp_at_zero Go.wp_at_succ
attribute [local go_sem] more_size cell_more_old frozen_more_old setCell_more_old more_drew drew_more old_alloc old_more old_drew old_setCell cell_alloc_old frozen_alloc_old setCell_alloc_old
set_option maxRecDepth 100000 in
set_option maxHeartbeats 4000000 in
theorem sw_close_open (size : Int) (b off n p b5 k : Nat) (ai ad : Option Addr) (pi pd : Nat) (m : Nat) (q : List Lt) (l : List Ac) (x : Lt) (w wr : World) 
    (hs1 : 0 ≤ size) (hs2 : size ≤ 64) (hn : n ≤ 200) (HL : Hid (RdC w (.slice (some ⟨b, off, none⟩) n p) l)) (HX : Hid (l[k]? = some ⟨2, x⟩)) (HM : Hid (m = (q : List Lt).length)) (hms : ((m : Nat) : Int) ≤ size)
    (HOW : Hid (OwnO wr w.heap.size 32 6 (.slice ai m pi) m (ltCells q))) (H5 : Hid (wr.heap[b5]? = some (.cells #[.int .i64 size, .slice ad m pd, .bool false] 26))) (HRD : Hid (RdT wr (.slice ad m pd) q)) (HAP : Hid ((q : List Lt) ≠ [] → ∀ g g', ai = some g → ad = some g' → g.block ≠ g'.block)) (HBL : Hid (Below w.heap.size w wr)) (hz1' : w.heap.size ≤ b5)
    (v2 v3 v4 v6 v10 v11 v12 v13 v14 v15 v16 v17 v18 v19 v20 v21 v22 v23 v24 v25 v26 v27 v28 v29 v30 v31 v32 v33 v34 v35 v36 v37 v38 v39 v40 v41 v42 v43 v44 v45 v46 v48 v49 v50 v51 v52 v53 v54 v55 v56 v57 v58 v59 v60 v61 v62 v63 v64 v65 v66 v67 v68 v69 v70 v71 v72 v73 v74 v75 v76 v77 v78 v79 v80 v81 v82 v83 v84 v85 v86 v87 v88 v89 v90 v91 v92 v93 v94 v95 v96 v97 v98 v99 v100 v101 v102 v103 v104 v105 v106 v107 v108 v109 v110 v111 v112 v113 v114 v115 v116 v117 v118 v119 v120 v121 v122 v123 v124 v125 v126 v127 v128 v129 v130 v131 v132 v133 v134 v135 v136 v137 v138 v139 v140 v141 v142 v143 v144 v145 v146 v147 v148 v149 v150 v151 v152 v153 v154 v155 v156 v157 v158 v159 v160 v161 v162 v163 v164 v165 v166 v167 v168 v169 v170 v171 v172 v173 v174 v175 v176 v177 v178 v179 v180 v181 v182 v183 v184 v185 v186 v187 v188 v189 v190 v191 v192 v193 v194 : Value) (Q : Exit → Act → World → Prop)
    (hQ : ∀ (s7 s8 : Value) (u10 u11 u12 u13 u14 u15 u16 u17 u48 u49 u50 u51 u52 u53 u54 u55 u56 u57 u58 u59 u60 u61 u62 u63 u64 u65 u66 u67 u68 u69 u70 u71 u72 u73 u74 u75 u76 u77 u78 u79 u80 u81 u82 u83 u84 u85 u86 u87 u88 u89 u90 u91 u92 u93 u94 u95 u96 u97 u98 u99 u100 u101 u102 u103 u104 u105 u106 u107 u108 u109 u110 u111 u112 u113 u114 u115 u116 u117 u118 u119 u120 u121 u122 u123 u124 u125 u126 u127 u128 u129 u130 u131 u132 u133 u134 u135 u136 u137 u138 u139 u140 u141 u142 u143 u144 u145 u146 u147 u148 u149 u150 u151 u152 u153 u154 u155 u156 u157 u158 u159 u160 u161 u162 u163 u164 u165 u166 u167 u168 u169 u170 : Value) (wx : World), OrdS w b5 size s7 s8 wx → Q .normal ⟨#[.int .i64 size, .slice (some ⟨b, off, none⟩) n p, v2, v3, v4, .pointer (some ⟨b5, 0, none⟩), v6, s7, s8, .int .i64 (k : Int), u10, u11, u12, u13, u14, u15, u16, u17, v18, v19, v20, v21, v22, v23, v24, v25, v26, v27, v28, v29, v30, v31, v32, v33, v34, v35, v36, v37, v38, v39, v40, v41, v42, v43, v44, v45, v46, .int .i64 2, u48, u49, u50, u51, u52, u53, u54, u55, u56, u57, u58, u59, u60, u61, u62, u63, u64, u65, u66, u67, u68, u69, u70, u71, u72, u73, u74, u75, u76, u77, u78, u79, u80, u81, u82, u83, u84, u85, u86, u87, u88, u89, u90, u91, u92, u93, u94, u95, u96, u97, u98, u99, u100, u101, u102, u103, u104, u105, u106, u107, u108, u109, u110, u111, u112, u113, u114, u115, u116, u117, u118, u119, u120, u121, u122, u123, u124, u125, u126, u127, u128, u129, u130, u131, u132, u133, u134, u135, u136, u137, u138, u139, u140, u141, u142, u143, u144, u145, u146, u147, u148, u149, u150, u151, u152, u153, u154, u155, u156, u157, u158, u159, u160, u161, u162, u163, u164, u165, u166, u167, u168, u169, u170, v171, v172, v173, v174, v175, v176, v177, v178, v179, v180, v181, v182, v183, v184, v185, v186, v187, v188, v189, v190, v191, v192, v193, v194], []⟩ wx) :
    Code.wp Try.prog swCode Q ⟨#[.int .i64 size, .slice (some ⟨b, off, none⟩) n p, v2, v3, v4, .pointer (some ⟨b5, 0, none⟩), v6, .slice ai m pi, .bool false, .int .i64 (k : Int), v10, v11, v12, v13, v14, v15, v16, v17, v18, v19, v20, v21, v22, v23, v24, v25, v26, v27, v28, v29, v30, v31, v32, v33, v34, v35, v36, v37, v38, v39, v40, v41, v42, v43, v44, v45, v46, .int .i64 2, v48, v49, v50, v51, v52, v53, v54, v55, v56, v57, v58, v59, v60, v61, v62, v63, v64, v65, v66, v67, v68, v69, v70, v71, v72, v73, v74, v75, v76, v77, v78, v79, v80, v81, v82, v83, v84, v85, v86, v87, v88, v89, v90, v91, v92, v93, v94, v95, v96, v97, v98, v99, v100, v101, v102, v103, v104, v105, v106, v107, v108, v109, v110, v111, v112, v113, v114, v115, v116, v117, v118, v119, v120, v121, v122, v123, v124, v125, v126, v127, v128, v129, v130, v131, v132, v133, v134, v135, v136, v137, v138, v139, v140, v141, v142, v143, v144, v145, v146, v147, v148, v149, v150, v151, v152, v153, v154, v155, v156, v157, v158, v159, v160, v161, v162, v163, v164, v165, v166, v167, v168, v169, v170, v171, v172, v173, v174, v175, v176, v177, v178, v179, v180, v181, v182, v183, v184, v185, v186, v187, v188, v189, v190, v191, v192, v193, v194], []⟩ wr := by
  conv => arg 2; whnf
  have HQ := Lib.hid hQ
  clear hQ
  have k5 := H5.out
  have o5 := block_lt k5
  have q5 : Old wr b5 := o5
  have c5 := cell_block k5
  have f5 := free_block k5
  have hzr : w.heap.size ≤ wr.heap.size := HBL.out.size
  have hkn : k < n := by have h1 := (List.getElem?_eq_some_iff.1 HX.out).1; have h2 := HL.out.len; omega
  have hi : (k : Int) < (n : Int) := by omega
  have hi0' : (0 : Int) ≤ (k : Int) := by omega
  obtain ⟨i0, hi0, hz0, hz1, hz2⟩ := info_parts info32
  obtain ⟨b', off', he', hb0, g0, g1, g2, g3, g4, g5, g6⟩ := (HL.out.below HBL.out).at HX.out
  cases he'
  clear k5
  have hms0 := hms
  go_wp2_with fail
  refine (close11_openF size ad m pd q _ hs1 hs2 hms0 HRD.out.rd).mono ?_
  rintro r w8 ⟨a3, p3, rfl, hr, hfr, hb⟩
  have k5 := block_keep' hb H5.out
  have how := HOW.out.below hb
  have hrd := hr
  have hbl := HBL.out.trans (hb.mono hzr)
  have hzz : w.heap.size ≤ w8.heap.size := hbl.size
  have o5' := block_lt k5
  have f5' := free_block k5
  have c5' := cell_block k5
  have q5' : Old w8 b5 := o5'
  have K5 := Lib.hid (block_alloc (x := .cells #[.int .i64 size, .slice a3 m p3, .bool true] 26) (st3 k5 (.int .i64 size) (.slice a3 m p3) (.bool true)))
  have KO := Lib.hid ((how.set3 k5 (by decide) (.int .i64 size) (.slice a3 m p3) (.bool true)).below (w' := (((w8.setCell ⟨b5, 0, none⟩ (.int .i64 size)).setCell ⟨b5, 1, none⟩ (.slice a3 m p3)).setCell ⟨b5, 2, none⟩ (.bool true)).alloc (.cells #[.int .i64 size, .slice a3 m p3, .bool true] 26)) ((Below.refl _ _).alloc (Nat.le_refl _) _))
  have KR := Lib.hid ((hrd.set3 k5 (by decide) (.int .i64 size) (.slice a3 m p3) (.bool true)).below (w' := (((w8.setCell ⟨b5, 0, none⟩ (.int .i64 size)).setCell ⟨b5, 1, none⟩ (.slice a3 m p3)).setCell ⟨b5, 2, none⟩ (.bool true)).alloc (.cells #[.int .i64 size, .slice a3 m p3, .bool true] 26)) ((Below.refl _ _).alloc (Nat.le_refl _) _))
  have KB := Lib.hid ((((hbl.setCell (by exact hz1') (.int .i64 size) (p := ⟨b5, 0, none⟩)).setCell (by exact hz1') (.slice a3 m p3) (p := ⟨b5, 1, none⟩)).setCell (by exact hz1') (.bool true) (p := ⟨b5, 2, none⟩)).alloc (by simp only [setCell_size]; exact hzz) (.cells #[.int .i64 size, .slice a3 m p3, .bool true] 26))
  have HFR := Lib.hid hfr
  have KAP : Hid (q ≠ [] → ∀ g g', ai = some g → a3 = some g' → g.block ≠ g'.block) := Lib.hid fun _ g g' h1 h2 e => by
    have h3 := HFR.out g' h2
    have h4 := HOW.out.lt (j := g.block) (by rw [h1]; rfl)
    omega
  clear hfr hr
  clear k5 how hrd hbl hb c5 f5 g0 g1 g2 g3 g4 g5 g6
  go_wp2_with fail
  refine HQ.out _ _ _ _ _ _ _ _ _ _ _ _ _ _ _ _ _ _ _ _ _ _ _ _ _ _ _ _ _ _ _ _ _ _ _ _ _ _ _ _ _ _ _ _ _ _ _ _ _ _ _ _ _ _ _ _ _ _ _ _ _ _ _ _ _ _ _ _ _ _ _ _ _ _ _ _ _ _ _ _ _ _ _ _ _ _ _ _ _ _ _ _ _ _ _ _ _ _ _ _ _ _ _ _ _ _ _ _ _ _ _ _ _ _ _ _ _ _ _ _ _ _ _ _ _ _ _ _ _ _ _ _ _ _ ?_
  exact ⟨q, m, ai, a3, pi, p3, true, HM.out, hms, rfl, rfl, KO.out, K5.out, KR.out, KAP.out, KB.out⟩


set_option maxRecDepth 100000 in
set_option maxHeartbeats 4000000 in
theorem sw_close_shut (size : Int) (b off n p b5 k : Nat) (ai ad : Option Addr) (pi pd : Nat) (m : Nat) (q : List Lt) (l : List Ac) (x : Lt) (w wr : World) 
    (hs1 : 0 ≤ size) (hs2 : size ≤ 64) (hn : n ≤ 200) (HL : Hid (RdC w (.slice (some ⟨b, off, none⟩) n p) l)) (HX : Hid (l[k]? = some ⟨2, x⟩)) (HM : Hid (m = (q : List Lt).length)) (hms : ((m : Nat) : Int) ≤ size)
    (HOW : Hid (OwnO wr w.heap.size 32 6 (.slice ai m pi) m (ltCells q))) (H5 : Hid (wr.heap[b5]? = some (.cells #[.int .i64 size, .slice ad m pd, .bool true] 26))) (HRD : Hid (RdT wr (.slice ad m pd) q)) (HAP : Hid ((q : List Lt) ≠ [] → ∀ g g', ai = some g → ad = some g' → g.block ≠ g'.block)) (HBL : Hid (Below w.heap.size w wr)) (hz1' : w.heap.size ≤ b5)
    (v2 v3 v4 v6 v10 v11 v12 v13 v14 v15 v16 v17 v18 v19 v20 v21 v22 v23 v24 v25 v26 v27 v28 v29 v30 v31 v32 v33 v34 v35 v36 v37 v38 v39 v40 v41 v42 v43 v44 v45 v46 v48 v49 v50 v51 v52 v53 v54 v55 v56 v57 v58 v59 v60 v61 v62 v63 v64 v65 v66 v67 v68 v69 v70 v71 v72 v73 v74 v75 v76 v77 v78 v79 v80 v81 v82 v83 v84 v85 v86 v87 v88 v89 v90 v91 v92 v93 v94 v95 v96 v97 v98 v99 v100 v101 v102 v103 v104 v105 v106 v107 v108 v109 v110 v111 v112 v113 v114 v115 v116 v117 v118 v119 v120 v121 v122 v123 v124 v125 v126 v127 v128 v129 v130 v131 v132 v133 v134 v135 v136 v137 v138 v139 v140 v141 v142 v143 v144 v145 v146 v147 v148 v149 v150 v151 v152 v153 v154 v155 v156 v157 v158 v159 v160 v161 v162 v163 v164 v165 v166 v167 v168 v169 v170 v171 v172 v173 v174 v175 v176 v177 v178 v179 v180 v181 v182 v183 v184 v185 v186 v187 v188 v189 v190 v191 v192 v193 v194 : Value) (Q : Exit → Act → World → Prop)
    (hQ : ∀ (s7 s8 : Value) (u10 u11 u12 u13 u14 u15 u16 u17 u48 u49 u50 u51 u52 u53 u54 u55 u56 u57 u58 u59 u60 u61 u62 u63 u64 u65 u66 u67 u68 u69 u70 u71 u72 u73 u74 u75 u76 u77 u78 u79 u80 u81 u82 u83 u84 u85 u86 u87 u88 u89 u90 u91 u92 u93 u94 u95 u96 u97 u98 u99 u100 u101 u102 u103 u104 u105 u106 u107 u108 u109 u110 u111 u112 u113 u114 u115 u116 u117 u118 u119 u120 u121 u122 u123 u124 u125 u126 u127 u128 u129 u130 u131 u132 u133 u134 u135 u136 u137 u138 u139 u140 u141 u142 u143 u144 u145 u146 u147 u148 u149 u150 u151 u152 u153 u154 u155 u156 u157 u158 u159 u160 u161 u162 u163 u164 u165 u166 u167 u168 u169 u170 : Value) (wx : World), OrdS w b5 size s7 s8 wx → Q .normal ⟨#[.int .i64 size, .slice (some ⟨b, off, none⟩) n p, v2, v3, v4, .pointer (some ⟨b5, 0, none⟩), v6, s7, s8, .int .i64 (k : Int), u10, u11, u12, u13, u14, u15, u16, u17, v18, v19, v20, v21, v22, v23, v24, v25, v26, v27, v28, v29, v30, v31, v32, v33, v34, v35, v36, v37, v38, v39, v40, v41, v42, v43, v44, v45, v46, .int .i64 2, u48, u49, u50, u51, u52, u53, u54, u55, u56, u57, u58, u59, u60, u61, u62, u63, u64, u65, u66, u67, u68, u69, u70, u71, u72, u73, u74, u75, u76, u77, u78, u79, u80, u81, u82, u83, u84, u85, u86, u87, u88, u89, u90, u91, u92, u93, u94, u95, u96, u97, u98, u99, u100, u101, u102, u103, u104, u105, u106, u107, u108, u109, u110, u111, u112, u113, u114, u115, u116, u117, u118, u119, u120, u121, u122, u123, u124, u125, u126, u127, u128, u129, u130, u131, u132, u133, u134, u135, u136, u137, u138, u139, u140, u141, u142, u143, u144, u145, u146, u147, u148, u149, u150, u151, u152, u153, u154, u155, u156, u157, u158, u159, u160, u161, u162, u163, u164, u165, u166, u167, u168, u169, u170, v171, v172, v173, v174, v175, v176, v177, v178, v179, v180, v181, v182, v183, v184, v185, v186, v187, v188, v189, v190, v191, v192, v193, v194], []⟩ wx) :
    Code.wp Try.prog swCode Q ⟨#[.int .i64 size, .slice (some ⟨b, off, none⟩) n p, v2, v3, v4, .pointer (some ⟨b5, 0, none⟩), v6, .slice ai m pi, .bool true, .int .i64 (k : Int), v10, v11, v12, v13, v14, v15, v16, v17, v18, v19, v20, v21, v22, v23, v24, v25, v26, v27, v28, v29, v30, v31, v32, v33, v34, v35, v36, v37, v38, v39, v40, v41, v42, v43, v44, v45, v46, .int .i64 2, v48, v49, v50, v51, v52, v53, v54, v55, v56, v57, v58, v59, v60, v61, v62, v63, v64, v65, v66, v67, v68, v69, v70, v71, v72, v73, v74, v75, v76, v77, v78, v79, v80, v81, v82, v83, v84, v85, v86, v87, v88, v89, v90, v91, v92, v93, v94, v95, v96, v97, v98, v99, v100, v101, v102, v103, v104, v105, v106, v107, v108, v109, v110, v111, v112, v113, v114, v115, v116, v117, v118, v119, v120, v121, v122, v123, v124, v125, v126, v127, v128, v129, v130, v131, v132, v133, v134, v135, v136, v137, v138, v139, v140, v141, v142, v143, v144, v145, v146, v147, v148, v149, v150, v151, v152, v153, v154, v155, v156, v157, v158, v159, v160, v161, v162, v163, v164, v165, v166, v167, v168, v169, v170, v171, v172, v173, v174, v175, v176, v177, v178, v179, v180, v181, v182, v183, v184, v185, v186, v187, v188, v189, v190, v191, v192, v193, v194], []⟩ wr := by
  conv => arg 2; whnf
  have HQ := Lib.hid hQ
  clear hQ
  have k5 := H5.out
  have o5 := block_lt k5
  have q5 : Old wr b5 := o5
  have c5 := cell_block k5
  have f5 := free_block k5
  have hzr : w.heap.size ≤ wr.heap.size := HBL.out.size
  have hkn : k < n := by have h1 := (List.getElem?_eq_some_iff.1 HX.out).1; have h2 := HL.out.len; omega
  have hi : (k : Int) < (n : Int) := by omega
  have hi0' : (0 : Int) ≤ (k : Int) := by omega
  obtain ⟨i0, hi0, hz0, hz1, hz2⟩ := info_parts info32
  obtain ⟨b', off', he', hb0, g0, g1, g2, g3, g4, g5, g6⟩ := (HL.out.below HBL.out).at HX.out
  cases he'
  clear k5
  have hms0 := hms
  go_wp2_with fail
  refine (close11_shut size ad m pd q _ hs1 hs2 hms0 HRD.out.rd).mono ?_
  rintro r w8 ⟨rfl, hb⟩
  have k5 := block_keep' hb H5.out
  have how := HOW.out.below hb
  have hrd := HRD.out.below hb
  have hbl := HBL.out.trans (hb.mono hzr)
  have hzz : w.heap.size ≤ w8.heap.size := hbl.size
  have o5' := block_lt k5
  have f5' := free_block k5
  have c5' := cell_block k5
  have q5' : Old w8 b5 := o5'
  have K5 := Lib.hid (block_alloc (x := .cells #[.int .i64 size, .slice ad m pd, .bool true] 26) (st3 k5 (.int .i64 size) (.slice ad m pd) (.bool true)))
  have KO := Lib.hid ((how.set3 k5 (by decide) (.int .i64 size) (.slice ad m pd) (.bool true)).below (w' := (((w8.setCell ⟨b5, 0, none⟩ (.int .i64 size)).setCell ⟨b5, 1, none⟩ (.slice ad m pd)).setCell ⟨b5, 2, none⟩ (.bool true)).alloc (.cells #[.int .i64 size, .slice ad m pd, .bool true] 26)) ((Below.refl _ _).alloc (Nat.le_refl _) _))
  have KR := Lib.hid ((hrd.set3 k5 (by decide) (.int .i64 size) (.slice ad m pd) (.bool true)).below (w' := (((w8.setCell ⟨b5, 0, none⟩ (.int .i64 size)).setCell ⟨b5, 1, none⟩ (.slice ad m pd)).setCell ⟨b5, 2, none⟩ (.bool true)).alloc (.cells #[.int .i64 size, .slice ad m pd, .bool true] 26)) ((Below.refl _ _).alloc (Nat.le_refl _) _))
  have KB := Lib.hid ((((hbl.setCell (by exact hz1') (.int .i64 size) (p := ⟨b5, 0, none⟩)).setCell (by exact hz1') (.slice ad m pd) (p := ⟨b5, 1, none⟩)).setCell (by exact hz1') (.bool true) (p := ⟨b5, 2, none⟩)).alloc (by simp only [setCell_size]; exact hzz) (.cells #[.int .i64 size, .slice ad m pd, .bool true] 26))
  have KAP := HAP
  clear k5 how hrd hbl hb c5 f5 g0 g1 g2 g3 g4 g5 g6
  go_wp2_with fail
  refine HQ.out _ _ _ _ _ _ _ _ _ _ _ _ _ _ _ _ _ _ _ _ _ _ _ _ _ _ _ _ _ _ _ _ _ _ _ _ _ _ _ _ _ _ _ _ _ _ _ _ _ _ _ _ _ _ _ _ _ _ _ _ _ _ _ _ _ _ _ _ _ _ _ _ _ _ _ _ _ _ _ _ _ _ _ _ _ _ _ _ _ _ _ _ _ _ _ _ _ _ _ _ _ _ _ _ _ _ _ _ _ _ _ _ _ _ _ _ _ _ _ _ _ _ _ _ _ _ _ _ _ _ _ _ _ _ ?_
  exact ⟨q, m, ai, ad, pi, pd, true, HM.out, hms, rfl, rfl, KO.out, K5.out, KR.out, KAP.out, KB.out⟩


set_option maxRecDepth 100000 in
set_option maxHeartbeats 4000000 in
theorem sw_other (size : Int) (b off n p b5 k : Nat) (ai ad : Option Addr) (pi pd : Nat) (m : Nat) (q : List Lt) (cl : Bool) (dx : Int) (l : List Ac) (x : Lt) (w wr : World) (hd0 : dx ≠ 0) (hd1 : dx ≠ 1) (hd2 : dx ≠ 2)
    (hs1 : 0 ≤ size) (hs2 : size ≤ 64) (hn : n ≤ 200) (HL : Hid (RdC w (.slice (some ⟨b, off, none⟩) n p) l)) (HX : Hid (l[k]? = some ⟨dx, x⟩)) (HM : Hid (m = (q : List Lt).length)) (hms : ((m : Nat) : Int) ≤ size)
    (HOW : Hid (OwnO wr w.heap.size 32 6 (.slice ai m pi) m (ltCells q))) (H5 : Hid (wr.heap[b5]? = some (.cells #[.int .i64 size, .slice ad m pd, .bool cl] 26))) (HRD : Hid (RdT wr (.slice ad m pd) q)) (HAP : Hid ((q : List Lt) ≠ [] → ∀ g g', ai = some g → ad = some g' → g.block ≠ g'.block)) (HBL : Hid (Below w.heap.size w wr)) (hz1' : w.heap.size ≤ b5)
    (v2 v3 v4 v6 v10 v11 v12 v13 v14 v15 v16 v17 v18 v19 v20 v21 v22 v23 v24 v25 v26 v27 v28 v29 v30 v31 v32 v33 v34 v35 v36 v37 v38 v39 v40 v41 v42 v43 v44 v45 v46 v48 v49 v50 v51 v52 v53 v54 v55 v56 v57 v58 v59 v60 v61 v62 v63 v64 v65 v66 v67 v68 v69 v70 v71 v72 v73 v74 v75 v76 v77 v78 v79 v80 v81 v82 v83 v84 v85 v86 v87 v88 v89 v90 v91 v92 v93 v94 v95 v96 v97 v98 v99 v100 v101 v102 v103 v104 v105 v106 v107 v108 v109 v110 v111 v112 v113 v114 v115 v116 v117 v118 v119 v120 v121 v122 v123 v124 v125 v126 v127 v128 v129 v130 v131 v132 v133 v134 v135 v136 v137 v138 v139 v140 v141 v142 v143 v144 v145 v146 v147 v148 v149 v150 v151 v152 v153 v154 v155 v156 v157 v158 v159 v160 v161 v162 v163 v164 v165 v166 v167 v168 v169 v170 v171 v172 v173 v174 v175 v176 v177 v178 v179 v180 v181 v182 v183 v184 v185 v186 v187 v188 v189 v190 v191 v192 v193 v194 : Value) (Q : Exit → Act → World → Prop)
    (hQ : ∀ (s7 s8 : Value) (u10 u11 u12 u13 u14 u15 u16 u17 u48 u49 u50 u51 u52 u53 u54 u55 u56 u57 u58 u59 u60 u61 u62 u63 u64 u65 u66 u67 u68 u69 u70 u71 u72 u73 u74 u75 u76 u77 u78 u79 u80 u81 u82 u83 u84 u85 u86 u87 u88 u89 u90 u91 u92 u93 u94 u95 u96 u97 u98 u99 u100 u101 u102 u103 u104 u105 u106 u107 u108 u109 u110 u111 u112 u113 u114 u115 u116 u117 u118 u119 u120 u121 u122 u123 u124 u125 u126 u127 u128 u129 u130 u131 u132 u133 u134 u135 u136 u137 u138 u139 u140 u141 u142 u143 u144 u145 u146 u147 u148 u149 u150 u151 u152 u153 u154 u155 u156 u157 u158 u159 u160 u161 u162 u163 u164 u165 u166 u167 u168 u169 u170 : Value) (wx : World), OrdS w b5 size s7 s8 wx → Q .normal ⟨#[.int .i64 size, .slice (some ⟨b, off, none⟩) n p, v2, v3, v4, .pointer (some ⟨b5, 0, none⟩), v6, s7, s8, .int .i64 (k : Int), u10, u11, u12, u13, u14, u15, u16, u17, v18, v19, v20, v21, v22, v23, v24, v25, v26, v27, v28, v29, v30, v31, v32, v33, v34, v35, v36, v37, v38, v39, v40, v41, v42, v43, v44, v45, v46, .int .i64 dx, u48, u49, u50, u51, u52, u53, u54, u55, u56, u57, u58, u59, u60, u61, u62, u63, u64, u65, u66, u67, u68, u69, u70, u71, u72, u73, u74, u75, u76, u77, u78, u79, u80, u81, u82, u83, u84, u85, u86, u87, u88, u89, u90, u91, u92, u93, u94, u95, u96, u97, u98, u99, u100, u101, u102, u103, u104, u105, u106, u107, u108, u109, u110, u111, u112, u113, u114, u115, u116, u117, u118, u119, u120, u121, u122, u123, u124, u125, u126, u127, u128, u129, u130, u131, u132, u133, u134, u135, u136, u137, u138, u139, u140, u141, u142, u143, u144, u145, u146, u147, u148, u149, u150, u151, u152, u153, u154, u155, u156, u157, u158, u159, u160, u161, u162, u163, u164, u165, u166, u167, u168, u169, u170, v171, v172, v173, v174, v175, v176, v177, v178, v179, v180, v181, v182, v183, v184, v185, v186, v187, v188, v189, v190, v191, v192, v193, v194], []⟩ wx) :
    Code.wp Try.prog swCode Q ⟨#[.int .i64 size, .slice (some ⟨b, off, none⟩) n p, v2, v3, v4, .pointer (some ⟨b5, 0, none⟩), v6, .slice ai m pi, .bool cl, .int .i64 (k : Int), v10, v11, v12, v13, v14, v15, v16, v17, v18, v19, v20, v21, v22, v23, v24, v25, v26, v27, v28, v29, v30, v31, v32, v33, v34, v35, v36, v37, v38, v39, v40, v41, v42, v43, v44, v45, v46, .int .i64 dx, v48, v49, v50, v51, v52, v53, v54, v55, v56, v57, v58, v59, v60, v61, v62, v63, v64, v65, v66, v67, v68, v69, v70, v71, v72, v73, v74, v75, v76, v77, v78, v79, v80, v81, v82, v83, v84, v85, v86, v87, v88, v89, v90, v91, v92, v93, v94, v95, v96, v97, v98, v99, v100, v101, v102, v103, v104, v105, v106, v107, v108, v109, v110, v111, v112, v113, v114, v115, v116, v117, v118, v119, v120, v121, v122, v123, v124, v125, v126, v127, v128, v129, v130, v131, v132, v133, v134, v135, v136, v137, v138, v139, v140, v141, v142, v143, v144, v145, v146, v147, v148, v149, v150, v151, v152, v153, v154, v155, v156, v157, v158, v159, v160, v161, v162, v163, v164, v165, v166, v167, v168, v169, v170, v171, v172, v173, v174, v175, v176, v177, v178, v179, v180, v181, v182, v183, v184, v185, v186, v187, v188, v189, v190, v191, v192, v193, v194], []⟩ wr := by
  conv => arg 2; whnf
  have HQ := Lib.hid hQ
  clear hQ
  have k5 := H5.out
  have o5 := block_lt k5
  have q5 : Old wr b5 := o5
  have c5 := cell_block k5
  have f5 := free_block k5
  have hzr : w.heap.size ≤ wr.heap.size := HBL.out.size
  have hkn : k < n := by have h1 := (List.getElem?_eq_some_iff.1 HX.out).1; have h2 := HL.out.len; omega
  have hi : (k : Int) < (n : Int) := by omega
  have hi0' : (0 : Int) ≤ (k : Int) := by omega
  obtain ⟨i0, hi0, hz0, hz1, hz2⟩ := info_parts info32
  obtain ⟨b', off', he', hb0, g0, g1, g2, g3, g4, g5, g6⟩ := (HL.out.below HBL.out).at HX.out
  cases he'
  clear k5
  have hms0 := hms
  have e0 : (dx == 0) = false := by simp [hd0]
  have e1 : (dx == 1) = false := by simp [hd1]
  have e2 : (dx == 2) = false := by simp [hd2]
  clear hd0 hd1 hd2
  go_wp2_with fail
  refine HQ.out _ _ _ _ _ _ _ _ _ _ _ _ _ _ _ _ _ _ _ _ _ _ _ _ _ _ _ _ _ _ _ _ _ _ _ _ _ _ _ _ _ _ _ _ _ _ _ _ _ _ _ _ _ _ _ _ _ _ _ _ _ _ _ _ _ _ _ _ _ _ _ _ _ _ _ _ _ _ _ _ _ _ _ _ _ _ _ _ _ _ _ _ _ _ _ _ _ _ _ _ _ _ _ _ _ _ _ _ _ _ _ _ _ _ _ _ _ _ _ _ _ _ _ _ _ _ _ _ _ _ _ _ _ _ ?_
  exact ⟨q, m, ai, ad, pi, pd, cl, HM.out, hms, rfl, rfl, HOW.out, H5.out, HRD.out, HAP.out, HBL.out⟩

end Go.Proofs.Ytkffmjcipnlbhaa
