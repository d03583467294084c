
/- Walks of the seat of chapter 05: DuctOrder: something is taken. -/
import Derived.Test.YtkffmjcipnlbhaaO1
import Derived.Deep.DeepCutAuto
import Derived.Deep.CutBlock
namespace Go.Proofs.Ytkffmjcipnlbhaa
open Go.RowKit
attribute [local go_sem ↓] Go.wp_at_zero Go.wp_at_succ
attribute [local go_sem] more_size cell_more_old frozen_more_old setCell_more_old more_drew drew_more old_alloc old_more old_drew old_setCell cell_alloc_old frozen_alloc_old setCell_alloc_old
set_option maxRecDepth 100000 in
set_option maxHeartbeats 4000000 in
theorem sw_take_empty (size : Int) (b off n p b5 k : Nat) (ai ad : Option Addr) (pi pd : Nat) (l : List Ac) (x : Lt) (w wr : World) 
    (hs1 : 0 ≤ size) (hs2 : size ≤ 64) (hn : n ≤ 200) (HL : Hid (RdC w (.slice (some ⟨b, off, none⟩) n p) l)) (HX : Hid (l[k]? = some ⟨1, x⟩)) (HM : Hid (0 = ([] : List Lt).length)) (hms : ((0 : Nat) : Int) ≤ size)
    (HOW : Hid (OwnO wr w.heap.size 32 6 (.slice ai 0 pi) 0 (ltCells []))) (H5 : Hid (wr.heap[b5]? = some (.cells #[.int .i64 size, .slice ad 0 pd, .bool false] 26))) (HRD : Hid (RdT wr (.slice ad 0 pd) [])) (HAP : Hid (([] : List Lt) ≠ [] → ∀ g g', ai = some g → ad = some g' → g.block ≠ g'.block)) (HBL : Hid (Below w.heap.size w wr)) (hz1' : w.heap.size ≤ b5)
    (v2 v3 v4 v6 v10 v11 v12 v13 v14 v15 v16 v17 v18 v19 v20 v21 v22 v23 v24 v25 v26 v27 v28 v29 v30 v31 v32 v33 v34 v35 v36 v37 v38 v39 v40 v41 v42 v43 v44 v45 v46 v48 v49 v50 v51 v52 v53 v54 v55 v56 v57 v58 v59 v60 v61 v62 v63 v64 v65 v66 v67 v68 v69 v70 v71 v72 v73 v74 v75 v76 v77 v78 v79 v80 v81 v82 v83 v84 v85 v86 v87 v88 v89 v90 v91 v92 v93 v94 v95 v96 v97 v98 v99 v100 v101 v102 v103 v104 v105 v106 v107 v108 v109 v110 v111 v112 v113 v114 v115 v116 v117 v118 v119 v120 v121 v122 v123 v124 v125 v126 v127 v128 v129 v130 v131 v132 v133 v134 v135 v136 v137 v138 v139 v140 v141 v142 v143 v144 v145 v146 v147 v148 v149 v150 v151 v152 v153 v154 v155 v156 v157 v158 v159 v160 v161 v162 v163 v164 v165 v166 v167 v168 v169 v170 v171 v172 v173 v174 v175 v176 v177 v178 v179 v180 v181 v182 v183 v184 v185 v186 v187 v188 v189 v190 v191 v192 v193 v194 : Value) (Q : Exit → Act → World → Prop)
    (hQ : ∀ (s7 s8 : Value) (u10 u11 u12 u13 u14 u15 u16 u17 u48 u49 u50 u51 u52 u53 u54 u55 u56 u57 u58 u59 u60 u61 u62 u63 u64 u65 u66 u67 u68 u69 u70 u71 u72 u73 u74 u75 u76 u77 u78 u79 u80 u81 u82 u83 u84 u85 u86 u87 u88 u89 u90 u91 u92 u93 u94 u95 u96 u97 u98 u99 u100 u101 u102 u103 u104 u105 u106 u107 u108 u109 u110 u111 u112 u113 u114 u115 u116 u117 u118 u119 u120 u121 u122 u123 u124 u125 u126 u127 u128 u129 u130 u131 u132 u133 u134 u135 u136 u137 u138 u139 u140 u141 u142 u143 u144 u145 u146 u147 u148 u149 u150 u151 u152 u153 u154 u155 u156 u157 u158 u159 u160 u161 u162 u163 u164 u165 u166 u167 u168 u169 u170 : Value) (wx : World), OrdS w b5 size s7 s8 wx → Q .normal ⟨#[.int .i64 size, .slice (some ⟨b, off, none⟩) n p, v2, v3, v4, .pointer (some ⟨b5, 0, none⟩), v6, s7, s8, .int .i64 (k : Int), u10, u11, u12, u13, u14, u15, u16, u17, v18, v19, v20, v21, v22, v23, v24, v25, v26, v27, v28, v29, v30, v31, v32, v33, v34, v35, v36, v37, v38, v39, v40, v41, v42, v43, v44, v45, v46, .int .i64 1, u48, u49, u50, u51, u52, u53, u54, u55, u56, u57, u58, u59, u60, u61, u62, u63, u64, u65, u66, u67, u68, u69, u70, u71, u72, u73, u74, u75, u76, u77, u78, u79, u80, u81, u82, u83, u84, u85, u86, u87, u88, u89, u90, u91, u92, u93, u94, u95, u96, u97, u98, u99, u100, u101, u102, u103, u104, u105, u106, u107, u108, u109, u110, u111, u112, u113, u114, u115, u116, u117, u118, u119, u120, u121, u122, u123, u124, u125, u126, u127, u128, u129, u130, u131, u132, u133, u134, u135, u136, u137, u138, u139, u140, u141, u142, u143, u144, u145, u146, u147, u148, u149, u150, u151, u152, u153, u154, u155, u156, u157, u158, u159, u160, u161, u162, u163, u164, u165, u166, u167, u168, u169, u170, v171, v172, v173, v174, v175, v176, v177, v178, v179, v180, v181, v182, v183, v184, v185, v186, v187, v188, v189, v190, v191, v192, v193, v194], []⟩ wx) :
    Code.wp Try.prog swCode Q ⟨#[.int .i64 size, .slice (some ⟨b, off, none⟩) n p, v2, v3, v4, .pointer (some ⟨b5, 0, none⟩), v6, .slice ai 0 pi, .bool false, .int .i64 (k : Int), v10, v11, v12, v13, v14, v15, v16, v17, v18, v19, v20, v21, v22, v23, v24, v25, v26, v27, v28, v29, v30, v31, v32, v33, v34, v35, v36, v37, v38, v39, v40, v41, v42, v43, v44, v45, v46, .int .i64 1, v48, v49, v50, v51, v52, v53, v54, v55, v56, v57, v58, v59, v60, v61, v62, v63, v64, v65, v66, v67, v68, v69, v70, v71, v72, v73, v74, v75, v76, v77, v78, v79, v80, v81, v82, v83, v84, v85, v86, v87, v88, v89, v90, v91, v92, v93, v94, v95, v96, v97, v98, v99, v100, v101, v102, v103, v104, v105, v106, v107, v108, v109, v110, v111, v112, v113, v114, v115, v116, v117, v118, v119, v120, v121, v122, v123, v124, v125, v126, v127, v128, v129, v130, v131, v132, v133, v134, v135, v136, v137, v138, v139, v140, v141, v142, v143, v144, v145, v146, v147, v148, v149, v150, v151, v152, v153, v154, v155, v156, v157, v158, v159, v160, v161, v162, v163, v164, v165, v166, v167, v168, v169, v170, v171, v172, v173, v174, v175, v176, v177, v178, v179, v180, v181, v182, v183, v184, v185, v186, v187, v188, v189, v190, v191, v192, v193, v194], []⟩ wr := by
  conv => arg 2; whnf
  have HQ := Lib.hid hQ
  clear hQ
  have k5 := H5.out
  have o5 := block_lt k5
  have q5 : Old wr b5 := o5
  have c5 := cell_block k5
  have f5 := free_block k5
  have hzr : w.heap.size ≤ wr.heap.size := HBL.out.size
  have hkn : k < n := by have h1 := (List.getElem?_eq_some_iff.1 HX.out).1; have h2 := HL.out.len; omega
  have hi : (k : Int) < (n : Int) := by omega
  have hi0' : (0 : Int) ≤ (k : Int) := by omega
  obtain ⟨i0, hi0, hz0, hz1, hz2⟩ := info_parts info32
  obtain ⟨b', off', he', hb0, g0, g1, g2, g3, g4, g5, g6⟩ := (HL.out.below HBL.out).at HX.out
  cases he'
  clear k5
  have hms0 := hms
  go_wp2_with fail
  refine (take10_empty size ad pd _ hs1 hs2 hms0 HRD.out.rd).mono ?_
  rintro r w8 ⟨rfl, hb⟩
  have k5 := block_keep' hb H5.out
  have how := HOW.out.below hb
  have hrd := HRD.out.below hb
  have hbl := HBL.out.trans (hb.mono hzr)
  have hzz : w.heap.size ≤ w8.heap.size := hbl.size
  have o5' := block_lt k5
  have q5' : Old w8 b5 := o5'
  clear hb c5 f5 g0 g1 g2 g3 g4 g5 g6
  go_upto_region 22 with fail
  have k13 : ((w8.alloc (.cells #[.int .i8 0, .int .i64 0, .int .i64 0, .int .i64 0, .string ⟨#[]⟩, .int .i64 0] 32)).alloc (.cells #[.int .i64 size, .slice ad 0 pd, .bool false] 26)).heap[w8.heap.size]? = some (.cells #[.int .i8 0, .int .i64 0, .int .i64 0, .int .i64 0, .string ⟨#[]⟩, .int .i64 0] 32) := by (repeat' (first | (with_reducible assumption) | (with_reducible refine hm_new ?_; (first | rfl | (simp; done) | (simp [more_size]; done) | (simp [more_size]; omega))) | (with_reducible refine block_alloc ?_) | (with_reducible refine hm_more ?_) | (with_reducible refine hm_drew ?_)))
  have k14 : ((w8.alloc (.cells #[.int .i8 0, .int .i64 0, .int .i64 0, .int .i64 0, .string ⟨#[]⟩, .int .i64 0] 32)).alloc (.cells #[.int .i64 size, .slice ad 0 pd, .bool false] 26)).heap[w8.heap.size + 1]? = some (.cells #[.int .i64 size, .slice ad 0 pd, .bool false] 26) := by (repeat' (first | (with_reducible assumption) | (with_reducible refine hm_new ?_; (first | rfl | (simp; done) | (simp [more_size]; done) | (simp [more_size]; omega))) | (with_reducible refine block_alloc ?_) | (with_reducible refine hm_more ?_) | (with_reducible refine hm_drew ?_)))
  have hb9 : Below w8.heap.size w8 ((w8.alloc (.cells #[.int .i8 0, .int .i64 0, .int .i64 0, .int .i64 0, .string ⟨#[]⟩, .int .i64 0] 32)).alloc (.cells #[.int .i64 size, .slice ad 0 pd, .bool false] 26)) := by (repeat' (first | (with_reducible exact Below.refl _ _) | (with_reducible assumption) | (with_reducible refine Below.drew ?_) | (with_reducible refine Below.alloc ?_ ?_ _) | (with_reducible refine below_more ?_ ?_ _ _) | (with_reducible refine Below.setCell ?_ ?_ _) | (with_reducible refine Below.trans ?_ (Below.mono (by assumption) ?_)))) <;> first | omega | (simp; done) | (simp; omega) | (simp [more_size]; done) | (simp [more_size]; omega)
  have k59 := block_keep' hb9 k5
  have how9 := how.below hb9
  have hrd9 := hrd.below hb9
  have hbl9 := hbl.trans (hb9.mono hzz)
  clear k5 how hrd hbl hb9 
  generalize ((w8.alloc (.cells #[.int .i8 0, .int .i64 0, .int .i64 0, .int .i64 0, .string ⟨#[]⟩, .int .i64 0] 32)).alloc (.cells #[.int .i64 size, .slice ad 0 pd, .bool false] 26)) = w9 at *
  have c13 := cell_block k13
  have o13 := block_lt k13
  have K14 := Lib.hid k14
  have K59 := Lib.hid k59
  have HO9 := Lib.hid how9
  have HR9 := Lib.hid hrd9
  have HB9 := Lib.hid hbl9
  clear k13 k14 k59 how9 hrd9 hbl9
  go_quiet (fail)
  have k14 : (w9.drewN nq).heap[w8.heap.size + 1]? = some (.cells #[.int .i64 size, .slice ad 0 pd, .bool false] 26) := K14.out
  have k5 : (w9.drewN nq).heap[b5]? = some (.cells #[.int .i64 size, .slice ad 0 pd, .bool false] 26) := K59.out
  have how : OwnO (w9.drewN nq) w.heap.size 32 6 (.slice ai 0 pi) 0 (ltCells []) := HO9.out
  have hrd : RdT (w9.drewN nq) (.slice ad 0 pd) [] := HR9.out
  have hbl : Below w.heap.size w (w9.drewN nq) := belowN HB9.out nq
  generalize w9.drewN nq = wx at *
  have c14 := cell_block k14
  have o14 := block_lt k14
  have o5x := block_lt k5
  have f5x := free_block k5
  have c5x := cell_block k5
  have K5 := Lib.hid (st3 k5 (.int .i64 size) (.slice ad 0 pd) (.bool false))
  have KO := Lib.hid (how.set3 k5 (by decide) (.int .i64 size) (.slice ad 0 pd) (.bool false))
  have KR := Lib.hid (hrd.set3 k5 (by decide) (.int .i64 size) (.slice ad 0 pd) (.bool false))
  have KB := Lib.hid (((hbl.setCell (by exact hz1') (.int .i64 size) (p := ⟨b5, 0, none⟩)).setCell (by exact hz1') (.slice ad 0 pd) (p := ⟨b5, 1, none⟩)).setCell (by exact hz1') (.bool false) (p := ⟨b5, 2, none⟩))
  clear k14 k5 how hrd hbl c13 o13
  go_wp2_with fail
  refine HQ.out _ _ _ _ _ _ _ _ _ _ _ _ _ _ _ _ _ _ _ _ _ _ _ _ _ _ _ _ _ _ _ _ _ _ _ _ _ _ _ _ _ _ _ _ _ _ _ _ _ _ _ _ _ _ _ _ _ _ _ _ _ _ _ _ _ _ _ _ _ _ _ _ _ _ _ _ _ _ _ _ _ _ _ _ _ _ _ _ _ _ _ _ _ _ _ _ _ _ _ _ _ _ _ _ _ _ _ _ _ _ _ _ _ _ _ _ _ _ _ _ _ _ _ _ _ _ _ _ _ _ _ _ _ _ ?_
  exact ⟨[], 0, ai, ad, pi, pd, false, rfl, hms, rfl, rfl, KO.out, K5.out, KR.out, fun h => absurd rfl h, KB.out⟩


set_option maxRecDepth 100000 in
set_option maxHeartbeats 4000000 in
theorem sw_take_shut (size : Int) (b off n p b5 k : Nat) (ai ad : Option Addr) (pi pd : Nat) (l : List Ac) (x : Lt) (w wr : World) 
    (hs1 : 0 ≤ size) (hs2 : size ≤ 64) (hn : n ≤ 200) (HL : Hid (RdC w (.slice (some ⟨b, off, none⟩) n p) l)) (HX : Hid (l[k]? = some ⟨1, x⟩)) (HM : Hid (0 = ([] : List Lt).length)) (hms : ((0 : Nat) : Int) ≤ size)
    (HOW : Hid (OwnO wr w.heap.size 32 6 (.slice ai 0 pi) 0 (ltCells []))) (H5 : Hid (wr.heap[b5]? = some (.cells #[.int .i64 size, .slice ad 0 pd, .bool true] 26))) (HRD : Hid (RdT wr (.slice ad 0 pd) [])) (HAP : Hid (([] : List Lt) ≠ [] → ∀ g g', ai = some g → ad = some g' → g.block ≠ g'.block)) (HBL : Hid (Below w.heap.size w wr)) (hz1' : w.heap.size ≤ b5)
    (v2 v3 v4 v6 v10 v11 v12 v13 v14 v15 v16 v17 v18 v19 v20 v21 v22 v23 v24 v25 v26 v27 v28 v29 v30 v31 v32 v33 v34 v35 v36 v37 v38 v39 v40 v41 v42 v43 v44 v45 v46 v48 v49 v50 v51 v52 v53 v54 v55 v56 v57 v58 v59 v60 v61 v62 v63 v64 v65 v66 v67 v68 v69 v70 v71 v72 v73 v74 v75 v76 v77 v78 v79 v80 v81 v82 v83 v84 v85 v86 v87 v88 v89 v90 v91 v92 v93 v94 v95 v96 v97 v98 v99 v100 v101 v102 v103 v104 v105 v106 v107 v108 v109 v110 v111 v112 v113 v114 v115 v116 v117 v118 v119 v120 v121 v122 v123 v124 v125 v126 v127 v128 v129 v130 v131 v132 v133 v134 v135 v136 v137 v138 v139 v140 v141 v142 v143 v144 v145 v146 v147 v148 v149 v150 v151 v152 v153 v154 v155 v156 v157 v158 v159 v160 v161 v162 v163 v164 v165 v166 v167 v168 v169 v170 v171 v172 v173 v174 v175 v176 v177 v178 v179 v180 v181 v182 v183 v184 v185 v186 v187 v188 v189 v190 v191 v192 v193 v194 : Value) (Q : Exit → Act → World → Prop)
    (hQ : ∀ (s7 s8 : Value) (u10 u11 u12 u13 u14 u15 u16 u17 u48 u49 u50 u51 u52 u53 u54 u55 u56 u57 u58 u59 u60 u61 u62 u63 u64 u65 u66 u67 u68 u69 u70 u71 u72 u73 u74 u75 u76 u77 u78 u79 u80 u81 u82 u83 u84 u85 u86 u87 u88 u89 u90 u91 u92 u93 u94 u95 u96 u97 u98 u99 u100 u101 u102 u103 u104 u105 u106 u107 u108 u109 u110 u111 u112 u113 u114 u115 u116 u117 u118 u119 u120 u121 u122 u123 u124 u125 u126 u127 u128 u129 u130 u131 u132 u133 u134 u135 u136 u137 u138 u139 u140 u141 u142 u143 u144 u145 u146 u147 u148 u149 u150 u151 u152 u153 u154 u155 u156 u157 u158 u159 u160 u161 u162 u163 u164 u165 u166 u167 u168 u169 u170 : Value) (wx : World), OrdS w b5 size s7 s8 wx → Q .normal ⟨#[.int .i64 size, .slice (some ⟨b, off, none⟩) n p, v2, v3, v4, .pointer (some ⟨b5, 0, none⟩), v6, s7, s8, .int .i64 (k : Int), u10, u11, u12, u13, u14, u15, u16, u17, v18, v19, v20, v21, v22, v23, v24, v25, v26, v27, v28, v29, v30, v31, v32, v33, v34, v35, v36, v37, v38, v39, v40, v41, v42, v43, v44, v45, v46, .int .i64 1, u48, u49, u50, u51, u52, u53, u54, u55, u56, u57, u58, u59, u60, u61, u62, u63, u64, u65, u66, u67, u68, u69, u70, u71, u72, u73, u74, u75, u76, u77, u78, u79, u80, u81, u82, u83, u84, u85, u86, u87, u88, u89, u90, u91, u92, u93, u94, u95, u96, u97, u98, u99, u100, u101, u102, u103, u104, u105, u106, u107, u108, u109, u110, u111, u112, u113, u114, u115, u116, u117, u118, u119, u120, u121, u122, u123, u124, u125, u126, u127, u128, u129, u130, u131, u132, u133, u134, u135, u136, u137, u138, u139, u140, u141, u142, u143, u144, u145, u146, u147, u148, u149, u150, u151, u152, u153, u154, u155, u156, u157, u158, u159, u160, u161, u162, u163, u164, u165, u166, u167, u168, u169, u170, v171, v172, v173, v174, v175, v176, v177, v178, v179, v180, v181, v182, v183, v184, v185, v186, v187, v188, v189, v190, v191, v192, v193, v194], []⟩ wx) :
    Code.wp Try.prog swCode Q ⟨#[.int .i64 size, .slice (some ⟨b, off, none⟩) n p, v2, v3, v4, .pointer (some ⟨b5, 0, none⟩), v6, .slice ai 0 pi, .bool true, .int .i64 (k : Int), v10, v11, v12, v13, v14, v15, v16, v17, v18, v19, v20, v21, v22, v23, v24, v25, v26, v27, v28, v29, v30, v31, v32, v33, v34, v35, v36, v37, v38, v39, v40, v41, v42, v43, v44, v45, v46, .int .i64 1, v48, v49, v50, v51, v52, v53, v54, v55, v56, v57, v58, v59, v60, v61, v62, v63, v64, v65, v66, v67, v68, v69, v70, v71, v72, v73, v74, v75, v76, v77, v78, v79, v80, v81, v82, v83, v84, v85, v86, v87, v88, v89, v90, v91, v92, v93, v94, v95, v96, v97, v98, v99, v100, v101, v102, v103, v104, v105, v106, v107, v108, v109, v110, v111, v112, v113, v114, v115, v116, v117, v118, v119, v120, v121, v122, v123, v124, v125, v126, v127, v128, v129, v130, v131, v132, v133, v134, v135, v136, v137, v138, v139, v140, v141, v142, v143, v144, v145, v146, v147, v148, v149, v150, v151, v152, v153, v154, v155, v156, v157, v158, v159, v160, v161, v162, v163, v164, v165, v166, v167, v168, v169, v170, v171, v172, v173, v174, v175, v176, v177, v178, v179, v180, v181, v182, v183, v184, v185, v186, v187, v188, v189, v190, v191, v192, v193, v194], []⟩ wr := by
  conv => arg 2; whnf
  have HQ := Lib.hid hQ
  clear hQ
  have k5 := H5.out
  have o5 := block_lt k5
  have q5 : Old wr b5 := o5
  have c5 := cell_block k5
  have f5 := free_block k5
  have hzr : w.heap.size ≤ wr.heap.size := HBL.out.size
  have hkn : k < n := by have h1 := (List.getElem?_eq_some_iff.1 HX.out).1; have h2 := HL.out.len; omega
  have hi : (k : Int) < (n : Int) := by omega
  have hi0' : (0 : Int) ≤ (k : Int) := by omega
  obtain ⟨i0, hi0, hz0, hz1, hz2⟩ := info_parts info32
  obtain ⟨b', off', he', hb0, g0, g1, g2, g3, g4, g5, g6⟩ := (HL.out.below HBL.out).at HX.out
  cases he'
  clear k5
  have hms0 := hms
  go_wp2_with fail
  refine (take10_shut size ad pd _ hs1 hs2 hms0 HRD.out.rd).mono ?_
  rintro r w8 ⟨a3, p3, rfl, hr, hb⟩
  have k5 := block_keep' hb H5.out
  have how := HOW.out.below hb
  have hrd := hr
  have hbl := HBL.out.trans (hb.mono hzr)
  have hzz : w.heap.size ≤ w8.heap.size := hbl.size
  have o5' := block_lt k5
  have q5' : Old w8 b5 := o5'
  clear hb c5 f5 g0 g1 g2 g3 g4 g5 g6
  go_upto_region 22 with fail
  have k13 : ((w8.alloc (.cells #[.int .i8 0, .int .i64 0, .int .i64 0, .int .i64 0, .string ⟨#[]⟩, .int .i64 0] 32)).alloc (.cells #[.int .i64 size, .slice a3 0 p3, .bool true] 26)).heap[w8.heap.size]? = some (.cells #[.int .i8 0, .int .i64 0, .int .i64 0, .int .i64 0, .string ⟨#[]⟩, .int .i64 0] 32) := by (repeat' (first | (with_reducible assumption) | (with_reducible refine hm_new ?_; (first | rfl | (simp; done) | (simp [more_size]; done) | (simp [more_size]; omega))) | (with_reducible refine block_alloc ?_) | (with_reducible refine hm_more ?_) | (with_reducible refine hm_drew ?_)))
  have k14 : ((w8.alloc (.cells #[.int .i8 0, .int .i64 0, .int .i64 0, .int .i64 0, .string ⟨#[]⟩, .int .i64 0] 32)).alloc (.cells #[.int .i64 size, .slice a3 0 p3, .bool true] 26)).heap[w8.heap.size + 1]? = some (.cells #[.int .i64 size, .slice a3 0 p3, .bool true] 26) := by (repeat' (first | (with_reducible assumption) | (with_reducible refine hm_new ?_; (first | rfl | (simp; done) | (simp [more_size]; done) | (simp [more_size]; omega))) | (with_reducible refine block_alloc ?_) | (with_reducible refine hm_more ?_) | (with_reducible refine hm_drew ?_)))
  have hb9 : Below w8.heap.size w8 ((w8.alloc (.cells #[.int .i8 0, .int .i64 0, .int .i64 0, .int .i64 0, .string ⟨#[]⟩, .int .i64 0] 32)).alloc (.cells #[.int .i64 size, .slice a3 0 p3, .bool true] 26)) := by (repeat' (first | (with_reducible exact Below.refl _ _) | (with_reducible assumption) | (with_reducible refine Below.drew ?_) | (with_reducible refine Below.alloc ?_ ?_ _) | (with_reducible refine below_more ?_ ?_ _ _) | (with_reducible refine Below.setCell ?_ ?_ _) | (with_reducible refine Below.trans ?_ (Below.mono (by assumption) ?_)))) <;> first | omega | (simp; done) | (simp; omega) | (simp [more_size]; done) | (simp [more_size]; omega)
  have k59 := block_keep' hb9 k5
  have how9 := how.below hb9
  have hrd9 := hrd.below hb9
  have hbl9 := hbl.trans (hb9.mono hzz)
  clear k5 how hrd hbl hb9 hr
  generalize ((w8.alloc (.cells #[.int .i8 0, .int .i64 0, .int .i64 0, .int .i64 0, .string ⟨#[]⟩, .int .i64 0] 32)).alloc (.cells #[.int .i64 size, .slice a3 0 p3, .bool true] 26)) = w9 at *
  have c13 := cell_block k13
  have o13 := block_lt k13
  have K14 := Lib.hid k14
  have K59 := Lib.hid k59
  have HO9 := Lib.hid how9
  have HR9 := Lib.hid hrd9
  have HB9 := Lib.hid hbl9
  clear k13 k14 k59 how9 hrd9 hbl9
  go_quiet (fail)
  have k14 : (w9.drewN nq).heap[w8.heap.size + 1]? = some (.cells #[.int .i64 size, .slice a3 0 p3, .bool true] 26) := K14.out
  have k5 : (w9.drewN nq).heap[b5]? = some (.cells #[.int .i64 size, .slice ad 0 pd, .bool true] 26) := K59.out
  have how : OwnO (w9.drewN nq) w.heap.size 32 6 (.slice ai 0 pi) 0 (ltCells []) := HO9.out
  have hrd : RdT (w9.drewN nq) (.slice a3 0 p3) [] := HR9.out
  have hbl : Below w.heap.size w (w9.drewN nq) := belowN HB9.out nq
  generalize w9.drewN nq = wx at *
  have c14 := cell_block k14
  have o14 := block_lt k14
  have o5x := block_lt k5
  have f5x := free_block k5
  have c5x := cell_block k5
  have K5 := Lib.hid (st3 k5 (.int .i64 size) (.slice a3 0 p3) (.bool true))
  have KO := Lib.hid (how.set3 k5 (by decide) (.int .i64 size) (.slice a3 0 p3) (.bool true))
  have KR := Lib.hid (hrd.set3 k5 (by decide) (.int .i64 size) (.slice a3 0 p3) (.bool true))
  have KB := Lib.hid (((hbl.setCell (by exact hz1') (.int .i64 size) (p := ⟨b5, 0, none⟩)).setCell (by exact hz1') (.slice a3 0 p3) (p := ⟨b5, 1, none⟩)).setCell (by exact hz1') (.bool true) (p := ⟨b5, 2, none⟩))
  clear k14 k5 how hrd hbl c13 o13
  go_wp2_with fail
  refine HQ.out _ _ _ _ _ _ _ _ _ _ _ _ _ _ _ _ _ _ _ _ _ _ _ _ _ _ _ _ _ _ _ _ _ _ _ _ _ _ _ _ _ _ _ _ _ _ _ _ _ _ _ _ _ _ _ _ _ _ _ _ _ _ _ _ _ _ _ _ _ _ _ _ _ _ _ _ _ _ _ _ _ _ _ _ _ _ _ _ _ _ _ _ _ _ _ _ _ _ _ _ _ _ _ _ _ _ _ _ _ _ _ _ _ _ _ _ _ _ _ _ _ _ _ _ _ _ _ _ _ _ _ _ _ _ ?_
  exact ⟨[], 0, ai, a3, pi, p3, true, rfl, hms, rfl, rfl, KO.out, K5.out, KR.out, fun h => absurd rfl h, KB.out⟩


set_option maxRecDepth 100000 in
set_option maxHeartbeats 4000000 in
theorem sw_take_some (size : Int) (b off n p b5 k : Nat) (ai ad : Option Addr) (pi pd : Nat) (m : Nat) (y : Lt) (q : List Lt) (cl : Bool) (l : List Ac) (x : Lt) (w wr : World) 
    (hs1 : 0 ≤ size) (hs2 : size ≤ 64) (hn : n ≤ 200) (HL : Hid (RdC w (.slice (some ⟨b, off, none⟩) n p) l)) (HX : Hid (l[k]? = some ⟨1, x⟩)) (HM : Hid (m = ((y :: q) : List Lt).length)) (hms : ((m : Nat) : Int) ≤ size)
    (HOW : Hid (OwnO wr w.heap.size 32 6 (.slice ai m pi) m (ltCells (y :: q)))) (H5 : Hid (wr.heap[b5]? = some (.cells #[.int .i64 size, .slice ad m pd, .bool cl] 26))) (HRD : Hid (RdT wr (.slice ad m pd) (y :: q))) (HAP : Hid (((y :: q) : List Lt) ≠ [] → ∀ g g', ai = some g → ad = some g' → g.block ≠ g'.block)) (HBL : Hid (Below w.heap.size w wr)) (hz1' : w.heap.size ≤ b5)
    (v2 v3 v4 v6 v10 v11 v12 v13 v14 v15 v16 v17 v18 v19 v20 v21 v22 v23 v24 v25 v26 v27 v28 v29 v30 v31 v32 v33 v34 v35 v36 v37 v38 v39 v40 v41 v42 v43 v44 v45 v46 v48 v49 v50 v51 v52 v53 v54 v55 v56 v57 v58 v59 v60 v61 v62 v63 v64 v65 v66 v67 v68 v69 v70 v71 v72 v73 v74 v75 v76 v77 v78 v79 v80 v81 v82 v83 v84 v85 v86 v87 v88 v89 v90 v91 v92 v93 v94 v95 v96 v97 v98 v99 v100 v101 v102 v103 v104 v105 v106 v107 v108 v109 v110 v111 v112 v113 v114 v115 v116 v117 v118 v119 v120 v121 v122 v123 v124 v125 v126 v127 v128 v129 v130 v131 v132 v133 v134 v135 v136 v137 v138 v139 v140 v141 v142 v143 v144 v145 v146 v147 v148 v149 v150 v151 v152 v153 v154 v155 v156 v157 v158 v159 v160 v161 v162 v163 v164 v165 v166 v167 v168 v169 v170 v171 v172 v173 v174 v175 v176 v177 v178 v179 v180 v181 v182 v183 v184 v185 v186 v187 v188 v189 v190 v191 v192 v193 v194 : Value) (Q : Exit → Act → World → Prop)
    (hQ : ∀ (s7 s8 : Value) (u10 u11 u12 u13 u14 u15 u16 u17 u48 u49 u50 u51 u52 u53 u54 u55 u56 u57 u58 u59 u60 u61 u62 u63 u64 u65 u66 u67 u68 u69 u70 u71 u72 u73 u74 u75 u76 u77 u78 u79 u80 u81 u82 u83 u84 u85 u86 u87 u88 u89 u90 u91 u92 u93 u94 u95 u96 u97 u98 u99 u100 u101 u102 u103 u104 u105 u106 u107 u108 u109 u110 u111 u112 u113 u114 u115 u116 u117 u118 u119 u120 u121 u122 u123 u124 u125 u126 u127 u128 u129 u130 u131 u132 u133 u134 u135 u136 u137 u138 u139 u140 u141 u142 u143 u144 u145 u146 u147 u148 u149 u150 u151 u152 u153 u154 u155 u156 u157 u158 u159 u160 u161 u162 u163 u164 u165 u166 u167 u168 u169 u170 : Value) (wx : World), OrdS w b5 size s7 s8 wx → Q .normal ⟨#[.int .i64 size, .slice (some ⟨b, off, none⟩) n p, v2, v3, v4, .pointer (some ⟨b5, 0, none⟩), v6, s7, s8, .int .i64 (k : Int), u10, u11, u12, u13, u14, u15, u16, u17, v18, v19, v20, v21, v22, v23, v24, v25, v26, v27, v28, v29, v30, v31, v32, v33, v34, v35, v36, v37, v38, v39, v40, v41, v42, v43, v44, v45, v46, .int .i64 1, u48, u49, u50, u51, u52, u53, u54, u55, u56, u57, u58, u59, u60, u61, u62, u63, u64, u65, u66, u67, u68, u69, u70, u71, u72, u73, u74, u75, u76, u77, u78, u79, u80, u81, u82, u83, u84, u85, u86, u87, u88, u89, u90, u91, u92, u93, u94, u95, u96, u97, u98, u99, u100, u101, u102, u103, u104, u105, u106, u107, u108, u109, u110, u111, u112, u113, u114, u115, u116, u117, u118, u119, u120, u121, u122, u123, u124, u125, u126, u127, u128, u129, u130, u131, u132, u133, u134, u135, u136, u137, u138, u139, u140, u141, u142, u143, u144, u145, u146, u147, u148, u149, u150, u151, u152, u153, u154, u155, u156, u157, u158, u159, u160, u161, u162, u163, u164, u165, u166, u167, u168, u169, u170, v171, v172, v173, v174, v175, v176, v177, v178, v179, v180, v181, v182, v183, v184, v185, v186, v187, v188, v189, v190, v191, v192, v193, v194], []⟩ wx) :
    Code.wp Try.prog swCode Q ⟨#[.int .i64 size, .slice (some ⟨b, off, none⟩) n p, v2, v3, v4, .pointer (some ⟨b5, 0, none⟩), v6, .slice ai m pi, .bool cl, .int .i64 (k : Int), v10, v11, v12, v13, v14, v15, v16, v17, v18, v19, v20, v21, v22, v23, v24, v25, v26, v27, v28, v29, v30, v31, v32, v33, v34, v35, v36, v37, v38, v39, v40, v41, v42, v43, v44, v45, v46, .int .i64 1, v48, v49, v50, v51, v52, v53, v54, v55, v56, v57, v58, v59, v60, v61, v62, v63, v64, v65, v66, v67, v68, v69, v70, v71, v72, v73, v74, v75, v76, v77, v78, v79, v80, v81, v82, v83, v84, v85, v86, v87, v88, v89, v90, v91, v92, v93, v94, v95, v96, v97, v98, v99, v100, v101, v102, v103, v104, v105, v106, v107, v108, v109, v110, v111, v112, v113, v114, v115, v116, v117, v118, v119, v120, v121, v122, v123, v124, v125, v126, v127, v128, v129, v130, v131, v132, v133, v134, v135, v136, v137, v138, v139, v140, v141, v142, v143, v144, v145, v146, v147, v148, v149, v150, v151, v152, v153, v154, v155, v156, v157, v158, v159, v160, v161, v162, v163, v164, v165, v166, v167, v168, v169, v170, v171, v172, v173, v174, v175, v176, v177, v178, v179, v180, v181, v182, v183, v184, v185, v186, v187, v188, v189, v190, v191, v192, v193, v194], []⟩ wr := by
  conv => arg 2; whnf
  have HQ := Lib.hid hQ
  clear hQ
  have k5 := H5.out
  have o5 := block_lt k5
  have q5 : Old wr b5 := o5
  have c5 := cell_block k5
  have f5 := free_block k5
  have hzr : w.heap.size ≤ wr.heap.size := HBL.out.size
  have hkn : k < n := by have h1 := (List.getElem?_eq_some_iff.1 HX.out).1; have h2 := HL.out.len; omega
  have hi : (k : Int) < (n : Int) := by omega
  have hi0' : (0 : Int) ≤ (k : Int) := by omega
  obtain ⟨i0, hi0, hz0, hz1, hz2⟩ := info_parts info32
  obtain ⟨b', off', he', hb0, g0, g1, g2, g3, g4, g5, g6⟩ := (HL.out.below HBL.out).at HX.out
  cases he'
  clear k5
  have hms0 := hms
  go_wp2_with fail
  refine (take10_someF size ad m pd q y cl _ hs1 hs2 hms0 HRD.out.rd).mono ?_
  rintro r w8 ⟨a3, p3, rfl, hr, hfr, hb⟩
  have k5 := block_keep' hb H5.out
  have how := HOW.out.below hb
  have hrd := hr
  have hbl := HBL.out.trans (hb.mono hzr)
  have hzz : w.heap.size ≤ w8.heap.size := hbl.size
  have o5' := block_lt k5
  have q5' : Old w8 b5 := o5'
  clear hb c5 f5 g0 g1 g2 g3 g4 g5 g6
  go_upto_region 22 with fail
  have k13 : ((w8.alloc (.cells #[.int .i8 y.k, .int .i64 y.f, .int .i64 y.n, .int .i64 y.s, .string y.t, .int .i64 y.e] 32)).alloc (.cells #[.int .i64 size, .slice a3 (m - 1) p3, .bool cl] 26)).heap[w8.heap.size]? = some (.cells #[.int .i8 y.k, .int .i64 y.f, .int .i64 y.n, .int .i64 y.s, .string y.t, .int .i64 y.e] 32) := by (repeat' (first | (with_reducible assumption) | (with_reducible refine hm_new ?_; (first | rfl | (simp; done) | (simp [more_size]; done) | (simp [more_size]; omega))) | (with_reducible refine block_alloc ?_) | (with_reducible refine hm_more ?_) | (with_reducible refine hm_drew ?_)))
  have k14 : ((w8.alloc (.cells #[.int .i8 y.k, .int .i64 y.f, .int .i64 y.n, .int .i64 y.s, .string y.t, .int .i64 y.e] 32)).alloc (.cells #[.int .i64 size, .slice a3 (m - 1) p3, .bool cl] 26)).heap[w8.heap.size + 1]? = some (.cells #[.int .i64 size, .slice a3 (m - 1) p3, .bool cl] 26) := by (repeat' (first | (with_reducible assumption) | (with_reducible refine hm_new ?_; (first | rfl | (simp; done) | (simp [more_size]; done) | (simp [more_size]; omega))) | (with_reducible refine block_alloc ?_) | (with_reducible refine hm_more ?_) | (with_reducible refine hm_drew ?_)))
  have hb9 : Below w8.heap.size w8 ((w8.alloc (.cells #[.int .i8 y.k, .int .i64 y.f, .int .i64 y.n, .int .i64 y.s, .string y.t, .int .i64 y.e] 32)).alloc (.cells #[.int .i64 size, .slice a3 (m - 1) p3, .bool cl] 26)) := by (repeat' (first | (with_reducible exact Below.refl _ _) | (with_reducible assumption) | (with_reducible refine Below.drew ?_) | (with_reducible refine Below.alloc ?_ ?_ _) | (with_reducible refine below_more ?_ ?_ _ _) | (with_reducible refine Below.setCell ?_ ?_ _) | (with_reducible refine Below.trans ?_ (Below.mono (by assumption) ?_)))) <;> first | omega | (simp; done) | (simp; omega) | (simp [more_size]; done) | (simp [more_size]; omega)
  have k59 := block_keep' hb9 k5
  have how9 := how.below hb9
  have hrd9 := hrd.below hb9
  have hbl9 := hbl.trans (hb9.mono hzz)
  clear k5 how hrd hbl hb9 hr
  generalize ((w8.alloc (.cells #[.int .i8 y.k, .int .i64 y.f, .int .i64 y.n, .int .i64 y.s, .string y.t, .int .i64 y.e] 32)).alloc (.cells #[.int .i64 size, .slice a3 (m - 1) p3, .bool cl] 26)) = w9 at *
  have c13 := cell_block k13
  have o13 := block_lt k13
  have K14 := Lib.hid k14
  have K59 := Lib.hid k59
  have HO9 := Lib.hid how9
  have HR9 := Lib.hid hrd9
  have HB9 := Lib.hid hbl9
  clear k13 k14 k59 how9 hrd9 hbl9
  obtain ⟨bi, oi, rfl, hbi, i0', i1, i2, i3, i4, i5⟩ := RdL.at (rdL_mk (l := y :: q) HO9.out.rd HM.out.symm rfl) (k := 0) (x := y) rfl
  simp only [Nat.zero_mul, Nat.add_zero] at i0' i1 i2 i3 i4 i5
  have hmp : (0 : Int) < (m : Int) := by have := HM.out; simp at this; omega
  have hmp' : 1 ≤ m := by omega
  have hmpn : 0 < m := hmp'
  have hm0n : (m == 0) = false := by simp; omega
  have hm0p : m ≠ 0 := by omega
  have hm0 : ((m : Int) == 0) = false := by simp; omega
  have q1 := run_cut (P := Try.prog) (t := 24) (sz := 6) (by kernel_rfl) (fun w => by kernel_rfl) (some ⟨bi, oi, none⟩) m pi 1 hmp'
  rw [show (((1 : Nat)) : Int) = 1 from rfl] at q1
  go_quiet (fail)
  have k14 : (w9.drewN nq).heap[w8.heap.size + 1]? = some (.cells #[.int .i64 size, .slice a3 (m - 1) p3, .bool cl] 26) := K14.out
  have k5 : (w9.drewN nq).heap[b5]? = some (.cells #[.int .i64 size, .slice ad m pd, .bool cl] 26) := K59.out
  have how : OwnO (w9.drewN nq) w.heap.size 32 6 (.slice (some ⟨bi, oi, none⟩) m pi) m (ltCells (y :: q)) := HO9.out
  have hrd : RdT (w9.drewN nq) (.slice a3 (m - 1) p3) q := HR9.out
  have hbl : Below w.heap.size w (w9.drewN nq) := belowN HB9.out nq
  generalize w9.drewN nq = wx at *
  have c14 := cell_block k14
  have o14 := block_lt k14
  have o5x := block_lt k5
  have f5x := free_block k5
  have c5x := cell_block k5
  have K5 := Lib.hid (st3 k5 (.int .i64 size) (.slice a3 (m - 1) p3) (.bool cl))
  have KO := Lib.hid (how.set3 k5 (by decide) (.int .i64 size) (.slice a3 (m - 1) p3) (.bool cl))
  have KR := Lib.hid (hrd.set3 k5 (by decide) (.int .i64 size) (.slice a3 (m - 1) p3) (.bool cl))
  have KB := Lib.hid (((hbl.setCell (by exact hz1') (.int .i64 size) (p := ⟨b5, 0, none⟩)).setCell (by exact hz1') (.slice a3 (m - 1) p3) (p := ⟨b5, 1, none⟩)).setCell (by exact hz1') (.bool cl) (p := ⟨b5, 2, none⟩))
  have HFR := Lib.hid hfr
  have KAP : Hid (q ≠ [] → ∀ g g', cutA (some ⟨bi, oi, none⟩) 1 pi 6 = some g → a3 = some g' → g.block ≠ g'.block) := Lib.hid fun _ g g' h1 h2 e => by
    have h3 := HFR.out g' h2
    have h4 := HOW.out.lt (j := bi) rfl
    have h5 : g.block = bi := by
      simp only [cutA] at h1
      split at h1
      · cases h1; rfl
      · simp only [Option.map_some, Option.some.injEq] at h1
        rw [← h1, add_block]
    omega
  have HM1 : Hid (m - 1 = q.length) := Lib.hid (by have := HM.out; simp at this; omega)
  have HMS1 : Hid (((m - 1 : Nat) : Int) ≤ size) := Lib.hid (by omega)
  have KO1 : Hid (OwnO (((wx.setCell ⟨b5, 0, none⟩ (.int .i64 size)).setCell ⟨b5, 1, none⟩ (.slice a3 (m - 1) p3)).setCell ⟨b5, 2, none⟩ (.bool cl)) w.heap.size 32 6 (.slice (cutA (some ⟨bi, oi, none⟩) 1 pi 6) (m - 1) (pi - 1)) (m - 1) (ltCells q)) := Lib.hid (OwnO.cut (xs := ltCells (y :: q)) KO.out hmp')
  clear k14 k5 how hrd hbl c13 o13 i0' i1 i2 i3 i4 i5 hfr
  go_wp2_with fail
  refine HQ.out _ _ _ _ _ _ _ _ _ _ _ _ _ _ _ _ _ _ _ _ _ _ _ _ _ _ _ _ _ _ _ _ _ _ _ _ _ _ _ _ _ _ _ _ _ _ _ _ _ _ _ _ _ _ _ _ _ _ _ _ _ _ _ _ _ _ _ _ _ _ _ _ _ _ _ _ _ _ _ _ _ _ _ _ _ _ _ _ _ _ _ _ _ _ _ _ _ _ _ _ _ _ _ _ _ _ _ _ _ _ _ _ _ _ _ _ _ _ _ _ _ _ _ _ _ _ _ _ _ _ _ _ _ _ ?_
  exact ⟨q, m - 1, cutA (some ⟨bi, oi, none⟩) 1 pi 6, a3, pi - 1, p3, cl, HM1.out, HMS1.out, rfl, rfl, KO1.out, K5.out, KR.out, KAP.out, KB.out⟩

end Go.Proofs.Ytkffmjcipnlbhaa
