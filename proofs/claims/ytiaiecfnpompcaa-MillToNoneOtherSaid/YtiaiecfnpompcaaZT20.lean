-- cut down, squeezed and laid together by pack.py (a program of this repository) out of this seat's texts
import Derived.WalkKit
import Derived.MapKept
import Derived.RangeFuncNested
import Derived.RangeFuncBound
import Derived.RangeFuncCalls
import Derived.RangeFuncLeaves
import Derived.Shelf.Abstract
import Derived.Shelf.RegionOpen
import Derived.OwnWalkIn
import Derived.TacticsInMore
import Derived.LoopNIn
import Derived.LoopIn
import Derived.ChangeKeysEq
import Derived.Test.YtiaiecfnpompcaaZT16
import Derived.Test.YtiaiecfnpompcaaZT17
import Derived.Test.YtiaiecfnpompcaaZT11
import Derived.Test.YtiaiecfnpompcaaZT18
import Derived.Test.YtiaiecfnpompcaaZT13
import Derived.Test.YtiaiecfnpompcaaZT2
import Derived.Test.YtiaiecfnpompcaaZT9
import Derived.Test.YtiaiecfnpompcaaZT5
import Derived.Test.YtiaiecfnpompcaaZT8
import Derived.Test.YtiaiecfnpompcaaZT14
import Derived.Test.YtiaiecfnpompcaaZT10
import Derived.Test.YtiaiecfnpompcaaZT19
import Derived.Test.YtiaiecfnpompcaaZT12
import Derived.Test.YtiaiecfnpompcaaZT4
import Derived.Test.YtiaiecfnpompcaaZT7
import Derived.Test.YtiaiecfnpompcaaZT3
import Derived.Test.YtiaiecfnpompcaaZT6
import Derived.Test.YtiaiecfnpompcaaZT1
import Derived.Test.YtiaiecfnpompcaaZT15
namespace Go.Proofs.Ytiaiecfnpompcaa.T
open Go.RowKit Go.Maps Go.ChangeMaps Go.Proofs.YtiaiecfnpompcaaW.PrintWords Go.Proofs.YtiaiecfnpompcaaW.PrintLast Go.Proofs.YtiaiecfnpompcaaW.PrintMore
set_option linter.unusedVariables false
set_option linter.unusedSimpArgs false
attribute [local go_sem] max2_int min2_int max_two min_two
attribute [local go_sem high] eqA79
def seqR : Code → Code
 | .seq _ b => b
 | c => c
def seqL : Code → Code
 | .seq a _ => a
 | c => c
def nthR : Nat → Code → Code
 | 0, c => c
 | n + 1, c => nthR n (seqR c)
set_option maxHeartbeats 40000000 in
set_option maxRecDepth 100000 in
theorem tail12_wp {v0 v1 v2 v3 v4 v9 v10 v11 v12 v13 v15 v17 v18 v19 v20 v21 v22 v23 v24 v25 v26 v27 v28 v29 v30 v31 v32 v33 v34 v35 v36 v37 v38 v39 v40 v41 v42 v43 v44 v45 v46 v47 v48 v49 v50 v51 v52 v53 v54 v55 v56 v57 v58 v59 v60 v61 v62 v63 v64 v65 v66 v67 v68 v69 v70 v71 v72 v73 v74 v75 v76 v77 v78 v79 v80 v81 v82 v83 v84 v85 v86 v87 v88 v89 v90 v91 v92 v93 v94 v95 v96 v97 v98 v99 v100 v101 v102 v103 v104 v105 v106 v107 v108 v109 v110 v111 v112 v113 v114 v115 v116 v117 v118 v119 v120 v121 v122 v123 v124 v125 v126 v127 v128 v129 v130 v131 v132 v133 v134 v135 v136 v137 v138 v139 v140 v141 v142 v143 v144 v145 v146 v147 v148 v149 v150 v151 v152 v153 v154 v155 v156 v157 v158 v159 v160 v161 v162 v163 v164 v165 v166 v167 v168 v169 v170 v171 v172 v173 v174 v175 v176 v177 v178 v179 v180 v181 v182 v183 v184 v185 v186 v187 v188 v189 v190 v191 v192 v193 v194 v195 v196 v197 v198 v199 v200 v201 v202 v203 v204 v205 v206 v207 v208 v209 v210 v211 v212 v213 v214 v215 v216 v217 v218 v219 v220 v221 v222 v223 v224 v225 v226 v227 v228 v229 v230 v231 v232 v233 v234 v235 v236 v237 v238 v239 v240 v241 v242 v243 v244 v245 v246 v247 v248 v249 v250 v251 v252 v253 v254 v255 v256 v257 v258 v259 v260 v261 v262 v263 v264 v265 v266 v267 v268 v269 v270 v271 v272 v273 v274 v275 : Value} (r : List S144) (lots bad : List S58) (c first : List S79) (x : S79) (A5 A6 A8 A14 A16 : Option Addr) (c5 c6 c8 c14 c16 : Nat) (gb : Nat) (w : World) (post : Ending → World → Prop) (hs : S58 → S79 → Bool)
  (h5 : Kd.C k144 w A5 r.length r) (hc5 : r.length ≤ c5) (h6 : Kd.C k58 w A6 lots.length lots) (h8 : Kd.C k58 w A8 bad.length bad) (hbad : 0 < bad.length) (h14 : Kd.C k79 w A14 c.length c) (h16 : Kd.C k79 w A16 first.length first)
  (hx : w.heap[gb]? = some (.cells #[.int .i64 x.f0, .int .i64 x.f1, .int .i64 x.f2] 79 (0, 0))) (hlen : c.length ≤ 1000000 ∧ first.length ≤ 1000000 ∧ lots.length ≤ 1000000)
  (hhas : ∀ y ∈ lots, ∀ z, z ∈ first ∨ z = x → acmelaw12_has.f 1000 r y.f0 y.f1 y.f2 z.f0 z.f1 z.f2 = some (hs y z)) (hex : ∀ z ∈ first, (lots.all fun y => hs y z == hs y x) = decide (z ∈ c))
  (hb0 : ∀ z ∈ first, acmelaw12_has.f 1000 r (rd_T58 bad 0).f0 (rd_T58 bad 0).f1 (rd_T58 bad 0).f2 z.f0 z.f1 z.f2 = some true) (hokc : ∀ z ∈ c, okC z) (hokf : ∀ z ∈ first, okC z) (hcn : c.Nodup) (hfn : first.Nodup) (hsub : ∀ z ∈ c, z ∈ first) (hxc : x ∈ c)
  (hpost : ∀ w', Below w.heap.size w w' → post (.returned (.bool true)) w') (K0 : Act → World → Prop) (hK0 : ∀ a w, (seqR (nthR 13 (Try.f12.body.getD .skip))).wp Try.prog (bodyPost Try.prog Try.f12 post) a w → K0 a w) :
  (seqL (nthR 13 (Try.f12.body.getD .skip))).wp Try.prog (Exit.then K0 (bodyPost Try.prog Try.f12 post)) { tmps := #[v0, v1, v2, v3, v4, .slice A5 r.length c5, .slice A6 lots.length c6, .pointer (some ⟨gb, 0, none⟩), .slice A8 bad.length c8, v9, v10, v11, v12, v13, .slice A14 c.length c14, v15, .slice A16 first.length c16, v17, v18, v19, v20, v21, v22, v23, v24, v25, v26, v27, v28, v29, v30, v31, v32, v33, v34, v35, v36, v37, v38, v39, v40, v41, v42, v43, v44, v45, v46, v47, v48, v49, v50, v51, v52, v53, v54, v55, v56, v57, v58, v59, v60, v61, v62, v63, v64, v65, v66, v67, v68, v69, v70, v71, v72, v73, v74, v75, v76, v77, v78, v79, v80, v81, v82, v83, v84, v85, v86, v87, v88, v89, v90, v91, v92, v93, v94, v95, v96, v97, v98, v99, v100, v101, v102, v103, v104, v105, v106, v107, v108, v109, v110, v111, v112, v113, v114, v115, v116, v117, v118, v119, v120, v121, v122, v123, v124, v125, v126, v127, v128, v129, v130, v131, v132, v133, v134, v135, v136, v137, v138, v139, v140, v141, v142, v143, v144, v145, v146, v147, v148, v149, v150, v151, v152, v153, v154, v155, v156, v157, v158, v159, v160, v161, v162, v163, v164, v165, v166, v167, v168, v169, v170, v171, v172, v173, v174, v175, v176, v177, v178, v179, v180, v181, v182, v183, v184, v185, v186, v187, v188, v189, v190, v191, v192, v193, v194, v195, v196, v197, v198, v199, v200, v201, v202, v203, v204, v205, v206, v207, v208, v209, v210, v211, v212, v213, v214, v215, v216, v217, v218, v219, v220, v221, v222, v223, v224, v225, v226, v227, v228, v229, v230, v231, v232, v233, v234, v235, v236, v237, v238, v239, v240, v241, v242, v243, v244, v245, v246, v247, v248, v249, v250, v251, v252, v253, v254, v255, v256, v257, v258, v259, v260, v261, v262, v263, v264, v265, v266, v267, v268, v269, v270, v271, v272, v273, v274, v275], defers := [] } w := by
 have hu58 := Try.underlying58
 have hu79 := Try.underlying79
 replace hlen := Aside0.mk hlen
 replace hhas := Aside0.mk hhas
 replace hex := Aside0.mk hex
 replace hb0 := Aside0.mk hb0
 replace hokc := Aside0.mk hokc
 replace hokf := Aside0.mk hokf
 replace hcn := Aside0.mk hcn
 replace hfn := Aside0.mk hfn
 replace hsub := Aside0.mk hsub
 replace hxc := Aside0.mk hxc
 replace hpost := Aside0.mk hpost
 replace hbad := Aside0.mk hbad
 replace hc5 := Aside0.mk hc5
 replace hx := Aside0.mk hx
 replace h5 := Aside0.mk h5
 replace h6 := Aside0.mk h6
 replace h8 := Aside0.mk h8
 replace h14 := Aside0.mk h14
 replace h16 := Aside0.mk h16
 conv at hK0 =>
  enter [a, w, 1, 2]
  whnf
 conv => enter [2]; whnf
 have hmm := @run_makeMap Try.prog
 go_wp2
 clear hmm
 have hown0 : OwnC (w.alloc (.map #[] 0)) w.heap.size 0 [] := by unfold OwnC; rw [setC_nil]; exact World.ownsMap_made _ _ _ _
 have hb1 : Below w.heap.size w (w.alloc (.map #[] 0)) := (Below.refl _ _).alloc (Nat.le_refl _) _
 generalize hW1 : w.alloc (.map #[] 0) = w1 at hown0 hb1 ⊢
 clear hW1
 generalize hBe : w.heap.size = B at hown0 ⊢
 have hBw : Aside0 (w.heap.size ≤ B) := ⟨by omega⟩
 clear hBe
 obtain ⟨x0, x1, x2⟩ := bc3 hx.out
 replace x0 := Aside0.mk x0
 replace x1 := Aside0.mk x1
 replace x2 := Aside0.mk x2
 go_loopw [18, 20] (fun v18 v20 wr => ∃ (i n : Nat), i ≤ c.length ∧ n ≤ i ∧ v18 = .bool (decide (x ∈ c.take i)) ∧ v20 = .int .i64 i ∧ OwnC wr B n (c.take i) ∧ Below w.heap.size w wr) (fun _ v20 _ => c.length - (intOf v20).toNat)
 case atStart => exact ⟨0, 0, Nat.zero_le _, Nat.le_refl _, by simp, rfl, by simpa using hown0, hb1⟩
 case round =>
  obtain ⟨i, n, hi, hn, rfl, rfl, hown, hbr⟩ := hrel
  clear hown0 hb1
  by_cases hlt : i < c.length
  ·have pn : decide (i < c.length) = true := decide_eq_true hlt
   have pb : decide ((i : Int) < (c.length : Int)) = true := decide_eq_true (by omega)
   have pt := eq_true hlt
   have pi : ((i : Int) < (c.length : Int)) = True := eq_true (by omega)
   have pj : (0 ≤ (i : Int)) = True := eq_true (by omega)
   obtain ⟨ad, e14, y0, y1, y2⟩ := at_T79 h14.out (i : Int) (by omega) (by omega)
   rw [show rd_T79 c (i : Int) = c[i] by simp [rd_T79, hlt], Int.toNat_natCast] at y0 y1 y2
   have hzok := Aside0.mk (hokc.out c[i] (List.getElem_mem hlt))
   have hsn : Aside0 (c.take (i + 1) = c.take i ++ [c[i]]) := ⟨by rw [List.take_add_one, List.getElem?_eq_getElem hlt]; rfl⟩
   have hwi : wrap64 ((i : Int) + 1) = ((i + 1 : Nat) : Int) := by have := hlen.out; rw [wrap64_id (by omega) (by omega)]; rfl
   have hnl : Aside0 (n < 10000000) := ⟨by have := hlen.out; omega⟩
   generalize c[i] = z at y0 y1 y2 hzok hsn
   subst e14
   have x0 := x0.out
   have x1 := x1.out
   have x2 := x2.out
   by_cases hxi : x ∈ c.take i
   ·rw [decide_eq_true hxi]
    have hvz : Aside0 (decide (x ∈ c.take (i + 1)) = true) := ⟨by rw [hsn.out]; exact decide_eq_true (List.mem_append_left _ hxi)⟩
    clear hxi
    go_wp2
    refine start_ (n := 18) (S := fun w' => Below w.heap.size w w') (ds := []) #[false, false, false, false, false, false, false, false, false, false, false, false, false, false, false, false, false, false] (by kernel_rfl) rfl rfl (below_drew hbr) (fun hHeld => ?_)
    replace hown : OwnC wr.drew B n (c.take i) := hown
    generalize wr.drew = wd at hHeld hown ⊢
    refine pure_ (i := 0) (N := some 193) (v := ?_) (a' := ?_) #[true, false, false, false, false, false, false, false, false, false, false, false, false, false, false, false, false, false] rfl rfl (by kernel_rfl) (fun _ _ _ h => h) (Or.inl ⟨by rfl, ?_⟩) ?_ ?_
    rotate_left
    ·intro w'
     go_simp
     with_reducible rfl
    rotate_left
    ·simp only [Act.put, sa_, s0_, s1_, i64_w, i32_w]
     rfl
    refine pure_ (i := 1) (N := some 194) (v := ?_) (a' := ?_) #[true, true, false, false, false, false, false, false, false, false, false, false, false, false, false, false, false, false] rfl rfl (by kernel_rfl) (fun _ _ _ h => h) (Or.inl ⟨by rfl, ?_⟩) ?_ ?_
    rotate_left
    ·intro w'
     go_simp
     with_reducible rfl
    rotate_left
    ·simp only [Act.put, sa_, s0_, s1_, i64_w, i32_w]
     rfl
    refine pure_ (i := 2) (N := some 195) (v := ?_) (a' := ?_) #[true, true, true, false, false, false, false, false, false, false, false, false, false, false, false, false, false, false] rfl rfl (by kernel_rfl) (fun _ _ _ h => h) (Or.inl ⟨by rfl, ?_⟩) ?_ ?_
    rotate_left
    ·intro w'
     go_simp
     with_reducible rfl
    rotate_left
    ·simp only [Act.put, sa_, s0_, s1_, i64_w, i32_w]
     rfl
    refine pure_ (i := 3) (N := some 196) (v := ?_) (a' := ?_) #[true, true, true, true, false, false, false, false, false, false, false, false, false, false, false, false, false, false] rfl rfl (by kernel_rfl) (fun _ _ _ h => h) (Or.inl ⟨by rfl, ?_⟩) ?_ ?_
    rotate_left
    ·intro w'
     go_simp
     with_reducible rfl
    rotate_left
    ·simp only [Act.put, sa_, s0_, s1_, i64_w, i32_w]
     rfl
    refine take_ (i := 4) (N := some 197) (v := ?_) (a' := ?_) #[true, true, true, true, true, false, false, false, false, false, false, false, false, false, false, false, false, false] rfl rfl (by kernel_rfl) (fun _ _ _ h => h) (Or.inl ⟨by rfl, ?_⟩) hHeld ?_ ?_
    rotate_left
    ·intro w' hS
     have s0 := pw_cell_below hS y0
     have s1 := pw_cell_below hS y1
     have s2 := pw_cell_below hS y2
     go_simp
     with_reducible rfl
    rotate_left
    ·simp only [Act.put, sa_, s0_, s1_, i64_w, i32_w]
     rfl
    refine pure_ (i := 5) (N := some 198) (v := ?_) (a' := ?_) #[true, true, true, true, true, true, false, false, false, false, false, false, false, false, false, false, false, false] rfl rfl (by kernel_rfl) (fun _ _ _ h => h) (Or.inl ⟨by rfl, ?_⟩) ?_ ?_
    rotate_left
    ·intro w'
     go_simp
     with_reducible rfl
    rotate_left
    ·simp only [Act.put, sa_, s0_, s1_, i64_w, i32_w]
     rfl
    refine pure_ (i := 6) (N := some 199) (v := ?_) (a' := ?_) #[true, true, true, true, true, true, true, false, false, false, false, false, false, false, false, false, false, false] rfl rfl (by kernel_rfl) (fun _ _ _ h => h) (Or.inl ⟨by rfl, ?_⟩) ?_ ?_
    rotate_left
    ·intro w'
     go_simp
     with_reducible rfl
    rotate_left
    ·simp only [Act.put, sa_, s0_, s1_, i64_w, i32_w]
     rfl
    refine pure_ (i := 7) (N := some 200) (v := undef) (a' := ?_) #[true, true, true, true, true, true, true, true, false, false, false, false, false, false, false, false, false, false] rfl rfl (by kernel_rfl) (fun _ _ _ h => h) (Or.inr ⟨by rfl, rfl⟩) ?_ ?_
    rotate_left
    ·simp only [Act.put, sa_, s0_, s1_, i64_w, i32_w]
     rfl
    refine pure_ (i := 8) (N := some 201) (v := undef) (a' := ?_) #[true, true, true, true, true, true, true, true, true, false, false, false, false, false, false, false, false, false] rfl rfl (by kernel_rfl) (fun _ _ _ h => h) (Or.inr ⟨by rfl, rfl⟩) ?_ ?_
    rotate_left
    ·simp only [Act.put, sa_, s0_, s1_, i64_w, i32_w]
     rfl
    refine pure_ (i := 9) (N := some 202) (v := undef) (a' := ?_) #[true, true, true, true, true, true, true, true, true, true, false, false, false, false, false, false, false, false] rfl rfl (by kernel_rfl) (fun _ _ _ h => h) (Or.inr ⟨by rfl, rfl⟩) ?_ ?_
    rotate_left
    ·simp only [Act.put, sa_, s0_, s1_, i64_w, i32_w]
     rfl
    refine pure_ (i := 10) (N := some 203) (v := undef) (a' := ?_) #[true, true, true, true, true, true, true, true, true, true, true, false, false, false, false, false, false, false] rfl rfl (by kernel_rfl) (fun _ _ _ h => h) (Or.inr ⟨by rfl, rfl⟩) ?_ ?_
    rotate_left
    ·simp only [Act.put, sa_, s0_, s1_, i64_w, i32_w]
     rfl
    refine pure_ (i := 11) (N := some 204) (v := undef) (a' := ?_) #[true, true, true, true, true, true, true, true, true, true, true, true, false, false, false, false, false, false] rfl rfl (by kernel_rfl) (fun _ _ _ h => h) (Or.inr ⟨by rfl, rfl⟩) ?_ ?_
    rotate_left
    ·simp only [Act.put, sa_, s0_, s1_, i64_w, i32_w]
     rfl
    refine pure_ (i := 12) (N := some 205) (v := undef) (a' := ?_) #[true, true, true, true, true, true, true, true, true, true, true, true, true, false, false, false, false, false] rfl rfl (by kernel_rfl) (fun _ _ _ h => h) (Or.inr ⟨by rfl, rfl⟩) ?_ ?_
    rotate_left
    ·simp only [Act.put, sa_, s0_, s1_, i64_w, i32_w]
     rfl
    refine pure_ (i := 13) (N := some 206) (v := ?_) (a' := ?_) #[true, true, true, true, true, true, true, true, true, true, true, true, true, true, false, false, false, false] rfl rfl (by kernel_rfl) (fun _ _ _ h => h) (Or.inl ⟨by rfl, ?_⟩) ?_ ?_
    rotate_left
    ·intro w'
     go_simp
     with_reducible rfl
    rotate_left
    ·simp only [Act.put, sa_, s0_, s1_, i64_w, i32_w]
     rfl
    refine pure_ (i := 14) (N := some 18) (v := ?_) (a' := ?_) #[true, true, true, true, true, true, true, true, true, true, true, true, true, true, true, false, false, false] rfl rfl (by kernel_rfl) (fun _ _ _ h => h) (Or.inl ⟨by rfl, ?_⟩) ?_ ?_
    rotate_left
    ·intro w'
     go_simp
     with_reducible rfl
    rotate_left
    ·simp only [Act.put, sa_, s0_, s1_, i64_w, i32_w]
     rfl
    refine one_ (i := 15) (N := some 207) #[true, true, true, true, true, true, true, true, true, true, true, true, true, true, true, true, false, false] rfl rfl (by kernel_rfl) (by decide) (fun K hK => ?_)
    obtain ⟨vz, st, w2, hent, hb2, w3, hst, hown3, hb3⟩ := ent117 (wb := w) hown hHeld hBw.out hzok.out hnl.out
    refine value_ (v := .tuple #[vz, .int .i64 ((st : Nat) : Int)]) (w1 := w2) (by rfl) rfl (by first | (go_simp; done) | (go_simp; rfl)) ?_
    refine hK.out _ _ hb2 (fun hHeld => ?_)
    clear hK K
    refine norm_ (a' := ?_) ?_ ?_
    rotate_left
    ·show Act.put _ (some 207) _ = _
     simp only [Act.put, sa_, s0_, s1_, i64_w, i32_w]
     rfl
    refine pure_ (i := 16) (N := some 208) (v := ?_) (a' := ?_) #[true, true, true, true, true, true, true, true, true, true, true, true, true, true, true, true, true, false] rfl rfl (by kernel_rfl) (fun _ _ _ h => h) (Or.inl ⟨by rfl, ?_⟩) ?_ ?_
    rotate_left
    ·intro w'
     go_simp
     with_reducible rfl
    rotate_left
    ·simp only [Act.put, sa_, s0_, s1_, i64_w, i32_w]
     rfl
    refine one_ (i := 17) (N := none) #[true, true, true, true, true, true, true, true, true, true, true, true, true, true, true, true, true, true] rfl rfl (by kernel_rfl) (by decide) (fun K hK => ?_)
    refine skip_ (w1 := w3) (by rfl) rfl (by first | (go_simp; done) | (go_simp; rfl)) ?_
    refine hK.out _ _ hb3 (fun hHeld => ?_)
    clear hK K
    refine done_ (by kernel_rfl) ?_
    go_wp2
    go_roundw
    case rel => exact ⟨i + 1, n + 1, of_eq_true pt, by omega, by rw [hvz.out], by go_num, by rw [hsn.out]; exact hown3, hb3⟩
    case measure => rw [hwi]; exact meas_lt (of_eq_true pt)
   ·rw [decide_eq_false hxi]
    have hvz : Aside0 (decide (x ∈ c.take (i + 1)) = (z.f0 == x.f0 && (z.f1 == x.f1 && z.f2 == x.f2))) := ⟨by rw [hsn.out, eq79]; simp [hxi, eq_comm]⟩
    clear hxi
    go_wp2
    refine start_ (n := 18) (S := fun w' => Below w.heap.size w w') (ds := []) #[false, false, false, false, false, false, false, false, false, false, false, false, false, false, false, false, false, false] (by kernel_rfl) rfl rfl (below_drew hbr) (fun hHeld => ?_)
    replace hown : OwnC wr.drew B n (c.take i) := hown
    generalize wr.drew = wd at hHeld hown ⊢
    refine pure_ (i := 0) (N := some 193) (v := ?_) (a' := ?_) #[true, false, false, false, false, false, false, false, false, false, false, false, false, false, false, false, false, false] rfl rfl (by kernel_rfl) (fun _ _ _ h => h) (Or.inl ⟨by rfl, ?_⟩) ?_ ?_
    rotate_left
    ·intro w'
     go_simp
     with_reducible rfl
    rotate_left
    ·simp only [Act.put, sa_, s0_, s1_, i64_w, i32_w]
     rfl
    refine pure_ (i := 1) (N := some 194) (v := ?_) (a' := ?_) #[true, true, false, false, false, false, false, false, false, false, false, false, false, false, false, false, false, false] rfl rfl (by kernel_rfl) (fun _ _ _ h => h) (Or.inl ⟨by rfl, ?_⟩) ?_ ?_
    rotate_left
    ·intro w'
     go_simp
     with_reducible rfl
    rotate_left
    ·simp only [Act.put, sa_, s0_, s1_, i64_w, i32_w]
     rfl
    refine pure_ (i := 2) (N := some 195) (v := ?_) (a' := ?_) #[true, true, true, false, false, false, false, false, false, false, false, false, false, false, false, false, false, false] rfl rfl (by kernel_rfl) (fun _ _ _ h => h) (Or.inl ⟨by rfl, ?_⟩) ?_ ?_
    rotate_left
    ·intro w'
     go_simp
     with_reducible rfl
    rotate_left
    ·simp only [Act.put, sa_, s0_, s1_, i64_w, i32_w]
     rfl
    refine pure_ (i := 3) (N := some 196) (v := ?_) (a' := ?_) #[true, true, true, true, false, false, false, false, false, false, false, false, false, false, false, false, false, false] rfl rfl (by kernel_rfl) (fun _ _ _ h => h) (Or.inl ⟨by rfl, ?_⟩) ?_ ?_
    rotate_left
    ·intro w'
     go_simp
     with_reducible rfl
    rotate_left
    ·simp only [Act.put, sa_, s0_, s1_, i64_w, i32_w]
     rfl
    refine take_ (i := 4) (N := some 197) (v := ?_) (a' := ?_) #[true, true, true, true, true, false, false, false, false, false, false, false, false, false, false, false, false, false] rfl rfl (by kernel_rfl) (fun _ _ _ h => h) (Or.inl ⟨by rfl, ?_⟩) hHeld ?_ ?_
    rotate_left
    ·intro w' hS
     have s0 := pw_cell_below hS y0
     have s1 := pw_cell_below hS y1
     have s2 := pw_cell_below hS y2
     go_simp
     with_reducible rfl
    rotate_left
    ·simp only [Act.put, sa_, s0_, s1_, i64_w, i32_w]
     rfl
    refine pure_ (i := 5) (N := some 198) (v := ?_) (a' := ?_) #[true, true, true, true, true, true, false, false, false, false, false, false, false, false, false, false, false, false] rfl rfl (by kernel_rfl) (fun _ _ _ h => h) (Or.inl ⟨by rfl, ?_⟩) ?_ ?_
    rotate_left
    ·intro w'
     go_simp
     with_reducible rfl
    rotate_left
    ·simp only [Act.put, sa_, s0_, s1_, i64_w, i32_w]
     rfl
    refine pure_ (i := 6) (N := some 199) (v := ?_) (a' := ?_) #[true, true, true, true, true, true, true, false, false, false, false, false, false, false, false, false, false, false] rfl rfl (by kernel_rfl) (fun _ _ _ h => h) (Or.inl ⟨by rfl, ?_⟩) ?_ ?_
    rotate_left
    ·intro w'
     go_simp
     with_reducible rfl
    rotate_left
    ·simp only [Act.put, sa_, s0_, s1_, i64_w, i32_w]
     rfl
    refine pure_ (i := 7) (N := some 200) (v := ?_) (a' := ?_) #[true, true, true, true, true, true, true, true, false, false, false, false, false, false, false, false, false, false] rfl rfl (by kernel_rfl) (fun _ _ _ h => h) (Or.inl ⟨by rfl, ?_⟩) ?_ ?_
    rotate_left
    ·intro w'
     go_simp
     with_reducible rfl
    rotate_left
    ·simp only [Act.put, sa_, s0_, s1_, i64_w, i32_w]
     rfl
    refine pure_ (i := 8) (N := some 201) (v := ?_) (a' := ?_) #[true, true, true, true, true, true, true, true, true, false, false, false, false, false, false, false, false, false] rfl rfl (by kernel_rfl) (fun _ _ _ h => h) (Or.inl ⟨by rfl, ?_⟩) ?_ ?_
    rotate_left
    ·intro w'
     go_simp
     with_reducible rfl
    rotate_left
    ·simp only [Act.put, sa_, s0_, s1_, i64_w, i32_w]
     rfl
    refine pure_ (i := 9) (N := some 202) (v := ?_) (a' := ?_) #[true, true, true, true, true, true, true, true, true, true, false, false, false, false, false, false, false, false] rfl rfl (by kernel_rfl) (fun _ _ _ h => h) (Or.inl ⟨by rfl, ?_⟩) ?_ ?_
    rotate_left
    ·intro w'
     go_simp
     with_reducible rfl
    rotate_left
    ·simp only [Act.put, sa_, s0_, s1_, i64_w, i32_w]
     rfl
    refine take_ (i := 10) (N := some 203) (v := ?_) (a' := ?_) #[true, true, true, true, true, true, true, true, true, true, true, false, false, false, false, false, false, false] rfl rfl (by kernel_rfl) (fun _ _ _ h => h) (Or.inl ⟨by rfl, ?_⟩) hHeld ?_ ?_
    rotate_left
    ·intro w' hS
     have s0 := pw_cell_below hS y0
     have s1 := pw_cell_below hS y1
     have s2 := pw_cell_below hS y2
     go_simp
     with_reducible rfl
    rotate_left
    ·simp only [Act.put, sa_, s0_, s1_, i64_w, i32_w]
     rfl
    refine take_ (i := 11) (N := some 204) (v := ?_) (a' := ?_) #[true, true, true, true, true, true, true, true, true, true, true, true, false, false, false, false, false, false] rfl rfl (by kernel_rfl) (fun _ _ _ h => h) (Or.inl ⟨by rfl, ?_⟩) hHeld ?_ ?_
    rotate_left
    ·intro w' hS
     have s0 := pw_cell_below hS x0
     have s1 := pw_cell_below hS x1
     have s2 := pw_cell_below hS x2
     go_simp
     with_reducible rfl
    rotate_left
    ·simp only [Act.put, sa_, s0_, s1_, i64_w, i32_w]
     rfl
    refine pure_ (i := 12) (N := some 205) (v := ?_) (a' := ?_) #[true, true, true, true, true, true, true, true, true, true, true, true, true, false, false, false, false, false] rfl rfl (by kernel_rfl) (fun _ _ _ h => h) (Or.inl ⟨by rfl, ?_⟩) ?_ ?_
    rotate_left
    ·intro w'
     go_simp
     with_reducible rfl
    rotate_left
    ·simp only [Act.put, sa_, s0_, s1_, i64_w, i32_w]
     rfl
    refine pure_ (i := 13) (N := some 206) (v := ?_) (a' := ?_) #[true, true, true, true, true, true, true, true, true, true, true, true, true, true, false, false, false, false] rfl rfl (by kernel_rfl) (fun _ _ _ h => h) (Or.inl ⟨by rfl, ?_⟩) ?_ ?_
    rotate_left
    ·intro w'
     go_simp
     with_reducible rfl
    rotate_left
    ·simp only [Act.put, sa_, s0_, s1_, i64_w, i32_w]
     rfl
    refine pure_ (i := 14) (N := some 18) (v := ?_) (a' := ?_) #[true, true, true, true, true, true, true, true, true, true, true, true, true, true, true, false, false, false] rfl rfl (by kernel_rfl) (fun _ _ _ h => h) (Or.inl ⟨by rfl, ?_⟩) ?_ ?_
    rotate_left
    ·intro w'
     go_simp
     with_reducible rfl
    rotate_left
    ·simp only [Act.put, sa_, s0_, s1_, i64_w, i32_w]
     rfl
    refine one_ (i := 15) (N := some 207) #[true, true, true, true, true, true, true, true, true, true, true, true, true, true, true, true, false, false] rfl rfl (by kernel_rfl) (by decide) (fun K hK => ?_)
    obtain ⟨vz, st, w2, hent, hb2, w3, hst, hown3, hb3⟩ := ent117 (wb := w) hown hHeld hBw.out hzok.out hnl.out
    refine value_ (v := .tuple #[vz, .int .i64 ((st : Nat) : Int)]) (w1 := w2) (by rfl) rfl (by first | (go_simp; done) | (go_simp; rfl)) ?_
    refine hK.out _ _ hb2 (fun hHeld => ?_)
    clear hK K
    refine norm_ (a' := ?_) ?_ ?_
    rotate_left
    ·show Act.put _ (some 207) _ = _
     simp only [Act.put, sa_, s0_, s1_, i64_w, i32_w]
     rfl
    refine pure_ (i := 16) (N := some 208) (v := ?_) (a' := ?_) #[true, true, true, true, true, true, true, true, true, true, true, true, true, true, true, true, true, false] rfl rfl (by kernel_rfl) (fun _ _ _ h => h) (Or.inl ⟨by rfl, ?_⟩) ?_ ?_
    rotate_left
    ·intro w'
     go_simp
     with_reducible rfl
    rotate_left
    ·simp only [Act.put, sa_, s0_, s1_, i64_w, i32_w]
     rfl
    refine one_ (i := 17) (N := none) #[true, true, true, true, true, true, true, true, true, true, true, true, true, true, true, true, true, true] rfl rfl (by kernel_rfl) (by decide) (fun K hK => ?_)
    refine skip_ (w1 := w3) (by rfl) rfl (by first | (go_simp; done) | (go_simp; rfl)) ?_
    refine hK.out _ _ hb3 (fun hHeld => ?_)
    clear hK K
    refine done_ (by kernel_rfl) ?_
    go_wp2
    go_roundw
    case rel => exact ⟨i + 1, n + 1, of_eq_true pt, by omega, by rw [hvz.out], by go_num, by rw [hsn.out]; exact hown3, hb3⟩
    case measure => rw [hwi]; exact meas_lt (of_eq_true pt)
  ·obtain rfl : i = c.length := by omega
   rw [List.take_length] at hown ⊢
   rw [decide_eq_true hxc.out]
   have pn : decide (c.length < c.length) = false := decide_eq_false hlt
   have pb : decide ((c.length : Int) < (c.length : Int)) = false := decide_eq_false (by omega)
   have hAt0 := AtD_set hokc.out
   have hsz0 := size_set hokc.out hcn.out
   clear hlt hi
   go_wp2
   have hA0 : AtD (setC c) (fun z => decide (z ∈ c ∧ z ∉ first.take 0)) := by simpa using hAt0
   have hS0 : Maps.size (setC c) = (c.filter fun z => decide (z ∉ first.take 0)).length := by rw [hsz0, List.filter_eq_self.2 (fun z _ => by simp)]
   replace hA0 := Aside0.mk hA0
   replace hS0 := Aside0.mk hS0
   clear hAt0 hsz0
   go_loopw [21] (fun v21 wr => ∃ (i m : Nat) (D : DataW Unit), i ≤ first.length ∧ v21 = .int .i64 i ∧ OwnD wr B m D ∧ AtD D (fun z => decide (z ∈ c ∧ z ∉ first.take i)) ∧ Maps.size D = (c.filter fun z => decide (z ∉ first.take i)).length ∧ Below w.heap.size w wr) (fun v21 _ => first.length - (intOf v21).toNat)
   case atStart => exact ⟨0, n, setC c, Nat.zero_le _, rfl, hown, hA0.out, hS0.out, hbr⟩
   case round =>
    clear hA0 hS0 hown hbr pn pb hn
    obtain ⟨i, m, D, hi, rfl, hownD, hAt, hsz, hbr1⟩ := hrel
    by_cases hlt : i < first.length
    ·have pn : decide (i < first.length) = true := decide_eq_true hlt
     have pb : decide ((i : Int) < (first.length : Int)) = true := decide_eq_true (by omega)
     have pt := eq_true hlt
     have pi : ((i : Int) < (first.length : Int)) = True := eq_true (by omega)
     have pj : (0 ≤ (i : Int)) = True := eq_true (by omega)
     obtain ⟨ad, e16, z0, z1, z2⟩ := at_T79 h16.out (i : Int) (by omega) (by omega)
     rw [show rd_T79 first (i : Int) = first[i] by simp [rd_T79, hlt], Int.toNat_natCast] at z0 z1 z2
     have hzm := Aside0.mk (List.getElem_mem hlt)
     have hzok := Aside0.mk (hokf.out first[i] hzm.out)
     obtain ⟨hst1, hst2⟩ := left_step (c := c) hlt hfn.out
     have hsz1 := left_size hlt hfn.out hcn.out
     have hpz : Aside0 (decide (first[i] ∈ c ∧ first[i] ∉ first.take i) = decide (first[i] ∈ c)) := ⟨by simp [hst2]⟩
     have hbz := Aside0.mk (hb0.out first[i] hzm.out)
     have hez := Aside0.mk (hex.out first[i] hzm.out)
     replace hst1 := Aside0.mk hst1
     replace hsz1 := Aside0.mk hsz1
     replace hsz := Aside0.mk hsz
     replace hAt := Aside0.mk hAt
     clear hst2
     have hwi : wrap64 ((i : Int) + 1) = ((i + 1 : Nat) : Int) := by have := hlen.out; rw [wrap64_id (by omega) (by omega)]; rfl
     generalize first[i] = z at z0 z1 z2 hzm hzok hst1 hsz1 hpz hbz hez
     subst e16
     have hL0 : Aside0 ((([] : List S58).all fun y => hs y z == hs y x) = true) := ⟨rfl⟩
     go_wp2
     go_loopw [22, 23] (fun v22 v23 wr => ∃ (j : Nat), j ≤ lots.length ∧ v22 = .bool ((lots.take j).all fun y => hs y z == hs y x) ∧ v23 = .int .i64 j ∧ OwnD wr B m D ∧ Below w.heap.size w wr) (fun _ v23 _ => lots.length - (intOf v23).toNat)
     case atStart => exact ⟨0, Nat.zero_le _, by simp, rfl, hownD, hbr1⟩
     case round =>
      obtain ⟨j, hj, rfl, rfl, hown2, hbr2⟩ := hrel
      clear hownD hbr1
      by_cases hjt : j < lots.length
      ·have pn2 : decide (j < lots.length) = true := decide_eq_true hjt
       have pb2 : decide ((j : Int) < (lots.length : Int)) = true := decide_eq_true (by omega)
       have pt2 := eq_true hjt
       have pi2 : ((j : Int) < (lots.length : Int)) = True := eq_true (by omega)
       have pj2 : (0 ≤ (j : Int)) = True := eq_true (by omega)
       obtain ⟨ad6, e6, u0, u1, u2⟩ := at_T58 h6.out (j : Int) (by omega) (by omega)
       rw [show rd_T58 lots (j : Int) = lots[j] by simp [rd_T58, hjt], Int.toNat_natCast] at u0 u1 u2
       have hym := List.getElem_mem hjt
       have hyz := Aside0.mk (hhas.out lots[j] hym z (Or.inl hzm.out))
       have hyx := Aside0.mk (hhas.out lots[j] hym x (Or.inr rfl))
       have hall := Aside0.mk (all_step lots (fun y => hs y z == hs y x) hjt)
       clear hym
       have hwj : wrap64 ((j : Int) + 1) = ((j + 1 : Nat) : Int) := by have := hlen.out; rw [wrap64_id (by omega) (by omega)]; rfl
       generalize lots[j] = y at u0 u1 u2 hyz hyx hall
       subst e6
       have x0 := x0.out
       have x1 := x1.out
       have x2 := x2.out
       cases hbe : ((lots.take j).all fun y => hs y z == hs y x)
       ·have hvz : Aside0 (((lots.take (j + 1)).all fun y => hs y z == hs y x) = false) := ⟨by rw [hall.out, hbe]; rfl⟩
        clear hbe hall
        go_wp2
        refine start_ (n := 22) (S := fun w' => Below w.heap.size w w' ∧ OwnD w' B m D) (ds := []) #[false, false, false, false, false, false, false, false, false, false, false, false, false, false, false, false, false, false, false, false, false, false] (by kernel_rfl) rfl rfl ⟨below_drew hbr2, hown2⟩ (fun hHeld => ?_)
        generalize wr.drew = wd at hHeld ⊢
        refine pure_ (i := 0) (N := some 221) (v := ?_) (a' := ?_) #[true, false, false, false, false, false, false, false, false, false, false, false, false, false, false, false, false, false, false, false, false, false] rfl rfl (by kernel_rfl) (fun _ _ _ h => h) (Or.inl ⟨by rfl, ?_⟩) ?_ ?_
        rotate_left
        ·intro w'
         go_simp
         with_reducible rfl
        rotate_left
        ·simp only [Act.put, sa_, s0_, s1_, i64_w, i32_w]
         rfl
        refine pure_ (i := 1) (N := some 222) (v := ?_) (a' := ?_) #[true, true, false, false, false, false, false, false, false, false, false, false, false, false, false, false, false, false, false, false, false, false] rfl rfl (by kernel_rfl) (fun _ _ _ h => h) (Or.inl ⟨by rfl, ?_⟩) ?_ ?_
        rotate_left
        ·intro w'
         go_simp
         with_reducible rfl
        rotate_left
        ·simp only [Act.put, sa_, s0_, s1_, i64_w, i32_w]
         rfl
        refine pure_ (i := 2) (N := some 223) (v := undef) (a' := ?_) #[true, true, true, false, false, false, false, false, false, false, false, false, false, false, false, false, false, false, false, false, false, false] rfl rfl (by kernel_rfl) (fun _ _ _ h => h) (Or.inr ⟨by rfl, rfl⟩) ?_ ?_
        rotate_left
        ·simp only [Act.put, sa_, s0_, s1_, i64_w, i32_w]
         rfl
        refine pure_ (i := 3) (N := some 224) (v := undef) (a' := ?_) #[true, true, true, true, false, false, false, false, false, false, false, false, false, false, false, false, false, false, false, false, false, false] rfl rfl (by kernel_rfl) (fun _ _ _ h => h) (Or.inr ⟨by rfl, rfl⟩) ?_ ?_
        rotate_left
        ·simp only [Act.put, sa_, s0_, s1_, i64_w, i32_w]
         rfl
        refine pure_ (i := 4) (N := some 225) (v := undef) (a' := ?_) #[true, true, true, true, true, false, false, false, false, false, false, false, false, false, false, false, false, false, false, false, false, false] rfl rfl (by kernel_rfl) (fun _ _ _ h => h) (Or.inr ⟨by rfl, rfl⟩) ?_ ?_
        rotate_left
        ·simp only [Act.put, sa_, s0_, s1_, i64_w, i32_w]
         rfl
        refine pure_ (i := 5) (N := some 226) (v := undef) (a' := ?_) #[true, true, true, true, true, true, false, false, false, false, false, false, false, false, false, false, false, false, false, false, false, false] rfl rfl (by kernel_rfl) (fun _ _ _ h => h) (Or.inr ⟨by rfl, rfl⟩) ?_ ?_
        rotate_left
        ·simp only [Act.put, sa_, s0_, s1_, i64_w, i32_w]
         rfl
        refine pure_ (i := 6) (N := some 227) (v := undef) (a' := ?_) #[true, true, true, true, true, true, true, false, false, false, false, false, false, false, false, false, false, false, false, false, false, false] rfl rfl (by kernel_rfl) (fun _ _ _ h => h) (Or.inr ⟨by rfl, rfl⟩) ?_ ?_
        rotate_left
        ·simp only [Act.put, sa_, s0_, s1_, i64_w, i32_w]
         rfl
        refine pure_ (i := 7) (N := some 228) (v := undef) (a' := ?_) #[true, true, true, true, true, true, true, true, false, false, false, false, false, false, false, false, false, false, false, false, false, false] rfl rfl (by kernel_rfl) (fun _ _ _ h => h) (Or.inr ⟨by rfl, rfl⟩) ?_ ?_
        rotate_left
        ·simp only [Act.put, sa_, s0_, s1_, i64_w, i32_w]
         rfl
        refine pure_ (i := 8) (N := some 229) (v := undef) (a' := ?_) #[true, true, true, true, true, true, true, true, true, false, false, false, false, false, false, false, false, false, false, false, false, false] rfl rfl (by kernel_rfl) (fun _ _ _ h => h) (Or.inr ⟨by rfl, rfl⟩) ?_ ?_
        rotate_left
        ·simp only [Act.put, sa_, s0_, s1_, i64_w, i32_w]
         rfl
        refine pure_ (i := 9) (N := some 230) (v := undef) (a' := ?_) #[true, true, true, true, true, true, true, true, true, true, false, false, false, false, false, false, false, false, false, false, false, false] rfl rfl (by kernel_rfl) (fun _ _ _ h => h) (Or.inr ⟨by rfl, rfl⟩) ?_ ?_
        rotate_left
        ·simp only [Act.put, sa_, s0_, s1_, i64_w, i32_w]
         rfl
        refine pure_ (i := 10) (N := some 231) (v := undef) (a' := ?_) #[true, true, true, true, true, true, true, true, true, true, true, false, false, false, false, false, false, false, false, false, false, false] rfl rfl (by kernel_rfl) (fun _ _ _ h => h) (Or.inr ⟨by rfl, rfl⟩) ?_ ?_
        rotate_left
        ·simp only [Act.put, sa_, s0_, s1_, i64_w, i32_w]
         rfl
        refine pure_ (i := 11) (N := some 232) (v := undef) (a' := ?_) #[true, true, true, true, true, true, true, true, true, true, true, true, false, false, false, false, false, false, false, false, false, false] rfl rfl (by kernel_rfl) (fun _ _ _ h => h) (Or.inr ⟨by rfl, rfl⟩) ?_ ?_
        rotate_left
        ·simp only [Act.put, sa_, s0_, s1_, i64_w, i32_w]
         rfl
        refine pure_ (i := 12) (N := some 233) (v := undef) (a' := ?_) #[true, true, true, true, true, true, true, true, true, true, true, true, true, false, false, false, false, false, false, false, false, false] rfl rfl (by kernel_rfl) (fun _ _ _ h => h) (Or.inr ⟨by rfl, rfl⟩) ?_ ?_
        rotate_left
        ·simp only [Act.put, sa_, s0_, s1_, i64_w, i32_w]
         rfl
        refine pure_ (i := 13) (N := some 234) (v := undef) (a' := ?_) #[true, true, true, true, true, true, true, true, true, true, true, true, true, true, false, false, false, false, false, false, false, false] rfl rfl (by kernel_rfl) (fun _ _ _ h => h) (Or.inr ⟨by rfl, rfl⟩) ?_ ?_
        rotate_left
        ·simp only [Act.put, sa_, s0_, s1_, i64_w, i32_w]
         rfl
        refine pure_ (i := 14) (N := some 235) (v := undef) (a' := ?_) #[true, true, true, true, true, true, true, true, true, true, true, true, true, true, true, false, false, false, false, false, false, false] rfl rfl (by kernel_rfl) (fun _ _ _ h => h) (Or.inr ⟨by rfl, rfl⟩) ?_ ?_
        rotate_left
        ·simp only [Act.put, sa_, s0_, s1_, i64_w, i32_w]
         rfl
        refine pure_ (i := 15) (N := some 236) (v := undef) (a' := ?_) #[true, true, true, true, true, true, true, true, true, true, true, true, true, true, true, true, false, false, false, false, false, false] rfl rfl (by kernel_rfl) (fun _ _ _ h => h) (Or.inr ⟨by rfl, rfl⟩) ?_ ?_
        rotate_left
        ·simp only [Act.put, sa_, s0_, s1_, i64_w, i32_w]
         rfl
        refine pure_ (i := 16) (N := some 237) (v := undef) (a' := ?_) #[true, true, true, true, true, true, true, true, true, true, true, true, true, true, true, true, true, false, false, false, false, false] rfl rfl (by kernel_rfl) (fun _ _ _ h => h) (Or.inr ⟨by rfl, rfl⟩) ?_ ?_
        rotate_left
        ·simp only [Act.put, sa_, s0_, s1_, i64_w, i32_w]
         rfl
        refine pure_ (i := 17) (N := some 238) (v := undef) (a' := ?_) #[true, true, true, true, true, true, true, true, true, true, true, true, true, true, true, true, true, true, false, false, false, false] rfl rfl (by kernel_rfl) (fun _ _ _ h => h) (Or.inr ⟨by rfl, rfl⟩) ?_ ?_
        rotate_left
        ·simp only [Act.put, sa_, s0_, s1_, i64_w, i32_w]
         rfl
        refine pure_ (i := 18) (N := some 239) (v := undef) (a' := ?_) #[true, true, true, true, true, true, true, true, true, true, true, true, true, true, true, true, true, true, true, false, false, false] rfl rfl (by kernel_rfl) (fun _ _ _ h => h) (Or.inr ⟨by rfl, rfl⟩) ?_ ?_
        rotate_left
        ·simp only [Act.put, sa_, s0_, s1_, i64_w, i32_w]
         rfl
        refine pure_ (i := 19) (N := some 240) (v := undef) (a' := ?_) #[true, true, true, true, true, true, true, true, true, true, true, true, true, true, true, true, true, true, true, true, false, false] rfl rfl (by kernel_rfl) (fun _ _ _ h => h) (Or.inr ⟨by rfl, rfl⟩) ?_ ?_
        rotate_left
        ·simp only [Act.put, sa_, s0_, s1_, i64_w, i32_w]
         rfl
        refine pure_ (i := 20) (N := some 241) (v := ?_) (a' := ?_) #[true, true, true, true, true, true, true, true, true, true, true, true, true, true, true, true, true, true, true, true, true, false] rfl rfl (by kernel_rfl) (fun _ _ _ h => h) (Or.inl ⟨by rfl, ?_⟩) ?_ ?_
        rotate_left
        ·intro w'
         go_simp
         with_reducible rfl
        rotate_left
        ·simp only [Act.put, sa_, s0_, s1_, i64_w, i32_w]
         rfl
        refine pure_ (i := 21) (N := some 22) (v := ?_) (a' := ?_) #[true, true, true, true, true, true, true, true, true, true, true, true, true, true, true, true, true, true, true, true, true, true] rfl rfl (by kernel_rfl) (fun _ _ _ h => h) (Or.inl ⟨by rfl, ?_⟩) ?_ ?_
        rotate_left
        ·intro w'
         go_simp
         with_reducible rfl
        rotate_left
        ·simp only [Act.put, sa_, s0_, s1_, i64_w, i32_w]
         rfl
        refine done_ (by kernel_rfl) ?_
        go_wp2
        go_roundw
        case rel => exact ⟨j + 1, of_eq_true pt2, by rw [hvz.out], by go_num, hHeld.2, hHeld.1⟩
        case measure => rw [hwj]; exact meas_lt (of_eq_true pt2)
       ·have hvz : Aside0 (((lots.take (j + 1)).all fun y => hs y z == hs y x) = (hs y z == hs y x)) := ⟨by rw [hall.out, hbe]; rfl⟩
        clear hbe hall
        go_wp2
        refine start_ (n := 22) (S := fun w' => Below w.heap.size w w' ∧ OwnD w' B m D) (ds := []) #[false, false, false, false, false, false, false, false, false, false, false, false, false, false, false, false, false, false, false, false, false, false] (by kernel_rfl) rfl rfl ⟨below_drew hbr2, hown2⟩ (fun hHeld => ?_)
        generalize wr.drew = wd at hHeld ⊢
        refine pure_ (i := 0) (N := some 221) (v := ?_) (a' := ?_) #[true, false, false, false, false, false, false, false, false, false, false, false, false, false, false, false, false, false, false, false, false, false] rfl rfl (by kernel_rfl) (fun _ _ _ h => h) (Or.inl ⟨by rfl, ?_⟩) ?_ ?_
        rotate_left
        ·intro w'
         go_simp
         with_reducible rfl
        rotate_left
        ·simp only [Act.put, sa_, s0_, s1_, i64_w, i32_w]
         rfl
        refine pure_ (i := 1) (N := some 222) (v := ?_) (a' := ?_) #[true, true, false, false, false, false, false, false, false, false, false, false, false, false, false, false, false, false, false, false, false, false] rfl rfl (by kernel_rfl) (fun _ _ _ h => h) (Or.inl ⟨by rfl, ?_⟩) ?_ ?_
        rotate_left
        ·intro w'
         go_simp
         with_reducible rfl
        rotate_left
        ·simp only [Act.put, sa_, s0_, s1_, i64_w, i32_w]
         rfl
        refine pure_ (i := 2) (N := some 223) (v := ?_) (a' := ?_) #[true, true, true, false, false, false, false, false, false, false, false, false, false, false, false, false, false, false, false, false, false, false] rfl rfl (by kernel_rfl) (fun _ _ _ h => h) (Or.inl ⟨by rfl, ?_⟩) ?_ ?_
        rotate_left
        ·intro w'
         go_simp
         with_reducible rfl
        rotate_left
        ·simp only [Act.put, sa_, s0_, s1_, i64_w, i32_w]
         rfl
        refine pure_ (i := 3) (N := some 224) (v := ?_) (a' := ?_) #[true, true, true, true, false, false, false, false, false, false, false, false, false, false, false, false, false, false, false, false, false, false] rfl rfl (by kernel_rfl) (fun _ _ _ h => h) (Or.inl ⟨by rfl, ?_⟩) ?_ ?_
        rotate_left
        ·intro w'
         go_simp
         with_reducible rfl
        rotate_left
        ·simp only [Act.put, sa_, s0_, s1_, i64_w, i32_w]
         rfl
        refine pure_ (i := 4) (N := some 225) (v := ?_) (a' := ?_) #[true, true, true, true, true, false, false, false, false, false, false, false, false, false, false, false, false, false, false, false, false, false] rfl rfl (by kernel_rfl) (fun _ _ _ h => h) (Or.inl ⟨by rfl, ?_⟩) ?_ ?_
        rotate_left
        ·intro w'
         go_simp
         with_reducible rfl
        rotate_left
        ·simp only [Act.put, sa_, s0_, s1_, i64_w, i32_w]
         rfl
        refine pure_ (i := 5) (N := some 226) (v := ?_) (a' := ?_) #[true, true, true, true, true, true, false, false, false, false, false, false, false, false, false, false, false, false, false, false, false, false] rfl rfl (by kernel_rfl) (fun _ _ _ h => h) (Or.inl ⟨by rfl, ?_⟩) ?_ ?_
        rotate_left
        ·intro w'
         go_simp
         with_reducible rfl
        rotate_left
        ·simp only [Act.put, sa_, s0_, s1_, i64_w, i32_w]
         rfl
        refine take_ (i := 6) (N := some 227) (v := ?_) (a' := ?_) #[true, true, true, true, true, true, true, false, false, false, false, false, false, false, false, false, false, false, false, false, false, false] rfl rfl (by kernel_rfl) (fun _ _ _ h => h) (Or.inl ⟨by rfl, ?_⟩) hHeld ?_ ?_
        rotate_left
        ·intro w' hS
         have s0 := pw_cell_below hS.1 u0
         have s1 := pw_cell_below hS.1 u1
         have s2 := pw_cell_below hS.1 u2
         go_simp
         with_reducible rfl
        rotate_left
        ·simp only [Act.put, sa_, s0_, s1_, i64_w, i32_w]
         rfl
        refine pure_ (i := 7) (N := some 228) (v := ?_) (a' := ?_) #[true, true, true, true, true, true, true, true, false, false, false, false, false, false, false, false, false, false, false, false, false, false] rfl rfl (by kernel_rfl) (fun _ _ _ h => h) (Or.inl ⟨by rfl, ?_⟩) ?_ ?_
        rotate_left
        ·intro w'
         go_simp
         with_reducible rfl
        rotate_left
        ·simp only [Act.put, sa_, s0_, s1_, i64_w, i32_w]
         rfl
        refine pure_ (i := 8) (N := some 229) (v := ?_) (a' := ?_) #[true, true, true, true, true, true, true, true, true, false, false, false, false, false, false, false, false, false, false, false, false, false] rfl rfl (by kernel_rfl) (fun _ _ _ h => h) (Or.inl ⟨by rfl, ?_⟩) ?_ ?_
        rotate_left
        ·intro w'
         go_simp
         with_reducible rfl
        rotate_left
        ·simp only [Act.put, sa_, s0_, s1_, i64_w, i32_w]
         rfl
        refine pure_ (i := 9) (N := some 230) (v := ?_) (a' := ?_) #[true, true, true, true, true, true, true, true, true, true, false, false, false, false, false, false, false, false, false, false, false, false] rfl rfl (by kernel_rfl) (fun _ _ _ h => h) (Or.inl ⟨by rfl, ?_⟩) ?_ ?_
        rotate_left
        ·intro w'
         go_simp
         with_reducible rfl
        rotate_left
        ·simp only [Act.put, sa_, s0_, s1_, i64_w, i32_w]
         rfl
        refine take_ (i := 10) (N := some 231) (v := ?_) (a' := ?_) #[true, true, true, true, true, true, true, true, true, true, true, false, false, false, false, false, false, false, false, false, false, false] rfl rfl (by kernel_rfl) (fun _ _ _ h => h) (Or.inl ⟨by rfl, ?_⟩) hHeld ?_ ?_
        rotate_left
        ·intro w' hS
         have s0 := pw_cell_below hS.1 z0
         have s1 := pw_cell_below hS.1 z1
         have s2 := pw_cell_below hS.1 z2
         go_simp
         with_reducible rfl
        rotate_left
        ·simp only [Act.put, sa_, s0_, s1_, i64_w, i32_w]
         rfl
        refine pure_ (i := 12) (N := some 233) (v := ?_) (a' := ?_) #[true, true, true, true, true, true, true, true, true, true, true, false, true, false, false, false, false, false, false, false, false, false] rfl rfl (by kernel_rfl) (fun _ _ _ h => h) (Or.inl ⟨by rfl, ?_⟩) ?_ ?_
        rotate_left
        ·intro w'
         go_simp
         with_reducible rfl
        rotate_left
        ·simp only [Act.put, sa_, s0_, s1_, i64_w, i32_w]
         rfl
        refine pure_ (i := 13) (N := some 234) (v := ?_) (a' := ?_) #[true, true, true, true, true, true, true, true, true, true, true, false, true, true, false, false, false, false, false, false, false, false] rfl rfl (by kernel_rfl) (fun _ _ _ h => h) (Or.inl ⟨by rfl, ?_⟩) ?_ ?_
        rotate_left
        ·intro w'
         go_simp
         with_reducible rfl
        rotate_left
        ·simp only [Act.put, sa_, s0_, s1_, i64_w, i32_w]
         rfl
        refine pure_ (i := 14) (N := some 235) (v := ?_) (a' := ?_) #[true, true, true, true, true, true, true, true, true, true, true, false, true, true, true, false, false, false, false, false, false, false] rfl rfl (by kernel_rfl) (fun _ _ _ h => h) (Or.inl ⟨by rfl, ?_⟩) ?_ ?_
        rotate_left
        ·intro w'
         go_simp
         with_reducible rfl
        rotate_left
        ·simp only [Act.put, sa_, s0_, s1_, i64_w, i32_w]
         rfl
        refine pure_ (i := 15) (N := some 236) (v := ?_) (a' := ?_) #[true, true, true, true, true, true, true, true, true, true, true, false, true, true, true, true, false, false, false, false, false, false] rfl rfl (by kernel_rfl) (fun _ _ _ h => h) (Or.inl ⟨by rfl, ?_⟩) ?_ ?_
        rotate_left
        ·intro w'
         go_simp
         with_reducible rfl
        rotate_left
        ·simp only [Act.put, sa_, s0_, s1_, i64_w, i32_w]
         rfl
        refine take_ (i := 16) (N := some 237) (v := ?_) (a' := ?_) #[true, true, true, true, true, true, true, true, true, true, true, false, true, true, true, true, true, false, false, false, false, false] rfl rfl (by kernel_rfl) (fun _ _ _ h => h) (Or.inl ⟨by rfl, ?_⟩) hHeld ?_ ?_
        rotate_left
        ·intro w' hS
         have s0 := pw_cell_below hS.1 u0
         have s1 := pw_cell_below hS.1 u1
         have s2 := pw_cell_below hS.1 u2
         go_simp
         with_reducible rfl
        rotate_left
        ·simp only [Act.put, sa_, s0_, s1_, i64_w, i32_w]
         rfl
        refine take_ (i := 17) (N := some 238) (v := ?_) (a' := ?_) #[true, true, true, true, true, true, true, true, true, true, true, false, true, true, true, true, true, true, false, false, false, false] rfl rfl (by kernel_rfl) (fun _ _ _ h => h) (Or.inl ⟨by rfl, ?_⟩) hHeld ?_ ?_
        rotate_left
        ·intro w' hS
         have s0 := pw_cell_below hS.1 x0
         have s1 := pw_cell_below hS.1 x1
         have s2 := pw_cell_below hS.1 x2
         go_simp
         with_reducible rfl
        rotate_left
        ·simp only [Act.put, sa_, s0_, s1_, i64_w, i32_w]
         rfl
        refine one_ (i := 11) (N := some 232) #[true, true, true, true, true, true, true, true, true, true, true, true, true, true, true, true, true, true, false, false, false, false] rfl rfl (by kernel_rfl) (by decide) (fun K hK => ?_)
        refine goes_ Try.func53 (by kernel_rfl) rfl #[.slice A5 r.length c5, .agg #[.int .i64 y.f0, .int .i64 y.f1, .int .i64 y.f2], .agg #[.int .i64 z.f0, .int .i64 z.f1, .int .i64 z.f2]] (by rfl) rfl rfl (by (try simp only [List.map_toArray, List.map_cons, List.map_nil]); first | done | rfl) ?_
        with_reducible refine (acmelaw12_has.calls 1000 _ _ r _ _ _ _ _ _ (hs y z) _ (Kd.C_below h5.out hHeld.1) hc5.out hyz.out).mono ?_
        rintro e w9 ⟨rfl, hb⟩
        refine ⟨_, rfl, ?_⟩
        have hHn : Below w.heap.size w w9 ∧ OwnD w9 B m D := ⟨below_step hHeld.1 hb, hHeld.2.kept (grown_of_below hb none) (by simp)⟩
        clear hb hHeld
        refine hK.out _ _ hHn (fun hHeld => ?_)
        clear hK K
        refine norm_ (a' := ?_) ?_ ?_
        rotate_left
        ·show Act.put _ (some 232) _ = _
         simp only [Act.put, sa_, s0_, s1_, i64_w, i32_w]
         rfl
        refine one_ (i := 18) (N := some 239) #[true, true, true, true, true, true, true, true, true, true, true, true, true, true, true, true, true, true, true, false, false, false] rfl rfl (by kernel_rfl) (by decide) (fun K hK => ?_)
        refine goes_ Try.func53 (by kernel_rfl) rfl #[.slice A5 r.length c5, .agg #[.int .i64 y.f0, .int .i64 y.f1, .int .i64 y.f2], .agg #[.int .i64 x.f0, .int .i64 x.f1, .int .i64 x.f2]] (by rfl) rfl rfl (by (try simp only [List.map_toArray, List.map_cons, List.map_nil]); first | done | rfl) ?_
        with_reducible refine (acmelaw12_has.calls 1000 _ _ r _ _ _ _ _ _ (hs y x) _ (Kd.C_below h5.out hHeld.1) hc5.out hyx.out).mono ?_
        rintro e w9 ⟨rfl, hb⟩
        refine ⟨_, rfl, ?_⟩
        have hHn : Below w.heap.size w w9 ∧ OwnD w9 B m D := ⟨below_step hHeld.1 hb, hHeld.2.kept (grown_of_below hb none) (by simp)⟩
        clear hb hHeld
        refine hK.out _ _ hHn (fun hHeld => ?_)
        clear hK K
        refine norm_ (a' := ?_) ?_ ?_
        rotate_left
        ·show Act.put _ (some 239) _ = _
         simp only [Act.put, sa_, s0_, s1_, i64_w, i32_w]
         rfl
        refine pure_ (i := 19) (N := some 240) (v := ?_) (a' := ?_) #[true, true, true, true, true, true, true, true, true, true, true, true, true, true, true, true, true, true, true, true, false, false] rfl rfl (by kernel_rfl) (fun _ _ _ h => h) (Or.inl ⟨by rfl, ?_⟩) ?_ ?_
        rotate_left
        ·intro w'
         go_simp
         with_reducible rfl
        rotate_left
        ·simp only [Act.put, sa_, s0_, s1_, i64_w, i32_w]
         rfl
        refine pure_ (i := 20) (N := some 241) (v := ?_) (a' := ?_) #[true, true, true, true, true, true, true, true, true, true, true, true, true, true, true, true, true, true, true, true, true, false] rfl rfl (by kernel_rfl) (fun _ _ _ h => h) (Or.inl ⟨by rfl, ?_⟩) ?_ ?_
        rotate_left
        ·intro w'
         go_simp
         with_reducible rfl
        rotate_left
        ·simp only [Act.put, sa_, s0_, s1_, i64_w, i32_w]
         rfl
        refine pure_ (i := 21) (N := some 22) (v := ?_) (a' := ?_) #[true, true, true, true, true, true, true, true, true, true, true, true, true, true, true, true, true, true, true, true, true, true] rfl rfl (by kernel_rfl) (fun _ _ _ h => h) (Or.inl ⟨by rfl, ?_⟩) ?_ ?_
        rotate_left
        ·intro w'
         go_simp
         with_reducible rfl
        rotate_left
        ·simp only [Act.put, sa_, s0_, s1_, i64_w, i32_w]
         rfl
        refine done_ (by kernel_rfl) ?_
        go_wp2
        go_roundw
        case rel => exact ⟨j + 1, of_eq_true pt2, by rw [hvz.out], by go_num, hHeld.2, hHeld.1⟩
        case measure => rw [hwj]; exact meas_lt (of_eq_true pt2)
      ·obtain rfl : j = lots.length := by omega
       rw [List.take_length, hez.out]
       have pn2 : decide (lots.length < lots.length) = false := decide_eq_false hjt
       have pb2 : decide ((lots.length : Int) < (lots.length : Int)) = false := decide_eq_false (by omega)
       clear hjt hj
       obtain ⟨ad8, e8, q0, q1, q2⟩ := at_T58 h8.out 0 (by omega) (by have := hbad.out; omega)
       rw [show (0 : Int).toNat = 0 from rfl, show 0 * 3 = 0 from rfl, Addr.add_zero'] at q0 q1 q2
       have pb0 : ((0 : Int) < (bad.length : Int)) = True := eq_true (by have := hbad.out; omega)
       have pn0 : (0 < bad.length) = True := eq_true hbad.out
       have hkz : Aside0 (keyOf Try.prog 79 (.agg #[.int .i64 z.f0, .int .i64 z.f1, .int .i64 z.f2]) = some (litC z)) := ⟨key79 hzok.out⟩
       have hhD := hAt.out.has hzok.out
       have htd := hown2.tidy law79
       have hsd := size_del (k := litC z) htd
       have hAt2 := Aside0.mk (hAt.out.del hzok.out hst1.out)
       have hsz2 : Aside0 (Maps.size (D.del (litC z)) = (c.filter fun z => decide (z ∉ first.take (i + 1))).length) := ⟨by
        rw [hhD] at hsd
        rw [hpz.out] at hsd
        have h1 := hsz.out
        have h2 := hsz1.out
        by_cases g : z ∈ c
        ·rw [if_pos g] at h2; rw [if_pos (decide_eq_true g)] at hsd; omega
        ·rw [if_neg g] at h2; rw [if_neg (by simpa using g)] at hsd; omega⟩
       clear hhD htd hsd
       subst e8
       generalize decide (z ∈ c) = bz at hpz ⊢
       go_wp2
       have hbne : (bz != bz) = false := by cases bz <;> rfl
       refine start_ (n := 20) (S := fun w' => Below w.heap.size w w' ∧ OwnD w' B m D) (ds := []) #[false, false, false, false, false, false, false, false, false, false, false, false, false, false, false, false, false, false, false, false] (by kernel_rfl) rfl rfl ⟨below_drew hbr2, hown2⟩ (fun hHeld => ?_)
       generalize wr.drew = wd at hHeld ⊢
       refine pure_ (i := 0) (N := some 242) (v := ?_) (a' := ?_) #[true, false, false, false, false, false, false, false, false, false, false, false, false, false, false, false, false, false, false, false] rfl rfl (by kernel_rfl) (fun _ _ _ h => h) (Or.inl ⟨by rfl, ?_⟩) ?_ ?_
       rotate_left
       ·intro w'
        go_simp
        with_reducible rfl
       rotate_left
       ·simp only [Act.put, sa_, s0_, s1_, i64_w, i32_w]
        rfl
       refine pure_ (i := 1) (N := some 243) (v := ?_) (a' := ?_) #[true, true, false, false, false, false, false, false, false, false, false, false, false, false, false, false, false, false, false, false] rfl rfl (by kernel_rfl) (fun _ _ _ h => h) (Or.inl ⟨by rfl, ?_⟩) ?_ ?_
       rotate_left
       ·intro w'
        go_simp
        with_reducible rfl
       rotate_left
       ·simp only [Act.put, sa_, s0_, s1_, i64_w, i32_w]
        rfl
       refine pure_ (i := 2) (N := some 244) (v := ?_) (a' := ?_) #[true, true, true, false, false, false, false, false, false, false, false, false, false, false, false, false, false, false, false, false] rfl rfl (by kernel_rfl) (fun _ _ _ h => h) (Or.inl ⟨by rfl, ?_⟩) ?_ ?_
       rotate_left
       ·intro w'
        go_simp
        with_reducible rfl
       rotate_left
       ·simp only [Act.put, sa_, s0_, s1_, i64_w, i32_w]
        rfl
       refine pure_ (i := 3) (N := some 245) (v := ?_) (a' := ?_) #[true, true, true, true, false, false, false, false, false, false, false, false, false, false, false, false, false, false, false, false] rfl rfl (by kernel_rfl) (fun _ _ _ h => h) (Or.inl ⟨by rfl, ?_⟩) ?_ ?_
       rotate_left
       ·intro w'
        go_simp
        with_reducible rfl
       rotate_left
       ·simp only [Act.put, sa_, s0_, s1_, i64_w, i32_w]
        rfl
       refine pure_ (i := 4) (N := some 246) (v := ?_) (a' := ?_) #[true, true, true, true, true, false, false, false, false, false, false, false, false, false, false, false, false, false, false, false] rfl rfl (by kernel_rfl) (fun _ _ _ h => h) (Or.inl ⟨by rfl, ?_⟩) ?_ ?_
       rotate_left
       ·intro w'
        go_simp
        with_reducible rfl
       rotate_left
       ·simp only [Act.put, sa_, s0_, s1_, i64_w, i32_w]
        rfl
       refine take_ (i := 5) (N := some 247) (v := ?_) (a' := ?_) #[true, true, true, true, true, true, false, false, false, false, false, false, false, false, false, false, false, false, false, false] rfl rfl (by kernel_rfl) (fun _ _ _ h => h) (Or.inl ⟨by rfl, ?_⟩) hHeld ?_ ?_
       rotate_left
       ·intro w' hS
        have s0 := pw_cell_below hS.1 z0
        have s1 := pw_cell_below hS.1 z1
        have s2 := pw_cell_below hS.1 z2
        go_simp
        with_reducible rfl
       rotate_left
       ·simp only [Act.put, sa_, s0_, s1_, i64_w, i32_w]
        rfl
       refine take_ (i := 6) (N := some 248) (v := ?_) (a' := ?_) #[true, true, true, true, true, true, true, false, false, false, false, false, false, false, false, false, false, false, false, false] rfl rfl (by kernel_rfl) (fun _ _ _ h => h) (Or.inl ⟨by rfl, ?_⟩) hHeld ?_ ?_
       rotate_left
       ·intro w' hS
        have hlk := look117 hS.2 hAt.out hzok.out
        rw [hpz.out] at hlk
        go_simp
        with_reducible rfl
       rotate_left
       ·simp only [Act.put, sa_, s0_, s1_, i64_w, i32_w]
        rfl
       refine pure_ (i := 7) (N := some 249) (v := ?_) (a' := ?_) #[true, true, true, true, true, true, true, true, false, false, false, false, false, false, false, false, false, false, false, false] rfl rfl (by kernel_rfl) (fun _ _ _ h => h) (Or.inl ⟨by rfl, ?_⟩) ?_ ?_
       rotate_left
       ·intro w'
        go_simp
        with_reducible rfl
       rotate_left
       ·simp only [Act.put, sa_, s0_, s1_, i64_w, i32_w]
        rfl
       refine pure_ (i := 8) (N := some 250) (v := ?_) (a' := ?_) #[true, true, true, true, true, true, true, true, true, false, false, false, false, false, false, false, false, false, false, false] rfl rfl (by kernel_rfl) (fun _ _ _ h => h) (Or.inl ⟨by rfl, ?_⟩) ?_ ?_
       rotate_left
       ·intro w'
        go_simp
        with_reducible rfl
       rotate_left
       ·simp only [Act.put, sa_, s0_, s1_, i64_w, i32_w]
        rfl
       refine pure_ (i := 9) (N := some 251) (v := ?_) (a' := ?_) #[true, true, true, true, true, true, true, true, true, true, false, false, false, false, false, false, false, false, false, false] rfl rfl (by kernel_rfl) (fun _ _ _ h => h) (Or.inl ⟨by rfl, ?_⟩) ?_ ?_
       rotate_left
       ·intro w'
        go_simp
        with_reducible rfl
       rotate_left
       ·simp only [Act.put, sa_, s0_, s1_, i64_w, i32_w]
        rfl
       refine pure_ (i := 10) (N := some 252) (v := ?_) (a' := ?_) #[true, true, true, true, true, true, true, true, true, true, true, false, false, false, false, false, false, false, false, false] rfl rfl (by kernel_rfl) (fun _ _ _ h => h) (Or.inl ⟨by rfl, ?_⟩) ?_ ?_
       rotate_left
       ·intro w'
        go_simp
        with_reducible rfl
       rotate_left
       ·simp only [Act.put, sa_, s0_, s1_, i64_w, i32_w]
        rfl
       refine pure_ (i := 11) (N := some 253) (v := ?_) (a' := ?_) #[true, true, true, true, true, true, true, true, true, true, true, true, false, false, false, false, false, false, false, false] rfl rfl (by kernel_rfl) (fun _ _ _ h => h) (Or.inl ⟨by rfl, ?_⟩) ?_ ?_
       rotate_left
       ·intro w'
        go_simp
        with_reducible rfl
       rotate_left
       ·simp only [Act.put, sa_, s0_, s1_, i64_w, i32_w]
        rfl
       refine take_ (i := 12) (N := some 254) (v := ?_) (a' := ?_) #[true, true, true, true, true, true, true, true, true, true, true, true, true, false, false, false, false, false, false, false] rfl rfl (by kernel_rfl) (fun _ _ _ h => h) (Or.inl ⟨by rfl, ?_⟩) hHeld ?_ ?_
       rotate_left
       ·intro w' hS
        have s0 := pw_cell_below hS.1 q0
        have s1 := pw_cell_below hS.1 q1
        have s2 := pw_cell_below hS.1 q2
        go_simp
        with_reducible rfl
       rotate_left
       ·simp only [Act.put, sa_, s0_, s1_, i64_w, i32_w]
        rfl
       refine pure_ (i := 13) (N := some 255) (v := ?_) (a' := ?_) #[true, true, true, true, true, true, true, true, true, true, true, true, true, true, false, false, false, false, false, false] rfl rfl (by kernel_rfl) (fun _ _ _ h => h) (Or.inl ⟨by rfl, ?_⟩) ?_ ?_
       rotate_left
       ·intro w'
        go_simp
        with_reducible rfl
       rotate_left
       ·simp only [Act.put, sa_, s0_, s1_, i64_w, i32_w]
        rfl
       refine pure_ (i := 14) (N := some 256) (v := ?_) (a' := ?_) #[true, true, true, true, true, true, true, true, true, true, true, true, true, true, true, false, false, false, false, false] rfl rfl (by kernel_rfl) (fun _ _ _ h => h) (Or.inl ⟨by rfl, ?_⟩) ?_ ?_
       rotate_left
       ·intro w'
        go_simp
        with_reducible rfl
       rotate_left
       ·simp only [Act.put, sa_, s0_, s1_, i64_w, i32_w]
        rfl
       refine pure_ (i := 15) (N := some 257) (v := ?_) (a' := ?_) #[true, true, true, true, true, true, true, true, true, true, true, true, true, true, true, true, false, false, false, false] rfl rfl (by kernel_rfl) (fun _ _ _ h => h) (Or.inl ⟨by rfl, ?_⟩) ?_ ?_
       rotate_left
       ·intro w'
        go_simp
        with_reducible rfl
       rotate_left
       ·simp only [Act.put, sa_, s0_, s1_, i64_w, i32_w]
        rfl
       refine take_ (i := 16) (N := some 258) (v := ?_) (a' := ?_) #[true, true, true, true, true, true, true, true, true, true, true, true, true, true, true, true, true, false, false, false] rfl rfl (by kernel_rfl) (fun _ _ _ h => h) (Or.inl ⟨by rfl, ?_⟩) hHeld ?_ ?_
       rotate_left
       ·intro w' hS
        have s0 := pw_cell_below hS.1 z0
        have s1 := pw_cell_below hS.1 z1
        have s2 := pw_cell_below hS.1 z2
        go_simp
        with_reducible rfl
       rotate_left
       ·simp only [Act.put, sa_, s0_, s1_, i64_w, i32_w]
        rfl
       refine one_ (i := 17) (N := some 259) #[true, true, true, true, true, true, true, true, true, true, true, true, true, true, true, true, true, true, false, false] rfl rfl (by kernel_rfl) (by decide) (fun K hK => ?_)
       refine goes_ Try.func53 (by kernel_rfl) rfl #[.slice A5 r.length c5, .agg #[.int .i64 (rd_T58 bad 0).f0, .int .i64 (rd_T58 bad 0).f1, .int .i64 (rd_T58 bad 0).f2], .agg #[.int .i64 z.f0, .int .i64 z.f1, .int .i64 z.f2]] (by rfl) rfl rfl (by (try simp only [List.map_toArray, List.map_cons, List.map_nil]); first | done | rfl) ?_
       with_reducible refine (acmelaw12_has.calls 1000 _ _ r _ _ _ _ _ _ true _ (Kd.C_below h5.out hHeld.1) hc5.out hbz.out).mono ?_
       rintro e w9 ⟨rfl, hb⟩
       refine ⟨_, rfl, ?_⟩
       have hHn : Below w.heap.size w w9 ∧ OwnD w9 B m D := ⟨below_step hHeld.1 hb, hHeld.2.kept (grown_of_below hb none) (by simp)⟩
       clear hb hHeld
       refine hK.out _ _ hHn (fun hHeld => ?_)
       clear hK K
       refine norm_ (a' := ?_) ?_ ?_
       rotate_left
       ·show Act.put _ (some 259) _ = _
        simp only [Act.put, sa_, s0_, s1_, i64_w, i32_w]
        rfl
       refine pure_ (i := 18) (N := some 260) (v := ?_) (a' := ?_) #[true, true, true, true, true, true, true, true, true, true, true, true, true, true, true, true, true, true, true, false] rfl rfl (by kernel_rfl) (fun _ _ _ h => h) (Or.inl ⟨by rfl, ?_⟩) ?_ ?_
       rotate_left
       ·intro w'
        go_simp
        with_reducible rfl
       rotate_left
       ·simp only [Act.put, sa_, s0_, s1_, i64_w, i32_w]
        rfl
       refine pure_ (i := 19) (N := some 261) (v := ?_) (a' := ?_) #[true, true, true, true, true, true, true, true, true, true, true, true, true, true, true, true, true, true, true, true] rfl rfl (by kernel_rfl) (fun _ _ _ h => h) (Or.inl ⟨by rfl, ?_⟩) ?_ ?_
       rotate_left
       ·intro w'
        go_simp
        with_reducible rfl
       rotate_left
       ·simp only [Act.put, sa_, s0_, s1_, i64_w, i32_w]
        rfl
       refine done_ (by kernel_rfl) ?_
       have hown4 := hHeld.2
       have hbr4 := hHeld.1
       have w0 := pw_cell_below hHeld.1 z0
       have w1 := pw_cell_below hHeld.1 z1
       have w2 := pw_cell_below hHeld.1 z2
       go_wp2_with (at_delete; refine wpList_delete_own _ rfl _ _ 117 79 rfl 4 law79 Try.underlying117 _ B m D rfl hown4 _ _ rfl hkz.out ?_; intro w10 hown5 hturn5)
       go_roundw
       case rel => exact ⟨i + 1, m, D.del (litC z), of_eq_true pt, by go_num, hown5, hAt2.out, hsz2.out, hbr4.grown hturn5.grown hbr4.size (fun k hk => by cases hk; exact hBw.out)⟩
       case measure => rw [hwi]; exact meas_lt (of_eq_true pt)
    ·obtain rfl : i = first.length := by omega
     rw [List.take_length, left_none hsub.out] at hsz
     have hs0 : Maps.size D = 0 := hsz
     have pn : decide (first.length < first.length) = false := decide_eq_false hlt
     have pb : decide ((first.length : Int) < (first.length : Int)) = false := decide_eq_false (by omega)
     clear hlt hi hsz hAt
     go_wp2_with (first | ((try (refine gate_guard (by rfl) ?_; dsimp only)); at_len; refine wpList_len_own _ rfl _ 117 rfl 79 4 Try.underlying117 _ B m D rfl hownD ?_; rw [hs0]) | (go_at_call 15; refine (acmelaw12_known.calls true _ rfl).mono ?_; rintro e w11 ⟨rfl, hb11⟩))
     exact hpost.out _ (below_step hbr1 hb11)
end Go.Proofs.Ytiaiecfnpompcaa.T
namespace Go.Proofs.Ytiaiecfnpompcaa.T
open Go.RowKit Go.Proofs.YtiaiecfnpompcaaW.PrintWords Go.Proofs.YtiaiecfnpompcaaW.PrintLast Go.Proofs.YtiaiecfnpompcaaW.PrintMore
attribute [local go_sem] max2_int min2_int max_two min_two max_three min_three max_four min_four   -- for this text's walks alone
set_option linter.unusedVariables false
set_option linter.unusedSimpArgs false
attribute [local go_sem] wl_100001

attribute [local go_sem high] eqA58

set_option maxHeartbeats 80000000 in
set_option maxRecDepth 100000 in
theorem acmelaw12_MillToNoneOther.calls (k : Nat) (A0_0 : Option Addr) (c0_0 : Nat) (l0_0 : List (S162)) (A0_1 : Option Addr) (c0_1 : Nat) (l0_1 : List (S94)) (a1_0 : Int) (a1_1 : Int) (a1_2 : Int) (r : Bool) (w : World) (hr0_0 : Kd.C k162 w A0_0 l0_0.length l0_0) (hc0_0 : l0_0.length ≤ c0_0) (hr0_1 : Kd.C k94 w A0_1 l0_1.length l0_1) (hc0_1 : l0_1.length ≤ c0_1) (h : acmelaw12_MillToNoneOther.f k l0_0 l0_1 a1_0 a1_1 a1_2 = some r) :
  Calls Try.prog 12 #[.agg #[.slice A0_0 l0_0.length c0_0, .slice A0_1 l0_1.length c0_1], .agg #[.int .u8 a1_0, .int .u8 a1_1, .int .u8 a1_2]] w fun e w' => e = .returned (.bool r) ∧ Below w.heap.size w w' := by
 have hu113 := Try.underlying113
 have hu94 := Try.underlying94
 have hu79 := Try.underlying79
 have hu58 := Try.underlying58
 have HR0_0 := Aside0.mk hr0_0
 have HC0_0 := Aside0.mk hc0_0
 clear hr0_0 hc0_0
 have HR0_1 := Aside0.mk hr0_1
 have HC0_1 := Aside0.mk hc0_1
 clear hr0_1 hc0_1
 have HB := Aside0.mk (Below.refl w.heap.size w)
 have H : ((acmelaw12_Works_runs.f k l0_0 l0_1).bind fun t219 => ((acmelaw12_Works_lots.f k l0_0 l0_1).bind fun t222 => (if ((1 + (Int.tmod a1_0 3)) % 256) = 3 then (acmelaw12_MillToNoneOther.j0 k t219 t222 ((1 + (Int.tmod a1_0 3)) % 256) (Int.tmod (wrap64 (a1_2)) 2) (Int.tmod (wrap64 (a1_1)) 30)) else (acmelaw12_MillToNoneOther.j0 k t219 t222 ((1 + (Int.tmod a1_0 3)) % 256) 0 (Int.tmod (wrap64 (a1_1)) 4))))) = some r := h
 clear h
 replace H := Option.bind_eq_some_iff.mp H
 obtain ⟨t219, A30, H⟩ := H; (try dsimp only at H)
 have A3 := Aside0.mk A30
 clear A30
 replace H := Option.bind_eq_some_iff.mp H
 obtain ⟨t222, A40, H⟩ := H; (try dsimp only at H)
 have A4 := Aside0.mk A40
 clear A40
 have HC5 := Aside0.mk H
 clear H
 go_enter Try.func12, Try.ntmps12
 try go_wp2_with (first | ((with_reducible refine gate_dst (N := 2) rfl ?_); (try (refine gate_guard (by rfl) ?_; dsimp only)); refine box_event ?hg (N := 2) ?hd (cs := #[.slice A0_0 l0_0.length c0_0, .slice A0_1 l0_1.length c0_1]) (t := 113) ?hr ?_; (case hd => rfl); (case hg => rfl); (case hr => first | (go_simp; done) | (go_simp; rfl)); intro gb217 hg w6 hbox hb; have BK217 := Aside0.mk (hbox); have GW217 := Aside0.mk ((by rw [hg]; exact (below_size (hb_ HB)) : w.heap.size ≤ gb217)); have GE217 := GW217; replace HB := Aside0.mk (below_step (hb_ HB) hb); clear hb hbox hg) | ((with_reducible refine gate_dst (N := 3) rfl ?_); (try (refine gate_guard (by rfl) ?_; dsimp only)); refine box_event ?hg (N := 3) ?hd (cs := #[.int .u8 a1_0, .int .u8 a1_1, .int .u8 a1_2]) (t := 94) ?hr ?_; (case hd => rfl); (case hg => rfl); (case hr => first | (go_simp; done) | (go_simp; rfl)); intro gb218 hg w7 hbox hb; have BK218 := Aside0.mk (hbox); have GW218 := Aside0.mk ((by rw [hg]; exact (below_size (hb_ HB)) : w.heap.size ≤ gb218)); have GE218 := GW218; replace HB := Aside0.mk (below_step (hb_ HB) hb); have NB217_218 := Aside0.mk ((by rw [hg]; exact Nat.ne_of_lt (blk_lt BK217.out) : gb217 ≠ gb218)); have NB218_217 := Aside0.mk ((by rw [hg]; exact Nat.ne_of_gt (blk_lt BK217.out) : gb218 ≠ gb217)); replace BK217 := Aside0.mk (blk_below (bk_ BK217) hb); clear hb hbox hg))
 replace BK217 := Aside0.mk (blk_drew BK217.out)
 replace BK218 := Aside0.mk (blk_drew BK218.out)
 replace HB := Aside0.mk (below_drew1 HB.out)
 refine start_ (n := 6) (S := fun w' => w'.cell? ⟨gb217, 0, none⟩ = some (.slice A0_0 l0_0.length c0_0) ∧ w'.cell? ⟨gb217, 1, none⟩ = some (.slice A0_1 l0_1.length c0_1)) (ds := []) #[ff, ff, ff, ff, ff, ff] (by kernel_rfl) rfl rfl ⟨(blk_cell BK217.out 0).trans rfl, (blk_cell BK217.out 1).trans rfl⟩ (fun hHeld => ?_)
 generalize w7.drew = w8 at BK217 BK218 HB hHeld ⊢
 refine take_ (i := 0) (N := some 24) (v := ?_) (a' := ?_) #[tt, ff, ff, ff, ff, ff] rfl rfl (by kernel_rfl) (fun _ _ _ h => h) (Or.inl ⟨by rfl, ?_⟩) hHeld ?_ ?_
 rotate_left
 ·rintro w' ⟨s0, s1⟩
  go_simp
  with_reducible rfl
 rotate_left
 ·simp only [Act.put, sa_, s0_, s1_, i64_w, i32_w]
  rfl
 refine take_ (i := 2) (N := some 26) (v := ?_) (a' := ?_) #[tt, ff, tt, ff, ff, ff] rfl rfl (by kernel_rfl) (fun _ _ _ h => h) (Or.inl ⟨by rfl, ?_⟩) hHeld ?_ ?_
 rotate_left
 ·rintro w' ⟨s0, s1⟩
  go_simp
  with_reducible rfl
 rotate_left
 ·simp only [Act.put, sa_, s0_, s1_, i64_w, i32_w]
  rfl
 refine one_ (i := 1) (N := some 25) #[tt, tt, tt, ff, ff, ff] rfl rfl (by kernel_rfl) (by decide) (fun K hK => ?_)
 refine goes_ Try.func51 (by kernel_rfl) rfl #[.agg #[.slice A0_0 l0_0.length c0_0, .slice A0_1 l0_1.length c0_1]] (by rfl) rfl rfl (by (try simp only [List.map_toArray, List.map_cons, List.map_nil]); first | done | rfl | (simp only [List.length_drop, List.length_take]; rfl)) ?_
 with_reducible refine (acmelaw12_Works_runs.calls k _ _ l0_0 _ _ l0_1 t219 _ ?side1 ?side2 ?side3 ?side4 A3.out).mono ?_
 (case side1 => repeat (first | exact (Kd.C_below HR0_0.out HB.out) | (with_reducible refine Kd.C_alloc ?_ _) | (with_reducible refine Kd.C_drewN ?_ _) | (with_reducible refine Kd.C_drew ?_)))
 (case side2 => exact HC0_0.out)
 (case side3 => repeat (first | exact (Kd.C_below HR0_1.out HB.out) | (with_reducible refine Kd.C_alloc ?_ _) | (with_reducible refine Kd.C_drewN ?_ _) | (with_reducible refine Kd.C_drew ?_)))
 (case side4 => exact HC0_1.out)
 rintro e w9 ⟨v220, rfl, ho0, hb⟩
 refine ⟨_, rfl, ?_⟩
 have HO221 := Aside0.mk (Kd.R_lower ho0 (below_size (hb_ HB)))
 replace BK217 := Aside0.mk (blk_below (bk_ BK217) hb)
 replace BK218 := Aside0.mk (blk_below (bk_ BK218) hb)
 replace HB := Aside0.mk (below_step (hb_ HB) hb)
 (try clear hb)
 (try clear hb2)
 (try clear hk)
 (try clear hi)
 (try clear ho0)
 refine hK.out _ _ ⟨(blk_cell BK217.out 0).trans rfl, (blk_cell BK217.out 1).trans rfl⟩ (fun hHeld => ?_)
 clear hK K
 refine norm_ (a' := ?_) ?_ ?_
 rotate_left
 ·show Act.put _ (some 25) _ = _
  simp only [Act.put, sa_, s0_, s1_, i64_w, i32_w]
  rfl
 refine one_ (i := 3) (N := some 27) #[tt, tt, tt, tt, ff, ff] rfl rfl (by kernel_rfl) (by decide) (fun K hK => ?_)
 refine goes_ Try.func52 (by kernel_rfl) rfl #[.agg #[.slice A0_0 l0_0.length c0_0, .slice A0_1 l0_1.length c0_1]] (by rfl) rfl rfl (by (try simp only [List.map_toArray, List.map_cons, List.map_nil]); first | done | rfl | (simp only [List.length_drop, List.length_take]; rfl)) ?_
 with_reducible refine (acmelaw12_Works_lots.calls k _ _ l0_0 _ _ l0_1 t222 _ ?side1 ?side2 ?side3 ?side4 A4.out).mono ?_
 (case side1 => repeat (first | exact (Kd.C_below HR0_0.out HB.out) | (with_reducible refine Kd.C_alloc ?_ _) | (with_reducible refine Kd.C_drewN ?_ _) | (with_reducible refine Kd.C_drew ?_)))
 (case side2 => exact HC0_0.out)
 (case side3 => repeat (first | exact (Kd.C_below HR0_1.out HB.out) | (with_reducible refine Kd.C_alloc ?_ _) | (with_reducible refine Kd.C_drewN ?_ _) | (with_reducible refine Kd.C_drew ?_)))
 (case side4 => exact HC0_1.out)
 rintro e w10 ⟨v223, rfl, ho0, hb⟩
 refine ⟨_, rfl, ?_⟩
 replace HO221 := Aside0.mk (Kd.R_below (ro_ HO221) hb)
 have HO224 := Aside0.mk (Kd.R_lower ho0 (below_size (hb_ HB)))
 replace BK217 := Aside0.mk (blk_below (bk_ BK217) hb)
 replace BK218 := Aside0.mk (blk_below (bk_ BK218) hb)
 replace HB := Aside0.mk (below_step (hb_ HB) hb)
 (try clear hb)
 (try clear hb2)
 (try clear hk)
 (try clear hi)
 (try clear ho0)
 refine hK.out _ _ ⟨(blk_cell BK217.out 0).trans rfl, (blk_cell BK217.out 1).trans rfl⟩ (fun hHeld => ?_)
 clear hK K
 refine norm_ (a' := ?_) ?_ ?_
 rotate_left
 ·show Act.put _ (some 27) _ = _
  simp only [Act.put, sa_, s0_, s1_, i64_w, i32_w]
  rfl
 refine pure_ (i := 4) (N := some 5) (v := ?_) (a' := ?_) #[tt, tt, tt, tt, tt, ff] rfl rfl (by kernel_rfl) (fun _ _ _ h => h) (Or.inl ⟨by rfl, ?_⟩) ?_ ?_
 rotate_left
 ·intro w'
  go_simp
  with_reducible rfl
 rotate_left
 ·simp only [Act.put, sa_, s0_, s1_, i64_w, i32_w]
  rfl
 refine pure_ (i := 5) (N := some 6) (v := ?_) (a' := ?_) #[tt, tt, tt, tt, tt, tt] rfl rfl (by kernel_rfl) (fun _ _ _ h => h) (Or.inl ⟨by rfl, ?_⟩) ?_ ?_
 rotate_left
 ·intro w'
  go_simp
  with_reducible rfl
 rotate_left
 ·simp only [Act.put, sa_, s0_, s1_, i64_w, i32_w]
  rfl
 refine done_ (by kernel_rfl) ?_
 have hnb11 := NB218_217.out
 have hnc11 := NB217_218.out
 obtain ⟨hcz12_0, hcz12_1, hcz12_2⟩ := bc3 BK218.out
 obtain ⟨hfz12_0, hfz12_1, hfz12_2⟩ := bf3 BK218.out
 go_upto_if 40 with (first | ((with_reducible refine gate_dst (N := 7) rfl ?_); (try (refine gate_guard (by rfl) ?_; dsimp only)); refine box_event ?hg (N := 7) ?hd (cs := #[.int .i64 0, .int .i64 0, .int .i64 0]) (t := 79) ?hr ?_; (case hd => rfl); (case hg => rfl); (case hr => first | (go_simp; done) | (go_simp; rfl)); intro gb225 hg w13 hbox hb; replace HO221 := Aside0.mk (Kd.R_below (ro_ HO221) hb); replace HO224 := Aside0.mk (Kd.R_below (ro_ HO224) hb); have BK225 := Aside0.mk (hbox); have GW225 := Aside0.mk ((by rw [hg]; exact (below_size (hb_ HB)) : w.heap.size ≤ gb225)); have GE225 := GW225; replace HB := Aside0.mk (below_step (hb_ HB) hb); have NB217_225 := Aside0.mk ((by rw [hg]; exact Nat.ne_of_lt (blk_lt BK217.out) : gb217 ≠ gb225)); have NB225_217 := Aside0.mk ((by rw [hg]; exact Nat.ne_of_gt (blk_lt BK217.out) : gb225 ≠ gb217)); replace BK217 := Aside0.mk (blk_below (bk_ BK217) hb); have NB218_225 := Aside0.mk ((by rw [hg]; exact Nat.ne_of_lt (blk_lt BK218.out) : gb218 ≠ gb225)); have NB225_218 := Aside0.mk ((by rw [hg]; exact Nat.ne_of_gt (blk_lt BK218.out) : gb225 ≠ gb218)); replace BK218 := Aside0.mk (blk_below (bk_ BK218) hb); clear hb hbox hg; have hnb14 := NB225_217.out; have hnc14 := NB217_225.out; have hnb15 := NB225_218.out; have hnc15 := NB218_225.out; obtain ⟨hcz16_0, hcz16_1, hcz16_2⟩ := bc3 BK225.out; obtain ⟨hfz16_0, hfz16_1, hfz16_2⟩ := bf3 BK225.out))
 (try simp only [Act.put, sa_, s0_, s1_])
 go_cut [] (fun wc => ∃ (kq : Nat) (x226001_4 : Int) (x226002_4 : Int), Aside0 (acmelaw12_MillToNoneOther.j0 kq t219 t222 ((1 + (Int.tmod a1_0 3)) % 256) x226001_4 x226002_4 = some r) ∧ Aside0 (kq ≤ k) ∧ Aside0 (Kd.R k144 144 wc w.heap.size (fun _ => True) v220 t219) ∧ Aside0 (Kd.R k58 58 wc w.heap.size (fun _ => True) v223 t222) ∧ Aside0 (wc.heap[gb217]? = some (.cells #[(.slice A0_0 l0_0.length c0_0), (.slice A0_1 l0_1.length c0_1)] 113 (0, 0))) ∧ Aside0 (wc.heap[gb218]? = some (.cells #[.int .u8 a1_0, .int .u8 a1_1, .int .u8 a1_2] 94 (0, 0))) ∧ Aside0 (wc.heap[gb225]? = some (.cells #[.int .i64 ((1 + (Int.tmod a1_0 3)) % 256), .int .i64 x226001_4, .int .i64 x226002_4] 79 (0, 0))) ∧ Aside0 (Below w.heap.size w wc))
 case first => as_aux_lemma =>
  have H := HC5.out
  clear HC5
  by_cases c17 : ((1 + (Int.tmod a1_0 3)) % 256) = 3
  ·rw [if_pos c17] at H
   have c17b0 : (((1 + (Int.tmod a1_0 3)) % 256) == 3) = true := beq_iff_eq.mpr c17
   have c17b1 : (((1 + (Int.tmod a1_0 3)) % 256) != 3) = false := bne_eq_false_iff_eq.mpr c17
   clear c17
   (first | rw [c17b0] | (simp only [i64_w, i32_w]; rw [c17b0]) | skip)
   have H' := Aside0.mk H
   clear H
   try go_wp2
   have n0_ : Aside0 (Kd.R k144 144 (((w13.setCell ⟨gb225, 0, none⟩ (.int .i64 ((1 + (Int.tmod a1_0 3)) % 256))).setCell ⟨gb225, 1, none⟩ (.int .i64 0)).setCell ⟨gb225, 2, none⟩ (.int .i64 (Int.tmod (wrap64 (a1_1)) 4))) w.heap.size (fun _ => True) v220 t219) := ⟨by (with_reducible repeat (first | apply Kd.R_alloc | apply Kd.R_drewN | apply Kd.R_drew)); exact Kd.R_mono (Kd.R_far (p := ⟨gb225, 2, none⟩) (Kd.R_far (p := ⟨gb225, 1, none⟩) (Kd.R_far (p := ⟨gb225, 0, none⟩) (Kd.R_types HO221.out BK225.out (by decide)) (fun _ hk => hk.2) (.int .i64 ((1 + (Int.tmod a1_0 3)) % 256))) (fun _ hk => hk.2) (.int .i64 0)) (fun _ hk => hk.2) (.int .i64 (Int.tmod (wrap64 (a1_1)) 4))) (fun _ hk => trivial)⟩
   have n1_ : Aside0 (Kd.R k58 58 (((w13.setCell ⟨gb225, 0, none⟩ (.int .i64 ((1 + (Int.tmod a1_0 3)) % 256))).setCell ⟨gb225, 1, none⟩ (.int .i64 0)).setCell ⟨gb225, 2, none⟩ (.int .i64 (Int.tmod (wrap64 (a1_1)) 4))) w.heap.size (fun _ => True) v223 t222) := ⟨by (with_reducible repeat (first | apply Kd.R_alloc | apply Kd.R_drewN | apply Kd.R_drew)); exact Kd.R_mono (Kd.R_far (p := ⟨gb225, 2, none⟩) (Kd.R_far (p := ⟨gb225, 1, none⟩) (Kd.R_far (p := ⟨gb225, 0, none⟩) (Kd.R_types HO224.out BK225.out (by decide)) (fun _ hk => hk.2) (.int .i64 ((1 + (Int.tmod a1_0 3)) % 256))) (fun _ hk => hk.2) (.int .i64 0)) (fun _ hk => hk.2) (.int .i64 (Int.tmod (wrap64 (a1_1)) 4))) (fun _ hk => trivial)⟩
   have n2_ : Aside0 ((((w13.setCell ⟨gb225, 0, none⟩ (.int .i64 ((1 + (Int.tmod a1_0 3)) % 256))).setCell ⟨gb225, 1, none⟩ (.int .i64 0)).setCell ⟨gb225, 2, none⟩ (.int .i64 (Int.tmod (wrap64 (a1_1)) 4))).heap[gb217]? = some (.cells #[.slice A0_0 l0_0.length c0_0, .slice A0_1 l0_1.length c0_1] 113 (0, 0))) := ⟨by repeat (first | (with_reducible first | exact BK217.out | refine blk_drewN ?_ _ | refine blk_drew ?_ | refine blk_alloc ?_ _) | refine blk_far ?_ NB217_225.out _ | exact BK217.out)⟩
   have n3_ : Aside0 ((((w13.setCell ⟨gb225, 0, none⟩ (.int .i64 ((1 + (Int.tmod a1_0 3)) % 256))).setCell ⟨gb225, 1, none⟩ (.int .i64 0)).setCell ⟨gb225, 2, none⟩ (.int .i64 (Int.tmod (wrap64 (a1_1)) 4))).heap[gb218]? = some (.cells #[.int .u8 a1_0, .int .u8 a1_1, .int .u8 a1_2] 94 (0, 0))) := ⟨by repeat (first | (with_reducible first | exact BK218.out | refine blk_drewN ?_ _ | refine blk_drew ?_ | refine blk_alloc ?_ _) | refine blk_far ?_ NB218_225.out _ | exact BK218.out)⟩
   have n4_ : Aside0 ((((w13.setCell ⟨gb225, 0, none⟩ (.int .i64 ((1 + (Int.tmod a1_0 3)) % 256))).setCell ⟨gb225, 1, none⟩ (.int .i64 0)).setCell ⟨gb225, 2, none⟩ (.int .i64 (Int.tmod (wrap64 (a1_1)) 4))).heap[gb225]? = some (.cells #[.int .i64 ((1 + (Int.tmod a1_0 3)) % 256), .int .i64 0, .int .i64 (Int.tmod (wrap64 (a1_1)) 4)] 79 (0, 0))) := ⟨by exact bto (bput (bput (bput (BK225.out) _ _) _ _) _ _) rfl⟩
   have n5_ : Aside0 (Below w.heap.size w (((w13.setCell ⟨gb225, 0, none⟩ (.int .i64 ((1 + (Int.tmod a1_0 3)) % 256))).setCell ⟨gb225, 1, none⟩ (.int .i64 0)).setCell ⟨gb225, 2, none⟩ (.int .i64 (Int.tmod (wrap64 (a1_1)) 4)))) := ⟨hb_ HB⟩
   (try clear HO221)
   (try clear HO224)
   (try clear BK217)
   (try clear BK218)
   (try clear BK225)
   (try clear HB)
   generalize (((w13.setCell ⟨gb225, 0, none⟩ (.int .i64 ((1 + (Int.tmod a1_0 3)) % 256))).setCell ⟨gb225, 1, none⟩ (.int .i64 0)).setCell ⟨gb225, 2, none⟩ (.int .i64 (Int.tmod (wrap64 (a1_1)) 4))) = w18 at n0_ n1_ n2_ n3_ n4_ n5_ ⊢
   have HO221 := n0_
   have HO224 := n1_
   have BK217 := n2_
   have BK218 := n3_
   have BK225 := n4_
   have HB := n5_
   clear n0_ n1_ n2_ n3_ n4_ n5_
   replace HO221 := Aside0.mk (Kd.R_drew HO221.out)
   replace HO224 := Aside0.mk (Kd.R_drew HO224.out)
   replace BK217 := Aside0.mk (blk_drew BK217.out)
   replace BK218 := Aside0.mk (blk_drew BK218.out)
   replace BK225 := Aside0.mk (blk_drew BK225.out)
   replace HB := Aside0.mk (below_drew1 HB.out)
   refine start_ (n := 12) (S := fun w' => w'.cell? ⟨gb218, 0, none⟩ = some (.int .u8 a1_0) ∧ w'.cell? ⟨gb218, 1, none⟩ = some (.int .u8 a1_1) ∧ w'.cell? ⟨gb218, 2, none⟩ = some (.int .u8 a1_2)) (ds := []) #[ff, ff, ff, ff, ff, ff, ff, ff, ff, ff, ff, ff] (by kernel_rfl) rfl rfl ⟨(blk_cell BK218.out 0).trans rfl, (blk_cell BK218.out 1).trans rfl, (blk_cell BK218.out 2).trans rfl⟩ (fun hHeld => ?_); refine with_tabW acmelaw12_MillToNoneOther.tab4 acmelaw12_MillToNoneOther.bits4 (fun HT_ HW_ => ?_)
   generalize w18.drew = w19 at HO221 HO224 BK217 BK218 BK225 HB hHeld ⊢
   refine pure_ (i := 0) (N := some 41) (v := ?_) (a' := ?_) #[tt, ff, ff, ff, ff, ff, ff, ff, ff, ff, ff, ff] rfl rfl (any_of HT_.out (by kernel_rfl)) (fun _ _ _ h => h) (Or.inl ⟨by rfl, ?_⟩) ?_ ?_
   rotate_left
   ·intro w'
    go_simp
    with_reducible rfl
   rotate_left
   ·simp only [Act.put, sa_, s0_, s1_, i64_w, i32_w]
    rfl
   refine pure_ (i := 4) (N := some 45) (v := ?_) (a' := ?_) #[tt, ff, ff, ff, tt, ff, ff, ff, ff, ff, ff, ff] rfl rfl (any_of HT_.out (by kernel_rfl)) (fun _ _ _ h => h) (Or.inl ⟨by rfl, ?_⟩) ?_ ?_
   rotate_left
   ·intro w'
    go_simp
    with_reducible rfl
   rotate_left
   ·simp only [Act.put, sa_, s0_, s1_, i64_w, i32_w]
    rfl
   refine take_ (i := 1) (N := some 42) (v := ?_) (a' := ?_) #[tt, tt, ff, ff, tt, ff, ff, ff, ff, ff, ff, ff] rfl rfl (take_ofW HT_.out HW_.out (by kernel_rfl)) (fun _ _ _ h => h) (Or.inl ⟨by rfl, ?_⟩) hHeld ?_ ?_
   rotate_left
   ·rintro w' ⟨s0, s1, s2⟩
    go_simp
    with_reducible rfl
   rotate_left
   ·simp only [Act.put, sa_, s0_, s1_, i64_w, i32_w]
    rfl
   refine pure_ (i := 2) (N := some 43) (v := ?_) (a' := ?_) #[tt, tt, tt, ff, tt, ff, ff, ff, ff, ff, ff, ff] rfl rfl (any_of HT_.out (by kernel_rfl)) (fun _ _ _ h => h) (Or.inl ⟨by rfl, ?_⟩) ?_ ?_
   rotate_left
   ·intro w'
    go_simp
    with_reducible rfl
   rotate_left
   ·simp only [Act.put, sa_, s0_, s1_, i64_w, i32_w]
    rfl
   refine pure_ (i := 3) (N := some 44) (v := ?_) (a' := ?_) #[tt, tt, tt, tt, tt, ff, ff, ff, ff, ff, ff, ff] rfl rfl (any_of HT_.out (by kernel_rfl)) (fun _ _ _ h => h) (Or.inl ⟨by rfl, ?_⟩) ?_ ?_
   rotate_left
   ·intro w'
    go_simp
    with_reducible rfl
   rotate_left
   ·simp only [Act.put, sa_, s0_, s1_, i64_w, i32_w]
    rfl
   refine pure_ (i := 8) (N := some 49) (v := ?_) (a' := ?_) #[tt, tt, tt, tt, tt, ff, ff, ff, tt, ff, ff, ff] rfl rfl (any_of HT_.out (by kernel_rfl)) (fun _ _ _ h => h) (Or.inl ⟨by rfl, ?_⟩) ?_ ?_
   rotate_left
   ·intro w'
    go_simp
    with_reducible rfl
   rotate_left
   ·simp only [Act.put, sa_, s0_, s1_, i64_w, i32_w]
    rfl
   refine take_ (i := 5) (N := some 46) (v := ?_) (a' := ?_) #[tt, tt, tt, tt, tt, tt, ff, ff, tt, ff, ff, ff] rfl rfl (take_ofW HT_.out HW_.out (by kernel_rfl)) (fun _ _ _ h => h) (Or.inl ⟨by rfl, ?_⟩) hHeld ?_ ?_
   rotate_left
   ·rintro w' ⟨s0, s1, s2⟩
    go_simp
    with_reducible rfl
   rotate_left
   ·simp only [Act.put, sa_, s0_, s1_, i64_w, i32_w]
    rfl
   refine pure_ (i := 6) (N := some 47) (v := ?_) (a' := ?_) #[tt, tt, tt, tt, tt, tt, tt, ff, tt, ff, ff, ff] rfl rfl (any_of HT_.out (by kernel_rfl)) (fun _ _ _ h => h) (Or.inl ⟨by rfl, ?_⟩) ?_ ?_
   rotate_left
   ·intro w'
    go_simp
    with_reducible rfl
   rotate_left
   ·simp only [Act.put, sa_, s0_, s1_, i64_w, i32_w]
    rfl
   refine pure_ (i := 7) (N := some 48) (v := ?_) (a' := ?_) #[tt, tt, tt, tt, tt, tt, tt, tt, tt, ff, ff, ff] rfl rfl (any_of HT_.out (by kernel_rfl)) (fun _ _ _ h => h) (Or.inl ⟨by rfl, ?_⟩) ?_ ?_
   rotate_left
   ·intro w'
    go_simp
    with_reducible rfl
   rotate_left
   ·simp only [Act.put, sa_, s0_, s1_, i64_w, i32_w]
    rfl
   refine one_ (i := 9) (N := none) #[tt, tt, tt, tt, tt, tt, tt, tt, tt, tt, ff, ff] rfl rfl (one_of HT_.out (by kernel_rfl)) (by decide) (fun K hK => ?_)
   have hs20 : w19.cell? ⟨gb225, 1, none⟩ = some (.int .i64 0) := (blk_cell BK225.out 1).trans rfl
   have hfs20 := blk_frozen BK225.out 1
   have hns20_0 := NB217_225.out
   have hns20_1 := NB218_225.out
   have hms20_0 := NB225_217.out
   have hms20_1 := NB225_218.out
   refine skip_ (w1 := ?_) (by rfl) rfl ?_ ?_
   rotate_left
   ·go_simp
    rfl
   refine hK.out _ _ ⟨((cell_far (p := ⟨gb225, _, none⟩) NB218_225.out _).trans (hHeld.1)), ((cell_far (p := ⟨gb225, _, none⟩) NB218_225.out _).trans (hHeld.2.1)), ((cell_far (p := ⟨gb225, _, none⟩) NB218_225.out _).trans (hHeld.2.2))⟩ (fun hHeld => ?_)
   clear hK K
   refine pure_ (i := 10) (N := some 50) (v := ?_) (a' := ?_) #[tt, tt, tt, tt, tt, tt, tt, tt, tt, tt, tt, ff] rfl rfl (any_of HT_.out (by kernel_rfl)) (fun _ _ _ h => h) (Or.inl ⟨by rfl, ?_⟩) ?_ ?_
   rotate_left
   ·intro w'
    go_simp
    with_reducible rfl
   rotate_left
   ·simp only [Act.put, sa_, s0_, s1_, i64_w, i32_w]
    rfl
   refine one_ (i := 11) (N := none) #[tt, tt, tt, tt, tt, tt, tt, tt, tt, tt, tt, tt] rfl rfl (one_of HT_.out (by kernel_rfl)) (by decide) (fun K hK => ?_)
   have hs21 : w19.cell? ⟨gb225, 2, none⟩ = some (.int .i64 (Int.tmod (wrap64 (a1_1)) 4)) := (blk_cell BK225.out 2).trans rfl
   have hfs21 := blk_frozen BK225.out 2
   have hns21_0 := NB217_225.out
   have hns21_1 := NB218_225.out
   have hms21_0 := NB225_217.out
   have hms21_1 := NB225_218.out
   refine skip_ (w1 := ?_) (by rfl) rfl ?_ ?_
   rotate_left
   ·go_simp
    rfl
   refine hK.out _ _ ⟨((cell_far (p := ⟨gb225, _, none⟩) NB218_225.out _).trans (hHeld.1)), ((cell_far (p := ⟨gb225, _, none⟩) NB218_225.out _).trans (hHeld.2.1)), ((cell_far (p := ⟨gb225, _, none⟩) NB218_225.out _).trans (hHeld.2.2))⟩ (fun hHeld => ?_)
   clear hK K
   refine done_ (done_of HT_.out (by kernel_rfl)) ?_
   try go_wp2
   go_meet
   case rel => exact ⟨_, (Int.tmod (wrap64 (a1_2)) 2), (Int.tmod (wrap64 (a1_1)) 30), H', ⟨by first | omega | exact Nat.le_refl _⟩, ⟨by (with_reducible repeat (first | apply Kd.R_alloc | apply Kd.R_drewN | apply Kd.R_drew)); exact Kd.R_mono (Kd.R_far (p := ⟨gb225, 2, none⟩) (Kd.R_far (p := ⟨gb225, 1, none⟩) (Kd.R_types HO221.out BK225.out (by decide)) (fun _ hk => hk.2) (.int .i64 (Int.tmod (wrap64 (a1_2)) 2))) (fun _ hk => hk.2) (.int .i64 (Int.tmod (wrap64 (a1_1)) 30))) (fun _ hk => trivial)⟩, ⟨by (with_reducible repeat (first | apply Kd.R_alloc | apply Kd.R_drewN | apply Kd.R_drew)); exact Kd.R_mono (Kd.R_far (p := ⟨gb225, 2, none⟩) (Kd.R_far (p := ⟨gb225, 1, none⟩) (Kd.R_types HO224.out BK225.out (by decide)) (fun _ hk => hk.2) (.int .i64 (Int.tmod (wrap64 (a1_2)) 2))) (fun _ hk => hk.2) (.int .i64 (Int.tmod (wrap64 (a1_1)) 30))) (fun _ hk => trivial)⟩, ⟨by repeat (first | (with_reducible first | exact BK217.out | refine blk_drewN ?_ _ | refine blk_drew ?_ | refine blk_alloc ?_ _) | refine blk_far ?_ NB217_225.out _ | exact BK217.out)⟩, ⟨by repeat (first | (with_reducible first | exact BK218.out | refine blk_drewN ?_ _ | refine blk_drew ?_ | refine blk_alloc ?_ _) | refine blk_far ?_ NB218_225.out _ | exact BK218.out)⟩, ⟨by exact bto (bput (bput (BK225.out) _ _) _ _) rfl⟩, ⟨hb_ HB⟩⟩
  rw [if_neg c17] at H
  have c17b0 : (((1 + (Int.tmod a1_0 3)) % 256) == 3) = false := beq_eq_false_iff_ne.mpr c17
  have c17b1 : (((1 + (Int.tmod a1_0 3)) % 256) != 3) = true := bne_iff_ne.mpr c17
  (first | rw [c17b0] | (simp only [i64_w, i32_w]; rw [c17b0]) | skip)
  have H' := Aside0.mk H
  clear H
  go_wp2
  go_meet
  case rel => exact ⟨_, (0), (Int.tmod (wrap64 (a1_1)) 4), H', ⟨by first | omega | exact Nat.le_refl _⟩, ⟨by (with_reducible repeat (first | apply Kd.R_alloc | apply Kd.R_drewN | apply Kd.R_drew)); exact Kd.R_mono (Kd.R_far (p := ⟨gb225, 2, none⟩) (Kd.R_far (p := ⟨gb225, 1, none⟩) (Kd.R_far (p := ⟨gb225, 0, none⟩) (Kd.R_types HO221.out BK225.out (by decide)) (fun _ hk => hk.2) (.int .i64 ((1 + (Int.tmod a1_0 3)) % 256))) (fun _ hk => hk.2) (.int .i64 0)) (fun _ hk => hk.2) (.int .i64 (Int.tmod (wrap64 (a1_1)) 4))) (fun _ hk => trivial)⟩, ⟨by (with_reducible repeat (first | apply Kd.R_alloc | apply Kd.R_drewN | apply Kd.R_drew)); exact Kd.R_mono (Kd.R_far (p := ⟨gb225, 2, none⟩) (Kd.R_far (p := ⟨gb225, 1, none⟩) (Kd.R_far (p := ⟨gb225, 0, none⟩) (Kd.R_types HO224.out BK225.out (by decide)) (fun _ hk => hk.2) (.int .i64 ((1 + (Int.tmod a1_0 3)) % 256))) (fun _ hk => hk.2) (.int .i64 0)) (fun _ hk => hk.2) (.int .i64 (Int.tmod (wrap64 (a1_1)) 4))) (fun _ hk => trivial)⟩, ⟨by repeat (first | (with_reducible first | exact BK217.out | refine blk_drewN ?_ _ | refine blk_drew ?_ | refine blk_alloc ?_ _) | refine blk_far ?_ NB217_225.out _ | exact BK217.out)⟩, ⟨by repeat (first | (with_reducible first | exact BK218.out | refine blk_drewN ?_ _ | refine blk_drew ?_ | refine blk_alloc ?_ _) | refine blk_far ?_ NB218_225.out _ | exact BK218.out)⟩, ⟨by exact bto (bput (bput (bput (BK225.out) _ _) _ _) _ _) rfl⟩, ⟨hb_ HB⟩⟩
 case rest => as_aux_lemma =>
  clear HC5
  try clear c1; try clear p2; try clear c5; try clear p6; try clear c11; try clear c12; try clear c14; try clear c15; try clear c17; try clear c17b0; try clear c17b1; try clear hcz12_0; try clear hcz12_1; try clear hcz12_2; try clear hcz16_0; try clear hcz16_1; try clear hcz16_2; try clear hfz12_0; try clear hfz12_1; try clear hfz12_2; try clear hfz16_0; try clear hfz16_1; try clear hfz16_2
  obtain ⟨kq, x226001_4, x226002_4, HA, HJ4, HO_5, HO_6, BK217, BK218, BK225, HB⟩ := hcut
  obtain _ | kj4 := kq
  ·exact absurd HA.out (by simp [acmelaw12_MillToNoneOther.j0])
  have H := HA.out
  clear HA
  simp only [acmelaw12_MillToNoneOther.j0] at H
  obtain ⟨y226, hy226⟩ : ∃ y_ : List (S58), y_ = (([] : List (S58))) := ⟨_, rfl⟩
  replace H : (acmelaw12_MillToNoneOther.l0 kj4 t219 t222 y226 (([] : List (S58))) 0 ((1 + (Int.tmod a1_0 3)) % 256) x226001_4 x226002_4) = some r := by first | (rw [hy226]; with_reducible exact H) | (have H2_ := (Option.bind_some _ _).symm.trans H; rw [hy226]; with_reducible exact H2_) | (have H2_ := (Option.bind_some _ _).symm.trans H; with_reducible exact H2_) | with_reducible exact H | (rw [hy226]; exact H) | exact H
  have Ny226 := Aside0.mk hy226
  clear hy226
  obtain ⟨y229, hy229⟩ : ∃ y_ : List (S58), y_ = (([] : List (S58))) := ⟨_, rfl⟩
  replace H : (acmelaw12_MillToNoneOther.l0 kj4 t219 t222 y226 y229 0 ((1 + (Int.tmod a1_0 3)) % 256) x226001_4 x226002_4) = some r := by first | (rw [hy229]; with_reducible exact H) | (have H2_ := (Option.bind_some _ _).symm.trans H; rw [hy229]; with_reducible exact H2_) | (have H2_ := (Option.bind_some _ _).symm.trans H; with_reducible exact H2_) | with_reducible exact H | (rw [hy229]; exact H) | exact H
  have Ny229 := Aside0.mk hy229
  clear hy229
  have H' := Aside0.mk H
  clear H
  go_wp2_with (first | ((with_reducible refine gate_dst (N := 51) rfl ?_); (try (refine gate_guard (by rfl) ?_; dsimp only)); refine Kd.R_lit k58 _ 58 ?hg (N := 51) ?hd (xs := ([] : List (S58))) (inner := []) (ok := fun _ => True) (okp := fun _ => True) ?hr ?hp (fun _ hk => hk) trivial (Below.refl _ _) (Nat.le_refl _) (by simp) ?_; (case hd => rfl); (case hg => rfl); (case hr => first | (go_simp; done) | (go_simp; rfl)); (case hp => exact (Reps.none _ _)); intro v227 w22 ho23 hb hg_ hnew_; clear hg_ hnew_; (first | rw [← Ny226.out] at ho23 | (simp only [Int.reduceToNat] at ho23; rw [← Ny226.out] at ho23)); replace HO_5 := Aside0.mk (Kd.R_below (ro_ HO_5) hb); have HO228 := Aside0.mk (Kd.R_lower (Kd.R_new' ho23 (Kd.R_lt (ro_ HO_6))) (below_size (hb_ HB))); replace HO_6 := Aside0.mk (Kd.R_elder' (ro_ HO_6) (Kd.R_base ho23) hb); replace BK217 := Aside0.mk (blk_below (bk_ BK217) hb); replace BK218 := Aside0.mk (blk_below (bk_ BK218) hb); replace BK225 := Aside0.mk (blk_below (bk_ BK225) hb); replace HB := Aside0.mk (below_step (hb_ HB) hb); clear hb ho23) | ((with_reducible refine gate_dst (N := 52) rfl ?_); (try (refine gate_guard (by rfl) ?_; dsimp only)); refine Kd.R_lit k58 _ 58 ?hg (N := 52) ?hd (xs := ([] : List (S58))) (inner := []) (ok := fun _ => True) (okp := fun _ => True) ?hr ?hp (fun _ hk => hk) trivial (Below.refl _ _) (Nat.le_refl _) (by simp) ?_; (case hd => rfl); (case hg => rfl); (case hr => first | (go_simp; done) | (go_simp; rfl)); (case hp => exact (Reps.none _ _)); intro v230 w24 ho25 hb hg_ hnew_; clear hg_ hnew_; (first | rw [← Ny229.out] at ho25 | (simp only [Int.reduceToNat] at ho25; rw [← Ny229.out] at ho25)); replace HO_5 := Aside0.mk (Kd.R_below (ro_ HO_5) hb); have HO231 := Aside0.mk (Kd.R_lower (Kd.R_new' (Kd.R_new' ho25 (Kd.R_lt (ro_ HO_6))) (Kd.R_lt (ro_ HO228))) (below_size (hb_ HB))); replace HO_6 := Aside0.mk (Kd.R_elder' (ro_ HO_6) (Kd.R_base ho25) hb); replace HO228 := Aside0.mk (Kd.R_elder' (ro_ HO228) (Kd.R_base ho25) hb); replace BK217 := Aside0.mk (blk_below (bk_ BK217) hb); replace BK218 := Aside0.mk (blk_below (bk_ BK218) hb); replace BK225 := Aside0.mk (blk_below (bk_ BK225) hb); replace HB := Aside0.mk (below_step (hb_ HB) hb); clear hb ho25))
  go_loopg [8, 9, 10] kj4 (fun kq v8 v9 v10 w' => ∃ (x8_2 : List (S58)) (x9_2 : List (S58)) (x10_2 : Int), v10 = .int .i64 x10_2 ∧ Aside0 (acmelaw12_MillToNoneOther.l0 kq t219 t222 x8_2 x9_2 x10_2 ((1 + (Int.tmod a1_0 3)) % 256) x226001_4 x226002_4 = some r) ∧ Aside0 (kq ≤ kj4) ∧ Aside0 (Kd.R k144 144 w' w.heap.size (fun _ => True) v220 t219) ∧ Aside0 (Kd.R k58 58 w' w.heap.size (fun k_ => some k_ ≠ (v8 : Value).ownBlock ∧ some k_ ≠ (v9 : Value).ownBlock) v223 t222) ∧ Aside0 (Kd.R k58 58 w' w.heap.size (fun k_ => some k_ ≠ (v223 : Value).ownBlock ∧ some k_ ≠ (v9 : Value).ownBlock) v8 x8_2) ∧ Aside0 (Kd.R k58 58 w' w.heap.size (fun k_ => some k_ ≠ (v223 : Value).ownBlock ∧ some k_ ≠ (v8 : Value).ownBlock) v9 x9_2) ∧ Aside0 (w'.heap[gb217]? = some (.cells #[(.slice A0_0 l0_0.length c0_0), (.slice A0_1 l0_1.length c0_1)] 113 (0, 0))) ∧ Aside0 (w'.heap[gb218]? = some (.cells #[.int .u8 a1_0, .int .u8 a1_1, .int .u8 a1_2] 94 (0, 0))) ∧ Aside0 (w'.heap[gb225]? = some (.cells #[.int .i64 ((1 + (Int.tmod a1_0 3)) % 256), .int .i64 x226001_4, .int .i64 x226002_4] 79 (0, 0))) ∧ Aside0 (Below w.heap.size w w'))
  case atStart => exact ⟨(y226), (y229), (0), (by first | rfl | (simp; done) | (simp [*]; done)), H', ⟨Nat.le_refl _⟩, ⟨ro_ HO_5⟩, ⟨by (with_reducible repeat (first | apply Kd.R_alloc | apply Kd.R_drewN | apply Kd.R_drew)); exact Kd.R_mono HO_6.out (fun _ hk => ⟨hk.1.2, hk.2⟩)⟩, ⟨by (with_reducible repeat (first | apply Kd.R_alloc | apply Kd.R_drewN | apply Kd.R_drew)); exact Kd.R_mono HO228.out (fun _ hk => ⟨hk.1.2, hk.2⟩)⟩, ⟨by (with_reducible repeat (first | apply Kd.R_alloc | apply Kd.R_drewN | apply Kd.R_drew)); exact Kd.R_mono HO231.out (fun _ hk => ⟨hk.1.2, hk.2⟩)⟩, BK217, BK218, BK225, ⟨hb_ HB⟩⟩
  case round => as_aux_lemma =>
   clear H'
   try clear c1; try clear p2; try clear c5; try clear p6; try clear c11; try clear c12; try clear c14; try clear c15; try clear c17; try clear c17b0; try clear c17b1; try clear hcz12_0; try clear hcz12_1; try clear hcz12_2; try clear hcz16_0; try clear hcz16_1; try clear hcz16_2; try clear hfz12_0; try clear hfz12_1; try clear hfz12_2; try clear hfz16_0; try clear hfz16_1; try clear hfz16_2; try clear p2; try clear p6
   obtain ⟨x8_2, x9_2, x10_2, rfl, HA, HK2, HO_5, HO_6, HO_8, HO_9, BK217, BK218, BK225, HB⟩ := hrel
   obtain _ | k2 := gk
   ·exact absurd HA.out (by simp [acmelaw12_MillToNoneOther.l0])
   have H := HA.out
   clear HA
   simp only [acmelaw12_MillToNoneOther.l0] at H
   by_cases c26 : x10_2 < (t222.length : Int)
   ·rw [if_pos c26] at H
    have c26b0 : decide (x10_2 < (t222.length : Int)) = true := decide_eq_true c26
    clear c26
    by_cases c27 : 0 ≤ x10_2
    rotate_left
    ·rw [if_neg c27] at H
     exact absurd H (by simp)
    rw [if_pos c27] at H
    have c27b0 : decide (0 ≤ x10_2) = true := decide_eq_true c27
    clear c27
    replace H := Option.bind_eq_some_iff.mp H
    obtain ⟨t233, A280, H⟩ := H; (try dsimp only at H)
    have A28 := Aside0.mk A280
    clear A280
    by_cases c29 : t233 = true
    ·subst c29
     have H1 : (if x8_2.length < 5864062014805 then (acmelaw12_MillToNoneOther.l0 k2 t219 t222 (x8_2 ++ [(⟨(rd_T58 t222 x10_2).f0, (rd_T58 t222 x10_2).f1, (rd_T58 t222 x10_2).f2⟩ : S58)]) x9_2 (wrap64 (x10_2 + 1)) ((1 + (Int.tmod a1_0 3)) % 256) x226001_4 x226002_4) else (none)) = some r := by rw [if_pos rfl] at H; exact H
     clear H
     have H := H1
     clear H1
     by_cases c30 : x8_2.length < 5864062014805
     rotate_left
     ·rw [if_neg c30] at H
      exact absurd H (by simp)
     rw [if_pos c30] at H
     have LMc30 := Aside0.mk c30
     clear c30
     obtain ⟨y235, hy235⟩ : ∃ y_ : List (S58), y_ = (x8_2 ++ [(⟨(rd_T58 t222 x10_2).f0, (rd_T58 t222 x10_2).f1, (rd_T58 t222 x10_2).f2⟩ : S58)]) := ⟨_, rfl⟩
     replace H : (acmelaw12_MillToNoneOther.l0 k2 t219 t222 y235 x9_2 (wrap64 (x10_2 + 1)) ((1 + (Int.tmod a1_0 3)) % 256) x226001_4 x226002_4) = some r := by first | (rw [hy235]; with_reducible exact H) | (have H2_ := (Option.bind_some _ _).symm.trans H; rw [hy235]; with_reducible exact H2_) | (have H2_ := (Option.bind_some _ _).symm.trans H; with_reducible exact H2_) | with_reducible exact H | (rw [hy235]; exact H) | exact H
     have Ny235 := Aside0.mk hy235
     clear hy235
     have H' := Aside0.mk H
     clear H
     obtain ⟨Ao31, co31, eo31⟩ := Kd.R_slice HO_6.out
     subst eo31
     try go_wp2
     replace HO_5 := Aside0.mk (Kd.R_drew HO_5.out)
     replace HO_6 := Aside0.mk (Kd.R_drew HO_6.out)
     replace HO_8 := Aside0.mk (Kd.R_drew HO_8.out)
     replace HO_9 := Aside0.mk (Kd.R_drew HO_9.out)
     replace BK217 := Aside0.mk (blk_drew BK217.out)
     replace BK218 := Aside0.mk (blk_drew BK218.out)
     replace BK225 := Aside0.mk (blk_drew BK225.out)
     replace HB := Aside0.mk (below_drew1 HB.out)
     have p232 : 0 ≤ (x10_2 : Int) := of_decide_eq_true ‹_›
     have q232 : x10_2 < (t222.length : Int) := of_decide_eq_true ‹_›
     obtain ⟨ad232, e232, hx232_0, hx232_1, hx232_2⟩ := at_T58 (Kd.R_reads' HO_6.out).2.2 x10_2 p232 q232
     cases e232
     replace p232 := eq_true p232
     replace q232 := eq_true q232
     obtain ⟨Ao33, co33, eo33⟩ := Kd.R_slice HO_5.out
     (first | subst eo33 | (injection eo33 with f1_ f2_ f3_; have f4_ := f1_.symm; have f5_ := f3_.symm; clear f1_ f2_ f3_; subst f4_; subst f5_))
     refine start_ (n := 7) (S := fun w' => w'.cell? ⟨gb225, 0, none⟩ = some (.int .i64 ((1 + (Int.tmod a1_0 3)) % 256)) ∧ w'.cell? ⟨gb225, 1, none⟩ = some (.int .i64 x226001_4) ∧ w'.cell? ⟨gb225, 2, none⟩ = some (.int .i64 x226002_4) ∧ w'.cell? (ad232.add ((x10_2).toNat * 3)) = some (.int .i64 ((rd_T58 t222 x10_2).f0)) ∧ w'.cell? ⟨(ad232.add ((x10_2).toNat * 3)).block, (ad232.add ((x10_2).toNat * 3)).off + 1, none⟩ = some (.int .i64 ((rd_T58 t222 x10_2).f1)) ∧ w'.cell? ⟨(ad232.add ((x10_2).toNat * 3)).block, (ad232.add ((x10_2).toNat * 3)).off + 2, none⟩ = some (.int .i64 ((rd_T58 t222 x10_2).f2))) (ds := []) #[ff, ff, ff, ff, ff, ff, ff] (by kernel_rfl) rfl rfl ⟨(blk_cell BK225.out 0).trans rfl, (blk_cell BK225.out 1).trans rfl, (blk_cell BK225.out 2).trans rfl, hx232_0, hx232_1, hx232_2⟩ (fun hHeld => ?_)
     generalize wr.drew = w32 at HO_5 HO_6 HO_8 HO_9 BK217 BK218 BK225 HB hx232_0 hx232_1 hx232_2 hHeld ⊢
     refine pure_ (i := 0) (N := some 59) (v := ?_) (a' := ?_) #[tt, ff, ff, ff, ff, ff, ff] rfl rfl (by kernel_rfl) (fun _ _ _ h => h) (Or.inl ⟨by rfl, ?_⟩) ?_ ?_
     rotate_left
     ·intro w'
      go_simp
      with_reducible rfl
     rotate_left
     ·simp only [Act.put, sa_, s0_, s1_, i64_w, i32_w]
      rfl
     refine pure_ (i := 1) (N := some 60) (v := ?_) (a' := ?_) #[tt, tt, ff, ff, ff, ff, ff] rfl rfl (by kernel_rfl) (fun _ _ _ h => h) (Or.inl ⟨by rfl, ?_⟩) ?_ ?_
     rotate_left
     ·intro w'
      go_simp
      with_reducible rfl
     rotate_left
     ·simp only [Act.put, sa_, s0_, s1_, i64_w, i32_w]
      rfl
     refine pure_ (i := 2) (N := some 61) (v := ?_) (a' := ?_) #[tt, tt, tt, ff, ff, ff, ff] rfl rfl (by kernel_rfl) (fun _ _ _ h => h) (Or.inl ⟨by rfl, ?_⟩) ?_ ?_
     rotate_left
     ·intro w'
      go_simp
      with_reducible rfl
     rotate_left
     ·simp only [Act.put, sa_, s0_, s1_, i64_w, i32_w]
      rfl
     refine pure_ (i := 3) (N := some 62) (v := ?_) (a' := ?_) #[tt, tt, tt, tt, ff, ff, ff] rfl rfl (by kernel_rfl) (fun _ _ _ h => h) (Or.inl ⟨by rfl, ?_⟩) ?_ ?_
     rotate_left
     ·intro w'
      go_simp
      with_reducible rfl
     rotate_left
     ·simp only [Act.put, sa_, s0_, s1_, i64_w, i32_w]
      rfl
     refine take_ (i := 4) (N := some 63) (v := ?_) (a' := ?_) #[tt, tt, tt, tt, tt, ff, ff] rfl rfl (by kernel_rfl) (fun _ _ _ h => h) (Or.inl ⟨by rfl, ?_⟩) hHeld ?_ ?_
     rotate_left
     ·rintro w' ⟨s0, s1, s2, s3, s4, s5⟩
      go_simp
      with_reducible rfl
     rotate_left
     ·simp only [Act.put, sa_, s0_, s1_, i64_w, i32_w]
      rfl
     refine take_ (i := 5) (N := some 64) (v := ?_) (a' := ?_) #[tt, tt, tt, tt, tt, tt, ff] rfl rfl (by kernel_rfl) (fun _ _ _ h => h) (Or.inl ⟨by rfl, ?_⟩) hHeld ?_ ?_
     rotate_left
     ·rintro w' ⟨s0, s1, s2, s3, s4, s5⟩
      go_simp
      with_reducible rfl
     rotate_left
     ·simp only [Act.put, sa_, s0_, s1_, i64_w, i32_w]
      rfl
     refine one_ (i := 6) (N := some 65) #[tt, tt, tt, tt, tt, tt, tt] rfl rfl (by kernel_rfl) (by decide) (fun K hK => ?_)
     refine goes_ Try.func53 (by kernel_rfl) rfl #[.slice Ao33 t219.length co33, .agg #[.int .i64 ((rd_T58 t222 x10_2).f0), .int .i64 ((rd_T58 t222 x10_2).f1), .int .i64 ((rd_T58 t222 x10_2).f2)], .agg #[.int .i64 ((1 + (Int.tmod a1_0 3)) % 256), .int .i64 x226001_4, .int .i64 x226002_4]] (by rfl) rfl rfl (by (try simp only [List.map_toArray, List.map_cons, List.map_nil]); first | done | rfl | (simp only [List.length_drop, List.length_take]; rfl)) ?_
     with_reducible refine (acmelaw12_has.calls k2 _ _ t219 ((rd_T58 t222 x10_2).f0) ((rd_T58 t222 x10_2).f1) ((rd_T58 t222 x10_2).f2) ((1 + (Int.tmod a1_0 3)) % 256) x226001_4 x226002_4 true _ ?side1 ?side2 A28.out).mono ?_
     (case side1 => repeat (first | exact (Kd.R_reads' HO_5.out).2.2 | (with_reducible refine Kd.C_alloc ?_ _) | (with_reducible refine Kd.C_drewN ?_ _) | (with_reducible refine Kd.C_drew ?_)))
     (case side2 => exact (Kd.R_reads' HO_5.out).2.1)
     rintro e w34 ⟨rfl, hb⟩
     have HS3_ := (hb.cell (World.block_lt_of_cell? _ _ (hHeld.2.2.2.1))).trans (hHeld.2.2.2.1)
     have HS4_ := (hb.cell (World.block_lt_of_cell? _ _ (hHeld.2.2.2.2.1))).trans (hHeld.2.2.2.2.1)
     have HS5_ := (hb.cell (World.block_lt_of_cell? _ _ (hHeld.2.2.2.2.2))).trans (hHeld.2.2.2.2.2)
     refine ⟨_, rfl, ?_⟩
     replace HO_5 := Aside0.mk (Kd.R_below (ro_ HO_5) hb)
     replace HO_6 := Aside0.mk (Kd.R_below (ro_ HO_6) hb)
     replace HO_8 := Aside0.mk (Kd.R_below (ro_ HO_8) hb)
     replace HO_9 := Aside0.mk (Kd.R_below (ro_ HO_9) hb)
     replace BK217 := Aside0.mk (blk_below (bk_ BK217) hb)
     replace BK218 := Aside0.mk (blk_below (bk_ BK218) hb)
     replace BK225 := Aside0.mk (blk_below (bk_ BK225) hb)
     replace HB := Aside0.mk (below_step (hb_ HB) hb)
     (try clear hb)
     (try clear hb2)
     (try clear hk)
     (try clear hi)
     refine hK.out _ _ ⟨(blk_cell BK225.out 0).trans rfl, (blk_cell BK225.out 1).trans rfl, (blk_cell BK225.out 2).trans rfl, HS3_, HS4_, HS5_⟩ (fun hHeld => ?_)
     clear hK K
     refine norm_ (a' := ?_) ?_ ?_
     rotate_left
     ·show Act.put _ (some 65) _ = _
      simp only [Act.put, sa_, s0_, s1_, i64_w, i32_w]
      rfl
     refine done_ (by kernel_rfl) ?_
     have p234 : 0 ≤ (x10_2 : Int) := of_decide_eq_true ‹_›
     have q234 : x10_2 < (t222.length : Int) := of_decide_eq_true ‹_›
     obtain ⟨ad234, e234, hx234_0, hx234_1, hx234_2⟩ := at_T58 (Kd.R_reads' HO_6.out).2.2 x10_2 p234 q234
     obtain rfl : ad232 = ad234 := (by injection e234)
     replace p234 := eq_true p234
     replace q234 := eq_true q234
     try go_wp2_with (first | ((with_reducible refine gate_builtin (b := .append) (xs := #[.tmp 66, .tmp 71]) rfl ?_); (try (refine gate_guard (by rfl) ?_; dsimp only)); at_builtin; refine Kd.R_append k58 (w0 := w) w.heap.size rfl (.tmp 66) (.tmp 71) 68 58 (.agg #[(.int .i64 0), (.int .i64 0), (.int .i64 0)]) 24 rfl Try.underlying68 info58 rfl (by decide) (by omega) u8 x8_2 (⟨(rd_T58 t222 x10_2).f0, (rd_T58 t222 x10_2).f1, (rd_T58 t222 x10_2).f2⟩ : S58) [.int .i64 ((rd_T58 t222 x10_2).f0), .int .i64 ((rd_T58 t222 x10_2).f1), .int .i64 ((rd_T58 t222 x10_2).f2)] (fun k_ => some k_ ≠ (.slice (some ad232) t222.length co31 : Value).ownBlock ∧ some k_ ≠ (u9 : Value).ownBlock) (fun _ => False) rfl rfl ?aP (fun _ hk => hk.elim) ?aF ?aO ?aB ?aS ?aL ?_; (case aP => exact k58_mkM _ _ _ (⟨(rd_T58 t222 x10_2).f0, (rd_T58 t222 x10_2).f1, (rd_T58 t222 x10_2).f2⟩ : S58)); (case aB => exact (hb_ HB)); (case aF => exact (fun k_ hk => ⟨Kd.fresh' (Kd.R_lt (ro_ HO_6)) k_ hk, Kd.fresh' (Kd.R_lt (ro_ HO_9)) k_ hk⟩)); (case aO => exact (ro_ HO_8)); (case aS => exact (below_size (hb_ HB))); (case aL => have := LMc30.out; omega); intro v236 w35 ho hb hg hat; rw [← Ny235.out] at ho; replace HO_5 := Aside0.mk (Kd.R_over' (ro_ HO_5) (Kd.R_typed (ro_ HO_8)) (by decide) hg); replace HO_6 := Aside0.mk (Kd.R_after (ok := (fun k_ => some k_ ≠ (u9 : Value).ownBlock)) (by (with_reducible repeat (first | apply Kd.R_alloc | apply Kd.R_drewN | apply Kd.R_drew)); exact Kd.R_mono HO_6.out (fun _ hk => ⟨hk.2, hk.1⟩)) hg hat); replace HO_9 := Aside0.mk (Kd.R_after (ok := (fun k_ => some k_ ≠ (.slice (some ad232) t222.length co31 : Value).ownBlock)) (ro_ HO_9) hg hat); replace BK217 := Aside0.mk (blk_grown (bk_ BK217) hg (Kd.R_ne HO_8.out BK217.out (by decide))); replace BK218 := Aside0.mk (blk_grown (bk_ BK218) hg (Kd.R_ne HO_8.out BK218.out (by decide))); replace BK225 := Aside0.mk (blk_grown (bk_ BK225) hg (Kd.R_ne HO_8.out BK225.out (by decide))); replace HB := Aside0.mk (hb); have HO237 := Aside0.mk (ho); clear HO_8; clear ho hb hg hat))
     go_roundg k2
     case measure => have := HJ4.out; have := HK2.out; omega
     case rel => exact ⟨(y235), (x9_2), (wrap64 (x10_2 + 1)), (by first | rfl | (simp; done) | (simp [*]; done)), H', ⟨by have := HJ4.out; have := HK2.out; omega⟩, ⟨ro_ HO_5⟩, ⟨by (with_reducible repeat (first | apply Kd.R_alloc | apply Kd.R_drewN | apply Kd.R_drew)); exact Kd.R_mono HO_6.out (fun _ hk => ⟨hk.2, hk.1⟩)⟩, ⟨ro_ HO237⟩, ⟨ro_ HO_9⟩, BK217, BK218, BK225, ⟨hb_ HB⟩⟩
    replace c29 := Bool.eq_false_iff.mpr c29
    subst c29
    have H1 : (if x9_2.length < 5864062014805 then (acmelaw12_MillToNoneOther.l0 k2 t219 t222 x8_2 (x9_2 ++ [(⟨(rd_T58 t222 x10_2).f0, (rd_T58 t222 x10_2).f1, (rd_T58 t222 x10_2).f2⟩ : S58)]) (wrap64 (x10_2 + 1)) ((1 + (Int.tmod a1_0 3)) % 256) x226001_4 x226002_4) else (none)) = some r := by rw [if_neg (show ¬ (false = true) by decide)] at H; exact H
    clear H
    have H := H1
    clear H1
    by_cases c36 : x9_2.length < 5864062014805
    rotate_left
    ·rw [if_neg c36] at H
     exact absurd H (by simp)
    rw [if_pos c36] at H
    have LMc36 := Aside0.mk c36
    clear c36
    obtain ⟨y239, hy239⟩ : ∃ y_ : List (S58), y_ = (x9_2 ++ [(⟨(rd_T58 t222 x10_2).f0, (rd_T58 t222 x10_2).f1, (rd_T58 t222 x10_2).f2⟩ : S58)]) := ⟨_, rfl⟩
    replace H : (acmelaw12_MillToNoneOther.l0 k2 t219 t222 x8_2 y239 (wrap64 (x10_2 + 1)) ((1 + (Int.tmod a1_0 3)) % 256) x226001_4 x226002_4) = some r := by first | (rw [hy239]; with_reducible exact H) | (have H2_ := (Option.bind_some _ _).symm.trans H; rw [hy239]; with_reducible exact H2_) | (have H2_ := (Option.bind_some _ _).symm.trans H; with_reducible exact H2_) | with_reducible exact H | (rw [hy239]; exact H) | exact H
    have Ny239 := Aside0.mk hy239
    clear hy239
    have H' := Aside0.mk H
    clear H
    obtain ⟨Ao37, co37, eo37⟩ := Kd.R_slice HO_6.out
    subst eo37
    try go_wp2
    replace HO_5 := Aside0.mk (Kd.R_drew HO_5.out)
    replace HO_6 := Aside0.mk (Kd.R_drew HO_6.out)
    replace HO_8 := Aside0.mk (Kd.R_drew HO_8.out)
    replace HO_9 := Aside0.mk (Kd.R_drew HO_9.out)
    replace BK217 := Aside0.mk (blk_drew BK217.out)
    replace BK218 := Aside0.mk (blk_drew BK218.out)
    replace BK225 := Aside0.mk (blk_drew BK225.out)
    replace HB := Aside0.mk (below_drew1 HB.out)
    have p232 : 0 ≤ (x10_2 : Int) := of_decide_eq_true ‹_›
    have q232 : x10_2 < (t222.length : Int) := of_decide_eq_true ‹_›
    obtain ⟨ad232, e232, hx232_0, hx232_1, hx232_2⟩ := at_T58 (Kd.R_reads' HO_6.out).2.2 x10_2 p232 q232
    cases e232
    replace p232 := eq_true p232
    replace q232 := eq_true q232
    obtain ⟨Ao39, co39, eo39⟩ := Kd.R_slice HO_5.out
    (first | subst eo39 | (injection eo39 with f1_ f2_ f3_; have f4_ := f1_.symm; have f5_ := f3_.symm; clear f1_ f2_ f3_; subst f4_; subst f5_))
    refine start_ (n := 7) (S := fun w' => w'.cell? ⟨gb225, 0, none⟩ = some (.int .i64 ((1 + (Int.tmod a1_0 3)) % 256)) ∧ w'.cell? ⟨gb225, 1, none⟩ = some (.int .i64 x226001_4) ∧ w'.cell? ⟨gb225, 2, none⟩ = some (.int .i64 x226002_4) ∧ w'.cell? (ad232.add ((x10_2).toNat * 3)) = some (.int .i64 ((rd_T58 t222 x10_2).f0)) ∧ w'.cell? ⟨(ad232.add ((x10_2).toNat * 3)).block, (ad232.add ((x10_2).toNat * 3)).off + 1, none⟩ = some (.int .i64 ((rd_T58 t222 x10_2).f1)) ∧ w'.cell? ⟨(ad232.add ((x10_2).toNat * 3)).block, (ad232.add ((x10_2).toNat * 3)).off + 2, none⟩ = some (.int .i64 ((rd_T58 t222 x10_2).f2))) (ds := []) #[ff, ff, ff, ff, ff, ff, ff] (by kernel_rfl) rfl rfl ⟨(blk_cell BK225.out 0).trans rfl, (blk_cell BK225.out 1).trans rfl, (blk_cell BK225.out 2).trans rfl, hx232_0, hx232_1, hx232_2⟩ (fun hHeld => ?_)
    generalize wr.drew = w38 at HO_5 HO_6 HO_8 HO_9 BK217 BK218 BK225 HB hx232_0 hx232_1 hx232_2 hHeld ⊢
    refine pure_ (i := 0) (N := some 59) (v := ?_) (a' := ?_) #[tt, ff, ff, ff, ff, ff, ff] rfl rfl (by kernel_rfl) (fun _ _ _ h => h) (Or.inl ⟨by rfl, ?_⟩) ?_ ?_
    rotate_left
    ·intro w'
     go_simp
     with_reducible rfl
    rotate_left
    ·simp only [Act.put, sa_, s0_, s1_, i64_w, i32_w]
     rfl
    refine pure_ (i := 1) (N := some 60) (v := ?_) (a' := ?_) #[tt, tt, ff, ff, ff, ff, ff] rfl rfl (by kernel_rfl) (fun _ _ _ h => h) (Or.inl ⟨by rfl, ?_⟩) ?_ ?_
    rotate_left
    ·intro w'
     go_simp
     with_reducible rfl
    rotate_left
    ·simp only [Act.put, sa_, s0_, s1_, i64_w, i32_w]
     rfl
    refine pure_ (i := 2) (N := some 61) (v := ?_) (a' := ?_) #[tt, tt, tt, ff, ff, ff, ff] rfl rfl (by kernel_rfl) (fun _ _ _ h => h) (Or.inl ⟨by rfl, ?_⟩) ?_ ?_
    rotate_left
    ·intro w'
     go_simp
     with_reducible rfl
    rotate_left
    ·simp only [Act.put, sa_, s0_, s1_, i64_w, i32_w]
     rfl
    refine pure_ (i := 3) (N := some 62) (v := ?_) (a' := ?_) #[tt, tt, tt, tt, ff, ff, ff] rfl rfl (by kernel_rfl) (fun _ _ _ h => h) (Or.inl ⟨by rfl, ?_⟩) ?_ ?_
    rotate_left
    ·intro w'
     go_simp
     with_reducible rfl
    rotate_left
    ·simp only [Act.put, sa_, s0_, s1_, i64_w, i32_w]
     rfl
    refine take_ (i := 4) (N := some 63) (v := ?_) (a' := ?_) #[tt, tt, tt, tt, tt, ff, ff] rfl rfl (by kernel_rfl) (fun _ _ _ h => h) (Or.inl ⟨by rfl, ?_⟩) hHeld ?_ ?_
    rotate_left
    ·rintro w' ⟨s0, s1, s2, s3, s4, s5⟩
     go_simp
     with_reducible rfl
    rotate_left
    ·simp only [Act.put, sa_, s0_, s1_, i64_w, i32_w]
     rfl
    refine take_ (i := 5) (N := some 64) (v := ?_) (a' := ?_) #[tt, tt, tt, tt, tt, tt, ff] rfl rfl (by kernel_rfl) (fun _ _ _ h => h) (Or.inl ⟨by rfl, ?_⟩) hHeld ?_ ?_
    rotate_left
    ·rintro w' ⟨s0, s1, s2, s3, s4, s5⟩
     go_simp
     with_reducible rfl
    rotate_left
    ·simp only [Act.put, sa_, s0_, s1_, i64_w, i32_w]
     rfl
    refine one_ (i := 6) (N := some 65) #[tt, tt, tt, tt, tt, tt, tt] rfl rfl (by kernel_rfl) (by decide) (fun K hK => ?_)
    refine goes_ Try.func53 (by kernel_rfl) rfl #[.slice Ao39 t219.length co39, .agg #[.int .i64 ((rd_T58 t222 x10_2).f0), .int .i64 ((rd_T58 t222 x10_2).f1), .int .i64 ((rd_T58 t222 x10_2).f2)], .agg #[.int .i64 ((1 + (Int.tmod a1_0 3)) % 256), .int .i64 x226001_4, .int .i64 x226002_4]] (by rfl) rfl rfl (by (try simp only [List.map_toArray, List.map_cons, List.map_nil]); first | done | rfl | (simp only [List.length_drop, List.length_take]; rfl)) ?_
    with_reducible refine (acmelaw12_has.calls k2 _ _ t219 ((rd_T58 t222 x10_2).f0) ((rd_T58 t222 x10_2).f1) ((rd_T58 t222 x10_2).f2) ((1 + (Int.tmod a1_0 3)) % 256) x226001_4 x226002_4 false _ ?side1 ?side2 A28.out).mono ?_
    (case side1 => repeat (first | exact (Kd.R_reads' HO_5.out).2.2 | (with_reducible refine Kd.C_alloc ?_ _) | (with_reducible refine Kd.C_drewN ?_ _) | (with_reducible refine Kd.C_drew ?_)))
    (case side2 => exact (Kd.R_reads' HO_5.out).2.1)
    rintro e w40 ⟨rfl, hb⟩
    have HS3_ := (hb.cell (World.block_lt_of_cell? _ _ (hHeld.2.2.2.1))).trans (hHeld.2.2.2.1)
    have HS4_ := (hb.cell (World.block_lt_of_cell? _ _ (hHeld.2.2.2.2.1))).trans (hHeld.2.2.2.2.1)
    have HS5_ := (hb.cell (World.block_lt_of_cell? _ _ (hHeld.2.2.2.2.2))).trans (hHeld.2.2.2.2.2)
    refine ⟨_, rfl, ?_⟩
    replace HO_5 := Aside0.mk (Kd.R_below (ro_ HO_5) hb)
    replace HO_6 := Aside0.mk (Kd.R_below (ro_ HO_6) hb)
    replace HO_8 := Aside0.mk (Kd.R_below (ro_ HO_8) hb)
    replace HO_9 := Aside0.mk (Kd.R_below (ro_ HO_9) hb)
    replace BK217 := Aside0.mk (blk_below (bk_ BK217) hb)
    replace BK218 := Aside0.mk (blk_below (bk_ BK218) hb)
    replace BK225 := Aside0.mk (blk_below (bk_ BK225) hb)
    replace HB := Aside0.mk (below_step (hb_ HB) hb)
    (try clear hb)
    (try clear hb2)
    (try clear hk)
    (try clear hi)
    refine hK.out _ _ ⟨(blk_cell BK225.out 0).trans rfl, (blk_cell BK225.out 1).trans rfl, (blk_cell BK225.out 2).trans rfl, HS3_, HS4_, HS5_⟩ (fun hHeld => ?_)
    clear hK K
    refine norm_ (a' := ?_) ?_ ?_
    rotate_left
    ·show Act.put _ (some 65) _ = _
     simp only [Act.put, sa_, s0_, s1_, i64_w, i32_w]
     rfl
    refine done_ (by kernel_rfl) ?_
    have p238 : 0 ≤ (x10_2 : Int) := of_decide_eq_true ‹_›
    have q238 : x10_2 < (t222.length : Int) := of_decide_eq_true ‹_›
    obtain ⟨ad238, e238, hx238_0, hx238_1, hx238_2⟩ := at_T58 (Kd.R_reads' HO_6.out).2.2 x10_2 p238 q238
    obtain rfl : ad232 = ad238 := (by injection e238)
    replace p238 := eq_true p238
    replace q238 := eq_true q238
    try go_wp2_with (first | ((with_reducible refine gate_builtin (b := .append) (xs := #[.tmp 73, .tmp 78]) rfl ?_); (try (refine gate_guard (by rfl) ?_; dsimp only)); at_builtin; refine Kd.R_append k58 (w0 := w) w.heap.size rfl (.tmp 73) (.tmp 78) 68 58 (.agg #[(.int .i64 0), (.int .i64 0), (.int .i64 0)]) 24 rfl Try.underlying68 info58 rfl (by decide) (by omega) u9 x9_2 (⟨(rd_T58 t222 x10_2).f0, (rd_T58 t222 x10_2).f1, (rd_T58 t222 x10_2).f2⟩ : S58) [.int .i64 ((rd_T58 t222 x10_2).f0), .int .i64 ((rd_T58 t222 x10_2).f1), .int .i64 ((rd_T58 t222 x10_2).f2)] (fun k_ => some k_ ≠ (.slice (some ad232) t222.length co37 : Value).ownBlock ∧ some k_ ≠ (u8 : Value).ownBlock) (fun _ => False) rfl rfl ?aP (fun _ hk => hk.elim) ?aF ?aO ?aB ?aS ?aL ?_; (case aP => exact k58_mkM _ _ _ (⟨(rd_T58 t222 x10_2).f0, (rd_T58 t222 x10_2).f1, (rd_T58 t222 x10_2).f2⟩ : S58)); (case aB => exact (hb_ HB)); (case aF => exact (fun k_ hk => ⟨Kd.fresh' (Kd.R_lt (ro_ HO_6)) k_ hk, Kd.fresh' (Kd.R_lt (ro_ HO_8)) k_ hk⟩)); (case aO => exact (ro_ HO_9)); (case aS => exact (below_size (hb_ HB))); (case aL => have := LMc36.out; omega); intro v240 w41 ho hb hg hat; rw [← Ny239.out] at ho; replace HO_5 := Aside0.mk (Kd.R_over' (ro_ HO_5) (Kd.R_typed (ro_ HO_9)) (by decide) hg); replace HO_6 := Aside0.mk (Kd.R_after (ok := (fun k_ => some k_ ≠ (u8 : Value).ownBlock)) (ro_ HO_6) hg hat); replace HO_8 := Aside0.mk (Kd.R_after (ok := (fun k_ => some k_ ≠ (.slice (some ad232) t222.length co37 : Value).ownBlock)) (ro_ HO_8) hg hat); replace BK217 := Aside0.mk (blk_grown (bk_ BK217) hg (Kd.R_ne HO_9.out BK217.out (by decide))); replace BK218 := Aside0.mk (blk_grown (bk_ BK218) hg (Kd.R_ne HO_9.out BK218.out (by decide))); replace BK225 := Aside0.mk (blk_grown (bk_ BK225) hg (Kd.R_ne HO_9.out BK225.out (by decide))); replace HB := Aside0.mk (hb); have HO241 := Aside0.mk (ho); clear HO_9; clear ho hb hg hat))
    go_roundg k2
    case measure => have := HJ4.out; have := HK2.out; omega
    case rel => exact ⟨(x8_2), (y239), (wrap64 (x10_2 + 1)), (by first | rfl | (simp; done) | (simp [*]; done)), H', ⟨by have := HJ4.out; have := HK2.out; omega⟩, ⟨ro_ HO_5⟩, ⟨ro_ HO_6⟩, ⟨ro_ HO_8⟩, ⟨ro_ HO241⟩, BK217, BK218, BK225, ⟨hb_ HB⟩⟩
   rw [if_neg c26] at H
   have c26b0 : decide (x10_2 < (t222.length : Int)) = false := decide_eq_false c26
   clear c26
   replace H := Option.bind_eq_some_iff.mp H
   obtain ⟨t242, A420, H⟩ := H; (try dsimp only at H)
   have A42 := Aside0.mk A420
   clear A420
   replace H := Option.bind_eq_some_iff.mp H
   obtain ⟨t245, A430, H⟩ := H; (try dsimp only at H)
   have A43 := Aside0.mk A430
   clear A430
   replace H := Option.bind_eq_some_iff.mp H
   obtain ⟨⟨t248, t251⟩, A440, H⟩ := H; (try dsimp only at H)
   have A44 := Aside0.mk A440
   clear A440
   have HC45 := Aside0.mk H
   clear H
   obtain ⟨Ao46, co46, eo46⟩ := Kd.R_slice HO_6.out
   subst eo46
   try go_wp2
   replace HO_5 := Aside0.mk (Kd.R_drew HO_5.out)
   replace HO_6 := Aside0.mk (Kd.R_drew HO_6.out)
   replace HO_8 := Aside0.mk (Kd.R_drew HO_8.out)
   replace HO_9 := Aside0.mk (Kd.R_drew HO_9.out)
   replace BK217 := Aside0.mk (blk_drew BK217.out)
   replace BK218 := Aside0.mk (blk_drew BK218.out)
   replace BK225 := Aside0.mk (blk_drew BK225.out)
   replace HB := Aside0.mk (below_drew1 HB.out)
   obtain ⟨Ao48, co48, eo48⟩ := Kd.R_slice HO_5.out
   (first | subst eo48 | (injection eo48 with f1_ f2_ f3_; have f4_ := f1_.symm; have f5_ := f3_.symm; clear f1_ f2_ f3_; subst f4_; subst f5_))
   refine start_ (n := 11) (S := fun w' => w'.cell? ⟨gb225, 0, none⟩ = some (.int .i64 ((1 + (Int.tmod a1_0 3)) % 256)) ∧ w'.cell? ⟨gb225, 1, none⟩ = some (.int .i64 x226001_4) ∧ w'.cell? ⟨gb225, 2, none⟩ = some (.int .i64 x226002_4)) (ds := []) #[ff, ff, ff, ff, ff, ff, ff, ff, ff, ff, ff] (by kernel_rfl) rfl rfl ⟨(blk_cell BK225.out 0).trans rfl, (blk_cell BK225.out 1).trans rfl, (blk_cell BK225.out 2).trans rfl⟩ (fun hHeld => ?_); refine with_tabW acmelaw12_MillToNoneOther.tab12 acmelaw12_MillToNoneOther.bits12 (fun HT_ HW_ => ?_)
   generalize wr.drew = w47 at HO_5 HO_6 HO_8 HO_9 BK217 BK218 BK225 HB hHeld ⊢
   refine pure_ (i := 0) (N := some 81) (v := ?_) (a' := ?_) #[tt, ff, ff, ff, ff, ff, ff, ff, ff, ff, ff] rfl rfl (any_of HT_.out (by kernel_rfl)) (fun _ _ _ h => h) (Or.inl ⟨by rfl, ?_⟩) ?_ ?_
   rotate_left
   ·intro w'
    go_simp
    with_reducible rfl
   rotate_left
   ·simp only [Act.put, sa_, s0_, s1_, i64_w, i32_w]
    rfl
   refine pure_ (i := 2) (N := some 83) (v := ?_) (a' := ?_) #[tt, ff, tt, ff, ff, ff, ff, ff, ff, ff, ff] rfl rfl (any_of HT_.out (by kernel_rfl)) (fun _ _ _ h => h) (Or.inl ⟨by rfl, ?_⟩) ?_ ?_
   rotate_left
   ·intro w'
    go_simp
    with_reducible rfl
   rotate_left
   ·simp only [Act.put, sa_, s0_, s1_, i64_w, i32_w]
    rfl
   refine take_ (i := 4) (N := some 85) (v := ?_) (a' := ?_) #[tt, ff, tt, ff, tt, ff, ff, ff, ff, ff, ff] rfl rfl (take_ofW HT_.out HW_.out (by kernel_rfl)) (fun _ _ _ h => h) (Or.inl ⟨by rfl, ?_⟩) hHeld ?_ ?_
   rotate_left
   ·rintro w' ⟨s0, s1, s2⟩
    go_simp
    with_reducible rfl
   rotate_left
   ·simp only [Act.put, sa_, s0_, s1_, i64_w, i32_w]
    rfl
   refine one_ (i := 1) (N := some 82) #[tt, tt, tt, ff, tt, ff, ff, ff, ff, ff, ff] rfl rfl (one_of HT_.out (by kernel_rfl)) (by decide) (fun K hK => ?_)
   refine goes_ Try.func31 (by kernel_rfl) rfl #[.slice Ao48 t219.length co48] (by rfl) rfl rfl (by (try simp only [List.map_toArray, List.map_cons, List.map_nil]); first | done | rfl | (simp only [List.length_drop, List.length_take]; rfl)) ?_
   with_reducible refine (acmelaw12_runs.calls _ _ t219 t242 _ ?side1 ?side2 A42.out).mono ?_
   (case side1 => repeat (first | exact (Kd.R_reads' HO_5.out).2.2 | (with_reducible refine Kd.C_alloc ?_ _) | (with_reducible refine Kd.C_drewN ?_ _) | (with_reducible refine Kd.C_drew ?_)))
   (case side2 => exact (Kd.R_reads' HO_5.out).2.1)
   rintro e w49 ⟨v243, rfl, ho0, hb⟩
   refine ⟨_, rfl, ?_⟩
   replace HO_6 := Aside0.mk (Kd.R_below (ro_ HO_6) hb)
   replace HO_8 := Aside0.mk (Kd.R_below (ro_ HO_8) hb)
   replace HO_9 := Aside0.mk (Kd.R_below (ro_ HO_9) hb)
   have HO244 := Aside0.mk (Kd.R_lower (Kd.R_new' ho0 (Kd.R_lt (ro_ HO_5))) (below_size (hb_ HB)))
   replace HO_5 := Aside0.mk (Kd.R_elder' (ro_ HO_5) (Kd.R_base ho0) hb)
   replace BK217 := Aside0.mk (blk_below (bk_ BK217) hb)
   replace BK218 := Aside0.mk (blk_below (bk_ BK218) hb)
   replace BK225 := Aside0.mk (blk_below (bk_ BK225) hb)
   replace HB := Aside0.mk (below_step (hb_ HB) hb)
   (try clear hb)
   (try clear hb2)
   (try clear hk)
   (try clear hi)
   (try clear ho0)
   refine hK.out _ _ ⟨(blk_cell BK225.out 0).trans rfl, (blk_cell BK225.out 1).trans rfl, (blk_cell BK225.out 2).trans rfl⟩ (fun hHeld => ?_)
   clear hK K
   refine norm_ (a' := ?_) ?_ ?_
   rotate_left
   ·show Act.put _ (some 82) _ = _
    simp only [Act.put, sa_, s0_, s1_, i64_w, i32_w]
    rfl
   refine one_ (i := 3) (N := some 84) #[tt, tt, tt, tt, tt, ff, ff, ff, ff, ff, ff] rfl rfl (one_of HT_.out (by kernel_rfl)) (by decide) (fun K hK => ?_)
   refine goes_ Try.func39 (by kernel_rfl) rfl #[.slice Ao46 t222.length co46] (by rfl) rfl rfl (by (try simp only [List.map_toArray, List.map_cons, List.map_nil]); first | done | rfl | (simp only [List.length_drop, List.length_take]; rfl)) ?_
   with_reducible refine (acmelaw12_lots.calls _ _ t222 t245 _ ?side1 ?side2 A43.out).mono ?_
   (case side1 => repeat (first | exact (Kd.R_reads' HO_6.out).2.2 | (with_reducible refine Kd.C_alloc ?_ _) | (with_reducible refine Kd.C_drewN ?_ _) | (with_reducible refine Kd.C_drew ?_)))
   (case side2 => exact (Kd.R_reads' HO_6.out).2.1)
   rintro e w50 ⟨v246, rfl, ho0, hb⟩
   refine ⟨_, rfl, ?_⟩
   replace HO_5 := Aside0.mk (Kd.R_below (ro_ HO_5) hb)
   replace HO244 := Aside0.mk (Kd.R_below (ro_ HO244) hb)
   have HO247 := Aside0.mk (Kd.R_lower (Kd.R_new' (Kd.R_new' (Kd.R_new' ho0 (Kd.R_lt (ro_ HO_6))) (Kd.R_lt (ro_ HO_8))) (Kd.R_lt (ro_ HO_9))) (below_size (hb_ HB)))
   replace HO_6 := Aside0.mk (Kd.R_elder' (ro_ HO_6) (Kd.R_base ho0) hb)
   replace HO_8 := Aside0.mk (Kd.R_elder' (ro_ HO_8) (Kd.R_base ho0) hb)
   replace HO_9 := Aside0.mk (Kd.R_elder' (ro_ HO_9) (Kd.R_base ho0) hb)
   replace BK217 := Aside0.mk (blk_below (bk_ BK217) hb)
   replace BK218 := Aside0.mk (blk_below (bk_ BK218) hb)
   replace BK225 := Aside0.mk (blk_below (bk_ BK225) hb)
   replace HB := Aside0.mk (below_step (hb_ HB) hb)
   (try clear hb)
   (try clear hb2)
   (try clear hk)
   (try clear hi)
   (try clear ho0)
   obtain ⟨Ao51, co51, eo51⟩ := Kd.R_slice HO244.out
   (first | subst eo51 | (injection eo51 with f1_ f2_ f3_; have f4_ := f1_.symm; have f5_ := f3_.symm; clear f1_ f2_ f3_; subst f4_; subst f5_))
   obtain ⟨Ao52, co52, eo52⟩ := Kd.R_slice HO247.out
   (first | subst eo52 | (injection eo52 with f1_ f2_ f3_; have f4_ := f1_.symm; have f5_ := f3_.symm; clear f1_ f2_ f3_; subst f4_; subst f5_))
   refine hK.out _ _ ⟨(blk_cell BK225.out 0).trans rfl, (blk_cell BK225.out 1).trans rfl, (blk_cell BK225.out 2).trans rfl⟩ (fun hHeld => ?_)
   clear hK K
   refine norm_ (a' := ?_) ?_ ?_
   rotate_left
   ·show Act.put _ (some 84) _ = _
    simp only [Act.put, sa_, s0_, s1_, i64_w, i32_w]
    rfl
   refine one_ (i := 5) (N := some 86) #[tt, tt, tt, tt, tt, tt, ff, ff, ff, ff, ff] rfl rfl (one_of HT_.out (by kernel_rfl)) (by decide) (fun K hK => ?_)
   refine goes_ Try.func43 (by kernel_rfl) rfl #[.slice Ao51 t242.length co51, .slice Ao52 t245.length co52, .agg #[.int .i64 ((1 + (Int.tmod a1_0 3)) % 256), .int .i64 x226001_4, .int .i64 x226002_4]] (by rfl) rfl rfl (by (try simp only [List.map_toArray, List.map_cons, List.map_nil]); first | done | rfl | (simp only [List.length_drop, List.length_take]; rfl)) ?_
   with_reducible refine (mill_Recall.calls _ _ t242 _ _ t245 ((1 + (Int.tmod a1_0 3)) % 256) x226001_4 x226002_4 t248 t251 _ ?side1 ?side2 ?side3 ?side4 A44.out).mono ?_
   (case side1 => repeat (first | exact (Kd.R_reads' HO244.out).2.2 | (with_reducible refine Kd.C_alloc ?_ _) | (with_reducible refine Kd.C_drewN ?_ _) | (with_reducible refine Kd.C_drew ?_)))
   (case side2 => exact (Kd.R_reads' HO244.out).2.1)
   (case side3 => repeat (first | exact (Kd.R_reads' HO247.out).2.2 | (with_reducible refine Kd.C_alloc ?_ _) | (with_reducible refine Kd.C_drewN ?_ _) | (with_reducible refine Kd.C_drew ?_)))
   (case side4 => exact (Kd.R_reads' HO247.out).2.1)
   rintro e w53 ⟨v249, rfl, ho0, hb⟩
   refine ⟨_, rfl, ?_⟩
   replace HO_5 := Aside0.mk (Kd.R_below (ro_ HO_5) hb)
   replace HO_6 := Aside0.mk (Kd.R_below (ro_ HO_6) hb)
   replace HO_8 := Aside0.mk (Kd.R_below (ro_ HO_8) hb)
   replace HO_9 := Aside0.mk (Kd.R_below (ro_ HO_9) hb)
   replace HO244 := Aside0.mk (Kd.R_below (ro_ HO244) hb)
   replace HO247 := Aside0.mk (Kd.R_below (ro_ HO247) hb)
   have HO250 := Aside0.mk (Kd.R_lower ho0 (below_size (hb_ HB)))
   replace BK217 := Aside0.mk (blk_below (bk_ BK217) hb)
   replace BK218 := Aside0.mk (blk_below (bk_ BK218) hb)
   replace BK225 := Aside0.mk (blk_below (bk_ BK225) hb)
   replace HB := Aside0.mk (below_step (hb_ HB) hb)
   (try clear hb)
   (try clear hb2)
   (try clear hk)
   (try clear hi)
   (try clear ho0)
   refine hK.out _ _ ⟨(blk_cell BK225.out 0).trans rfl, (blk_cell BK225.out 1).trans rfl, (blk_cell BK225.out 2).trans rfl⟩ (fun hHeld => ?_)
   clear hK K
   refine norm_ (a' := ?_) ?_ ?_
   rotate_left
   ·show Act.put _ (some 86) _ = _
    simp only [Act.put, sa_, s0_, s1_, i64_w, i32_w]
    rfl
   refine pure_ (i := 6) (N := some 80) (v := ?_) (a' := ?_) #[tt, tt, tt, tt, tt, tt, tt, ff, ff, ff, ff] rfl rfl (any_of HT_.out (by kernel_rfl)) (fun _ _ _ h => h) (Or.inl ⟨by rfl, ?_⟩) ?_ ?_
   rotate_left
   ·intro w'
    go_simp
    with_reducible rfl
   rotate_left
   ·simp only [Act.put, sa_, s0_, s1_, i64_w, i32_w]
    rfl
   refine pure_ (i := 7) (N := some 87) (v := ?_) (a' := ?_) #[tt, tt, tt, tt, tt, tt, tt, tt, ff, ff, ff] rfl rfl (any_of HT_.out (by kernel_rfl)) (fun _ _ _ h => h) (Or.inl ⟨by rfl, ?_⟩) ?_ ?_
   rotate_left
   ·intro w'
    go_simp
    with_reducible rfl
   rotate_left
   ·simp only [Act.put, sa_, s0_, s1_, i64_w, i32_w]
    rfl
   refine pure_ (i := 8) (N := some 88) (v := ?_) (a' := ?_) #[tt, tt, tt, tt, tt, tt, tt, tt, tt, ff, ff] rfl rfl (any_of HT_.out (by kernel_rfl)) (fun _ _ _ h => h) (Or.inl ⟨by rfl, ?_⟩) ?_ ?_
   rotate_left
   ·intro w'
    go_simp
    with_reducible rfl
   rotate_left
   ·simp only [Act.put, sa_, s0_, s1_, i64_w, i32_w]
    rfl
   refine pure_ (i := 9) (N := some 11) (v := ?_) (a' := ?_) #[tt, tt, tt, tt, tt, tt, tt, tt, tt, tt, ff] rfl rfl (any_of HT_.out (by kernel_rfl)) (fun _ _ _ h => h) (Or.inl ⟨by rfl, ?_⟩) ?_ ?_
   rotate_left
   ·intro w'
    go_simp
    with_reducible rfl
   rotate_left
   ·simp only [Act.put, sa_, s0_, s1_, i64_w, i32_w]
    rfl
   refine pure_ (i := 10) (N := some 12) (v := ?_) (a' := ?_) #[tt, tt, tt, tt, tt, tt, tt, tt, tt, tt, tt] rfl rfl (any_of HT_.out (by kernel_rfl)) (fun _ _ _ h => h) (Or.inl ⟨by rfl, ?_⟩) ?_ ?_
   rotate_left
   ·intro w'
    go_simp
    with_reducible rfl
   rotate_left
   ·simp only [Act.put, sa_, s0_, s1_, i64_w, i32_w]
    rfl
   refine done_ (done_of HT_.out (by kernel_rfl)) ?_
   go_upto_region 13 with (fail)
   go_cut [97] (fun v97 wc => ∃ (kq : Nat) (x97_44 : Bool), v97 = .bool x97_44 ∧ Aside0 (acmelaw12_MillToNoneOther.j2 kq t219 t222 x8_2 x9_2 t248 x97_44 ((1 + (Int.tmod a1_0 3)) % 256) x226001_4 x226002_4 = some r) ∧ Aside0 (kq ≤ k2) ∧ Aside0 (Kd.R k144 144 wc w.heap.size (fun _ => True) (.slice Ao48 t219.length co48) t219) ∧ Aside0 (Kd.R k58 58 wc w.heap.size (fun k_ => some k_ ≠ (u8 : Value).ownBlock ∧ some k_ ≠ (u9 : Value).ownBlock) (.slice Ao46 t222.length co46) t222) ∧ Aside0 (Kd.R k58 58 wc w.heap.size (fun k_ => some k_ ≠ ((.slice Ao46 t222.length co46) : Value).ownBlock ∧ some k_ ≠ (u9 : Value).ownBlock) u8 x8_2) ∧ Aside0 (Kd.R k58 58 wc w.heap.size (fun k_ => some k_ ≠ ((.slice Ao46 t222.length co46) : Value).ownBlock ∧ some k_ ≠ (u8 : Value).ownBlock) u9 x9_2) ∧ Aside0 (Kd.R (Kd.int .i64) 3 wc w.heap.size (fun _ => True) v249 t248) ∧ Aside0 (wc.heap[gb217]? = some (.cells #[(.slice A0_0 l0_0.length c0_0), (.slice A0_1 l0_1.length c0_1)] 113 (0, 0))) ∧ Aside0 (wc.heap[gb218]? = some (.cells #[.int .u8 a1_0, .int .u8 a1_1, .int .u8 a1_2] 94 (0, 0))) ∧ Aside0 (wc.heap[gb225]? = some (.cells #[.int .i64 ((1 + (Int.tmod a1_0 3)) % 256), .int .i64 x226001_4, .int .i64 x226002_4] 79 (0, 0))) ∧ Aside0 (Below w.heap.size w wc))
   case first => as_aux_lemma =>
    have H := HC45.out
    clear HC45
    by_cases c54 : t251 = 0
    ·rw [if_pos c54] at H
     have c54b0 : (t251 == 0) = true := beq_iff_eq.mpr c54
     have c54b1 : (t251 != 0) = false := bne_eq_false_iff_eq.mpr c54
     clear c54
     (first | rw [c54b0] | (simp only [i64_w, i32_w]; rw [c54b0]) | skip)
     have H' := Aside0.mk H
     clear H
     obtain ⟨Ao55, co55, eo55⟩ := Kd.R_slice HO250.out
     subst eo55
     obtain ⟨Ao56, co56, eo56⟩ := Kd.R_slice HO_8.out
     subst eo56
     go_wp2
     go_meet
     case rel => exact ⟨_, (((t248.length : Int) != (x8_2.length : Int))), (by first | rfl | (simp; done) | (simp [*]; done)), H', ⟨by have := HJ4.out; have := HK2.out; first | omega | exact Nat.le_refl _⟩, ⟨by (with_reducible repeat (first | apply Kd.R_alloc | apply Kd.R_drewN | apply Kd.R_drew)); exact Kd.R_mono HO_5.out (fun _ hk => trivial)⟩, ⟨by (with_reducible repeat (first | apply Kd.R_alloc | apply Kd.R_drewN | apply Kd.R_drew)); exact Kd.R_mono HO_6.out (fun _ hk => ⟨hk.1.1, hk.1.2⟩)⟩, ⟨by (with_reducible repeat (first | apply Kd.R_alloc | apply Kd.R_drewN | apply Kd.R_drew)); exact Kd.R_mono HO_8.out (fun _ hk => ⟨hk.1.1, hk.1.2⟩)⟩, ⟨by (with_reducible repeat (first | apply Kd.R_alloc | apply Kd.R_drewN | apply Kd.R_drew)); exact Kd.R_mono HO_9.out (fun _ hk => ⟨hk.1.1, hk.1.2⟩)⟩, ⟨ro_ HO250⟩, BK217, BK218, BK225, ⟨hb_ HB⟩⟩
    rw [if_neg c54] at H
    have c54b0 : (t251 == 0) = false := beq_eq_false_iff_ne.mpr c54
    have c54b1 : (t251 != 0) = true := bne_iff_ne.mpr c54
    (first | rw [c54b0] | (simp only [i64_w, i32_w]; rw [c54b0]) | skip)
    have H' := Aside0.mk H
    clear H
    go_wp2
    go_meet
    case rel => exact ⟨_, (true), (by first | rfl | (simp; done) | (simp [*]; done)), H', ⟨by have := HJ4.out; have := HK2.out; first | omega | exact Nat.le_refl _⟩, ⟨by (with_reducible repeat (first | apply Kd.R_alloc | apply Kd.R_drewN | apply Kd.R_drew)); exact Kd.R_mono HO_5.out (fun _ hk => trivial)⟩, ⟨by (with_reducible repeat (first | apply Kd.R_alloc | apply Kd.R_drewN | apply Kd.R_drew)); exact Kd.R_mono HO_6.out (fun _ hk => ⟨hk.1.1, hk.1.2⟩)⟩, ⟨by (with_reducible repeat (first | apply Kd.R_alloc | apply Kd.R_drewN | apply Kd.R_drew)); exact Kd.R_mono HO_8.out (fun _ hk => ⟨hk.1.1, hk.1.2⟩)⟩, ⟨by (with_reducible repeat (first | apply Kd.R_alloc | apply Kd.R_drewN | apply Kd.R_drew)); exact Kd.R_mono HO_9.out (fun _ hk => ⟨hk.1.1, hk.1.2⟩)⟩, ⟨ro_ HO250⟩, BK217, BK218, BK225, ⟨hb_ HB⟩⟩
   case rest => as_aux_lemma =>
    clear HC45
    try clear c2; try clear p2; try clear q2; try clear hx2; try clear c3; try clear c4; try clear c5; try clear p6; try clear p23; try clear q23; try clear hx23; try clear c26; try clear c26b0; try clear c27; try clear c29; try clear c30; try clear c31; try clear c36; try clear c39; try clear c43; try clear c53; try clear c54; try clear c54b0; try clear c54b1; try clear hx232_0; try clear hx232_1; try clear hx232_2; try clear hx234_0; try clear hx234_1; try clear hx234_2; try clear hx238_0; try clear hx238_1; try clear hx238_2; try clear p232; try clear p234; try clear p238; try clear q232; try clear q234; try clear q238
    obtain ⟨kq, x97_44, rfl, HA, HJ44, HO_5, HO_6, HO_8, HO_9, HO_11, BK217, BK218, BK225, HB⟩ := hcut
    obtain _ | kj44 := kq
    ·exact absurd HA.out (by simp [acmelaw12_MillToNoneOther.j2])
    have H := HA.out
    clear HA
    simp only [acmelaw12_MillToNoneOther.j2] at H
    by_cases c57 : x97_44 = true
    ·subst c57
     have H1 : (none) = some r := by rw [if_pos rfl] at H; exact H
     clear H
     have H := H1
     clear H1
     exact absurd H (by simp)
    replace c57 := Bool.eq_false_iff.mpr c57
    subst c57
    have H1 : (acmelaw12_MillToNoneOther.l1 kj44 t219 t222 x8_2 x9_2 t248 0 ((1 + (Int.tmod a1_0 3)) % 256) x226001_4 x226002_4) = some r := by rw [if_neg (show ¬ (false = true) by decide)] at H; exact H
    clear H
    have H := H1
    clear H1
    have H' := Aside0.mk H
    clear H
    go_wp2
    go_loopg [13] kj44 (fun kq v13 w' => ∃ (x13_4 : Int), v13 = .int .i64 x13_4 ∧ Aside0 (acmelaw12_MillToNoneOther.l1 kq t219 t222 x8_2 x9_2 t248 x13_4 ((1 + (Int.tmod a1_0 3)) % 256) x226001_4 x226002_4 = some r) ∧ Aside0 (kq ≤ kj44) ∧ Aside0 (Kd.R k144 144 w' w.heap.size (fun _ => True) (.slice Ao48 t219.length co48) t219) ∧ Aside0 (Kd.R k58 58 w' w.heap.size (fun k_ => some k_ ≠ (u8 : Value).ownBlock ∧ some k_ ≠ (u9 : Value).ownBlock) (.slice Ao46 t222.length co46) t222) ∧ Aside0 (Kd.R k58 58 w' w.heap.size (fun k_ => some k_ ≠ ((.slice Ao46 t222.length co46) : Value).ownBlock ∧ some k_ ≠ (u9 : Value).ownBlock) u8 x8_2) ∧ Aside0 (Kd.R k58 58 w' w.heap.size (fun k_ => some k_ ≠ ((.slice Ao46 t222.length co46) : Value).ownBlock ∧ some k_ ≠ (u8 : Value).ownBlock) u9 x9_2) ∧ Aside0 (Kd.R (Kd.int .i64) 3 w' w.heap.size (fun _ => True) v249 t248) ∧ Aside0 (w'.heap[gb217]? = some (.cells #[(.slice A0_0 l0_0.length c0_0), (.slice A0_1 l0_1.length c0_1)] 113 (0, 0))) ∧ Aside0 (w'.heap[gb218]? = some (.cells #[.int .u8 a1_0, .int .u8 a1_1, .int .u8 a1_2] 94 (0, 0))) ∧ Aside0 (w'.heap[gb225]? = some (.cells #[.int .i64 ((1 + (Int.tmod a1_0 3)) % 256), .int .i64 x226001_4, .int .i64 x226002_4] 79 (0, 0))) ∧ Aside0 (Below w.heap.size w w'))
    case atStart => exact ⟨(0), (by first | rfl | (simp; done) | (simp [*]; done)), H', ⟨Nat.le_refl _⟩, ⟨ro_ HO_5⟩, ⟨ro_ HO_6⟩, ⟨ro_ HO_8⟩, ⟨ro_ HO_9⟩, ⟨ro_ HO_11⟩, BK217, BK218, BK225, ⟨hb_ HB⟩⟩
    case round => as_aux_lemma =>
     clear H'
     try clear c2; try clear p2; try clear q2; try clear hx2; try clear c3; try clear c4; try clear c5; try clear p6; try clear p23; try clear q23; try clear hx23; try clear c26; try clear c26b0; try clear c27; try clear c29; try clear c30; try clear c31; try clear c36; try clear c39; try clear c43; try clear c53; try clear c54; try clear c54b0; try clear c54b1; try clear c57; try clear hx232_0; try clear hx232_1; try clear hx232_2; try clear hx234_0; try clear hx234_1; try clear hx234_2; try clear hx238_0; try clear hx238_1; try clear hx238_2; try clear p2; try clear p23; try clear p232; try clear p234; try clear p238; try clear p6; try clear q2; try clear q23; try clear q232; try clear q234; try clear q238
     obtain ⟨x13_4, rfl, HA, HK4, HO_5, HO_6, HO_8, HO_9, HO_11, BK217, BK218, BK225, HB⟩ := hrel
     obtain _ | k4 := gk
     ·exact absurd HA.out (by simp [acmelaw12_MillToNoneOther.l1])
     have H := HA.out
     clear HA
     simp only [acmelaw12_MillToNoneOther.l1] at H
     by_cases c58 : x13_4 < (t248.length : Int)
     ·rw [if_pos c58] at H
      have c58b0 : decide (x13_4 < (t248.length : Int)) = true := decide_eq_true c58
      clear c58
      by_cases c59 : 0 ≤ x13_4
      rotate_left
      ·rw [if_neg c59] at H
       exact absurd H (by simp)
      rw [if_pos c59] at H
      have c59b0 : decide (0 ≤ x13_4) = true := decide_eq_true c59
      clear c59
      by_cases c60 : (rd t248 x13_4) < 0
      ·rw [if_pos c60] at H
       have c60b0 : decide ((rd t248 x13_4) < 0) = true := decide_eq_true c60
       clear c60
       exact absurd H (by simp)
      rw [if_neg c60] at H
      have c60b0 : decide ((rd t248 x13_4) < 0) = false := decide_eq_false c60
      clear c60
      by_cases c61 : (rd t248 x13_4) ≥ (t222.length : Int)
      ·rw [if_pos c61] at H
       have c61b0 : decide ((t222.length : Int) ≤ (rd t248 x13_4)) = true := decide_eq_true c61
       clear c61
       exact absurd H (by simp)
      rw [if_neg c61] at H
      have c61b0 : decide ((t222.length : Int) ≤ (rd t248 x13_4)) = false := decide_eq_false c61
      clear c61
      by_cases c62 : x13_4 > 0
      ·rw [if_pos c62] at H
       have c62b0 : decide (0 < x13_4) = true := decide_eq_true c62
       clear c62
       obtain ⟨ji63, hji63⟩ : ∃ j_ : Int, (wrap64 (x13_4 - 1)) = j_ := ⟨_, rfl⟩
       replace H : (if 0 ≤ (ji63) then (if (ji63) < (t248.length : Int) then (if (rd t248 x13_4) ≤ (rd t248 (ji63)) then (none) else (if 0 ≤ (rd t248 x13_4) then (if (rd t248 x13_4) < (t222.length : Int) then (if x13_4 < (x8_2.length : Int) then (if (!(((rd_T58 t222 (rd t248 x13_4)).f0) == ((rd_T58 x8_2 x13_4).f0)) || (!(((rd_T58 t222 (rd t248 x13_4)).f1) == ((rd_T58 x8_2 x13_4).f1)) || (!(((rd_T58 t222 (rd t248 x13_4)).f2) == ((rd_T58 x8_2 x13_4).f2))))) = true then (none) else (acmelaw12_MillToNoneOther.l1 k4 t219 t222 x8_2 x9_2 t248 (wrap64 (x13_4 + 1)) ((1 + (Int.tmod a1_0 3)) % 256) x226001_4 x226002_4)) else (none)) else (none)) else (none))) else (none)) else (none)) = some r := by first | (rw [hji63] at H; exact H) | (simp only [hji63] at H ⊢; exact H)
       have hji63w : (IntKind.i64.wrap (x13_4 - 1)) = ji63 := (i64_w _).trans hji63
       by_cases c64 : 0 ≤ (ji63)
       rotate_left
       ·rw [if_neg c64] at H
        exact absurd H (by simp)
       rw [if_pos c64] at H
       have c64b0 : decide (0 ≤ (ji63)) = true := decide_eq_true c64
       clear c64
       by_cases c65 : (ji63) < (t248.length : Int)
       rotate_left
       ·rw [if_neg c65] at H
        exact absurd H (by simp)
       rw [if_pos c65] at H
       have c65b0 : decide ((ji63) < (t248.length : Int)) = true := decide_eq_true c65
       clear c65
       by_cases c66 : (rd t248 x13_4) ≤ (rd t248 (ji63))
       ·rw [if_pos c66] at H
        have c66b0 : decide ((rd t248 x13_4) ≤ (rd t248 (ji63))) = true := decide_eq_true c66
        clear c66
        exact absurd H (by simp)
       rw [if_neg c66] at H
       have c66b0 : decide ((rd t248 x13_4) ≤ (rd t248 (ji63))) = false := decide_eq_false c66
       clear c66
       by_cases c67 : 0 ≤ (rd t248 x13_4)
       rotate_left
       ·rw [if_neg c67] at H
        exact absurd H (by simp)
       rw [if_pos c67] at H
       have c67b0 : decide (0 ≤ (rd t248 x13_4)) = true := decide_eq_true c67
       clear c67
       by_cases c68 : (rd t248 x13_4) < (t222.length : Int)
       rotate_left
       ·rw [if_neg c68] at H
        exact absurd H (by simp)
       rw [if_pos c68] at H
       have c68b0 : decide ((rd t248 x13_4) < (t222.length : Int)) = true := decide_eq_true c68
       clear c68
       by_cases c69 : x13_4 < (x8_2.length : Int)
       rotate_left
       ·rw [if_neg c69] at H
        exact absurd H (by simp)
       rw [if_pos c69] at H
       have c69b0 : decide (x13_4 < (x8_2.length : Int)) = true := decide_eq_true c69
       clear c69
       by_cases c70 : (!(((rd_T58 t222 (rd t248 x13_4)).f0) == ((rd_T58 x8_2 x13_4).f0)) || (!(((rd_T58 t222 (rd t248 x13_4)).f1) == ((rd_T58 x8_2 x13_4).f1)) || (!(((rd_T58 t222 (rd t248 x13_4)).f2) == ((rd_T58 x8_2 x13_4).f2))))) = true
       ·rw [if_pos c70] at H
        exact absurd H (by simp)
       rw [if_neg c70] at H
       have c70b0 : (!(((rd_T58 t222 (rd t248 x13_4)).f0) == ((rd_T58 x8_2 x13_4).f0)) || (!(((rd_T58 t222 (rd t248 x13_4)).f1) == ((rd_T58 x8_2 x13_4).f1)) || (!(((rd_T58 t222 (rd t248 x13_4)).f2) == ((rd_T58 x8_2 x13_4).f2))))) = false := by simpa using c70
       clear c70
       have H' := Aside0.mk H
       clear H
       obtain ⟨Ao71, co71, eo71⟩ := Kd.R_slice HO_11.out
       subst eo71
       try go_wp2
       replace HO_5 := Aside0.mk (Kd.R_drew HO_5.out)
       replace HO_6 := Aside0.mk (Kd.R_drew HO_6.out)
       replace HO_8 := Aside0.mk (Kd.R_drew HO_8.out)
       replace HO_9 := Aside0.mk (Kd.R_drew HO_9.out)
       replace HO_11 := Aside0.mk (Kd.R_drew HO_11.out)
       replace BK217 := Aside0.mk (blk_drew BK217.out)
       replace BK218 := Aside0.mk (blk_drew BK218.out)
       replace BK225 := Aside0.mk (blk_drew BK225.out)
       replace HB := Aside0.mk (below_drew1 HB.out)
       have p252 : 0 ≤ (x13_4 : Int) := of_decide_eq_true ‹_›
       have q252 : x13_4 < (t248.length : Int) := of_decide_eq_true ‹_›
       obtain ⟨ad252, e252, hx252_0⟩ := Kd.at_int (Kd.R_reads' HO_11.out).2.2 x13_4 p252 q252
       cases e252
       replace p252 := eq_true p252
       replace q252 := eq_true q252
       have p253 : 0 ≤ (x13_4 : Int) := of_decide_eq_true ‹_›
       have q253 : x13_4 < (t248.length : Int) := of_decide_eq_true ‹_›
       obtain ⟨ad253, e253, hx253_0⟩ := Kd.at_int (Kd.R_reads' HO_11.out).2.2 x13_4 p253 q253
       obtain rfl : ad252 = ad253 := (by injection e253)
       replace p253 := eq_true p253
       replace q253 := eq_true q253
       have p254 : 0 ≤ (x13_4 : Int) := of_decide_eq_true ‹_›
       have q254 : x13_4 < (t248.length : Int) := of_decide_eq_true ‹_›
       obtain ⟨ad254, e254, hx254_0⟩ := Kd.at_int (Kd.R_reads' HO_11.out).2.2 x13_4 p254 q254
       obtain rfl : ad252 = ad254 := (by injection e254)
       replace p254 := eq_true p254
       replace q254 := eq_true q254
       have p255 : 0 ≤ ((ji63) : Int) := of_decide_eq_true ‹_›
       have q255 : (ji63) < (t248.length : Int) := of_decide_eq_true ‹_›
       obtain ⟨ad255, e255, hx255_0⟩ := Kd.at_int (Kd.R_reads' HO_11.out).2.2 (ji63) p255 q255
       obtain rfl : ad252 = ad255 := (by injection e255)
       replace p255 := eq_true p255
       replace q255 := eq_true q255
       have p256 : 0 ≤ (x13_4 : Int) := of_decide_eq_true ‹_›
       have q256 : x13_4 < (t248.length : Int) := of_decide_eq_true ‹_›
       obtain ⟨ad256, e256, hx256_0⟩ := Kd.at_int (Kd.R_reads' HO_11.out).2.2 x13_4 p256 q256
       obtain rfl : ad252 = ad256 := (by injection e256)
       replace p256 := eq_true p256
       replace q256 := eq_true q256
       have p257 : 0 ≤ ((rd t248 x13_4) : Int) := of_decide_eq_true ‹_›
       have q257 : (rd t248 x13_4) < (t222.length : Int) := of_decide_eq_true ‹_›
       obtain ⟨ad257, e257, hx257_0, hx257_1, hx257_2⟩ := at_T58 (Kd.R_reads' HO_6.out).2.2 (rd t248 x13_4) p257 q257
       cases e257
       replace p257 := eq_true p257
       replace q257 := eq_true q257
       obtain ⟨Ao73, co73, eo73⟩ := Kd.R_slice HO_8.out
       (first | subst eo73 | (injection eo73 with f1_ f2_ f3_; have f4_ := f1_.symm; have f5_ := f3_.symm; clear f1_ f2_ f3_; subst f4_; subst f5_))
       have p258 : 0 ≤ (x13_4 : Int) := of_decide_eq_true ‹_›
       have q258 : x13_4 < (x8_2.length : Int) := of_decide_eq_true ‹_›
       obtain ⟨ad258, e258, hx258_0, hx258_1, hx258_2⟩ := at_T58 (Kd.R_reads' HO_8.out).2.2 x13_4 p258 q258
       cases e258
       replace p258 := eq_true p258
       replace q258 := eq_true q258
       refine start_ (n := 44) (S := fun w' => w'.cell? (ad252.add (x13_4).toNat) = some (.int .i64 (rd t248 x13_4)) ∧ w'.cell? (ad252.add (x13_4).toNat) = some (.int .i64 (rd t248 x13_4)) ∧ w'.cell? (ad252.add (x13_4).toNat) = some (.int .i64 (rd t248 x13_4)) ∧ w'.cell? (ad252.add ((ji63)).toNat) = some (.int .i64 (rd t248 (ji63))) ∧ w'.cell? (ad252.add (x13_4).toNat) = some (.int .i64 (rd t248 x13_4)) ∧ w'.cell? (ad257.add (((rd t248 x13_4)).toNat * 3)) = some (.int .i64 ((rd_T58 t222 (rd t248 x13_4)).f0)) ∧ w'.cell? ⟨(ad257.add (((rd t248 x13_4)).toNat * 3)).block, (ad257.add (((rd t248 x13_4)).toNat * 3)).off + 1, none⟩ = some (.int .i64 ((rd_T58 t222 (rd t248 x13_4)).f1)) ∧ w'.cell? ⟨(ad257.add (((rd t248 x13_4)).toNat * 3)).block, (ad257.add (((rd t248 x13_4)).toNat * 3)).off + 2, none⟩ = some (.int .i64 ((rd_T58 t222 (rd t248 x13_4)).f2)) ∧ w'.cell? (ad258.add ((x13_4).toNat * 3)) = some (.int .i64 ((rd_T58 x8_2 x13_4).f0)) ∧ w'.cell? ⟨(ad258.add ((x13_4).toNat * 3)).block, (ad258.add ((x13_4).toNat * 3)).off + 1, none⟩ = some (.int .i64 ((rd_T58 x8_2 x13_4).f1)) ∧ w'.cell? ⟨(ad258.add ((x13_4).toNat * 3)).block, (ad258.add ((x13_4).toNat * 3)).off + 2, none⟩ = some (.int .i64 ((rd_T58 x8_2 x13_4).f2))) (ds := []) #[ff, ff, ff, ff, ff, ff, ff, ff, ff, ff, ff, ff, ff, ff, ff, ff, ff, ff, ff, ff, ff, ff, ff, ff, ff, ff, ff, ff, ff, ff, ff, ff, ff, ff, ff, ff, ff, ff, ff, ff, ff, ff, ff, ff] (by kernel_rfl) rfl rfl ⟨hx252_0, hx253_0, hx254_0, hx255_0, hx256_0, hx257_0, hx257_1, hx257_2, hx258_0, hx258_1, hx258_2⟩ (fun hHeld => ?_); refine with_tabW acmelaw12_MillToNoneOther.tab18 acmelaw12_MillToNoneOther.bits18 (fun HT_ HW_ => ?_)
       generalize wr.drew = w72 at HO_5 HO_6 HO_8 HO_9 HO_11 BK217 BK218 BK225 HB hx252_0 hx253_0 hx254_0 hx255_0 hx256_0 hx257_0 hx257_1 hx257_2 hx258_0 hx258_1 hx258_2 hHeld ⊢
       refine pure_ (i := 0) (N := some 104) (v := ?_) (a' := ?_) #[tt, ff, ff, ff, ff, ff, ff, ff, ff, ff, ff, ff, ff, ff, ff, ff, ff, ff, ff, ff, ff, ff, ff, ff, ff, ff, ff, ff, ff, ff, ff, ff, ff, ff, ff, ff, ff, ff, ff, ff, ff, ff, ff, ff] rfl rfl (any_of HT_.out (by kernel_rfl)) (fun _ _ _ h => h) (Or.inl ⟨by rfl, ?_⟩) ?_ ?_
       rotate_left
       ·intro w'
        go_simp
        with_reducible rfl
       rotate_left
       ·simp only [Act.put, sa_, s0_, s1_, i64_w, i32_w]
        rfl
       refine pure_ (i := 1) (N := some 105) (v := ?_) (a' := ?_) #[tt, tt, ff, ff, ff, ff, ff, ff, ff, ff, ff, ff, ff, ff, ff, ff, ff, ff, ff, ff, ff, ff, ff, ff, ff, ff, ff, ff, ff, ff, ff, ff, ff, ff, ff, ff, ff, ff, ff, ff, ff, ff, ff, ff] rfl rfl (any_of HT_.out (by kernel_rfl)) (fun _ _ _ h => h) (Or.inl ⟨by rfl, ?_⟩) ?_ ?_
       rotate_left
       ·intro w'
        go_simp
        with_reducible rfl
       rotate_left
       ·simp only [Act.put, sa_, s0_, s1_, i64_w, i32_w]
        rfl
       refine pure_ (i := 2) (N := some 106) (v := ?_) (a' := ?_) #[tt, tt, tt, ff, ff, ff, ff, ff, ff, ff, ff, ff, ff, ff, ff, ff, ff, ff, ff, ff, ff, ff, ff, ff, ff, ff, ff, ff, ff, ff, ff, ff, ff, ff, ff, ff, ff, ff, ff, ff, ff, ff, ff, ff] rfl rfl (any_of HT_.out (by kernel_rfl)) (fun _ _ _ h => h) (Or.inl ⟨by rfl, ?_⟩) ?_ ?_
       rotate_left
       ·intro w'
        go_simp
        with_reducible rfl
       rotate_left
       ·simp only [Act.put, sa_, s0_, s1_, i64_w, i32_w]
        rfl
       refine take_ (i := 3) (N := some 107) (v := ?_) (a' := ?_) #[tt, tt, tt, tt, ff, ff, ff, ff, ff, ff, ff, ff, ff, ff, ff, ff, ff, ff, ff, ff, ff, ff, ff, ff, ff, ff, ff, ff, ff, ff, ff, ff, ff, ff, ff, ff, ff, ff, ff, ff, ff, ff, ff, ff] rfl rfl (take_ofW HT_.out HW_.out (by kernel_rfl)) (fun _ _ _ h => h) (Or.inl ⟨by rfl, ?_⟩) hHeld ?_ ?_
       rotate_left
       ·rintro w' ⟨s0, s1, s2, s3, s4, s5, s6, s7, s8, s9, s10⟩
        go_simp
        with_reducible rfl
       rotate_left
       ·simp only [Act.put, sa_, s0_, s1_, i64_w, i32_w]
        rfl
       refine pure_ (i := 4) (N := some 108) (v := ?_) (a' := ?_) #[tt, tt, tt, tt, tt, ff, ff, ff, ff, ff, ff, ff, ff, ff, ff, ff, ff, ff, ff, ff, ff, ff, ff, ff, ff, ff, ff, ff, ff, ff, ff, ff, ff, ff, ff, ff, ff, ff, ff, ff, ff, ff, ff, ff] rfl rfl (any_of HT_.out (by kernel_rfl)) (fun _ _ _ h => h) (Or.inl ⟨by rfl, ?_⟩) ?_ ?_
       rotate_left
       ·intro w'
        go_simp
        with_reducible rfl
       rotate_left
       ·simp only [Act.put, sa_, s0_, s1_, i64_w, i32_w]
        rfl
       refine pure_ (i := 5) (N := some 109) (v := ?_) (a' := ?_) #[tt, tt, tt, tt, tt, tt, ff, ff, ff, ff, ff, ff, ff, ff, ff, ff, ff, ff, ff, ff, ff, ff, ff, ff, ff, ff, ff, ff, ff, ff, ff, ff, ff, ff, ff, ff, ff, ff, ff, ff, ff, ff, ff, ff] rfl rfl (any_of HT_.out (by kernel_rfl)) (fun _ _ _ h => h) (Or.inl ⟨by rfl, ?_⟩) ?_ ?_
       rotate_left
       ·intro w'
        go_simp
        with_reducible rfl
       rotate_left
       ·simp only [Act.put, sa_, s0_, s1_, i64_w, i32_w]
        rfl
       refine pure_ (i := 6) (N := some 110) (v := ?_) (a' := ?_) #[tt, tt, tt, tt, tt, tt, tt, ff, ff, ff, ff, ff, ff, ff, ff, ff, ff, ff, ff, ff, ff, ff, ff, ff, ff, ff, ff, ff, ff, ff, ff, ff, ff, ff, ff, ff, ff, ff, ff, ff, ff, ff, ff, ff] rfl rfl (any_of HT_.out (by kernel_rfl)) (fun _ _ _ h => h) (Or.inl ⟨by rfl, ?_⟩) ?_ ?_
       rotate_left
       ·intro w'
        go_simp
        with_reducible rfl
       rotate_left
       ·simp only [Act.put, sa_, s0_, s1_, i64_w, i32_w]
        rfl
       refine pure_ (i := 7) (N := some 111) (v := ?_) (a' := ?_) #[tt, tt, tt, tt, tt, tt, tt, tt, ff, ff, ff, ff, ff, ff, ff, ff, ff, ff, ff, ff, ff, ff, ff, ff, ff, ff, ff, ff, ff, ff, ff, ff, ff, ff, ff, ff, ff, ff, ff, ff, ff, ff, ff, ff] rfl rfl (any_of HT_.out (by kernel_rfl)) (fun _ _ _ h => h) (Or.inl ⟨by rfl, ?_⟩) ?_ ?_
       rotate_left
       ·intro w'
        go_simp
        with_reducible rfl
       rotate_left
       ·simp only [Act.put, sa_, s0_, s1_, i64_w, i32_w]
        rfl
       refine pure_ (i := 8) (N := some 112) (v := ?_) (a' := ?_) #[tt, tt, tt, tt, tt, tt, tt, tt, tt, ff, ff, ff, ff, ff, ff, ff, ff, ff, ff, ff, ff, ff, ff, ff, ff, ff, ff, ff, ff, ff, ff, ff, ff, ff, ff, ff, ff, ff, ff, ff, ff, ff, ff, ff] rfl rfl (any_of HT_.out (by kernel_rfl)) (fun _ _ _ h => h) (Or.inl ⟨by rfl, ?_⟩) ?_ ?_
       rotate_left
       ·intro w'
        go_simp
        with_reducible rfl
       rotate_left
       ·simp only [Act.put, sa_, s0_, s1_, i64_w, i32_w]
        rfl
       refine pure_ (i := 10) (N := some 114) (v := ?_) (a' := ?_) #[tt, tt, tt, tt, tt, tt, tt, tt, tt, ff, tt, ff, ff, ff, ff, ff, ff, ff, ff, ff, ff, ff, ff, ff, ff, ff, ff, ff, ff, ff, ff, ff, ff, ff, ff, ff, ff, ff, ff, ff, ff, ff, ff, ff] rfl rfl (any_of HT_.out (by kernel_rfl)) (fun _ _ _ h => h) (Or.inl ⟨by rfl, ?_⟩) ?_ ?_
       rotate_left
       ·intro w'
        go_simp
        with_reducible rfl
       rotate_left
       ·simp only [Act.put, sa_, s0_, s1_, i64_w, i32_w]
        rfl
       refine pure_ (i := 11) (N := some 115) (v := ?_) (a' := ?_) #[tt, tt, tt, tt, tt, tt, tt, tt, tt, ff, tt, tt, ff, ff, ff, ff, ff, ff, ff, ff, ff, ff, ff, ff, ff, ff, ff, ff, ff, ff, ff, ff, ff, ff, ff, ff, ff, ff, ff, ff, ff, ff, ff, ff] rfl rfl (any_of HT_.out (by kernel_rfl)) (fun _ _ _ h => h) (Or.inl ⟨by rfl, ?_⟩) ?_ ?_
       rotate_left
       ·intro w'
        go_simp
        with_reducible rfl
       rotate_left
       ·simp only [Act.put, sa_, s0_, s1_, i64_w, i32_w]
        rfl
       refine take_ (i := 9) (N := some 113) (v := ?_) (a' := ?_) #[tt, tt, tt, tt, tt, tt, tt, tt, tt, tt, tt, tt, ff, ff, ff, ff, ff, ff, ff, ff, ff, ff, ff, ff, ff, ff, ff, ff, ff, ff, ff, ff, ff, ff, ff, ff, ff, ff, ff, ff, ff, ff, ff, ff] rfl rfl (take_ofW HT_.out HW_.out (by kernel_rfl)) (fun _ _ _ h => h) (Or.inl ⟨by rfl, ?_⟩) hHeld ?_ ?_
       rotate_left
       ·rintro w' ⟨s0, s1, s2, s3, s4, s5, s6, s7, s8, s9, s10⟩
        go_simp
        with_reducible rfl
       rotate_left
       ·simp only [Act.put, sa_, s0_, s1_, i64_w, i32_w]
        rfl
       refine pure_ (i := 12) (N := some 116) (v := ?_) (a' := ?_) #[tt, tt, tt, tt, tt, tt, tt, tt, tt, tt, tt, tt, tt, ff, ff, ff, ff, ff, ff, ff, ff, ff, ff, ff, ff, ff, ff, ff, ff, ff, ff, ff, ff, ff, ff, ff, ff, ff, ff, ff, ff, ff, ff, ff] rfl rfl (any_of HT_.out (by kernel_rfl)) (fun _ _ _ h => h) (Or.inl ⟨by rfl, ?_⟩) ?_ ?_
       rotate_left
       ·intro w'
        go_simp
        with_reducible rfl
       rotate_left
       ·simp only [Act.put, sa_, s0_, s1_, i64_w, i32_w]
        rfl
       refine pure_ (i := 13) (N := some 117) (v := ?_) (a' := ?_) #[tt, tt, tt, tt, tt, tt, tt, tt, tt, tt, tt, tt, tt, tt, ff, ff, ff, ff, ff, ff, ff, ff, ff, ff, ff, ff, ff, ff, ff, ff, ff, ff, ff, ff, ff, ff, ff, ff, ff, ff, ff, ff, ff, ff] rfl rfl (any_of HT_.out (by kernel_rfl)) (fun _ _ _ h => h) (Or.inl ⟨by rfl, ?_⟩) ?_ ?_
       rotate_left
       ·intro w'
        go_simp
        with_reducible rfl
       rotate_left
       ·simp only [Act.put, sa_, s0_, s1_, i64_w, i32_w]
        rfl
       refine pure_ (i := 14) (N := some 118) (v := ?_) (a' := ?_) #[tt, tt, tt, tt, tt, tt, tt, tt, tt, tt, tt, tt, tt, tt, tt, ff, ff, ff, ff, ff, ff, ff, ff, ff, ff, ff, ff, ff, ff, ff, ff, ff, ff, ff, ff, ff, ff, ff, ff, ff, ff, ff, ff, ff] rfl rfl (any_of HT_.out (by kernel_rfl)) (fun _ _ _ h => h) (Or.inl ⟨by rfl, ?_⟩) ?_ ?_
       rotate_left
       ·intro w'
        go_simp
        with_reducible rfl
       rotate_left
       ·simp only [Act.put, sa_, s0_, s1_, i64_w, i32_w]
        rfl
       refine pure_ (i := 15) (N := some 119) (v := ?_) (a' := ?_) #[tt, tt, tt, tt, tt, tt, tt, tt, tt, tt, tt, tt, tt, tt, tt, tt, ff, ff, ff, ff, ff, ff, ff, ff, ff, ff, ff, ff, ff, ff, ff, ff, ff, ff, ff, ff, ff, ff, ff, ff, ff, ff, ff, ff] rfl rfl (any_of HT_.out (by kernel_rfl)) (fun _ _ _ h => h) (Or.inl ⟨by rfl, ?_⟩) ?_ ?_
       rotate_left
       ·intro w'
        go_simp
        with_reducible rfl
       rotate_left
       ·simp only [Act.put, sa_, s0_, s1_, i64_w, i32_w]
        rfl
       refine pure_ (i := 16) (N := some 120) (v := ?_) (a' := ?_) #[tt, tt, tt, tt, tt, tt, tt, tt, tt, tt, tt, tt, tt, tt, tt, tt, tt, ff, ff, ff, ff, ff, ff, ff, ff, ff, ff, ff, ff, ff, ff, ff, ff, ff, ff, ff, ff, ff, ff, ff, ff, ff, ff, ff] rfl rfl (any_of HT_.out (by kernel_rfl)) (fun _ _ _ h => h) (Or.inl ⟨by rfl, ?_⟩) ?_ ?_
       rotate_left
       ·intro w'
        go_simp
        with_reducible rfl
       rotate_left
       ·simp only [Act.put, sa_, s0_, s1_, i64_w, i32_w]
        rfl
       refine pure_ (i := 17) (N := some 121) (v := ?_) (a' := ?_) #[tt, tt, tt, tt, tt, tt, tt, tt, tt, tt, tt, tt, tt, tt, tt, tt, tt, tt, ff, ff, ff, ff, ff, ff, ff, ff, ff, ff, ff, ff, ff, ff, ff, ff, ff, ff, ff, ff, ff, ff, ff, ff, ff, ff] rfl rfl (any_of HT_.out (by kernel_rfl)) (fun _ _ _ h => h) (Or.inl ⟨by rfl, ?_⟩) ?_ ?_
       rotate_left
       ·intro w'
        go_simp
        with_reducible rfl
       rotate_left
       ·simp only [Act.put, sa_, s0_, s1_, i64_w, i32_w]
        rfl
       refine pure_ (i := 18) (N := some 122) (v := ?_) (a' := ?_) #[tt, tt, tt, tt, tt, tt, tt, tt, tt, tt, tt, tt, tt, tt, tt, tt, tt, tt, tt, ff, ff, ff, ff, ff, ff, ff, ff, ff, ff, ff, ff, ff, ff, ff, ff, ff, ff, ff, ff, ff, ff, ff, ff, ff] rfl rfl (any_of HT_.out (by kernel_rfl)) (fun _ _ _ h => h) (Or.inl ⟨by rfl, ?_⟩) ?_ ?_
       rotate_left
       ·intro w'
        go_simp
        with_reducible rfl
       rotate_left
       ·simp only [Act.put, sa_, s0_, s1_, i64_w, i32_w]
        rfl
       refine pure_ (i := 19) (N := some 123) (v := ?_) (a' := ?_) #[tt, tt, tt, tt, tt, tt, tt, tt, tt, tt, tt, tt, tt, tt, tt, tt, tt, tt, tt, tt, ff, ff, ff, ff, ff, ff, ff, ff, ff, ff, ff, ff, ff, ff, ff, ff, ff, ff, ff, ff, ff, ff, ff, ff] rfl rfl (any_of HT_.out (by kernel_rfl)) (fun _ _ _ h => h) (Or.inl ⟨by rfl, ?_⟩) ?_ ?_
       rotate_left
       ·intro w'
        go_simp
        with_reducible rfl
       rotate_left
       ·simp only [Act.put, sa_, s0_, s1_, i64_w, i32_w]
        rfl
       refine pure_ (i := 20) (N := some 124) (v := ?_) (a' := ?_) #[tt, tt, tt, tt, tt, tt, tt, tt, tt, tt, tt, tt, tt, tt, tt, tt, tt, tt, tt, tt, tt, ff, ff, ff, ff, ff, ff, ff, ff, ff, ff, ff, ff, ff, ff, ff, ff, ff, ff, ff, ff, ff, ff, ff] rfl rfl (any_of HT_.out (by kernel_rfl)) (fun _ _ _ h => h) (Or.inl ⟨by rfl, ?_⟩) ?_ ?_
       rotate_left
       ·intro w'
        go_simp
        with_reducible rfl
       rotate_left
       ·simp only [Act.put, sa_, s0_, s1_, i64_w, i32_w]
        rfl
       refine pure_ (i := 22) (N := some 126) (v := ?_) (a' := ?_) #[tt, tt, tt, tt, tt, tt, tt, tt, tt, tt, tt, tt, tt, tt, tt, tt, tt, tt, tt, tt, tt, ff, tt, ff, ff, ff, ff, ff, ff, ff, ff, ff, ff, ff, ff, ff, ff, ff, ff, ff, ff, ff, ff, ff] rfl rfl (any_of HT_.out (by kernel_rfl)) (fun _ _ _ h => h) (Or.inl ⟨by rfl, ?_⟩) ?_ ?_
       rotate_left
       ·intro w'
        go_simp
        with_reducible rfl
       rotate_left
       ·simp only [Act.put, sa_, s0_, s1_, i64_w, i32_w]
        rfl
       refine pure_ (i := 23) (N := some 127) (v := ?_) (a' := ?_) #[tt, tt, tt, tt, tt, tt, tt, tt, tt, tt, tt, tt, tt, tt, tt, tt, tt, tt, tt, tt, tt, ff, tt, tt, ff, ff, ff, ff, ff, ff, ff, ff, ff, ff, ff, ff, ff, ff, ff, ff, ff, ff, ff, ff] rfl rfl (any_of HT_.out (by kernel_rfl)) (fun _ _ _ h => h) (Or.inl ⟨by rfl, ?_⟩) ?_ ?_
       rotate_left
       ·intro w'
        go_simp
        with_reducible rfl
       rotate_left
       ·simp only [Act.put, sa_, s0_, s1_, i64_w, i32_w]
        rfl
       refine pure_ (i := 24) (N := some 128) (v := ?_) (a' := ?_) #[tt, tt, tt, tt, tt, tt, tt, tt, tt, tt, tt, tt, tt, tt, tt, tt, tt, tt, tt, tt, tt, ff, tt, tt, tt, ff, ff, ff, ff, ff, ff, ff, ff, ff, ff, ff, ff, ff, ff, ff, ff, ff, ff, ff] rfl rfl (any_of HT_.out (by kernel_rfl)) (fun _ _ _ h => h) (Or.inl ⟨by rfl, ?_⟩) ?_ ?_
       rotate_left
       ·intro w'
        go_simp
        with_reducible rfl
       rotate_left
       ·simp only [Act.put, sa_, s0_, s1_, i64_w, i32_w]
        rfl
       refine pure_ (i := 25) (N := some 129) (v := ?_) (a' := ?_) #[tt, tt, tt, tt, tt, tt, tt, tt, tt, tt, tt, tt, tt, tt, tt, tt, tt, tt, tt, tt, tt, ff, tt, tt, tt, tt, ff, ff, ff, ff, ff, ff, ff, ff, ff, ff, ff, ff, ff, ff, ff, ff, ff, ff] rfl rfl (any_of HT_.out (by kernel_rfl)) (fun _ _ _ h => h) (Or.inl ⟨by rfl, ?_⟩) ?_ ?_
       rotate_left
       ·intro w'
        go_simp
        with_reducible rfl
       rotate_left
       ·simp only [Act.put, sa_, s0_, s1_, i64_w, i32_w]
        rfl
       refine take_ (i := 21) (N := some 125) (v := ?_) (a' := ?_) #[tt, tt, tt, tt, tt, tt, tt, tt, tt, tt, tt, tt, tt, tt, tt, tt, tt, tt, tt, tt, tt, tt, tt, tt, tt, tt, ff, ff, ff, ff, ff, ff, ff, ff, ff, ff, ff, ff, ff, ff, ff, ff, ff, ff] rfl rfl (take_ofW HT_.out HW_.out (by kernel_rfl)) (fun _ _ _ h => h) (Or.inl ⟨by rfl, ?_⟩) hHeld ?_ ?_
       rotate_left
       ·rintro w' ⟨s0, s1, s2, s3, s4, s5, s6, s7, s8, s9, s10⟩
        go_simp
        with_reducible rfl
       rotate_left
       ·simp only [Act.put, sa_, s0_, s1_, i64_w, i32_w]
        rfl
       refine take_ (i := 26) (N := some 130) (v := ?_) (a' := ?_) #[tt, tt, tt, tt, tt, tt, tt, tt, tt, tt, tt, tt, tt, tt, tt, tt, tt, tt, tt, tt, tt, tt, tt, tt, tt, tt, tt, ff, ff, ff, ff, ff, ff, ff, ff, ff, ff, ff, ff, ff, ff, ff, ff, ff] rfl rfl (take_ofW HT_.out HW_.out (by kernel_rfl)) (fun _ _ _ h => h) (Or.inl ⟨by rfl, ?_⟩) hHeld ?_ ?_
       rotate_left
       ·rintro w' ⟨s0, s1, s2, s3, s4, s5, s6, s7, s8, s9, s10⟩
        go_simp
        with_reducible rfl
       rotate_left
       ·simp only [Act.put, sa_, s0_, s1_, i64_w, i32_w]
        rfl
       refine pure_ (i := 27) (N := some 131) (v := ?_) (a' := ?_) #[tt, tt, tt, tt, tt, tt, tt, tt, tt, tt, tt, tt, tt, tt, tt, tt, tt, tt, tt, tt, tt, tt, tt, tt, tt, tt, tt, tt, ff, ff, ff, ff, ff, ff, ff, ff, ff, ff, ff, ff, ff, ff, ff, ff] rfl rfl (any_of HT_.out (by kernel_rfl)) (fun _ _ _ h => h) (Or.inl ⟨by rfl, ?_⟩) ?_ ?_
       rotate_left
       ·intro w'
        go_simp
        with_reducible rfl
       rotate_left
       ·simp only [Act.put, sa_, s0_, s1_, i64_w, i32_w]
        rfl
       refine pure_ (i := 28) (N := some 132) (v := ?_) (a' := ?_) #[tt, tt, tt, tt, tt, tt, tt, tt, tt, tt, tt, tt, tt, tt, tt, tt, tt, tt, tt, tt, tt, tt, tt, tt, tt, tt, tt, tt, tt, ff, ff, ff, ff, ff, ff, ff, ff, ff, ff, ff, ff, ff, ff, ff] rfl rfl (any_of HT_.out (by kernel_rfl)) (fun _ _ _ h => h) (Or.inl ⟨by rfl, ?_⟩) ?_ ?_
       rotate_left
       ·intro w'
        go_simp
        with_reducible rfl
       rotate_left
       ·simp only [Act.put, sa_, s0_, s1_, i64_w, i32_w]
        rfl
       refine pure_ (i := 29) (N := some 133) (v := ?_) (a' := ?_) #[tt, tt, tt, tt, tt, tt, tt, tt, tt, tt, tt, tt, tt, tt, tt, tt, tt, tt, tt, tt, tt, tt, tt, tt, tt, tt, tt, tt, tt, tt, ff, ff, ff, ff, ff, ff, ff, ff, ff, ff, ff, ff, ff, ff] rfl rfl (any_of HT_.out (by kernel_rfl)) (fun _ _ _ h => h) (Or.inl ⟨by rfl, ?_⟩) ?_ ?_
       rotate_left
       ·intro w'
        go_simp
        with_reducible rfl
       rotate_left
       ·simp only [Act.put, sa_, s0_, s1_, i64_w, i32_w]
        rfl
       refine pure_ (i := 30) (N := some 134) (v := ?_) (a' := ?_) #[tt, tt, tt, tt, tt, tt, tt, tt, tt, tt, tt, tt, tt, tt, tt, tt, tt, tt, tt, tt, tt, tt, tt, tt, tt, tt, tt, tt, tt, tt, tt, ff, ff, ff, ff, ff, ff, ff, ff, ff, ff, ff, ff, ff] rfl rfl (any_of HT_.out (by kernel_rfl)) (fun _ _ _ h => h) (Or.inl ⟨by rfl, ?_⟩) ?_ ?_
       rotate_left
       ·intro w'
        go_simp
        with_reducible rfl
       rotate_left
       ·simp only [Act.put, sa_, s0_, s1_, i64_w, i32_w]
        rfl
       refine pure_ (i := 31) (N := some 135) (v := ?_) (a' := ?_) #[tt, tt, tt, tt, tt, tt, tt, tt, tt, tt, tt, tt, tt, tt, tt, tt, tt, tt, tt, tt, tt, tt, tt, tt, tt, tt, tt, tt, tt, tt, tt, tt, ff, ff, ff, ff, ff, ff, ff, ff, ff, ff, ff, ff] rfl rfl (any_of HT_.out (by kernel_rfl)) (fun _ _ _ h => h) (Or.inl ⟨by rfl, ?_⟩) ?_ ?_
       rotate_left
       ·intro w'
        go_simp
        with_reducible rfl
       rotate_left
       ·simp only [Act.put, sa_, s0_, s1_, i64_w, i32_w]
        rfl
       refine pure_ (i := 32) (N := some 136) (v := ?_) (a' := ?_) #[tt, tt, tt, tt, tt, tt, tt, tt, tt, tt, tt, tt, tt, tt, tt, tt, tt, tt, tt, tt, tt, tt, tt, tt, tt, tt, tt, tt, tt, tt, tt, tt, tt, ff, ff, ff, ff, ff, ff, ff, ff, ff, ff, ff] rfl rfl (any_of HT_.out (by kernel_rfl)) (fun _ _ _ h => h) (Or.inl ⟨by rfl, ?_⟩) ?_ ?_
       rotate_left
       ·intro w'
        go_simp
        with_reducible rfl
       rotate_left
       ·simp only [Act.put, sa_, s0_, s1_, i64_w, i32_w]
        rfl
       refine pure_ (i := 33) (N := some 137) (v := ?_) (a' := ?_) #[tt, tt, tt, tt, tt, tt, tt, tt, tt, tt, tt, tt, tt, tt, tt, tt, tt, tt, tt, tt, tt, tt, tt, tt, tt, tt, tt, tt, tt, tt, tt, tt, tt, tt, ff, ff, ff, ff, ff, ff, ff, ff, ff, ff] rfl rfl (any_of HT_.out (by kernel_rfl)) (fun _ _ _ h => h) (Or.inl ⟨by rfl, ?_⟩) ?_ ?_
       rotate_left
       ·intro w'
        go_simp
        with_reducible rfl
       rotate_left
       ·simp only [Act.put, sa_, s0_, s1_, i64_w, i32_w]
        rfl
       refine pure_ (i := 34) (N := some 138) (v := ?_) (a' := ?_) #[tt, tt, tt, tt, tt, tt, tt, tt, tt, tt, tt, tt, tt, tt, tt, tt, tt, tt, tt, tt, tt, tt, tt, tt, tt, tt, tt, tt, tt, tt, tt, tt, tt, tt, tt, ff, ff, ff, ff, ff, ff, ff, ff, ff] rfl rfl (any_of HT_.out (by kernel_rfl)) (fun _ _ _ h => h) (Or.inl ⟨by rfl, ?_⟩) ?_ ?_
       rotate_left
       ·intro w'
        go_simp
        with_reducible rfl
       rotate_left
       ·simp only [Act.put, sa_, s0_, s1_, i64_w, i32_w]
        rfl
       refine pure_ (i := 38) (N := some 142) (v := ?_) (a' := ?_) #[tt, tt, tt, tt, tt, tt, tt, tt, tt, tt, tt, tt, tt, tt, tt, tt, tt, tt, tt, tt, tt, tt, tt, tt, tt, tt, tt, tt, tt, tt, tt, tt, tt, tt, tt, ff, ff, ff, tt, ff, ff, ff, ff, ff] rfl rfl (any_of HT_.out (by kernel_rfl)) (fun _ _ _ h => h) (Or.inl ⟨by rfl, ?_⟩) ?_ ?_
       rotate_left
       ·intro w'
        go_simp
        with_reducible rfl
       rotate_left
       ·simp only [Act.put, sa_, s0_, s1_, i64_w, i32_w]
        rfl
       refine pure_ (i := 39) (N := some 143) (v := ?_) (a' := ?_) #[tt, tt, tt, tt, tt, tt, tt, tt, tt, tt, tt, tt, tt, tt, tt, tt, tt, tt, tt, tt, tt, tt, tt, tt, tt, tt, tt, tt, tt, tt, tt, tt, tt, tt, tt, ff, ff, ff, tt, tt, ff, ff, ff, ff] rfl rfl (any_of HT_.out (by kernel_rfl)) (fun _ _ _ h => h) (Or.inl ⟨by rfl, ?_⟩) ?_ ?_
       rotate_left
       ·intro w'
        go_simp
        with_reducible rfl
       rotate_left
       ·simp only [Act.put, sa_, s0_, s1_, i64_w, i32_w]
        rfl
       refine pure_ (i := 40) (N := some 144) (v := ?_) (a' := ?_) #[tt, tt, tt, tt, tt, tt, tt, tt, tt, tt, tt, tt, tt, tt, tt, tt, tt, tt, tt, tt, tt, tt, tt, tt, tt, tt, tt, tt, tt, tt, tt, tt, tt, tt, tt, ff, ff, ff, tt, tt, tt, ff, ff, ff] rfl rfl (any_of HT_.out (by kernel_rfl)) (fun _ _ _ h => h) (Or.inl ⟨by rfl, ?_⟩) ?_ ?_
       rotate_left
       ·intro w'
        go_simp
        with_reducible rfl
       rotate_left
       ·simp only [Act.put, sa_, s0_, s1_, i64_w, i32_w]
        rfl
       refine take_ (i := 35) (N := some 139) (v := ?_) (a' := ?_) #[tt, tt, tt, tt, tt, tt, tt, tt, tt, tt, tt, tt, tt, tt, tt, tt, tt, tt, tt, tt, tt, tt, tt, tt, tt, tt, tt, tt, tt, tt, tt, tt, tt, tt, tt, tt, ff, ff, tt, tt, tt, ff, ff, ff] rfl rfl (take_ofW HT_.out HW_.out (by kernel_rfl)) (fun _ _ _ h => h) (Or.inl ⟨by rfl, ?_⟩) hHeld ?_ ?_
       rotate_left
       ·rintro w' ⟨s0, s1, s2, s3, s4, s5, s6, s7, s8, s9, s10⟩
        go_simp
        with_reducible rfl
       rotate_left
       ·simp only [Act.put, sa_, s0_, s1_, i64_w, i32_w]
        rfl
       refine pure_ (i := 36) (N := some 140) (v := ?_) (a' := ?_) #[tt, tt, tt, tt, tt, tt, tt, tt, tt, tt, tt, tt, tt, tt, tt, tt, tt, tt, tt, tt, tt, tt, tt, tt, tt, tt, tt, tt, tt, tt, tt, tt, tt, tt, tt, tt, tt, ff, tt, tt, tt, ff, ff, ff] rfl rfl (any_of HT_.out (by kernel_rfl)) (fun _ _ _ h => h) (Or.inl ⟨by rfl, ?_⟩) ?_ ?_
       rotate_left
       ·intro w'
        go_simp
        with_reducible rfl
       rotate_left
       ·simp only [Act.put, sa_, s0_, s1_, i64_w, i32_w]
        rfl
       refine take_ (i := 37) (N := some 141) (v := ?_) (a' := ?_) #[tt, tt, tt, tt, tt, tt, tt, tt, tt, tt, tt, tt, tt, tt, tt, tt, tt, tt, tt, tt, tt, tt, tt, tt, tt, tt, tt, tt, tt, tt, tt, tt, tt, tt, tt, tt, tt, tt, tt, tt, tt, ff, ff, ff] rfl rfl (take_ofW HT_.out HW_.out (by kernel_rfl)) (fun _ _ _ h => h) (Or.inl ⟨by rfl, ?_⟩) hHeld ?_ ?_
       rotate_left
       ·rintro w' ⟨s0, s1, s2, s3, s4, s5, s6, s7, s8, s9, s10⟩
        go_simp
        with_reducible rfl
       rotate_left
       ·simp only [Act.put, sa_, s0_, s1_, i64_w, i32_w]
        rfl
       refine take_ (i := 41) (N := some 145) (v := ?_) (a' := ?_) #[tt, tt, tt, tt, tt, tt, tt, tt, tt, tt, tt, tt, tt, tt, tt, tt, tt, tt, tt, tt, tt, tt, tt, tt, tt, tt, tt, tt, tt, tt, tt, tt, tt, tt, tt, tt, tt, tt, tt, tt, tt, tt, ff, ff] rfl rfl (take_ofW HT_.out HW_.out (by kernel_rfl)) (fun _ _ _ h => h) (Or.inl ⟨by rfl, ?_⟩) hHeld ?_ ?_
       rotate_left
       ·rintro w' ⟨s0, s1, s2, s3, s4, s5, s6, s7, s8, s9, s10⟩
        go_simp
        with_reducible rfl
       rotate_left
       ·simp only [Act.put, sa_, s0_, s1_, i64_w, i32_w]
        rfl
       refine pure_ (i := 42) (N := some 146) (v := ?_) (a' := ?_) #[tt, tt, tt, tt, tt, tt, tt, tt, tt, tt, tt, tt, tt, tt, tt, tt, tt, tt, tt, tt, tt, tt, tt, tt, tt, tt, tt, tt, tt, tt, tt, tt, tt, tt, tt, tt, tt, tt, tt, tt, tt, tt, tt, ff] rfl rfl (any_of HT_.out (by kernel_rfl)) (fun _ _ _ h => h) (Or.inl ⟨by rfl, ?_⟩) ?_ ?_
       rotate_left
       ·intro w'
        go_simp
        with_reducible rfl
       rotate_left
       ·simp only [Act.put, sa_, s0_, s1_, i64_w, i32_w]
        rfl
       refine pure_ (i := 43) (N := some 147) (v := ?_) (a' := ?_) #[tt, tt, tt, tt, tt, tt, tt, tt, tt, tt, tt, tt, tt, tt, tt, tt, tt, tt, tt, tt, tt, tt, tt, tt, tt, tt, tt, tt, tt, tt, tt, tt, tt, tt, tt, tt, tt, tt, tt, tt, tt, tt, tt, tt] rfl rfl (any_of HT_.out (by kernel_rfl)) (fun _ _ _ h => h) (Or.inl ⟨by rfl, ?_⟩) ?_ ?_
       rotate_left
       ·intro w'
        go_simp
        with_reducible rfl
       rotate_left
       ·simp only [Act.put, sa_, s0_, s1_, i64_w, i32_w]
        rfl
       refine done_ (done_of HT_.out (by kernel_rfl)) ?_
       try go_wp2
       go_roundg k4
       case measure => have := HJ4.out; have := HK2.out; have := HJ44.out; have := HK4.out; omega
       case rel => exact ⟨(wrap64 (x13_4 + 1)), (by first | rfl | (simp; done) | (simp [*]; done)), H', ⟨by have := HJ4.out; have := HK2.out; have := HJ44.out; have := HK4.out; omega⟩, ⟨ro_ HO_5⟩, ⟨ro_ HO_6⟩, ⟨ro_ HO_8⟩, ⟨ro_ HO_9⟩, ⟨ro_ HO_11⟩, BK217, BK218, BK225, ⟨hb_ HB⟩⟩
      rw [if_neg c62] at H
      have c62b0 : decide (0 < x13_4) = false := decide_eq_false c62
      clear c62
      by_cases c74 : 0 ≤ (rd t248 x13_4)
      rotate_left
      ·rw [if_neg c74] at H
       exact absurd H (by simp)
      rw [if_pos c74] at H
      have c74b0 : decide (0 ≤ (rd t248 x13_4)) = true := decide_eq_true c74
      clear c74
      by_cases c75 : (rd t248 x13_4) < (t222.length : Int)
      rotate_left
      ·rw [if_neg c75] at H
       exact absurd H (by simp)
      rw [if_pos c75] at H
      have c75b0 : decide ((rd t248 x13_4) < (t222.length : Int)) = true := decide_eq_true c75
      clear c75
      by_cases c76 : x13_4 < (x8_2.length : Int)
      rotate_left
      ·rw [if_neg c76] at H
       exact absurd H (by simp)
      rw [if_pos c76] at H
      have c76b0 : decide (x13_4 < (x8_2.length : Int)) = true := decide_eq_true c76
      clear c76
      by_cases c77 : (!(((rd_T58 t222 (rd t248 x13_4)).f0) == ((rd_T58 x8_2 x13_4).f0)) || (!(((rd_T58 t222 (rd t248 x13_4)).f1) == ((rd_T58 x8_2 x13_4).f1)) || (!(((rd_T58 t222 (rd t248 x13_4)).f2) == ((rd_T58 x8_2 x13_4).f2))))) = true
      ·rw [if_pos c77] at H
       exact absurd H (by simp)
      rw [if_neg c77] at H
      have c77b0 : (!(((rd_T58 t222 (rd t248 x13_4)).f0) == ((rd_T58 x8_2 x13_4).f0)) || (!(((rd_T58 t222 (rd t248 x13_4)).f1) == ((rd_T58 x8_2 x13_4).f1)) || (!(((rd_T58 t222 (rd t248 x13_4)).f2) == ((rd_T58 x8_2 x13_4).f2))))) = false := by simpa using c77
      clear c77
      have H' := Aside0.mk H
      clear H
      obtain ⟨Ao78, co78, eo78⟩ := Kd.R_slice HO_11.out
      subst eo78
      try go_wp2
      replace HO_5 := Aside0.mk (Kd.R_drew HO_5.out)
      replace HO_6 := Aside0.mk (Kd.R_drew HO_6.out)
      replace HO_8 := Aside0.mk (Kd.R_drew HO_8.out)
      replace HO_9 := Aside0.mk (Kd.R_drew HO_9.out)
      replace HO_11 := Aside0.mk (Kd.R_drew HO_11.out)
      replace BK217 := Aside0.mk (blk_drew BK217.out)
      replace BK218 := Aside0.mk (blk_drew BK218.out)
      replace BK225 := Aside0.mk (blk_drew BK225.out)
      replace HB := Aside0.mk (below_drew1 HB.out)
      have p252 : 0 ≤ (x13_4 : Int) := of_decide_eq_true ‹_›
      have q252 : x13_4 < (t248.length : Int) := of_decide_eq_true ‹_›
      obtain ⟨ad252, e252, hx252_0⟩ := Kd.at_int (Kd.R_reads' HO_11.out).2.2 x13_4 p252 q252
      cases e252
      replace p252 := eq_true p252
      replace q252 := eq_true q252
      have p253 : 0 ≤ (x13_4 : Int) := of_decide_eq_true ‹_›
      have q253 : x13_4 < (t248.length : Int) := of_decide_eq_true ‹_›
      obtain ⟨ad253, e253, hx253_0⟩ := Kd.at_int (Kd.R_reads' HO_11.out).2.2 x13_4 p253 q253
      obtain rfl : ad252 = ad253 := (by injection e253)
      replace p253 := eq_true p253
      replace q253 := eq_true q253
      have p259 : 0 ≤ (x13_4 : Int) := of_decide_eq_true ‹_›
      have q259 : x13_4 < (t248.length : Int) := of_decide_eq_true ‹_›
      obtain ⟨ad259, e259, hx259_0⟩ := Kd.at_int (Kd.R_reads' HO_11.out).2.2 x13_4 p259 q259
      obtain rfl : ad252 = ad259 := (by injection e259)
      replace p259 := eq_true p259
      replace q259 := eq_true q259
      have p260 : 0 ≤ ((rd t248 x13_4) : Int) := of_decide_eq_true ‹_›
      have q260 : (rd t248 x13_4) < (t222.length : Int) := of_decide_eq_true ‹_›
      obtain ⟨ad260, e260, hx260_0, hx260_1, hx260_2⟩ := at_T58 (Kd.R_reads' HO_6.out).2.2 (rd t248 x13_4) p260 q260
      cases e260
      replace p260 := eq_true p260
      replace q260 := eq_true q260
      obtain ⟨Ao80, co80, eo80⟩ := Kd.R_slice HO_8.out
      (first | subst eo80 | (injection eo80 with f1_ f2_ f3_; have f4_ := f1_.symm; have f5_ := f3_.symm; clear f1_ f2_ f3_; subst f4_; subst f5_))
      have p261 : 0 ≤ (x13_4 : Int) := of_decide_eq_true ‹_›
      have q261 : x13_4 < (x8_2.length : Int) := of_decide_eq_true ‹_›
      obtain ⟨ad261, e261, hx261_0, hx261_1, hx261_2⟩ := at_T58 (Kd.R_reads' HO_8.out).2.2 x13_4 p261 q261
      cases e261
      replace p261 := eq_true p261
      replace q261 := eq_true q261
      refine start_ (n := 44) (S := fun w' => w'.cell? (ad252.add (x13_4).toNat) = some (.int .i64 (rd t248 x13_4)) ∧ w'.cell? (ad252.add (x13_4).toNat) = some (.int .i64 (rd t248 x13_4)) ∧ w'.cell? (ad252.add (x13_4).toNat) = some (.int .i64 (rd t248 x13_4)) ∧ w'.cell? (ad260.add (((rd t248 x13_4)).toNat * 3)) = some (.int .i64 ((rd_T58 t222 (rd t248 x13_4)).f0)) ∧ w'.cell? ⟨(ad260.add (((rd t248 x13_4)).toNat * 3)).block, (ad260.add (((rd t248 x13_4)).toNat * 3)).off + 1, none⟩ = some (.int .i64 ((rd_T58 t222 (rd t248 x13_4)).f1)) ∧ w'.cell? ⟨(ad260.add (((rd t248 x13_4)).toNat * 3)).block, (ad260.add (((rd t248 x13_4)).toNat * 3)).off + 2, none⟩ = some (.int .i64 ((rd_T58 t222 (rd t248 x13_4)).f2)) ∧ w'.cell? (ad261.add ((x13_4).toNat * 3)) = some (.int .i64 ((rd_T58 x8_2 x13_4).f0)) ∧ w'.cell? ⟨(ad261.add ((x13_4).toNat * 3)).block, (ad261.add ((x13_4).toNat * 3)).off + 1, none⟩ = some (.int .i64 ((rd_T58 x8_2 x13_4).f1)) ∧ w'.cell? ⟨(ad261.add ((x13_4).toNat * 3)).block, (ad261.add ((x13_4).toNat * 3)).off + 2, none⟩ = some (.int .i64 ((rd_T58 x8_2 x13_4).f2))) (ds := []) #[ff, ff, ff, ff, ff, ff, ff, ff, ff, ff, ff, ff, ff, ff, ff, ff, ff, ff, ff, ff, ff, ff, ff, ff, ff, ff, ff, ff, ff, ff, ff, ff, ff, ff, ff, ff, ff, ff, ff, ff, ff, ff, ff, ff] (by kernel_rfl) rfl rfl ⟨hx252_0, hx253_0, hx259_0, hx260_0, hx260_1, hx260_2, hx261_0, hx261_1, hx261_2⟩ (fun hHeld => ?_); refine with_tabW acmelaw12_MillToNoneOther.tab18 acmelaw12_MillToNoneOther.bits18 (fun HT_ HW_ => ?_)
      generalize wr.drew = w79 at HO_5 HO_6 HO_8 HO_9 HO_11 BK217 BK218 BK225 HB hx252_0 hx253_0 hx259_0 hx260_0 hx260_1 hx260_2 hx261_0 hx261_1 hx261_2 hHeld ⊢
      refine pure_ (i := 0) (N := some 104) (v := ?_) (a' := ?_) #[tt, ff, ff, ff, ff, ff, ff, ff, ff, ff, ff, ff, ff, ff, ff, ff, ff, ff, ff, ff, ff, ff, ff, ff, ff, ff, ff, ff, ff, ff, ff, ff, ff, ff, ff, ff, ff, ff, ff, ff, ff, ff, ff, ff] rfl rfl (any_of HT_.out (by kernel_rfl)) (fun _ _ _ h => h) (Or.inl ⟨by rfl, ?_⟩) ?_ ?_
      rotate_left
      ·intro w'
       go_simp
       with_reducible rfl
      rotate_left
      ·simp only [Act.put, sa_, s0_, s1_, i64_w, i32_w]
       rfl
      refine pure_ (i := 1) (N := some 105) (v := ?_) (a' := ?_) #[tt, tt, ff, ff, ff, ff, ff, ff, ff, ff, ff, ff, ff, ff, ff, ff, ff, ff, ff, ff, ff, ff, ff, ff, ff, ff, ff, ff, ff, ff, ff, ff, ff, ff, ff, ff, ff, ff, ff, ff, ff, ff, ff, ff] rfl rfl (any_of HT_.out (by kernel_rfl)) (fun _ _ _ h => h) (Or.inl ⟨by rfl, ?_⟩) ?_ ?_
      rotate_left
      ·intro w'
       go_simp
       with_reducible rfl
      rotate_left
      ·simp only [Act.put, sa_, s0_, s1_, i64_w, i32_w]
       rfl
      refine pure_ (i := 2) (N := some 106) (v := ?_) (a' := ?_) #[tt, tt, tt, ff, ff, ff, ff, ff, ff, ff, ff, ff, ff, ff, ff, ff, ff, ff, ff, ff, ff, ff, ff, ff, ff, ff, ff, ff, ff, ff, ff, ff, ff, ff, ff, ff, ff, ff, ff, ff, ff, ff, ff, ff] rfl rfl (any_of HT_.out (by kernel_rfl)) (fun _ _ _ h => h) (Or.inl ⟨by rfl, ?_⟩) ?_ ?_
      rotate_left
      ·intro w'
       go_simp
       with_reducible rfl
      rotate_left
      ·simp only [Act.put, sa_, s0_, s1_, i64_w, i32_w]
       rfl
      refine take_ (i := 3) (N := some 107) (v := ?_) (a' := ?_) #[tt, tt, tt, tt, ff, ff, ff, ff, ff, ff, ff, ff, ff, ff, ff, ff, ff, ff, ff, ff, ff, ff, ff, ff, ff, ff, ff, ff, ff, ff, ff, ff, ff, ff, ff, ff, ff, ff, ff, ff, ff, ff, ff, ff] rfl rfl (take_ofW HT_.out HW_.out (by kernel_rfl)) (fun _ _ _ h => h) (Or.inl ⟨by rfl, ?_⟩) hHeld ?_ ?_
      rotate_left
      ·rintro w' ⟨s0, s1, s2, s3, s4, s5, s6, s7, s8⟩
       go_simp
       with_reducible rfl
      rotate_left
      ·simp only [Act.put, sa_, s0_, s1_, i64_w, i32_w]
       rfl
      refine pure_ (i := 4) (N := some 108) (v := ?_) (a' := ?_) #[tt, tt, tt, tt, tt, ff, ff, ff, ff, ff, ff, ff, ff, ff, ff, ff, ff, ff, ff, ff, ff, ff, ff, ff, ff, ff, ff, ff, ff, ff, ff, ff, ff, ff, ff, ff, ff, ff, ff, ff, ff, ff, ff, ff] rfl rfl (any_of HT_.out (by kernel_rfl)) (fun _ _ _ h => h) (Or.inl ⟨by rfl, ?_⟩) ?_ ?_
      rotate_left
      ·intro w'
       go_simp
       with_reducible rfl
      rotate_left
      ·simp only [Act.put, sa_, s0_, s1_, i64_w, i32_w]
       rfl
      refine pure_ (i := 5) (N := some 109) (v := ?_) (a' := ?_) #[tt, tt, tt, tt, tt, tt, ff, ff, ff, ff, ff, ff, ff, ff, ff, ff, ff, ff, ff, ff, ff, ff, ff, ff, ff, ff, ff, ff, ff, ff, ff, ff, ff, ff, ff, ff, ff, ff, ff, ff, ff, ff, ff, ff] rfl rfl (any_of HT_.out (by kernel_rfl)) (fun _ _ _ h => h) (Or.inl ⟨by rfl, ?_⟩) ?_ ?_
      rotate_left
      ·intro w'
       go_simp
       with_reducible rfl
      rotate_left
      ·simp only [Act.put, sa_, s0_, s1_, i64_w, i32_w]
       rfl
      refine pure_ (i := 6) (N := some 110) (v := ?_) (a' := ?_) #[tt, tt, tt, tt, tt, tt, tt, ff, ff, ff, ff, ff, ff, ff, ff, ff, ff, ff, ff, ff, ff, ff, ff, ff, ff, ff, ff, ff, ff, ff, ff, ff, ff, ff, ff, ff, ff, ff, ff, ff, ff, ff, ff, ff] rfl rfl (any_of HT_.out (by kernel_rfl)) (fun _ _ _ h => h) (Or.inl ⟨by rfl, ?_⟩) ?_ ?_
      rotate_left
      ·intro w'
       go_simp
       with_reducible rfl
      rotate_left
      ·simp only [Act.put, sa_, s0_, s1_, i64_w, i32_w]
       rfl
      refine pure_ (i := 7) (N := some 111) (v := ?_) (a' := ?_) #[tt, tt, tt, tt, tt, tt, tt, tt, ff, ff, ff, ff, ff, ff, ff, ff, ff, ff, ff, ff, ff, ff, ff, ff, ff, ff, ff, ff, ff, ff, ff, ff, ff, ff, ff, ff, ff, ff, ff, ff, ff, ff, ff, ff] rfl rfl (any_of HT_.out (by kernel_rfl)) (fun _ _ _ h => h) (Or.inl ⟨by rfl, ?_⟩) ?_ ?_
      rotate_left
      ·intro w'
       go_simp
       with_reducible rfl
      rotate_left
      ·simp only [Act.put, sa_, s0_, s1_, i64_w, i32_w]
       rfl
      refine pure_ (i := 8) (N := some 112) (v := ?_) (a' := ?_) #[tt, tt, tt, tt, tt, tt, tt, tt, tt, ff, ff, ff, ff, ff, ff, ff, ff, ff, ff, ff, ff, ff, ff, ff, ff, ff, ff, ff, ff, ff, ff, ff, ff, ff, ff, ff, ff, ff, ff, ff, ff, ff, ff, ff] rfl rfl (any_of HT_.out (by kernel_rfl)) (fun _ _ _ h => h) (Or.inl ⟨by rfl, ?_⟩) ?_ ?_
      rotate_left
      ·intro w'
       go_simp
       with_reducible rfl
      rotate_left
      ·simp only [Act.put, sa_, s0_, s1_, i64_w, i32_w]
       rfl
      refine pure_ (i := 10) (N := some 114) (v := ?_) (a' := ?_) #[tt, tt, tt, tt, tt, tt, tt, tt, tt, ff, tt, ff, ff, ff, ff, ff, ff, ff, ff, ff, ff, ff, ff, ff, ff, ff, ff, ff, ff, ff, ff, ff, ff, ff, ff, ff, ff, ff, ff, ff, ff, ff, ff, ff] rfl rfl (any_of HT_.out (by kernel_rfl)) (fun _ _ _ h => h) (Or.inl ⟨by rfl, ?_⟩) ?_ ?_
      rotate_left
      ·intro w'
       go_simp
       with_reducible rfl
      rotate_left
      ·simp only [Act.put, sa_, s0_, s1_, i64_w, i32_w]
       rfl
      refine pure_ (i := 11) (N := some 115) (v := ?_) (a' := ?_) #[tt, tt, tt, tt, tt, tt, tt, tt, tt, ff, tt, tt, ff, ff, ff, ff, ff, ff, ff, ff, ff, ff, ff, ff, ff, ff, ff, ff, ff, ff, ff, ff, ff, ff, ff, ff, ff, ff, ff, ff, ff, ff, ff, ff] rfl rfl (any_of HT_.out (by kernel_rfl)) (fun _ _ _ h => h) (Or.inl ⟨by rfl, ?_⟩) ?_ ?_
      rotate_left
      ·intro w'
       go_simp
       with_reducible rfl
      rotate_left
      ·simp only [Act.put, sa_, s0_, s1_, i64_w, i32_w]
       rfl
      refine take_ (i := 9) (N := some 113) (v := ?_) (a' := ?_) #[tt, tt, tt, tt, tt, tt, tt, tt, tt, tt, tt, tt, ff, ff, ff, ff, ff, ff, ff, ff, ff, ff, ff, ff, ff, ff, ff, ff, ff, ff, ff, ff, ff, ff, ff, ff, ff, ff, ff, ff, ff, ff, ff, ff] rfl rfl (take_ofW HT_.out HW_.out (by kernel_rfl)) (fun _ _ _ h => h) (Or.inl ⟨by rfl, ?_⟩) hHeld ?_ ?_
      rotate_left
      ·rintro w' ⟨s0, s1, s2, s3, s4, s5, s6, s7, s8⟩
       go_simp
       with_reducible rfl
      rotate_left
      ·simp only [Act.put, sa_, s0_, s1_, i64_w, i32_w]
       rfl
      refine pure_ (i := 12) (N := some 116) (v := ?_) (a' := ?_) #[tt, tt, tt, tt, tt, tt, tt, tt, tt, tt, tt, tt, tt, ff, ff, ff, ff, ff, ff, ff, ff, ff, ff, ff, ff, ff, ff, ff, ff, ff, ff, ff, ff, ff, ff, ff, ff, ff, ff, ff, ff, ff, ff, ff] rfl rfl (any_of HT_.out (by kernel_rfl)) (fun _ _ _ h => h) (Or.inl ⟨by rfl, ?_⟩) ?_ ?_
      rotate_left
      ·intro w'
       go_simp
       with_reducible rfl
      rotate_left
      ·simp only [Act.put, sa_, s0_, s1_, i64_w, i32_w]
       rfl
      refine pure_ (i := 13) (N := some 117) (v := ?_) (a' := ?_) #[tt, tt, tt, tt, tt, tt, tt, tt, tt, tt, tt, tt, tt, tt, ff, ff, ff, ff, ff, ff, ff, ff, ff, ff, ff, ff, ff, ff, ff, ff, ff, ff, ff, ff, ff, ff, ff, ff, ff, ff, ff, ff, ff, ff] rfl rfl (any_of HT_.out (by kernel_rfl)) (fun _ _ _ h => h) (Or.inl ⟨by rfl, ?_⟩) ?_ ?_
      rotate_left
      ·intro w'
       go_simp
       with_reducible rfl
      rotate_left
      ·simp only [Act.put, sa_, s0_, s1_, i64_w, i32_w]
       rfl
      refine pure_ (i := 14) (N := some 118) (v := ?_) (a' := ?_) #[tt, tt, tt, tt, tt, tt, tt, tt, tt, tt, tt, tt, tt, tt, tt, ff, ff, ff, ff, ff, ff, ff, ff, ff, ff, ff, ff, ff, ff, ff, ff, ff, ff, ff, ff, ff, ff, ff, ff, ff, ff, ff, ff, ff] rfl rfl (any_of HT_.out (by kernel_rfl)) (fun _ _ _ h => h) (Or.inl ⟨by rfl, ?_⟩) ?_ ?_
      rotate_left
      ·intro w'
       go_simp
       with_reducible rfl
      rotate_left
      ·simp only [Act.put, sa_, s0_, s1_, i64_w, i32_w]
       rfl
      refine pure_ (i := 15) (N := some 119) (v := ?_) (a' := ?_) #[tt, tt, tt, tt, tt, tt, tt, tt, tt, tt, tt, tt, tt, tt, tt, tt, ff, ff, ff, ff, ff, ff, ff, ff, ff, ff, ff, ff, ff, ff, ff, ff, ff, ff, ff, ff, ff, ff, ff, ff, ff, ff, ff, ff] rfl rfl (any_of HT_.out (by kernel_rfl)) (fun _ _ _ h => h) (Or.inl ⟨by rfl, ?_⟩) ?_ ?_
      rotate_left
      ·intro w'
       go_simp
       with_reducible rfl
      rotate_left
      ·simp only [Act.put, sa_, s0_, s1_, i64_w, i32_w]
       rfl
      refine pure_ (i := 16) (N := some 120) (v := ?_) (a' := ?_) #[tt, tt, tt, tt, tt, tt, tt, tt, tt, tt, tt, tt, tt, tt, tt, tt, tt, ff, ff, ff, ff, ff, ff, ff, ff, ff, ff, ff, ff, ff, ff, ff, ff, ff, ff, ff, ff, ff, ff, ff, ff, ff, ff, ff] rfl rfl (any_of HT_.out (by kernel_rfl)) (fun _ _ _ h => h) (Or.inl ⟨by rfl, ?_⟩) ?_ ?_
      rotate_left
      ·intro w'
       go_simp
       with_reducible rfl
      rotate_left
      ·simp only [Act.put, sa_, s0_, s1_, i64_w, i32_w]
       rfl
      refine pure_ (i := 17) (N := some 121) (v := ?_) (a' := ?_) #[tt, tt, tt, tt, tt, tt, tt, tt, tt, tt, tt, tt, tt, tt, tt, tt, tt, tt, ff, ff, ff, ff, ff, ff, ff, ff, ff, ff, ff, ff, ff, ff, ff, ff, ff, ff, ff, ff, ff, ff, ff, ff, ff, ff] rfl rfl (any_of HT_.out (by kernel_rfl)) (fun _ _ _ h => h) (Or.inl ⟨by rfl, ?_⟩) ?_ ?_
      rotate_left
      ·intro w'
       go_simp
       with_reducible rfl
      rotate_left
      ·simp only [Act.put, sa_, s0_, s1_, i64_w, i32_w]
       rfl
      refine pure_ (i := 18) (N := some 122) (v := undef) (a' := ?_) #[tt, tt, tt, tt, tt, tt, tt, tt, tt, tt, tt, tt, tt, tt, tt, tt, tt, tt, tt, ff, ff, ff, ff, ff, ff, ff, ff, ff, ff, ff, ff, ff, ff, ff, ff, ff, ff, ff, ff, ff, ff, ff, ff, ff] rfl rfl (any_of HT_.out (by kernel_rfl)) (fun _ _ _ h => h) (Or.inr ⟨by rfl, rfl⟩) ?_ ?_
      rotate_left
      ·simp only [Act.put, sa_, s0_, s1_, i64_w, i32_w]
       rfl
      refine pure_ (i := 19) (N := some 123) (v := undef) (a' := ?_) #[tt, tt, tt, tt, tt, tt, tt, tt, tt, tt, tt, tt, tt, tt, tt, tt, tt, tt, tt, tt, ff, ff, ff, ff, ff, ff, ff, ff, ff, ff, ff, ff, ff, ff, ff, ff, ff, ff, ff, ff, ff, ff, ff, ff] rfl rfl (any_of HT_.out (by kernel_rfl)) (fun _ _ _ h => h) (Or.inr ⟨by rfl, rfl⟩) ?_ ?_
      rotate_left
      ·simp only [Act.put, sa_, s0_, s1_, i64_w, i32_w]
       rfl
      refine pure_ (i := 20) (N := some 124) (v := undef) (a' := ?_) #[tt, tt, tt, tt, tt, tt, tt, tt, tt, tt, tt, tt, tt, tt, tt, tt, tt, tt, tt, tt, tt, ff, ff, ff, ff, ff, ff, ff, ff, ff, ff, ff, ff, ff, ff, ff, ff, ff, ff, ff, ff, ff, ff, ff] rfl rfl (any_of HT_.out (by kernel_rfl)) (fun _ _ _ h => h) (Or.inr ⟨by rfl, rfl⟩) ?_ ?_
      rotate_left
      ·simp only [Act.put, sa_, s0_, s1_, i64_w, i32_w]
       rfl
      refine pure_ (i := 21) (N := some 125) (v := undef) (a' := ?_) #[tt, tt, tt, tt, tt, tt, tt, tt, tt, tt, tt, tt, tt, tt, tt, tt, tt, tt, tt, tt, tt, tt, ff, ff, ff, ff, ff, ff, ff, ff, ff, ff, ff, ff, ff, ff, ff, ff, ff, ff, ff, ff, ff, ff] rfl rfl (any_of HT_.out (by kernel_rfl)) (fun _ _ _ h => h) (Or.inr ⟨by rfl, rfl⟩) ?_ ?_
      rotate_left
      ·simp only [Act.put, sa_, s0_, s1_, i64_w, i32_w]
       rfl
      refine pure_ (i := 22) (N := some 126) (v := undef) (a' := ?_) #[tt, tt, tt, tt, tt, tt, tt, tt, tt, tt, tt, tt, tt, tt, tt, tt, tt, tt, tt, tt, tt, tt, tt, ff, ff, ff, ff, ff, ff, ff, ff, ff, ff, ff, ff, ff, ff, ff, ff, ff, ff, ff, ff, ff] rfl rfl (any_of HT_.out (by kernel_rfl)) (fun _ _ _ h => h) (Or.inr ⟨by rfl, rfl⟩) ?_ ?_
      rotate_left
      ·simp only [Act.put, sa_, s0_, s1_, i64_w, i32_w]
       rfl
      refine pure_ (i := 23) (N := some 127) (v := undef) (a' := ?_) #[tt, tt, tt, tt, tt, tt, tt, tt, tt, tt, tt, tt, tt, tt, tt, tt, tt, tt, tt, tt, tt, tt, tt, tt, ff, ff, ff, ff, ff, ff, ff, ff, ff, ff, ff, ff, ff, ff, ff, ff, ff, ff, ff, ff] rfl rfl (any_of HT_.out (by kernel_rfl)) (fun _ _ _ h => h) (Or.inr ⟨by rfl, rfl⟩) ?_ ?_
      rotate_left
      ·simp only [Act.put, sa_, s0_, s1_, i64_w, i32_w]
       rfl
      refine pure_ (i := 24) (N := some 128) (v := undef) (a' := ?_) #[tt, tt, tt, tt, tt, tt, tt, tt, tt, tt, tt, tt, tt, tt, tt, tt, tt, tt, tt, tt, tt, tt, tt, tt, tt, ff, ff, ff, ff, ff, ff, ff, ff, ff, ff, ff, ff, ff, ff, ff, ff, ff, ff, ff] rfl rfl (any_of HT_.out (by kernel_rfl)) (fun _ _ _ h => h) (Or.inr ⟨by rfl, rfl⟩) ?_ ?_
      rotate_left
      ·simp only [Act.put, sa_, s0_, s1_, i64_w, i32_w]
       rfl
      refine pure_ (i := 25) (N := some 129) (v := undef) (a' := ?_) #[tt, tt, tt, tt, tt, tt, tt, tt, tt, tt, tt, tt, tt, tt, tt, tt, tt, tt, tt, tt, tt, tt, tt, tt, tt, tt, ff, ff, ff, ff, ff, ff, ff, ff, ff, ff, ff, ff, ff, ff, ff, ff, ff, ff] rfl rfl (any_of HT_.out (by kernel_rfl)) (fun _ _ _ h => h) (Or.inr ⟨by rfl, rfl⟩) ?_ ?_
      rotate_left
      ·simp only [Act.put, sa_, s0_, s1_, i64_w, i32_w]
       rfl
      refine pure_ (i := 26) (N := some 130) (v := undef) (a' := ?_) #[tt, tt, tt, tt, tt, tt, tt, tt, tt, tt, tt, tt, tt, tt, tt, tt, tt, tt, tt, tt, tt, tt, tt, tt, tt, tt, tt, ff, ff, ff, ff, ff, ff, ff, ff, ff, ff, ff, ff, ff, ff, ff, ff, ff] rfl rfl (any_of HT_.out (by kernel_rfl)) (fun _ _ _ h => h) (Or.inr ⟨by rfl, rfl⟩) ?_ ?_
      rotate_left
      ·simp only [Act.put, sa_, s0_, s1_, i64_w, i32_w]
       rfl
      refine pure_ (i := 27) (N := some 131) (v := undef) (a' := ?_) #[tt, tt, tt, tt, tt, tt, tt, tt, tt, tt, tt, tt, tt, tt, tt, tt, tt, tt, tt, tt, tt, tt, tt, tt, tt, tt, tt, tt, ff, ff, ff, ff, ff, ff, ff, ff, ff, ff, ff, ff, ff, ff, ff, ff] rfl rfl (any_of HT_.out (by kernel_rfl)) (fun _ _ _ h => h) (Or.inr ⟨by rfl, rfl⟩) ?_ ?_
      rotate_left
      ·simp only [Act.put, sa_, s0_, s1_, i64_w, i32_w]
       rfl
      refine pure_ (i := 28) (N := some 132) (v := ?_) (a' := ?_) #[tt, tt, tt, tt, tt, tt, tt, tt, tt, tt, tt, tt, tt, tt, tt, tt, tt, tt, tt, tt, tt, tt, tt, tt, tt, tt, tt, tt, tt, ff, ff, ff, ff, ff, ff, ff, ff, ff, ff, ff, ff, ff, ff, ff] rfl rfl (any_of HT_.out (by kernel_rfl)) (fun _ _ _ h => h) (Or.inl ⟨by rfl, ?_⟩) ?_ ?_
      rotate_left
      ·intro w'
       go_simp
       with_reducible rfl
      rotate_left
      ·simp only [Act.put, sa_, s0_, s1_, i64_w, i32_w]
       rfl
      refine pure_ (i := 29) (N := some 133) (v := ?_) (a' := ?_) #[tt, tt, tt, tt, tt, tt, tt, tt, tt, tt, tt, tt, tt, tt, tt, tt, tt, tt, tt, tt, tt, tt, tt, tt, tt, tt, tt, tt, tt, tt, ff, ff, ff, ff, ff, ff, ff, ff, ff, ff, ff, ff, ff, ff] rfl rfl (any_of HT_.out (by kernel_rfl)) (fun _ _ _ h => h) (Or.inl ⟨by rfl, ?_⟩) ?_ ?_
      rotate_left
      ·intro w'
       go_simp
       with_reducible rfl
      rotate_left
      ·simp only [Act.put, sa_, s0_, s1_, i64_w, i32_w]
       rfl
      refine pure_ (i := 30) (N := some 134) (v := ?_) (a' := ?_) #[tt, tt, tt, tt, tt, tt, tt, tt, tt, tt, tt, tt, tt, tt, tt, tt, tt, tt, tt, tt, tt, tt, tt, tt, tt, tt, tt, tt, tt, tt, tt, ff, ff, ff, ff, ff, ff, ff, ff, ff, ff, ff, ff, ff] rfl rfl (any_of HT_.out (by kernel_rfl)) (fun _ _ _ h => h) (Or.inl ⟨by rfl, ?_⟩) ?_ ?_
      rotate_left
      ·intro w'
       go_simp
       with_reducible rfl
      rotate_left
      ·simp only [Act.put, sa_, s0_, s1_, i64_w, i32_w]
       rfl
      refine pure_ (i := 31) (N := some 135) (v := ?_) (a' := ?_) #[tt, tt, tt, tt, tt, tt, tt, tt, tt, tt, tt, tt, tt, tt, tt, tt, tt, tt, tt, tt, tt, tt, tt, tt, tt, tt, tt, tt, tt, tt, tt, tt, ff, ff, ff, ff, ff, ff, ff, ff, ff, ff, ff, ff] rfl rfl (any_of HT_.out (by kernel_rfl)) (fun _ _ _ h => h) (Or.inl ⟨by rfl, ?_⟩) ?_ ?_
      rotate_left
      ·intro w'
       go_simp
       with_reducible rfl
      rotate_left
      ·simp only [Act.put, sa_, s0_, s1_, i64_w, i32_w]
       rfl
      refine pure_ (i := 32) (N := some 136) (v := ?_) (a' := ?_) #[tt, tt, tt, tt, tt, tt, tt, tt, tt, tt, tt, tt, tt, tt, tt, tt, tt, tt, tt, tt, tt, tt, tt, tt, tt, tt, tt, tt, tt, tt, tt, tt, tt, ff, ff, ff, ff, ff, ff, ff, ff, ff, ff, ff] rfl rfl (any_of HT_.out (by kernel_rfl)) (fun _ _ _ h => h) (Or.inl ⟨by rfl, ?_⟩) ?_ ?_
      rotate_left
      ·intro w'
       go_simp
       with_reducible rfl
      rotate_left
      ·simp only [Act.put, sa_, s0_, s1_, i64_w, i32_w]
       rfl
      refine pure_ (i := 33) (N := some 137) (v := ?_) (a' := ?_) #[tt, tt, tt, tt, tt, tt, tt, tt, tt, tt, tt, tt, tt, tt, tt, tt, tt, tt, tt, tt, tt, tt, tt, tt, tt, tt, tt, tt, tt, tt, tt, tt, tt, tt, ff, ff, ff, ff, ff, ff, ff, ff, ff, ff] rfl rfl (any_of HT_.out (by kernel_rfl)) (fun _ _ _ h => h) (Or.inl ⟨by rfl, ?_⟩) ?_ ?_
      rotate_left
      ·intro w'
       go_simp
       with_reducible rfl
      rotate_left
      ·simp only [Act.put, sa_, s0_, s1_, i64_w, i32_w]
       rfl
      refine pure_ (i := 34) (N := some 138) (v := ?_) (a' := ?_) #[tt, tt, tt, tt, tt, tt, tt, tt, tt, tt, tt, tt, tt, tt, tt, tt, tt, tt, tt, tt, tt, tt, tt, tt, tt, tt, tt, tt, tt, tt, tt, tt, tt, tt, tt, ff, ff, ff, ff, ff, ff, ff, ff, ff] rfl rfl (any_of HT_.out (by kernel_rfl)) (fun _ _ _ h => h) (Or.inl ⟨by rfl, ?_⟩) ?_ ?_
      rotate_left
      ·intro w'
       go_simp
       with_reducible rfl
      rotate_left
      ·simp only [Act.put, sa_, s0_, s1_, i64_w, i32_w]
       rfl
      refine pure_ (i := 38) (N := some 142) (v := ?_) (a' := ?_) #[tt, tt, tt, tt, tt, tt, tt, tt, tt, tt, tt, tt, tt, tt, tt, tt, tt, tt, tt, tt, tt, tt, tt, tt, tt, tt, tt, tt, tt, tt, tt, tt, tt, tt, tt, ff, ff, ff, tt, ff, ff, ff, ff, ff] rfl rfl (any_of HT_.out (by kernel_rfl)) (fun _ _ _ h => h) (Or.inl ⟨by rfl, ?_⟩) ?_ ?_
      rotate_left
      ·intro w'
       go_simp
       with_reducible rfl
      rotate_left
      ·simp only [Act.put, sa_, s0_, s1_, i64_w, i32_w]
       rfl
      refine pure_ (i := 39) (N := some 143) (v := ?_) (a' := ?_) #[tt, tt, tt, tt, tt, tt, tt, tt, tt, tt, tt, tt, tt, tt, tt, tt, tt, tt, tt, tt, tt, tt, tt, tt, tt, tt, tt, tt, tt, tt, tt, tt, tt, tt, tt, ff, ff, ff, tt, tt, ff, ff, ff, ff] rfl rfl (any_of HT_.out (by kernel_rfl)) (fun _ _ _ h => h) (Or.inl ⟨by rfl, ?_⟩) ?_ ?_
      rotate_left
      ·intro w'
       go_simp
       with_reducible rfl
      rotate_left
      ·simp only [Act.put, sa_, s0_, s1_, i64_w, i32_w]
       rfl
      refine pure_ (i := 40) (N := some 144) (v := ?_) (a' := ?_) #[tt, tt, tt, tt, tt, tt, tt, tt, tt, tt, tt, tt, tt, tt, tt, tt, tt, tt, tt, tt, tt, tt, tt, tt, tt, tt, tt, tt, tt, tt, tt, tt, tt, tt, tt, ff, ff, ff, tt, tt, tt, ff, ff, ff] rfl rfl (any_of HT_.out (by kernel_rfl)) (fun _ _ _ h => h) (Or.inl ⟨by rfl, ?_⟩) ?_ ?_
      rotate_left
      ·intro w'
       go_simp
       with_reducible rfl
      rotate_left
      ·simp only [Act.put, sa_, s0_, s1_, i64_w, i32_w]
       rfl
      refine take_ (i := 35) (N := some 139) (v := ?_) (a' := ?_) #[tt, tt, tt, tt, tt, tt, tt, tt, tt, tt, tt, tt, tt, tt, tt, tt, tt, tt, tt, tt, tt, tt, tt, tt, tt, tt, tt, tt, tt, tt, tt, tt, tt, tt, tt, tt, ff, ff, tt, tt, tt, ff, ff, ff] rfl rfl (take_ofW HT_.out HW_.out (by kernel_rfl)) (fun _ _ _ h => h) (Or.inl ⟨by rfl, ?_⟩) hHeld ?_ ?_
      rotate_left
      ·rintro w' ⟨s0, s1, s2, s3, s4, s5, s6, s7, s8⟩
       go_simp
       with_reducible rfl
      rotate_left
      ·simp only [Act.put, sa_, s0_, s1_, i64_w, i32_w]
       rfl
      refine pure_ (i := 36) (N := some 140) (v := ?_) (a' := ?_) #[tt, tt, tt, tt, tt, tt, tt, tt, tt, tt, tt, tt, tt, tt, tt, tt, tt, tt, tt, tt, tt, tt, tt, tt, tt, tt, tt, tt, tt, tt, tt, tt, tt, tt, tt, tt, tt, ff, tt, tt, tt, ff, ff, ff] rfl rfl (any_of HT_.out (by kernel_rfl)) (fun _ _ _ h => h) (Or.inl ⟨by rfl, ?_⟩) ?_ ?_
      rotate_left
      ·intro w'
       go_simp
       with_reducible rfl
      rotate_left
      ·simp only [Act.put, sa_, s0_, s1_, i64_w, i32_w]
       rfl
      refine take_ (i := 37) (N := some 141) (v := ?_) (a' := ?_) #[tt, tt, tt, tt, tt, tt, tt, tt, tt, tt, tt, tt, tt, tt, tt, tt, tt, tt, tt, tt, tt, tt, tt, tt, tt, tt, tt, tt, tt, tt, tt, tt, tt, tt, tt, tt, tt, tt, tt, tt, tt, ff, ff, ff] rfl rfl (take_ofW HT_.out HW_.out (by kernel_rfl)) (fun _ _ _ h => h) (Or.inl ⟨by rfl, ?_⟩) hHeld ?_ ?_
      rotate_left
      ·rintro w' ⟨s0, s1, s2, s3, s4, s5, s6, s7, s8⟩
       go_simp
       with_reducible rfl
      rotate_left
      ·simp only [Act.put, sa_, s0_, s1_, i64_w, i32_w]
       rfl
      refine take_ (i := 41) (N := some 145) (v := ?_) (a' := ?_) #[tt, tt, tt, tt, tt, tt, tt, tt, tt, tt, tt, tt, tt, tt, tt, tt, tt, tt, tt, tt, tt, tt, tt, tt, tt, tt, tt, tt, tt, tt, tt, tt, tt, tt, tt, tt, tt, tt, tt, tt, tt, tt, ff, ff] rfl rfl (take_ofW HT_.out HW_.out (by kernel_rfl)) (fun _ _ _ h => h) (Or.inl ⟨by rfl, ?_⟩) hHeld ?_ ?_
      rotate_left
      ·rintro w' ⟨s0, s1, s2, s3, s4, s5, s6, s7, s8⟩
       go_simp
       with_reducible rfl
      rotate_left
      ·simp only [Act.put, sa_, s0_, s1_, i64_w, i32_w]
       rfl
      refine pure_ (i := 42) (N := some 146) (v := ?_) (a' := ?_) #[tt, tt, tt, tt, tt, tt, tt, tt, tt, tt, tt, tt, tt, tt, tt, tt, tt, tt, tt, tt, tt, tt, tt, tt, tt, tt, tt, tt, tt, tt, tt, tt, tt, tt, tt, tt, tt, tt, tt, tt, tt, tt, tt, ff] rfl rfl (any_of HT_.out (by kernel_rfl)) (fun _ _ _ h => h) (Or.inl ⟨by rfl, ?_⟩) ?_ ?_
      rotate_left
      ·intro w'
       go_simp
       with_reducible rfl
      rotate_left
      ·simp only [Act.put, sa_, s0_, s1_, i64_w, i32_w]
       rfl
      refine pure_ (i := 43) (N := some 147) (v := ?_) (a' := ?_) #[tt, tt, tt, tt, tt, tt, tt, tt, tt, tt, tt, tt, tt, tt, tt, tt, tt, tt, tt, tt, tt, tt, tt, tt, tt, tt, tt, tt, tt, tt, tt, tt, tt, tt, tt, tt, tt, tt, tt, tt, tt, tt, tt, tt] rfl rfl (any_of HT_.out (by kernel_rfl)) (fun _ _ _ h => h) (Or.inl ⟨by rfl, ?_⟩) ?_ ?_
      rotate_left
      ·intro w'
       go_simp
       with_reducible rfl
      rotate_left
      ·simp only [Act.put, sa_, s0_, s1_, i64_w, i32_w]
       rfl
      refine done_ (done_of HT_.out (by kernel_rfl)) ?_
      try go_wp2
      go_roundg k4
      case measure => have := HJ4.out; have := HK2.out; have := HJ44.out; have := HK4.out; omega
      case rel => exact ⟨(wrap64 (x13_4 + 1)), (by first | rfl | (simp; done) | (simp [*]; done)), H', ⟨by have := HJ4.out; have := HK2.out; have := HJ44.out; have := HK4.out; omega⟩, ⟨ro_ HO_5⟩, ⟨ro_ HO_6⟩, ⟨ro_ HO_8⟩, ⟨ro_ HO_9⟩, ⟨ro_ HO_11⟩, BK217, BK218, BK225, ⟨hb_ HB⟩⟩
     rw [if_neg c58] at H
     have c58b0 : decide (x13_4 < (t248.length : Int)) = false := decide_eq_false c58
     clear c58
     replace H := Option.bind_eq_some_iff.mp H
     obtain ⟨t262, A810, H⟩ := H; (try dsimp only at H)
     have A81 := Aside0.mk A810
     clear A810
     replace H := Option.bind_eq_some_iff.mp H
     obtain ⟨t265, A820, H⟩ := H; (try dsimp only at H)
     have A82 := Aside0.mk A820
     clear A820
     replace H := Option.bind_eq_some_iff.mp H
     obtain ⟨t268, A830, H⟩ := H; (try dsimp only at H)
     have A83 := Aside0.mk A830
     clear A830
     replace H := Option.bind_eq_some_iff.mp H
     obtain ⟨⟨t271, t272⟩, A840, H⟩ := H; (try dsimp only at H)
     have A84 := Aside0.mk A840
     clear A840
     by_cases c85 : (x8_2.length : Int) = 0
     ·rw [if_pos c85] at H
      have c85b0 : ((x8_2.length : Int) == 0) = true := beq_iff_eq.mpr c85
      have c85b1 : ((x8_2.length : Int) != 0) = false := bne_eq_false_iff_eq.mpr c85
      clear c85
      by_cases c86 : t272 = 7
      rotate_left
      ·rw [if_neg c86] at H
       exact absurd H (by simp)
      rw [if_pos c86] at H
      have c86b0 : (t272 == 7) = true := beq_iff_eq.mpr c86
      have c86b1 : (t272 != 7) = false := bne_eq_false_iff_eq.mpr c86
      clear c86
      by_cases c87 : (t271.length : Int) = 0
      rotate_left
      ·rw [if_neg c87] at H
       exact absurd H (by simp)
      rw [if_pos c87] at H
      have c87b0 : ((t271.length : Int) == 0) = true := beq_iff_eq.mpr c87
      have c87b1 : ((t271.length : Int) != 0) = false := bne_eq_false_iff_eq.mpr c87
      clear c87
      replace H := Option.bind_eq_some_iff.mp H
      obtain ⟨t275, A880, H⟩ := H; (try dsimp only at H)
      have A88 := Aside0.mk A880
      clear A880
      obtain rfl := Option.some.inj H
      obtain ⟨Ao89, co89, eo89⟩ := Kd.R_slice HO_11.out
      subst eo89
      go_wp2_with (first | ((with_reducible refine gate_callee (f := 31) rfl ?_); refine goesL_ (some 150) rfl rfl Try.func31 (by kernel_rfl) rfl #[.slice Ao48 t219.length co48] rfl (by (try simp only [List.map_toArray, List.map_cons, List.map_nil]); first | done | rfl | (simp only [List.length_drop, List.length_take]; rfl)) ?_; (with_reducible refine (acmelaw12_runs.calls _ _ t219 t262 _ ?side1 ?side2 A81.out).mono ?_); (case side1 => repeat (first | exact (Kd.R_reads' HO_5.out).2.2 | (with_reducible refine Kd.C_alloc ?_ _) | (with_reducible refine Kd.C_drewN ?_ _) | (with_reducible refine Kd.C_drew ?_))); (case side2 => exact (Kd.R_reads' HO_5.out).2.1); rintro e w90 ⟨v263, rfl, ho0, hb⟩; refine ⟨_, rfl, ?_⟩; replace HO_6 := Aside0.mk (Kd.R_below (ro_ HO_6) hb); replace HO_8 := Aside0.mk (Kd.R_below (ro_ HO_8) hb); replace HO_9 := Aside0.mk (Kd.R_below (ro_ HO_9) hb); replace HO_11 := Aside0.mk (Kd.R_below (ro_ HO_11) hb); have HO264 := Aside0.mk (Kd.R_lower (Kd.R_new' ho0 (Kd.R_lt (ro_ HO_5))) (below_size (hb_ HB))); replace HO_5 := Aside0.mk (Kd.R_elder' (ro_ HO_5) (Kd.R_base ho0) hb); replace BK217 := Aside0.mk (blk_below (bk_ BK217) hb); replace BK218 := Aside0.mk (blk_below (bk_ BK218) hb); replace BK225 := Aside0.mk (blk_below (bk_ BK225) hb); replace HB := Aside0.mk (below_step (hb_ HB) hb); (try clear hb); (try clear hb2); (try clear hk); (try clear hi); (try clear ho0); obtain ⟨Ao91, co91, eo91⟩ := Kd.R_slice HO_8.out; subst eo91) | ((with_reducible refine gate_callee (f := 39) rfl ?_); refine goesL_ (some 152) rfl rfl Try.func39 (by kernel_rfl) rfl #[.slice Ao91 x8_2.length co91] rfl (by (try simp only [List.map_toArray, List.map_cons, List.map_nil]); first | done | rfl | (simp only [List.length_drop, List.length_take]; rfl)) ?_; (with_reducible refine (acmelaw12_lots.calls _ _ x8_2 t265 _ ?side1 ?side2 A82.out).mono ?_); (case side1 => repeat (first | exact (Kd.R_reads' HO_8.out).2.2 | (with_reducible refine Kd.C_alloc ?_ _) | (with_reducible refine Kd.C_drewN ?_ _) | (with_reducible refine Kd.C_drew ?_))); (case side2 => exact (Kd.R_reads' HO_8.out).2.1); rintro e w92 ⟨v266, rfl, ho0, hb⟩; refine ⟨_, rfl, ?_⟩; replace HO_5 := Aside0.mk (Kd.R_below (ro_ HO_5) hb); replace HO_11 := Aside0.mk (Kd.R_below (ro_ HO_11) hb); replace HO264 := Aside0.mk (Kd.R_below (ro_ HO264) hb); have HO267 := Aside0.mk (Kd.R_lower (Kd.R_new' (Kd.R_new' (Kd.R_new' ho0 (Kd.R_lt (ro_ HO_6))) (Kd.R_lt (ro_ HO_8))) (Kd.R_lt (ro_ HO_9))) (below_size (hb_ HB))); replace HO_6 := Aside0.mk (Kd.R_elder' (ro_ HO_6) (Kd.R_base ho0) hb); replace HO_8 := Aside0.mk (Kd.R_elder' (ro_ HO_8) (Kd.R_base ho0) hb); replace HO_9 := Aside0.mk (Kd.R_elder' (ro_ HO_9) (Kd.R_base ho0) hb); replace BK217 := Aside0.mk (blk_below (bk_ BK217) hb); replace BK218 := Aside0.mk (blk_below (bk_ BK218) hb); replace BK225 := Aside0.mk (blk_below (bk_ BK225) hb); replace HB := Aside0.mk (below_step (hb_ HB) hb); (try clear hb); (try clear hb2); (try clear hk); (try clear hi); (try clear ho0); obtain ⟨Ao93, co93, eo93⟩ := Kd.R_slice HO_9.out; subst eo93) | ((with_reducible refine gate_callee (f := 39) rfl ?_); refine goesL_ (some 154) rfl rfl Try.func39 (by kernel_rfl) rfl #[.slice Ao93 x9_2.length co93] rfl (by (try simp only [List.map_toArray, List.map_cons, List.map_nil]); first | done | rfl | (simp only [List.length_drop, List.length_take]; rfl)) ?_; (with_reducible refine (acmelaw12_lots.calls _ _ x9_2 t268 _ ?side1 ?side2 A83.out).mono ?_); (case side1 => repeat (first | exact (Kd.R_reads' HO_9.out).2.2 | (with_reducible refine Kd.C_alloc ?_ _) | (with_reducible refine Kd.C_drewN ?_ _) | (with_reducible refine Kd.C_drew ?_))); (case side2 => exact (Kd.R_reads' HO_9.out).2.1); rintro e w94 ⟨v269, rfl, ho0, hb⟩; refine ⟨_, rfl, ?_⟩; replace HO_5 := Aside0.mk (Kd.R_below (ro_ HO_5) hb); replace HO_11 := Aside0.mk (Kd.R_below (ro_ HO_11) hb); replace HO264 := Aside0.mk (Kd.R_below (ro_ HO264) hb); have HO270 := Aside0.mk (Kd.R_lower (Kd.R_new' (Kd.R_new' (Kd.R_new' (Kd.R_new' ho0 (Kd.R_lt (ro_ HO_6))) (Kd.R_lt (ro_ HO_8))) (Kd.R_lt (ro_ HO_9))) (Kd.R_lt (ro_ HO267))) (below_size (hb_ HB))); replace HO_6 := Aside0.mk (Kd.R_elder' (ro_ HO_6) (Kd.R_base ho0) hb); replace HO_8 := Aside0.mk (Kd.R_elder' (ro_ HO_8) (Kd.R_base ho0) hb); replace HO_9 := Aside0.mk (Kd.R_elder' (ro_ HO_9) (Kd.R_base ho0) hb); replace HO267 := Aside0.mk (Kd.R_elder' (ro_ HO267) (Kd.R_base ho0) hb); replace BK217 := Aside0.mk (blk_below (bk_ BK217) hb); replace BK218 := Aside0.mk (blk_below (bk_ BK218) hb); replace BK225 := Aside0.mk (blk_below (bk_ BK225) hb); replace HB := Aside0.mk (below_step (hb_ HB) hb); (try clear hb); (try clear hb2); (try clear hk); (try clear hi); (try clear ho0); obtain ⟨Ao95, co95, eo95⟩ := Kd.R_slice HO264.out; subst eo95; obtain ⟨Ao96, co96, eo96⟩ := Kd.R_slice HO267.out; subst eo96; obtain ⟨Ao97, co97, eo97⟩ := Kd.R_slice HO270.out; subst eo97) | ((with_reducible refine gate_callee (f := 40) rfl ?_); refine goesL_ (some 155) rfl rfl Try.func40 (by kernel_rfl) rfl #[.slice Ao95 t262.length co95, .slice Ao96 t265.length co96, .slice Ao97 t268.length co97] rfl (by (try simp only [List.map_toArray, List.map_cons, List.map_nil]); first | done | rfl | (simp only [List.length_drop, List.length_take]; rfl)) ?_; (with_reducible refine (mill_Culprits.calls _ _ t262 _ _ t265 _ _ t268 t271 t272 _ ?side1 ?side2 ?side3 ?side4 ?side5 ?side6 A84.out).mono ?_); (case side1 => repeat (first | exact (Kd.R_reads' HO264.out).2.2 | (with_reducible refine Kd.C_alloc ?_ _) | (with_reducible refine Kd.C_drewN ?_ _) | (with_reducible refine Kd.C_drew ?_))); (case side2 => exact (Kd.R_reads' HO264.out).2.1); (case side3 => repeat (first | exact (Kd.R_reads' HO267.out).2.2 | (with_reducible refine Kd.C_alloc ?_ _) | (with_reducible refine Kd.C_drewN ?_ _) | (with_reducible refine Kd.C_drew ?_))); (case side4 => exact (Kd.R_reads' HO267.out).2.1); (case side5 => repeat (first | exact (Kd.R_reads' HO270.out).2.2 | (with_reducible refine Kd.C_alloc ?_ _) | (with_reducible refine Kd.C_drewN ?_ _) | (with_reducible refine Kd.C_drew ?_))); (case side6 => exact (Kd.R_reads' HO270.out).2.1); rintro e w98 ⟨v273, rfl, ho0, hb⟩; refine ⟨_, rfl, ?_⟩; replace HO_5 := Aside0.mk (Kd.R_below (ro_ HO_5) hb); replace HO_6 := Aside0.mk (Kd.R_below (ro_ HO_6) hb); replace HO_8 := Aside0.mk (Kd.R_below (ro_ HO_8) hb); replace HO_9 := Aside0.mk (Kd.R_below (ro_ HO_9) hb); replace HO_11 := Aside0.mk (Kd.R_below (ro_ HO_11) hb); replace HO264 := Aside0.mk (Kd.R_below (ro_ HO264) hb); replace HO267 := Aside0.mk (Kd.R_below (ro_ HO267) hb); replace HO270 := Aside0.mk (Kd.R_below (ro_ HO270) hb); have HO274 := Aside0.mk (Kd.R_lower (Kd.R_newB ho0 (g := gb225) (o := .cells #[.int .i64 ((1 + (Int.tmod a1_0 3)) % 256), .int .i64 x226001_4, .int .i64 x226002_4] 79 (0, 0)) (bk_ BK225)) (below_size (hb_ HB))); replace BK217 := Aside0.mk (blk_below (bk_ BK217) hb); replace BK218 := Aside0.mk (blk_below (bk_ BK218) hb); replace BK225 := Aside0.mk (blk_below (bk_ BK225) hb); replace HB := Aside0.mk (below_step (hb_ HB) hb); (try clear hb); (try clear hb2); (try clear hk); (try clear hi); (try clear ho0); obtain ⟨Ao99, co99, eo99⟩ := Kd.R_slice HO274.out; subst eo99) | (go_at_call 15; (with_reducible refine (acmelaw12_known.calls  t275 _ A88.out).mono ?_); rintro e w100 ⟨rfl, hb⟩; replace HO_5 := Aside0.mk (Kd.R_below (ro_ HO_5) hb); replace HO_6 := Aside0.mk (Kd.R_below (ro_ HO_6) hb); replace HO_8 := Aside0.mk (Kd.R_below (ro_ HO_8) hb); replace HO_9 := Aside0.mk (Kd.R_below (ro_ HO_9) hb); replace HO_11 := Aside0.mk (Kd.R_below (ro_ HO_11) hb); replace HO264 := Aside0.mk (Kd.R_below (ro_ HO264) hb); replace HO267 := Aside0.mk (Kd.R_below (ro_ HO267) hb); replace HO270 := Aside0.mk (Kd.R_below (ro_ HO270) hb); replace HO274 := Aside0.mk (Kd.R_below (ro_ HO274) hb); replace BK217 := Aside0.mk (blk_below (bk_ BK217) hb); replace BK218 := Aside0.mk (blk_below (bk_ BK218) hb); replace BK225 := Aside0.mk (blk_below (bk_ BK225) hb); replace HB := Aside0.mk (below_step (hb_ HB) hb); (try clear hb); (try clear hb2); (try clear hk); (try clear hi)))
      go_ret
      exact ⟨by first | rfl | (simp [errW_none, errW_some] <;> rfl) | (simp [*, errW_none, errW_some] <;> rfl), by repeat (first | (with_reducible first | exact HB.out | apply below_alloc | apply pw_below_drewN | apply below_drew1 | refine below_set ?_ (Aside0.out (by assumption))) | exact HB.out)⟩
     rw [if_neg c85] at H
     have c85b0 : ((x8_2.length : Int) == 0) = false := beq_eq_false_iff_ne.mpr c85
     have c85b1 : ((x8_2.length : Int) != 0) = true := bne_iff_ne.mpr c85
     have c85b2 : ¬ (x8_2 = []) := fun h_ => c85 (by rw [h_]; rfl)
     replace H := Option.bind_eq_some_iff.mp H
     obtain ⟨t276, A1010, H⟩ := H; (try dsimp only at H)
     have A101 := Aside0.mk A1010
     clear A1010
     by_cases c102 : 0 < (x8_2.length : Int)
     ·rw [if_pos c102] at H
      have c102b0 : decide (0 < (x8_2.length : Int)) = true := decide_eq_true c102
      have c102b1 : decide (0 < x8_2.length) = true := decide_eq_true (by omega)
      clear c102
      replace H := Option.bind_eq_some_iff.mp H
      obtain ⟨⟨t280, t283⟩, A1030, H⟩ := H; (try dsimp only at H)
      have A103 := Aside0.mk A1030
      clear A1030
      by_cases c104 : t272 = 0
      rotate_left
      ·rw [if_neg c104] at H
       exact absurd H (by simp)
      rw [if_pos c104] at H
      have c104b0 : (t272 == 0) = true := beq_iff_eq.mpr c104
      have c104b1 : (t272 != 0) = false := bne_eq_false_iff_eq.mpr c104
      clear c104
      by_cases c105 : t283 = 0
      rotate_left
      ·rw [if_neg c105] at H
       exact absurd H (by simp)
      rw [if_pos c105] at H
      have c105b0 : (t283 == 0) = true := beq_iff_eq.mpr c105
      have c105b1 : (t283 != 0) = false := bne_eq_false_iff_eq.mpr c105
      clear c105
      have HTF := Aside0.mk H
      clear H
      obtain ⟨Ao108, co108, eo108⟩ := Kd.R_slice HO_11.out
      subst eo108
      try go_wp2_with (first | ((with_reducible refine gate_callee (f := 31) rfl ?_); refine goesL_ (some 150) rfl rfl Try.func31 (by kernel_rfl) rfl #[.slice Ao48 t219.length co48] rfl (by (try simp only [List.map_toArray, List.map_cons, List.map_nil]); first | done | rfl | (simp only [List.length_drop, List.length_take]; rfl)) ?_; (with_reducible refine (acmelaw12_runs.calls _ _ t219 t262 _ ?side1 ?side2 A81.out).mono ?_); (case side1 => repeat (first | exact (Kd.R_reads' HO_5.out).2.2 | (with_reducible refine Kd.C_alloc ?_ _) | (with_reducible refine Kd.C_drewN ?_ _) | (with_reducible refine Kd.C_drew ?_))); (case side2 => exact (Kd.R_reads' HO_5.out).2.1); rintro e w109 ⟨v263, rfl, ho0, hb⟩; refine ⟨_, rfl, ?_⟩; replace HO_6 := Aside0.mk (Kd.R_below (ro_ HO_6) hb); replace HO_8 := Aside0.mk (Kd.R_below (ro_ HO_8) hb); replace HO_9 := Aside0.mk (Kd.R_below (ro_ HO_9) hb); replace HO_11 := Aside0.mk (Kd.R_below (ro_ HO_11) hb); have HO264 := Aside0.mk (Kd.R_lower (Kd.R_new' ho0 (Kd.R_lt (ro_ HO_5))) (below_size (hb_ HB))); replace HO_5 := Aside0.mk (Kd.R_elder' (ro_ HO_5) (Kd.R_base ho0) hb); replace BK217 := Aside0.mk (blk_below (bk_ BK217) hb); replace BK218 := Aside0.mk (blk_below (bk_ BK218) hb); replace BK225 := Aside0.mk (blk_below (bk_ BK225) hb); replace HB := Aside0.mk (below_step (hb_ HB) hb); (try clear hb); (try clear hb2); (try clear hk); (try clear hi); (try clear ho0); obtain ⟨Ao110, co110, eo110⟩ := Kd.R_slice HO_8.out; subst eo110) | ((with_reducible refine gate_callee (f := 39) rfl ?_); refine goesL_ (some 152) rfl rfl Try.func39 (by kernel_rfl) rfl #[.slice Ao110 x8_2.length co110] rfl (by (try simp only [List.map_toArray, List.map_cons, List.map_nil]); first | done | rfl | (simp only [List.length_drop, List.length_take]; rfl)) ?_; (with_reducible refine (acmelaw12_lots.calls _ _ x8_2 t265 _ ?side1 ?side2 A82.out).mono ?_); (case side1 => repeat (first | exact (Kd.R_reads' HO_8.out).2.2 | (with_reducible refine Kd.C_alloc ?_ _) | (with_reducible refine Kd.C_drewN ?_ _) | (with_reducible refine Kd.C_drew ?_))); (case side2 => exact (Kd.R_reads' HO_8.out).2.1); rintro e w111 ⟨v266, rfl, ho0, hb⟩; refine ⟨_, rfl, ?_⟩; replace HO_5 := Aside0.mk (Kd.R_below (ro_ HO_5) hb); replace HO_11 := Aside0.mk (Kd.R_below (ro_ HO_11) hb); replace HO264 := Aside0.mk (Kd.R_below (ro_ HO264) hb); have HO267 := Aside0.mk (Kd.R_lower (Kd.R_new' (Kd.R_new' (Kd.R_new' ho0 (Kd.R_lt (ro_ HO_6))) (Kd.R_lt (ro_ HO_8))) (Kd.R_lt (ro_ HO_9))) (below_size (hb_ HB))); replace HO_6 := Aside0.mk (Kd.R_elder' (ro_ HO_6) (Kd.R_base ho0) hb); replace HO_8 := Aside0.mk (Kd.R_elder' (ro_ HO_8) (Kd.R_base ho0) hb); replace HO_9 := Aside0.mk (Kd.R_elder' (ro_ HO_9) (Kd.R_base ho0) hb); replace BK217 := Aside0.mk (blk_below (bk_ BK217) hb); replace BK218 := Aside0.mk (blk_below (bk_ BK218) hb); replace BK225 := Aside0.mk (blk_below (bk_ BK225) hb); replace HB := Aside0.mk (below_step (hb_ HB) hb); (try clear hb); (try clear hb2); (try clear hk); (try clear hi); (try clear ho0); obtain ⟨Ao112, co112, eo112⟩ := Kd.R_slice HO_9.out; subst eo112) | ((with_reducible refine gate_callee (f := 39) rfl ?_); refine goesL_ (some 154) rfl rfl Try.func39 (by kernel_rfl) rfl #[.slice Ao112 x9_2.length co112] rfl (by (try simp only [List.map_toArray, List.map_cons, List.map_nil]); first | done | rfl | (simp only [List.length_drop, List.length_take]; rfl)) ?_; (with_reducible refine (acmelaw12_lots.calls _ _ x9_2 t268 _ ?side1 ?side2 A83.out).mono ?_); (case side1 => repeat (first | exact (Kd.R_reads' HO_9.out).2.2 | (with_reducible refine Kd.C_alloc ?_ _) | (with_reducible refine Kd.C_drewN ?_ _) | (with_reducible refine Kd.C_drew ?_))); (case side2 => exact (Kd.R_reads' HO_9.out).2.1); rintro e w113 ⟨v269, rfl, ho0, hb⟩; refine ⟨_, rfl, ?_⟩; replace HO_5 := Aside0.mk (Kd.R_below (ro_ HO_5) hb); replace HO_11 := Aside0.mk (Kd.R_below (ro_ HO_11) hb); replace HO264 := Aside0.mk (Kd.R_below (ro_ HO264) hb); have HO270 := Aside0.mk (Kd.R_lower (Kd.R_new' (Kd.R_new' (Kd.R_new' (Kd.R_new' ho0 (Kd.R_lt (ro_ HO_6))) (Kd.R_lt (ro_ HO_8))) (Kd.R_lt (ro_ HO_9))) (Kd.R_lt (ro_ HO267))) (below_size (hb_ HB))); replace HO_6 := Aside0.mk (Kd.R_elder' (ro_ HO_6) (Kd.R_base ho0) hb); replace HO_8 := Aside0.mk (Kd.R_elder' (ro_ HO_8) (Kd.R_base ho0) hb); replace HO_9 := Aside0.mk (Kd.R_elder' (ro_ HO_9) (Kd.R_base ho0) hb); replace HO267 := Aside0.mk (Kd.R_elder' (ro_ HO267) (Kd.R_base ho0) hb); replace BK217 := Aside0.mk (blk_below (bk_ BK217) hb); replace BK218 := Aside0.mk (blk_below (bk_ BK218) hb); replace BK225 := Aside0.mk (blk_below (bk_ BK225) hb); replace HB := Aside0.mk (below_step (hb_ HB) hb); (try clear hb); (try clear hb2); (try clear hk); (try clear hi); (try clear ho0); obtain ⟨Ao114, co114, eo114⟩ := Kd.R_slice HO264.out; subst eo114; obtain ⟨Ao115, co115, eo115⟩ := Kd.R_slice HO267.out; subst eo115; obtain ⟨Ao116, co116, eo116⟩ := Kd.R_slice HO270.out; subst eo116) | ((with_reducible refine gate_callee (f := 40) rfl ?_); refine goesL_ (some 155) rfl rfl Try.func40 (by kernel_rfl) rfl #[.slice Ao114 t262.length co114, .slice Ao115 t265.length co115, .slice Ao116 t268.length co116] rfl (by (try simp only [List.map_toArray, List.map_cons, List.map_nil]); first | done | rfl | (simp only [List.length_drop, List.length_take]; rfl)) ?_; (with_reducible refine (mill_Culprits.calls _ _ t262 _ _ t265 _ _ t268 t271 t272 _ ?side1 ?side2 ?side3 ?side4 ?side5 ?side6 A84.out).mono ?_); (case side1 => repeat (first | exact (Kd.R_reads' HO264.out).2.2 | (with_reducible refine Kd.C_alloc ?_ _) | (with_reducible refine Kd.C_drewN ?_ _) | (with_reducible refine Kd.C_drew ?_))); (case side2 => exact (Kd.R_reads' HO264.out).2.1); (case side3 => repeat (first | exact (Kd.R_reads' HO267.out).2.2 | (with_reducible refine Kd.C_alloc ?_ _) | (with_reducible refine Kd.C_drewN ?_ _) | (with_reducible refine Kd.C_drew ?_))); (case side4 => exact (Kd.R_reads' HO267.out).2.1); (case side5 => repeat (first | exact (Kd.R_reads' HO270.out).2.2 | (with_reducible refine Kd.C_alloc ?_ _) | (with_reducible refine Kd.C_drewN ?_ _) | (with_reducible refine Kd.C_drew ?_))); (case side6 => exact (Kd.R_reads' HO270.out).2.1); rintro e w117 ⟨v273, rfl, ho0, hb⟩; refine ⟨_, rfl, ?_⟩; replace HO_5 := Aside0.mk (Kd.R_below (ro_ HO_5) hb); replace HO_6 := Aside0.mk (Kd.R_below (ro_ HO_6) hb); replace HO_8 := Aside0.mk (Kd.R_below (ro_ HO_8) hb); replace HO_9 := Aside0.mk (Kd.R_below (ro_ HO_9) hb); replace HO_11 := Aside0.mk (Kd.R_below (ro_ HO_11) hb); replace HO264 := Aside0.mk (Kd.R_below (ro_ HO264) hb); replace HO267 := Aside0.mk (Kd.R_below (ro_ HO267) hb); replace HO270 := Aside0.mk (Kd.R_below (ro_ HO270) hb); have HO274 := Aside0.mk (Kd.R_lower (Kd.R_newB ho0 (g := gb225) (o := .cells #[.int .i64 ((1 + (Int.tmod a1_0 3)) % 256), .int .i64 x226001_4, .int .i64 x226002_4] 79 (0, 0)) (bk_ BK225)) (below_size (hb_ HB))); replace BK217 := Aside0.mk (blk_below (bk_ BK217) hb); replace BK218 := Aside0.mk (blk_below (bk_ BK218) hb); replace BK225 := Aside0.mk (blk_below (bk_ BK225) hb); replace HB := Aside0.mk (below_step (hb_ HB) hb); (try clear hb); (try clear hb2); (try clear hk); (try clear hi); (try clear ho0)))
      replace HO_5 := Aside0.mk (Kd.R_drew HO_5.out)
      replace HO_6 := Aside0.mk (Kd.R_drew HO_6.out)
      replace HO_8 := Aside0.mk (Kd.R_drew HO_8.out)
      replace HO_9 := Aside0.mk (Kd.R_drew HO_9.out)
      replace HO_11 := Aside0.mk (Kd.R_drew HO_11.out)
      replace HO264 := Aside0.mk (Kd.R_drew HO264.out)
      replace HO267 := Aside0.mk (Kd.R_drew HO267.out)
      replace HO270 := Aside0.mk (Kd.R_drew HO270.out)
      replace HO274 := Aside0.mk (Kd.R_drew HO274.out)
      replace BK217 := Aside0.mk (blk_drew BK217.out)
      replace BK218 := Aside0.mk (blk_drew BK218.out)
      replace BK225 := Aside0.mk (blk_drew BK225.out)
      replace HB := Aside0.mk (below_drew1 HB.out)
      have p279 : 0 ≤ (0 : Int) := (by omega)
      have q279 : 0 < (x8_2.length : Int) := of_decide_eq_true ‹_›
      obtain ⟨ad279, e279, hx279_0, hx279_1, hx279_2⟩ := at_T58 (Kd.R_reads' HO_8.out).2.2 0 p279 q279
      cases e279
      have qi279 : (0 < x8_2.length) = True := eq_true (by omega)
      (try rw [show ((0 : Int)).toNat = 0 from rfl] at hx279_0)
      (try rw [show 0 * 3 = 0 from rfl] at hx279_0)
      (try rw [Addr.add_zero'] at hx279_0)
      (try rw [show ((0 : Int)).toNat = 0 from rfl] at hx279_1)
      (try rw [show 0 * 3 = 0 from rfl] at hx279_1)
      (try rw [Addr.add_zero'] at hx279_1)
      (try rw [show ((0 : Int)).toNat = 0 from rfl] at hx279_2)
      (try rw [show 0 * 3 = 0 from rfl] at hx279_2)
      (try rw [Addr.add_zero'] at hx279_2)
      replace p279 := eq_true p279
      replace q279 := eq_true q279
      refine start_ (n := 11) (S := fun w' => w'.cell? ad279 = some (.int .i64 ((rd_T58 x8_2 0).f0)) ∧ w'.cell? ⟨ad279.block, ad279.off + 1, none⟩ = some (.int .i64 ((rd_T58 x8_2 0).f1)) ∧ w'.cell? ⟨ad279.block, ad279.off + 2, none⟩ = some (.int .i64 ((rd_T58 x8_2 0).f2))) (ds := []) #[ff, ff, ff, ff, ff, ff, ff, ff, ff, ff, ff] (by kernel_rfl) rfl rfl ⟨hx279_0, hx279_1, hx279_2⟩ (fun hHeld => ?_); refine with_tabW acmelaw12_MillToNoneOther.tab23 acmelaw12_MillToNoneOther.bits23 (fun HT_ HW_ => ?_)
      generalize w117.drew = w118 at HO_5 HO_6 HO_8 HO_9 HO_11 HO264 HO267 HO270 HO274 BK217 BK218 BK225 HB hx279_0 hx279_1 hx279_2 hHeld ⊢
      refine pure_ (i := 0) (N := some 172) (v := ?_) (a' := ?_) #[tt, ff, ff, ff, ff, ff, ff, ff, ff, ff, ff] rfl rfl (any_of HT_.out (by kernel_rfl)) (fun _ _ _ h => h) (Or.inl ⟨by rfl, ?_⟩) ?_ ?_
      rotate_left
      ·intro w'
       go_simp
       with_reducible rfl
      rotate_left
      ·simp only [Act.put, sa_, s0_, s1_, i64_w, i32_w]
       rfl
      refine pure_ (i := 2) (N := some 174) (v := ?_) (a' := ?_) #[tt, ff, tt, ff, ff, ff, ff, ff, ff, ff, ff] rfl rfl (any_of HT_.out (by kernel_rfl)) (fun _ _ _ h => h) (Or.inl ⟨by rfl, ?_⟩) ?_ ?_
      rotate_left
      ·intro w'
       go_simp
       with_reducible rfl
      rotate_left
      ·simp only [Act.put, sa_, s0_, s1_, i64_w, i32_w]
       rfl
      refine pure_ (i := 3) (N := some 175) (v := ?_) (a' := ?_) #[tt, ff, tt, tt, ff, ff, ff, ff, ff, ff, ff] rfl rfl (any_of HT_.out (by kernel_rfl)) (fun _ _ _ h => h) (Or.inl ⟨by rfl, ?_⟩) ?_ ?_
      rotate_left
      ·intro w'
       go_simp
       with_reducible rfl
      rotate_left
      ·simp only [Act.put, sa_, s0_, s1_, i64_w, i32_w]
       rfl
      refine take_ (i := 4) (N := some 176) (v := ?_) (a' := ?_) #[tt, ff, tt, tt, tt, ff, ff, ff, ff, ff, ff] rfl rfl (take_ofW HT_.out HW_.out (by kernel_rfl)) (fun _ _ _ h => h) (Or.inl ⟨by rfl, ?_⟩) hHeld ?_ ?_
      rotate_left
      ·rintro w' ⟨s0, s1, s2⟩
       go_simp
       with_reducible rfl
      rotate_left
      ·simp only [Act.put, sa_, s0_, s1_, i64_w, i32_w]
       rfl
      refine one_ (i := 1) (N := some 173) #[tt, tt, tt, tt, tt, ff, ff, ff, ff, ff, ff] rfl rfl (one_of HT_.out (by kernel_rfl)) (by decide) (fun K hK => ?_)
      refine goes_ Try.func31 (by kernel_rfl) rfl #[.slice Ao48 t219.length co48] (by rfl) rfl rfl (by (try simp only [List.map_toArray, List.map_cons, List.map_nil]); first | done | rfl | (simp only [List.length_drop, List.length_take]; rfl)) ?_
      with_reducible refine (acmelaw12_runs.calls _ _ t219 t276 _ ?side1 ?side2 A101.out).mono ?_
      (case side1 => repeat (first | exact (Kd.R_reads' HO_5.out).2.2 | (with_reducible refine Kd.C_alloc ?_ _) | (with_reducible refine Kd.C_drewN ?_ _) | (with_reducible refine Kd.C_drew ?_)))
      (case side2 => exact (Kd.R_reads' HO_5.out).2.1)
      rintro e w119 ⟨v277, rfl, ho0, hb⟩
      have HS0_ := (hb.cell (World.block_lt_of_cell? _ _ (hHeld.1))).trans (hHeld.1)
      have HS1_ := (hb.cell (World.block_lt_of_cell? _ _ (hHeld.2.1))).trans (hHeld.2.1)
      have HS2_ := (hb.cell (World.block_lt_of_cell? _ _ (hHeld.2.2))).trans (hHeld.2.2)
      refine ⟨_, rfl, ?_⟩
      replace HO_6 := Aside0.mk (Kd.R_below (ro_ HO_6) hb)
      replace HO_8 := Aside0.mk (Kd.R_below (ro_ HO_8) hb)
      replace HO_9 := Aside0.mk (Kd.R_below (ro_ HO_9) hb)
      replace HO_11 := Aside0.mk (Kd.R_below (ro_ HO_11) hb)
      replace HO267 := Aside0.mk (Kd.R_below (ro_ HO267) hb)
      replace HO270 := Aside0.mk (Kd.R_below (ro_ HO270) hb)
      replace HO274 := Aside0.mk (Kd.R_below (ro_ HO274) hb)
      have HO278 := Aside0.mk (Kd.R_lower (Kd.R_new' (Kd.R_new' ho0 (Kd.R_lt (ro_ HO_5))) (Kd.R_lt (ro_ HO264))) (below_size (hb_ HB)))
      replace HO_5 := Aside0.mk (Kd.R_elder' (ro_ HO_5) (Kd.R_base ho0) hb)
      replace HO264 := Aside0.mk (Kd.R_elder' (ro_ HO264) (Kd.R_base ho0) hb)
      replace BK217 := Aside0.mk (blk_below (bk_ BK217) hb)
      replace BK218 := Aside0.mk (blk_below (bk_ BK218) hb)
      replace BK225 := Aside0.mk (blk_below (bk_ BK225) hb)
      replace HB := Aside0.mk (below_step (hb_ HB) hb)
      (try clear hb)
      (try clear hb2)
      (try clear hk)
      (try clear hi)
      (try clear ho0)
      obtain ⟨Ao120, co120, eo120⟩ := Kd.R_slice HO278.out
      (first | subst eo120 | (injection eo120 with f1_ f2_ f3_; have f4_ := f1_.symm; have f5_ := f3_.symm; clear f1_ f2_ f3_; subst f4_; subst f5_))
      refine hK.out _ _ ⟨HS0_, HS1_, HS2_⟩ (fun hHeld => ?_)
      clear hK K
      refine norm_ (a' := ?_) ?_ ?_
      rotate_left
      ·show Act.put _ (some 173) _ = _
       simp only [Act.put, sa_, s0_, s1_, i64_w, i32_w]
       rfl
      refine one_ (i := 5) (N := some 177) #[tt, tt, tt, tt, tt, tt, ff, ff, ff, ff, ff] rfl rfl (one_of HT_.out (by kernel_rfl)) (by decide) (fun K hK => ?_)
      refine goes_ Try.func33 (by kernel_rfl) rfl #[.slice Ao120 t276.length co120, .agg #[.int .i64 ((rd_T58 x8_2 0).f0), .int .i64 ((rd_T58 x8_2 0).f1), .int .i64 ((rd_T58 x8_2 0).f2)]] (by rfl) rfl rfl (by (try simp only [List.map_toArray, List.map_cons, List.map_nil]); first | done | rfl | (simp only [List.length_drop, List.length_take]; rfl)) ?_
      with_reducible refine (mill_Causes.calls _ _ t276 ((rd_T58 x8_2 0).f0) ((rd_T58 x8_2 0).f1) ((rd_T58 x8_2 0).f2) t280 t283 _ ?side1 ?side2 A103.out).mono ?_
      (case side1 => repeat (first | exact (Kd.R_reads' HO278.out).2.2 | (with_reducible refine Kd.C_alloc ?_ _) | (with_reducible refine Kd.C_drewN ?_ _) | (with_reducible refine Kd.C_drew ?_)))
      (case side2 => exact (Kd.R_reads' HO278.out).2.1)
      rintro e w121 ⟨v281, rfl, ho0, hb⟩
      have HS0_ := (hb.cell (World.block_lt_of_cell? _ _ (hHeld.1))).trans (hHeld.1)
      have HS1_ := (hb.cell (World.block_lt_of_cell? _ _ (hHeld.2.1))).trans (hHeld.2.1)
      have HS2_ := (hb.cell (World.block_lt_of_cell? _ _ (hHeld.2.2))).trans (hHeld.2.2)
      refine ⟨_, rfl, ?_⟩
      replace HO_5 := Aside0.mk (Kd.R_below (ro_ HO_5) hb)
      replace HO_6 := Aside0.mk (Kd.R_below (ro_ HO_6) hb)
      replace HO_8 := Aside0.mk (Kd.R_below (ro_ HO_8) hb)
      replace HO_9 := Aside0.mk (Kd.R_below (ro_ HO_9) hb)
      replace HO_11 := Aside0.mk (Kd.R_below (ro_ HO_11) hb)
      replace HO264 := Aside0.mk (Kd.R_below (ro_ HO264) hb)
      replace HO267 := Aside0.mk (Kd.R_below (ro_ HO267) hb)
      replace HO270 := Aside0.mk (Kd.R_below (ro_ HO270) hb)
      replace HO278 := Aside0.mk (Kd.R_below (ro_ HO278) hb)
      have HO282 := Aside0.mk (Kd.R_lower (Kd.R_newB (Kd.R_new' ho0 (Kd.R_lt (ro_ HO274))) (g := gb225) (o := .cells #[.int .i64 ((1 + (Int.tmod a1_0 3)) % 256), .int .i64 x226001_4, .int .i64 x226002_4] 79 (0, 0)) (bk_ BK225)) (below_size (hb_ HB)))
      replace HO274 := Aside0.mk (Kd.R_elder' (ro_ HO274) (Kd.R_base ho0) hb)
      replace BK217 := Aside0.mk (blk_below (bk_ BK217) hb)
      replace BK218 := Aside0.mk (blk_below (bk_ BK218) hb)
      replace BK225 := Aside0.mk (blk_below (bk_ BK225) hb)
      replace HB := Aside0.mk (below_step (hb_ HB) hb)
      (try clear hb)
      (try clear hb2)
      (try clear hk)
      (try clear hi)
      (try clear ho0)
      refine hK.out _ _ ⟨HS0_, HS1_, HS2_⟩ (fun hHeld => ?_)
      clear hK K
      refine norm_ (a' := ?_) ?_ ?_
      rotate_left
      ·show Act.put _ (some 177) _ = _
       simp only [Act.put, sa_, s0_, s1_, i64_w, i32_w]
       rfl
      refine pure_ (i := 6) (N := some 171) (v := ?_) (a' := ?_) #[tt, tt, tt, tt, tt, tt, tt, ff, ff, ff, ff] rfl rfl (any_of HT_.out (by kernel_rfl)) (fun _ _ _ h => h) (Or.inl ⟨by rfl, ?_⟩) ?_ ?_
      rotate_left
      ·intro w'
       go_simp
       with_reducible rfl
      rotate_left
      ·simp only [Act.put, sa_, s0_, s1_, i64_w, i32_w]
       rfl
      refine pure_ (i := 7) (N := some 178) (v := ?_) (a' := ?_) #[tt, tt, tt, tt, tt, tt, tt, tt, ff, ff, ff] rfl rfl (any_of HT_.out (by kernel_rfl)) (fun _ _ _ h => h) (Or.inl ⟨by rfl, ?_⟩) ?_ ?_
      rotate_left
      ·intro w'
       go_simp
       with_reducible rfl
      rotate_left
      ·simp only [Act.put, sa_, s0_, s1_, i64_w, i32_w]
       rfl
      refine pure_ (i := 8) (N := some 179) (v := ?_) (a' := ?_) #[tt, tt, tt, tt, tt, tt, tt, tt, tt, ff, ff] rfl rfl (any_of HT_.out (by kernel_rfl)) (fun _ _ _ h => h) (Or.inl ⟨by rfl, ?_⟩) ?_ ?_
      rotate_left
      ·intro w'
       go_simp
       with_reducible rfl
      rotate_left
      ·simp only [Act.put, sa_, s0_, s1_, i64_w, i32_w]
       rfl
      refine pure_ (i := 9) (N := some 16) (v := ?_) (a' := ?_) #[tt, tt, tt, tt, tt, tt, tt, tt, tt, tt, ff] rfl rfl (any_of HT_.out (by kernel_rfl)) (fun _ _ _ h => h) (Or.inl ⟨by rfl, ?_⟩) ?_ ?_
      rotate_left
      ·intro w'
       go_simp
       with_reducible rfl
      rotate_left
      ·simp only [Act.put, sa_, s0_, s1_, i64_w, i32_w]
       rfl
      refine pure_ (i := 10) (N := some 17) (v := ?_) (a' := ?_) #[tt, tt, tt, tt, tt, tt, tt, tt, tt, tt, tt] rfl rfl (any_of HT_.out (by kernel_rfl)) (fun _ _ _ h => h) (Or.inl ⟨by rfl, ?_⟩) ?_ ?_
      rotate_left
      ·intro w'
       go_simp
       with_reducible rfl
      rotate_left
      ·simp only [Act.put, sa_, s0_, s1_, i64_w, i32_w]
       rfl
      refine done_ (done_of HT_.out (by kernel_rfl)) ?_
      obtain ⟨htf_, hrt_⟩ := tailF_iff.1 HTF.out
      subst hrt_
      obtain ⟨g1_, g2_, g3_, g4_, g5_, g6_, g7_, g8_, g9_, g10_, g11_⟩ := (tailB_iff _ _ _ _ _ _).1 htf_
      obtain ⟨Ac_, cc_, ec_⟩ := Kd.R_slice HO274.out
      subst ec_
      obtain ⟨Af_, cf_, ef_⟩ := Kd.R_slice HO282.out
      subst ef_
      clear htf_ HTF
      go_upto_region 26 with fail
      exact tail12_wp _ _ _ _ _ ⟨((1 + (Int.tmod a1_0 3)) % 256), x226001_4, x226002_4⟩ _ _ _ _ _ _ _ _ _ _ _ _ _ (hasV t219) (Kd.R_reads' HO_5.out).2.2 (Kd.R_reads' HO_5.out).2.1 (Kd.R_reads' HO_6.out).2.2 (Kd.R_reads' HO_8.out).2.2 g1_ (Kd.R_reads' HO274.out).2.2 (Kd.R_reads' HO282.out).2.2 BK225.out g2_ g3_ g4_ g5_ g6_ g7_ g8_ g9_ g10_ g11_ (fun w' hb_ => ⟨rfl, below_step HB.out hb_⟩) _ (by assumption)
     rw [if_neg c102] at H
     exact absurd H (by simp)

end Go.Proofs.Ytiaiecfnpompcaa.T
