/- The walk of metronomelaw.ClusterPlays; conditions: the plan, the clocks and the steps lie in memory; errors.errorType and metronomeref.Fine hold what start-up lays there. -/
import Derived.Test.YtdogdlnaacimpaaGreatDoorP40
set_option linter.unusedVariables false
set_option linter.unusedSimpArgs false
namespace Go.Proofs.YtdogdlnaacimpaaGreatDoor
section
open Go Go.RowKit
attribute [local irreducible] playF startF chk playE honL clPut clRecv liesB wildB
section
variable {w0 w w' w1 : World} {base ga gb : Nat} {p : Pl} {P : Sv3} {fy M M' N : Nat} {x y : Cl} {bs : List Nat}
/-- The document's is made beside the cluster. -/
theorem TwG.start {a : Ad} {b : Ad2} (h0 : Below base w0 w) (hb : base ≤ w.heap.size) (h1 : ClAt w base a (fullN p) p P fy x) (hB : Below w.heap.size w w') (h2 : DcAt w' w.heap.size b (fullN p) p P fy y M) : TwG w0 w' base a.g b.g p P fy x y M w' [] :=
 ⟨a, b, rfl, rfl, h1.below hB, h2.mono hb, fun k hf hg => by
  obtain ⟨z, hz⟩ := hf
  obtain ⟨u, hu⟩ := hg
  rw [dshape_foot (base := w.heap.size)] at hu
  have g1 := (h1.own z k hz).2
  have g2 := (h2.fam.own u k hu).1
  omega, h0.trans (hB.mono hb), Nat.le_trans hb hB.size, fun q hq => by cases hq⟩
end
theorem StsAt.below {w w' : World} {A : Option Addr} {l : List St} (h : StsAt w A l) (hB : Below w.heap.size w w') : StsAt w' A l := fun j x hx => by
 obtain ⟨b, off, e, A1, c1, A2, c2, A3, c3, A4, c4, y0, y1, y2, y3, y4, y5, y6, y7, m1, m2, m3, m4, n⟩ := h j x hx
 have hb : b < w.heap.size := World.block_lt_of_cell? _ _ y0
 exact ⟨b, off, e, A1, c1, A2, c2, A3, c3, A4, c4, (hB.cell (p := ⟨b, off + j * 8, none⟩) hb).trans y0, (hB.cell (p := ⟨b, off + j * 8 + 1, none⟩) hb).trans y1, (hB.cell (p := ⟨b, off + j * 8 + 2, none⟩) hb).trans y2, (hB.cell (p := ⟨b, off + j * 8 + 3, none⟩) hb).trans y3, (hB.cell (p := ⟨b, off + j * 8 + 4, none⟩) hb).trans y4, (hB.cell (p := ⟨b, off + j * 8 + 5, none⟩) hb).trans y5, (hB.cell (p := ⟨b, off + j * 8 + 6, none⟩) hb).trans y6, (hB.cell (p := ⟨b, off + j * 8 + 7, none⟩) hb).trans y7, m1.below (Nat.le_refl _) hB, m2.below (Nat.le_refl _) hB, m3.below (Nat.le_refl _) hB, m4.below (Nat.le_refl _) hB, n⟩
theorem start_mm (p : Pl) (zs : List Int) : MmOk p (startF p zs) := fun i => by
 unfold startF
 have := Nat.two_pow_pos p.nd.toNat
 show 2 ^ p.nd.toNat - 1 < _
 omega
theorem start_rd (p : Pl) (zs : List Int) : (startF p zs).rd = 0 := by unfold startF; rfl
set_option maxRecDepth 100000 in
set_option maxHeartbeats 8000000 in
theorem plays_any (w : World) (hE : ErrT w) (hF : FinT w) (p : Pl) (A : Option Addr) (c : Nat) (AL : Option Addr) (cl : Nat) (AQ : Option Addr) (cq : Nat) (s2 : SlotsAt w A p.sl.length p.sl) (l2 : LinksAt w AL p.lk.length p.lk) (q2 : WinsAt w AQ p.wn.length p.wn)
 (f0 : Int) (B : Option Addr) (cb : Nat) (ks : List Int) (hks : ks.length ≤ cb) (hI : IsL w B ks) (D : Option Addr) (cd : Nat) (l : List St) (hR : StsAt w D l) :
 Calls Tryz.prog 6 #[.agg (planC p.nd p.fa p.sk p.ji p.dr p.rd (.slice A p.sl.length c) (.slice AL p.lk.length cl) p.fr (.slice AQ p.wn.length cq)), .int .i64 f0, .slice B ks.length cb, .slice D l.length cd] w fun e w' => e = .returned (.bool true) ∧ Below w.heap.size w w' := by
 obtain ⟨nr, hnr⟩ : ∃ nr, l.length = nr := ⟨_, rfl⟩
 obtain ⟨ln, hln⟩ : ∃ ln, ks.length = ln := ⟨_, rfl⟩
 obtain ⟨w1, hw1⟩ : ∃ w1, w.alloc (.cells (planC p.nd p.fa p.sk p.ji p.dr p.rd (.slice A p.sl.length c) (.slice AL p.lk.length cl) p.fr (.slice AQ p.wn.length cq)) 26) = w1 := ⟨_, rfl⟩
 have hB1 : Below w.heap.size w w1 := by rw [← hw1]; exact (Below.refl w.heap.size w).alloc (Nat.le_refl _) _
 have hX : Blk w1 w.heap.size 26 (planC p.nd p.fa p.sk p.ji p.dr p.rd (.slice A p.sl.length c) (.slice AL p.lk.length cl) p.fr (.slice AQ p.wn.length cq)) := by rw [← hw1]; exact Blk.new w _ _
 have HX := hide hX; have HB1 := hide hB1; have HW1 := hide hw1; have HS2 := hide s2; have HL2 := hide l2; have HQ2 := hide q2; have HI := hide hI; have HR := hide hR; have HE := hide hE; have HF := hide hF; have HNR := hide hnr; have HLN := hide hln; have HKS := hide hks
 have HSM := hide (small_B p.nd p.fa p.sk p.ji p.dr p.rd A p.sl.length c AL p.lk.length cl p.fr AQ p.wn.length cq w1)
 rw [hnr, hln]
 rw [hln] at HKS
 obtain ⟨x0, x1, x2, x3, x4, x5, x6, x7, x8, x9⟩ := plan_cells hX
 clear hX hB1 hw1 s2 l2 q2 hI hR hE hF hnr hln hks
 go_enter Tryz.func6, Tryz.ntmps6
 go_wp2_with fail
 rw [HW1.out]
 refine HSM.out.mono ?_
 rintro e w2 ⟨⟨b, rfl⟩, hB2⟩
 have HX2 := hide (HX.out.below hB2 HX.out.lt)
 have HB2 := hide (HB1.out.trans (hB2.mono HB1.out.size))
 clear hB2 x0 x1 x2 x3 x4 x5 x6 x7 x8 x9
 cases b
 ·go_wp2_with fail
  go_ret
  exact ⟨rfl, HB2.out⟩
 by_cases h30 : 30 < ln
 ·have d1 : decide ((30 : Int) < (ln : Int)) = true := decide_eq_true (by omega)
  go_wp2_with fail
  go_ret
  exact ⟨rfl, HB2.out⟩
 have d1 : decide ((30 : Int) < (ln : Int)) = false := decide_eq_false (by omega)
 by_cases h80 : 80 < nr
 ·have d2 : decide ((80 : Int) < (nr : Int)) = true := decide_eq_true (by omega)
  go_wp2_with fail
  go_ret
  exact ⟨rfl, HB2.out⟩
 have d2 : decide ((80 : Int) < (nr : Int)) = false := decide_eq_false (by omega)
 obtain ⟨x0, x1, x2, x3, x4, x5, x6, x7, x8, x9⟩ := plan_cells HX2.out
 go_wp2_with fail
 clear d1 d2
 have HS := hide (hS0 HS2.out (Nat.le_refl _) HB2.out); have HL := hide (hL0 HL2.out (Nat.le_refl _) HB2.out); have HQ := hide (HQ2.out.below HB2.out)
 have HIk := hide (HI.out.below (Nat.le_refl _) HB2.out)
 have HF2 := hide (fin_below HF.out HB2.out)
 have HE2 := hide (errT_below HE.out HB2.out)
 have hxl := HX2.out.lt
 clear x0 x1 x2 x3 x4 x5 x6 x7 x8 x9
 by_cases hchk : chk p = (0, -1)
 case neg =>
  have HCH := hide hchk
  have HNE : Hid ((chk p).1 ≠ 0) := hide (fun h => hchk (Prod.ext h (chk_nil h)))
  clear hchk
  refine (new_chk p A c AL cl AQ cq f0 B ln cb w2 HCH.out HS.out HL.out HQ.out).mono ?_
  rintro e w3 ⟨v, rfl, hv, hB3⟩
  have HV := hide hv; have HB3 := hide hB3
  have HX3 := hide (HX2.out.below hB3 HX2.out.lt)
  clear hv hB3
  obtain ⟨x0, x1, x2, x3, x4, x5, x6, x7, x8, x9⟩ := plan_cells HX3.out
  have HRC := hide (rnc_chk p A c AL cl AQ cq f0 B ln cb w3 HCH.out (hS0 HS.out (Nat.le_refl _) HB3.out) (hL0 HL.out (Nat.le_refl _) HB3.out) (HQ.out.below HB3.out) (fin_below HF2.out HB3.out))
  obtain ⟨ck, hck⟩ : ∃ ck, chk p = ck := ⟨_, rfl⟩
  rw [hck] at HRC HNE HV
  obtain ⟨c1, c2⟩ := ck
  have d1 : (c1 == 0) = false := beq_eq_false_iff_ne.2 HNE.out
  have d2 : decide (c1 = 0) = false := decide_eq_false HNE.out
  clear hck
  go_wp2_with fail
  refine HRC.out.mono ?_
  rintro e w4 ⟨rfl, hB4⟩
  have HB4 := hide hB4
  clear hB4 x0 x1 x2 x3 x4 x5 x6 x7 x8 x9
  have HV4 := hide ((HV.out.below HB4.out).below ((Below.refl w4.heap.size w4).alloc (Nat.le_refl _) (.cells #[.int .i64 c1, .int .i64 c2] 62)))
  have HB34 := hide (HB3.out.trans (HB4.out.mono HB3.out.size))
  have HIS := hide (is_erV v c1 c2 (w4.alloc (.cells #[.int .i64 c1, .int .i64 c2] 62)) (errT_below (errT_below HE2.out HB34.out) ((Below.refl w4.heap.size w4).alloc (Nat.le_refl _) _)) HV4.out)
  go_wp2_with fail
  refine HIS.out.mono ?_
  rintro e w5 ⟨rfl, hB5⟩
  have HB5 := hide (((Below.refl w4.heap.size w4).alloc (Nat.le_refl _) (.cells #[.int .i64 c1, .int .i64 c2] 62)).trans (hB5.mono (by simp)))
  clear hB5
  go_wp2_with fail
  go_ret
  exact ⟨rfl, HB2.out.trans ((HB34.out.trans (HB5.out.mono HB34.out.size)).mono HB2.out.size)⟩
 obtain ⟨e, he⟩ := newIs_any p f0 ks
 have HCH := hide hchk; have HNI := hide he
 clear hchk he
 by_cases he0 : e = 0
 case neg =>
  have HNE := hide he0
  clear he0
  have HNB := hide (new_bad p A c AL cl AQ cq f0 B ln cb w2 HCH.out HS.out HL.out HQ.out ks HLN.out HIk.out HKS.out (by omega) e HNI.out HNE.out)
  refine HNB.out.mono ?_
  rintro e3 w3 ⟨rfl, hB3⟩
  have HB3 := hide hB3
  have HX3 := hide (HX2.out.below hB3 HX2.out.lt)
  clear hB3
  obtain ⟨x0, x1, x2, x3, x4, x5, x6, x7, x8, x9⟩ := plan_cells HX3.out
  have HRC := hide (rnc_any p A c AL cl AQ cq f0 B ln cb w3 HCH.out (hS0 HS.out (Nat.le_refl _) HB3.out) (hL0 HL.out (Nat.le_refl _) HB3.out) (HQ.out.below HB3.out) (fin_below HF2.out HB3.out) ks HLN.out (HIk.out.below (Nat.le_refl _) HB3.out) HKS.out (by omega) e HNI.out)
  have d1 : (e == 0) = false := beq_eq_false_iff_ne.2 HNE.out
  have d2 : decide (e = 0) = false := decide_eq_false HNE.out
  obtain ⟨ev, hev⟩ : ∃ ev, errV e = ev := ⟨_, rfl⟩
  rw [hev]
  have HEV := hide hev
  clear hev
  go_wp2_with fail
  refine HRC.out.mono ?_
  rintro e4 w4 (⟨-, rfl, hB4⟩ | ⟨h0, -⟩)
  case inr => exact absurd h0 HNE.out
  have HB4 := hide hB4
  clear hB4 x0 x1 x2 x3 x4 x5 x6 x7 x8 x9
  have HB34 := hide (HB3.out.trans (HB4.out.mono HB3.out.size))
  have HIS := hide (is_errV e e (-1) (w4.alloc (.cells #[.int .i64 e, .int .i64 (-1)] 62)) (errT_below (errT_below HE2.out HB34.out) ((Below.refl w4.heap.size w4).alloc (Nat.le_refl _) _)))
  rw [HEV.out] at HIS
  go_wp2_with fail
  refine HIS.out.mono ?_
  rintro e5 w5 ⟨rfl, hB5⟩
  have HB5 := hide (((Below.refl w4.heap.size w4).alloc (Nat.le_refl _) (.cells #[.int .i64 e, .int .i64 (-1)] 62)).trans (hB5.mono (by simp)))
  clear hB5 d1 d2
  have ee : (e == e) = true := beq_self_eq_true e
  have ee2 : ((-1 : Int) == -1) = true := rfl
  rw [ee, ee2]
  go_wp2_with fail
  go_ret
  exact ⟨rfl, HB2.out.trans ((HB34.out.trans (HB5.out.mono HB34.out.size)).mono HB2.out.size)⟩
 subst he0
 obtain ⟨⟨fy, rfl, hfl, hli⟩, hlen, hwn, hap⟩ := HNI.out.good
 rw [Int.toNat_natCast] at hap
 have hp := PlOk.of HCH.out
 have hn16 := hp.n16
 have hn1 := hp.n1
 have hf16 : fy < 65536 := by
  have : (2 : Nat) ^ p.nd.toNat ≤ 2 ^ 16 := Nat.pow_le_pow_right (by omega) (by omega)
  omega
 have hz : ∀ j, -274877906944 ≤ ks.getD j 0 ∧ ks.getD j 0 ≤ 274877906944 := fun j => by
  by_cases hj : j < ks.length
  ·exact wild_in hwn hj
  ·rw [List.getD_eq_getElem?_getD, List.getElem?_eq_none (by omega)]
   simp
 obtain ⟨nd, hnd⟩ : ∃ nd, p.nd.toNat = nd := ⟨_, rfl⟩
 have hlnd : ln = nd := by rw [← hnd, ← hlen]; exact HLN.out.symm
 obtain ⟨bz, oz, hBs, -⟩ := HIk.out 0 (by rw [hlen]; omega)
 have HP := hide hp; have HLI := hide hli; have HND := hide hnd
 have HPN : Hid (p.nd = (nd : Int)) := hide (by omega)
 have HOK0 := hide (start_ok hp hlen hz)
 have HNW := hide (new_any w2 p A c AL cl AQ cq HCH.out HS.out HL.out HQ.out fy hfl hli bz oz cb ks (by have := HIk.out; rw [hBs] at this; exact this) (by rw [HLN.out]; exact HKS.out) hlen hz hap)
 have HRC : Hid (∀ W, Below w2.heap.size w2 W → _) := hide (fun W hB => rnc_any p A c AL cl AQ cq fy B ln cb W HCH.out (hS0 HS.out (Nat.le_refl _) hB) (hL0 HL.out (Nat.le_refl _) hB) (HQ.out.below hB) (fin_below HF2.out hB) ks HLN.out (HIk.out.below (Nat.le_refl _) hB) HKS.out (by omega) 0 HNI.out)
 rw [hnd] at HNW
 subst hBs
 rw [hlnd] at HRC ⊢
 have hnd1 : 0 < nd := by omega
 have hnd16 : nd ≤ 16 := by omega
 clear hp hli hap hwn hz hlen hfl hn16 hn1 hnd hlnd h30
 refine HNW.out.mono ?_
 rintro e3 w3 ⟨a, rfl, hB3, hA⟩
 have HA := hide hA; have HB3 := hide hB3
 have HX3 := hide (HX2.out.below hB3 HX2.out.lt)
 have HRC3 := hide (HRC.out w3 HB3.out)
 clear hA hB3 HNW HRC
 obtain ⟨x0, x1, x2, x3, x4, x5, x6, x7, x8, x9⟩ := plan_cells HX3.out
 go_wp2_with fail
 refine HRC3.out.mono ?_
 rintro e4 w4 (⟨h0, -⟩ | ⟨-, fy', b, hfe, rfl, hB4, hDc⟩)
 ·exact absurd rfl h0
 obtain rfl : fy = fy' := Int.ofNat_inj.1 hfe
 have HT4 := hide (TwG.start HB3.out HB3.out.size HA.out hB4 hDc)
 have HB4 := hide (HB3.out.trans (hB4.mono HB3.out.size))
 clear hB4 hDc hfe HRC3 x0 x1 x2 x3 x4 x5 x6 x7 x8 x9 HX3
 obtain ⟨ga, hga⟩ : ∃ ga, a.g = ga := ⟨_, rfl⟩
 obtain ⟨gb, hgb⟩ : ∃ gb, b.g = gb := ⟨_, rfl⟩
 rw [hga, hgb] at HT4
 rw [hga, hgb]
 have HTW := hide (HT4.out.below ((Below.refl w4.heap.size w4).alloc (Nat.le_refl _) (.cells #[.int .i64 0, .int .i64 (-1)] 62)))
 clear HT4 HA hga hgb
 go_wp2_with fail
 go_loopw [13] (fun v wr => ∃ (k : Nat) (cc : Cl), k ≤ nr ∧ v = .int .i64 k ∧ Hid (TwG w2 wr w2.heap.size ga gb p ⟨.slice A p.sl.length c, .slice AL p.lk.length cl, .slice AQ p.wn.length cq⟩ fy cc cc k wr []) ∧ Hid (CpI p k cc)) (fun v _ => nr - (intOf v).toNat)
 case atStart => exact ⟨0, _, by omega, rfl, hide HTW.out.now, hide ⟨HOK0.out, start_mm p ks, by rw [start_rd]; exact Int.le_refl _⟩⟩
 case round =>
  clear HTW HOK0
  obtain ⟨k, cc, hk, rfl, HT, HC⟩ := hrel
  by_cases hkn : k < nr
  ·go_upto_block 1 with fail
   refine step_body w2 wr HT.out HP.out HC.out hf16 HLI.out HS.out HL.out (Nat.le_refl _) HE2.out HF2.out D cd nr l HNR.out (by omega) (HR.out.below HB2.out) hkn _ _ _ _ _ _ _ _ _ _ _ _ _ _ _ _ _ _ _ _ _ _ _ _ _ _ _ _ _ _ _ _ _ _ _ _ _ _ _ _ _ _ _ _ _ _ _ _ _ _ _ _ _ _ _ _ _ _ _ _ _ _ _ _ _ _ _ _ _ _ _ _ _ _ _ _ _ _ _ _ _ _ _ _ _ _ _ _ _ _ _ _ _ _ _ _ _ _ _ _ _ _ _ _ _ _ _ _ _ _ _ _ _ _ _ _ _ _ _ _ _ _ _ _ _ _ _ _ _ _ _ _ _ _ _ _ _ _ _ _ _ _ _ _ _ _ _ _ _ _ _ _ _ _ _ _ _ _ _ _ _ _ _ _ _ _ _ _ _ _ _ _ _ _ _ _ _ _ _ _ _ _ _ _ _ _ _ _ _ _ _ _ _ _ _ _ _ _ _ _ _ _ _ _ _ _ _ _ _ _ _ _ _ _ _ _ _ _ _ _ _ _ _ _ _ _ _ _ _ _ _ _ _ _ _ _ _ _ _ _ _ _ _ _ _ _ _ _ _ _ _ _ _ _ _ _ _ _ _ _ _ _ _ _ _ _ _ _ _ _ _ _ _ _ _ _ _ _ _ _ _ _ _ _ _ _ _ _ _ _ _ _ _ _ _ _ _ _ _ _ _ _ _ _ _ _ _ _ _ _ _ _ _ _ _ _ _ _ _ _ _ _ _ _ _ (fun v8 v14 v15 v16 v17 v18 v19 v20 v21 v22 v23 v24 v25 v26 v27 v28 v81 v82 v83 v84 v85 v86 v87 v88 v89 v90 v91 v92 v93 v94 v95 v96 v97 v98 v99 v100 v101 v102 v103 v104 v105 v106 v107 v108 v109 v110 v111 v112 v113 v114 v115 v116 v117 v118 v119 v120 v121 v122 v123 v124 v125 v126 v127 v128 v129 v130 v131 v132 v133 v134 v135 v136 v137 v138 v139 v140 v141 v142 v143 v144 v145 v146 v147 v148 v149 v150 v151 v152 v153 v154 v155 v156 v157 v158 v159 v160 v161 v162 v163 v164 v165 v166 v167 v168 v169 v170 v171 v172 v173 v174 v175 v176 v177 v178 v179 v180 v181 v182 v183 v184 v185 v186 v187 v188 v189 v190 v191 v192 v193 v194 v195 v196 v197 v198 v199 v200 v201 v202 v203 v204 v205 v206 v207 v208 v209 v210 v211 v212 v213 v214 v215 v216 v217 v218 v219 v220 v221 v222 v223 v224 v225 v226 v227 v228 v229 v230 v231 v232 v233 v234 v235 v236 v237 v238 v239 v240 v241 v242 v243 v244 v245 v246 v247 v248 v249 v250 v251 v252 v253 v254 v255 v256 v257 v258 v259 v260 v261 v262 v263 v264 v265 v266 v267 v268 v269 v270 v271 v272 v273 v274 v275 v276 v277 v278 v279 v280 v281 v282 v283 v284 v285 v286 v287 v288 v289 v290 v291 v292 v293 v294 v295 v296 v297 v298 v299 v300 v301 v302 v303 v304 v305 v306 v307 v308 v309 v310 v311 v312 v313 v314 v315 w' c' hT' hC' => ?_) (fun v14 v15 v16 v17 v18 v19 v20 v21 v22 v23 v24 v25 v26 v27 v28 v81 v82 v83 v84 v85 v86 v87 v88 v89 v90 v91 v92 v93 v94 v95 v96 v97 v98 v99 v100 v101 v102 v103 v104 v105 v106 v107 v108 v109 v110 v111 v112 v113 v114 v115 v116 v117 v118 v119 v120 v121 v122 v123 v124 v125 v126 v127 v128 v129 v130 v131 v132 v133 v134 v135 v136 v137 v138 v139 v140 v141 v142 v143 v144 v145 v146 v147 v148 v149 v150 v151 v152 v153 v154 v155 v156 v157 v158 v159 v160 v161 v162 v163 v164 v165 v166 v167 v168 v169 v170 v171 v172 v173 v174 v175 v176 v177 v178 v179 v180 v181 v182 v183 v184 v185 v186 v187 v188 v189 v190 v191 v192 v193 v194 v195 v196 v197 v198 v199 v200 v201 v202 v203 v204 v205 v206 v207 v208 v209 v210 v211 v212 v213 v214 v215 v216 v217 v218 v219 v220 v221 v222 v223 v224 v225 v226 v227 v228 v229 v230 v231 v232 v233 v234 v235 v236 v237 v238 v239 v240 v241 v242 v243 v244 v245 v246 v247 v248 v249 v250 v251 v252 v253 v254 v255 v256 v257 v258 v259 v260 v261 v262 v263 v264 v265 v266 v267 v268 v269 v270 v271 v272 v273 v274 v275 v276 v277 v278 v279 v280 v281 v282 v283 v284 v285 v286 v287 v288 v289 v290 v291 v292 v293 v294 v295 v296 v297 v298 v299 v300 v301 v302 v303 v304 v305 v306 v307 v308 v309 v310 v311 v312 v313 v314 v315 w' hB' => ?_)
   ·have HT' := hide hT'; have HC' := hide hC'
    clear hT' hC'
    go_wp2_with fail
    go_roundw
    case rel => exact ⟨k + 1, c', by omega, by go_num, HT', HC'⟩
    case measure => simp [intOf]; omega
   ·go_wp2_with fail
    go_ret
    exact ⟨rfl, HB2.out.trans (hB'.mono HB2.out.size)⟩
  ·obtain rfl : k = nr := by omega
   obtain ⟨A0, cp0, An, cn, nb, on, hAn, hr⟩ := HT.out.reads HP.out HC.out.ok HC.out.mm
   obtain ⟨-, -, -, -, k12, -, -, hmo, -⟩ := hr wr (Below.refl _ _)
   have HMO := hide hmo
   rw [HND.out] at k12 HMO
   have HBA := hide (bare_errV 2 2 wr (errT_below HE2.out HT.out.bel))
   obtain ⟨ev, hev⟩ : ∃ ev, errV 2 = ev := ⟨_, rfl⟩
   rw [hev] at HMO HBA
   have HBW := hide HT.out.bel
   subst hAn
   clear hr hmo hev
   go_wp2_with fail
   refine HMO.out.mono ?_
   rintro e5 w5 ⟨rfl, rfl⟩
   go_wp2_with fail
   refine HBA.out.mono ?_
   rintro e6 w6 ⟨rfl, hB6⟩
   have HB6 := hide (HB2.out.trans ((HBW.out.trans (hB6.mono HBW.out.size)).mono HB2.out.size))
   clear hB6
   go_wp2_with fail
   go_ret
   exact ⟨rfl, HB6.out⟩
end
end Go.Proofs.YtdogdlnaacimpaaGreatDoor
