/- The law ClusterPlays: a step; conditions: as each says. -/
import Derived.Test.YtdogdlnaacimpaaGreatDoorP38
set_option linter.unusedVariables false
set_option linter.unusedSimpArgs false
namespace Go.Proofs.YtdogdlnaacimpaaGreatDoor
section
open Go Go.RowKit
/-- What the law keeps. -/
structure CpI (p : Pl) (k : Nat) (c : Cl) : Prop where
 ok : ClOk p (1 + 2592 * k) c
 mm : MmOk p c
 rd : c.rd ≤ k
theorem CpI.mono {p : Pl} {k : Nat} {c : Cl} (h : CpI p k c) : CpI p (k + 1) c := ⟨h.ok.mono (by omega), h.mm, by have := h.rd; omega⟩
theorem CpI.play {p : Pl} {k : Nat} {c : Cl} (hp : PlOk p) (h : CpI p k c) (fy : Nat) (r : Rn) : CpI p (k + 1) (playF p fy r c) :=
 ⟨(playF_ok hp h.ok fy r).mono (by omega), by
   unfold playF
   split
   ·exact h.mm
   ·exact fun i => h.mm.slots hp fy r p.sl.length i, by rcases playF_rd p fy r c with e | e <;> rw [e] <;> have := h.rd <;> omega⟩
theorem CpI.put {p : Pl} {k : Nat} {c : Cl} (hp : PlOk p) (h : CpI p k c) {j : Nat} {l : Lk} (hl : p.lk[j]? = some l) (d : ByteArray) : CpI p (k + 1) (clPut j l d c) := ⟨(clPut_ok hp h.ok hl d).mono (by omega), h.mm, by have := h.rd; show c.rd ≤ _; omega⟩
theorem CpI.recv {p : Pl} {k : Nat} {c : Cl} (h : CpI p k c) (j i : Nat) : CpI p (k + 1) (clRecv j i c) := ⟨(clRecv_ok h.ok j i).mono (by omega), h.mm, by have := h.rd; show c.rd ≤ _; omega⟩
section
variable {w0 w w' w1 w2 : World} {base ga gb : Nat} {p : Pl} {P : Sv3} {fy M M' N : Nat} {x y : Cl} {bs bs' : List Nat}
theorem TwG.upM (h : TwG w0 w base ga gb p P fy x y M w1 bs) (hM : M ≤ M') : TwG w0 w base ga gb p P fy x y M' w1 bs := by
 obtain ⟨a, b, e1, e2, h1, h2, h3⟩ := h
 exact ⟨a, b, e1, e2, h1, ⟨h2.fam, h2.rel.sd, fun k hk => Nat.le_trans (h2.rel.al k hk) hM, h2.rel.tk, h2.rel.pr⟩, h3⟩
theorem TwG.anchor (h : TwG w0 w base ga gb p P fy x y M w1 bs) (he : ∀ q ∈ bs', q ∈ bs ∧ w1.heap[q]? = w2.heap[q]?) : TwG w0 w base ga gb p P fy x y M w2 bs' := by
 obtain ⟨a, b, e1, e2, h1, h2, h3, h4, h5, h6⟩ := h
 exact ⟨a, b, e1, e2, h1, h2, h3, h4, h5, fun q hq => ⟨(h6 q (he q hq).1).1, (h6 q (he q hq).1).2.1, (h6 q (he q hq).1).2.2.1, (h6 q (he q hq).1).2.2.2.trans (he q hq).2⟩⟩
theorem TwG.moreO (h : TwG w0 w base ga gb p P fy x y M w1 bs) (hB : Below w.heap.size w w') (A : Option Addr) (hA : ∀ z, A = some z → w.heap.size ≤ z.block ∧ z.block < w'.heap.size) : TwG w0 w' base ga gb p P fy x y M w' (A.toList.map (·.block) ++ bs) := by
 cases A with
 | none => exact (h.below hB).now
 | some z => exact h.more hB (hA z rfl).1 (hA z rfl).2
theorem TwG.lnkS (h : TwG w0 w base ga gb p P fy x y M w1 bs) : ∃ ao cp, w.cell? ⟨gb, 13, none⟩ = some (.slice ao p.lk.length cp) := by
 obtain ⟨a, b, e1, e2, h1, h2, h3⟩ := h
 have k13 := h2.cluB.cell 13
 simp [rclC] at k13
 obtain ⟨ao, cp, e, -⟩ := (h2.fam.at_ .lnkA : QAt w base 84 b.lk ((List.range (fullN p).ns).map fun i => ptrV (b.gs i))).shape
 rw [List.length_map, List.length_range] at e
 rw [e2, e] at k13
 exact ⟨ao, cp, k13⟩
theorem TwG.putOut (h : TwG w0 w base ga gb p P fy x y M w1 bs) (hp : PlOk p) (k : Int) (hk : k < 0 ∨ (p.lk.length : Int) ≤ k) (d : ByteArray) : Calls Tryz.prog 12 #[.pointer (some ⟨ga, 0, none⟩), .int .i64 k, .string d] w fun e w' => e = .returned (errV 2) ∧ w' = w := by
 obtain ⟨a, b, e1, e2, h1, h2, h3⟩ := h
 have := cput_out h1 hp k hk d
 rw [e1] at this
 exact this
theorem TwG.recvOut (h : TwG w0 w base ga gb p P fy x y M w1 bs) (hp : PlOk p) (i k : Int) (hk : i < 0 ∨ p.nd ≤ i ∨ k < 0 ∨ (p.lk.length : Int) ≤ k) : Calls Tryz.prog 13 #[.pointer (some ⟨ga, 0, none⟩), .int .i64 i, .int .i64 k] w (fun e w' => e = .returned (.tuple #[.string ⟨#[]⟩, errV 2]) ∧ w' = w) ∧ Calls Tryz.prog 22 #[.pointer (some ⟨gb, 0, none⟩), .int .i64 i, .int .i64 k] w (fun e w' => e = .returned (.tuple #[.string ⟨#[]⟩, .int .i64 2]) ∧ Below w.heap.size w w') := by
 obtain ⟨a, b, e1, e2, h1, h2, h3⟩ := h
 have g1 := crecv_out h1 hp i k hk
 have g2 := rrecv_out h2 hp i k hk
 rw [e1] at g1
 rw [e2] at g2
 exact ⟨g1, g2⟩
end
attribute [local irreducible] playF playE clPut clRecv liesB putE
set_option maxRecDepth 1000000 in
set_option maxHeartbeats 8000000 in
theorem step_sw {Q : Exit → Act → World → Prop} (w0 w W1 : World) {base ga gb : Nat} {p : Pl} {fy k : Nat} {cc : Cl} {bs : List Nat} {A AL : Option Addr} {c cl : Nat} {q : Value} (hT : TwG w0 w base ga gb p ⟨.slice A p.sl.length c, .slice AL p.lk.length cl, q⟩ fy cc cc k W1 bs) (hp : PlOk p) (hc : CpI p k cc) (hk : k < 80) (hf : fy < 65536) (hli : (liars fy p.nd.toNat : Int) ≤ p.fa) (hS : SlotsAt w0 A p.sl.length p.sl) (hL : LinksAt w0 AL p.lk.length p.lk) (h0 : w0.heap.size ≤ base) (hE : ErrT w0) (hF : FinT w0)
 (xs xr : Nat) (hxs : xs ∈ bs) (hxr : xr ∈ bs) (x : St) (A1 A2 A3 A4 : Option Addr) (l1 l2 l3 l4 c1 c2 c3 c4 : Nat) (hXS : Blk W1 xs 67 #[.int .i64 x.wh, .int .i64 x.nd, .int .i64 x.lk, .string x.d, .slice A1 l1 c1, .slice A2 l2 c2, .slice A3 l3 c3, .slice A4 l4 c4]) (hXR : Blk W1 xr 35 #[.slice A1 l1 c1, .slice A2 l2 c2, .slice A3 l3 c3, .slice A4 l4 c4]) (h1 : x.r.ls.length = l1) (h2 : x.r.rg.length = l2) (h3 : x.r.dr.length = l3) (h4 : x.r.md.length = l4) (m1 : LossAt w0 A1 x.r.ls) (m2 : RgAt w0 A2 x.r.rg) (m3 : IsL w0 A3 x.r.dr) (m4 : IsL w0 A4 x.r.md) (n1 : l1 ≤ 140737488355328) (n2 : l2 ≤ 140737488355328) (n3 : l3 ≤ 140737488355328) (n4 : l4 ≤ 140737488355328) (h200 : l1 ≤ 200 ∧ l2 ≤ 200) (hd : x.d.size ≤ 100)
 (u0 u1 u2 u3 u4 u5 u6 u7 u8 u10 u12 u13 u16 u17 u18 u19 u20 u21 u22 u23 u24 u25 u26 u27 u28 u29 u30 u31 u32 u33 u34 u35 u36 u37 u38 u39 u40 u41 u42 u43 u44 u45 u46 u47 u48 u49 u50 u51 u52 u53 u54 u55 u56 u57 u58 u59 u60 u61 u62 u63 u64 u65 u66 u67 u68 u69 u70 u71 u72 u73 u74 u75 u76 u77 u78 u79 u80 u81 u82 u83 u84 u85 u86 u87 u88 u89 u90 u91 u92 u93 u94 u95 u96 u97 u98 u99 u100 u101 u102 u103 u104 u105 u106 u107 u108 u109 u111 u112 u113 u114 u115 u116 u117 u118 u119 u120 u121 u122 u123 u124 u125 u126 u127 u128 u129 u130 u131 u132 u133 u134 u135 u136 u137 u138 u139 u140 u141 u142 u143 u144 u145 u146 u147 u148 u149 u150 u151 u152 u153 u154 u155 u156 u157 u158 u159 u160 u161 u162 u163 u164 u165 u166 u167 u168 u169 u170 u171 u172 u173 u174 u175 u176 u177 u178 u179 u180 u181 u182 u183 u184 u185 u186 u187 u188 u189 u190 u191 u192 u193 u194 u195 u196 u197 u198 u199 u200 u201 u202 u203 u204 u205 u206 u207 u208 u209 u210 u211 u212 u213 u214 u215 u216 u217 u218 u219 u220 u221 u222 u223 u224 u225 u226 u227 u228 u229 u230 u231 u232 u233 u234 u235 u236 u237 u238 u239 u240 u241 u242 u243 u244 u245 u246 u247 u248 u249 u250 u251 u252 u253 u254 u255 u256 u257 u258 u259 u260 u261 u262 u263 u264 u265 u266 u267 u268 u269 u270 u271 u272 u273 u274 u275 u276 u277 u278 u279 u280 u281 u282 u283 u284 u285 u286 u287 u288 u289 u290 u291 u292 u293 u294 u295 u296 u297 u298 u299 u300 u301 u302 u303 u304 u305 u306 u307 u308 u309 u310 u311 u312 u313 u314 u315 u316 u317 u318 u319 u320 u321 u322 u323 u324 u325 u326 u327 u328 : Value)
 (hQ : ∀ (v8 v16 v17 v18 v19 v20 v21 v22 v23 v24 v110 v111 v112 v113 v114 v115 v116 v117 v118 v119 v120 v121 v122 v123 v124 v125 v126 v127 v128 v129 v130 v131 v132 v133 v134 v135 v136 v137 v138 v139 v140 v141 v142 v143 v144 v145 v146 v147 v148 v149 v150 v151 v152 v153 v154 v155 v156 v157 v158 v159 v160 v161 v162 v163 v164 v165 v166 v167 v168 v169 v170 v171 v172 v173 v174 v175 v176 v177 v178 v179 v180 v181 v182 v183 v184 v185 v186 v187 v188 v189 v190 v191 v192 v193 v194 v195 v196 v197 v198 v199 v200 v201 v202 v203 v204 v205 v206 v207 v208 v209 v210 v211 v212 v213 v214 v215 v216 v217 v218 v219 v220 v221 v222 v223 v224 v225 v226 v227 v228 v229 v230 v231 v232 v233 v234 v235 v236 v237 v238 v239 v240 v241 v242 v243 v244 v245 v246 v247 : Value) (w' : World) (c' : Cl), TwG w0 w' base ga gb p ⟨.slice A p.sl.length c, .slice AL p.lk.length cl, q⟩ fy c' c' (k + 1) W1 bs → CpI p (k + 1) c' → Q .normal ⟨#[u0, u1, u2, u3, u4, u5, u6, u7, v8, .pointer (some ⟨ga, 0, none⟩), u10, .pointer (some ⟨gb, 0, none⟩), u12, u13, .pointer (some ⟨xs, 0, none⟩), .pointer (some ⟨xr, 0, none⟩), v16, v17, v18, v19, v20, v21, v22, v23, v24, u25, u26, u27, u28, u29, u30, u31, u32, u33, u34, u35, u36, u37, u38, u39, u40, u41, u42, u43, u44, u45, u46, u47, u48, u49, u50, u51, u52, u53, u54, u55, u56, u57, u58, u59, u60, u61, u62, u63, u64, u65, u66, u67, u68, u69, u70, u71, u72, u73, u74, u75, u76, u77, u78, u79, u80, u81, u82, u83, u84, u85, u86, u87, u88, u89, u90, u91, u92, u93, u94, u95, u96, u97, u98, u99, u100, u101, u102, u103, u104, u105, u106, u107, u108, u109, v110, v111, v112, v113, v114, v115, v116, v117, v118, v119, v120, v121, v122, v123, v124, v125, v126, v127, v128, v129, v130, v131, v132, v133, v134, v135, v136, v137, v138, v139, v140, v141, v142, v143, v144, v145, v146, v147, v148, v149, v150, v151, v152, v153, v154, v155, v156, v157, v158, v159, v160, v161, v162, v163, v164, v165, v166, v167, v168, v169, v170, v171, v172, v173, v174, v175, v176, v177, v178, v179, v180, v181, v182, v183, v184, v185, v186, v187, v188, v189, v190, v191, v192, v193, v194, v195, v196, v197, v198, v199, v200, v201, v202, v203, v204, v205, v206, v207, v208, v209, v210, v211, v212, v213, v214, v215, v216, v217, v218, v219, v220, v221, v222, v223, v224, v225, v226, v227, v228, v229, v230, v231, v232, v233, v234, v235, v236, v237, v238, v239, v240, v241, v242, v243, v244, v245, v246, v247, u248, u249, u250, u251, u252, u253, u254, u255, u256, u257, u258, u259, u260, u261, u262, u263, u264, u265, u266, u267, u268, u269, u270, u271, u272, u273, u274, u275, u276, u277, u278, u279, u280, u281, u282, u283, u284, u285, u286, u287, u288, u289, u290, u291, u292, u293, u294, u295, u296, u297, u298, u299, u300, u301, u302, u303, u304, u305, u306, u307, u308, u309, u310, u311, u312, u313, u314, u315, u316, u317, u318, u319, u320, u321, u322, u323, u324, u325, u326, u327, u328], []⟩ w') :
 Code.wp Tryz.prog (lwB 2) Q ⟨#[u0, u1, u2, u3, u4, u5, u6, u7, u8, .pointer (some ⟨ga, 0, none⟩), u10, .pointer (some ⟨gb, 0, none⟩), u12, u13, .pointer (some ⟨xs, 0, none⟩), .pointer (some ⟨xr, 0, none⟩), u16, u17, u18, u19, u20, u21, u22, u23, u24, u25, u26, u27, u28, u29, u30, u31, u32, u33, u34, u35, u36, u37, u38, u39, u40, u41, u42, u43, u44, u45, u46, u47, u48, u49, u50, u51, u52, u53, u54, u55, u56, u57, u58, u59, u60, u61, u62, u63, u64, u65, u66, u67, u68, u69, u70, u71, u72, u73, u74, u75, u76, u77, u78, u79, u80, u81, u82, u83, u84, u85, u86, u87, u88, u89, u90, u91, u92, u93, u94, u95, u96, u97, u98, u99, u100, u101, u102, u103, u104, u105, u106, u107, u108, u109, .int .i64 x.wh, u111, u112, u113, u114, u115, u116, u117, u118, u119, u120, u121, u122, u123, u124, u125, u126, u127, u128, u129, u130, u131, u132, u133, u134, u135, u136, u137, u138, u139, u140, u141, u142, u143, u144, u145, u146, u147, u148, u149, u150, u151, u152, u153, u154, u155, u156, u157, u158, u159, u160, u161, u162, u163, u164, u165, u166, u167, u168, u169, u170, u171, u172, u173, u174, u175, u176, u177, u178, u179, u180, u181, u182, u183, u184, u185, u186, u187, u188, u189, u190, u191, u192, u193, u194, u195, u196, u197, u198, u199, u200, u201, u202, u203, u204, u205, u206, u207, u208, u209, u210, u211, u212, u213, u214, u215, u216, u217, u218, u219, u220, u221, u222, u223, u224, u225, u226, u227, u228, u229, u230, u231, u232, u233, u234, u235, u236, u237, u238, u239, u240, u241, u242, u243, u244, u245, u246, u247, u248, u249, u250, u251, u252, u253, u254, u255, u256, u257, u258, u259, u260, u261, u262, u263, u264, u265, u266, u267, u268, u269, u270, u271, u272, u273, u274, u275, u276, u277, u278, u279, u280, u281, u282, u283, u284, u285, u286, u287, u288, u289, u290, u291, u292, u293, u294, u295, u296, u297, u298, u299, u300, u301, u302, u303, u304, u305, u306, u307, u308, u309, u310, u311, u312, u313, u314, u315, u316, u317, u318, u319, u320, u321, u322, u323, u324, u325, u326, u327, u328], []⟩ w := by
 have HQ := hide hQ; have HT := hide hT; have HP := hide hp; have HC := hide hc; have HLI := hide hli; have HS := hide hS; have HL := hide hL; have HE := hide hE; have HF := hide hF; have HXSB := hide hxs; have HXRB := hide hxr; have HXS := hide hXS; have HXR := hide hXR
 have HH1 := hide h1; have HH2 := hide h2; have HH3 := hide h3; have HH4 := hide h4; have HM1 := hide m1; have HM2 := hide m2; have HM3 := hide m3; have HM4 := hide m4; have HD := hide hd
 clear hQ hT hp hc hli hS hL hE hF hxs hxr hXS hXR h1 h2 h3 h4 m1 m2 m3 m4 hd
 conv => arg 2; whnf
 by_cases h0w : x.wh = 0
 ·have h0' := h0w
  clear h0w
  rw [h0']
  clear h0'
  have hK := HT.out.blk HXRB.out HXR.out
  have HKW := hide hK
  clear hK
  go_upto_block 3 with fail
  refine conv1 w xr A1 l1 c1 (.slice A2 l2 c2) (.slice A3 l3 c3) (.slice A4 l4 c4) x.r.ls HH1.out h200.1 HKW.out (HM1.out.below h0 HT.out.bel) _ _ _ _ _ _ _ _ _ _ _ _ _ _ _ _ _ _ _ _ _ _ _ _ _ _ _ _ _ _ _ _ _ _ _ _ _ _ _ _ _ _ _ _ _ _ _ _ _ _ _ _ _ _ _ _ _ _ _ _ _ _ _ _ _ _ _ _ _ _ _ _ _ _ _ _ _ _ _ _ _ _ _ _ _ _ _ _ _ _ _ _ _ _ _ _ _ _ _ _ _ _ _ _ _ _ _ _ _ _ _ _ _ _ _ _ _ _ _ _ _ _ _ _ _ _ _ _ _ _ _ _ _ _ _ _ _ _ _ _ _ _ _ _ _ _ _ _ _ _ _ _ _ _ _ _ _ _ _ _ _ _ _ _ _ _ _ _ _ _ _ _ _ _ _ _ _ _ _ _ _ _ _ _ _ _ _ _ _ _ _ _ _ _ _ _ _ _ _ _ _ _ _ _ _ _ _ _ _ _ _ _ _ _ _ _ _ _ _ _ _ _ _ _ _ _ _ _ _ _ _ _ _ _ _ _ _ _ _ _ _ _ _ _ _ _ _ _ _ _ _ _ _ _ _ _ _ _ _ _ _ _ _ _ _ _ _ _ _ _ _ _ _ _ _ _ _ _ _ _ _ _ _ _ _ _ _ _ _ _ _ _ _ _ _ _ _ _ _ _ _ _ _ _ _ _ _ _ _ _ _ _ _ _ _ _ _ _ _ _ _ _ _ _ _ _ (fun v18 v113 v114 v115 v116 v117 v118 v119 v120 v121 v122 v123 v124 v125 v126 v127 v128 v129 v130 v131 v132 v133 v134 v135 v136 v137 v138 v139 v140 v141 B1 d1 w5 hB5 hk1 hb1 => ?_)
  have HT5 := hide (HT.out.moreO hB5 B1 hb1)
  have HK5 := hide (HKW.out.below hB5 HKW.out.lt)
  have HL5 := hide hk1
  have HB1 := hide hb1
  have HW5 : Hid (∀ q ∈ bs, w5.heap[q]? = W1.heap[q]?) := hide (fun q hq => (hB5.block q (HT.out.lt_ hq)).trans (HT.out.heap hq))
  clear hk1 hb1 hB5
  go_upto_block 5 with fail
  refine conv2 w5 xr A2 l2 c2 (.slice A1 l1 c1) (.slice A3 l3 c3) (.slice A4 l4 c4) x.r.rg HH2.out h200.2 HK5.out (HM2.out.below h0 HT5.out.bel) _ _ _ _ _ _ _ _ _ _ _ _ _ _ _ _ _ _ _ _ _ _ _ _ _ _ _ _ _ _ _ _ _ _ _ _ _ _ _ _ _ _ _ _ _ _ _ _ _ _ _ _ _ _ _ _ _ _ _ _ _ _ _ _ _ _ _ _ _ _ _ _ _ _ _ _ _ _ _ _ _ _ _ _ _ _ _ _ _ _ _ _ _ _ _ _ _ _ _ _ _ _ _ _ _ _ _ _ _ _ _ _ _ _ _ _ _ _ _ _ _ _ _ _ _ _ _ _ _ _ _ _ _ _ _ _ _ _ _ _ _ _ _ _ _ _ _ _ _ _ _ _ _ _ _ _ _ _ _ _ _ _ _ _ _ _ _ _ _ _ _ _ _ _ _ _ _ _ _ _ _ _ _ _ _ _ _ _ _ _ _ _ _ _ _ _ _ _ _ _ _ _ _ _ _ _ _ _ _ _ _ _ _ _ _ _ _ _ _ _ _ _ _ _ _ _ _ _ _ _ _ _ _ _ _ _ _ _ _ _ _ _ _ _ _ _ _ _ _ _ _ _ _ _ _ _ _ _ _ _ _ _ _ _ _ _ _ _ _ _ _ _ _ _ _ _ _ _ _ _ _ _ _ _ _ _ _ _ _ _ _ _ _ _ _ _ _ _ _ _ _ _ _ _ _ _ _ _ _ _ _ _ _ _ _ _ _ _ _ _ _ _ _ _ _ _ (fun v19 v142 v143 v144 v145 v146 v147 v148 v149 v150 v151 v152 v153 v154 v155 v156 v157 v158 v159 v160 v161 v162 v163 v164 v165 v166 v167 v168 v169 v170 B2 d2 w6 hB6 hk2 hb2 => ?_)
  have HT6 := hide (HT5.out.moreO hB6 B2 hb2)
  have HK6 := hide (HK5.out.below hB6 HK5.out.lt)
  have HL6 := hide (HL5.out.below (Nat.le_refl _) hB6)
  have HR6 := hide hk2
  have HW6 : Hid (∀ q ∈ bs, w6.heap[q]? = W1.heap[q]?) := hide (fun q hq => (hB6.block q (HT5.out.lt_ (List.mem_append_right _ hq))).trans (HW5.out q hq))
  clear hk2 hb2 hB6
  go_upto_region 28 with fail
  refine play_reg w0 w6 w6 HT6.out HP.out HC.out.ok (by omega) HC.out.mm (by omega) (by have := HC.out.rd; omega) hf HLI.out HS.out HL.out h0 HE.out HF.out xr (List.mem_append_right _ (List.mem_append_right _ HXRB.out)) x.r A1 A2 A3 A4 B1 B2 l1 l2 l3 l4 c1 c2 c3 c4 d1 d2 HK6.out HH1.out HH2.out HH3.out HH4.out HM1.out HM2.out HM3.out HM4.out n1 n2 n3 n4 HL6.out HR6.out (fun z hz => by rw [hz]; simp) (fun z hz => by rw [hz]; simp) _ _ _ _ _ _ _ _ _ _ _ _ _ _ _ _ _ _ _ _ _ _ _ _ _ _ _ _ _ _ _ _ _ _ _ _ _ _ _ _ _ _ _ _ _ _ _ _ _ _ _ _ _ _ _ _ _ _ _ _ _ _ _ _ _ _ _ _ _ _ _ _ _ _ _ _ _ _ _ _ _ _ _ _ _ _ _ _ _ _ _ _ _ _ _ _ _ _ _ _ _ _ _ _ _ _ _ _ _ _ _ _ _ _ _ _ _ _ _ _ _ _ _ _ _ _ _ _ _ _ _ _ _ _ _ _ _ _ _ _ _ _ _ _ _ _ _ _ _ _ _ _ _ _ _ _ _ _ _ _ _ _ _ _ _ _ _ _ _ _ _ _ _ _ _ _ _ _ _ _ _ _ _ _ _ _ _ _ _ _ _ _ _ _ _ _ _ _ _ _ _ _ _ _ _ _ _ _ _ _ _ _ _ _ _ _ _ _ _ _ _ _ _ _ _ _ _ _ _ _ _ _ _ _ _ _ _ _ _ _ _ _ _ _ _ _ _ _ _ _ _ _ _ _ _ _ _ _ _ _ _ _ _ _ _ _ _ _ _ _ _ _ _ _ _ _ _ _ _ _ _ _ _ _ _ _ _ _ _ _ _ _ _ _ _ _ _ _ _ _ _ _ _ _ _ _ _ _ _ _ _ _ _ _ _ _ _ _ _ _ _ _ _ _ (fun v171 v172 v173 v174 v175 v176 v177 v178 v179 v180 v181 v182 w7 hT7 => ?_)
  have HT7 := hide ((hT7.anchor (w2 := W1) (bs' := bs) (fun q hq => ⟨List.mem_append_right _ (List.mem_append_right _ hq), HW6.out q hq⟩)).upM (Nat.le_succ _))
  clear hT7
  go_wp2_with fail
  exact HQ.out _ _ _ _ _ _ _ _ _ _ _ _ _ _ _ _ _ _ _ _ _ _ _ _ _ _ _ _ _ _ _ _ _ _ _ _ _ _ _ _ _ _ _ _ _ _ _ _ _ _ _ _ _ _ _ _ _ _ _ _ _ _ _ _ _ _ _ _ _ _ _ _ _ _ _ _ _ _ _ _ _ _ _ _ _ _ _ _ _ _ _ _ _ _ _ _ _ _ _ _ _ _ _ _ _ _ _ _ _ _ _ _ _ _ _ _ _ _ _ _ _ _ _ _ _ _ _ _ _ _ _ _ _ _ _ _ _ _ _ _ _ _ _ _ _ _ _ _ w7 _ HT7.out (HC.out.play HP.out fy x.r)
 by_cases h1w : x.wh = 1
 ·have h0' := h1w
  clear h1w h0w
  rw [h0']
  clear h0'
  obtain ⟨xk, hxk⟩ : ∃ xk, x.lk = xk := ⟨_, rfl⟩
  obtain ⟨ds, hds⟩ : ∃ ds, x.d = ds := ⟨_, rfl⟩
  rw [hxk, hds] at HXS
  rw [hds] at HD
  clear hxk hds
  have hdl := HD.out
  have hdm : ds.size ≤ maxLen := by simp [maxLen]; omega
  obtain ⟨ao, cp, k13⟩ := HT.out.lnkS
  have hl8 := HP.out.lk
  obtain ⟨nl, hnl⟩ : ∃ nl, p.lk.length = nl := ⟨_, rfl⟩
  rw [hnl] at k13 hl8
  have HNL := hide hnl
  have hx8 := HT.out.blk HXSB.out HXS.out
  have x2 := hx8.cell 2
  have x3 := hx8.cell 3
  simp at x2 x3
  clear hnl hx8
  by_cases hin : 0 ≤ xk ∧ xk < nl
  ·obtain ⟨j, rfl⟩ := Int.eq_ofNat_of_zero_le hin.1
   have hjl : j < nl := by omega
   obtain ⟨l, hl⟩ : ∃ l, p.lk[j]? = some l := ⟨_, List.getElem?_eq_getElem (by rw [HNL.out]; exact hjl)⟩
   have HLK := hide hl
   have d1 : decide (0 ≤ (j : Int)) = true := decide_eq_true (by omega)
   have d2 : decide ((j : Int) < (nl : Int)) = true := decide_eq_true (by omega)
   clear hl hin
   go_wp2_with fail
   go_quiet (fail)
   have HTq := hide (HT.out.below (below_drewN (Below.refl _ _) nq))
   go_upto_region 33 with fail
   clear d1 d2 k13 x2 x3
   refine put_reg w0 _ W1 HTq.out HP.out (by omega) xs HXSB.out j l HLK.out ds hdm _ _ _ _ _ _ HXS.out _ _ _ _ _ _ _ _ _ _ _ _ _ _ _ _ _ _ _ _ _ _ _ _ _ _ _ _ _ _ _ _ _ _ _ _ _ _ _ _ _ _ _ _ _ _ _ _ _ _ _ _ _ _ _ _ _ _ _ _ _ _ _ _ _ _ _ _ _ _ _ _ _ _ _ _ _ _ _ _ _ _ _ _ _ _ _ _ _ _ _ _ _ _ _ _ _ _ _ _ _ _ _ _ _ _ _ _ _ _ _ _ _ _ _ _ _ _ _ _ _ _ _ _ _ _ _ _ _ _ _ _ _ _ _ _ _ _ _ _ _ _ _ _ _ _ _ _ _ _ _ _ _ _ _ _ _ _ _ _ _ _ _ _ _ _ _ _ _ _ _ _ _ _ _ _ _ _ _ _ _ _ _ _ _ _ _ _ _ _ _ _ _ _ _ _ _ _ _ _ _ _ _ _ _ _ _ _ _ _ _ _ _ _ _ _ _ _ _ _ _ _ _ _ _ _ _ _ _ _ _ _ _ _ _ _ _ _ _ _ _ _ _ _ _ _ _ _ _ _ _ _ _ _ _ _ _ _ _ _ _ _ _ _ _ _ _ _ _ _ _ _ _ _ _ _ _ _ _ _ _ _ _ _ _ _ _ _ _ _ _ _ _ _ _ _ _ _ _ _ _ _ _ _ _ _ _ _ _ _ _ _ _ _ _ _ _ _ _ _ _ _ _ _ _ _ _ (fun v199 v200 v201 v202 v203 v204 v205 v206 v207 v208 v209 w5 hT5 => ?_)
   have HT5 := hide hT5
   have hx5 := HT5.out.blk HXSB.out HXS.out
   have x2 := hx5.cell 2
   have x3 := hx5.cell 3
   simp at x2 x3
   have HPL := hide (HT5.out.putL HP.out HC.out.ok j l HLK.out ds hdm)
   obtain ⟨pe, hpe⟩ : ∃ pe, putE ds.size (cc.sd j).q.length l.q = pe := ⟨_, rfl⟩
   rw [hpe] at HPL ⊢
   obtain ⟨ev, hev⟩ : ∃ ev, errV pe = ev := ⟨_, rfl⟩
   rw [hev] at HPL
   have HBA : Hid (∀ W, Below w0.heap.size w0 W → Calls Tryz.prog 19 #[ev, .int .i64 pe] W fun r w' => r = .returned (.bool true) ∧ Below W.heap.size W w') := hide (fun W hB => by
    have := bare_errV pe pe W (errT_below HE.out hB)
    rw [beq_self_eq_true, hev] at this
    exact this)
   clear hpe hev hT5 hx5
   go_wp2_with fail
   refine HPL.out.mono ?_
   rintro e6 w6 ⟨rfl, hT6⟩
   have HT6 := hide hT6
   clear hT6
   go_wp2_with fail
   refine (HBA.out _ (HT6.out.bel.mono h0)).mono ?_
   rintro e7 w7 ⟨rfl, hB7⟩
   have HT7 := hide (HT6.out.below hB7)
   clear hB7
   go_wp2_with fail
   exact HQ.out _ _ _ _ _ _ _ _ _ _ _ _ _ _ _ _ _ _ _ _ _ _ _ _ _ _ _ _ _ _ _ _ _ _ _ _ _ _ _ _ _ _ _ _ _ _ _ _ _ _ _ _ _ _ _ _ _ _ _ _ _ _ _ _ _ _ _ _ _ _ _ _ _ _ _ _ _ _ _ _ _ _ _ _ _ _ _ _ _ _ _ _ _ _ _ _ _ _ _ _ _ _ _ _ _ _ _ _ _ _ _ _ _ _ _ _ _ _ _ _ _ _ _ _ _ _ _ _ _ _ _ _ _ _ _ _ _ _ _ _ _ _ _ _ _ _ _ _ w7 _ HT7.out (HC.out.put HP.out HLK.out ds)
  ·have HPO : Hid (∀ W, TwG w0 W base ga gb p ⟨.slice A p.sl.length c, .slice AL p.lk.length cl, q⟩ fy cc cc k W1 bs → Calls Tryz.prog 12 #[.pointer (some ⟨ga, 0, none⟩), .int .i64 xk, .string ds] W fun e w' => e = .returned (errV 2) ∧ w' = W) := hide (fun W h => h.putOut HP.out xk (by rw [HNL.out]; omega) ds)
   have HBA : Hid (∀ W, Below w0.heap.size w0 W → Calls Tryz.prog 19 #[errV 2, .int .i64 2] W fun r w' => r = .returned (.bool true) ∧ Below W.heap.size W w') := hide (fun W hB => bare_errV 2 2 W (errT_below HE.out hB))
   obtain ⟨ev, hev⟩ : ∃ ev, errV 2 = ev := ⟨_, rfl⟩
   rw [hev] at HPO HBA
   clear hev
   have hout : xk < 0 ∨ (0 ≤ xk ∧ (nl : Int) ≤ xk) := by omega
   have HXC : Hid (∀ W, TwG w0 W base ga gb p ⟨.slice A p.sl.length c, .slice AL p.lk.length cl, q⟩ fy cc cc k W1 bs → W.cell? ⟨xs, 2, none⟩ = some (.int .i64 xk) ∧ W.cell? ⟨xs, 3, none⟩ = some (.string ds)) := hide (fun W h => by
    have h5 := h.blk HXSB.out HXS.out
    have x2 := h5.cell 2
    have x3 := h5.cell 3
    simp at x2 x3
    exact ⟨x2, x3⟩)
   clear hin
   rcases hout with hlo | ⟨hge, hhi⟩
   ·have d1 : decide (0 ≤ xk) = false := decide_eq_false (by omega)
    go_wp2_with fail
    go_quiet (fail)
    have HTq := hide (HT.out.below (below_drewN (Below.refl _ _) nq))
    clear x2 x3 k13
    obtain ⟨x2, x3⟩ := HXC.out _ HTq.out
    go_wp2_with fail
    refine (HPO.out _ HTq.out).mono ?_
    rintro e6 w6 ⟨rfl, rfl⟩
    go_wp2_with fail
    refine (HBA.out _ (HTq.out.bel.mono h0)).mono ?_
    rintro e7 w7 ⟨rfl, hB7⟩
    have HT7 := hide (HTq.out.below hB7)
    clear hB7
    go_wp2_with fail
    exact HQ.out _ _ _ _ _ _ _ _ _ _ _ _ _ _ _ _ _ _ _ _ _ _ _ _ _ _ _ _ _ _ _ _ _ _ _ _ _ _ _ _ _ _ _ _ _ _ _ _ _ _ _ _ _ _ _ _ _ _ _ _ _ _ _ _ _ _ _ _ _ _ _ _ _ _ _ _ _ _ _ _ _ _ _ _ _ _ _ _ _ _ _ _ _ _ _ _ _ _ _ _ _ _ _ _ _ _ _ _ _ _ _ _ _ _ _ _ _ _ _ _ _ _ _ _ _ _ _ _ _ _ _ _ _ _ _ _ _ _ _ _ _ _ _ _ _ _ _ _ w7 _ (HT7.out.upM (Nat.le_succ _)) HC.out.mono
   ·have d1 : decide (0 ≤ xk) = true := decide_eq_true hge
    have d2 : decide (xk < (nl : Int)) = false := decide_eq_false (by omega)
    go_wp2_with fail
    go_quiet (fail)
    have HTq := hide (HT.out.below (below_drewN (Below.refl _ _) nq))
    clear x2 x3 k13
    obtain ⟨x2, x3⟩ := HXC.out _ HTq.out
    go_wp2_with fail
    refine (HPO.out _ HTq.out).mono ?_
    rintro e6 w6 ⟨rfl, rfl⟩
    go_wp2_with fail
    refine (HBA.out _ (HTq.out.bel.mono h0)).mono ?_
    rintro e7 w7 ⟨rfl, hB7⟩
    have HT7 := hide (HTq.out.below hB7)
    clear hB7
    go_wp2_with fail
    exact HQ.out _ _ _ _ _ _ _ _ _ _ _ _ _ _ _ _ _ _ _ _ _ _ _ _ _ _ _ _ _ _ _ _ _ _ _ _ _ _ _ _ _ _ _ _ _ _ _ _ _ _ _ _ _ _ _ _ _ _ _ _ _ _ _ _ _ _ _ _ _ _ _ _ _ _ _ _ _ _ _ _ _ _ _ _ _ _ _ _ _ _ _ _ _ _ _ _ _ _ _ _ _ _ _ _ _ _ _ _ _ _ _ _ _ _ _ _ _ _ _ _ _ _ _ _ _ _ _ _ _ _ _ _ _ _ _ _ _ _ _ _ _ _ _ _ _ _ _ _ w7 _ (HT7.out.upM (Nat.le_succ _)) HC.out.mono
 by_cases h2w : x.wh = 2
 ·have h0' := h2w
  clear h2w h1w h0w
  rw [h0']
  clear h0'
  obtain ⟨xk, hxk⟩ : ∃ xk, x.lk = xk := ⟨_, rfl⟩
  obtain ⟨xn, hxn⟩ : ∃ xn, x.nd = xn := ⟨_, rfl⟩
  rw [hxk, hxn] at HXS
  clear hxk hxn
  have hl8 := HP.out.lk
  have h16 := HP.out.n16
  obtain ⟨nl, hnl⟩ : ∃ nl, p.lk.length = nl := ⟨_, rfl⟩
  rw [hnl] at hl8
  have HNL := hide hnl
  have HXC : Hid (∀ W (y1 y2 : Cl), TwG w0 W base ga gb p ⟨.slice A p.sl.length c, .slice AL p.lk.length cl, q⟩ fy y1 y2 k W1 bs → W.cell? ⟨xs, 1, none⟩ = some (.int .i64 xn) ∧ W.cell? ⟨xs, 2, none⟩ = some (.int .i64 xk)) := hide (fun W y1 y2 h => by
   have h5 := h.blk HXSB.out HXS.out
   have x1 := h5.cell 1
   have x2 := h5.cell 2
   simp at x1 x2
   exact ⟨x1, x2⟩)
  have HBA : Hid (∀ (n : Int) W, Below w0.heap.size w0 W → Calls Tryz.prog 19 #[errV n, .int .i64 n] W fun r w' => r = .returned (.bool true) ∧ Below W.heap.size W w') := hide (fun n W hB => by
   have := bare_errV n n W (errT_below HE.out hB)
   rw [beq_self_eq_true] at this
   exact this)
  have HB2 := hide (HBA.out 2); have HB8 := hide (HBA.out 8); have HB0 := hide (HBA.out 0)
  obtain ⟨ev2, hev2⟩ : ∃ ev, errV 2 = ev := ⟨_, rfl⟩
  obtain ⟨ev8, hev8⟩ : ∃ ev, errV 8 = ev := ⟨_, rfl⟩
  obtain ⟨ev0, hev0⟩ : ∃ ev, errV 0 = ev := ⟨_, rfl⟩
  rw [hev2] at HB2
  rw [hev8] at HB8
  rw [hev0] at HB0
  clear hnl
  obtain ⟨x1, x2⟩ := HXC.out _ _ _ HT.out
  by_cases hin : (0 ≤ xn ∧ xn < p.nd) ∧ (0 ≤ xk ∧ xk < nl)
  ·obtain ⟨j, rfl⟩ := Int.eq_ofNat_of_zero_le hin.2.1
   obtain ⟨i, rfl⟩ := Int.eq_ofNat_of_zero_le hin.1.1
   have hjl : j < nl := by omega
   obtain ⟨l, hl⟩ : ∃ l, p.lk[j]? = some l := ⟨_, List.getElem?_eq_getElem (by rw [HNL.out]; exact hjl)⟩
   have HLK := hide hl
   have HRR := hide (HT.out.recvR HP.out HC.out.ok HL.out h0 j i l hl hin.1.2)
   have HRL : Hid (∀ W (y2 : Cl), TwG w0 W base ga gb p ⟨.slice A p.sl.length c, .slice AL p.lk.length cl, q⟩ fy cc y2 k W1 bs → _) := hide (fun W y2 h => h.recvL HP.out HC.out.ok HL.out h0 j i l hl hin.1.2)
   rw [hev2, hev8, hev0] at HRL
   obtain ⟨pq, hpq⟩ : ∃ pq, (cc.pr j i).q = pq := ⟨_, rfl⟩
   rw [hpq] at HRR HRL
   clear hl hin hev2 hev8 hev0 hpq
   go_wp2_with fail
   refine HRR.out.mono ?_
   rintro e5 w5 (⟨hb, rfl, hT5⟩ | ⟨hb, hq, rfl, hT5⟩ | ⟨hb, d, r, hq, rfl, hT5⟩)
   ·have HT5 := hide hT5
    clear hT5 x1 x2
    obtain ⟨x1, x2⟩ := HXC.out _ _ _ HT5.out
    have HRL5 := hide (HRL.out _ _ HT5.out)
    have HBB := hide hb
    clear hb
    go_wp2_with fail
    refine HRL5.out.mono ?_
    rintro e6 w6 (⟨hb6, rfl, hT6⟩ | ⟨hb6, hq6, rfl, hT6⟩ | ⟨hb6, d6, r6, hq6, rfl, hT6⟩)
    case inr.inl => exact absurd (hb6.symm.trans HBB.out) (by decide)
    case inr.inr => exact absurd (hb6.symm.trans HBB.out) (by decide)
    have HT6 := hide hT6
    clear hT6 hb6 x1 x2
    go_wp2_with fail
    refine (HB2.out _ (HT6.out.bel.mono h0)).mono ?_
    rintro e7 w7 ⟨rfl, hB7⟩
    have HT7 := hide (HT6.out.below hB7)
    clear hB7
    go_wp2_with fail
    exact HQ.out _ _ _ _ _ _ _ _ _ _ _ _ _ _ _ _ _ _ _ _ _ _ _ _ _ _ _ _ _ _ _ _ _ _ _ _ _ _ _ _ _ _ _ _ _ _ _ _ _ _ _ _ _ _ _ _ _ _ _ _ _ _ _ _ _ _ _ _ _ _ _ _ _ _ _ _ _ _ _ _ _ _ _ _ _ _ _ _ _ _ _ _ _ _ _ _ _ _ _ _ _ _ _ _ _ _ _ _ _ _ _ _ _ _ _ _ _ _ _ _ _ _ _ _ _ _ _ _ _ _ _ _ _ _ _ _ _ _ _ _ _ _ _ _ _ _ _ _ w7 _ (HT7.out.upM (Nat.le_succ _)) HC.out.mono
   ·have HT5 := hide hT5
    clear hT5 x1 x2
    obtain ⟨x1, x2⟩ := HXC.out _ _ _ HT5.out
    have HRL5 := hide (HRL.out _ _ HT5.out)
    have HBB := hide hb
    have HQQ := hide hq
    clear hb hq
    go_wp2_with fail
    refine HRL5.out.mono ?_
    rintro e6 w6 (⟨hb6, rfl, hT6⟩ | ⟨hb6, hq6, rfl, hT6⟩ | ⟨hb6, d6, r6, hq6, rfl, hT6⟩)
    case inl => exact absurd (hb6.symm.trans HBB.out) (by decide)
    case inr.inr => exact absurd (hq6.symm.trans HQQ.out) (by simp)
    have HT6 := hide hT6
    clear hT6 hb6 hq6 x1 x2
    go_wp2_with fail
    refine (HB8.out _ (HT6.out.bel.mono h0)).mono ?_
    rintro e7 w7 ⟨rfl, hB7⟩
    have HT7 := hide (HT6.out.below hB7)
    clear hB7
    go_wp2_with fail
    exact HQ.out _ _ _ _ _ _ _ _ _ _ _ _ _ _ _ _ _ _ _ _ _ _ _ _ _ _ _ _ _ _ _ _ _ _ _ _ _ _ _ _ _ _ _ _ _ _ _ _ _ _ _ _ _ _ _ _ _ _ _ _ _ _ _ _ _ _ _ _ _ _ _ _ _ _ _ _ _ _ _ _ _ _ _ _ _ _ _ _ _ _ _ _ _ _ _ _ _ _ _ _ _ _ _ _ _ _ _ _ _ _ _ _ _ _ _ _ _ _ _ _ _ _ _ _ _ _ _ _ _ _ _ _ _ _ _ _ _ _ _ _ _ _ _ _ _ _ _ _ w7 _ (HT7.out.upM (Nat.le_succ _)) HC.out.mono
   ·have HT5 := hide hT5
    clear hT5 x1 x2
    obtain ⟨x1, x2⟩ := HXC.out _ _ _ HT5.out
    have HRL5 := hide (HRL.out _ _ HT5.out)
    have HBB := hide hb
    have HQQ := hide hq
    clear hb hq
    go_wp2_with fail
    refine HRL5.out.mono ?_
    rintro e6 w6 (⟨hb6, rfl, hT6⟩ | ⟨hb6, hq6, rfl, hT6⟩ | ⟨hb6, d6, r6, hq6, rfl, hT6⟩)
    case inl => exact absurd (hb6.symm.trans HBB.out) (by decide)
    case inr.inl => exact absurd (HQQ.out.symm.trans hq6) (by simp)
    obtain ⟨rfl, rfl⟩ : d = d6 ∧ r = r6 := by
     have := HQQ.out.symm.trans hq6
     simpa using this
    have HT6 := hide hT6
    clear hT6 hb6 hq6 x1 x2
    go_wp2_with fail
    refine (HB0.out _ (HT6.out.bel.mono h0)).mono ?_
    rintro e7 w7 ⟨rfl, hB7⟩
    have HT7 := hide (HT6.out.below hB7)
    clear hB7
    go_wp2_with fail
    exact HQ.out _ _ _ _ _ _ _ _ _ _ _ _ _ _ _ _ _ _ _ _ _ _ _ _ _ _ _ _ _ _ _ _ _ _ _ _ _ _ _ _ _ _ _ _ _ _ _ _ _ _ _ _ _ _ _ _ _ _ _ _ _ _ _ _ _ _ _ _ _ _ _ _ _ _ _ _ _ _ _ _ _ _ _ _ _ _ _ _ _ _ _ _ _ _ _ _ _ _ _ _ _ _ _ _ _ _ _ _ _ _ _ _ _ _ _ _ _ _ _ _ _ _ _ _ _ _ _ _ _ _ _ _ _ _ _ _ _ _ _ _ _ _ _ _ _ _ _ _ w7 _ (HT7.out.upM (Nat.le_succ _)) (HC.out.recv j i)
  ·have HRO := hide (HT.out.recvOut HP.out xn xk (by rw [HNL.out]; omega))
   have HRL : Hid (∀ W, TwG w0 W base ga gb p ⟨.slice A p.sl.length c, .slice AL p.lk.length cl, q⟩ fy cc cc k W1 bs → Calls Tryz.prog 13 #[.pointer (some ⟨ga, 0, none⟩), .int .i64 xn, .int .i64 xk] W (fun e w' => e = .returned (.tuple #[.string ⟨#[]⟩, errV 2]) ∧ w' = W)) := hide (fun W h => (h.recvOut HP.out xn xk (by rw [HNL.out]; omega)).1)
   rw [hev2] at HRL
   clear hin hev2 hev8 hev0
   go_wp2_with fail
   refine HRO.out.2.mono ?_
   rintro e5 w5 ⟨rfl, hB5⟩
   have HT5 := hide (HT.out.below hB5)
   clear hB5 x1 x2
   obtain ⟨x1, x2⟩ := HXC.out _ _ _ HT5.out
   go_wp2_with fail
   refine (HRL.out _ HT5.out).mono ?_
   rintro e6 w6 ⟨rfl, rfl⟩
   go_wp2_with fail
   refine (HB2.out _ (HT5.out.bel.mono h0)).mono ?_
   rintro e7 w7 ⟨rfl, hB7⟩
   have HT7 := hide (HT5.out.below hB7)
   clear hB7
   go_wp2_with fail
   exact HQ.out _ _ _ _ _ _ _ _ _ _ _ _ _ _ _ _ _ _ _ _ _ _ _ _ _ _ _ _ _ _ _ _ _ _ _ _ _ _ _ _ _ _ _ _ _ _ _ _ _ _ _ _ _ _ _ _ _ _ _ _ _ _ _ _ _ _ _ _ _ _ _ _ _ _ _ _ _ _ _ _ _ _ _ _ _ _ _ _ _ _ _ _ _ _ _ _ _ _ _ _ _ _ _ _ _ _ _ _ _ _ _ _ _ _ _ _ _ _ _ _ _ _ _ _ _ _ _ _ _ _ _ _ _ _ _ _ _ _ _ _ _ _ _ _ _ _ _ _ w7 _ (HT7.out.upM (Nat.le_succ _)) HC.out.mono
 have d0 : (x.wh == 0) = false := beq_eq_false_iff_ne.2 h0w
 have d1 : (x.wh == 1) = false := beq_eq_false_iff_ne.2 h1w
 have d2 : (x.wh == 2) = false := beq_eq_false_iff_ne.2 h2w
 have e0 : decide (x.wh = 0) = false := decide_eq_false h0w
 have e1 : decide (x.wh = 1) = false := decide_eq_false h1w
 have e2 : decide (x.wh = 2) = false := decide_eq_false h2w
 go_wp2_with fail
 exact HQ.out _ _ _ _ _ _ _ _ _ _ _ _ _ _ _ _ _ _ _ _ _ _ _ _ _ _ _ _ _ _ _ _ _ _ _ _ _ _ _ _ _ _ _ _ _ _ _ _ _ _ _ _ _ _ _ _ _ _ _ _ _ _ _ _ _ _ _ _ _ _ _ _ _ _ _ _ _ _ _ _ _ _ _ _ _ _ _ _ _ _ _ _ _ _ _ _ _ _ _ _ _ _ _ _ _ _ _ _ _ _ _ _ _ _ _ _ _ _ _ _ _ _ _ _ _ _ _ _ _ _ _ _ _ _ _ _ _ _ _ _ _ _ _ _ _ _ _ _ w cc (HT.out.upM (Nat.le_succ _)) HC.out.mono
end
end Go.Proofs.YtdogdlnaacimpaaGreatDoor
