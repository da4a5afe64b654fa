/- The document's cluster's Play: what a node hears on one channel; conditions: the cluster, and what is lost, lie in memory. -/
import Derived.Test.YtdogdlnaacimpaaGreatDoorP24
import Derived.Test.YtdogdlnaacimpaaGreatDoorP15
import Derived.Deep.RegionLaw
import Derived.BigRegion
set_option linter.unusedVariables false
set_option linter.unusedSimpArgs false
namespace Go.Proofs.YtdogdlnaacimpaaGreatDoor
section
open Go Go.RowKit
attribute [local irreducible] liesB hearAll hearsF loadsF chanF lostB judgeV takeB putE
/-- A frame that is sent, and its parts. -/
structure FrIs (fr : Option FrR) (ok : Bool) (T : Nat) (lk sq : Int) (d : ByteArray) : Prop where
 no : ok = false → fr = none
 yes : ok = true → ∃ f, fr = some f ∧ f.mb = (T : Int) ∧ f.lk = lk ∧ f.sq = sq ∧ f.d = d
 d : d.size ≤ 40
set_option pp.maxSteps 1000000 in
set_option pp.deepTerms true in
set_option maxRecDepth 1000000 in
set_option maxHeartbeats 8000000 in
theorem chan_body {Q : Exit → Act → World → Prop} (w0 w W1 : World) {base g : Nat} {p : Pl} {fy : Nat} {cc : Cl} {N M : Nat} {q : Value} {AS AL : Option Addr} {cs cl : Nat} {bs : List Nat} (hD : DsG w0 w base g p ⟨.slice AS p.sl.length cs, .slice AL p.lk.length cl, q⟩ fy cc M W1 bs) (hp : PlOk p) (hc : ClOk p N cc) (hN : N ≤ 900000) (hmm : MmOk p cc) (hL : LinksAt w0 AL p.lk.length p.lk) (h0 : w0.heap.size ≤ base)
 (A : Option Addr) (c1 nl1 : Nat) (ls : List Ls) (hn1 : ls.length = nl1) (hm1 : nl1 ≤ 9223372036854775807) (hA : LossAt W1 A ls) (hAb : ∀ x, A = some x → x.block ∈ bs) (xb : Nat) (hxb : xb ∈ bs) (node tn i ch : Nat) (sf st : Value) (hX : Blk W1 xb 100 #[.int .i64 node, sf, st]) (hnode : node < p.nd.toNat) (htn : tn < p.nd.toNat) (hi : i ≤ 100) (hch : ch < 2)
 (fr : Option FrR) (ok : Bool) (T : Nat) (lk sq : Int) (d : ByteArray) (hT : T < 65536) (hfr : FrIs fr ok T lk sq d) (hlk : lk < 0 ∨ ∃ (k : Nat) (l : Lk), lk = (k : Int) ∧ p.lk[k]? = some l) (wv : Int)
 (u2 u3 u4 u5 u6 u7 u8 u9 u10 u11 u12 u13 u14 u15 u16 u17 u18 u19 u20 u23 u26 u30 u31 u32 u33 u34 u37 u38 u39 u40 u41 u42 u43 u44 u45 u46 u47 u48 u49 u50 u51 u52 u53 u54 u55 u56 u57 u58 u59 u60 u61 u62 u63 u64 u65 u66 u67 u68 u69 u70 u71 u72 u73 u74 u75 u76 u77 u78 u79 u80 u81 u82 u83 u84 u85 u86 u87 u88 u89 u90 u91 u92 u93 u94 u95 u96 u97 u98 u99 u100 u101 u102 u103 u104 u105 u106 u107 u108 u109 u110 u111 u112 u113 u114 u115 u116 u117 u118 u119 u120 u121 u122 u123 u124 u125 u126 u127 u128 u129 u130 u131 u132 u133 u134 u135 u136 u137 u138 u139 u140 u141 u142 u143 u144 u145 u146 u147 u148 u149 u150 u151 u152 u153 u154 u155 u156 u157 u158 u159 u160 u161 u162 u163 u164 u165 u166 u167 u168 u169 u170 u171 u172 u173 u174 u175 u176 u177 u178 u179 u180 u181 u182 u183 u184 u185 u186 u187 u188 u189 u190 u191 u192 u193 u194 u195 u196 u197 u198 u199 u200 u201 u202 u203 u204 u205 u206 u207 u208 u209 u210 u211 u212 u213 u214 u215 u216 u217 u218 u219 u220 u221 u222 u223 u224 u225 u226 u227 u228 u229 u230 u231 u232 u233 u234 u235 u236 u237 u238 u239 u240 u241 u242 u243 u244 u245 u246 u247 u248 u249 u250 u251 u252 u253 u254 u255 u256 u257 u258 u259 u260 u261 u262 u263 u264 u265 u266 u267 u268 u269 u270 u271 u272 u273 u274 u275 u276 u277 u278 u279 u280 u281 u282 u283 u284 u285 u286 u287 u288 u289 u290 u291 u292 u293 u294 u295 u296 u297 u298 u299 u300 u301 u302 u303 u304 u305 u306 u307 u308 u309 u310 u311 u312 u313 u314 u315 u316 u317 u318 u319 u320 u321 u322 u323 u324 u325 u326 u327 u328 u329 u330 u331 u333 u334 u335 u336 u337 u338 u339 u340 u341 u342 u343 u344 u345 u346 u347 u348 u349 u350 u351 u352 u353 u354 u355 u356 u357 u358 u359 u360 u361 u362 u363 u364 u365 u366 u367 u368 u369 u370 u371 u372 u373 u374 u375 u376 u377 u378 u379 u380 u381 u382 u383 u384 u385 u386 u387 u388 u389 u390 u391 u392 u393 u394 u395 u396 u397 u398 u399 u400 u401 u402 u403 u404 u405 u406 u407 u408 u409 u410 u411 u412 u413 u414 u415 u416 u417 u418 u419 u420 u421 u422 u423 u424 u425 u426 u427 u428 u429 u430 u431 u432 u433 u434 u435 u436 u437 u438 u439 u440 u441 u442 u443 u444 u445 u446 u447 u448 u449 u450 u451 : Value)
 (hQ : ∀ (v37 v38 v40 v41 v334 v335 v336 v337 v338 v339 v340 v341 v342 v343 v344 v345 v346 v347 v348 v349 v350 v351 v352 v353 v354 v355 v356 v357 v358 v359 v360 v361 v362 v363 v364 v365 v366 v367 v368 v369 v370 v371 v372 v373 v374 v375 v376 v377 v378 v379 v380 v381 v382 v383 v384 v385 v386 v387 v388 v389 v390 v391 v392 v393 v394 v395 v396 v397 v398 v399 v400 v401 v402 v403 v404 v405 v406 v407 v408 v409 v410 v411 v412 v413 v414 v415 v416 v417 v418 v419 v420 v421 v422 v423 v424 v425 v426 : Value) (w' : World), DsG w0 w' base g p ⟨.slice AS p.sl.length cs, .slice AL p.lk.length cl, q⟩ fy (chanO p tn fr (cameB fr ls i ch tn) cc) M W1 bs → Q .normal ⟨#[.pointer (some ⟨g, 0, none⟩), .slice A nl1 c1, u2, u3, u4, u5, u6, u7, u8, u9, u10, u11, u12, u13, u14, u15, u16, u17, u18, u19, u20, .int .i64 i, .pointer (some ⟨xb, 0, none⟩), u23, .int .i64 T, .bool ok, u26, .int .i64 lk, .int .i64 sq, .string d, u30, u31, u32, u33, u34, .int .i64 tn, .int .i64 (if cameB fr ls i ch tn = true then judgeV (cc.mm tn).m node T else wv), v37, v38, u39, v40, v41, u42, u43, u44, u45, u46, u47, u48, u49, u50, u51, u52, u53, u54, u55, u56, u57, u58, u59, u60, u61, u62, u63, u64, u65, u66, u67, u68, u69, u70, u71, u72, u73, u74, u75, u76, u77, u78, u79, u80, u81, u82, u83, u84, u85, u86, u87, u88, u89, u90, u91, u92, u93, u94, u95, u96, u97, u98, u99, u100, u101, u102, u103, u104, u105, u106, u107, u108, u109, u110, u111, u112, u113, u114, u115, u116, u117, u118, u119, u120, u121, u122, u123, u124, u125, u126, u127, u128, u129, u130, u131, u132, u133, u134, u135, u136, u137, u138, u139, u140, u141, u142, u143, u144, u145, u146, u147, u148, u149, u150, u151, u152, u153, u154, u155, u156, u157, u158, u159, u160, u161, u162, u163, u164, u165, u166, u167, u168, u169, u170, u171, u172, u173, u174, u175, u176, u177, u178, u179, u180, u181, u182, u183, u184, u185, u186, u187, u188, u189, u190, u191, u192, u193, u194, u195, u196, u197, u198, u199, u200, u201, u202, u203, u204, u205, u206, u207, u208, u209, u210, u211, u212, u213, u214, u215, u216, u217, u218, u219, u220, u221, u222, u223, u224, u225, u226, u227, u228, u229, u230, u231, u232, u233, u234, u235, u236, u237, u238, u239, u240, u241, u242, u243, u244, u245, u246, u247, u248, u249, u250, u251, u252, u253, u254, u255, u256, u257, u258, u259, u260, u261, u262, u263, u264, u265, u266, u267, u268, u269, u270, u271, u272, u273, u274, u275, u276, u277, u278, u279, u280, u281, u282, u283, u284, u285, u286, u287, u288, u289, u290, u291, u292, u293, u294, u295, u296, u297, u298, u299, u300, u301, u302, u303, u304, u305, u306, u307, u308, u309, u310, u311, u312, u313, u314, u315, u316, u317, u318, u319, u320, u321, u322, u323, u324, u325, u326, u327, u328, u329, u330, u331, .int .i64 ch, u333, v334, v335, v336, v337, v338, v339, v340, v341, v342, v343, v344, v345, v346, v347, v348, v349, v350, v351, v352, v353, v354, v355, v356, v357, v358, v359, v360, v361, v362, v363, v364, v365, v366, v367, v368, v369, v370, v371, v372, v373, v374, v375, v376, v377, v378, v379, v380, v381, v382, v383, v384, v385, v386, v387, v388, v389, v390, v391, v392, v393, v394, v395, v396, v397, v398, v399, v400, v401, v402, v403, v404, v405, v406, v407, v408, v409, v410, v411, v412, v413, v414, v415, v416, v417, v418, v419, v420, v421, v422, v423, v424, v425, v426, u427, u428, u429, u430, u431, u432, u433, u434, u435, u436, u437, u438, u439, u440, u441, u442, u443, u444, u445, u446, u447, u448, u449, u450, u451], []⟩ w') :
 Code.wp Tryz.prog (plB 15) Q ⟨#[.pointer (some ⟨g, 0, none⟩), .slice A nl1 c1, u2, u3, u4, u5, u6, u7, u8, u9, u10, u11, u12, u13, u14, u15, u16, u17, u18, u19, u20, .int .i64 i, .pointer (some ⟨xb, 0, none⟩), u23, .int .i64 T, .bool ok, u26, .int .i64 lk, .int .i64 sq, .string d, u30, u31, u32, u33, u34, .int .i64 tn, .int .i64 wv, u37, u38, u39, u40, u41, u42, u43, u44, u45, u46, u47, u48, u49, u50, u51, u52, u53, u54, u55, u56, u57, u58, u59, u60, u61, u62, u63, u64, u65, u66, u67, u68, u69, u70, u71, u72, u73, u74, u75, u76, u77, u78, u79, u80, u81, u82, u83, u84, u85, u86, u87, u88, u89, u90, u91, u92, u93, u94, u95, u96, u97, u98, u99, u100, u101, u102, u103, u104, u105, u106, u107, u108, u109, u110, u111, u112, u113, u114, u115, u116, u117, u118, u119, u120, u121, u122, u123, u124, u125, u126, u127, u128, u129, u130, u131, u132, u133, u134, u135, u136, u137, u138, u139, u140, u141, u142, u143, u144, u145, u146, u147, u148, u149, u150, u151, u152, u153, u154, u155, u156, u157, u158, u159, u160, u161, u162, u163, u164, u165, u166, u167, u168, u169, u170, u171, u172, u173, u174, u175, u176, u177, u178, u179, u180, u181, u182, u183, u184, u185, u186, u187, u188, u189, u190, u191, u192, u193, u194, u195, u196, u197, u198, u199, u200, u201, u202, u203, u204, u205, u206, u207, u208, u209, u210, u211, u212, u213, u214, u215, u216, u217, u218, u219, u220, u221, u222, u223, u224, u225, u226, u227, u228, u229, u230, u231, u232, u233, u234, u235, u236, u237, u238, u239, u240, u241, u242, u243, u244, u245, u246, u247, u248, u249, u250, u251, u252, u253, u254, u255, u256, u257, u258, u259, u260, u261, u262, u263, u264, u265, u266, u267, u268, u269, u270, u271, u272, u273, u274, u275, u276, u277, u278, u279, u280, u281, u282, u283, u284, u285, u286, u287, u288, u289, u290, u291, u292, u293, u294, u295, u296, u297, u298, u299, u300, u301, u302, u303, u304, u305, u306, u307, u308, u309, u310, u311, u312, u313, u314, u315, u316, u317, u318, u319, u320, u321, u322, u323, u324, u325, u326, u327, u328, u329, u330, u331, .int .i64 ch, u333, u334, u335, u336, u337, u338, u339, u340, u341, u342, u343, u344, u345, u346, u347, u348, u349, u350, u351, u352, u353, u354, u355, u356, u357, u358, u359, u360, u361, u362, u363, u364, u365, u366, u367, u368, u369, u370, u371, u372, u373, u374, u375, u376, u377, u378, u379, u380, u381, u382, u383, u384, u385, u386, u387, u388, u389, u390, u391, u392, u393, u394, u395, u396, u397, u398, u399, u400, u401, u402, u403, u404, u405, u406, u407, u408, u409, u410, u411, u412, u413, u414, u415, u416, u417, u418, u419, u420, u421, u422, u423, u424, u425, u426, u427, u428, u429, u430, u431, u432, u433, u434, u435, u436, u437, u438, u439, u440, u441, u442, u443, u444, u445, u446, u447, u448, u449, u450, u451], []⟩ w := by
 have hn16 := hp.n16
 have hn1' := hp.n1
 have hnd16 : tn < 16 := by omega
 have HD := hide hD; have HP := hide hp; have HOK := hide hc; have HMM := hide hmm; have HL := hide hL; have HA := hide hA; have HAb := hide hAb; have HX := hide hX; have HFR := hide hfr; have HQ := hide hQ; have HN1 := hide hn1; have HXb := hide hxb; have HLKS := hide hlk
 clear hD hp hc hmm hL hA hAb hX hfr hQ hn1 hxb hn16 hn1' hlk
 conv => arg 2; whnf
 go_upto_block 16 with fail
 go_cut [38] from 338 to 360 (fun v wx => v = .bool (ok && !lostB ls i ch tn) ∧ Hid (Below w.heap.size w wx))
 case first =>
  go_wp2_with fail
  go_loopw [38, 338] (fun v38 v wr => ∃ j : Nat, j ≤ nl1 ∧ v = .int .i64 j ∧ v38 = .bool (ok && !lostB (ls.take j) i ch tn) ∧ Hid (Below w.heap.size w wr)) (fun _ v _ => nl1 - (intOf v).toNat)
  case atStart => exact ⟨0, by omega, rfl, by rw [lost_zero]; simp, hide (Below.refl _ _)⟩
  case round =>
   obtain ⟨j, hj, rfl, rfl, HB⟩ := hrel
   by_cases hjn : j < nl1
   ·obtain ⟨x, hx⟩ : ∃ x, ls[j]? = some x := ⟨_, List.getElem?_eq_getElem (by rw [HN1.out]; exact hjn)⟩
    obtain ⟨b, off, hAe, x0, x1, x2⟩ := (loss_keep HA.out (w' := wr) (fun y hy => (HB.out.block y.block (HD.out.lt_ (HAb.out y hy))).trans (HD.out.heap (HAb.out y hy)))) j x hx
    have HLS := hide (lost_succ hx i ch tn)
    obtain ⟨lo, hlo⟩ : ∃ lo, lostB (ls.take j) i ch tn = lo := ⟨_, rfl⟩
    rw [hlo] at HLS ⊢
    obtain ⟨xs, xc, xt⟩ := x
    dsimp only at x0 x1 x2 HLS
    have HBn := hide (HB.out.alloc HB.out.size (.cells #[.int .i64 xs, .int .i64 xc, .int .i64 xt] 72))
    have hbl : b < wr.heap.size := World.block_lt_of_cell? _ _ x0
    subst hAe
    clear hx hlo
    obtain ⟨b3, hb3⟩ : ∃ b3, (bits .and .i64 (xt / 2 ^ tn) 1 == 1) = b3 := ⟨_, rfl⟩
    have HB3 : Hid (bitB xt tn = b3) := hide hb3
    rw [HB3.out] at HLS
    by_cases e1 : xs = (i : Int)
    ·have d1 : (xs == (i : Int)) = true := beq_iff_eq.2 e1
     by_cases e2 : xc = (ch : Int)
     ·have d2 : (xc == (ch : Int)) = true := beq_iff_eq.2 e2
      have HLT : Hid (lostB (ls.take (j + 1)) i ch tn = (lo || b3)) := hide (by rw [HLS.out, decide_eq_true e1, decide_eq_true e2]; simp)
      clear e1 e2
      cases b3
      ·go_wp2_with fail
       go_roundw
       case rel => exact ⟨j + 1, by omega, by go_num, by rw [HLT.out]; simp, HBn⟩
       case measure => simp [intOf]; omega
      ·go_wp2_with fail
       go_roundw
       case rel => exact ⟨j + 1, by omega, by go_num, by rw [HLT.out]; simp, HBn⟩
       case measure => simp [intOf]; omega
     ·have d2 : (xc == (ch : Int)) = false := beq_eq_false_iff_ne.2 e2
      have HLT : Hid (lostB (ls.take (j + 1)) i ch tn = lo) := hide (by rw [HLS.out, decide_eq_false e2]; simp)
      clear e1 e2
      go_wp2_with fail
      go_roundw
      case rel => exact ⟨j + 1, by omega, by go_num, by rw [HLT.out], HBn⟩
      case measure => simp [intOf]; omega
    ·have d1 : (xs == (i : Int)) = false := beq_eq_false_iff_ne.2 e1
     have HLT : Hid (lostB (ls.take (j + 1)) i ch tn = lo) := hide (by rw [HLS.out, decide_eq_false e1]; simp)
     clear e1
     go_wp2_with fail
     go_roundw
     case rel => exact ⟨j + 1, by omega, by go_num, by rw [HLT.out], HBn⟩
     case measure => simp [intOf]; omega
   ·obtain rfl : j = nl1 := by omega
    go_wp2_with fail
    go_meet
    case rel => exact ⟨by rw [← HN1.out, List.take_length], HB⟩
 case rest =>
  obtain ⟨rfl, HB⟩ := hcut
  obtain ⟨w2, rfl⟩ : ∃ w2, w2 = wc := ⟨_, rfl⟩
  have HD2 := hide (HD.out.below HB.out)
  obtain ⟨lo, hlo⟩ : ∃ lo, lostB ls i ch tn = lo := ⟨_, rfl⟩
  have HLO := hide hlo
  rw [hlo]
  clear hlo
  by_cases hcm : (ok && !lo) = false
  ·rw [hcm]
   have HCM : Hid (cameB fr ls i ch tn = false) := hide (by
    unfold cameB
    rw [HLO.out]
    cases hok : ok
    ·rw [HFR.out.no hok]; rfl
    ·rw [hok] at hcm; simp at hcm; rw [hcm]; simp)
   have HQ2 := HQ
   rw [HCM.out] at HQ2
   simp only [Bool.false_eq_true, if_false] at HQ2
   clear hcm HQ
   go_wp2_with fail
   refine HQ2.out _ _ _ _ _ _ _ _ _ _ _ _ _ _ _ _ _ _ _ _ _ _ _ _ _ _ _ _ _ _ _ _ _ _ _ _ _ _ _ _ _ _ _ _ _ _ _ _ _ _ _ _ _ _ _ _ _ _ _ _ _ _ _ _ _ _ _ _ _ _ _ _ _ _ _ _ _ _ _ _ _ _ _ _ _ _ _ _ _ _ _ _ _ _ _ _ _ _ ?_
   unfold chanO
   cases fr <;> exact HD2.out
  ·have hcm : (ok && !lo) = true := by cases h : (ok && !lo); exact absurd h hcm; rfl
   rw [hcm]
   have hok : ok = true := by cases ok; cases hcm; rfl
   have hlo : lo = false := by cases lo; rfl; rw [hok] at hcm; cases hcm
   subst hok
   subst hlo
   obtain ⟨f, rfl, hfm, hfl, hfs, hfd⟩ := HFR.out.yes rfl
   have HCM : Hid (cameB (some f) ls i ch tn = true) := hide (by unfold cameB; rw [HLO.out]; rfl)
   have HQ2 := HQ
   rw [HCM.out] at HQ2
   simp only [if_true] at HQ2
   clear hcm HQ
   have HFM := hide hfm; have HFL := hide hfl; have HFS := hide hfs; have HFD := hide hfd
   clear hfm hfl hfs hfd
   have x0 : w2.cell? ⟨xb, 0, none⟩ = some (.int .i64 node) := (HD2.out.blk HXb.out HX.out).cell 0
   obtain ⟨nd, hnd⟩ : ∃ nd, p.nd.toNat = nd := ⟨_, rfl⟩
   have HND := hide hnd
   obtain ⟨bn, on, cn, gm, k12, kn, -, hJ, -, -, -⟩ := HD2.out.nod HP.out HOK.out (by omega) HMM.out htn
   have hjg : judgeG p.nd.toNat (cc.mm tn).m node T = judgeV (cc.mm tn).m node T := judgeG_in (HMM.out tn) hnode
   obtain ⟨jv, hjv⟩ : ∃ jv, judgeV (cc.mm tn).m node T = jv := ⟨_, rfl⟩
   have HJV := hide hjv
   have HJ : Hid (∀ n, Calls Tryz.prog 52 #[.pointer (some ⟨gm, 0, none⟩), .int .i64 node, .int .i64 T] (w2.drewN n) fun e w' => e = .returned (.int .i64 jv) ∧ w' = w2.drewN n) := hide (fun n => by rw [← hjv, ← hjg]; exact hJ _ _ _ (below_drewN (Below.refl _ _) n))
   rw [hnd] at k12 htn hnode
   rw [hjv] at HQ2
   clear hJ hjg hjv hnd
   go_wp2_with fail
   go_quiet ((go_at_call 52; (with_reducible exact Calls.quiet_of_same (HJ.out _))))
   obtain ⟨w3, hw3⟩ : ∃ w3, w2.drewN nq = w3 := ⟨_, rfl⟩
   have HB3 : Hid (Below w2.heap.size w2 w3) := hide (by rw [← hw3]; exact below_drewN (Below.refl _ _) nq)
   rw [hw3]
   have HD3 := hide (HD2.out.below HB3.out)
   clear hw3 x0 k12 kn
   go_wp2_with fail
   rcases HLKS.out with hneg | ⟨kk, lnk, hkk, hlk⟩
   ·have d1 : decide ((0 : Int) ≤ lk) = false := decide_eq_false (by omega)
    have HE := hide (chan_neg p tn (f := f) cc (by rw [HFL.out]; exact hneg))
    clear hneg
    go_quiet (fail)
    go_wp2_with fail
    refine HQ2.out _ _ _ _ _ _ _ _ _ _ _ _ _ _ _ _ _ _ _ _ _ _ _ _ _ _ _ _ _ _ _ _ _ _ _ _ _ _ _ _ _ _ _ _ _ _ _ _ _ _ _ _ _ _ _ _ _ _ _ _ _ _ _ _ _ _ _ _ _ _ _ _ _ _ _ _ _ _ _ _ _ _ _ _ _ _ _ _ _ _ _ _ _ _ _ _ _ _ ?_
    show DsG _ _ _ _ _ _ _ (chanF p tn f cc) _ _ _
    rw [HE.out]
    exact HD3.out.below (below_drewN (Below.refl _ _) _)
   ·subst hkk
    have hkl : kk < p.lk.length := (List.getElem?_eq_some_iff.1 hlk).1
    obtain ⟨nl, hnl⟩ : ∃ nl, p.lk.length = nl := ⟨_, rfl⟩
    have HLk := hide hlk; have HKL := hide hkl
    have d1 : decide ((0 : Int) ≤ (kk : Int)) = true := decide_eq_true (by omega)
    have hkl15 : kk < 9223372036854775807 := by have := HP.out.lk; omega
    obtain ⟨bl, ol, hAL, lnk2, hl2, _, kt, _⟩ := (hL0 HL.out h0 HD3.out.bel) kk hkl
    obtain rfl : lnk2 = lnk := by rw [hlk] at hl2; cases hl2; rfl
    obtain ⟨ck, ndv, lkv, tm0, pm0, hcl⟩ := HD3.out.cells
    obtain ⟨-, -, -, -, -, -, k7, -⟩ := rcl_cells hcl
    simp only [hAL, hnl] at k7
    rw [hnl] at hkl
    have HALe := hide hAL; have HNL := hide hnl
    clear hlk hl2 hAL hnl hcl
    have hlko := HP.out.link kk lnk2 HLk.out
    obtain ⟨t, ht⟩ : ∃ t : Nat, lnk2.t = (t : Int) := Int.eq_ofNat_of_zero_le (by have := hlko.2.2.1; omega)
    have ht16 : t < 65536 := by
     have h2 : (2 : Nat) ^ p.nd.toNat ≤ 2 ^ 16 := Nat.pow_le_pow_right (by omega) (by have := HP.out.n16; omega)
     have h3 := hlko.2.2.2.1
     rw [ht] at h3
     have h4 : t < 2 ^ p.nd.toNat := by exact_mod_cast h3
     omega
    have hbit : bitB lnk2.t tn = t.testBit tn := by
     unfold bitB
     rw [ht, bit_one t tn ht16]
     cases t.testBit tn <;> rfl
    have hand := and_pow_ne t tn ht16 (by omega)
    rw [ht] at kt
    have HTN := hide ht
    obtain ⟨bb, hbb⟩ : ∃ bb, t.testBit tn = bb := ⟨_, rfl⟩
    rw [hbb] at hand hbit
    have HBIT := hide hbit
    obtain ⟨zz, hzz⟩ : ∃ zz, wrap64 (2 ^ tn) = zz := ⟨_, rfl⟩
    rw [hzz] at hand
    obtain ⟨aa, haa⟩ : ∃ aa, bits .and .i64 (t : Int) zz = aa := ⟨_, rfl⟩
    rw [haa] at hand
    clear hlko ht ht16 hbit hbb
    cases bb
    ·have HE := hide (chan_bit p tn (f := f) cc HFL.out HLk.out HBIT.out)
     simp only [Bool.not_false] at hand
     have hand2 : (aa != 0) = false := by unfold bne; rw [hand]; rfl
     go_quiet (fail)
     go_wp2_with fail
     refine HQ2.out _ _ _ _ _ _ _ _ _ _ _ _ _ _ _ _ _ _ _ _ _ _ _ _ _ _ _ _ _ _ _ _ _ _ _ _ _ _ _ _ _ _ _ _ _ _ _ _ _ _ _ _ _ _ _ _ _ _ _ _ _ _ _ _ _ _ _ _ _ _ _ _ _ _ _ _ _ _ _ _ _ _ _ _ _ _ _ _ _ _ _ _ _ _ _ _ _ _ ?_
     show DsG _ _ _ _ _ _ _ (chanF p tn f cc) _ _ _
     rw [HE.out]
     exact HD3.out.below (below_drewN (Below.refl _ _) _)
    ·have HE := hide (chan_take (tn := tn) (f := f) (c := cc) HFL.out HLk.out HBIT.out)
     simp only [Bool.not_true] at hand
     have hand2 : (aa != 0) = true := by unfold bne; rw [hand]; rfl
     have htn2 : tn < p.nd.toNat := by rw [HND.out]; exact htn
     obtain ⟨tm, gk, k14, hlook, htake⟩ := HD3.out.tak2 HOK.out (by omega) HKL.out htn2
     obtain ⟨tb, htb⟩ : ∃ tb, takeB sq (cc.tk kk tn).nw = tb := ⟨_, rfl⟩
     have HTB := hide htb
     have hl0 := hlook w3 (Below.refl _ _)
     have hl1 : (Instr.lookup 80 (.map (some tm)) (.agg #[.int .i64 (kk : Int), .int .i64 (tn : Int)]) false).run Tryz.prog w3.drew = .ok (.pointer (some ⟨gk, 0, none⟩)) w3.drew := hlook w3.drew (below_drewN (Below.refl _ _) 1)
     have HT : Hid (∀ q', Calls Tryz.prog 53 #[.pointer (some ⟨gk, 0, none⟩), .int .i64 sq] (w3.drewN q') fun e w' => e = .returned (.bool tb) ∧ Hid (DsG w0 w' base g p ⟨.slice AS p.sl.length cs, .slice AL p.lk.length cl, q⟩ fy { cc with tk := upd2 cc.tk kk tn ((cc.tk kk tn).take sq) } M W1 bs) ∧ (w'.cell? ⟨g, 7, none⟩ = some (.slice (some ⟨bl, ol, none⟩) nl cl) ∧ w'.cell? ⟨bl, ol + kk * 4 + 1, none⟩ = some (.int .i64 (t : Int)) ∧ w'.cell? ⟨g, 14, none⟩ = some (.map (some tm)) ∧ (Instr.lookup 80 (.map (some tm)) (.agg #[.int .i64 (kk : Int), .int .i64 (tn : Int)]) false).run Tryz.prog w' = .ok (.pointer (some ⟨gk, 0, none⟩)) w')) := hide (fun q' => by
      refine (htake (w3.drewN q') sq (below_drewN (Below.refl _ _) q')).mono ?_
      rintro e w' ⟨rfl, h1, h7, h14, hlk⟩
      rw [htb]
      refine ⟨rfl, hide h1, ?_, ?_, h14, hlk w' (Below.refl _ _)⟩
      ·rw [h7]
       show some (Value.slice AL p.lk.length cl) = _
       rw [HALe.out, HNL.out]
      ·obtain ⟨b', o', e', x', h1', _, h3', _⟩ := (hL0 HL.out h0 h1.bel) kk HKL.out
       rw [HALe.out] at e'; cases e'
       rw [HLk.out] at h1'; cases h1'
       rw [h3', HTN.out])
     clear hlook htake htb
     have hzw : IntKind.i64.wrap (2 ^ tn) = zz := by rw [wrap_pow tn (by omega)]; exact hzz
     go_region_held3 (fun w' => w'.cell? ⟨g, 7, none⟩ = some (.slice (some ⟨bl, ol, none⟩) nl cl) ∧ w'.cell? ⟨bl, ol + kk * 4 + 1, none⟩ = some (.int .i64 (t : Int)) ∧ w'.cell? ⟨g, 14, none⟩ = some (.map (some tm)) ∧ (Instr.lookup 80 (.map (some tm)) (.agg #[.int .i64 (kk : Int), .int .i64 (tn : Int)]) false).run Tryz.prog w' = .ok (.pointer (some ⟨gk, 0, none⟩)) w') (first | exact ⟨k7, kt, k14, hl0⟩ | exact ⟨k7, kt, k14, hl1⟩ | exact S7.out)
      (first | (go_at_call 53; go_must (refine (HT.out 1).mono ?_); rintro e w7 ⟨rfl, H7, S7⟩; replace S7 := hide S7))
     clear S7
     clear k7 kt k14 hl0 hl1 HT hzw hzz haa hand hand2
     cases tb
     ·go_wp2_with fail
      refine HQ2.out _ _ _ _ _ _ _ _ _ _ _ _ _ _ _ _ _ _ _ _ _ _ _ _ _ _ _ _ _ _ _ _ _ _ _ _ _ _ _ _ _ _ _ _ _ _ _ _ _ _ _ _ _ _ _ _ _ _ _ _ _ _ _ _ _ _ _ _ _ _ _ _ _ _ _ _ _ _ _ _ _ _ _ _ _ _ _ _ _ _ _ _ _ _ _ _ _ _ ?_
      show DsG _ _ _ _ _ _ _ (chanF p tn f cc) _ _ _
      rw [HE.out, HFS.out, HTB.out, if_neg (by decide)]
      exact H7.out
     ·obtain ⟨pm, v, k15, hQ, hlk, hup⟩ := H7.out.prt2 kk tn
      have hQ : QAt w7 base 9 v (sv (cc.pr kk tn).q) := hQ
      obtain ⟨ao, cp, rfl, hlc⟩ := hQ.shape
      rw [sv_len] at hQ hlk hlc
      obtain ⟨m, hm⟩ : ∃ m, (cc.pr kk tn).q.length = m := ⟨_, rfl⟩
      rw [hm] at hlk hlc hQ
      have hm16 : m ≤ 16 := by rw [← hm]; have := HOK.out.pr kk tn; omega
      have HM := hide hm
      have hl2 : (Instr.lookup 81 (.map (some pm)) (.agg #[.int .i64 (kk : Int), .int .i64 (tn : Int)]) false).run Tryz.prog w7 = .ok (.slice ao m cp) w7 := hlk w7 (Below.refl _ _)
      have hd40 := HFR.out.d
      by_cases hmm : m < 16
      ·have d4 : decide ((m : Int) < 16) = true := decide_eq_true (by omega)
       have HUP := hide hup; have HQ3 := hide hQ
       clear hup hQ hlk
       go_wp2_with fail
       refine port_reg (c := { cc with tk := upd2 cc.tk kk tn ((cc.tk kk tn).take sq) }) w0 w7 W1 H7.out.size kk tn pm m cp ao d hmm hd40 HM.out k15 HQ3.out HUP.out _ _ _ _ _ _ _ _ _ _ _ _ _ _ _ _ _ _ _ _ _ _ _ _ _ _ _ _ _ _ _ _ _ _ _ _ _ _ _ _ _ _ _ _ _ _ _ _ _ _ _ _ _ _ _ _ _ _ _ _ _ _ _ _ _ _ _ _ _ _ _ _ _ _ _ _ _ _ _ _ _ _ _ _ _ _ _ _ _ _ _ _ _ _ _ _ _ _ _ _ _ _ _ _ _ _ _ _ _ _ _ _ _ _ _ _ _ _ _ _ _ _ _ _ _ _ _ _ _ _ _ _ _ _ _ _ _ _ _ _ _ _ _ _ _ _ _ _ _ _ _ _ _ _ _ _ _ _ _ _ _ _ _ _ _ _ _ _ _ _ _ _ _ _ _ _ _ _ _ _ _ _ _ _ _ _ _ _ _ _ _ _ _ _ _ _ _ _ _ _ _ _ _ _ _ _ _ _ _ _ _ _ _ _ _ _ _ _ _ _ _ _ _ _ _ _ _ _ _ _ _ _ _ _ _ _ _ _ _ _ _ _ _ _ _ _ _ _ _ _ _ _ _ _ _ _ _ _ _ _ _ _ _ _ _ _ _ _ _ _ _ _ _ _ _ _ _ _ _ _ _ _ _ _ _ _ _ _ _ _ _ _ _ _ _ _ _ _ _ _ _ _ _ _ _ _ _ _ _ _ _ _ _ _ _ _ _ _ _ _ _ _ _ _ _ _ _ _ _ _ _ _ _ _ _ _ _ _ _ _ _ _ _ _ _ _ _ _ _ _ _ _ _ _ _ _ _ _ _ _ _ _ _ _ _ _ _ _ _ _ _ _ _ _ _ _ _ _ _ _ _ _ _ _ _ _ _ _ _ _ _ _ _ _ _ _ _ _ _ _ _ _ _ _ _ _ _ _ _ _ _ _ _ _ _ _ _ _ _ _ _ _ _ _ _ _ _ _ _ _ _ _ _ _ _ _ _ _ _ _ _ _ _ _ _ _ _ (fun v414 v415 v416 v417 v418 v419 v420 v421 v422 v423 v424 v425 v426 w' hd' => ?_)
       go_wp2_with fail
       refine HQ2.out _ _ _ _ _ _ _ _ _ _ _ _ _ _ _ _ _ _ _ _ _ _ _ _ _ _ _ _ _ _ _ _ _ _ _ _ _ _ _ _ _ _ _ _ _ _ _ _ _ _ _ _ _ _ _ _ _ _ _ _ _ _ _ _ _ _ _ _ _ _ _ _ _ _ _ _ _ _ _ _ _ _ _ _ _ _ _ _ _ _ _ _ _ _ _ _ _ _ ?_
       show DsG _ _ _ _ _ _ _ (chanF p tn f cc) _ _ _
       rw [HE.out, HFS.out, HTB.out, if_pos rfl, HFD.out]
       exact hd'
      ·have d4 : decide ((m : Int) < 16) = false := decide_eq_false (by omega)
       go_wp2_with fail
       refine HQ2.out _ _ _ _ _ _ _ _ _ _ _ _ _ _ _ _ _ _ _ _ _ _ _ _ _ _ _ _ _ _ _ _ _ _ _ _ _ _ _ _ _ _ _ _ _ _ _ _ _ _ _ _ _ _ _ _ _ _ _ _ _ _ _ _ _ _ _ _ _ _ _ _ _ _ _ _ _ _ _ _ _ _ _ _ _ _ _ _ _ _ _ _ _ _ _ _ _ _ ?_
       show DsG _ _ _ _ _ _ _ (chanF p tn f cc) _ _ _
       rw [HE.out, HFS.out, HTB.out, if_pos rfl]
       refine H7.out.lost _ (fun k i => ?_)
       show (upd2 cc.pr kk tn _ k i).q = (cc.pr k i).q
       unfold upd2
       split
       ·rename_i e
        obtain ⟨rfl, rfl⟩ := e
        rw [HFD.out]
        exact pr_full _ _ hd40 (by rw [HM.out]; omega)
       ·rfl
end
end Go.Proofs.YtdogdlnaacimpaaGreatDoor
