/- The document's cluster's Play: what is sent is heard (Hears), and where the nodes lie stays; plain facts; conditions: none. -/
import Derived.Test.YtdogdlnaacimpaaGreatDoorP25
import Derived.Test.YtdogdlnaacimpaaGreatDoorP11
set_option linter.unusedVariables false
set_option linter.unusedSimpArgs false
namespace Go.Proofs.YtdogdlnaacimpaaGreatDoor
section
open Go Go.RowKit
attribute [local irreducible] liesB putE putQ
section
variable {w0 w w' w1 : World} {base g : Nat} {p : Pl} {P : Sv3} {fy M : Nat} {c : Cl} {bs : List Nat}
/-- A node hears; behind it the nodes' places stay. -/
theorem DsG.hear2 (h : DsG w0 w base g p P fy c M w1 bs) (hp : PlOk p) {N : Nat} (hc : ClOk p N c) (hN : N ≤ 1000000) {i : Nat} (hi : i < p.nd.toNat) : ∃ b off cp gm, w.cell? ⟨g, 12, none⟩ = some (.slice (some ⟨b, off, none⟩) p.nd.toNat cp) ∧ w.cell? ⟨b, off + i, none⟩ = some (.pointer (some ⟨gm, 0, none⟩)) ∧
 (∀ (W : World) (fr : Nat) (what : Int), Below w.heap.size w W → fr < p.nd.toNat → fr ≠ i → 0 ≤ what ∧ what ≤ 2 → Calls Tryz.prog 54 #[.pointer (some ⟨gm, 0, none⟩), .int .i64 fr, .int .i64 what] W fun e w' => e = .returned (.tuple #[]) ∧ DsG w0 w' base g p P fy { c with mm := updF c.mm i ((c.mm i).hear fr what) } M w1 bs ∧
  w'.cell? ⟨g, 12, none⟩ = some (.slice (some ⟨b, off, none⟩) p.nd.toNat cp) ∧ w'.cell? ⟨b, off + i, none⟩ = some (.pointer (some ⟨gm, 0, none⟩))) := by
 obtain ⟨a, rfl, h2, h3, h4, h5⟩ := h
 have hn := hp.n16
 have hn1 := hp.n1
 obtain ⟨b, off, cp, e, hcell⟩ := h2.nodC (i := i) hi
 obtain ⟨-, -, -, -, -, -, -, -, -, k12, -⟩ := rcl_cells h2.cluB
 rw [e] at k12
 have hmm := hc.mm i
 have hf : (dshape base a (fullN p) p P fy c (.nod i)).foot = [a.gm i, a.gt i] := by
  have : i < (fullN p).nm := hi
  simp [dshape, this, GO.mem]
 have hgc : a.g ∈ (dshape base a (fullN p) p P fy c .clu).foot := by simp [dshape, GO.blk]
 have hbc : b ∈ (dshape base a (fullN p) p P fy c .nodA).foot := by simp [dshape, GO.arr, e, Value.ownBlock]
 have hg1 : ¬ a.g ∈ [a.gm i, a.gt i] := fun hm => absurd (h2.fam.sep (.nod i) .clu a.g (by rw [hf]; exact hm) hgc) (by simp)
 have hb1 : ¬ b ∈ [a.gm i, a.gt i] := fun hm => absurd (h2.fam.sep (.nod i) .nodA b (by rw [hf]; exact hm) hbc) (by simp)
 refine ⟨b, off, cp, a.gm i, k12, hcell, fun W fr what hB hf hfi hw => ?_⟩
 have q1 := h2.below hB
 have q2 := h3.trans (hB.mono h4)
 have q3 := Nat.le_trans h4 hB.size
 have q4 : ∀ b ∈ bs, b < W.heap.size ∧ ¬ Gmy (dshape base a (fullN p) p P fy c) b ∧ W.heap[b]? = w1.heap[b]? := fun b hb => ⟨Nat.lt_of_lt_of_le (h5 b hb).1 hB.size, (h5 b hb).2.1, (hB.block b (h5 b hb).1).trans (h5 b hb).2.2⟩
 obtain ⟨n1, n2, n3⟩ := q1.nodB (i := i) hi
 have k12' := (hB.cell (p := ⟨a.g, 12, none⟩) (World.block_lt_of_cell? _ _ k12)).trans k12
 have kn' := (hB.cell (p := ⟨b, off + i, none⟩) (World.block_lt_of_cell? _ _ hcell)).trans hcell
 refine (rhears_any (a.gm i) (a.gt i) i p.nd.toNat (c.mm i).m (c.mm i).gd (c.mm i).bd (c.mm i).fz W fr what n1 n2 n3 (by omega) (by omega) hmm.2.1 (by omega) hmm.2.2.2.1 (by omega)).mono ?_
 rintro e w' ⟨rfl, hr⟩
 obtain ⟨s1, s2, s3, s4⟩ := mm_hear (c.mm i) (id := i) (n := p.nd.toNat) hf hfi hw
 have hk := hr.2.2.toL
 refine ⟨rfl, .ofTo rfl q1 q2 q3 q4 (q1.nodTo hi ((c.mm i).hear fr what) (by rw [s1, s2, s3, s4]; exact hr) q3), ?_, ?_⟩
 ·exact (cell_heap (hk.block a.g (World.block_lt_of_cell? _ _ k12') hg1) 12).trans k12'
 ·exact (cell_heap (hk.block b (World.block_lt_of_cell? _ _ kn') hb1) (off + i)).trans kn'
end
theorem MmOk.ch {p : Pl} {c : Cl} (h : MmOk p c) (tn slot : Nat) (fr : Option FrR) (ls : List Ls) (k : Nat) : MmOk p (hearCh p tn slot fr ls c k) := fun i => by rw [hearCh_mm]; exact h i
theorem what_next {fr : Option FrR} {T : Nat} (hT : ∀ f, fr = some f → f.mb = (T : Int)) (m node slot tn : Nat) (ls : List Ls) (k : Nat) :
 (if cameB fr ls slot k tn = true then judgeV m node T else whatV m node fr (cameK fr ls slot tn k)) = whatV m node fr (cameK fr ls slot tn (k + 1)) := by
 show _ = whatV m node fr (cameK fr ls slot tn k || cameB fr ls slot k tn)
 cases fr with
 | none => simp [cameB, whatV]
 | some f =>
  have e : f.mb.toNat = T := by rw [hT f rfl]; simp
  cases hb : cameB (some f) ls slot k tn
  ·simp
  ·simp [whatV, e]
theorem hearCh_next (p : Pl) (tn slot : Nat) (fr : Option FrR) (ls : List Ls) (c : Cl) (k : Nat) : chanO p tn fr (cameB fr ls slot k tn) (hearCh p tn slot fr ls c k) = hearCh p tn slot fr ls c (k + 1) := rfl
end
section
open Go Go.RowKit
attribute [local irreducible] liesB hearCh hearsF loadsF chanF lostB judgeV takeB putE whatV cameK
set_option maxRecDepth 1000000 in
set_option maxHeartbeats 8000000 in
theorem to_body {Q : Exit → Act → World → Prop} (w0 w W1 : World) {base g : Nat} {p : Pl} {fy : Nat} {cc : Cl} {N M : Nat} {q : Value} {AS AL : Option Addr} {cs cl : Nat} {bs : List Nat} (hD : DsG w0 w base g p ⟨.slice AS p.sl.length cs, .slice AL p.lk.length cl, q⟩ fy cc M W1 bs) (hp : PlOk p) (hc : ClOk p N cc) (hN : N + 4 ≤ 900000) (hmm : MmOk p cc) (hL : LinksAt w0 AL p.lk.length p.lk) (h0 : w0.heap.size ≤ base)
 (A : Option Addr) (c1 nl1 : Nat) (ls : List Ls) (hn1 : ls.length = nl1) (hm1 : nl1 ≤ 9223372036854775807) (hA : LossAt W1 A ls) (hAb : ∀ x, A = some x → x.block ∈ bs) (xb : Nat) (hxb : xb ∈ bs) (node tn i : Nat) (sf st : Value) (hX : Blk W1 xb 100 #[.int .i64 node, sf, st]) (hnode : node < p.nd.toNat) (htn : tn < p.nd.toNat) (hi : i ≤ 100)
 (fr : Option FrR) (ok : Bool) (T : Nat) (lk sq : Int) (d : ByteArray) (hT : T < 65536) (hfr : FrIs fr ok T lk sq d) (hlk : lk < 0 ∨ ∃ (k : Nat) (l : Lk), lk = (k : Int) ∧ p.lk[k]? = some l)
 (u2 u3 u4 u5 u6 u7 u8 u9 u10 u11 u12 u13 u14 u15 u16 u17 u18 u19 u20 u23 u26 u30 u31 u32 u33 u34 u35 u36 u37 u38 u39 u40 u41 u42 u43 u44 u45 u46 u47 u48 u49 u50 u51 u52 u53 u54 u55 u56 u57 u58 u59 u60 u61 u62 u63 u64 u65 u66 u67 u68 u69 u70 u71 u72 u73 u74 u75 u76 u77 u78 u79 u80 u81 u82 u83 u84 u85 u86 u87 u88 u89 u90 u91 u92 u93 u94 u95 u96 u97 u98 u99 u100 u101 u102 u103 u104 u105 u106 u107 u108 u109 u110 u111 u112 u113 u114 u115 u116 u117 u118 u119 u120 u121 u122 u123 u124 u125 u126 u127 u128 u129 u130 u131 u132 u133 u134 u135 u136 u137 u138 u139 u140 u141 u142 u143 u144 u145 u146 u147 u148 u149 u150 u151 u152 u153 u154 u155 u156 u157 u158 u159 u160 u161 u162 u163 u164 u165 u166 u167 u168 u169 u170 u171 u172 u173 u174 u175 u176 u177 u178 u179 u180 u181 u182 u183 u184 u185 u186 u187 u188 u189 u190 u191 u192 u193 u194 u195 u196 u197 u198 u199 u200 u201 u202 u203 u204 u205 u206 u207 u208 u209 u210 u211 u212 u213 u214 u215 u216 u217 u218 u219 u220 u221 u222 u223 u224 u225 u226 u227 u228 u229 u230 u231 u232 u233 u234 u235 u236 u237 u238 u239 u240 u241 u242 u243 u244 u245 u246 u247 u248 u249 u250 u251 u252 u253 u254 u255 u256 u257 u258 u259 u260 u261 u262 u263 u264 u265 u266 u267 u268 u269 u270 u271 u272 u273 u274 u275 u276 u277 u278 u279 u280 u281 u282 u283 u284 u285 u286 u287 u288 u289 u290 u291 u292 u293 u294 u295 u296 u297 u298 u299 u300 u301 u302 u303 u304 u305 u306 u307 u308 u309 u310 u311 u312 u313 u314 u315 u316 u317 u318 u319 u320 u321 u322 u323 u324 u326 u327 u328 u329 u330 u331 u332 u333 u334 u335 u336 u337 u338 u339 u340 u341 u342 u343 u344 u345 u346 u347 u348 u349 u350 u351 u352 u353 u354 u355 u356 u357 u358 u359 u360 u361 u362 u363 u364 u365 u366 u367 u368 u369 u370 u371 u372 u373 u374 u375 u376 u377 u378 u379 u380 u381 u382 u383 u384 u385 u386 u387 u388 u389 u390 u391 u392 u393 u394 u395 u396 u397 u398 u399 u400 u401 u402 u403 u404 u405 u406 u407 u408 u409 u410 u411 u412 u413 u414 u415 u416 u417 u418 u419 u420 u421 u422 u423 u424 u425 u426 u427 u428 u429 u430 u431 u432 u433 u434 u435 u436 u437 u438 u439 u440 u441 u442 u443 u444 u445 u446 u447 u448 u449 u450 u451 : Value)
 (hQ : ∀ (v35 v36 v37 v38 v40 v41 v327 v328 v329 v330 v331 v332 v333 v334 v335 v336 v337 v338 v339 v340 v341 v342 v343 v344 v345 v346 v347 v348 v349 v350 v351 v352 v353 v354 v355 v356 v357 v358 v359 v360 v361 v362 v363 v364 v365 v366 v367 v368 v369 v370 v371 v372 v373 v374 v375 v376 v377 v378 v379 v380 v381 v382 v383 v384 v385 v386 v387 v388 v389 v390 v391 v392 v393 v394 v395 v396 v397 v398 v399 v400 v401 v402 v403 v404 v405 v406 v407 v408 v409 v410 v411 v412 v413 v414 v415 v416 v417 v418 v419 v420 v421 v422 v423 v424 v425 v426 v427 v428 v429 v430 v431 v432 v433 v434 v435 v436 v437 v438 : Value) (w' : World), DsG w0 w' base g p ⟨.slice AS p.sl.length cs, .slice AL p.lk.length cl, q⟩ fy (if tn = node then cc else hearsF p node tn i fr ls cc) M W1 bs → Q .normal ⟨#[.pointer (some ⟨g, 0, none⟩), .slice A nl1 c1, u2, u3, u4, u5, u6, u7, u8, u9, u10, u11, u12, u13, u14, u15, u16, u17, u18, u19, u20, .int .i64 i, .pointer (some ⟨xb, 0, none⟩), u23, .int .i64 T, .bool ok, u26, .int .i64 lk, .int .i64 sq, .string d, u30, u31, u32, u33, u34, v35, v36, v37, v38, u39, v40, v41, u42, u43, u44, u45, u46, u47, u48, u49, u50, u51, u52, u53, u54, u55, u56, u57, u58, u59, u60, u61, u62, u63, u64, u65, u66, u67, u68, u69, u70, u71, u72, u73, u74, u75, u76, u77, u78, u79, u80, u81, u82, u83, u84, u85, u86, u87, u88, u89, u90, u91, u92, u93, u94, u95, u96, u97, u98, u99, u100, u101, u102, u103, u104, u105, u106, u107, u108, u109, u110, u111, u112, u113, u114, u115, u116, u117, u118, u119, u120, u121, u122, u123, u124, u125, u126, u127, u128, u129, u130, u131, u132, u133, u134, u135, u136, u137, u138, u139, u140, u141, u142, u143, u144, u145, u146, u147, u148, u149, u150, u151, u152, u153, u154, u155, u156, u157, u158, u159, u160, u161, u162, u163, u164, u165, u166, u167, u168, u169, u170, u171, u172, u173, u174, u175, u176, u177, u178, u179, u180, u181, u182, u183, u184, u185, u186, u187, u188, u189, u190, u191, u192, u193, u194, u195, u196, u197, u198, u199, u200, u201, u202, u203, u204, u205, u206, u207, u208, u209, u210, u211, u212, u213, u214, u215, u216, u217, u218, u219, u220, u221, u222, u223, u224, u225, u226, u227, u228, u229, u230, u231, u232, u233, u234, u235, u236, u237, u238, u239, u240, u241, u242, u243, u244, u245, u246, u247, u248, u249, u250, u251, u252, u253, u254, u255, u256, u257, u258, u259, u260, u261, u262, u263, u264, u265, u266, u267, u268, u269, u270, u271, u272, u273, u274, u275, u276, u277, u278, u279, u280, u281, u282, u283, u284, u285, u286, u287, u288, u289, u290, u291, u292, u293, u294, u295, u296, u297, u298, u299, u300, u301, u302, u303, u304, u305, u306, u307, u308, u309, u310, u311, u312, u313, u314, u315, u316, u317, u318, u319, u320, u321, u322, u323, u324, .int .i64 tn, u326, v327, v328, v329, v330, v331, v332, v333, v334, v335, v336, v337, v338, v339, v340, v341, v342, v343, v344, v345, v346, v347, v348, v349, v350, v351, v352, v353, v354, v355, v356, v357, v358, v359, v360, v361, v362, v363, v364, v365, v366, v367, v368, v369, v370, v371, v372, v373, v374, v375, v376, v377, v378, v379, v380, v381, v382, v383, v384, v385, v386, v387, v388, v389, v390, v391, v392, v393, v394, v395, v396, v397, v398, v399, v400, v401, v402, v403, v404, v405, v406, v407, v408, v409, v410, v411, v412, v413, v414, v415, v416, v417, v418, v419, v420, v421, v422, v423, v424, v425, v426, v427, v428, v429, v430, v431, v432, v433, v434, v435, v436, v437, v438, u439, u440, u441, u442, u443, u444, u445, u446, u447, u448, u449, u450, u451], []⟩ w') :
 Code.wp Tryz.prog (plB 13) Q ⟨#[.pointer (some ⟨g, 0, none⟩), .slice A nl1 c1, u2, u3, u4, u5, u6, u7, u8, u9, u10, u11, u12, u13, u14, u15, u16, u17, u18, u19, u20, .int .i64 i, .pointer (some ⟨xb, 0, none⟩), u23, .int .i64 T, .bool ok, u26, .int .i64 lk, .int .i64 sq, .string d, u30, u31, u32, u33, u34, u35, u36, u37, u38, u39, u40, u41, u42, u43, u44, u45, u46, u47, u48, u49, u50, u51, u52, u53, u54, u55, u56, u57, u58, u59, u60, u61, u62, u63, u64, u65, u66, u67, u68, u69, u70, u71, u72, u73, u74, u75, u76, u77, u78, u79, u80, u81, u82, u83, u84, u85, u86, u87, u88, u89, u90, u91, u92, u93, u94, u95, u96, u97, u98, u99, u100, u101, u102, u103, u104, u105, u106, u107, u108, u109, u110, u111, u112, u113, u114, u115, u116, u117, u118, u119, u120, u121, u122, u123, u124, u125, u126, u127, u128, u129, u130, u131, u132, u133, u134, u135, u136, u137, u138, u139, u140, u141, u142, u143, u144, u145, u146, u147, u148, u149, u150, u151, u152, u153, u154, u155, u156, u157, u158, u159, u160, u161, u162, u163, u164, u165, u166, u167, u168, u169, u170, u171, u172, u173, u174, u175, u176, u177, u178, u179, u180, u181, u182, u183, u184, u185, u186, u187, u188, u189, u190, u191, u192, u193, u194, u195, u196, u197, u198, u199, u200, u201, u202, u203, u204, u205, u206, u207, u208, u209, u210, u211, u212, u213, u214, u215, u216, u217, u218, u219, u220, u221, u222, u223, u224, u225, u226, u227, u228, u229, u230, u231, u232, u233, u234, u235, u236, u237, u238, u239, u240, u241, u242, u243, u244, u245, u246, u247, u248, u249, u250, u251, u252, u253, u254, u255, u256, u257, u258, u259, u260, u261, u262, u263, u264, u265, u266, u267, u268, u269, u270, u271, u272, u273, u274, u275, u276, u277, u278, u279, u280, u281, u282, u283, u284, u285, u286, u287, u288, u289, u290, u291, u292, u293, u294, u295, u296, u297, u298, u299, u300, u301, u302, u303, u304, u305, u306, u307, u308, u309, u310, u311, u312, u313, u314, u315, u316, u317, u318, u319, u320, u321, u322, u323, u324, .int .i64 tn, u326, u327, u328, u329, u330, u331, u332, u333, u334, u335, u336, u337, u338, u339, u340, u341, u342, u343, u344, u345, u346, u347, u348, u349, u350, u351, u352, u353, u354, u355, u356, u357, u358, u359, u360, u361, u362, u363, u364, u365, u366, u367, u368, u369, u370, u371, u372, u373, u374, u375, u376, u377, u378, u379, u380, u381, u382, u383, u384, u385, u386, u387, u388, u389, u390, u391, u392, u393, u394, u395, u396, u397, u398, u399, u400, u401, u402, u403, u404, u405, u406, u407, u408, u409, u410, u411, u412, u413, u414, u415, u416, u417, u418, u419, u420, u421, u422, u423, u424, u425, u426, u427, u428, u429, u430, u431, u432, u433, u434, u435, u436, u437, u438, u439, u440, u441, u442, u443, u444, u445, u446, u447, u448, u449, u450, u451], []⟩ w := by
 have hn16 := hp.n16
 have hn1' := hp.n1
 have hnd16 : tn < 16 := by omega
 have HD := hide hD; have HP := hide hp; have HOK := hide hc; have HMM := hide hmm; have HL := hide hL; have HA := hide hA; have HAb := hide hAb; have HX := hide hX; have HFR := hide hfr; have HQ := hide hQ; have HN1 := hide hn1; have HXb := hide hxb; have HLKS := hide hlk
 have HM1 := hide hm1
 have x0 : w.cell? ⟨xb, 0, none⟩ = some (.int .i64 node) := (hD.blk hxb hX).cell 0
 clear hD hp hc hmm hL hA hAb hX hfr hQ hn1 hxb hn16 hn1' hlk hm1
 conv => arg 2; whnf
 by_cases hne : tn = node
 ·have d0 : ((tn : Int) == (node : Int)) = true := by rw [hne]; exact beq_self_eq_true _
  have HQ2 := HQ
  rw [if_pos hne] at HQ2
  clear HQ hne
  go_wp2_with fail
  exact HQ2.out _ _ _ _ _ _ _ _ _ _ _ _ _ _ _ _ _ _ _ _ _ _ _ _ _ _ _ _ _ _ _ _ _ _ _ _ _ _ _ _ _ _ _ _ _ _ _ _ _ _ _ _ _ _ _ _ _ _ _ _ _ _ _ _ _ _ _ _ _ _ _ _ _ _ _ _ _ _ _ _ _ _ _ _ _ _ _ _ _ _ _ _ _ _ _ _ _ _ _ _ _ _ _ _ _ _ _ _ _ _ _ _ _ _ _ _ _ _ _ HD.out
 ·have d0 : ((tn : Int) == (node : Int)) = false := beq_eq_false_iff_ne.2 (by omega)
  have HQ2 := HQ
  rw [if_neg hne] at HQ2
  have HNE := hide hne
  have HWH : Hid (∀ k, (if cameB fr ls i k tn = true then judgeV (cc.mm tn).m node T else whatV (cc.mm tn).m node fr (cameK fr ls i tn k)) = whatV (cc.mm tn).m node fr (cameK fr ls i tn (k + 1))) := hide (fun k => what_next (fun f hf => by
   cases hok : ok
   ·have := HFR.out.no hok; rw [this] at hf; cases hf
   ·obtain ⟨f', e, h1, -⟩ := HFR.out.yes hok
    rw [e] at hf; cases hf; exact h1) _ _ _ _ _ k)
  have hw0 : whatV (cc.mm tn).m node fr (cameK fr ls i tn 0) = 0 := by unfold cameK whatV; cases fr <;> rfl
  clear HQ hne
  go_wp2_with fail
  go_loopw [36, 332] (fun v36 v332 wr => ∃ k : Nat, k ≤ 2 ∧ v332 = .int .i64 k ∧ v36 = .int .i64 (whatV (cc.mm tn).m node fr (cameK fr ls i tn k)) ∧ Hid (DsG w0 wr base g p ⟨.slice AS p.sl.length cs, .slice AL p.lk.length cl, q⟩ fy (hearCh p tn i fr ls cc k) M W1 bs)) (fun _ v _ => 2 - (intOf v).toNat)
  case atStart => exact ⟨0, by omega, rfl, by rw [hw0], hide (by unfold hearCh; exact HD.out)⟩
  case round =>
   obtain ⟨k, hk, rfl, rfl, HR⟩ := hrel
   by_cases hk2 : k < 2
   ·have HCK := hide (hearCh_ok HOK.out tn i fr ls k)
    have hmmk : (hearCh p tn i fr ls cc k).mm = cc.mm := hearCh_mm p tn i fr ls cc k
    have HWK := hide (HWH.out k)
    have HNX := hide (hearCh_next p tn i fr ls cc k)
    obtain ⟨wk, hwk⟩ : ∃ wk, whatV (cc.mm tn).m node fr (cameK fr ls i tn k) = wk := ⟨_, rfl⟩
    rw [hwk] at HWK ⊢
    have HMC := hide (HMM.out.ch tn i fr ls k)
    obtain ⟨c2, hc2⟩ : ∃ c2, hearCh p tn i fr ls cc k = c2 := ⟨_, rfl⟩
    rw [hc2] at HR HCK HNX HMC hmmk
    have HMK := hide hmmk
    clear hwk hc2 hmmk x0 hw0
    go_upto_block 15 with fail
    refine chan_body w0 wr W1 HR.out HP.out HCK.out (by omega) HMC.out HL.out h0 A c1 nl1 ls HN1.out HM1.out HA.out HAb.out xb HXb.out node tn i k sf st HX.out hnode htn hi hk2 fr ok T lk sq d hT HFR.out HLKS.out wk _ _ _ _ _ _ _ _ _ _ _ _ _ _ _ _ _ _ _ _ _ _ _ _ _ _ _ _ _ _ _ _ _ _ _ _ _ _ _ _ _ _ _ _ _ _ _ _ _ _ _ _ _ _ _ _ _ _ _ _ _ _ _ _ _ _ _ _ _ _ _ _ _ _ _ _ _ _ _ _ _ _ _ _ _ _ _ _ _ _ _ _ _ _ _ _ _ _ _ _ _ _ _ _ _ _ _ _ _ _ _ _ _ _ _ _ _ _ _ _ _ _ _ _ _ _ _ _ _ _ _ _ _ _ _ _ _ _ _ _ _ _ _ _ _ _ _ _ _ _ _ _ _ _ _ _ _ _ _ _ _ _ _ _ _ _ _ _ _ _ _ _ _ _ _ _ _ _ _ _ _ _ _ _ _ _ _ _ _ _ _ _ _ _ _ _ _ _ _ _ _ _ _ _ _ _ _ _ _ _ _ _ _ _ _ _ _ _ _ _ _ _ _ _ _ _ _ _ _ _ _ _ _ _ _ _ _ _ _ _ _ _ _ _ _ _ _ _ _ _ _ _ _ _ _ _ _ _ _ _ _ _ _ _ _ _ _ _ _ _ _ _ _ _ _ _ _ _ _ _ _ _ _ _ _ _ _ _ _ _ _ _ _ _ _ _ _ _ _ _ _ _ _ _ _ _ _ _ _ _ _ _ _ _ _ _ _ _ _ _ _ _ _ _ _ _ _ _ _ _ _ _ _ _ _ _ _ _ _ _ _ _ _ _ _ _ _ _ _ _ _ _ _ _ _ _ _ _ _ _ _ _ _ _ _ _ _ _ _ _ _ _ _ _ _ _ _ _ _ _ _ _ _ _ _ _ _ _ _ _ _ _ _ _ _ _ _ _ _ _ _ _ _ _ _ _ _ _ _ _ _ _ _ _ _ _ _ _ _ _ _ _ _ _ _ _ _ _ _ _ _ _ _ _ _ _ _ _ _ _ (fun v37 v38 v40 v41 v334 v335 v336 v337 v338 v339 v340 v341 v342 v343 v344 v345 v346 v347 v348 v349 v350 v351 v352 v353 v354 v355 v356 v357 v358 v359 v360 v361 v362 v363 v364 v365 v366 v367 v368 v369 v370 v371 v372 v373 v374 v375 v376 v377 v378 v379 v380 v381 v382 v383 v384 v385 v386 v387 v388 v389 v390 v391 v392 v393 v394 v395 v396 v397 v398 v399 v400 v401 v402 v403 v404 v405 v406 v407 v408 v409 v410 v411 v412 v413 v414 v415 v416 v417 v418 v419 v420 v421 v422 v423 v424 v425 v426 w' hd' => ?_)
    rw [HNX.out] at hd'
    have HR2 := hide hd'
    rw [HMK.out, HWK.out]
    clear hd'
    go_wp2_with fail
    go_roundw
    case rel => exact ⟨k + 1, by omega, by go_num, rfl, HR2⟩
    case measure => simp [intOf]; omega
   ·obtain rfl : k = 2 := by omega
    obtain ⟨bn, on, cn, gm, k12, kn, hH⟩ := HR.out.hear2 HP.out (hearCh_ok HOK.out tn i fr ls 2) (by omega) htn
    have x0 : wr.cell? ⟨xb, 0, none⟩ = some (.int .i64 node) := (HR.out.blk HXb.out HX.out).cell 0
    obtain ⟨wk, hwk⟩ : ∃ wk, whatV (cc.mm tn).m node fr (cameK fr ls i tn 2) = wk := ⟨_, rfl⟩
    have hwi := what_in (cc.mm tn).m node fr (cameK fr ls i tn 2)
    have HF := hide (hearsF_ch p node tn i fr ls cc)
    rw [hwk] at hwi HF ⊢
    have HH : Hid (∀ q', Calls Tryz.prog 54 #[.pointer (some ⟨gm, 0, none⟩), .int .i64 node, .int .i64 wk] (wr.drewN q') fun e w' => e = .returned (.tuple #[]) ∧ Hid (DsG w0 w' base g p ⟨.slice AS p.sl.length cs, .slice AL p.lk.length cl, q⟩ fy (hearsF p node tn i fr ls cc) M W1 bs) ∧ (w'.cell? ⟨g, 12, none⟩ = some (.slice (some ⟨bn, on, none⟩) p.nd.toNat cn) ∧ w'.cell? ⟨bn, on + tn, none⟩ = some (.pointer (some ⟨gm, 0, none⟩)) ∧ w'.cell? ⟨xb, 0, none⟩ = some (.int .i64 node))) := hide (fun q' => by
     refine (hH (wr.drewN q') node wk (below_drewN (Below.refl _ _) q') hnode (fun e => HNE.out e.symm) hwi).mono ?_
     rintro e w' ⟨rfl, h1, h2, h3⟩
     exact ⟨rfl, hide (by rw [HF.out]; exact h1), h2, h3, (h1.blk HXb.out HX.out).cell 0⟩)
    obtain ⟨nd, hnd⟩ : ∃ nd, p.nd.toNat = nd := ⟨_, rfl⟩
    rw [hnd] at k12 HH htn
    clear hwk hwi hH hnd hw0 d0 hnode
    go_wp2_with fail
    go_region_held3 (fun w' => w'.cell? ⟨g, 12, none⟩ = some (.slice (some ⟨bn, on, none⟩) nd cn) ∧ w'.cell? ⟨bn, on + tn, none⟩ = some (.pointer (some ⟨gm, 0, none⟩)) ∧ w'.cell? ⟨xb, 0, none⟩ = some (.int .i64 node)) (first | exact ⟨k12, kn, x0⟩ | exact S7.out)
     (first | (go_at_call 54; go_must (refine (HH.out 1).mono ?_); rintro e w7 ⟨rfl, H7, S7⟩; replace S7 := hide S7))
    go_wp2_with fail
    exact HQ2.out _ _ _ _ _ _ _ _ _ _ _ _ _ _ _ _ _ _ _ _ _ _ _ _ _ _ _ _ _ _ _ _ _ _ _ _ _ _ _ _ _ _ _ _ _ _ _ _ _ _ _ _ _ _ _ _ _ _ _ _ _ _ _ _ _ _ _ _ _ _ _ _ _ _ _ _ _ _ _ _ _ _ _ _ _ _ _ _ _ _ _ _ _ _ _ _ _ _ _ _ _ _ _ _ _ _ _ _ _ _ _ _ _ _ _ _ _ _ _ H7.out
end
section
open Go Go.RowKit
attribute [local irreducible] liesB
section
variable {w0 w w' w1 : World} {base g : Nat} {p : Pl} {P : Sv3} {fy M : Nat} {c : Cl} {bs : List Nat}
/-- What a sender's Send leaves of it. -/
def sdNo (now : Int) (l : Lk) (s : Sd) : Sd := { s with nw := sdN (sdE now s.la s.nw l.b s.q.length) now s.nw }
def sdGo (now : Int) (s : Sd) : Sd := ⟨if s.nx + 1 = 256 then 1 else s.nx + 1, now, now, s.q.tail⟩
/-- A sender: where it lies, and its call; behind it the senders' places stay. -/
theorem DsG.send2 (h : DsG w0 w base g p P fy c M w1 bs) (hp : PlOk p) (hM : M < 1000) {k : Nat} {l : Lk} (hl : p.lk[k]? = some l) : ∃ b off cp gs, w.cell? ⟨g, 13, none⟩ = some (.slice (some ⟨b, off, none⟩) p.lk.length cp) ∧ w.cell? ⟨b, off + k, none⟩ = some (.pointer (some ⟨gs, 0, none⟩)) ∧
 (∀ W now, Below w.heap.size w W → Calls Tryz.prog 51 #[.pointer (some ⟨gs, 0, none⟩), .int .i64 now] W fun e w' =>
  ((sdE now (c.sd k).la (c.sd k).nw l.b (c.sd k).q.length ≠ 0 ∧ e = .returned (.tuple #[.int .i64 0, .string ⟨#[]⟩, .int .i64 (sdE now (c.sd k).la (c.sd k).nw l.b (c.sd k).q.length)]) ∧ DsG w0 w' base g p P fy { c with sd := updF c.sd k (sdNo now l (c.sd k)) } M w1 bs) ∨
  (sdE now (c.sd k).la (c.sd k).nw l.b (c.sd k).q.length = 0 ∧ e = .returned (.tuple #[.int .i64 (c.sd k).nx, .string ((c.sd k).q.headD ⟨#[]⟩), .int .i64 0]) ∧ DsG w0 w' base g p P fy { c with sd := updF c.sd k (sdGo now (c.sd k)) } M w1 bs)) ∧
  w'.cell? ⟨g, 13, none⟩ = some (.slice (some ⟨b, off, none⟩) p.lk.length cp) ∧ w'.cell? ⟨b, off + k, none⟩ = some (.pointer (some ⟨gs, 0, none⟩))) := by
 obtain ⟨a, rfl, h2, h3, h4, h5⟩ := h
 have hkl : k < p.lk.length := (List.getElem?_eq_some_iff.1 hl).1
 have hlk := hp.link k l hl
 obtain ⟨b, off, cp, e, hcell⟩ := h2.lnkC (k := k) (show k < (fullN p).ns from hkl)
 obtain ⟨-, -, -, -, -, -, -, -, -, -, k13, -⟩ := rcl_cells h2.cluB
 rw [e] at k13
 have hR := h2.rel.sd k hkl
 have hA := h2.rel.al k hkl
 have hf : (dshape base a (fullN p) p P fy c (.lnk k)).foot = a.gs k :: (a.vs k).ownBlock.toList := by
  have : k < (fullN p).ns := hkl
  simp [dshape, this, hl, GO.snd]
 have hgc : a.g ∈ (dshape base a (fullN p) p P fy c .clu).foot := by simp [dshape, GO.blk]
 have hbc : b ∈ (dshape base a (fullN p) p P fy c .lnkA).foot := by simp [dshape, GO.arr, e, Value.ownBlock]
 have hg1 : ¬ a.g ∈ a.gs k :: (a.vs k).ownBlock.toList := fun hm => absurd (h2.fam.sep (.lnk k) .clu a.g (by rw [hf]; exact hm) hgc) (by simp)
 have hb1 : ¬ b ∈ a.gs k :: (a.vs k).ownBlock.toList := fun hm => absurd (h2.fam.sep (.lnk k) .lnkA b (by rw [hf]; exact hm) hbc) (by simp)
 refine ⟨b, off, cp, a.gs k, k13, hcell, fun W now hB => ?_⟩
 have q1 := h2.below hB
 have q2 := h3.trans (hB.mono h4)
 have q3 := Nat.le_trans h4 hB.size
 have q4 : ∀ b ∈ bs, b < W.heap.size ∧ ¬ Gmy (dshape base a (fullN p) p P fy c) b ∧ W.heap[b]? = w1.heap[b]? := fun b hb => ⟨Nat.lt_of_lt_of_le (h5 b hb).1 hB.size, (h5 b hb).2.1, (hB.block b (h5 b hb).1).trans (h5 b hb).2.2⟩
 have k13' := (hB.cell (p := ⟨a.g, 13, none⟩) (World.block_lt_of_cell? _ _ k13)).trans k13
 have kn' := (hB.cell (p := ⟨b, off + k, none⟩) (World.block_lt_of_cell? _ _ hcell)).trans hcell
 have hcells : ∀ w', KeptL W w' (a.gs k :: (a.vs k).ownBlock.toList) → w'.cell? ⟨a.g, 13, none⟩ = some (.slice (some ⟨b, off, none⟩) p.lk.length cp) ∧ w'.cell? ⟨b, off + k, none⟩ = some (.pointer (some ⟨a.gs k, 0, none⟩)) := fun w' hk =>
  ⟨(cell_heap (hk.block a.g (World.block_lt_of_cell? _ _ k13') hg1) 13).trans k13', (cell_heap (hk.block b (World.block_lt_of_cell? _ _ kn') hb1) (off + k)).trans kn'⟩
 obtain ⟨n1, n2, n3, n4⟩ := q1.lnkB (show k < (fullN p).ns from hkl) hl
 have he := hR.err now l.b
 refine (rsend_any (a.gs k) base l.b l.q (a.vs k) (a.wt k) (a.ls k) (c.sd k).nw (a.al k) W now _ (hide he) n1 n2 n4 n3 hR.h0 (by omega) (by omega) hR.hw).mono ?_
 rintro r w' (⟨hne, rfl, hpost⟩ | ⟨h0, d, hd, rfl, hpost⟩)
 ·have hk : KeptL W w' (a.gs k :: (a.vs k).ownBlock.toList) := by obtain ⟨v', r1, r2, r3, r4⟩ := hpost; exact r3.toL
  exact ⟨.inl ⟨hne, rfl, .ofTo rfl q1 q2 q3 q4 (q1.lnkTo (show k < (fullN p).ns from hkl) hl (sdNo now l (c.sd k)) hpost hR.none_ (Nat.le_refl _) hA q3)⟩, hcells w' hk⟩
 ·have hk : KeptL W w' (a.gs k :: (a.vs k).ownBlock.toList) := by obtain ⟨v', r1, r2, r3, r4⟩ := hpost; exact r3.toL
  obtain ⟨d', q', hq, hd', hlt, hnx, hrel⟩ := hR.goes h0
  rw [hd'] at hd
  cases hd
  exact ⟨.inr ⟨h0, by rw [hq, hnx]; rfl, .ofTo rfl q1 q2 q3 q4 (q1.lnkTo (show k < (fullN p).ns from hkl) hl (sdGo now (c.sd k)) hpost (by show VsRel _ _ _ _ (c.sd k).q.tail _ _; rw [hq]; exact hrel) (Nat.le_refl _) hA q3)⟩, hcells w' hk⟩
end
end
end Go.Proofs.YtdogdlnaacimpaaGreatDoor
