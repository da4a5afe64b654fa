/- The document's cluster's Play: a link of a node that sends; conditions: the cluster, and the links, lie in memory. -/
import Derived.Test.YtdogdlnaacimpaaGreatDoorP26
set_option linter.unusedVariables false
set_option linter.unusedSimpArgs false
namespace Go.Proofs.YtdogdlnaacimpaaGreatDoor
section
open Go Go.RowKit
attribute [local irreducible] liesB hearCh hearsF loadsF chanF lostB judgeV takeB putE whatV cameK sdE sdN
set_option maxRecDepth 1000000 in
set_option maxHeartbeats 8000000 in
theorem link_body {Q : Exit → Act → World → Prop} (w0 w W1 : World) {base g : Nat} {p : Pl} {fy : Nat} {c1 cc : Cl} {M : Nat} {q : Value} {AS AL : Option Addr} {cs cl nl : Nat} {bs : List Nat} (hD : DsG w0 w base g p ⟨.slice AS p.sl.length cs, .slice AL p.lk.length cl, q⟩ fy cc M W1 bs) (hp : PlOk p) (hM : M < 1000) (hL : LinksAt w0 AL p.lk.length p.lk) (h0 : w0.heap.size ≤ base) (hnl : p.lk.length = nl)
 (xb : Nat) (hxb : xb ∈ bs) (node k : Nat) (sf : Int) (st : Value) (hX : Blk W1 xb 100 #[.int .i64 node, .int .i64 sf, st]) (hk : k < nl)
 (ok : Bool) (lk sq : Int) (d : ByteArray) (R pr Mv now : Int) (hR : cc.rd = R) (hpr : p.rd = pr) (hMv : R * pr = Mv) (hnow : Mv + sf = now) (hb1 : 0 ≤ Mv ∧ Mv ≤ 4611686018427387904) (hb2 : 0 ≤ now ∧ now ≤ 4611686018427387904)
 (hLD : LdOk p ok now node c1 cc k lk sq d)
 (u1 u2 u3 u4 u5 u6 u7 u8 u9 u10 u11 u12 u13 u14 u15 u16 u17 u18 u19 u20 u21 u23 u24 u26 u30 u31 u32 u33 u34 u35 u36 u37 u38 u39 u40 u41 u42 u43 u44 u45 u46 u47 u48 u49 u50 u51 u52 u53 u54 u55 u56 u57 u58 u59 u60 u61 u62 u63 u64 u65 u66 u67 u68 u69 u70 u71 u72 u73 u74 u75 u76 u77 u78 u79 u80 u81 u82 u83 u84 u85 u86 u87 u88 u89 u90 u91 u92 u93 u94 u95 u96 u97 u98 u99 u100 u101 u102 u103 u104 u105 u106 u107 u108 u109 u110 u111 u112 u113 u114 u115 u116 u117 u118 u119 u120 u121 u122 u123 u124 u125 u126 u127 u128 u129 u130 u131 u132 u133 u134 u135 u136 u137 u138 u139 u140 u141 u142 u143 u144 u145 u146 u147 u148 u149 u150 u151 u152 u153 u154 u155 u156 u157 u158 u159 u160 u161 u162 u163 u164 u165 u166 u167 u168 u169 u170 u171 u172 u173 u174 u175 u176 u177 u178 u179 u180 u181 u182 u183 u184 u185 u186 u187 u188 u189 u190 u191 u192 u193 u194 u195 u196 u197 u198 u199 u200 u201 u202 u203 u204 u205 u206 u207 u208 u209 u210 u211 u212 u213 u214 u215 u216 u217 u218 u219 u220 u221 u222 u223 u224 u225 u226 u227 u228 u229 u230 u231 u232 u233 u234 u235 u236 u237 u238 u239 u240 u241 u242 u243 u244 u245 u246 u247 u248 u249 u250 u251 u252 u253 u254 u255 u256 u257 u258 u259 u260 u261 u262 u263 u264 u265 u266 u267 u268 u269 u270 u271 u273 u275 u276 u277 u278 u279 u280 u281 u282 u283 u284 u285 u286 u287 u288 u289 u290 u291 u292 u293 u294 u295 u296 u297 u298 u299 u300 u301 u302 u303 u304 u305 u306 u307 u308 u309 u310 u311 u312 u313 u314 u315 u316 u317 u318 u319 u320 u321 u322 u323 u324 u325 u326 u327 u328 u329 u330 u331 u332 u333 u334 u335 u336 u337 u338 u339 u340 u341 u342 u343 u344 u345 u346 u347 u348 u349 u350 u351 u352 u353 u354 u355 u356 u357 u358 u359 u360 u361 u362 u363 u364 u365 u366 u367 u368 u369 u370 u371 u372 u373 u374 u375 u376 u377 u378 u379 u380 u381 u382 u383 u384 u385 u386 u387 u388 u389 u390 u391 u392 u393 u394 u395 u396 u397 u398 u399 u400 u401 u402 u403 u404 u405 u406 u407 u408 u409 u410 u411 u412 u413 u414 u415 u416 u417 u418 u419 u420 u421 u422 u423 u424 u425 u426 u427 u428 u429 u430 u431 u432 u433 u434 u435 u436 u437 u438 u439 u440 u441 u442 u443 u444 u445 u446 u447 u448 u449 u450 u451 : Value)
 (hQ : ∀ (v30 v31 v32 v33 v34 v276 v277 v278 v279 v280 v281 v282 v283 v284 v285 v286 v287 v288 v289 v290 v291 v292 v293 v294 v295 v296 v297 v298 v299 v300 v301 v302 v303 v304 v305 v306 v307 v308 v309 v310 v311 v312 v313 v314 v315 v316 v317 v318 v319 v320 v321 v322 : Value) (w' : World) (c2 : Cl) (lk2 sq2 : Int) (d2 : ByteArray), DsG w0 w' base g p ⟨.slice AS p.sl.length cs, .slice AL p.lk.length cl, q⟩ fy c2 M W1 bs → LdOk p ok now node c1 c2 (k + 1) lk2 sq2 d2 → c2.rd = R → Q .normal ⟨#[.pointer (some ⟨g, 0, none⟩), u1, u2, u3, u4, u5, u6, u7, u8, u9, u10, u11, u12, u13, u14, u15, u16, u17, u18, u19, u20, u21, .pointer (some ⟨xb, 0, none⟩), u23, u24, .bool ok, u26, .int .i64 lk2, .int .i64 sq2, .string d2, v30, v31, v32, v33, v34, u35, u36, u37, u38, u39, u40, u41, u42, u43, u44, u45, u46, u47, u48, u49, u50, u51, u52, u53, u54, u55, u56, u57, u58, u59, u60, u61, u62, u63, u64, u65, u66, u67, u68, u69, u70, u71, u72, u73, u74, u75, u76, u77, u78, u79, u80, u81, u82, u83, u84, u85, u86, u87, u88, u89, u90, u91, u92, u93, u94, u95, u96, u97, u98, u99, u100, u101, u102, u103, u104, u105, u106, u107, u108, u109, u110, u111, u112, u113, u114, u115, u116, u117, u118, u119, u120, u121, u122, u123, u124, u125, u126, u127, u128, u129, u130, u131, u132, u133, u134, u135, u136, u137, u138, u139, u140, u141, u142, u143, u144, u145, u146, u147, u148, u149, u150, u151, u152, u153, u154, u155, u156, u157, u158, u159, u160, u161, u162, u163, u164, u165, u166, u167, u168, u169, u170, u171, u172, u173, u174, u175, u176, u177, u178, u179, u180, u181, u182, u183, u184, u185, u186, u187, u188, u189, u190, u191, u192, u193, u194, u195, u196, u197, u198, u199, u200, u201, u202, u203, u204, u205, u206, u207, u208, u209, u210, u211, u212, u213, u214, u215, u216, u217, u218, u219, u220, u221, u222, u223, u224, u225, u226, u227, u228, u229, u230, u231, u232, u233, u234, u235, u236, u237, u238, u239, u240, u241, u242, u243, u244, u245, u246, u247, u248, u249, u250, u251, u252, u253, u254, u255, u256, u257, u258, u259, u260, u261, u262, u263, u264, u265, u266, u267, u268, u269, u270, u271, .slice AL nl cl, u273, .int .i64 k, u275, v276, v277, v278, v279, v280, v281, v282, v283, v284, v285, v286, v287, v288, v289, v290, v291, v292, v293, v294, v295, v296, v297, v298, v299, v300, v301, v302, v303, v304, v305, v306, v307, v308, v309, v310, v311, v312, v313, v314, v315, v316, v317, v318, v319, v320, v321, v322, u323, u324, u325, u326, u327, u328, u329, u330, u331, u332, u333, u334, u335, u336, u337, u338, u339, u340, u341, u342, u343, u344, u345, u346, u347, u348, u349, u350, u351, u352, u353, u354, u355, u356, u357, u358, u359, u360, u361, u362, u363, u364, u365, u366, u367, u368, u369, u370, u371, u372, u373, u374, u375, u376, u377, u378, u379, u380, u381, u382, u383, u384, u385, u386, u387, u388, u389, u390, u391, u392, u393, u394, u395, u396, u397, u398, u399, u400, u401, u402, u403, u404, u405, u406, u407, u408, u409, u410, u411, u412, u413, u414, u415, u416, u417, u418, u419, u420, u421, u422, u423, u424, u425, u426, u427, u428, u429, u430, u431, u432, u433, u434, u435, u436, u437, u438, u439, u440, u441, u442, u443, u444, u445, u446, u447, u448, u449, u450, u451], []⟩ w') :
 Code.wp Tryz.prog (plB 11) Q ⟨#[.pointer (some ⟨g, 0, none⟩), u1, u2, u3, u4, u5, u6, u7, u8, u9, u10, u11, u12, u13, u14, u15, u16, u17, u18, u19, u20, u21, .pointer (some ⟨xb, 0, none⟩), u23, u24, .bool ok, u26, .int .i64 lk, .int .i64 sq, .string d, u30, u31, u32, u33, u34, u35, u36, u37, u38, u39, u40, u41, u42, u43, u44, u45, u46, u47, u48, u49, u50, u51, u52, u53, u54, u55, u56, u57, u58, u59, u60, u61, u62, u63, u64, u65, u66, u67, u68, u69, u70, u71, u72, u73, u74, u75, u76, u77, u78, u79, u80, u81, u82, u83, u84, u85, u86, u87, u88, u89, u90, u91, u92, u93, u94, u95, u96, u97, u98, u99, u100, u101, u102, u103, u104, u105, u106, u107, u108, u109, u110, u111, u112, u113, u114, u115, u116, u117, u118, u119, u120, u121, u122, u123, u124, u125, u126, u127, u128, u129, u130, u131, u132, u133, u134, u135, u136, u137, u138, u139, u140, u141, u142, u143, u144, u145, u146, u147, u148, u149, u150, u151, u152, u153, u154, u155, u156, u157, u158, u159, u160, u161, u162, u163, u164, u165, u166, u167, u168, u169, u170, u171, u172, u173, u174, u175, u176, u177, u178, u179, u180, u181, u182, u183, u184, u185, u186, u187, u188, u189, u190, u191, u192, u193, u194, u195, u196, u197, u198, u199, u200, u201, u202, u203, u204, u205, u206, u207, u208, u209, u210, u211, u212, u213, u214, u215, u216, u217, u218, u219, u220, u221, u222, u223, u224, u225, u226, u227, u228, u229, u230, u231, u232, u233, u234, u235, u236, u237, u238, u239, u240, u241, u242, u243, u244, u245, u246, u247, u248, u249, u250, u251, u252, u253, u254, u255, u256, u257, u258, u259, u260, u261, u262, u263, u264, u265, u266, u267, u268, u269, u270, u271, .slice AL nl cl, u273, .int .i64 k, u275, u276, u277, u278, u279, u280, u281, u282, u283, u284, u285, u286, u287, u288, u289, u290, u291, u292, u293, u294, u295, u296, u297, u298, u299, u300, u301, u302, u303, u304, u305, u306, u307, u308, u309, u310, u311, u312, u313, u314, u315, u316, u317, u318, u319, u320, u321, u322, u323, u324, u325, u326, u327, u328, u329, u330, u331, u332, u333, u334, u335, u336, u337, u338, u339, u340, u341, u342, u343, u344, u345, u346, u347, u348, u349, u350, u351, u352, u353, u354, u355, u356, u357, u358, u359, u360, u361, u362, u363, u364, u365, u366, u367, u368, u369, u370, u371, u372, u373, u374, u375, u376, u377, u378, u379, u380, u381, u382, u383, u384, u385, u386, u387, u388, u389, u390, u391, u392, u393, u394, u395, u396, u397, u398, u399, u400, u401, u402, u403, u404, u405, u406, u407, u408, u409, u410, u411, u412, u413, u414, u415, u416, u417, u418, u419, u420, u421, u422, u423, u424, u425, u426, u427, u428, u429, u430, u431, u432, u433, u434, u435, u436, u437, u438, u439, u440, u441, u442, u443, u444, u445, u446, u447, u448, u449, u450, u451], []⟩ w := by
 have hnl8 := hp.lk
 rw [hnl] at hnl8
 have HD := hide hD; have HP := hide hp; have HL := hide hL; have HX := hide hX; have HQ := hide hQ; have HXb := hide hxb; have HLD := hide hLD; have HNL := hide hnl; have HRD := hide hR; have HPR := hide hpr
 have e1 : IntKind.i64.wrap (R * pr) = Mv := by rw [hMv]; exact IntWalk.i64_in _ (by omega)
 have e2 : IntKind.i64.wrap (Mv + sf) = now := by rw [hnow]; exact IntWalk.i64_in _ (by omega)
 obtain ⟨bl, ol, hAL, l, hl, kf, kt, kb, kq⟩ := (hL0 hL h0 hD.bel) k (by rw [hnl]; exact hk)
 have HLk := hide hl
 have hxlt : xb < w.heap.size := hD.lt_ hxb
 have x0 : w.cell? ⟨xb, 0, none⟩ = some (.int .i64 node) := (hD.blk hxb hX).cell 0
 subst hAL
 clear hD hp hL hX hQ hxb hLD hnl hR hpr hMv hnow hl
 conv => arg 2; whnf
 have HBA := hide ((Below.refl w.heap.size w).alloc (Nat.le_refl _) (.cells #[.int .i64 l.f, .int .i64 l.t, .int .i64 l.b, .int .i64 l.q] 54))
 cases ok
 ·go_wp2_with fail
  skip
  exact HQ.out _ _ _ _ _ _ _ _ _ _ _ _ _ _ _ _ _ _ _ _ _ _ _ _ _ _ _ _ _ _ _ _ _ _ _ _ _ _ _ _ _ _ _ _ _ _ _ _ _ _ _ _ _ cc lk sq d (HD.out.below HBA.out) (HLD.out.skip HLk.out (.inl rfl)) HRD.out
 ·by_cases hlk : 0 ≤ lk
  ·have d1 : decide ((0 : Int) ≤ lk) = true := decide_eq_true hlk
   have HS := hide (HLD.out.skip HLk.out (.inr (.inl hlk)))
   clear hlk
   go_wp2_with fail
   skip
   exact HQ.out _ _ _ _ _ _ _ _ _ _ _ _ _ _ _ _ _ _ _ _ _ _ _ _ _ _ _ _ _ _ _ _ _ _ _ _ _ _ _ _ _ _ _ _ _ _ _ _ _ _ _ _ _ cc lk sq d (HD.out.below HBA.out) HS.out HRD.out
  ·have d1 : decide ((0 : Int) ≤ lk) = false := decide_eq_false hlk
   by_cases hf : l.f = (node : Int)
   ·have d2 : (l.f != (node : Int)) = false := by simpa using hf
    have HF := hide hf; have HLN := hide hlk
    clear hf hlk
    go_wp2_with fail
    clear kf kt kb kq x0 hxlt
    obtain ⟨wA, hwA⟩ : ∃ wA, w.alloc (.cells #[.int .i64 l.f, .int .i64 l.t, .int .i64 l.b, .int .i64 l.q] 54) = wA := ⟨_, rfl⟩
    rw [hwA] at HBA ⊢
    have HDA := hide (HD.out.below HBA.out)
    clear hwA
    obtain ⟨b, off, cp, gs, k13, kn, hSN⟩ := HDA.out.send2 HP.out hM HLk.out
    have hrest : ∀ X c', DsG w0 X base g p ⟨.slice AS p.sl.length cs, .slice (some ⟨bl, ol, none⟩) p.lk.length cl, q⟩ fy c' M W1 bs → c'.rd = R → X.cell? ⟨g, 16, none⟩ = some (.int .i64 R) ∧ X.cell? ⟨g, 5, none⟩ = some (.int .i64 pr) ∧ X.cell? ⟨xb, 1, none⟩ = some (.int .i64 sf) := fun X c' h e => by
     obtain ⟨ck, ndv, lkv, tm0, pm0, hcl⟩ := h.cells
     obtain ⟨-, -, -, -, k5, -, -, -, -, -, -, -, -, k16⟩ := rcl_cells hcl
     rw [HPR.out] at k5
     rw [e] at k16
     exact ⟨k16, k5, (h.blk HXb.out HX.out).cell 1⟩
    obtain ⟨k16, k5, x1⟩ := hrest wA cc HDA.out HRD.out
    rw [HNL.out] at k13
    obtain ⟨er, her⟩ : ∃ er, sdE now (cc.sd k).la (cc.sd k).nw l.b (cc.sd k).q.length = er := ⟨_, rfl⟩
    have HER := hide her
    obtain ⟨dd, hdd⟩ : ∃ dd, (cc.sd k).q.headD ⟨#[]⟩ = dd := ⟨_, rfl⟩
    rw [hdd] at hSN
    have hS1 : er ≠ 0 → Hid (∀ q', Calls Tryz.prog 51 #[.pointer (some ⟨gs, 0, none⟩), .int .i64 now] (wA.drewN q') fun e w' => e = .returned (.tuple #[.int .i64 0, .string ⟨#[]⟩, .int .i64 er]) ∧ Hid (DsG w0 w' base g p ⟨.slice AS p.sl.length cs, .slice (some ⟨bl, ol, none⟩) p.lk.length cl, q⟩ fy { cc with sd := updF cc.sd k (sdNo now l (cc.sd k)) } M W1 bs) ∧ (w'.cell? ⟨g, 13, none⟩ = some (.slice (some ⟨b, off, none⟩) nl cp) ∧ w'.cell? ⟨b, off + k, none⟩ = some (.pointer (some ⟨gs, 0, none⟩)) ∧ w'.cell? ⟨g, 16, none⟩ = some (.int .i64 R) ∧ w'.cell? ⟨g, 5, none⟩ = some (.int .i64 pr) ∧ w'.cell? ⟨xb, 1, none⟩ = some (.int .i64 sf))) := fun hne => hide (fun q' => by
     refine (hSN (wA.drewN q') now (below_drewN (Below.refl _ _) q')).mono ?_
     rintro e w' ⟨⟨-, rfl, h1⟩ | ⟨h0, -⟩, h13, hn'⟩
     ·rw [her]
      rw [HNL.out] at h13
      have h2 := hrest w' _ h1 HRD.out
      exact ⟨rfl, hide h1, h13, hn', h2.1, h2.2.1, h2.2.2⟩
     ·exact absurd (her.symm.trans h0) hne)
    have hS2 : er = 0 → Hid (∀ q', Calls Tryz.prog 51 #[.pointer (some ⟨gs, 0, none⟩), .int .i64 now] (wA.drewN q') fun e w' => e = .returned (.tuple #[.int .i64 (cc.sd k).nx, .string dd, .int .i64 0]) ∧ Hid (DsG w0 w' base g p ⟨.slice AS p.sl.length cs, .slice (some ⟨bl, ol, none⟩) p.lk.length cl, q⟩ fy { cc with sd := updF cc.sd k (sdGo now (cc.sd k)) } M W1 bs) ∧ (w'.cell? ⟨g, 13, none⟩ = some (.slice (some ⟨b, off, none⟩) nl cp) ∧ w'.cell? ⟨b, off + k, none⟩ = some (.pointer (some ⟨gs, 0, none⟩)) ∧ w'.cell? ⟨g, 16, none⟩ = some (.int .i64 R) ∧ w'.cell? ⟨g, 5, none⟩ = some (.int .i64 pr) ∧ w'.cell? ⟨xb, 1, none⟩ = some (.int .i64 sf))) := fun h0 => hide (fun q' => by
     refine (hSN (wA.drewN q') now (below_drewN (Below.refl _ _) q')).mono ?_
     rintro e w' ⟨⟨hne, -⟩ | ⟨-, rfl, h1⟩, h13, hn'⟩
     ·exact absurd (her.trans h0) hne
     ·rw [HNL.out] at h13
      have h2 := hrest w' _ h1 HRD.out
      exact ⟨rfl, hide h1, h13, hn', h2.1, h2.2.1, h2.2.2⟩)
    clear hSN her hrest
    by_cases h0 : er = 0
    ·have HS2 := hS2 h0
     have HS := hide (HLD.out.some_ HLk.out rfl (by have := HLN.out; omega) HF.out (HER.out.trans h0))
     rw [hdd] at HS
     clear hdd
     clear hS1 hS2
     subst h0
     go_region_held3 (fun w' => w'.cell? ⟨g, 13, none⟩ = some (.slice (some ⟨b, off, none⟩) nl cp) ∧ w'.cell? ⟨b, off + k, none⟩ = some (.pointer (some ⟨gs, 0, none⟩)) ∧ w'.cell? ⟨g, 16, none⟩ = some (.int .i64 R) ∧ w'.cell? ⟨g, 5, none⟩ = some (.int .i64 pr) ∧ w'.cell? ⟨xb, 1, none⟩ = some (.int .i64 sf)) (first | exact ⟨k13, kn, k16, k5, x1⟩ | exact S7.out)
      (first | (go_at_call 51; go_must (refine (HS2.out 1).mono ?_); rintro e w7 ⟨rfl, H7, S7⟩; replace S7 := hide S7))
     clear S7 k13 kn k16 k5 x1
     go_wp2_with fail
     exact HQ.out _ _ _ _ _ _ _ _ _ _ _ _ _ _ _ _ _ _ _ _ _ _ _ _ _ _ _ _ _ _ _ _ _ _ _ _ _ _ _ _ _ _ _ _ _ _ _ _ _ _ _ _ _ _ _ _ _ H7.out HS.out HRD.out
    ·have HS1 := hS1 h0
     have HS := hide (HLD.out.none_ HLk.out rfl (by have := HLN.out; omega) HF.out (fun h => h0 (HER.out.symm.trans h)))
     clear hdd
     have d3 : (er == 0) = false := beq_eq_false_iff_ne.2 h0
     clear hS1 hS2
     go_region_held3 (fun w' => w'.cell? ⟨g, 13, none⟩ = some (.slice (some ⟨b, off, none⟩) nl cp) ∧ w'.cell? ⟨b, off + k, none⟩ = some (.pointer (some ⟨gs, 0, none⟩)) ∧ w'.cell? ⟨g, 16, none⟩ = some (.int .i64 R) ∧ w'.cell? ⟨g, 5, none⟩ = some (.int .i64 pr) ∧ w'.cell? ⟨xb, 1, none⟩ = some (.int .i64 sf)) (first | exact ⟨k13, kn, k16, k5, x1⟩ | exact S7.out)
      (first | (go_at_call 51; go_must (refine (HS1.out 1).mono ?_); rintro e w7 ⟨rfl, H7, S7⟩; replace S7 := hide S7))
     clear S7 k13 kn k16 k5 x1
     go_wp2_with fail
     exact HQ.out _ _ _ _ _ _ _ _ _ _ _ _ _ _ _ _ _ _ _ _ _ _ _ _ _ _ _ _ _ _ _ _ _ _ _ _ _ _ _ _ _ _ _ _ _ _ _ _ _ _ _ _ _ _ _ _ _ H7.out HS.out HRD.out
   ·have d2 : (l.f != (node : Int)) = true := by simpa using hf
    have HS := hide (HLD.out.skip HLk.out (.inr (.inr hf)))
    clear hf hlk
    go_wp2_with fail
    skip
    exact HQ.out _ _ _ _ _ _ _ _ _ _ _ _ _ _ _ _ _ _ _ _ _ _ _ _ _ _ _ _ _ _ _ _ _ _ _ _ _ _ _ _ _ _ _ _ _ _ _ _ _ _ _ _ _ cc lk sq d (HD.out.below HBA.out) HS.out HRD.out
end
end Go.Proofs.YtdogdlnaacimpaaGreatDoor
