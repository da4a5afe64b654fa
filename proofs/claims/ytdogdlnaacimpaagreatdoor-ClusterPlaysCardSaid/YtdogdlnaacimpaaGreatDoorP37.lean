/- The law ClusterPlays: its losses' and its readings' loops; conditions: as each says. -/
import Derived.Test.YtdogdlnaacimpaaGreatDoorP36
import Derived.Test.YtdogdlnaacimpaaGreatDoorP28
import Derived.Deep.RegionLaw
import Derived.BigRegion
set_option linter.unusedVariables false
set_option linter.unusedSimpArgs false
namespace Go.Proofs.YtdogdlnaacimpaaGreatDoor
section
open Go Go.RowKit
noncomputable def lwB (n : Nat) : Code := (Tryz.f6.body.bind (blockOf n)).getD .skip
noncomputable def lwR (n : Nat) : Code := (Tryz.f6.body.bind (regOf n)).getD .skip
theorem news3 {w : World} {b : Nat} {t : TypeId} {x y z : Value} (h : Blk w b t #[x, y, z]) : ∀ (j : Nat) (u : Value), [x, y, z][j]? = some u → w.cell? ((⟨b, 0, none⟩ : Addr).add j) = some u := by
 intro j u hu
 obtain ⟨k0, k1, k2⟩ := h.c3
 match j, hu with
 | 0, hu => simp at hu; subst hu; exact k0
 | 1, hu => simp at hu; subst hu; exact k1
 | 2, hu => simp at hu; subst hu; exact k2
 | j + 3, hu => simp at hu
theorem loss_info : (Tryz.prog.info? 72).map (fun i => (i.zero, i.size, i.bytes)) = some (some (.agg #[.int .i64 0, .int .i64 0, .int .i64 0]), 3, 24) := by kernel_rfl
theorem read_info : (Tryz.prog.info? 75).map (fun i => (i.zero, i.size, i.bytes)) = some (some (.agg #[.int .i64 0, .int .i64 0, .int .i64 0]), 3, 24) := by kernel_rfl
theorem own_grown3 {w w' : World} {b n : Nat} {e : TypeId} {v : Value} {xs : List Value} (h : w.ownsRow b e 3 v n xs) (hB : Below w.heap.size w w') : w'.ownsRow b e 3 v n xs := by
 refine ⟨h.1, ?_⟩
 rcases h.2 with h1 | ⟨g, cap, cur, h1, h2, h3, h4⟩
 ·exact .inl h1
 ·refine .inr ⟨g, cap, cur, h1, h2, ?_, h4⟩
  rw [hB.block g (by
   rcases Nat.lt_or_ge g w.heap.size with h5 | h5
   ·exact h5
   ·rw [Array.getElem?_eq_none h5] at h3; cases h3), h3]
set_option maxRecDepth 1000000 in
set_option maxHeartbeats 8000000 in
theorem conv1 {Q : Exit → Act → World → Prop} (W : World) (xr : Nat) (A1 : Option Addr) (l1 c1 : Nat) (s1 s2 s3 : Value) (ls : List Ls) (hn : ls.length = l1) (h200 : l1 ≤ 200) (hK : Blk W xr 35 #[.slice A1 l1 c1, s1, s2, s3]) (hA : LossAt W A1 ls)
 (u0 u1 u2 u3 u4 u5 u6 u7 u8 u9 u10 u11 u12 u13 u14 u17 u19 u20 u21 u22 u23 u24 u25 u26 u27 u28 u29 u30 u31 u32 u33 u34 u35 u36 u37 u38 u39 u40 u41 u42 u43 u44 u45 u46 u47 u48 u49 u50 u51 u52 u53 u54 u55 u56 u57 u58 u59 u60 u61 u62 u63 u64 u65 u66 u67 u68 u69 u70 u71 u72 u73 u74 u75 u76 u77 u78 u79 u80 u81 u82 u83 u84 u85 u86 u87 u88 u89 u90 u91 u92 u93 u94 u95 u96 u97 u98 u99 u100 u101 u102 u103 u104 u105 u106 u107 u108 u109 u110 u111 u112 u113 u114 u115 u116 u117 u118 u119 u120 u121 u122 u123 u124 u125 u126 u127 u128 u129 u130 u131 u132 u133 u134 u135 u136 u137 u138 u139 u140 u141 u142 u143 u144 u145 u146 u147 u148 u149 u150 u151 u152 u153 u154 u155 u156 u157 u158 u159 u160 u161 u162 u163 u164 u165 u166 u167 u168 u169 u170 u171 u172 u173 u174 u175 u176 u177 u178 u179 u180 u181 u182 u183 u184 u185 u186 u187 u188 u189 u190 u191 u192 u193 u194 u195 u196 u197 u198 u199 u200 u201 u202 u203 u204 u205 u206 u207 u208 u209 u210 u211 u212 u213 u214 u215 u216 u217 u218 u219 u220 u221 u222 u223 u224 u225 u226 u227 u228 u229 u230 u231 u232 u233 u234 u235 u236 u237 u238 u239 u240 u241 u242 u243 u244 u245 u246 u247 u248 u249 u250 u251 u252 u253 u254 u255 u256 u257 u258 u259 u260 u261 u262 u263 u264 u265 u266 u267 u268 u269 u270 u271 u272 u273 u274 u275 u276 u277 u278 u279 u280 u281 u282 u283 u284 u285 u286 u287 u288 u289 u290 u291 u292 u293 u294 u295 u296 u297 u298 u299 u300 u301 u302 u303 u304 u305 u306 u307 u308 u309 u310 u311 u312 u313 u314 u315 u316 u317 u318 u319 u320 u321 u322 u323 u324 u325 u326 u327 u328 : Value)
 (hQ : ∀ (v18 v113 v114 v115 v116 v117 v118 v119 v120 v121 v122 v123 v124 v125 v126 v127 v128 v129 v130 v131 v132 v133 v134 v135 v136 v137 v138 v139 v140 v141 : Value) (A : Option Addr) (cp : Nat) (w' : World), Below W.heap.size W w' → LossAt w' A ls → (∀ z, A = some z → W.heap.size ≤ z.block ∧ z.block < w'.heap.size) → Q .normal ⟨#[u0, u1, u2, u3, u4, u5, u6, u7, u8, u9, u10, u11, u12, u13, u14, .pointer (some ⟨xr, 0, none⟩), .slice A l1 cp, u17, v18, u19, u20, u21, u22, u23, u24, u25, u26, u27, u28, u29, u30, u31, u32, u33, u34, u35, u36, u37, u38, u39, u40, u41, u42, u43, u44, u45, u46, u47, u48, u49, u50, u51, u52, u53, u54, u55, u56, u57, u58, u59, u60, u61, u62, u63, u64, u65, u66, u67, u68, u69, u70, u71, u72, u73, u74, u75, u76, u77, u78, u79, u80, u81, u82, u83, u84, u85, u86, u87, u88, u89, u90, u91, u92, u93, u94, u95, u96, u97, u98, u99, u100, u101, u102, u103, u104, u105, u106, u107, u108, u109, u110, u111, u112, v113, v114, v115, v116, v117, v118, v119, v120, v121, v122, v123, v124, v125, v126, v127, v128, v129, v130, v131, v132, v133, v134, v135, v136, v137, v138, v139, v140, v141, u142, u143, u144, u145, u146, u147, u148, u149, u150, u151, u152, u153, u154, u155, u156, u157, u158, u159, u160, u161, u162, u163, u164, u165, u166, u167, u168, u169, u170, u171, u172, u173, u174, u175, u176, u177, u178, u179, u180, u181, u182, u183, u184, u185, u186, u187, u188, u189, u190, u191, u192, u193, u194, u195, u196, u197, u198, u199, u200, u201, u202, u203, u204, u205, u206, u207, u208, u209, u210, u211, u212, u213, u214, u215, u216, u217, u218, u219, u220, u221, u222, u223, u224, u225, u226, u227, u228, u229, u230, u231, u232, u233, u234, u235, u236, u237, u238, u239, u240, u241, u242, u243, u244, u245, u246, u247, u248, u249, u250, u251, u252, u253, u254, u255, u256, u257, u258, u259, u260, u261, u262, u263, u264, u265, u266, u267, u268, u269, u270, u271, u272, u273, u274, u275, u276, u277, u278, u279, u280, u281, u282, u283, u284, u285, u286, u287, u288, u289, u290, u291, u292, u293, u294, u295, u296, u297, u298, u299, u300, u301, u302, u303, u304, u305, u306, u307, u308, u309, u310, u311, u312, u313, u314, u315, u316, u317, u318, u319, u320, u321, u322, u323, u324, u325, u326, u327, u328], []⟩ w') :
 Code.wp Tryz.prog (lwB 3) Q ⟨#[u0, u1, u2, u3, u4, u5, u6, u7, u8, u9, u10, u11, u12, u13, u14, .pointer (some ⟨xr, 0, none⟩), .slice none 0 0, u17, .int .i64 0, u19, u20, u21, u22, u23, u24, u25, u26, u27, u28, u29, u30, u31, u32, u33, u34, u35, u36, u37, u38, u39, u40, u41, u42, u43, u44, u45, u46, u47, u48, u49, u50, u51, u52, u53, u54, u55, u56, u57, u58, u59, u60, u61, u62, u63, u64, u65, u66, u67, u68, u69, u70, u71, u72, u73, u74, u75, u76, u77, u78, u79, u80, u81, u82, u83, u84, u85, u86, u87, u88, u89, u90, u91, u92, u93, u94, u95, u96, u97, u98, u99, u100, u101, u102, u103, u104, u105, u106, u107, u108, u109, u110, u111, u112, u113, u114, u115, u116, u117, u118, u119, u120, u121, u122, u123, u124, u125, u126, u127, u128, u129, u130, u131, u132, u133, u134, u135, u136, u137, u138, u139, u140, u141, u142, u143, u144, u145, u146, u147, u148, u149, u150, u151, u152, u153, u154, u155, u156, u157, u158, u159, u160, u161, u162, u163, u164, u165, u166, u167, u168, u169, u170, u171, u172, u173, u174, u175, u176, u177, u178, u179, u180, u181, u182, u183, u184, u185, u186, u187, u188, u189, u190, u191, u192, u193, u194, u195, u196, u197, u198, u199, u200, u201, u202, u203, u204, u205, u206, u207, u208, u209, u210, u211, u212, u213, u214, u215, u216, u217, u218, u219, u220, u221, u222, u223, u224, u225, u226, u227, u228, u229, u230, u231, u232, u233, u234, u235, u236, u237, u238, u239, u240, u241, u242, u243, u244, u245, u246, u247, u248, u249, u250, u251, u252, u253, u254, u255, u256, u257, u258, u259, u260, u261, u262, u263, u264, u265, u266, u267, u268, u269, u270, u271, u272, u273, u274, u275, u276, u277, u278, u279, u280, u281, u282, u283, u284, u285, u286, u287, u288, u289, u290, u291, u292, u293, u294, u295, u296, u297, u298, u299, u300, u301, u302, u303, u304, u305, u306, u307, u308, u309, u310, u311, u312, u313, u314, u315, u316, u317, u318, u319, u320, u321, u322, u323, u324, u325, u326, u327, u328], []⟩ W := by
 have HQ := hide hQ; have HK := hide hK; have HA := hide hA; have HN := hide hn
 clear hQ hK hA hn
 obtain ⟨i0, hi, hz0, hz1, hz2⟩ := en_info_parts loss_info
 conv => arg 2; whnf
 go_wp2_with fail
 go_loopw [16, 18] (fun v16 v18 wr => ∃ k : Nat, k ≤ l1 ∧ v18 = .int .i64 k ∧ Hid (wr.ownsRow W.heap.size 72 3 v16 k (lsV (ls.take k))) ∧ Hid (Below W.heap.size W wr)) (fun _ v _ => l1 - (intOf v).toNat)
 case atStart => exact ⟨0, by omega, rfl, hide (World.ownsRow_nil _ _ _ _), hide (Below.refl _ _)⟩
 case round =>
  obtain ⟨k, hk, rfl, HO, HB⟩ := hrel
  have HKr := hide (HK.out.below HB.out HK.out.lt)
  have hxr := HKr.out.lt
  obtain ⟨k0, k1, k2, k3⟩ := HKr.out.cells4
  by_cases hlt : k < l1
  ·obtain ⟨x, hx⟩ : ∃ x, ls[k]? = some x := ⟨_, List.getElem?_eq_getElem (by rw [HN.out]; exact hlt)⟩
   obtain ⟨b, o, hAe, e0, e1, e2⟩ := HA.out k x hx
   subst hAe
   have hbl : b < W.heap.size := World.block_lt_of_cell? _ _ e0
   have g0 := e0
   have g1 := e1
   have g2 := e2
   have f0 := (HB.out.cell (p := ⟨b, o + k * 3, none⟩) hbl).trans e0
   have f1 := (HB.out.cell (p := ⟨b, o + k * 3 + 1, none⟩) hbl).trans e1
   have f2 := (HB.out.cell (p := ⟨b, o + k * 3 + 2, none⟩) hbl).trans e2
   have HTK : Hid (lsV (ls.take (k + 1)) = lsV (ls.take k) ++ [.int .i64 x.s, .int .i64 x.c, .int .i64 x.t]) := hide (by rw [List.take_add_one, hx]; exact lsV_snoc x _)
   obtain ⟨a0, ha0⟩ : ∃ a, x.s = a := ⟨_, rfl⟩
   obtain ⟨a1, ha1⟩ : ∃ a, x.c = a := ⟨_, rfl⟩
   obtain ⟨a2, ha2⟩ : ∃ a, x.t = a := ⟨_, rfl⟩
   rw [ha0] at f0 g0 HTK
   rw [ha1] at f1 g1 HTK
   rw [ha2] at f2 g2 HTK
   clear e0 e1 e2 hx ha0 ha1 ha2
   have HBA : Hid (Below wr.heap.size wr (wr.alloc (.cells #[.int .i64 a0, .int .i64 a1, .int .i64 a2] 72))) := hide ((Below.refl _ _).alloc (Nat.le_refl _) _)
   have HO1 := hide (own_grown3 HO.out HBA.out)
   have HNW := hide (news3 (Blk.new wr 72 #[.int .i64 a0, .int .i64 a1, .int .i64 a2]))
   have HMX : Hid (k + 1 ≤ maxLen ∧ (k + 1) * 24 ≤ 140737488355328) := hide (by simp [maxLen]; omega)
   have HSZ : Hid (W.heap.size ≤ (wr.alloc (.cells #[.int .i64 a0, .int .i64 a1, .int .i64 a2] 72)).heap.size) := hide (Nat.le_trans HB.out.size HBA.out.size)
   have HBW := hide (HB.out.trans (HBA.out.mono HB.out.size))
   have HS0 : Hid (∀ W', Below W.heap.size W W' → W'.cell? ⟨xr, 0, none⟩ = some (.slice (some ⟨b, o, none⟩) l1 c1) ∧ W'.cell? ⟨b, o + k * 3, none⟩ = some (.int .i64 a0) ∧ W'.cell? ⟨b, o + k * 3 + 1, none⟩ = some (.int .i64 a1) ∧ W'.cell? ⟨b, o + k * 3 + 2, none⟩ = some (.int .i64 a2)) := hide (fun W' hB' => by
    have h4 := (HK.out.below hB' HK.out.lt).cells4
    exact ⟨h4.1, (hB'.cell (p := ⟨b, o + k * 3, none⟩) hbl).trans g0, (hB'.cell (p := ⟨b, o + k * 3 + 1, none⟩) hbl).trans g1, (hB'.cell (p := ⟨b, o + k * 3 + 2, none⟩) hbl).trans g2⟩)
   clear g0 g1 g2
   go_upto_region 23 with fail
   clear f0 f1 f2 k0 k1 k2 k3
   go_region_held3 (fun w' => w'.cell? ⟨xr, 0, none⟩ = some (.slice (some ⟨b, o, none⟩) l1 c1) ∧ w'.cell? ⟨b, o + k * 3, none⟩ = some (.int .i64 a0) ∧ w'.cell? ⟨b, o + k * 3 + 1, none⟩ = some (.int .i64 a1) ∧ w'.cell? ⟨b, o + k * 3 + 2, none⟩ = some (.int .i64 a2)) (first | exact HS0.out _ (below_drewN HB.out 1) | exact HS0.out _ (below_drewN HBW.out 1) | exact HS0.out _ HBW.out | exact HS0.out _ HB8.out | fail)
    (first | (refine step_append_own2 (by rfl) (.tmp 120) (.tmp 140) 68 (by rfl) W.heap.size 72 i0 _ 3 24 Tryz.underlying68 hi hz0 hz1 hz2 rfl (by decide) u16 k (lsV (ls.take k)) (by rfl) (by exact HO1.out) ⟨wr.heap.size, 0, none⟩ 1 1 [.int .i64 a0, .int .i64 a1, .int .i64 a2] (by rfl) rfl (by exact HNW.out) (by intro u hu; simp at hu; rcases hu with rfl | rfl | rfl <;> rfl) HMX.out.1 HMX.out.2 (by exact HSZ.out) ?_; intro v8 w8 hown hg hwh; have HO8 := hide hown; have HB8 := hide (by first | exact HBW.out.grown (un_drew hg) HSZ.out (fun q e => (HO1.out.lt q e).1) | exact HBW.out.grown hg HSZ.out (fun q e => (HO1.out.lt q e).1)); clear hown hg hwh))
   all_goals
    go_wp2_with fail
    go_roundw
    case rel => exact ⟨k + 1, by omega, by go_num, hide (by rw [HTK.out]; exact HO8.out), HB8⟩
    case measure => simp [intOf]; omega
  ·obtain rfl : k = l1 := by omega
   obtain ⟨A, cp, rfl, hA2, hb2⟩ := own_loss (by have := HO.out; rw [← HN.out, List.take_length, HN.out] at this; exact this) HN.out
   go_wp2_with fail
   exact HQ.out _ _ _ _ _ _ _ _ _ _ _ _ _ _ _ _ _ _ _ _ _ _ _ _ _ _ _ _ _ _  A cp _ HB.out hA2 hb2
set_option maxRecDepth 1000000 in
set_option maxHeartbeats 8000000 in
theorem conv2 {Q : Exit → Act → World → Prop} (W : World) (xr : Nat) (A1 : Option Addr) (l1 c1 : Nat) (s0 s2 s3 : Value) (ls : List Rg) (hn : ls.length = l1) (h200 : l1 ≤ 200) (hK : Blk W xr 35 #[s0, .slice A1 l1 c1, s2, s3]) (hA : RgAt W A1 ls)
 (u0 u1 u2 u3 u4 u5 u6 u7 u8 u9 u10 u11 u12 u13 u14 u16 u18 u20 u21 u22 u23 u24 u25 u26 u27 u28 u29 u30 u31 u32 u33 u34 u35 u36 u37 u38 u39 u40 u41 u42 u43 u44 u45 u46 u47 u48 u49 u50 u51 u52 u53 u54 u55 u56 u57 u58 u59 u60 u61 u62 u63 u64 u65 u66 u67 u68 u69 u70 u71 u72 u73 u74 u75 u76 u77 u78 u79 u80 u81 u82 u83 u84 u85 u86 u87 u88 u89 u90 u91 u92 u93 u94 u95 u96 u97 u98 u99 u100 u101 u102 u103 u104 u105 u106 u107 u108 u109 u110 u111 u112 u113 u114 u115 u116 u117 u118 u119 u120 u121 u122 u123 u124 u125 u126 u127 u128 u129 u130 u131 u132 u133 u134 u135 u136 u137 u138 u139 u140 u141 u142 u143 u144 u145 u146 u147 u148 u149 u150 u151 u152 u153 u154 u155 u156 u157 u158 u159 u160 u161 u162 u163 u164 u165 u166 u167 u168 u169 u170 u171 u172 u173 u174 u175 u176 u177 u178 u179 u180 u181 u182 u183 u184 u185 u186 u187 u188 u189 u190 u191 u192 u193 u194 u195 u196 u197 u198 u199 u200 u201 u202 u203 u204 u205 u206 u207 u208 u209 u210 u211 u212 u213 u214 u215 u216 u217 u218 u219 u220 u221 u222 u223 u224 u225 u226 u227 u228 u229 u230 u231 u232 u233 u234 u235 u236 u237 u238 u239 u240 u241 u242 u243 u244 u245 u246 u247 u248 u249 u250 u251 u252 u253 u254 u255 u256 u257 u258 u259 u260 u261 u262 u263 u264 u265 u266 u267 u268 u269 u270 u271 u272 u273 u274 u275 u276 u277 u278 u279 u280 u281 u282 u283 u284 u285 u286 u287 u288 u289 u290 u291 u292 u293 u294 u295 u296 u297 u298 u299 u300 u301 u302 u303 u304 u305 u306 u307 u308 u309 u310 u311 u312 u313 u314 u315 u316 u317 u318 u319 u320 u321 u322 u323 u324 u325 u326 u327 u328 : Value)
 (hQ : ∀ (v19 v142 v143 v144 v145 v146 v147 v148 v149 v150 v151 v152 v153 v154 v155 v156 v157 v158 v159 v160 v161 v162 v163 v164 v165 v166 v167 v168 v169 v170 : Value) (A : Option Addr) (cp : Nat) (w' : World), Below W.heap.size W w' → RgAt w' A ls → (∀ z, A = some z → W.heap.size ≤ z.block ∧ z.block < w'.heap.size) → Q .normal ⟨#[u0, u1, u2, u3, u4, u5, u6, u7, u8, u9, u10, u11, u12, u13, u14, .pointer (some ⟨xr, 0, none⟩), u16, .slice A l1 cp, u18, v19, u20, u21, u22, u23, u24, u25, u26, u27, u28, u29, u30, u31, u32, u33, u34, u35, u36, u37, u38, u39, u40, u41, u42, u43, u44, u45, u46, u47, u48, u49, u50, u51, u52, u53, u54, u55, u56, u57, u58, u59, u60, u61, u62, u63, u64, u65, u66, u67, u68, u69, u70, u71, u72, u73, u74, u75, u76, u77, u78, u79, u80, u81, u82, u83, u84, u85, u86, u87, u88, u89, u90, u91, u92, u93, u94, u95, u96, u97, u98, u99, u100, u101, u102, u103, u104, u105, u106, u107, u108, u109, u110, u111, u112, u113, u114, u115, u116, u117, u118, u119, u120, u121, u122, u123, u124, u125, u126, u127, u128, u129, u130, u131, u132, u133, u134, u135, u136, u137, u138, u139, u140, u141, v142, v143, v144, v145, v146, v147, v148, v149, v150, v151, v152, v153, v154, v155, v156, v157, v158, v159, v160, v161, v162, v163, v164, v165, v166, v167, v168, v169, v170, u171, u172, u173, u174, u175, u176, u177, u178, u179, u180, u181, u182, u183, u184, u185, u186, u187, u188, u189, u190, u191, u192, u193, u194, u195, u196, u197, u198, u199, u200, u201, u202, u203, u204, u205, u206, u207, u208, u209, u210, u211, u212, u213, u214, u215, u216, u217, u218, u219, u220, u221, u222, u223, u224, u225, u226, u227, u228, u229, u230, u231, u232, u233, u234, u235, u236, u237, u238, u239, u240, u241, u242, u243, u244, u245, u246, u247, u248, u249, u250, u251, u252, u253, u254, u255, u256, u257, u258, u259, u260, u261, u262, u263, u264, u265, u266, u267, u268, u269, u270, u271, u272, u273, u274, u275, u276, u277, u278, u279, u280, u281, u282, u283, u284, u285, u286, u287, u288, u289, u290, u291, u292, u293, u294, u295, u296, u297, u298, u299, u300, u301, u302, u303, u304, u305, u306, u307, u308, u309, u310, u311, u312, u313, u314, u315, u316, u317, u318, u319, u320, u321, u322, u323, u324, u325, u326, u327, u328], []⟩ w') :
 Code.wp Tryz.prog (lwB 5) Q ⟨#[u0, u1, u2, u3, u4, u5, u6, u7, u8, u9, u10, u11, u12, u13, u14, .pointer (some ⟨xr, 0, none⟩), u16, .slice none 0 0, u18, .int .i64 0, u20, u21, u22, u23, u24, u25, u26, u27, u28, u29, u30, u31, u32, u33, u34, u35, u36, u37, u38, u39, u40, u41, u42, u43, u44, u45, u46, u47, u48, u49, u50, u51, u52, u53, u54, u55, u56, u57, u58, u59, u60, u61, u62, u63, u64, u65, u66, u67, u68, u69, u70, u71, u72, u73, u74, u75, u76, u77, u78, u79, u80, u81, u82, u83, u84, u85, u86, u87, u88, u89, u90, u91, u92, u93, u94, u95, u96, u97, u98, u99, u100, u101, u102, u103, u104, u105, u106, u107, u108, u109, u110, u111, u112, u113, u114, u115, u116, u117, u118, u119, u120, u121, u122, u123, u124, u125, u126, u127, u128, u129, u130, u131, u132, u133, u134, u135, u136, u137, u138, u139, u140, u141, u142, u143, u144, u145, u146, u147, u148, u149, u150, u151, u152, u153, u154, u155, u156, u157, u158, u159, u160, u161, u162, u163, u164, u165, u166, u167, u168, u169, u170, u171, u172, u173, u174, u175, u176, u177, u178, u179, u180, u181, u182, u183, u184, u185, u186, u187, u188, u189, u190, u191, u192, u193, u194, u195, u196, u197, u198, u199, u200, u201, u202, u203, u204, u205, u206, u207, u208, u209, u210, u211, u212, u213, u214, u215, u216, u217, u218, u219, u220, u221, u222, u223, u224, u225, u226, u227, u228, u229, u230, u231, u232, u233, u234, u235, u236, u237, u238, u239, u240, u241, u242, u243, u244, u245, u246, u247, u248, u249, u250, u251, u252, u253, u254, u255, u256, u257, u258, u259, u260, u261, u262, u263, u264, u265, u266, u267, u268, u269, u270, u271, u272, u273, u274, u275, u276, u277, u278, u279, u280, u281, u282, u283, u284, u285, u286, u287, u288, u289, u290, u291, u292, u293, u294, u295, u296, u297, u298, u299, u300, u301, u302, u303, u304, u305, u306, u307, u308, u309, u310, u311, u312, u313, u314, u315, u316, u317, u318, u319, u320, u321, u322, u323, u324, u325, u326, u327, u328], []⟩ W := by
 have HQ := hide hQ; have HK := hide hK; have HA := hide hA; have HN := hide hn
 clear hQ hK hA hn
 obtain ⟨i0, hi, hz0, hz1, hz2⟩ := en_info_parts read_info
 conv => arg 2; whnf
 go_wp2_with fail
 go_loopw [17, 19] (fun v16 v18 wr => ∃ k : Nat, k ≤ l1 ∧ v18 = .int .i64 k ∧ Hid (wr.ownsRow W.heap.size 75 3 v16 k (rgV (ls.take k))) ∧ Hid (Below W.heap.size W wr)) (fun _ v _ => l1 - (intOf v).toNat)
 case atStart => exact ⟨0, by omega, rfl, hide (World.ownsRow_nil _ _ _ _), hide (Below.refl _ _)⟩
 case round =>
  obtain ⟨k, hk, rfl, HO, HB⟩ := hrel
  have HKr := hide (HK.out.below HB.out HK.out.lt)
  have hxr := HKr.out.lt
  obtain ⟨k0, k1, k2, k3⟩ := HKr.out.cells4
  by_cases hlt : k < l1
  ·obtain ⟨x, hx⟩ : ∃ x, ls[k]? = some x := ⟨_, List.getElem?_eq_getElem (by rw [HN.out]; exact hlt)⟩
   obtain ⟨b, o, hAe, e0, e1, e2⟩ := HA.out k x hx
   subst hAe
   have hbl : b < W.heap.size := World.block_lt_of_cell? _ _ e0
   have g0 := e0
   have g1 := e1
   have g2 := e2
   have f0 := (HB.out.cell (p := ⟨b, o + k * 3, none⟩) hbl).trans e0
   have f1 := (HB.out.cell (p := ⟨b, o + k * 3 + 1, none⟩) hbl).trans e1
   have f2 := (HB.out.cell (p := ⟨b, o + k * 3 + 2, none⟩) hbl).trans e2
   have HTK : Hid (rgV (ls.take (k + 1)) = rgV (ls.take k) ++ [.int .i64 x.n, .int .i64 x.o, .int .i64 x.i]) := hide (by rw [List.take_add_one, hx]; exact rgV_snoc x _)
   obtain ⟨a0, ha0⟩ : ∃ a, x.n = a := ⟨_, rfl⟩
   obtain ⟨a1, ha1⟩ : ∃ a, x.o = a := ⟨_, rfl⟩
   obtain ⟨a2, ha2⟩ : ∃ a, x.i = a := ⟨_, rfl⟩
   rw [ha0] at f0 g0 HTK
   rw [ha1] at f1 g1 HTK
   rw [ha2] at f2 g2 HTK
   clear e0 e1 e2 hx ha0 ha1 ha2
   have HBA : Hid (Below wr.heap.size wr (wr.alloc (.cells #[.int .i64 a0, .int .i64 a1, .int .i64 a2] 75))) := hide ((Below.refl _ _).alloc (Nat.le_refl _) _)
   have HO1 := hide (own_grown3 HO.out HBA.out)
   have HNW := hide (news3 (Blk.new wr 75 #[.int .i64 a0, .int .i64 a1, .int .i64 a2]))
   have HMX : Hid (k + 1 ≤ maxLen ∧ (k + 1) * 24 ≤ 140737488355328) := hide (by simp [maxLen]; omega)
   have HSZ : Hid (W.heap.size ≤ (wr.alloc (.cells #[.int .i64 a0, .int .i64 a1, .int .i64 a2] 75)).heap.size) := hide (Nat.le_trans HB.out.size HBA.out.size)
   have HBW := hide (HB.out.trans (HBA.out.mono HB.out.size))
   have HS0 : Hid (∀ W', Below W.heap.size W W' → W'.cell? ⟨xr, 1, none⟩ = some (.slice (some ⟨b, o, none⟩) l1 c1) ∧ W'.cell? ⟨b, o + k * 3, none⟩ = some (.int .i64 a0) ∧ W'.cell? ⟨b, o + k * 3 + 1, none⟩ = some (.int .i64 a1) ∧ W'.cell? ⟨b, o + k * 3 + 2, none⟩ = some (.int .i64 a2)) := hide (fun W' hB' => by
    have h4 := (HK.out.below hB' HK.out.lt).cells4
    exact ⟨h4.2.1, (hB'.cell (p := ⟨b, o + k * 3, none⟩) hbl).trans g0, (hB'.cell (p := ⟨b, o + k * 3 + 1, none⟩) hbl).trans g1, (hB'.cell (p := ⟨b, o + k * 3 + 2, none⟩) hbl).trans g2⟩)
   clear g0 g1 g2
   go_upto_region 27 with fail
   clear f0 f1 f2 k0 k1 k2 k3
   go_region_held3 (fun w' => w'.cell? ⟨xr, 1, none⟩ = some (.slice (some ⟨b, o, none⟩) l1 c1) ∧ w'.cell? ⟨b, o + k * 3, none⟩ = some (.int .i64 a0) ∧ w'.cell? ⟨b, o + k * 3 + 1, none⟩ = some (.int .i64 a1) ∧ w'.cell? ⟨b, o + k * 3 + 2, none⟩ = some (.int .i64 a2)) (first | exact HS0.out _ (below_drewN HB.out 1) | exact HS0.out _ (below_drewN HBW.out 1) | exact HS0.out _ HBW.out | exact HS0.out _ HB8.out | fail)
    (first | (refine step_append_own2 (by rfl) (.tmp 149) (.tmp 169) 69 (by rfl) W.heap.size 75 i0 _ 3 24 Tryz.underlying69 hi hz0 hz1 hz2 rfl (by decide) u17 k (rgV (ls.take k)) (by rfl) (by exact HO1.out) ⟨wr.heap.size, 0, none⟩ 1 1 [.int .i64 a0, .int .i64 a1, .int .i64 a2] (by rfl) rfl (by exact HNW.out) (by intro u hu; simp at hu; rcases hu with rfl | rfl | rfl <;> rfl) HMX.out.1 HMX.out.2 (by exact HSZ.out) ?_; intro v8 w8 hown hg hwh; have HO8 := hide hown; have HB8 := hide (by first | exact HBW.out.grown (un_drew hg) HSZ.out (fun q e => (HO1.out.lt q e).1) | exact HBW.out.grown hg HSZ.out (fun q e => (HO1.out.lt q e).1)); clear hown hg hwh))
   all_goals
    go_wp2_with fail
    go_roundw
    case rel => exact ⟨k + 1, by omega, by go_num, hide (by rw [HTK.out]; exact HO8.out), HB8⟩
    case measure => simp [intOf]; omega
  ·obtain rfl : k = l1 := by omega
   obtain ⟨A, cp, rfl, hA2, hb2⟩ := own_read (by have := HO.out; rw [← HN.out, List.take_length, HN.out] at this; exact this) HN.out
   go_wp2_with fail
   exact HQ.out _ _ _ _ _ _ _ _ _ _ _ _ _ _ _ _ _ _ _ _ _ _ _ _ _ _ _ _ _ _  A cp _ HB.out hA2 hb2
end
section
open Go Go.RowKit
section
variable {w0 w w' w1 : World} {base g ga gb : Nat} {p : Pl} {P : Sv3} {fy M : Nat} {x y c : Cl} {bs : List Nat}
/-- A sender takes a message; behind it the senders' places stay. -/
theorem DsG.put2 (h : DsG w0 w base g p P fy c M w1 bs) (hp : PlOk p) (hM : M < 1000) {k : Nat} {l : Lk} (hl : p.lk[k]? = some l) : ∃ b off cp gs, w.cell? ⟨g, 13, none⟩ = some (.slice (some ⟨b, off, none⟩) p.lk.length cp) ∧ w.cell? ⟨b, off + k, none⟩ = some (.pointer (some ⟨gs, 0, none⟩)) ∧
 (∀ W (d : ByteArray), Below w.heap.size w W → d.size ≤ maxLen → Calls Tryz.prog 21 #[.pointer (some ⟨gs, 0, none⟩), .string d] W fun e w' => e = .returned (.int .i64 (putE d.size (c.sd k).q.length l.q)) ∧ DsG w0 w' base g p P fy (clPut k l d c) (M + 1) w1 bs ∧
  w'.cell? ⟨g, 13, none⟩ = some (.slice (some ⟨b, off, none⟩) p.lk.length cp) ∧ w'.cell? ⟨b, off + k, none⟩ = some (.pointer (some ⟨gs, 0, none⟩))) := by
 obtain ⟨a, rfl, h2, h3, h4, h5⟩ := h
 have hkl : k < p.lk.length := (List.getElem?_eq_some_iff.1 hl).1
 have hlk := hp.link k l hl
 obtain ⟨b, off, cp, e, hcell⟩ := h2.lnkC (k := k) (show k < (fullN p).ns from hkl)
 obtain ⟨-, -, -, -, -, -, -, -, -, -, k13, -⟩ := rcl_cells h2.cluB
 rw [e] at k13
 have hR := h2.rel.sd k hkl
 have hA := h2.rel.al k hkl
 have hf : (dshape base a (fullN p) p P fy c (.lnk k)).foot = a.gs k :: (a.vs k).ownBlock.toList := by
  have : k < (fullN p).ns := hkl
  simp [dshape, this, hl, GO.snd]
 have hgc : a.g ∈ (dshape base a (fullN p) p P fy c .clu).foot := by simp [dshape, GO.blk]
 have hbc : b ∈ (dshape base a (fullN p) p P fy c .lnkA).foot := by simp [dshape, GO.arr, e, Value.ownBlock]
 have hg1 : ¬ a.g ∈ a.gs k :: (a.vs k).ownBlock.toList := fun hm => absurd (h2.fam.sep (.lnk k) .clu a.g (by rw [hf]; exact hm) hgc) (by simp)
 have hb1 : ¬ b ∈ a.gs k :: (a.vs k).ownBlock.toList := fun hm => absurd (h2.fam.sep (.lnk k) .lnkA b (by rw [hf]; exact hm) hbc) (by simp)
 refine ⟨b, off, cp, a.gs k, k13, hcell, fun W d hB hd => ?_⟩
 have q1 := h2.below hB
 have q2 := h3.trans (hB.mono h4)
 have q3 := Nat.le_trans h4 hB.size
 have q4 : ∀ b ∈ bs, b < W.heap.size ∧ ¬ Gmy (dshape base a (fullN p) p P fy c) b ∧ W.heap[b]? = w1.heap[b]? := fun b hb => ⟨Nat.lt_of_lt_of_le (h5 b hb).1 hB.size, (h5 b hb).2.1, (hB.block b (h5 b hb).1).trans (h5 b hb).2.2⟩
 have k13' := (hB.cell (p := ⟨a.g, 13, none⟩) (World.block_lt_of_cell? _ _ k13)).trans k13
 have kn' := (hB.cell (p := ⟨b, off + k, none⟩) (World.block_lt_of_cell? _ _ hcell)).trans hcell
 obtain ⟨n1, n2, n3, n4⟩ := q1.lnkB (show k < (fullN p).ns from hkl) hl
 refine (rput_any (a.gs k) base l.b l.q (a.vs k) (a.wt k) (a.ls k) (c.sd k).nw (a.al k) W d (putE d.size (c.sd k).q.length l.q) (hide (by rw [hR.len])) n1 n2 n4 n3 q3 hd (by omega) hR.hw).mono ?_
 rintro r w' ⟨rfl, hpost⟩
 have hk : KeptL W w' (a.gs k :: (a.vs k).ownBlock.toList) := by obtain ⟨v', r1, r2, r3, r4⟩ := hpost; exact r3.toL
 refine ⟨rfl, .ofTo rfl q1 q2 q3 q4 (q1.lnkTo (show k < (fullN p).ns from hkl) hl { c.sd k with q := putQ (c.sd k).q d (putE d.size (c.sd k).q.length l.q) } hpost (hR.put d _) (Nat.le_succ _) ?_ q3), (cell_heap (hk.block a.g (World.block_lt_of_cell? _ _ k13') hg1) 13).trans k13', (cell_heap (hk.block b (World.block_lt_of_cell? _ _ kn') hb1) (off + k)).trans kn'⟩
 unfold putQ
 split
 ·simp; omega
 ·omega
theorem TwG.putR2 (h : TwG w0 w base ga gb p P fy x y M w1 bs) (hp : PlOk p) (hM : M < 1000) (k : Nat) (l : Lk) (hl : p.lk[k]? = some l) :
 ∃ b off cp gs, w.cell? ⟨gb, 13, none⟩ = some (.slice (some ⟨b, off, none⟩) p.lk.length cp) ∧ w.cell? ⟨b, off + k, none⟩ = some (ptrV gs) ∧ ∀ W (d : ByteArray), Below w.heap.size w W → d.size ≤ maxLen → Calls Tryz.prog 21 #[ptrV gs, .string d] W fun e w' => e = .returned (.int .i64 (putE d.size (y.sd k).q.length l.q)) ∧ TwG w0 w' base ga gb p P fy x (clPut k l d y) (M + 1) w1 bs ∧ w'.cell? ⟨gb, 13, none⟩ = some (.slice (some ⟨b, off, none⟩) p.lk.length cp) ∧ w'.cell? ⟨b, off + k, none⟩ = some (ptrV gs) := by
 obtain ⟨l', hD, hl', hlb, hback⟩ := h.ofR
 obtain ⟨b, off, cp, gs, k1, k2, k3⟩ := hD.put2 hp hM hl
 exact ⟨b, off, cp, gs, k1, k2, fun W d hB hd => (k3 W d hB hd).mono fun e w' ⟨he, ht, q1, q2⟩ => ⟨he, hback w' _ _ ht, q1, q2⟩⟩
end
attribute [local irreducible] playF playE clPut clRecv liesB
set_option maxRecDepth 1000000 in
set_option maxHeartbeats 8000000 in
theorem play_reg {Q : Exit → Act → World → Prop} (w0 w W1 : World) {base ga gb : Nat} {p : Pl} {fy N M : Nat} {cc : Cl} {bs : List Nat} {A AL : Option Addr} {c cl : Nat} {q : Value} (hT : TwG w0 w base ga gb p ⟨.slice A p.sl.length c, .slice AL p.lk.length cl, q⟩ fy cc cc M W1 bs) (hp : PlOk p) (hc : ClOk p N cc) (hN : N ≤ 700000) (hmm : MmOk p cc) (hM : M < 1000) (hr : cc.rd ≤ 100) (hf : fy < 65536) (hli : (liars fy p.nd.toNat : Int) ≤ p.fa) (hS : SlotsAt w0 A p.sl.length p.sl) (hL : LinksAt w0 AL p.lk.length p.lk) (h0 : w0.heap.size ≤ base) (hE : ErrT w0) (hF : FinT w0)
 (xr : Nat) (hxr : xr ∈ bs) (r : Rn) (A1 A2 A3 A4 B1 B2 : Option Addr) (l1 l2 l3 l4 c1 c2 c3 c4 d1 d2 : Nat) (hX : Blk W1 xr 35 #[.slice A1 l1 c1, .slice A2 l2 c2, .slice A3 l3 c3, .slice A4 l4 c4]) (h1 : r.ls.length = l1) (h2 : r.rg.length = l2) (h3 : r.dr.length = l3) (h4 : r.md.length = l4) (m1 : LossAt w0 A1 r.ls) (m2 : RgAt w0 A2 r.rg) (m3 : IsL w0 A3 r.dr) (m4 : IsL w0 A4 r.md) (n1 : l1 ≤ 140737488355328) (n2 : l2 ≤ 140737488355328) (n3 : l3 ≤ 140737488355328) (n4 : l4 ≤ 140737488355328)
 (k1 : LossAt W1 B1 r.ls) (k2 : RgAt W1 B2 r.rg) (hb1 : ∀ z, B1 = some z → z.block ∈ bs) (hb2 : ∀ z, B2 = some z → z.block ∈ bs)
 (u0 u1 u2 u3 u4 u5 u6 u7 u8 u10 u12 u13 u14 u18 u19 u20 u21 u22 u23 u24 u25 u26 u27 u28 u29 u30 u31 u32 u33 u34 u35 u36 u37 u38 u39 u40 u41 u42 u43 u44 u45 u46 u47 u48 u49 u50 u51 u52 u53 u54 u55 u56 u57 u58 u59 u60 u61 u62 u63 u64 u65 u66 u67 u68 u69 u70 u71 u72 u73 u74 u75 u76 u77 u78 u79 u80 u81 u82 u83 u84 u85 u86 u87 u88 u89 u90 u91 u92 u93 u94 u95 u96 u97 u98 u99 u100 u101 u102 u103 u104 u105 u106 u107 u108 u109 u110 u111 u112 u113 u114 u115 u116 u117 u118 u119 u120 u121 u122 u123 u124 u125 u126 u127 u128 u129 u130 u131 u132 u133 u134 u135 u136 u137 u138 u139 u140 u141 u142 u143 u144 u145 u146 u147 u148 u149 u150 u151 u152 u153 u154 u155 u156 u157 u158 u159 u160 u161 u162 u163 u164 u165 u166 u167 u168 u169 u170 u171 u172 u173 u174 u175 u176 u177 u178 u179 u180 u181 u182 u183 u184 u185 u186 u187 u188 u189 u190 u191 u192 u193 u194 u195 u196 u197 u198 u199 u200 u201 u202 u203 u204 u205 u206 u207 u208 u209 u210 u211 u212 u213 u214 u215 u216 u217 u218 u219 u220 u221 u222 u223 u224 u225 u226 u227 u228 u229 u230 u231 u232 u233 u234 u235 u236 u237 u238 u239 u240 u241 u242 u243 u244 u245 u246 u247 u248 u249 u250 u251 u252 u253 u254 u255 u256 u257 u258 u259 u260 u261 u262 u263 u264 u265 u266 u267 u268 u269 u270 u271 u272 u273 u274 u275 u276 u277 u278 u279 u280 u281 u282 u283 u284 u285 u286 u287 u288 u289 u290 u291 u292 u293 u294 u295 u296 u297 u298 u299 u300 u301 u302 u303 u304 u305 u306 u307 u308 u309 u310 u311 u312 u313 u314 u315 u316 u317 u318 u319 u320 u321 u322 u323 u324 u325 u326 u327 u328 : Value)
 (hQ : ∀ (v171 v172 v173 v174 v175 v176 v177 v178 v179 v180 v181 v182 : Value) (w' : World), TwG w0 w' base ga gb p ⟨.slice A p.sl.length c, .slice AL p.lk.length cl, q⟩ fy (playF p fy r cc) (playF p fy r cc) M W1 bs → Q .normal ⟨#[u0, u1, u2, u3, u4, u5, u6, u7, u8, .pointer (some ⟨ga, 0, none⟩), u10, .pointer (some ⟨gb, 0, none⟩), u12, u13, u14, .pointer (some ⟨xr, 0, none⟩), .slice B1 l1 d1, .slice B2 l2 d2, u18, u19, u20, u21, u22, u23, u24, u25, u26, u27, u28, u29, u30, u31, u32, u33, u34, u35, u36, u37, u38, u39, u40, u41, u42, u43, u44, u45, u46, u47, u48, u49, u50, u51, u52, u53, u54, u55, u56, u57, u58, u59, u60, u61, u62, u63, u64, u65, u66, u67, u68, u69, u70, u71, u72, u73, u74, u75, u76, u77, u78, u79, u80, u81, u82, u83, u84, u85, u86, u87, u88, u89, u90, u91, u92, u93, u94, u95, u96, u97, u98, u99, u100, u101, u102, u103, u104, u105, u106, u107, u108, u109, u110, u111, u112, u113, u114, u115, u116, u117, u118, u119, u120, u121, u122, u123, u124, u125, u126, u127, u128, u129, u130, u131, u132, u133, u134, u135, u136, u137, u138, u139, u140, u141, u142, u143, u144, u145, u146, u147, u148, u149, u150, u151, u152, u153, u154, u155, u156, u157, u158, u159, u160, u161, u162, u163, u164, u165, u166, u167, u168, u169, u170, v171, v172, v173, v174, v175, v176, v177, v178, v179, v180, v181, v182, .bool false, u184, u185, u186, u187, u188, u189, u190, u191, u192, u193, u194, u195, u196, u197, u198, u199, u200, u201, u202, u203, u204, u205, u206, u207, u208, u209, u210, u211, u212, u213, u214, u215, u216, u217, u218, u219, u220, u221, u222, u223, u224, u225, u226, u227, u228, u229, u230, u231, u232, u233, u234, u235, u236, u237, u238, u239, u240, u241, u242, u243, u244, u245, u246, u247, u248, u249, u250, u251, u252, u253, u254, u255, u256, u257, u258, u259, u260, u261, u262, u263, u264, u265, u266, u267, u268, u269, u270, u271, u272, u273, u274, u275, u276, u277, u278, u279, u280, u281, u282, u283, u284, u285, u286, u287, u288, u289, u290, u291, u292, u293, u294, u295, u296, u297, u298, u299, u300, u301, u302, u303, u304, u305, u306, u307, u308, u309, u310, u311, u312, u313, u314, u315, u316, u317, u318, u319, u320, u321, u322, u323, u324, u325, u326, u327, u328], []⟩ w') :
 Code.wp Tryz.prog (lwR 28) Q ⟨#[u0, u1, u2, u3, u4, u5, u6, u7, u8, .pointer (some ⟨ga, 0, none⟩), u10, .pointer (some ⟨gb, 0, none⟩), u12, u13, u14, .pointer (some ⟨xr, 0, none⟩), .slice B1 l1 d1, .slice B2 l2 d2, u18, u19, u20, u21, u22, u23, u24, u25, u26, u27, u28, u29, u30, u31, u32, u33, u34, u35, u36, u37, u38, u39, u40, u41, u42, u43, u44, u45, u46, u47, u48, u49, u50, u51, u52, u53, u54, u55, u56, u57, u58, u59, u60, u61, u62, u63, u64, u65, u66, u67, u68, u69, u70, u71, u72, u73, u74, u75, u76, u77, u78, u79, u80, u81, u82, u83, u84, u85, u86, u87, u88, u89, u90, u91, u92, u93, u94, u95, u96, u97, u98, u99, u100, u101, u102, u103, u104, u105, u106, u107, u108, u109, u110, u111, u112, u113, u114, u115, u116, u117, u118, u119, u120, u121, u122, u123, u124, u125, u126, u127, u128, u129, u130, u131, u132, u133, u134, u135, u136, u137, u138, u139, u140, u141, u142, u143, u144, u145, u146, u147, u148, u149, u150, u151, u152, u153, u154, u155, u156, u157, u158, u159, u160, u161, u162, u163, u164, u165, u166, u167, u168, u169, u170, u171, u172, u173, u174, u175, u176, u177, u178, u179, u180, u181, u182, u183, u184, u185, u186, u187, u188, u189, u190, u191, u192, u193, u194, u195, u196, u197, u198, u199, u200, u201, u202, u203, u204, u205, u206, u207, u208, u209, u210, u211, u212, u213, u214, u215, u216, u217, u218, u219, u220, u221, u222, u223, u224, u225, u226, u227, u228, u229, u230, u231, u232, u233, u234, u235, u236, u237, u238, u239, u240, u241, u242, u243, u244, u245, u246, u247, u248, u249, u250, u251, u252, u253, u254, u255, u256, u257, u258, u259, u260, u261, u262, u263, u264, u265, u266, u267, u268, u269, u270, u271, u272, u273, u274, u275, u276, u277, u278, u279, u280, u281, u282, u283, u284, u285, u286, u287, u288, u289, u290, u291, u292, u293, u294, u295, u296, u297, u298, u299, u300, u301, u302, u303, u304, u305, u306, u307, u308, u309, u310, u311, u312, u313, u314, u315, u316, u317, u318, u319, u320, u321, u322, u323, u324, u325, u326, u327, u328], []⟩ w := by
 have HQ := hide hQ; have HT := hide hT; have HX := hide hX; have HXR := hide hxr
 obtain ⟨pe, hpe⟩ : ∃ pe, playE p fy r cc = pe := ⟨_, rfl⟩
 obtain ⟨c', hc'⟩ : ∃ c', playF p fy r cc = c' := ⟨_, rfl⟩
 have HPL : Hid (∀ W, TwG w0 W base ga gb p ⟨.slice A p.sl.length c, .slice AL p.lk.length cl, q⟩ fy cc cc M W1 bs → Calls Tryz.prog 9 #[.pointer (some ⟨ga, 0, none⟩), .agg #[.slice A1 l1 c1, .slice A2 l2 c2, .slice A3 l3 c3, .slice A4 l4 c4]] W fun e w' => e = .returned (errV pe) ∧ TwG w0 w' base ga gb p ⟨.slice A p.sl.length c, .slice AL p.lk.length cl, q⟩ fy c' cc M W1 bs) := hide (fun W h => by
  have := h.playL hp hc hN hr hf hS hL h0 hE (v := .agg #[.slice A1 l1 c1, .slice A2 l2 c2, .slice A3 l3 c3, .slice A4 l4 c4]) (r := r) ⟨A1, c1, A2, c2, A3, c3, A4, c4, by rw [h1, h2, h3, h4], m1, m2, m3, m4, by omega, by omega, by omega, by omega⟩
  rw [hpe, hc'] at this
  exact this)
 have HPL2 : Hid (∀ W, TwG w0 W base ga gb p ⟨.slice A p.sl.length c, .slice AL p.lk.length cl, q⟩ fy cc c' M W1 bs → Calls Tryz.prog 9 #[.pointer (some ⟨ga, 0, none⟩), .agg #[.slice A1 l1 c1, .slice A2 l2 c2, .slice A3 l3 c3, .slice A4 l4 c4]] W fun e w' => e = .returned (errV pe) ∧ TwG w0 w' base ga gb p ⟨.slice A p.sl.length c, .slice AL p.lk.length cl, q⟩ fy c' c' M W1 bs) := hide (fun W h => by
  have := h.playL hp hc hN hr hf hS hL h0 hE (v := .agg #[.slice A1 l1 c1, .slice A2 l2 c2, .slice A3 l3 c3, .slice A4 l4 c4]) (r := r) ⟨A1, c1, A2, c2, A3, c3, A4, c4, by rw [h1, h2, h3, h4], m1, m2, m3, m4, by omega, by omega, by omega, by omega⟩
  rw [hpe, hc'] at this
  exact this)
 have HPR : Hid (∀ W, TwG w0 W base ga gb p ⟨.slice A p.sl.length c, .slice AL p.lk.length cl, q⟩ fy cc cc M W1 bs → Calls Tryz.prog 20 #[.pointer (some ⟨gb, 0, none⟩), .slice B1 l1 d1, .slice B2 l2 d2, .slice A3 l3 c3, .slice A4 l4 c4] W fun e w' => e = .returned (.int .i64 pe) ∧ TwG w0 w' base ga gb p ⟨.slice A p.sl.length c, .slice AL p.lk.length cl, q⟩ fy cc c' M W1 bs) := hide (fun W h => by
  have := h.playR hp hc hN hmm hM hr hf hli hS hL h0 hF (r := r) (c1 := d1) (c2 := d2) (c3 := c3) (c4 := c4) k1 hb1 (by omega) k2 hb2 (by omega) m3 (by omega) m4 (by omega)
  rw [hpe, hc', h1, h2, h3, h4] at this
  exact this)
 have HPR2 : Hid (∀ W, TwG w0 W base ga gb p ⟨.slice A p.sl.length c, .slice AL p.lk.length cl, q⟩ fy c' cc M W1 bs → Calls Tryz.prog 20 #[.pointer (some ⟨gb, 0, none⟩), .slice B1 l1 d1, .slice B2 l2 d2, .slice A3 l3 c3, .slice A4 l4 c4] W fun e w' => e = .returned (.int .i64 pe) ∧ TwG w0 w' base ga gb p ⟨.slice A p.sl.length c, .slice AL p.lk.length cl, q⟩ fy c' c' M W1 bs) := hide (fun W h => by
  have := h.playR hp hc hN hmm hM hr hf hli hS hL h0 hF (r := r) (c1 := d1) (c2 := d2) (c3 := c3) (c4 := c4) k1 hb1 (by omega) k2 hb2 (by omega) m3 (by omega) m4 (by omega)
  rw [hpe, hc', h1, h2, h3, h4] at this
  exact this)
 have HSC : Hid (∀ W (x y : Cl), TwG w0 W base ga gb p ⟨.slice A p.sl.length c, .slice AL p.lk.length cl, q⟩ fy x y M W1 bs → W.cell? ⟨xr, 0, none⟩ = some (.slice A1 l1 c1) ∧ W.cell? ⟨xr, 1, none⟩ = some (.slice A2 l2 c2) ∧ W.cell? ⟨xr, 2, none⟩ = some (.slice A3 l3 c3) ∧ W.cell? ⟨xr, 3, none⟩ = some (.slice A4 l4 c4)) := hide (fun W x y h => (h.blk HXR.out HX.out).cells4)
 have HBA : Hid (∀ W, Below w0.heap.size w0 W → Calls Tryz.prog 19 #[errV pe, .int .i64 pe] W fun r w' => r = .returned (.bool true) ∧ Below W.heap.size W w') := hide (fun W hB => by
  have := bare_errV pe pe W (errT_below hE hB)
  rw [beq_self_eq_true] at this
  exact this)
 have HBL : Hid (∀ W (x y : Cl), TwG w0 W base ga gb p ⟨.slice A p.sl.length c, .slice AL p.lk.length cl, q⟩ fy x y M W1 bs → Below w0.heap.size w0 W) := hide (fun W x y h => h.bel.mono h0)
 obtain ⟨ev, hev⟩ : ∃ ev, errV pe = ev := ⟨_, rfl⟩
 rw [hev] at HPL HPL2 HBA
 rw [hc'] at HQ
 have T0 : Hid (TwG w0 w.drew base ga gb p ⟨.slice A p.sl.length c, .slice AL p.lk.length cl, q⟩ fy cc cc M W1 bs) := hide (HT.out.below (below_drewN (Below.refl _ _) 1))
 clear hQ hT hX hxr hp hc hmm hli hS hL hE hF h1 h2 h3 h4 m1 m2 m3 m4 k1 k2 hb1 hb2 hpe hc' hev HT
 conv => arg 2; whnf
 go_region_held3 (fun w' => w'.cell? ⟨xr, 0, none⟩ = some (.slice A1 l1 c1) ∧ w'.cell? ⟨xr, 1, none⟩ = some (.slice A2 l2 c2) ∧ w'.cell? ⟨xr, 2, none⟩ = some (.slice A3 l3 c3) ∧ w'.cell? ⟨xr, 3, none⟩ = some (.slice A4 l4 c4)) (first | exact HSC.out _ _ _ T0.out | exact HSC.out _ _ _ T5.out | exact HSC.out _ _ _ T6.out | exact HSC.out _ _ _ T7.out | fail)
  (first
   | (go_at_call 9; (first | (with_reducible refine (HPL.out _ T0.out).mono ?_) | (with_reducible refine (HPL2.out _ T5.out).mono ?_)); rintro e w5 ⟨rfl, t5⟩; have T6 := hide t5; have T5 := hide t5; clear t5)
   | (go_at_call 20; (first | (with_reducible refine (HPR.out _ T0.out).mono ?_) | (with_reducible refine (HPR2.out _ T5.out).mono ?_)); rintro e w5 ⟨rfl, t5⟩; have T6 := hide t5; have T5 := hide t5; clear t5)
   | (go_at_call 19; (with_reducible refine (HBA.out _ (HBL.out _ _ _ T5.out)).mono ?_); rintro e w7 ⟨rfl, hB7⟩; have T7 := hide (T5.out.below hB7); clear hB7))
 all_goals exact HQ.out _ _ _ _ _ _ _ _ _ _ _ _ _ T7.out
end
end Go.Proofs.YtdogdlnaacimpaaGreatDoor
