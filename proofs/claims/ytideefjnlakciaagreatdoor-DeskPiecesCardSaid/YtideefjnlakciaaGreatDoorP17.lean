/- The functions of strings and strconv that this program bears, laid; no condition. -/
import Derived.Test.YtideefjnlakciaaGreatDoorP13
import Derived.Test.YtideefjnlakciaaGreatDoorP16
import Derived.Test.YtideefjnlakciaaGreatDoorP04
import Derived.Test.YtideefjnlakciaaGreatDoorP09
import Derived.Test.YtideefjnlakciaaGreatDoorP01
import Derived.Test.YtideefjnlakciaaGreatDoorP11
import Derived.Shelf.Strings.OnBuilder
import Derived.Shelf.Strings.BuilderK
import Derived.Shelf.LaysM
import Derived.Shelf.Strconv.Itoa4
import Derived.Shelf.LaysC
import Derived.Shelf.Strconv.AtoiAll
import Derived.Shelf.Strings.Search1
import Derived.Shelf.Strings.Search2
import Derived.Shelf.Strings.Search3
import Derived.Shelf.Strings.Prefix
import Derived.Shelf.Strings.FieldsFuncAny
import Derived.Shelf.Strings.BuilderCap
import Derived.Test.YtideefjnlakciaaGreatDoorProg
import Derived.Lib.SmallJoins
import Derived.Lib.AtoiErrMem
import Derived.Lib.AppendIntMem
import Derived.WalkSmall
import Derived.Lib.ItoaLen
import Derived.WideKeyRuns
import Derived.MapKept
import Derived.Carry
import Derived.Lib.FieldsP
import Derived.Defers
import Derived.Recover
import Derived.BigRegion
set_option linter.unusedVariables false
set_option linter.unusedSimpArgs false
namespace Go.Proofs
open Go.Shelf
def Tryz.lays169_ren : Go.Shelf.Ren := ⟨fun | 169 => 12 | n => n, fun | 70 => 39 | 9 => 9 | 0 => 0 | 72 => 42 | 37 => 40 | 127 => 78 | 3 => 3 | 5 => 5 | n => n, fun | n => n⟩
theorem Tryz.lays169 : Go.Proofs.Lays.n169 Tryz.prog Tryz.lays169_ren := {
 mixed := by kernel_rfl
 f169 := Tryz.func12.trans (congrArg some (by kernel_rfl))
 t0 := Tryz.underlying0
 a0 := Tryz.isAgg0
 z0 := Tryz.sizeOf0
 v0 := Tryz.zeroValue0
 t3 := Tryz.underlying3
 a3 := Tryz.isAgg3
 z3 := Tryz.sizeOf3
 v3 := Tryz.zeroValue3
 t9 := Tryz.underlying9
 a9 := Tryz.isAgg9
 z9 := Tryz.sizeOf9
 v9 := Tryz.zeroValue9
 t37 := Tryz.underlying40
 a37 := Tryz.isAgg40
 z37 := Tryz.sizeOf40
 v37 := Tryz.zeroValue40
 t70 := Tryz.underlying39
 a70 := Tryz.isAgg39
 z70 := Tryz.sizeOf39
 v70 := Tryz.zeroValue39
 t72 := Tryz.underlying42
 a72 := Tryz.isAgg42
 z72 := Tryz.sizeOf42
 v72 := Tryz.zeroValue42
 t127 := Tryz.underlying78
 a127 := Tryz.isAgg78
 z127 := Tryz.sizeOf78
 v127 := Tryz.zeroValue78 }
theorem Tryz.Builder_Extra_169 : Builder.Extra Tryz.prog Tryz.lays169_ren := {
 sizeBuilder := by kernel_rfl
 liesBuilder := by kernel_rfl
 t5 := Tryz.underlying5
 a5 := Tryz.isAgg5
 z5 := Tryz.sizeOf5
 v5 := Tryz.zeroValue5
 infoByte := by kernel_rfl
 cellsByte := by kernel_rfl
 sizeByte := by kernel_rfl
 neB5 := by decide }
def Tryz.lays156_ren : Go.Shelf.Ren := ⟨fun | 156 => 40 | 165 => 89 | 166 => 10 | 169 => 12 | 240 => 19 | 241 => 123 | 276 => 45 | 277 => 164 | n => n, fun | 31 => 52 | 9 => 9 | 3 => 3 | 4 => 4 | 0 => 0 | 20 => 20 | 72 => 42 | 76 => 49 | 70 => 39 | 37 => 40 | 75 => 48 | 127 => 78 | 164 => 124 | 5 => 5 | 80 => 51 | n => n, fun | n => n⟩
theorem Tryz.lays156 : Go.Proofs.Lays.n156 Tryz.prog Tryz.lays156_ren := {
 mixed := by kernel_rfl
 f156 := Tryz.func40.trans (congrArg some (by kernel_rfl))
 f165 := Tryz.func89.trans (congrArg some (by kernel_rfl))
 f166 := Tryz.func10.trans (congrArg some (by kernel_rfl))
 f169 := Tryz.func12.trans (congrArg some (by kernel_rfl))
 f240 := Tryz.func19.trans (congrArg some (by kernel_rfl))
 f241 := Tryz.func123.trans (congrArg some (by kernel_rfl))
 f276 := Tryz.func45.trans (congrArg some (by kernel_rfl))
 f277 := Tryz.func164.trans (congrArg some (by kernel_rfl))
 t0 := Tryz.underlying0
 a0 := Tryz.isAgg0
 z0 := Tryz.sizeOf0
 v0 := Tryz.zeroValue0
 t3 := Tryz.underlying3
 a3 := Tryz.isAgg3
 z3 := Tryz.sizeOf3
 v3 := Tryz.zeroValue3
 t4 := Tryz.underlying4
 a4 := Tryz.isAgg4
 z4 := Tryz.sizeOf4
 v4 := Tryz.zeroValue4
 t9 := Tryz.underlying9
 a9 := Tryz.isAgg9
 z9 := Tryz.sizeOf9
 v9 := Tryz.zeroValue9
 t20 := Tryz.underlying20
 a20 := Tryz.isAgg20
 z20 := Tryz.sizeOf20
 v20 := Tryz.zeroValue20
 t31 := Tryz.underlying52
 a31 := Tryz.isAgg52
 z31 := Tryz.sizeOf52
 v31 := Tryz.zeroValue52
 t37 := Tryz.underlying40
 a37 := Tryz.isAgg40
 z37 := Tryz.sizeOf40
 v37 := Tryz.zeroValue40
 t70 := Tryz.underlying39
 a70 := Tryz.isAgg39
 z70 := Tryz.sizeOf39
 v70 := Tryz.zeroValue39
 t72 := Tryz.underlying42
 a72 := Tryz.isAgg42
 z72 := Tryz.sizeOf42
 v72 := Tryz.zeroValue42
 t75 := Tryz.underlying48
 a75 := Tryz.isAgg48
 z75 := Tryz.sizeOf48
 v75 := Tryz.zeroValue48
 t76 := Tryz.underlying49
 a76 := Tryz.isAgg49
 z76 := Tryz.sizeOf49
 v76 := Tryz.zeroValue49
 t127 := Tryz.underlying78
 a127 := Tryz.isAgg78
 z127 := Tryz.sizeOf78
 v127 := Tryz.zeroValue78
 t164 := Tryz.underlying124
 a164 := Tryz.isAgg124
 z164 := Tryz.sizeOf124
 v164 := Tryz.zeroValue124 }
theorem Tryz.Builder_Extra_156 : Builder.Extra Tryz.prog Tryz.lays156_ren := {
 sizeBuilder := by kernel_rfl
 liesBuilder := by kernel_rfl
 t5 := Tryz.underlying5
 a5 := Tryz.isAgg5
 z5 := Tryz.sizeOf5
 v5 := Tryz.zeroValue5
 infoByte := by kernel_rfl
 cellsByte := by kernel_rfl
 sizeByte := by kernel_rfl
 neB5 := by decide }
open Go.RowKit in
theorem Tryz.strings_Join (bk o c : Nat) (xs : List ByteArray) (sep : ByteArray) (w : World) (hcells : ∀ (j : Nat) x, xs[j]? = some x → w.cell? ⟨bk, o + j, none⟩ = some (.string x)) (hbk : bk < w.heap.size) (hN : xs.length ≤ 140737488355328) (hcap : xs.length ≤ c) (hlen : (Lib.join (xs.map (·.data.toList)) sep.data.toList).length ≤ 140737488355328) :
 Calls Tryz.prog 40 #[.slice (some ⟨bk, o, none⟩) xs.length c, .string sep] w fun e w' => e = .returned (.string ⟨(Lib.join (xs.map (·.data.toList)) sep.data.toList).toArray⟩) ∧ Below w.heap.size w w' := Any.strings_Join Tryz.lays156 Tryz.Builder_Extra_156 bk o c xs sep w hcells hbk hN hcap hlen
open Go.RowKit in
theorem Tryz.Builder_String_any_k (B b : Nat) (l : List UInt8) (w : World) (h : Lib.IsBuilderF 42 5 B b (Lib.byteCells l) w) (hBw : B ≤ w.heap.size) :
 Calls Tryz.prog 12 #[.pointer (some ⟨b, 0, none⟩)] w fun e w' => e = .returned (.string ⟨l.toArray⟩) ∧ (Lib.IsBuilderF 42 5 B b (Lib.byteCells l) w' ∧ Below B w w' ∧ Lib.OthersKept 5 (some b) w w') := Any.Builder_String_any_k Tryz.lays169 Tryz.Builder_Extra_169 B b l w h hBw
def Tryz.laysM171_ren : Go.Shelf.Ren := ⟨fun | 171 => 21 | 243 => 46 | 246 => 72 | 283 => 116 | 284 => 117 | 285 => 118 | 286 => 119 | 129 => 158 | 317 => 157 | 318 => 159 | 319 => 160 | 320 => 161 | 337 => 185 | 338 => 186 | n => n, fun | 3 => 3 | 9 => 9 | 2 => 2 | 4 => 4 | 171 => 192 | 0 => 0 | 53 => 185 | 37 => 40 | 5 => 5 | 173 => 195 | 212 => 249 | 51 => 250 | 20 => 20 | 213 => 251 | 46 => 188 | 232 => 314 | 233 => 315 | n => n, fun | 17 => 7 | 18 => 8 | 19 => 9 | n => n⟩
theorem Tryz.laysM171 : Go.Proofs.LaysM.n171 Tryz.prog Tryz.laysM171_ren := {
 mixed := by kernel_rfl
 f129 := Tryz.func158.trans (congrArg some (by kernel_rfl))
 f171 := Tryz.func21.trans (congrArg some (by kernel_rfl))
 f243 := Tryz.func46.trans (congrArg some (by kernel_rfl))
 f246 := Tryz.func72.trans (congrArg some (by kernel_rfl))
 f283 := Tryz.func116.trans (congrArg some (by kernel_rfl))
 f284 := Tryz.func117.trans (congrArg some (by kernel_rfl))
 f285 := Tryz.func118.trans (congrArg some (by kernel_rfl))
 f286 := Tryz.func119.trans (congrArg some (by kernel_rfl))
 f317 := Tryz.func157.trans (congrArg some (by kernel_rfl))
 f318 := Tryz.func159.trans (congrArg some (by kernel_rfl))
 f319 := Tryz.func160.trans (congrArg some (by kernel_rfl))
 f320 := Tryz.func161.trans (congrArg some (by kernel_rfl))
 f337 := Tryz.func185.trans (congrArg some (by kernel_rfl))
 f338 := Tryz.func186.trans (congrArg some (by kernel_rfl))
 t0 := Tryz.underlying0
 a0 := Tryz.isAgg0
 z0 := Tryz.sizeOf0
 v0 := Tryz.zeroValue0
 t2 := Tryz.underlying2
 a2 := Tryz.isAgg2
 z2 := Tryz.sizeOf2
 v2 := Tryz.zeroValue2
 t3 := Tryz.underlying3
 a3 := Tryz.isAgg3
 z3 := Tryz.sizeOf3
 v3 := Tryz.zeroValue3
 t4 := Tryz.underlying4
 a4 := Tryz.isAgg4
 z4 := Tryz.sizeOf4
 v4 := Tryz.zeroValue4
 t5 := Tryz.underlying5
 a5 := Tryz.isAgg5
 z5 := Tryz.sizeOf5
 v5 := Tryz.zeroValue5
 t9 := Tryz.underlying9
 a9 := Tryz.isAgg9
 z9 := Tryz.sizeOf9
 v9 := Tryz.zeroValue9
 t20 := Tryz.underlying20
 a20 := Tryz.isAgg20
 z20 := Tryz.sizeOf20
 v20 := Tryz.zeroValue20
 t37 := Tryz.underlying40
 a37 := Tryz.isAgg40
 z37 := Tryz.sizeOf40
 v37 := Tryz.zeroValue40
 t46 := Tryz.underlying188
 a46 := Tryz.isAgg188
 z46 := Tryz.sizeOf188
 v46 := Tryz.zeroValue188
 t51 := Tryz.underlying250
 a51 := Tryz.isAgg250
 z51 := Tryz.sizeOf250
 v51 := Tryz.zeroValue250
 t53 := Tryz.underlying185
 a53 := Tryz.isAgg185
 z53 := Tryz.sizeOf185
 v53 := Tryz.zeroValue185
 t171 := Tryz.underlying192
 a171 := Tryz.isAgg192
 z171 := Tryz.sizeOf192
 v171 := Tryz.zeroValue192
 t173 := Tryz.underlying195
 a173 := Tryz.isAgg195
 z173 := Tryz.sizeOf195
 v173 := Tryz.zeroValue195
 t212 := Tryz.underlying249
 a212 := Tryz.isAgg249
 z212 := Tryz.sizeOf249
 v212 := Tryz.zeroValue249
 t213 := Tryz.underlying251
 a213 := Tryz.isAgg251
 z213 := Tryz.sizeOf251
 t232 := Tryz.underlying314
 a232 := Tryz.isAgg314
 z232 := Tryz.sizeOf314
 v232 := Tryz.zeroValue314
 t233 := Tryz.underlying315
 a233 := Tryz.isAgg315
 z233 := Tryz.sizeOf315
 v233 := Tryz.zeroValue315
 g17 := by kernel_rfl
 g18 := by kernel_rfl
 g19 := by kernel_rfl
 i0 := by kernel_rfl
 i2 := by kernel_rfl
 i3 := by kernel_rfl
 i4 := by kernel_rfl
 i5 := by kernel_rfl
 i9 := by kernel_rfl
 i20 := by kernel_rfl
 i37 := by kernel_rfl
 i46 := by kernel_rfl
 i51 := by kernel_rfl
 i53 := by kernel_rfl
 i171 := by kernel_rfl
 i173 := by kernel_rfl
 i212 := by kernel_rfl
 i232 := by kernel_rfl
 i233 := by kernel_rfl
 m17 := by kernel_rfl
 m18 := by kernel_rfl
 m19 := by kernel_rfl }
open Go.RowKit Go.Sort Go.Lib in
theorem Tryz.strconv_Itoa (n : Int) (h0 : -9223372036854775808 ≤ n) (h1 : n ≤ 9223372036854775807) (w : World) (htab : Lib.TabIs Tryz.prog w "internal/strconv.uint64pow10" .u64 Lib.pow10Tab) :
 Calls Tryz.prog 21 #[.int .i64 n] w fun e w' => e = .returned (.string ⟨(Lib.itoa n).toArray⟩) ∧ ∃ k os, w' = grow (w.drewN k) os := Any.strconv_Itoa Tryz.laysM171 n h0 h1 w htab
def Tryz.laysC172_ren : Go.Shelf.Ren := ⟨fun | 172 => 128 | 244 => 167 | 245 => 71 | 247 => 70 | 279 => 112 | 280 => 113 | 281 => 114 | 282 => 115 | 287 => 111 | 316 => 155 | 171 => 21 | 205 => 156 | 321 => 153 | 322 => 154 | 243 => 46 | 246 => 72 | 283 => 116 | 284 => 117 | 285 => 118 | 286 => 119 | 129 => 158 | 317 => 157 | 318 => 159 | 319 => 160 | 320 => 161 | 337 => 185 | 338 => 186 | n => n, fun | 9 => 9 | 3 => 3 | 75 => 48 | 76 => 49 | 4 => 4 | 5 => 5 | 167 => 184 | 37 => 40 | 0 => 0 | 85 => 80 | 2 => 2 | 168 => 189 | 53 => 185 | 175 => 186 | 46 => 188 | 210 => 247 | 127 => 78 | 145 => 292 | 143 => 290 | 21 => 21 | 171 => 192 | 173 => 195 | 212 => 249 | 51 => 250 | 20 => 20 | 213 => 251 | 232 => 314 | 233 => 315 | 80 => 51 | n => n, fun | 15 => 5 | 16 => 6 | 17 => 7 | 18 => 8 | 19 => 9 | n => n⟩
theorem Tryz.laysC172 : Go.Proofs.LaysC.n172 Tryz.prog Tryz.laysC172_ren := {
 mixed := by kernel_rfl
 f129 := Tryz.func158.trans (congrArg some (by kernel_rfl))
 f171 := Tryz.func21.trans (congrArg some (by kernel_rfl))
 f172 := Tryz.func128.trans (congrArg some (by kernel_rfl))
 f205 := Tryz.func156.trans (congrArg some (by kernel_rfl))
 f243 := Tryz.func46.trans (congrArg some (by kernel_rfl))
 f244 := Tryz.func167.trans (congrArg some (by kernel_rfl))
 f245 := Tryz.func71.trans (congrArg some (by kernel_rfl))
 f246 := Tryz.func72.trans (congrArg some (by kernel_rfl))
 f247 := Tryz.func70.trans (congrArg some (by kernel_rfl))
 f279 := Tryz.func112.trans (congrArg some (by kernel_rfl))
 f280 := Tryz.func113.trans (congrArg some (by kernel_rfl))
 f281 := Tryz.func114.trans (congrArg some (by kernel_rfl))
 f282 := Tryz.func115.trans (congrArg some (by kernel_rfl))
 f283 := Tryz.func116.trans (congrArg some (by kernel_rfl))
 f284 := Tryz.func117.trans (congrArg some (by kernel_rfl))
 f285 := Tryz.func118.trans (congrArg some (by kernel_rfl))
 f286 := Tryz.func119.trans (congrArg some (by kernel_rfl))
 f287 := Tryz.func111.trans (congrArg some (by kernel_rfl))
 f316 := Tryz.func155.trans (congrArg some (by kernel_rfl))
 f317 := Tryz.func157.trans (congrArg some (by kernel_rfl))
 f318 := Tryz.func159.trans (congrArg some (by kernel_rfl))
 f319 := Tryz.func160.trans (congrArg some (by kernel_rfl))
 f320 := Tryz.func161.trans (congrArg some (by kernel_rfl))
 f321 := Tryz.func153.trans (congrArg some (by kernel_rfl))
 f322 := Tryz.func154.trans (congrArg some (by kernel_rfl))
 f337 := Tryz.func185.trans (congrArg some (by kernel_rfl))
 f338 := Tryz.func186.trans (congrArg some (by kernel_rfl))
 t0 := Tryz.underlying0
 a0 := Tryz.isAgg0
 z0 := Tryz.sizeOf0
 v0 := Tryz.zeroValue0
 t2 := Tryz.underlying2
 a2 := Tryz.isAgg2
 z2 := Tryz.sizeOf2
 v2 := Tryz.zeroValue2
 t3 := Tryz.underlying3
 a3 := Tryz.isAgg3
 z3 := Tryz.sizeOf3
 v3 := Tryz.zeroValue3
 t4 := Tryz.underlying4
 a4 := Tryz.isAgg4
 z4 := Tryz.sizeOf4
 v4 := Tryz.zeroValue4
 t5 := Tryz.underlying5
 a5 := Tryz.isAgg5
 z5 := Tryz.sizeOf5
 v5 := Tryz.zeroValue5
 t9 := Tryz.underlying9
 a9 := Tryz.isAgg9
 z9 := Tryz.sizeOf9
 v9 := Tryz.zeroValue9
 t20 := Tryz.underlying20
 a20 := Tryz.isAgg20
 z20 := Tryz.sizeOf20
 v20 := Tryz.zeroValue20
 t21 := Tryz.underlying21
 a21 := Tryz.isAgg21
 z21 := Tryz.sizeOf21
 v21 := Tryz.zeroValue21
 t37 := Tryz.underlying40
 a37 := Tryz.isAgg40
 z37 := Tryz.sizeOf40
 v37 := Tryz.zeroValue40
 t46 := Tryz.underlying188
 a46 := Tryz.isAgg188
 z46 := Tryz.sizeOf188
 v46 := Tryz.zeroValue188
 t51 := Tryz.underlying250
 a51 := Tryz.isAgg250
 z51 := Tryz.sizeOf250
 v51 := Tryz.zeroValue250
 t53 := Tryz.underlying185
 a53 := Tryz.isAgg185
 z53 := Tryz.sizeOf185
 v53 := Tryz.zeroValue185
 t75 := Tryz.underlying48
 a75 := Tryz.isAgg48
 z75 := Tryz.sizeOf48
 v75 := Tryz.zeroValue48
 t76 := Tryz.underlying49
 a76 := Tryz.isAgg49
 z76 := Tryz.sizeOf49
 v76 := Tryz.zeroValue49
 t85 := Tryz.underlying80
 a85 := Tryz.isAgg80
 z85 := Tryz.sizeOf80
 v85 := Tryz.zeroValue80
 t127 := Tryz.underlying78
 a127 := Tryz.isAgg78
 z127 := Tryz.sizeOf78
 v127 := Tryz.zeroValue78
 t143 := Tryz.underlying290
 a143 := Tryz.isAgg290
 z143 := Tryz.sizeOf290
 v143 := Tryz.zeroValue290
 t145 := Tryz.underlying292
 a145 := Tryz.isAgg292
 z145 := Tryz.sizeOf292
 v145 := Tryz.zeroValue292
 t167 := Tryz.underlying184
 a167 := Tryz.isAgg184
 z167 := Tryz.sizeOf184
 v167 := Tryz.zeroValue184
 t168 := Tryz.underlying189
 a168 := Tryz.isAgg189
 z168 := Tryz.sizeOf189
 v168 := Tryz.zeroValue189
 t171 := Tryz.underlying192
 a171 := Tryz.isAgg192
 z171 := Tryz.sizeOf192
 v171 := Tryz.zeroValue192
 t173 := Tryz.underlying195
 a173 := Tryz.isAgg195
 z173 := Tryz.sizeOf195
 v173 := Tryz.zeroValue195
 t175 := Tryz.underlying186
 a175 := Tryz.isAgg186
 z175 := Tryz.sizeOf186
 v175 := Tryz.zeroValue186
 t210 := Tryz.underlying247
 a210 := Tryz.isAgg247
 z210 := Tryz.sizeOf247
 v210 := Tryz.zeroValue247
 t212 := Tryz.underlying249
 a212 := Tryz.isAgg249
 z212 := Tryz.sizeOf249
 v212 := Tryz.zeroValue249
 t213 := Tryz.underlying251
 a213 := Tryz.isAgg251
 z213 := Tryz.sizeOf251
 t232 := Tryz.underlying314
 a232 := Tryz.isAgg314
 z232 := Tryz.sizeOf314
 v232 := Tryz.zeroValue314
 t233 := Tryz.underlying315
 a233 := Tryz.isAgg315
 z233 := Tryz.sizeOf315
 v233 := Tryz.zeroValue315
 g15 := by kernel_rfl
 g16 := by kernel_rfl
 g17 := by kernel_rfl
 g18 := by kernel_rfl
 g19 := by kernel_rfl
 t80 := Tryz.underlying51
 a80 := Tryz.isAgg51
 z80 := Tryz.sizeOf51
 v80 := Tryz.zeroValue51
 i0 := by kernel_rfl
 i2 := by kernel_rfl
 i3 := by kernel_rfl
 i4 := by kernel_rfl
 i5 := by kernel_rfl
 i9 := by kernel_rfl
 i20 := by kernel_rfl
 i21 := by kernel_rfl
 i37 := by kernel_rfl
 i46 := by kernel_rfl
 i51 := by kernel_rfl
 i53 := by kernel_rfl
 i75 := by kernel_rfl
 i76 := by kernel_rfl
 i80 := by kernel_rfl
 i85 := by kernel_rfl
 i127 := by kernel_rfl
 i143 := by kernel_rfl
 i145 := by kernel_rfl
 i167 := by kernel_rfl
 i168 := by kernel_rfl
 i171 := by kernel_rfl
 i173 := by kernel_rfl
 i175 := by kernel_rfl
 i210 := by kernel_rfl
 i212 := by kernel_rfl
 i232 := by kernel_rfl
 i233 := by kernel_rfl
 m15 := by kernel_rfl
 m16 := by kernel_rfl
 m17 := by kernel_rfl
 m18 := by kernel_rfl
 m19 := by kernel_rfl
 c0 := by kernel_rfl
 c2 := by kernel_rfl
 c3 := by kernel_rfl
 c4 := by kernel_rfl
 c5 := by kernel_rfl
 c9 := by kernel_rfl
 c20 := by kernel_rfl
 c21 := by kernel_rfl
 c37 := by kernel_rfl
 c46 := by kernel_rfl
 c51 := by kernel_rfl
 c53 := by kernel_rfl
 c75 := by kernel_rfl
 c76 := by kernel_rfl
 c80 := by kernel_rfl
 c85 := by kernel_rfl
 c127 := by kernel_rfl
 c143 := by kernel_rfl
 c145 := by kernel_rfl
 c167 := by kernel_rfl
 c168 := by kernel_rfl
 c171 := by kernel_rfl
 c173 := by kernel_rfl
 c175 := by kernel_rfl
 c210 := by kernel_rfl
 c212 := by kernel_rfl
 c213 := by kernel_rfl
 c232 := by kernel_rfl
 c233 := by kernel_rfl }
open Go.RowKit in
theorem Tryz.strconv_Atoi_ok (s : ByteArray) (hmax : s.size ≤ 9223372036854775806) (v : Int) (h : Lib.atoiAll s.data.toList = .ok v) (w : World) :
 Calls Tryz.prog 128 #[.string s] w fun e w' => e = .returned (.tuple #[.int .i64 v, .nilIface]) ∧ (w' = w ∨ ∃ t, w' = Lib.bytesWorld w 5 t) := Any.strconv_Atoi_ok Tryz.laysC172 s hmax v h w
open Go.RowKit in
theorem Tryz.strconv_Atoi_syntax (s : ByteArray) (hlim : s.size ≤ 281474976710656) (h : Lib.atoiAll s.data.toList = Lib.atoiAll []) (ev : Value) (w : World) (hv : w.cell? ⟨5, 0, none⟩ = some ev) (hev : ev = .nilIface ∨ ∃ te pe, ev = .iface te pe) :
 Calls Tryz.prog 128 #[.string s] w fun e w' => ∃ N, e = .returned (.tuple #[.int .i64 (0), .iface 189 (.pointer (some ⟨N, 0, none⟩))]) ∧ w.heap.size ≤ N ∧ w'.heap[N]? = some (.cells #[.string ⟨#[65, 116, 111, 105]⟩, .string s, ev] 247 (0, 0)) ∧ Below w.heap.size w w' := Any.strconv_Atoi_syntax Tryz.laysC172 s hlim h ev w hv hev
open Go.RowKit in
theorem Tryz.strconv_Atoi_range (s : ByteArray) (hlim : s.size ≤ 281474976710656) (h : Lib.atoiAll s.data.toList = .range) (ev : Value) (w : World) (hv : w.cell? ⟨6, 0, none⟩ = some ev) (hev : ev = .nilIface ∨ ∃ te pe, ev = .iface te pe) :
 Calls Tryz.prog 128 #[.string s] w fun e w' => ∃ N, e = .returned (.tuple #[.int .i64 (Lib.atoiSat s.data.toList), .iface 189 (.pointer (some ⟨N, 0, none⟩))]) ∧ w.heap.size ≤ N ∧ w'.heap[N]? = some (.cells #[.string ⟨#[65, 116, 111, 105]⟩, .string s, ev] 247 (0, 0)) ∧ Below w.heap.size w w' := Any.strconv_Atoi_range Tryz.laysC172 s hlim h ev w hv hev
def Tryz.lays143_ren : Go.Shelf.Ren := ⟨fun | 143 => 43 | 219 => 91 | 217 => 124 | 225 => 125 | 224 => 126 | 267 => 127 | 266 => 165 | 314 => 166 | n => n, fun | 9 => 9 | 3 => 3 | 4 => 4 | 5 => 5 | 46 => 188 | 146 => 254 | 51 => 250 | n => n, fun | 1 => 3 | n => n⟩
theorem Tryz.lays143 : Go.Proofs.Lays.n143 Tryz.prog Tryz.lays143_ren := {
 mixed := by kernel_rfl
 f143 := Tryz.func43.trans (congrArg some (by kernel_rfl))
 f217 := Tryz.func124.trans (congrArg some (by kernel_rfl))
 f219 := Tryz.func91.trans (congrArg some (by kernel_rfl))
 f224 := Tryz.func126.trans (congrArg some (by kernel_rfl))
 f225 := Tryz.func125.trans (congrArg some (by kernel_rfl))
 f266 := Tryz.func165.trans (congrArg some (by kernel_rfl))
 f267 := Tryz.func127.trans (congrArg some (by kernel_rfl))
 f314 := Tryz.func166.trans (congrArg some (by kernel_rfl))
 t3 := Tryz.underlying3
 a3 := Tryz.isAgg3
 z3 := Tryz.sizeOf3
 v3 := Tryz.zeroValue3
 t4 := Tryz.underlying4
 a4 := Tryz.isAgg4
 z4 := Tryz.sizeOf4
 v4 := Tryz.zeroValue4
 t5 := Tryz.underlying5
 a5 := Tryz.isAgg5
 z5 := Tryz.sizeOf5
 v5 := Tryz.zeroValue5
 t9 := Tryz.underlying9
 a9 := Tryz.isAgg9
 z9 := Tryz.sizeOf9
 v9 := Tryz.zeroValue9
 t46 := Tryz.underlying188
 a46 := Tryz.isAgg188
 z46 := Tryz.sizeOf188
 v46 := Tryz.zeroValue188
 t51 := Tryz.underlying250
 a51 := Tryz.isAgg250
 z51 := Tryz.sizeOf250
 v51 := Tryz.zeroValue250
 t146 := Tryz.underlying254
 a146 := Tryz.isAgg254
 z146 := Tryz.sizeOf254
 v146 := Tryz.zeroValue254
 g1 := by kernel_rfl }
open Go.RowKit Go.Lib in
theorem Tryz.strings_Index_one (s : ByteArray) (c : UInt8) (w : World) :
 Calls Tryz.prog 43 #[.string s, .string ⟨#[c]⟩] w fun e w' => e = .returned (.int .i64 (Lib.indexByte s.data.toList c)) ∧ w' = w := Any.strings_Index_one Tryz.lays143 s c w
def Tryz.lays102_ren : Go.Shelf.Ren := ⟨fun | 102 => 9 | 209 => 18 | 207 => 44 | n => n, fun | 9 => 9 | 4 => 4 | 3 => 3 | n => n, fun | n => n⟩
theorem Tryz.lays102 : Go.Proofs.Lays.n102 Tryz.prog Tryz.lays102_ren := {
 mixed := by kernel_rfl
 f102 := Tryz.func9.trans (congrArg some (by kernel_rfl))
 f207 := Tryz.func44.trans (congrArg some (by kernel_rfl))
 f209 := Tryz.func18.trans (congrArg some (by kernel_rfl))
 t3 := Tryz.underlying3
 a3 := Tryz.isAgg3
 z3 := Tryz.sizeOf3
 v3 := Tryz.zeroValue3
 t4 := Tryz.underlying4
 a4 := Tryz.isAgg4
 z4 := Tryz.sizeOf4
 v4 := Tryz.zeroValue4
 t9 := Tryz.underlying9
 a9 := Tryz.isAgg9
 z9 := Tryz.sizeOf9
 v9 := Tryz.zeroValue9 }
open Go.RowKit Go.Lib in
theorem Tryz.strings_TrimSuffix (s p : ByteArray) (w : World) (hs : s.size ≤ 9223372036854775807) :
 Calls Tryz.prog 9 #[.string s, .string p] w fun e w' => e = .returned (.string ⟨(Lib.trimSuffix s.data.toList p.data.toList).toArray⟩) ∧ w' = w := Any.strings_TrimSuffix Tryz.lays102 s p w hs
def Tryz.lays229_ren : Go.Shelf.Ren := ⟨fun | 229 => 22 | n => n, fun | 9 => 9 | 40 => 74 | 31 => 52 | 152 => 126 | 3 => 3 | 0 => 0 | 4 => 4 | 21 => 21 | 154 => 128 | n => n, fun | n => n⟩
theorem Tryz.lays229 : Go.Proofs.Lays.n229 Tryz.prog Tryz.lays229_ren := {
 mixed := by kernel_rfl
 f229 := Tryz.func22.trans (congrArg some (by kernel_rfl))
 t0 := Tryz.underlying0
 a0 := Tryz.isAgg0
 z0 := Tryz.sizeOf0
 v0 := Tryz.zeroValue0
 t3 := Tryz.underlying3
 a3 := Tryz.isAgg3
 z3 := Tryz.sizeOf3
 v3 := Tryz.zeroValue3
 t4 := Tryz.underlying4
 a4 := Tryz.isAgg4
 z4 := Tryz.sizeOf4
 v4 := Tryz.zeroValue4
 t9 := Tryz.underlying9
 a9 := Tryz.isAgg9
 z9 := Tryz.sizeOf9
 v9 := Tryz.zeroValue9
 t21 := Tryz.underlying21
 a21 := Tryz.isAgg21
 z21 := Tryz.sizeOf21
 v21 := Tryz.zeroValue21
 t31 := Tryz.underlying52
 a31 := Tryz.isAgg52
 z31 := Tryz.sizeOf52
 v31 := Tryz.zeroValue52
 t40 := Tryz.underlying74
 a40 := Tryz.isAgg74
 z40 := Tryz.sizeOf74
 v40 := Tryz.zeroValue74
 t152 := Tryz.underlying126
 a152 := Tryz.isAgg126
 z152 := Tryz.sizeOf126
 v152 := Tryz.zeroValue126
 t154 := Tryz.underlying128
 a154 := Tryz.isAgg128
 z154 := Tryz.sizeOf128
 v154 := Tryz.zeroValue128 }
open Go.RowKit Go.Lib in
theorem Tryz.strings_FieldsFunc_runes (g : Nat) (lb : Array Value) (eg : ∀ args w, (callFunc g args).run Tryz.prog w = .ok (.enter g args) w) (p : Nat → Bool) (s : ByteArray) (w : World) (hs : s.size ≤ 4294967296) (hp : PredAtRunes Tryz.prog g lb p w) :
 Calls Tryz.prog 22 #[.string s, .func (.func g) #[] lb] w fun e w' => ∃ A, e = .returned (.slice (some ⟨A, 0, none⟩) (Lib.goFieldsP p s).length (Lib.goFieldsP p s).length) ∧ w.heap.size ≤ A ∧
  w'.ownsRow w.heap.size 9 1 (.slice (some ⟨A, 0, none⟩) (Lib.goFieldsP p s).length (Lib.goFieldsP p s).length) (Lib.goFieldsP p s).length ((Lib.goFieldsP p s).map Value.string) ∧ Below w.heap.size w w' := Any.strings_FieldsFunc_runes Tryz.lays229 g lb eg p s w hs hp (by kernel_rfl) (by kernel_rfl)
theorem Tryz.lays166 : Lays.n166 Tryz.prog Tryz.lays156_ren := { Tryz.lays156 with }
end Go.Proofs
namespace Go.Proofs.YtideefjnlakciaaGreatDoor
section
open Go Go.RowKit
abbrev wrongP (e : Int) : List PanicEntry := [{ v := .iface 70 (.agg #[.int .i64 e]), recovered := false }]
theorem must_nil (w : World) : Calls Tryz.prog 25 #[.nilIface] w fun r w' => r = .returned (.tuple #[]) ∧ w' = w := by
 go_enter Tryz.func25, Tryz.ntmps25
 go_wp2_with fail
 go_end0
 exact ⟨rfl, rfl⟩
theorem must_errno (e : Int) (w : World) (hg : ErrT w) : Calls Tryz.prog 25 #[.iface 61 (.int .i64 e)] w fun r w' => r = .panicked (wrongP e) ∧ Below w.heap.size w w' := by
 have HT := hide (tell_errno e w hg)
 clear hg
 go_enter Tryz.func25, Tryz.ntmps25
 go_wp2_with fail
 refine HT.out.mono ?_
 rintro r w1 ⟨rfl, hB⟩
 go_wp2_with fail
 exact ⟨rfl, rfl, hB⟩
theorem must_at (e pl : Int) (g : Nat) (w : World) (hg : ErrT w) (hp : Blk w g 259 #[.int .i64 e, .int .i64 pl]) : Calls Tryz.prog 25 #[.iface 258 (.pointer (some ⟨g, 0, none⟩))] w fun r w' => r = .panicked (wrongP e) ∧ Below w.heap.size w w' := by
 have HT := hide (tell_at e pl g w hg hp)
 clear hg hp
 go_enter Tryz.func25, Tryz.ntmps25
 go_wp2_with fail
 refine HT.out.mono ?_
 rintro r w1 ⟨rfl, hB⟩
 go_wp2_with fail
 exact ⟨rfl, rfl, hB⟩
def MustP (e : Int) (w : World) (r : Ending) (w' : World) : Prop := (e = 0 ∧ r = .returned (.tuple #[]) ∨ e ≠ 0 ∧ r = .panicked (wrongP e)) ∧ Below w.heap.size w w'
theorem must_errV (e : Int) (w : World) (hg : ErrT w) : Calls Tryz.prog 25 #[errV e] w (MustP e w) := by
 unfold errV
 split
 ·rename_i h
  exact (must_nil w).mono fun r w' ⟨h1, h2⟩ => by subst h2; exact ⟨.inl ⟨h, h1⟩, Below.refl _ _⟩
 ·rename_i h
  exact (must_errno e w hg).mono fun r w' ⟨h1, h2⟩ => ⟨.inr ⟨h, h1⟩, h2⟩
theorem ready_ok (w : World) (g : Nat) (v : Option Addr) (b : Bool) (hc : w.cell? ⟨g, 10, none⟩ = some (.pointer v)) (hb : v.isSome = b) :
 Calls Tryz.prog 94 #[.pointer (some ⟨g, 0, none⟩), .bool b] w fun r w' => r = .returned (.tuple #[]) ∧ w' = w := by
 go_enter Tryz.func94, Tryz.ntmps94
 go_wp2_with fail
 go_end0
 exact ⟨rfl, rfl⟩
theorem ready_bad (w : World) (hg : ErrT w) (g : Nat) (v : Option Addr) (b : Bool) (hc : w.cell? ⟨g, 10, none⟩ = some (.pointer v)) (hb : v.isSome = !b) :
 Calls Tryz.prog 94 #[.pointer (some ⟨g, 0, none⟩), .bool b] w fun r w' => r = .panicked (wrongP 6) ∧ Below w.heap.size w w' := by
 have HM := hide (must_errno 6 w hg)
 clear hg
 go_enter Tryz.func94, Tryz.ntmps94
 cases v <;> cases b <;> simp at hb
 all_goals
  go_wp2_with fail
  refine HM.out.mono ?_
  rintro r w1 ⟨rfl, hB⟩
  go_wp2_with fail
  exact ⟨rfl, rfl, hB⟩
end
section
open Go Go.RowKit
structure StdOk (w : World) : Prop where
 err : ErrT w
 tab : Lib.TabIs Tryz.prog w "internal/strconv.uint64pow10" .u64 Lib.pow10Tab
 syn : ∃ ev, w.cell? ⟨5, 0, none⟩ = some ev ∧ (ev = .nilIface ∨ ∃ te pe, ev = .iface te pe)
 ran : ∃ ev, w.cell? ⟨6, 0, none⟩ = some ev ∧ (ev = .nilIface ∨ ∃ te pe, ev = .iface te pe)
 big : 10 ≤ w.heap.size
theorem StdOk.below {B : Nat} {w w' : World} (h : StdOk w) (hb : 10 ≤ B) (hB : Below B w w') : StdOk w' := by
 refine ⟨(hB.cell (p := ⟨4, 0, none⟩) (Nat.lt_of_lt_of_le (by decide) hb)).trans h.err, var?_below hB (by kernel_rfl : Tryz.prog.globalNamed "internal/strconv.uint64pow10" = some 7) (by omega) h.tab, ?_, ?_, Nat.le_trans h.big hB.size⟩
 ·obtain ⟨ev, h1, h2⟩ := h.syn
  exact ⟨ev, (hB.cell (p := ⟨5, 0, none⟩) (Nat.lt_of_lt_of_le (by decide) hb)).trans h1, h2⟩
 ·obtain ⟨ev, h1, h2⟩ := h.ran
  exact ⟨ev, (hB.cell (p := ⟨6, 0, none⟩) (Nat.lt_of_lt_of_le (by decide) hb)).trans h1, h2⟩
theorem StdOk.next {w w' : World} (h : StdOk w) (hB : Below w.heap.size w w') : StdOk w' := h.below h.big hB
theorem atoi_range {l : List UInt8} {v : Int} (h : Lib.atoiAll l = .ok v) : -9223372036854775808 ≤ v ∧ v ≤ 9223372036854775807 := by
 unfold Lib.atoiAll at h
 split at h
 ·cases h
 ·dsimp only at h
  split at h
  ·cases h
  ·cases h
  ·split at h
   ·cases h
   ·split at h
    ·cases h
    ·injection h with h
     split at h <;> omega
theorem atoi_any (s : ByteArray) (w : World) (hS : StdOk w) (hs : s.size ≤ 281474976710656) :
 Calls Tryz.prog 128 #[.string s] w fun e w' => ((∃ v, Lib.atoiAll s.data.toList = .ok v ∧ e = .returned (.tuple #[.int .i64 v, .nilIface])) ∨
  ((∀ v, Lib.atoiAll s.data.toList ≠ .ok v) ∧ ∃ k te pe, e = .returned (.tuple #[.int .i64 k, .iface te pe]))) ∧ Below w.heap.size w w' := by
 rcases h : Lib.atoiAll s.data.toList with v | _ | _
 ·refine (Tryz.strconv_Atoi_ok s (by omega) v h w).mono ?_
  rintro e w' ⟨rfl, h2⟩
  refine ⟨.inl ⟨v, rfl, rfl⟩, ?_⟩
  rcases h2 with rfl | ⟨t, rfl⟩
  ·exact Below.refl _ _
  ·exact Lib.bytesWorld_below w _ t
 ·obtain ⟨ev, h1, h2⟩ := hS.syn
  refine (Tryz.strconv_Atoi_syntax s hs h ev w h1 h2).mono ?_
  rintro e w' ⟨N, rfl, _, _, h4⟩
  exact ⟨.inr ⟨fun v => by simp, _, _, _, rfl⟩, h4⟩
 ·obtain ⟨ev, h1, h2⟩ := hS.ran
  refine (Tryz.strconv_Atoi_range s hs h ev w h1 h2).mono ?_
  rintro e w' ⟨N, rfl, _, _, h4⟩
  exact ⟨.inr ⟨fun v => by simp, _, _, _, rfl⟩, h4⟩
theorem itoa_any (n : Int) (w : World) (hS : StdOk w) (h0 : -9223372036854775808 ≤ n) (h1 : n ≤ 9223372036854775807) :
 Calls Tryz.prog 21 #[.int .i64 n] w fun e w' => e = .returned (.string (itoB n)) ∧ Below w.heap.size w w' := by
 refine (Tryz.strconv_Itoa n h0 h1 w hS.tab).mono ?_
 rintro e w' ⟨rfl, k, os, rfl⟩
 exact ⟨rfl, Lib.below_grow _ _ (Nat.le_refl _) k os⟩
def IsS (w : World) (A : Option Addr) (ws : List ByteArray) : Prop := ∀ j, j < ws.length → ∃ b off, A = some ⟨b, off, none⟩ ∧ w.cell? ⟨b, off + j, none⟩ = some (.string (ws.getD j ⟨#[]⟩))
theorem IsS.below {B : Nat} {w w' : World} {A : Option Addr} {ws : List ByteArray} (h : IsS w A ws) (hw : w.heap.size ≤ B) (hB : Below B w w') : IsS w' A ws := fun j hj => by
 obtain ⟨b, off, e, hc⟩ := h j hj
 exact ⟨b, off, e, (hB.cell (p := ⟨b, off + j, none⟩) (Nat.lt_of_lt_of_le (World.block_lt_of_cell? _ _ hc) hw)).trans hc⟩
end
section
open Go Go.RowKit
theorem numsF_snoc (s : ByteArray) : ∀ l : List ByteArray, numsF (l ++ [s]) = match numsF l with | none => none | some xs => (numF s).map (fun k => xs ++ [k])
 | [] => by
  show numsF [s] = _
  unfold numsF
  cases numF s <;> rfl
 | x :: l => by
  rw [List.cons_append, numsF, numsF_snoc s l]
  cases hx : numF x with
  | none => rw [numsF, hx]
  | some k =>
   rw [numsF, hx]
   cases numsF l with
   | none => rfl
   | some xs => cases numF s <;> rfl
theorem numsF_none {s : ByteArray} (h : numF s = none) (r : List ByteArray) : ∀ l : List ByteArray, numsF (l ++ s :: r) = none
 | [] => by
  show numsF (s :: r) = none
  rw [numsF, h]
 | x :: l => by
  rw [List.cons_append, numsF, numsF_none h r l]
  cases numF x <;> rfl
theorem str_ne {a b : ByteArray} (h : a ≠ b) : (a.toList == b.toList) = false := by
 rw [beq_eq_false_iff_ne]
 intro e
 rw [ByteArray.toList_eq, ByteArray.toList_eq] at e
 exact h (Go.WideShapes.bytes_inj e)
theorem take_succ_getD {ws : List ByteArray} {k : Nat} (hk : k < ws.length) : ws.take (k + 1) = ws.take k ++ [ws.getD k ⟨#[]⟩] := by
 rw [List.take_add_one, List.getD_eq_getElem?_getD, List.getElem?_eq_getElem hk]
 rfl
theorem drop_getD {ws : List ByteArray} {k : Nat} (hk : k < ws.length) : ws = ws.take k ++ ws.getD k ⟨#[]⟩ :: ws.drop (k + 1) := by
 conv => lhs; rw [← List.take_append_drop k ws]
 rw [List.drop_eq_getElem_cons hk, List.getD_eq_getElem?_getD, List.getElem?_eq_getElem hk]
 rfl
theorem newsD {w : World} {g : Nat} {t : TypeId} {x : Value} (h : Blk w g t #[x]) : ∀ j u, [x][j]? = some u → w.cell? ((⟨g, 0, none⟩ : Addr).add j) = some u := by
 intro j u hu
 cases j with
 | zero => simp at hu; subst hu; exact h.cells1.1
 | succ j => simp at hu
theorem own_keepB {w w' : World} {base size n : Nat} {e : TypeId} {v : Value} {xs : List Value} (h : w.ownsRow base e size v n xs) (hB : Below w.heap.size w w') : w'.ownsRow base e size v n xs := by
 obtain ⟨hl, h | ⟨g, cap, cur, hv, hg, hh, r⟩⟩ := h
 ·exact ⟨hl, .inl h⟩
 ·exact ⟨hl, .inr ⟨g, cap, cur, hv, hg, (hB.block g (Array.getElem?_eq_some_iff.1 hh).1).trans hh, r⟩⟩
set_option maxRecDepth 100000 in
set_option maxHeartbeats 4000000 in
theorem numbers_any (A : Option Addr) (c : Nat) (ws : List ByteArray) (n : Int) (w : World) (hS : StdOk w) (hW : IsS w A ws) (hl : ws.length ≤ 100000) (hs : ∀ j, (ws.getD j ⟨#[]⟩).size ≤ 100000) (hn : -100 ≤ n) (hn2 : n ≤ 100) :
 Calls Tryz.prog 92 #[.slice A ws.length c, .int .i64 n] w fun e w' =>
  ((numbersF ws n = none ∧ e = .panicked (wrongP 3)) ∨ ∃ l v, numbersF ws n = some l ∧ e = .returned v ∧ w'.ownsRow w.heap.size 3 1 v l.length (l.map (Value.int .i64))) ∧ Below w.heap.size w w' := by
 obtain ⟨q, hq⟩ : ∃ q, ws.length = q := ⟨_, rfl⟩
 have HQ := hide hq; have HS := hide hS; have HW := hide hW; have HZ := hide hs
 have HMU := hide (must_errno 3)
 rw [hq] at hl ⊢
 have e1 : wrap64 (-n) = -n := by unfold wrap64; omega
 clear hq hS hW hs
 by_cases hbad : (0 ≤ n ∧ (q : Int) ≠ n) ∨ (q : Int) < -n
 ·have HB : Hid (numbersF ws n = none) := hide (by unfold numbersF; rw [HQ.out, if_pos hbad])
  by_cases h0 : 0 ≤ n
  ·have d0 : decide (0 ≤ n) = true := decide_eq_true h0
   have d1 : ((q : Int) != n) = true := bne_iff_ne.2 (by omega)
   have d2 : ¬ (q : Int) = n := by omega
   clear hbad
   go_enter Tryz.func92, Tryz.ntmps92
   go_wp2_with fail
   refine (HMU.out w HS.out.err).mono ?_
   rintro r w1 ⟨rfl, hB⟩
   go_wp2_with fail
   exact ⟨rfl, .inl ⟨HB.out, rfl⟩, hB⟩
  ·have d0 : decide (0 ≤ n) = false := decide_eq_false h0
   have d1 : decide ((q : Int) < -n) = true := decide_eq_true (by omega)
   clear hbad
   go_enter Tryz.func92, Tryz.ntmps92
   go_wp2_with fail
   refine (HMU.out w HS.out.err).mono ?_
   rintro r w1 ⟨rfl, hB⟩
   go_wp2_with fail
   exact ⟨rfl, .inl ⟨HB.out, rfl⟩, hB⟩
 ·have HB : Hid (numbersF ws n = numsF ws) := hide (by unfold numbersF; rw [HQ.out, if_neg hbad])
  have d1 : decide ((q : Int) < -n) = false := decide_eq_false (by omega)
  rw [HB.out]
  clear HB
  obtain ⟨i0, hi, hz0, hz1, hz2⟩ := en_info_parts ar_info
  have fin : ∀ d0, decide (0 ≤ n) = d0 → (d0 = true → (q : Int) = n) → Calls Tryz.prog 92 #[.slice A q c, .int .i64 n] w fun e w' =>
   ((numsF ws = none ∧ e = .panicked (wrongP 3)) ∨ ∃ l v, numsF ws = some l ∧ e = .returned v ∧ w'.ownsRow w.heap.size 3 1 v l.length (l.map (Value.int .i64))) ∧ Below w.heap.size w w' := by
   intro d0 hd0 hqn
   have d2 : d0 = true → ((q : Int) != n) = false := fun h => bne_eq_false_iff_eq.2 (hqn h)
   have d3 : d0 = true → decide ((q : Int) = n) = true := fun h => decide_eq_true (hqn h)
   clear hbad hqn
   go_enter Tryz.func92, Tryz.ntmps92
   cases d0
   all_goals
    simp only [forall_const, reduceCtorEq, false_implies, Bool.true_eq_false] at d2 d3
    go_wp2_with fail
    go_loopw [5, 29] (fun v5 i wr => ∃ (k : Nat) (l : List Int), k ≤ q ∧ i = .int .i64 k ∧ Hid (numsF (ws.take k) = some l) ∧ l.length = k ∧ Hid (wr.ownsRow w.heap.size 3 1 v5 k (l.map (Value.int .i64))) ∧ Hid (Below w.heap.size w wr)) (fun _ i _ => q - (intOf i).toNat)
    case atStart => exact ⟨0, [], by omega, rfl, hide rfl, rfl, hide (World.ownsRow_nil _ _ _ _), hide (Below.refl _ _)⟩
    case round =>
     obtain ⟨k, l, hk, rfl, HN, hlk, HO, HB⟩ := hrel
     by_cases hlt : k < q
     ·obtain ⟨b, off, rfl, hc⟩ := (HW.out.below (Nat.le_refl _) HB.out) k (by rw [HQ.out]; exact hlt)
      obtain ⟨s, hs⟩ : ∃ s, ws.getD k ⟨#[]⟩ = s := ⟨_, rfl⟩
      have hsz := HZ.out k
      rw [hs] at hc hsz
      have HSr := hide (HS.out.next HB.out)
      have HAT := hide (atoi_any s wr HSr.out (by omega))
      have HTK : Hid (ws.take (k + 1) = ws.take k ++ [s]) := hide (by rw [take_succ_getD (by rw [HQ.out]; exact hlt), hs])
      have HDR : Hid (ws = ws.take k ++ s :: ws.drop (k + 1)) := hide (by have := drop_getD (ws := ws) (k := k) (by rw [HQ.out]; exact hlt); rw [hs] at this; exact this)
      have HLK := hide hlk
      clear hs hlk
      go_wp2_with fail
      refine HAT.out.mono ?_
      rintro r w2 ⟨h, hB2⟩
      have HB2 := hide (HB.out.trans (hB2.mono HB.out.size))
      have HO2 := hide (own_keepB HO.out hB2)
      have HS2 := hide (HSr.out.next hB2)
      clear hB2
      rcases h with ⟨v, hv, rfl⟩ | ⟨hv, k2, te, pe, rfl⟩
      ·obtain ⟨hv0, hv1⟩ := atoi_range hv
       have HV := hide hv
       have HIT := hide (itoa_any v w2 HS2.out hv0 hv1)
       clear hv
       by_cases he : itoB v = s
       ·have HNF : Hid (numsF (ws.take (k + 1)) = some (l ++ [v])) := hide (by
         have h1 : numF s = some v := by
          unfold numF
          rw [HV.out]
          exact if_pos he
         rw [HTK.out, numsF_snoc, HN.out, h1]
         rfl)
        have b4 : ((itoB v).toList == s.toList) = true := by rw [he]; exact beq_self_eq_true _
        clear he
        go_wp2_with fail
        refine HIT.out.mono ?_
        rintro r w3 ⟨rfl, hB3⟩
        have HB3 := hide (HB2.out.trans (hB3.mono HB2.out.size))
        have HO3 := hide ((own_keepB HO2.out hB3).alloc (.cells #[.int .i64 v] 3))
        clear hB3
        go_wp2_with (at_builtin; go_must (refine wpList_append_own _ rfl (.tmp 48) (.tmp 50) _ rfl w.heap.size 3 i0 _ 1 8 Tryz.underlying33 hi hz0 hz1 hz2 rfl (by decide) u5 k (l.map (Value.int .i64)) rfl (by exact HO3.out) ⟨w3.heap.size, 0, none⟩ 1 1 [.int .i64 v] rfl rfl (by exact newsD (Blk.new w3 3 #[.int .i64 v])) (by intro u hu; simp at hu; subst hu; rfl) (by simp [maxLen]; omega) (by omega) (by have := HB3.out.size; simp; omega) ?_); intro v8 w8 hown hg _; have HO8 := hide hown; have HG8 := hide hg; clear hown hg)
        go_roundw
        case rel => exact ⟨k + 1, l ++ [v], by omega, by go_num, HNF, by rw [List.length_append, HLK.out]; rfl, hide (by simpa using HO8.out), hide ((HB3.out.alloc HB3.out.size _).grown HG8.out (by have := HB3.out.size; simp; omega) (fun j e => (HO3.out.lt j e).1))⟩
        case measure => simp [intOf]; omega
       ·have HNF : Hid (numsF ws = none) := hide (by
         have h1 : numF s = none := by
          unfold numF
          rw [HV.out]
          exact if_neg he
         rw [HDR.out]
         exact numsF_none h1 _ _)
        have b4 : ((itoB v).toList == s.toList) = false := str_ne he
        clear he
        go_wp2_with fail
        refine HIT.out.mono ?_
        rintro r w3 ⟨rfl, hB3⟩
        have HB3 := hide (HB2.out.trans (hB3.mono HB2.out.size))
        have HS3 := hide (HS2.out.next hB3)
        clear hB3
        go_wp2_with fail
        refine (HMU.out w3 HS3.out.err).mono ?_
        rintro r w4 ⟨rfl, hB4⟩
        go_wp2_with fail
        exact ⟨rfl, .inl ⟨HNF.out, rfl⟩, HB3.out.trans (hB4.mono HB3.out.size)⟩
      ·have HNF : Hid (numsF ws = none) := hide (by
        have h1 : numF s = none := by
         unfold numF
         split
         ·rename_i k3 e3; exact absurd e3 (hv k3)
         ·rfl
        rw [HDR.out]
        exact numsF_none h1 _ _)
       clear hv
       go_wp2_with fail
       refine (HMU.out w2 HS2.out.err).mono ?_
       rintro r w4 ⟨rfl, hB4⟩
       go_wp2_with fail
       exact ⟨rfl, .inl ⟨HNF.out, rfl⟩, HB2.out.trans (hB4.mono HB2.out.size)⟩
     ·obtain rfl : k = q := by omega
      have HNF : Hid (numsF ws = some l) := hide (by
       have := HN.out
       rw [List.take_of_length_le (by rw [HQ.out]; exact Nat.le_refl _)] at this
       exact this)
      go_wp2_with fail
      go_ret
      exact ⟨.inr ⟨l, _, HNF.out, rfl, by rw [hlk]; exact HO.out⟩, HB.out⟩
  rcases Bool.eq_false_or_eq_true (decide (0 ≤ n)) with h0 | h0
  ·exact fin true h0 (fun _ => by
    have := of_decide_eq_true h0
    omega)
  ·exact fin false h0 (fun h => by cases h)
theorem own_cellJ {w : World} {base n g i : Nat} {cp : Nat} {e : TypeId} {xs : List Value} (h : w.ownsRow base e 1 (.slice (some ⟨g, 0, none⟩) n cp) n xs) (hi : i < n) : w.cell? ⟨g, i, none⟩ = xs[i]? := by
 rcases h.2 with ⟨h1, _⟩ | ⟨g2, cap, cur, hv, hb, hg, hnc, hm, hs, ht⟩
 ·cases h1
 ·cases hv
  rw [cell_of_row w g i cur e (0, 0) hg, ← ht, List.getElem?_take, if_pos (by omega)]
  simp
theorem str_infoD : (Tryz.prog.info? 9).map (fun i => (i.zero, i.size, i.bytes)) = some (some (.string ⟨#[]⟩), 1, 16) := by kernel_rfl
theorem tell_len : ∀ {l : List Int}, (∀ x ∈ l, -9223372036854775808 ≤ x ∧ x ≤ 9223372036854775807) → (Lib.join (l.map Lib.itoa) [32]).length ≤ 22 * l.length
 | [], _ => by simp [Lib.join]
 | [x], h => by
  have := Lib.itoa_length_le x (h x (by simp)).1 (h x (by simp)).2
  simp [Lib.join, List.intercalate]
  omega
 | x :: y :: l, h => by
  have ih := tell_len (l := y :: l) (fun z hz => h z (by simp [hz]))
  have := Lib.itoa_length_le x (h x (by simp)).1 (h x (by simp)).2
  have e : Lib.join ((x :: y :: l).map Lib.itoa) [32] = Lib.itoa x ++ 32 :: Lib.join ((y :: l).map Lib.itoa) [32] := by
   simp [Lib.join, List.intercalate]
  rw [e, List.length_append, List.length_cons]
  simp only [List.length_cons] at ih ⊢
  omega
set_option maxRecDepth 100000 in
set_option maxHeartbeats 4000000 in
theorem join_any (A : Option Addr) (c : Nat) (l : List Int) (w : World) (hS : StdOk w) (hI : IsL w A l) (h0 : 0 < l.length) (hl : l.length ≤ 1000) (hr : ∀ x ∈ l, -9223372036854775808 ≤ x ∧ x ≤ 9223372036854775807) :
 Calls Tryz.prog 95 #[.slice A l.length c] w fun e w' => e = .returned (.string (tellB l)) ∧ Below w.heap.size w w' := by
 obtain ⟨q, hq⟩ : ∃ q, l.length = q := ⟨_, rfl⟩
 have HQ := hide hq; have HS := hide hS; have HI := hide hI; have HR := hide hr
 have HTL := hide (tell_len hr)
 rw [hq] at hl h0 ⊢
 obtain ⟨i0, hi, hz0, hz1, hz2⟩ := en_info_parts str_infoD
 clear hq hS hI hr
 go_enter Tryz.func95, Tryz.ntmps95
 go_wp2_with fail
 go_loopw [3, 8] (fun v3 i wr => ∃ k : Nat, k ≤ q ∧ i = .int .i64 k ∧ Hid (wr.ownsRow w.heap.size 9 1 v3 k (((l.take k).map itoB).map Value.string)) ∧ Hid (Below w.heap.size w wr)) (fun _ i _ => q - (intOf i).toNat)
 case atStart => exact ⟨0, by omega, rfl, hide (World.ownsRow_nil _ _ _ _), hide (Below.refl _ _)⟩
 case round =>
  obtain ⟨k, hk, rfl, HO, HB⟩ := hrel
  by_cases hlt : k < q
  ·obtain ⟨b, off, rfl, hc⟩ := (HI.out.below (Nat.le_refl _) HB.out) k (by rw [HQ.out]; exact hlt)
   obtain ⟨x, hx⟩ : ∃ x, l.getD k 0 = x := ⟨_, rfl⟩
   rw [hx] at hc
   have hxm : x ∈ l := by
    rw [← hx, List.getD_eq_getElem?_getD, List.getElem?_eq_getElem (by rw [HQ.out]; exact hlt)]
    exact List.getElem_mem _
   have HIT := hide (itoa_any x wr (HS.out.next HB.out) (HR.out x hxm).1 (HR.out x hxm).2)
   have HTK : Hid (((l.take (k + 1)).map itoB).map Value.string = ((l.take k).map itoB).map Value.string ++ [.string (itoB x)]) := hide (by
    rw [List.take_add_one, List.getElem?_eq_getElem (by rw [HQ.out]; exact hlt)]
    rw [List.getD_eq_getElem?_getD, List.getElem?_eq_getElem (by rw [HQ.out]; exact hlt), Option.getD_some] at hx
    rw [hx]
    simp)
   clear hx hxm
   go_wp2_with fail
   refine HIT.out.mono ?_
   rintro r w2 ⟨rfl, hB2⟩
   have HB2 := hide (HB.out.trans (hB2.mono HB.out.size))
   have HO2 := hide ((own_keepB HO.out hB2).alloc (.cells #[.string (itoB x)] 9))
   clear hB2
   go_wp2_with (at_builtin; go_must (refine wpList_append_own _ rfl (.tmp 12) (.tmp 15) _ rfl w.heap.size 9 i0 _ 1 16 Tryz.underlying52 hi hz0 hz1 hz2 rfl (by decide) u3 k (((l.take k).map itoB).map Value.string) rfl (by exact HO2.out) ⟨w2.heap.size, 0, none⟩ 1 1 [.string (itoB x)] rfl rfl (by exact newsD (Blk.new w2 9 #[.string (itoB x)])) (by intro u hu; simp at hu; subst hu; rfl) (by simp [maxLen]; omega) (by omega) (by have := HB2.out.size; simp; omega) ?_); intro v8 w8 hown hg _; have HO8 := hide hown; have HG8 := hide hg; clear hown hg)
   go_roundw
   case rel => exact ⟨k + 1, by omega, by go_num, hide (by rw [HTK.out]; simpa using HO8.out), hide ((HB2.out.alloc HB2.out.size _).grown HG8.out (by have := HB2.out.size; simp; omega) (fun j e => (HO2.out.lt j e).1))⟩
   case measure => simp [intOf]; omega
  ·obtain rfl : k = q := by omega
   have HOK := HO.out
   rw [List.take_of_length_le (by rw [HQ.out]; exact Nat.le_refl _)] at HOK
   obtain ⟨gk, cpk, cur, rfl, h1, h2, h3, h4, h5, h6⟩ := block_of_own HOK h0
   have HJ : Hid (Calls Tryz.prog 40 #[.slice (some ⟨gk, 0, none⟩) k cpk, .string ⟨#[32]⟩] wr fun e w' => e = .returned (.string (tellB l)) ∧ Below wr.heap.size wr w') := hide (by
    have hlen : (l.map itoB).length = k := by rw [List.length_map, HQ.out]
    have hmm : (l.map itoB).map (·.data.toList) = l.map Lib.itoa := by
     rw [List.map_map]
     apply List.map_congr_left
     intro z _
     rfl
    have := Tryz.strings_Join gk 0 cpk (l.map itoB) ⟨#[32]⟩ wr (fun j x hx => by
     have := (own_cellJ HOK (i := j) (by have := (List.getElem?_eq_some_iff.1 hx).1; omega))
     rw [Nat.zero_add, this, List.getElem?_map, hx]
     rfl) (HOK.lt gk rfl).2 (by rw [hlen]; omega) (by rw [hlen]; exact h3) (by
     rw [hmm]
     have := HTL.out
     rw [HQ.out] at this
     show (Lib.join (l.map Lib.itoa) [32]).length ≤ _
     omega)
    rw [hlen, hmm] at this
    exact this)
   clear h1 h2 h3 h4 h5 h6 HOK
   go_wp2_with fail
   refine HJ.out.mono ?_
   rintro r w3 ⟨rfl, hB3⟩
   have HB3 := hide (HB.out.trans (hB3.mono HB.out.size))
   clear hB3
   go_wp2_with fail
   go_ret
   exact ⟨rfl, HB3.out⟩
end
section
open Go Go.RowKit
def AnsP (x : Except Int ByteArray) (r : Ending) : Prop := match x with
 | .ok o => r = .returned (.string o)
 | .error e => r = .panicked (wrongP e)
def DoP (w0 w : World) (g : Nat) (L : Ly) (x : Ans) (r : Ending) (w' : World) : Prop := AnsP x.o r ∧ DkTo w0 w g L w' x.d
structure CmdIn (w0 w : World) (g : Nat) (d : Dk) (L : Ly) (k : Nat) (A : Option Addr) (ws : List ByteArray) : Prop where
 std : StdOk w0
 dk : DkL w0 w g d L
 ok : DkOk k d
 hk : k ≤ 6000
 wl : ws.length ≤ 50000
 wz : ∀ j, (ws.getD j ⟨#[]⟩).size ≤ 100000
 at_ : IsS w A ws
 ao : ∀ x, A = some x → ¬ DFoot g L x.block
section
variable {w0 w w1 : World} {g k : Nat} {d : Dk} {L : Ly} {A : Option Addr} {ws : List ByteArray} {n : Int} {f : List Int → Ans} {l : List Int}
theorem withN_none (h : numbersF ws n = none) : withN d ws n f = ⟨.error 3, d⟩ := by unfold withN; rw [h]
theorem withN_some (h : numbersF ws n = some l) : withN d ws n f = f l := by unfold withN; rw [h]
theorem noC_none {x : Ans} (h : d.c = none) : noC d x = x := by unfold noC; rw [h]
theorem noC_some {x : Ans} {y : Nat × Cl} (h : d.c = some y) : noC d x = ⟨.error 6, d⟩ := by unfold noC; rw [h]
theorem hasC_none {x : Nat → Cl → Ans} (h : d.c = none) : hasC d x = ⟨.error 6, d⟩ := by unfold hasC; rw [h]
theorem hasC_some {x : Nat → Cl → Ans} {y : Nat × Cl} (h : d.c = some y) : hasC d x = x y.1 y.2 := by unfold hasC; rw [h]
theorem CmdIn.stdw (h : CmdIn w0 w g d L k A ws) : StdOk w := h.std.below h.std.big h.dk.low
theorem CmdIn.stdB (h : CmdIn w0 w g d L k A ws) (hB : Below w.heap.size w w1) : StdOk w1 := h.stdw.next hB
theorem CmdIn.nums (h : CmdIn w0 w g d L k A ws) (n : Int) (h1 : -100 ≤ n) (h2 : n ≤ 100) (c : Nat) : Calls Tryz.prog 92 #[.slice A ws.length c, .int .i64 n] w fun e w' =>
 ((numbersF ws n = none ∧ e = .panicked (wrongP 3)) ∨ ∃ l v, numbersF ws n = some l ∧ e = .returned v ∧ w'.ownsRow w.heap.size 3 1 v l.length (l.map (Value.int .i64))) ∧ Below w.heap.size w w' :=
 numbers_any A c ws n w h.stdw h.at_ (by have := h.wl; omega) h.wz h1 h2
theorem CmdIn.bad (h : CmdIn w0 w g d L k A ws) {x : Ans} {e : Int} (hx : x = ⟨.error e, d⟩) (hB : Below w.heap.size w w1) : DoP w0 w g L x (.panicked (wrongP e)) w1 := by
 subst hx
 exact ⟨rfl, h.dk.to hB⟩
theorem CmdIn.fine (h : CmdIn w0 w g d L k A ws) {x : Ans} {o : ByteArray} (hx : x = ⟨.ok o, d⟩) (hB : Below w.heap.size w w1) : DoP w0 w g L x (.returned (.string o)) w1 := by
 subst hx
 exact ⟨rfl, h.dk.to hB⟩
theorem CmdIn.noCell (h : CmdIn w0 w g d L k A ws) (hB : Below w.heap.size w w1) (hd : d.c = none) : w1.cell? ⟨g, 10, none⟩ = some (.pointer none) := by
 have h1 := (h.dk.below hB).blk.cell 10
 have h2 := h.dk.clu
 unfold CluAt at h2
 rw [hd] at h2
 rw [h1]
 show some L.cv = _
 rw [h2.1]
theorem CmdIn.clCell (h : CmdIn w0 w g d L k A ws) (hB : Below w.heap.size w w1) {y : Nat × Cl} (hd : d.c = some y) : ∃ a b, w1.cell? ⟨g, 10, none⟩ = some (.pointer (some ⟨a.g, 0, none⟩)) ∧ L.cv = ptrV a.g ∧ L.S = shape a (fullN d.p) d.p ⟨L.v 0, L.v 1, .slice none 0 0⟩ y.1 y.2 ∧ w0.heap.size ≤ b ∧ b ≤ w1.heap.size ∧ ClAt w1 b a (fullN d.p) d.p ⟨L.v 0, L.v 1, .slice none 0 0⟩ y.1 y.2 := by
 have hD := h.dk.below hB
 have h1 := hD.blk.cell 10
 have h2 := h.dk.clu
 unfold CluAt at h2
 rw [hd] at h2
 obtain ⟨a, h3, h4⟩ := h2
 obtain ⟨b, h5, h6, h7⟩ := hD.fam
 rw [h4] at h7
 refine ⟨a, b, ?_, h3, h4, h5, h6, h7⟩
 rw [h1]
 show some L.cv = _
 rw [h3]
theorem nums_cells {W : World} {b : Nat} {v : Value} (h : W.ownsRow b 3 1 v l.length (l.map (Value.int .i64))) (h0 : 0 < l.length) : ∃ gk cp, v = .slice (some ⟨gk, 0, none⟩) l.length cp ∧ l.length ≤ cp ∧ b ≤ gk ∧ gk < W.heap.size ∧ ∀ i x, l[i]? = some x → W.cell? ⟨gk, i, none⟩ = some (.int .i64 x) := by
 obtain ⟨gk, cp, cur, rfl, h1, h2, h3, h4, h5, h6⟩ := block_of_own h h0
 refine ⟨gk, cp, rfl, h3, h1, (Array.getElem?_eq_some_iff.1 h2).1, fun i x hx => ?_⟩
 rw [own_cellJ h (List.getElem?_eq_some_iff.1 hx).1, List.getElem?_map, hx]
 rfl
theorem dnum1 {W : World} {b : Nat} {v : Value} (h : W.ownsRow b 3 1 v l.length (l.map (Value.int .i64))) (hl : (l.length : Int) = 1) : ∃ x gk cp, l = [x] ∧ v = .slice (some ⟨gk, 0, none⟩) 1 cp ∧ W.cell? ⟨gk, 0, none⟩ = some (.int .i64 x) ∧ b ≤ gk ∧ gk < W.heap.size := by
 obtain ⟨gk, cp, rfl, _, h1, h2, h3⟩ := nums_cells h (by omega)
 match l, hl, h3 with
 | [x], _, h3 => exact ⟨x, gk, cp, rfl, rfl, h3 0 x rfl, h1, h2⟩
theorem dnum2 {W : World} {b : Nat} {v : Value} (h : W.ownsRow b 3 1 v l.length (l.map (Value.int .i64))) (hl : (l.length : Int) = 2) : ∃ x y gk cp, l = [x, y] ∧ v = .slice (some ⟨gk, 0, none⟩) 2 cp ∧ W.cell? ⟨gk, 0, none⟩ = some (.int .i64 x) ∧ W.cell? ⟨gk, 1, none⟩ = some (.int .i64 y) ∧ b ≤ gk ∧ gk < W.heap.size := by
 obtain ⟨gk, cp, rfl, _, h1, h2, h3⟩ := nums_cells h (by omega)
 match l, hl, h3 with
 | [x, y], _, h3 => exact ⟨x, y, gk, cp, rfl, rfl, h3 0 x rfl, h3 1 y rfl, h1, h2⟩
theorem dnum3 {W : World} {b : Nat} {v : Value} (h : W.ownsRow b 3 1 v l.length (l.map (Value.int .i64))) (hl : (l.length : Int) = 3) : ∃ x y z gk cp, l = [x, y, z] ∧ v = .slice (some ⟨gk, 0, none⟩) 3 cp ∧ W.cell? ⟨gk, 0, none⟩ = some (.int .i64 x) ∧ W.cell? ⟨gk, 1, none⟩ = some (.int .i64 y) ∧ W.cell? ⟨gk, 2, none⟩ = some (.int .i64 z) ∧ b ≤ gk ∧ gk < W.heap.size := by
 obtain ⟨gk, cp, rfl, _, h1, h2, h3⟩ := nums_cells h (by omega)
 match l, hl, h3 with
 | [x, y, z], _, h3 => exact ⟨x, y, z, gk, cp, rfl, rfl, h3 0 x rfl, h3 1 y rfl, h3 2 z rfl, h1, h2⟩
theorem dnum4 {W : World} {b : Nat} {v : Value} (h : W.ownsRow b 3 1 v l.length (l.map (Value.int .i64))) (hl : (l.length : Int) = 4) : ∃ x y z u gk cp, l = [x, y, z, u] ∧ v = .slice (some ⟨gk, 0, none⟩) 4 cp ∧ W.cell? ⟨gk, 0, none⟩ = some (.int .i64 x) ∧ W.cell? ⟨gk, 1, none⟩ = some (.int .i64 y) ∧ W.cell? ⟨gk, 2, none⟩ = some (.int .i64 z) ∧ W.cell? ⟨gk, 3, none⟩ = some (.int .i64 u) ∧ b ≤ gk ∧ gk < W.heap.size := by
 obtain ⟨gk, cp, rfl, _, h1, h2, h3⟩ := nums_cells h (by omega)
 match l, hl, h3 with
 | [x, y, z, u], _, h3 => exact ⟨x, y, z, u, gk, cp, rfl, rfl, h3 0 x rfl, h3 1 y rfl, h3 2 z rfl, h3 3 u rfl, h1, h2⟩
theorem dnum5 {W : World} {b : Nat} {v : Value} (h : W.ownsRow b 3 1 v l.length (l.map (Value.int .i64))) (hl : (l.length : Int) = 5) : ∃ x y z u t gk cp, l = [x, y, z, u, t] ∧ v = .slice (some ⟨gk, 0, none⟩) 5 cp ∧ W.cell? ⟨gk, 0, none⟩ = some (.int .i64 x) ∧ W.cell? ⟨gk, 1, none⟩ = some (.int .i64 y) ∧ W.cell? ⟨gk, 2, none⟩ = some (.int .i64 z) ∧ W.cell? ⟨gk, 3, none⟩ = some (.int .i64 u) ∧ W.cell? ⟨gk, 4, none⟩ = some (.int .i64 t) ∧ b ≤ gk ∧ gk < W.heap.size := by
 obtain ⟨gk, cp, rfl, _, h1, h2, h3⟩ := nums_cells h (by omega)
 match l, hl, h3 with
 | [x, y, z, u, t], _, h3 => exact ⟨x, y, z, u, t, gk, cp, rfl, rfl, h3 0 x rfl, h3 1 y rfl, h3 2 z rfl, h3 3 u rfl, h3 4 t rfl, h1, h2⟩
theorem dnum6 {W : World} {b : Nat} {v : Value} (h : W.ownsRow b 3 1 v l.length (l.map (Value.int .i64))) (hl : (l.length : Int) = 6) : ∃ x y z u t s gk cp, l = [x, y, z, u, t, s] ∧ v = .slice (some ⟨gk, 0, none⟩) 6 cp ∧ W.cell? ⟨gk, 0, none⟩ = some (.int .i64 x) ∧ W.cell? ⟨gk, 1, none⟩ = some (.int .i64 y) ∧ W.cell? ⟨gk, 2, none⟩ = some (.int .i64 z) ∧ W.cell? ⟨gk, 3, none⟩ = some (.int .i64 u) ∧ W.cell? ⟨gk, 4, none⟩ = some (.int .i64 t) ∧ W.cell? ⟨gk, 5, none⟩ = some (.int .i64 s) ∧ b ≤ gk ∧ gk < W.heap.size := by
 obtain ⟨gk, cp, rfl, _, h1, h2, h3⟩ := nums_cells h (by omega)
 match l, hl, h3 with
 | [x, y, z, u, t, s], _, h3 => exact ⟨x, y, z, u, t, s, gk, cp, rfl, rfl, h3 0 x rfl, h3 1 y rfl, h3 2 z rfl, h3 3 u rfl, h3 4 t rfl, h3 5 s rfl, h1, h2⟩
theorem own_low {w : World} {base b2 size n : Nat} {e : TypeId} {v : Value} {xs : List Value} (h : w.ownsRow base e size v n xs) (hb : b2 ≤ base) : w.ownsRow b2 e size v n xs := by
 obtain ⟨hl, h | ⟨g, cap, cur, hv, hg, r⟩⟩ := h
 ·exact ⟨hl, .inl h⟩
 ·exact ⟨hl, .inr ⟨g, cap, cur, hv, Nat.le_trans hb hg, r⟩⟩
end
end
section
open Go Go.RowKit
theorem ba_beq (a b : ByteArray) : (a == b) = decide (a = b) := by
 by_cases h : a = b
 ·subst h
  rw [decide_eq_true rfl]
  show (a.data == a.data) = true
  simp
 ·rw [decide_eq_false h]
  obtain ⟨a⟩ := a
  obtain ⟨b⟩ := b
  show (a == b) = false
  simp
  intro e
  exact h (by rw [e])
def entE : List (ByteArray × Value) → Nat → List MapEntry
 | [], _ => []
 | x :: l, i => { key := .string x.1, val := x.2, born := i } :: entE l (i + 1)
theorem entE_snoc (x : ByteArray × Value) : ∀ (l : List (ByteArray × Value)) (i : Nat), entE (l ++ [x]) i = entE l i ++ [{ key := .string x.1, val := x.2, born := i + l.length }]
 | [], i => rfl
 | y :: l, i => by
  rw [List.cons_append, entE, entE_snoc x l (i + 1), entE, List.length_cons, show i + 1 + l.length = i + (l.length + 1) by omega]
  rfl
def mapW (w : World) (l : List (ByteArray × Value)) : World := w.alloc (.map (entE l 0).toArray l.length)
def findS (s : ByteArray) : List (ByteArray × Value) → Nat → Option (Nat × Value)
 | [], _ => none
 | x :: l, i => if s = x.1 then some (i, x.2) else findS s l (i + 1)
theorem find_now (s : ByteArray) : ∀ (l : List (ByteArray × Value)) (i j : Nat), Instr.findNow .string (.string s) (entE l j) i = some (findS s l i)
 | [], i, j => rfl
 | x :: l, i, j => by
  have ih := find_now s l (i + 1) (j + 1)
  unfold entE Instr.findNow findS
  simp only [Instr.sameNow]
  rw [ba_beq]
  by_cases h : s = x.1
  ·rw [decide_eq_true h, if_pos h]
  ·rw [decide_eq_false h, if_neg h]
   exact ih
theorem find_key (w : World) (s : ByteArray) (l : List (ByteArray × Value)) : (Instr.findKey 9 (.string s) (entE l 0)).run Tryz.prog w = .ok (findS s l 0) w := by
 unfold Instr.findKey
 simp only [Sem.run_bind, run_underlying Tryz.underlying9, Result.andThen_ok, find_now]
 rfl
theorem check_n (em : Bool) (n : Nat) (w : World) (s : ByteArray) : (Instr.checkKey em (n + 1) 9 (.string s)).run Tryz.prog w = .ok () w := by
 simp [Instr.checkKey, run_underlying Tryz.underlying9]
theorem check_str (em : Bool) (w : World) (s : ByteArray) : (Instr.checkKey em 10000 9 (.string s)).run Tryz.prog w = .ok () w := check_n em 9999 w s
theorem mapW_at (w : World) (l : List (ByteArray × Value)) : (mapW w l).heap[w.heap.size]? = some (.map (entE l 0).toArray l.length) := heap_alloc_new w _
theorem mapW_get (w : World) (l : List (ByteArray × Value)) : (getObj w.heap.size).run Tryz.prog (mapW w l) = .ok (.map (entE l 0).toArray l.length) (mapW w l) := by simp [getObj, Sem.run, mapW_at]
theorem mapW_set (w : World) (l : List (ByteArray × Value)) (o : Obj) : (setObj w.heap.size o).run Tryz.prog (mapW w l) = .ok () { mapW w l with heap := (mapW w l).heap.setIfInBounds w.heap.size o } := by simp [setObj, Sem.run, mapW_at]
theorem upd_str (w : World) (l : List (ByteArray × Value)) (k : ByteArray) (v : Value) (hk : findS k l 0 = none) : (Instr.mapUpdate 129 (.map (some w.heap.size)) (.string k) v).run Tryz.prog (mapW w l) = .ok () (mapW w (l ++ [(k, v)])) := by
 unfold Instr.mapUpdate
 simp only [Sem.run_bind, run_underlying Tryz.underlying129, Result.andThen_ok, mapW_get, check_str, List.toList_toArray, find_key, hk]
 have e : (entE l 0).toArray.push { key := .string k, val := v, born := l.length } = (entE (l ++ [(k, v)]) 0).toArray := by
  rw [entE_snoc]
  simp
 rw [e]
 rw [mapW_set w l]
 have e2 : (mapW w l).heap.setIfInBounds w.heap.size (.map (entE (l ++ [(k, v)]) 0).toArray (l.length + 1)) = (mapW w (l ++ [(k, v)])).heap := by
  show (w.heap.push _).setIfInBounds w.heap.size _ = w.heap.push _
  apply Array.ext'
  rw [Array.toList_setIfInBounds, Array.toList_push, Array.toList_push, ← Array.length_toList, List.set_append_right _ _ (Nat.le_refl _)]
  simp
 rw [e2]
 rfl
theorem look_str (w : World) (l : List (ByteArray × Value)) (s : ByteArray) : (Instr.lookup 129 (.map (some w.heap.size)) (.string s) false).run Tryz.prog (mapW w l) = .ok (((findS s l 0).map (·.2)).getD .nilFunc) (mapW w l) := by
 unfold Instr.lookup
 simp only [Sem.run_bind, run_underlying Tryz.underlying129, Result.andThen_ok, mapW_get, check_str, List.toList_toArray, Sem.run_pure, find_key]
 cases findS s l 0 with
 | none => simp [show ∀ W : World, (zeroValue 75).run Tryz.prog W = .ok .nilFunc W from fun W => by kernel_rfl]
 | some x => simp
def doesL (g : Nat) : List (ByteArray × Value) := [
 (⟨#[98, 121, 116, 101, 115]⟩, .func (.func 47) #[.pointer (some ⟨g, 0, none⟩)] #[]),
 (⟨#[99, 108, 101, 97, 114]⟩, .func (.func 48) #[.pointer (some ⟨g, 0, none⟩)] #[]),
 (⟨#[99, 108, 111, 99, 107, 115]⟩, .func (.func 49) #[.pointer (some ⟨g, 0, none⟩)] #[]),
 (⟨#[100, 114, 105, 102, 116]⟩, .func (.func 50) #[.pointer (some ⟨g, 0, none⟩)] #[]),
 (⟨#[104, 101, 108, 112]⟩, .func (.func 51) #[.pointer (some ⟨g, 0, none⟩)] #[]),
 (⟨#[108, 105, 110, 107]⟩, .func (.func 52) #[.pointer (some ⟨g, 0, none⟩)] #[]),
 (⟨#[108, 111, 99, 97, 108]⟩, .func (.func 53) #[.pointer (some ⟨g, 0, none⟩)] #[]),
 (⟨#[108, 111, 115, 101]⟩, .func (.func 54) #[.pointer (some ⟨g, 0, none⟩)] #[]),
 (⟨#[109, 101, 109, 98, 101, 114, 115]⟩, .func (.func 55) #[.pointer (some ⟨g, 0, none⟩)] #[]),
 (⟨#[109, 105, 100, 112, 111, 105, 110, 116]⟩, .func (.func 56) #[.pointer (some ⟨g, 0, none⟩)] #[]),
 (⟨#[109, 111, 100, 101]⟩, .func (.func 57) #[.pointer (some ⟨g, 0, none⟩)] #[]),
 (⟨#[112, 108, 97, 110]⟩, .func (.func 58) #[.pointer (some ⟨g, 0, none⟩)] #[]),
 (⟨#[112, 117, 116]⟩, .func (.func 59) #[.pointer (some ⟨g, 0, none⟩)] #[]),
 (⟨#[114, 101, 97, 100]⟩, .func (.func 60) #[.pointer (some ⟨g, 0, none⟩)] #[]),
 (⟨#[114, 101, 97, 108]⟩, .func (.func 61) #[.pointer (some ⟨g, 0, none⟩)] #[]),
 (⟨#[114, 101, 99, 101, 105, 118, 101]⟩, .func (.func 62) #[.pointer (some ⟨g, 0, none⟩)] #[]),
 (⟨#[114, 111, 117, 110, 100]⟩, .func (.func 63) #[.pointer (some ⟨g, 0, none⟩)] #[]),
 (⟨#[115, 108, 111, 116]⟩, .func (.func 64) #[.pointer (some ⟨g, 0, none⟩)] #[]),
 (⟨#[115, 112, 114, 101, 97, 100]⟩, .func (.func 65) #[.pointer (some ⟨g, 0, none⟩)] #[]),
 (⟨#[115, 116, 97, 114, 116]⟩, .func (.func 66) #[.pointer (some ⟨g, 0, none⟩)] #[])]
def doesV (g : Nat) (s : ByteArray) : Value := ((findS s (doesL g) 0).map (·.2)).getD .nilFunc
theorem find_look (s : ByteArray) : ∀ (l : List (ByteArray × Value)) (i : Nat), (findS s l i).map (·.2) = lookS s l
 | [], _ => rfl
 | x :: l, i => by
  unfold findS lookS
  split
  ·rfl
  ·exact find_look s l (i + 1)
theorem does_look (g : Nat) (s : ByteArray) : doesV g s = (lookS s (doesL g)).getD .nilFunc := by
 unfold doesV
 rw [find_look]
def dL0 (g : Nat) : List (ByteArray × Value) := (doesL g).take 0
def dL1 (g : Nat) : List (ByteArray × Value) := (doesL g).take 1
def dL2 (g : Nat) : List (ByteArray × Value) := (doesL g).take 2
def dL3 (g : Nat) : List (ByteArray × Value) := (doesL g).take 3
def dL4 (g : Nat) : List (ByteArray × Value) := (doesL g).take 4
def dL5 (g : Nat) : List (ByteArray × Value) := (doesL g).take 5
def dL6 (g : Nat) : List (ByteArray × Value) := (doesL g).take 6
def dL7 (g : Nat) : List (ByteArray × Value) := (doesL g).take 7
def dL8 (g : Nat) : List (ByteArray × Value) := (doesL g).take 8
def dL9 (g : Nat) : List (ByteArray × Value) := (doesL g).take 9
def dL10 (g : Nat) : List (ByteArray × Value) := (doesL g).take 10
def dL11 (g : Nat) : List (ByteArray × Value) := (doesL g).take 11
def dL12 (g : Nat) : List (ByteArray × Value) := (doesL g).take 12
def dL13 (g : Nat) : List (ByteArray × Value) := (doesL g).take 13
def dL14 (g : Nat) : List (ByteArray × Value) := (doesL g).take 14
def dL15 (g : Nat) : List (ByteArray × Value) := (doesL g).take 15
def dL16 (g : Nat) : List (ByteArray × Value) := (doesL g).take 16
def dL17 (g : Nat) : List (ByteArray × Value) := (doesL g).take 17
def dL18 (g : Nat) : List (ByteArray × Value) := (doesL g).take 18
def dL19 (g : Nat) : List (ByteArray × Value) := (doesL g).take 19
def dL20 (g : Nat) : List (ByteArray × Value) := (doesL g).take 20
set_option maxRecDepth 100000 in
set_option maxHeartbeats 4000000 in
theorem does_any (g : Nat) (s : ByteArray) (w : World) : Calls Tryz.prog 24 #[.pointer (some ⟨g, 0, none⟩), .string s] w fun e w' => e = .returned (doesV g s) ∧ Below w.heap.size w w' := by
 have hmm : (Instr.makeMap 129 none).run Tryz.prog w = .ok (.map (some w.heap.size)) (mapW w (dL0 g)) := run_makeMap _ _
 have m0 : (Instr.mapUpdate 129 (.map (some w.heap.size)) (.string ⟨#[98, 121, 116, 101, 115]⟩) (.func (.func 47) #[.pointer (some ⟨g, 0, none⟩)] #[])).run Tryz.prog (mapW w (dL0 g)) = .ok () (mapW w (dL1 g)) := upd_str w (dL0 g) _ _ rfl
 have m1 : (Instr.mapUpdate 129 (.map (some w.heap.size)) (.string ⟨#[99, 108, 101, 97, 114]⟩) (.func (.func 48) #[.pointer (some ⟨g, 0, none⟩)] #[])).run Tryz.prog (mapW w (dL1 g)) = .ok () (mapW w (dL2 g)) := upd_str w (dL1 g) _ _ rfl
 have m2 : (Instr.mapUpdate 129 (.map (some w.heap.size)) (.string ⟨#[99, 108, 111, 99, 107, 115]⟩) (.func (.func 49) #[.pointer (some ⟨g, 0, none⟩)] #[])).run Tryz.prog (mapW w (dL2 g)) = .ok () (mapW w (dL3 g)) := upd_str w (dL2 g) _ _ rfl
 have m3 : (Instr.mapUpdate 129 (.map (some w.heap.size)) (.string ⟨#[100, 114, 105, 102, 116]⟩) (.func (.func 50) #[.pointer (some ⟨g, 0, none⟩)] #[])).run Tryz.prog (mapW w (dL3 g)) = .ok () (mapW w (dL4 g)) := upd_str w (dL3 g) _ _ rfl
 have m4 : (Instr.mapUpdate 129 (.map (some w.heap.size)) (.string ⟨#[104, 101, 108, 112]⟩) (.func (.func 51) #[.pointer (some ⟨g, 0, none⟩)] #[])).run Tryz.prog (mapW w (dL4 g)) = .ok () (mapW w (dL5 g)) := upd_str w (dL4 g) _ _ rfl
 have m5 : (Instr.mapUpdate 129 (.map (some w.heap.size)) (.string ⟨#[108, 105, 110, 107]⟩) (.func (.func 52) #[.pointer (some ⟨g, 0, none⟩)] #[])).run Tryz.prog (mapW w (dL5 g)) = .ok () (mapW w (dL6 g)) := upd_str w (dL5 g) _ _ rfl
 have m6 : (Instr.mapUpdate 129 (.map (some w.heap.size)) (.string ⟨#[108, 111, 99, 97, 108]⟩) (.func (.func 53) #[.pointer (some ⟨g, 0, none⟩)] #[])).run Tryz.prog (mapW w (dL6 g)) = .ok () (mapW w (dL7 g)) := upd_str w (dL6 g) _ _ rfl
 have m7 : (Instr.mapUpdate 129 (.map (some w.heap.size)) (.string ⟨#[108, 111, 115, 101]⟩) (.func (.func 54) #[.pointer (some ⟨g, 0, none⟩)] #[])).run Tryz.prog (mapW w (dL7 g)) = .ok () (mapW w (dL8 g)) := upd_str w (dL7 g) _ _ rfl
 have m8 : (Instr.mapUpdate 129 (.map (some w.heap.size)) (.string ⟨#[109, 101, 109, 98, 101, 114, 115]⟩) (.func (.func 55) #[.pointer (some ⟨g, 0, none⟩)] #[])).run Tryz.prog (mapW w (dL8 g)) = .ok () (mapW w (dL9 g)) := upd_str w (dL8 g) _ _ rfl
 have m9 : (Instr.mapUpdate 129 (.map (some w.heap.size)) (.string ⟨#[109, 105, 100, 112, 111, 105, 110, 116]⟩) (.func (.func 56) #[.pointer (some ⟨g, 0, none⟩)] #[])).run Tryz.prog (mapW w (dL9 g)) = .ok () (mapW w (dL10 g)) := upd_str w (dL9 g) _ _ rfl
 have m10 : (Instr.mapUpdate 129 (.map (some w.heap.size)) (.string ⟨#[109, 111, 100, 101]⟩) (.func (.func 57) #[.pointer (some ⟨g, 0, none⟩)] #[])).run Tryz.prog (mapW w (dL10 g)) = .ok () (mapW w (dL11 g)) := upd_str w (dL10 g) _ _ rfl
 have m11 : (Instr.mapUpdate 129 (.map (some w.heap.size)) (.string ⟨#[112, 108, 97, 110]⟩) (.func (.func 58) #[.pointer (some ⟨g, 0, none⟩)] #[])).run Tryz.prog (mapW w (dL11 g)) = .ok () (mapW w (dL12 g)) := upd_str w (dL11 g) _ _ rfl
 have m12 : (Instr.mapUpdate 129 (.map (some w.heap.size)) (.string ⟨#[112, 117, 116]⟩) (.func (.func 59) #[.pointer (some ⟨g, 0, none⟩)] #[])).run Tryz.prog (mapW w (dL12 g)) = .ok () (mapW w (dL13 g)) := upd_str w (dL12 g) _ _ rfl
 have m13 : (Instr.mapUpdate 129 (.map (some w.heap.size)) (.string ⟨#[114, 101, 97, 100]⟩) (.func (.func 60) #[.pointer (some ⟨g, 0, none⟩)] #[])).run Tryz.prog (mapW w (dL13 g)) = .ok () (mapW w (dL14 g)) := upd_str w (dL13 g) _ _ rfl
 have m14 : (Instr.mapUpdate 129 (.map (some w.heap.size)) (.string ⟨#[114, 101, 97, 108]⟩) (.func (.func 61) #[.pointer (some ⟨g, 0, none⟩)] #[])).run Tryz.prog (mapW w (dL14 g)) = .ok () (mapW w (dL15 g)) := upd_str w (dL14 g) _ _ rfl
 have m15 : (Instr.mapUpdate 129 (.map (some w.heap.size)) (.string ⟨#[114, 101, 99, 101, 105, 118, 101]⟩) (.func (.func 62) #[.pointer (some ⟨g, 0, none⟩)] #[])).run Tryz.prog (mapW w (dL15 g)) = .ok () (mapW w (dL16 g)) := upd_str w (dL15 g) _ _ rfl
 have m16 : (Instr.mapUpdate 129 (.map (some w.heap.size)) (.string ⟨#[114, 111, 117, 110, 100]⟩) (.func (.func 63) #[.pointer (some ⟨g, 0, none⟩)] #[])).run Tryz.prog (mapW w (dL16 g)) = .ok () (mapW w (dL17 g)) := upd_str w (dL16 g) _ _ rfl
 have m17 : (Instr.mapUpdate 129 (.map (some w.heap.size)) (.string ⟨#[115, 108, 111, 116]⟩) (.func (.func 64) #[.pointer (some ⟨g, 0, none⟩)] #[])).run Tryz.prog (mapW w (dL17 g)) = .ok () (mapW w (dL18 g)) := upd_str w (dL17 g) _ _ rfl
 have m18 : (Instr.mapUpdate 129 (.map (some w.heap.size)) (.string ⟨#[115, 112, 114, 101, 97, 100]⟩) (.func (.func 65) #[.pointer (some ⟨g, 0, none⟩)] #[])).run Tryz.prog (mapW w (dL18 g)) = .ok () (mapW w (dL19 g)) := upd_str w (dL18 g) _ _ rfl
 have m19 : (Instr.mapUpdate 129 (.map (some w.heap.size)) (.string ⟨#[115, 116, 97, 114, 116]⟩) (.func (.func 66) #[.pointer (some ⟨g, 0, none⟩)] #[])).run Tryz.prog (mapW w (dL19 g)) = .ok () (mapW w (dL20 g)) := upd_str w (dL19 g) _ _ rfl
 have hl : (Instr.lookup 129 (.map (some w.heap.size)) (.string s) false).run Tryz.prog (mapW w (dL20 g)) = .ok (doesV g s) (mapW w (dL20 g)) := look_str w _ s
 have HB : Hid (Below w.heap.size w (mapW w (dL20 g))) := hide ((Below.refl _ _).alloc (Nat.le_refl _) _)
 go_enter Tryz.func24, Tryz.ntmps24
 go_wp2_with fail
 go_ret
 exact ⟨rfl, HB.out⟩
end
section
open Go Go.RowKit
theorem spans_len (p : Nat → Bool) (s : ByteArray) : ∀ (f pos : Nat) (st : Option Nat) (acc : List (Nat × Nat)), (Lib.spansFromP p s f pos st acc).1.length ≤ acc.length + f
 | 0, _, _, acc => by unfold Lib.spansFromP; simp
 | f + 1, pos, st, acc => by
  unfold Lib.spansFromP
  split
  ·split
   ·split
    ·rename_i a
     have := spans_len p s f (pos + (Utf8.decode s pos).2) none (acc ++ [(a, pos)])
     simp at this ⊢
     omega
    ·have := spans_len p s f (pos + (Utf8.decode s pos).2) none acc
     omega
   ·split
    ·rename_i a
     have := spans_len p s f (pos + (Utf8.decode s pos).2) (some a) acc
     omega
    ·have := spans_len p s f (pos + (Utf8.decode s pos).2) (some pos) acc
     omega
  ·simp
def wordsD (s : ByteArray) : List ByteArray := Lib.goFieldsP (fun x => x == 32) s
theorem words_len (s : ByteArray) : (wordsD s).length ≤ s.size + 1 := by
 unfold wordsD Lib.goFieldsP Lib.spansOfP
 rw [List.length_map]
 have h := spans_len (fun x => x == 32) s s.size 0 none []
 unfold Lib.closeSpans
 split
 ·simp at h ⊢
  omega
 ·simp at h
  omega
theorem words_size (s : ByteArray) : ∀ x ∈ wordsD s, x.size ≤ s.size := fun x hx => by
 unfold wordsD Lib.goFieldsP at hx
 obtain ⟨y, _, rfl⟩ := List.mem_map.1 hx
 rw [ByteArray.size_extract]
 omega
set_option maxRecDepth 100000 in
theorem line2_any (x : Nat) (w : World) : Calls Tryz.prog 23 #[.int .i32 (x : Int)] w fun e w' => e = .returned (.bool (x == 32)) ∧ w' = w := by
 have h : ((x : Int) == 32) = (x == 32) := by
  rw [Bool.eq_iff_iff, beq_iff_eq, beq_iff_eq]
  omega
 go_enter Tryz.func23, Tryz.ntmps23
 go_wp2_with fail
 go_ret
 exact ⟨ret_bool (by first | exact h | (rw [← h]; rfl) | simp), rfl⟩
theorem words_any (s : ByteArray) (w : World) (hs : s.size ≤ 1000000) : Calls Tryz.prog 22 #[.string s, .func (.func 23) #[] #[]] w fun e w' => ∃ A, e = .returned (.slice (some ⟨A, 0, none⟩) (wordsD s).length (wordsD s).length) ∧ w.heap.size ≤ A ∧
 w'.ownsRow w.heap.size 9 1 (.slice (some ⟨A, 0, none⟩) (wordsD s).length (wordsD s).length) (wordsD s).length ((wordsD s).map Value.string) ∧ Below w.heap.size w w' :=
 Tryz.strings_FieldsFunc_runes 23 #[] (enters_of Tryz.func23 (by kernel_rfl) rfl) (fun x => x == 32) s w (by omega) (fun W x _ _ => (line2_any x W).mono (fun e w' ⟨h1, h2⟩ => ⟨h1, 0, by rw [h2]; rfl⟩))
end
section
open Go Go.RowKit
theorem itoB_size (n : Int) (h0 : -9223372036854775808 ≤ n) (h1 : n ≤ 9223372036854775807) : (itoB n).size ≤ 21 := by
 have := Lib.itoa_length_le n h0 h1
 show (Lib.itoa n).toArray.size ≤ 21
 simpa using this
set_option maxRecDepth 100000 in
theorem catch_idle (p : Addr) (w : World) :
 CallsD Tryz.prog 20 #[.pointer (some p)] .returning w fun e u' w' => e = .returned (.tuple #[]) ∧ u' = .returning ∧ w' = w := by
 refine callsD_of_wpS Tryz.func20 rfl fun c₀ cs hu => ?_
 simp only [Tryz.ntmps20, List.size_toArray, List.length_cons, List.length_nil, Nat.reduceAdd, Nat.reduceSub, Array.replicate_succ, Array.replicate_zero, List.push_toArray, List.append_toArray, List.nil_append, List.cons_append]
 apply wpS_seq
 apply wpS_region
 simp [wpOpsS, go_sem, recoverD, hu, Exit.thenS]
 refine wpS_of_wp ?_
 go_wp2_with fail
 exact ⟨rfl, .returning, by rw [← hu], _, results_none rfl _ _ _, rfl, rfl, rfl⟩
set_option maxRecDepth 100000 in
theorem catch_wrong (po : Nat) (s : ByteArray) (n : Int) (older : List PanicEntry) (w : World) (hS : StdOk w) (hc : Blk w po 9 #[.string s]) (h0 : -9223372036854775808 ≤ n) (h1 : n ≤ 9223372036854775807) :
 CallsD Tryz.prog 20 #[.pointer (some ⟨po, 0, none⟩)] (.panicking ({ v := .iface 70 (.agg #[.int .i64 n]), recovered := false } :: older)) w fun e u' w' =>
  e = .returned (.tuple #[]) ∧ u' = .panicking ({ v := .iface 70 (.agg #[.int .i64 n]), recovered := true } :: older) ∧ ∃ w2, Below w.heap.size w w2 ∧ w' = w2.setCell ⟨po, 0, none⟩ (.string (errB n)) := by
 refine callsD_of_wpS Tryz.func20 rfl fun c₀ cs hu => ?_
 simp only [Tryz.ntmps20, List.size_toArray, List.length_cons, List.length_nil, Nat.reduceAdd, Nat.reduceSub, Array.replicate_succ, Array.replicate_zero, List.push_toArray, List.append_toArray, List.nil_append, List.cons_append]
 apply wpS_seq
 apply wpS_region
 simp [wpOpsS, go_sem, recoverD, hu, Exit.thenS]
 refine wpS_of_wp ?_
 have HIT := hide (fun W hB => itoa_any n W (hS.next hB) h0 h1)
 have HC := hide hc
 have hta : ∀ (xT : TypeId) (W : World), (Instr.typeAssert (.iface 70 (.agg #[.int .i64 n])) xT 70 true).run Tryz.prog W = .ok (.tuple #[.agg #[.int .i64 n], .bool true]) W := fun xT W => by kernel_rfl
 clear hS hc
 go_wp2_with fail
 have HB0 : Hid (Below w.heap.size w (w.alloc (.cells #[.int .i64 n] 70))) := hide ((Below.refl _ _).alloc (Nat.le_refl _) _)
 refine (HIT.out _ HB0.out).mono ?_
 rintro r w2 ⟨rfl, hB2⟩
 have HB2 := hide (HB0.out.trans (hB2.mono HB0.out.size))
 have HC2 := HC.out.below HB2.out HC.out.lt
 have c0 := HC2.cells1
 have hsz : ¬ 9223372036854775807 < 6 + (itoB n).size := by have := itoB_size n h0 h1; omega
 clear hB2 HC2
 go_wp2_with fail
 exact ⟨rfl, .panicking ({ v := .iface 70 (.agg #[.int .i64 n]), recovered := true } :: older), rfl, _, results_none rfl _ _ _, rfl, rfl, w2, HB2.out, rfl⟩
end
section
open Go Go.RowKit
section
variable {w0 w : World} {g k : Nat} {d : Dk} {L : Ly} {A : Option Addr} {ws : List ByteArray}
set_option maxRecDepth 100000 in
set_option maxHeartbeats 4000000 in
theorem do_drift (h : CmdIn w0 w g d L k A ws) (c : Nat) : Calls Tryz.prog 50 #[.pointer (some ⟨g, 0, none⟩), .slice A ws.length c] w (DoP w0 w g L (aDrift d ws)) := by
 have HN := hide (h.nums (-1) (by omega) (by omega) c)
 have H := hide h
 clear h
 go_enter Tryz.func50, Tryz.ntmps50
 go_wp2_with fail
 refine HN.out.mono ?_
 rintro r w1 ⟨⟨hn, rfl⟩ | ⟨l, v, hn, rfl, hown⟩, hB1⟩
 case inl =>
  have HP := hide (H.out.bad (x := aDrift d ws) (withN_none hn) hB1)
  go_wp2_with fail
  exact ⟨rfl, HP.out⟩
 obtain ⟨Av, cv, rfl, -⟩ := own_at hown
 have HB1 := hide hB1; have HO := hide hown; have HNU := hide hn
 clear hB1 hown hn
 cases hd : d.c with
 | none =>
  have HR := hide (ready_bad w1 (H.out.stdB HB1.out).err g none true (H.out.noCell HB1.out hd) rfl)
  have HX : Hid (aDrift d ws = ⟨.error 6, d⟩) := hide ((withN_some HNU.out).trans (hasC_none hd))
  go_wp2_with fail
  refine HR.out.mono ?_
  rintro r w2 ⟨rfl, hB2⟩
  have HP := hide (H.out.bad HX.out (HB1.out.trans (hB2.mono HB1.out.size)))
  go_wp2_with fail
  exact ⟨rfl, HP.out⟩
 | some y =>
  obtain ⟨a, b, c10, hcv, hLS, hb0, hb1, hCl⟩ := H.out.clCell HB1.out hd
  have HR := hide (ready_ok w1 g _ true c10 rfl)
  have HD := hide (H.out.dk.below HB1.out)
  have HX : Hid (aDrift d ws = ⟨.ok ⟨#[100, 114, 105, 102, 116]⟩, { d with r := { d.r with dr := l } }⟩) := hide ((withN_some HNU.out).trans (hasC_some hd))
  have c13 := HD.out.blk.cell 13
  have f13 := HD.out.blk.frozen 13
  simp at c13
  clear c10 hcv hLS hb0 hb1 hCl
  go_wp2_with fail
  refine HR.out.mono ?_
  rintro r w2 ⟨rfl, rfl⟩
  go_wp2_with fail
  go_ret
  rw [HX.out]
  exact ⟨rfl, H.out.dk.row 4 (by omega) _ (only_of_below HB1.out _) (.inr fun b e => (own_base2 HO.out b e)) (only_setCell (only_refl _ _) (.inl rfl) _) (own_low HO.out H.out.dk.low.size) (HD.out.blk.set_ 13 _) (fun j hj hne => by
   obtain rfl | rfl | rfl | rfl | rfl : j = 0 ∨ j = 1 ∨ j = 2 ∨ j = 3 ∨ j = 5 := by omega
   all_goals exact ⟨rfl, rfl⟩) rfl (.inr ⟨by omega, rfl⟩)⟩
set_option maxRecDepth 100000 in
set_option maxHeartbeats 4000000 in
theorem do_mode (h : CmdIn w0 w g d L k A ws) (c : Nat) : Calls Tryz.prog 57 #[.pointer (some ⟨g, 0, none⟩), .slice A ws.length c] w (DoP w0 w g L (aMode d ws)) := by
 have HN := hide (h.nums (-1) (by omega) (by omega) c)
 have H := hide h
 clear h
 go_enter Tryz.func57, Tryz.ntmps57
 go_wp2_with fail
 refine HN.out.mono ?_
 rintro r w1 ⟨⟨hn, rfl⟩ | ⟨l, v, hn, rfl, hown⟩, hB1⟩
 case inl =>
  have HP := hide (H.out.bad (x := aMode d ws) (withN_none hn) hB1)
  go_wp2_with fail
  exact ⟨rfl, HP.out⟩
 obtain ⟨Av, cv, rfl, -⟩ := own_at hown
 have HB1 := hide hB1; have HO := hide hown; have HNU := hide hn
 clear hB1 hown hn
 cases hd : d.c with
 | none =>
  have HR := hide (ready_bad w1 (H.out.stdB HB1.out).err g none true (H.out.noCell HB1.out hd) rfl)
  have HX : Hid (aMode d ws = ⟨.error 6, d⟩) := hide ((withN_some HNU.out).trans (hasC_none hd))
  go_wp2_with fail
  refine HR.out.mono ?_
  rintro r w2 ⟨rfl, hB2⟩
  have HP := hide (H.out.bad HX.out (HB1.out.trans (hB2.mono HB1.out.size)))
  go_wp2_with fail
  exact ⟨rfl, HP.out⟩
 | some y =>
  obtain ⟨a, b, c10, hcv, hLS, hb0, hb1, hCl⟩ := H.out.clCell HB1.out hd
  have HR := hide (ready_ok w1 g _ true c10 rfl)
  have HD := hide (H.out.dk.below HB1.out)
  have HX : Hid (aMode d ws = ⟨.ok ⟨#[109, 111, 100, 101]⟩, { d with r := { d.r with md := l } }⟩) := hide ((withN_some HNU.out).trans (hasC_some hd))
  have c14 := HD.out.blk.cell 14
  have f14 := HD.out.blk.frozen 14
  simp at c14
  clear c10 hcv hLS hb0 hb1 hCl
  go_wp2_with fail
  refine HR.out.mono ?_
  rintro r w2 ⟨rfl, rfl⟩
  go_wp2_with fail
  go_ret
  rw [HX.out]
  exact ⟨rfl, H.out.dk.row 5 (by omega) _ (only_of_below HB1.out _) (.inr fun b e => (own_base2 HO.out b e)) (only_setCell (only_refl _ _) (.inl rfl) _) (own_low HO.out H.out.dk.low.size) (HD.out.blk.set_ 14 _) (fun j hj hne => by
   obtain rfl | rfl | rfl | rfl | rfl : j = 0 ∨ j = 1 ∨ j = 2 ∨ j = 3 ∨ j = 4 := by omega
   all_goals exact ⟨rfl, rfl⟩) rfl (.inr ⟨by omega, rfl⟩)⟩
set_option maxRecDepth 100000 in
set_option maxHeartbeats 4000000 in
theorem do_help (h : CmdIn w0 w g d L k A ws) (c : Nat) : Calls Tryz.prog 51 #[.pointer (some ⟨g, 0, none⟩), .slice A ws.length c] w (DoP w0 w g L (aHelp d ws)) := by
 have HN := hide (h.nums (0) (by omega) (by omega) c)
 have H := hide h
 clear h
 go_enter Tryz.func51, Tryz.ntmps51
 go_wp2_with fail
 refine HN.out.mono ?_
 rintro r w1 ⟨⟨hn, rfl⟩ | ⟨l, v, hn, rfl, hown⟩, hB1⟩
 case inl =>
  have HP := hide (H.out.bad (x := aHelp d ws) (withN_none hn) hB1)
  go_wp2_with fail
  exact ⟨rfl, HP.out⟩
 have HP := hide (H.out.fine (x := aHelp d ws) (o := helpB) (withN_some hn) hB1)
 go_wp2_with fail
 go_ret
 exact HP.out
theorem set15 {W : World} {G : Nat} {t : TypeId} {a0 a1 a2 a3 a4 a5 a6 a7 a8 a9 a10 a11 a12 a13 a14 b0 b1 b2 b3 b4 b5 b6 b7 b8 b9 b10 b11 b12 b13 b14 : Value} (h : Blk W G t #[a0, a1, a2, a3, a4, a5, a6, a7, a8, a9, a10, a11, a12, a13, a14]) : Blk ((((((((((((((((W.setCell ⟨G, 0, none⟩ b0).setCell ⟨G, 1, none⟩ b1).setCell ⟨G, 2, none⟩ b2).setCell ⟨G, 3, none⟩ b3).setCell ⟨G, 4, none⟩ b4).setCell ⟨G, 5, none⟩ b5).setCell ⟨G, 6, none⟩ b6).setCell ⟨G, 7, none⟩ b7).setCell ⟨G, 8, none⟩ b8).setCell ⟨G, 9, none⟩ b9).setCell ⟨G, 10, none⟩ b10).setCell ⟨G, 11, none⟩ b11).setCell ⟨G, 12, none⟩ b12).setCell ⟨G, 13, none⟩ b13).setCell ⟨G, 14, none⟩ b14)) G t #[b0, b1, b2, b3, b4, b5, b6, b7, b8, b9, b10, b11, b12, b13, b14] := by
 have h0 : Blk (W.setCell ⟨G, 0, none⟩ b0) G t #[b0, a1, a2, a3, a4, a5, a6, a7, a8, a9, a10, a11, a12, a13, a14] := h.set_ 0 b0
 have h1 : Blk ((W.setCell ⟨G, 0, none⟩ b0).setCell ⟨G, 1, none⟩ b1) G t #[b0, b1, a2, a3, a4, a5, a6, a7, a8, a9, a10, a11, a12, a13, a14] := h0.set_ 1 b1
 have h2 : Blk (((W.setCell ⟨G, 0, none⟩ b0).setCell ⟨G, 1, none⟩ b1).setCell ⟨G, 2, none⟩ b2) G t #[b0, b1, b2, a3, a4, a5, a6, a7, a8, a9, a10, a11, a12, a13, a14] := h1.set_ 2 b2
 have h3 : Blk ((((W.setCell ⟨G, 0, none⟩ b0).setCell ⟨G, 1, none⟩ b1).setCell ⟨G, 2, none⟩ b2).setCell ⟨G, 3, none⟩ b3) G t #[b0, b1, b2, b3, a4, a5, a6, a7, a8, a9, a10, a11, a12, a13, a14] := h2.set_ 3 b3
 have h4 : Blk (((((W.setCell ⟨G, 0, none⟩ b0).setCell ⟨G, 1, none⟩ b1).setCell ⟨G, 2, none⟩ b2).setCell ⟨G, 3, none⟩ b3).setCell ⟨G, 4, none⟩ b4) G t #[b0, b1, b2, b3, b4, a5, a6, a7, a8, a9, a10, a11, a12, a13, a14] := h3.set_ 4 b4
 have h5 : Blk ((((((W.setCell ⟨G, 0, none⟩ b0).setCell ⟨G, 1, none⟩ b1).setCell ⟨G, 2, none⟩ b2).setCell ⟨G, 3, none⟩ b3).setCell ⟨G, 4, none⟩ b4).setCell ⟨G, 5, none⟩ b5) G t #[b0, b1, b2, b3, b4, b5, a6, a7, a8, a9, a10, a11, a12, a13, a14] := h4.set_ 5 b5
 have h6 : Blk (((((((W.setCell ⟨G, 0, none⟩ b0).setCell ⟨G, 1, none⟩ b1).setCell ⟨G, 2, none⟩ b2).setCell ⟨G, 3, none⟩ b3).setCell ⟨G, 4, none⟩ b4).setCell ⟨G, 5, none⟩ b5).setCell ⟨G, 6, none⟩ b6) G t #[b0, b1, b2, b3, b4, b5, b6, a7, a8, a9, a10, a11, a12, a13, a14] := h5.set_ 6 b6
 have h7 : Blk ((((((((W.setCell ⟨G, 0, none⟩ b0).setCell ⟨G, 1, none⟩ b1).setCell ⟨G, 2, none⟩ b2).setCell ⟨G, 3, none⟩ b3).setCell ⟨G, 4, none⟩ b4).setCell ⟨G, 5, none⟩ b5).setCell ⟨G, 6, none⟩ b6).setCell ⟨G, 7, none⟩ b7) G t #[b0, b1, b2, b3, b4, b5, b6, b7, a8, a9, a10, a11, a12, a13, a14] := h6.set_ 7 b7
 have h8 : Blk (((((((((W.setCell ⟨G, 0, none⟩ b0).setCell ⟨G, 1, none⟩ b1).setCell ⟨G, 2, none⟩ b2).setCell ⟨G, 3, none⟩ b3).setCell ⟨G, 4, none⟩ b4).setCell ⟨G, 5, none⟩ b5).setCell ⟨G, 6, none⟩ b6).setCell ⟨G, 7, none⟩ b7).setCell ⟨G, 8, none⟩ b8) G t #[b0, b1, b2, b3, b4, b5, b6, b7, b8, a9, a10, a11, a12, a13, a14] := h7.set_ 8 b8
 have h9 : Blk ((((((((((W.setCell ⟨G, 0, none⟩ b0).setCell ⟨G, 1, none⟩ b1).setCell ⟨G, 2, none⟩ b2).setCell ⟨G, 3, none⟩ b3).setCell ⟨G, 4, none⟩ b4).setCell ⟨G, 5, none⟩ b5).setCell ⟨G, 6, none⟩ b6).setCell ⟨G, 7, none⟩ b7).setCell ⟨G, 8, none⟩ b8).setCell ⟨G, 9, none⟩ b9) G t #[b0, b1, b2, b3, b4, b5, b6, b7, b8, b9, a10, a11, a12, a13, a14] := h8.set_ 9 b9
 have h10 : Blk (((((((((((W.setCell ⟨G, 0, none⟩ b0).setCell ⟨G, 1, none⟩ b1).setCell ⟨G, 2, none⟩ b2).setCell ⟨G, 3, none⟩ b3).setCell ⟨G, 4, none⟩ b4).setCell ⟨G, 5, none⟩ b5).setCell ⟨G, 6, none⟩ b6).setCell ⟨G, 7, none⟩ b7).setCell ⟨G, 8, none⟩ b8).setCell ⟨G, 9, none⟩ b9).setCell ⟨G, 10, none⟩ b10) G t #[b0, b1, b2, b3, b4, b5, b6, b7, b8, b9, b10, a11, a12, a13, a14] := h9.set_ 10 b10
 have h11 : Blk ((((((((((((W.setCell ⟨G, 0, none⟩ b0).setCell ⟨G, 1, none⟩ b1).setCell ⟨G, 2, none⟩ b2).setCell ⟨G, 3, none⟩ b3).setCell ⟨G, 4, none⟩ b4).setCell ⟨G, 5, none⟩ b5).setCell ⟨G, 6, none⟩ b6).setCell ⟨G, 7, none⟩ b7).setCell ⟨G, 8, none⟩ b8).setCell ⟨G, 9, none⟩ b9).setCell ⟨G, 10, none⟩ b10).setCell ⟨G, 11, none⟩ b11) G t #[b0, b1, b2, b3, b4, b5, b6, b7, b8, b9, b10, b11, a12, a13, a14] := h10.set_ 11 b11
 have h12 : Blk (((((((((((((W.setCell ⟨G, 0, none⟩ b0).setCell ⟨G, 1, none⟩ b1).setCell ⟨G, 2, none⟩ b2).setCell ⟨G, 3, none⟩ b3).setCell ⟨G, 4, none⟩ b4).setCell ⟨G, 5, none⟩ b5).setCell ⟨G, 6, none⟩ b6).setCell ⟨G, 7, none⟩ b7).setCell ⟨G, 8, none⟩ b8).setCell ⟨G, 9, none⟩ b9).setCell ⟨G, 10, none⟩ b10).setCell ⟨G, 11, none⟩ b11).setCell ⟨G, 12, none⟩ b12) G t #[b0, b1, b2, b3, b4, b5, b6, b7, b8, b9, b10, b11, b12, a13, a14] := h11.set_ 12 b12
 have h13 : Blk ((((((((((((((W.setCell ⟨G, 0, none⟩ b0).setCell ⟨G, 1, none⟩ b1).setCell ⟨G, 2, none⟩ b2).setCell ⟨G, 3, none⟩ b3).setCell ⟨G, 4, none⟩ b4).setCell ⟨G, 5, none⟩ b5).setCell ⟨G, 6, none⟩ b6).setCell ⟨G, 7, none⟩ b7).setCell ⟨G, 8, none⟩ b8).setCell ⟨G, 9, none⟩ b9).setCell ⟨G, 10, none⟩ b10).setCell ⟨G, 11, none⟩ b11).setCell ⟨G, 12, none⟩ b12).setCell ⟨G, 13, none⟩ b13) G t #[b0, b1, b2, b3, b4, b5, b6, b7, b8, b9, b10, b11, b12, b13, a14] := h12.set_ 13 b13
 have h14 : Blk (((((((((((((((W.setCell ⟨G, 0, none⟩ b0).setCell ⟨G, 1, none⟩ b1).setCell ⟨G, 2, none⟩ b2).setCell ⟨G, 3, none⟩ b3).setCell ⟨G, 4, none⟩ b4).setCell ⟨G, 5, none⟩ b5).setCell ⟨G, 6, none⟩ b6).setCell ⟨G, 7, none⟩ b7).setCell ⟨G, 8, none⟩ b8).setCell ⟨G, 9, none⟩ b9).setCell ⟨G, 10, none⟩ b10).setCell ⟨G, 11, none⟩ b11).setCell ⟨G, 12, none⟩ b12).setCell ⟨G, 13, none⟩ b13).setCell ⟨G, 14, none⟩ b14) G t #[b0, b1, b2, b3, b4, b5, b6, b7, b8, b9, b10, b11, b12, b13, b14] := h13.set_ 14 b14
 exact h14
theorem set15G {W : World} {G : Nat} {b0 b1 b2 b3 b4 b5 b6 b7 b8 b9 b10 b11 b12 b13 b14 : Value} : W.grownBy (((((((((((((((W.setCell ⟨G, 0, none⟩ b0).setCell ⟨G, 1, none⟩ b1).setCell ⟨G, 2, none⟩ b2).setCell ⟨G, 3, none⟩ b3).setCell ⟨G, 4, none⟩ b4).setCell ⟨G, 5, none⟩ b5).setCell ⟨G, 6, none⟩ b6).setCell ⟨G, 7, none⟩ b7).setCell ⟨G, 8, none⟩ b8).setCell ⟨G, 9, none⟩ b9).setCell ⟨G, 10, none⟩ b10).setCell ⟨G, 11, none⟩ b11).setCell ⟨G, 12, none⟩ b12).setCell ⟨G, 13, none⟩ b13).setCell ⟨G, 14, none⟩ b14) (some G) := by
 have h0 : W.grownBy (W.setCell ⟨G, 0, none⟩ b0) (some G) := only_setCell (only_refl W (some G)) (.inl rfl) b0
 have h1 : W.grownBy ((W.setCell ⟨G, 0, none⟩ b0).setCell ⟨G, 1, none⟩ b1) (some G) := only_setCell (h0) (.inl rfl) b1
 have h2 : W.grownBy (((W.setCell ⟨G, 0, none⟩ b0).setCell ⟨G, 1, none⟩ b1).setCell ⟨G, 2, none⟩ b2) (some G) := only_setCell (h1) (.inl rfl) b2
 have h3 : W.grownBy ((((W.setCell ⟨G, 0, none⟩ b0).setCell ⟨G, 1, none⟩ b1).setCell ⟨G, 2, none⟩ b2).setCell ⟨G, 3, none⟩ b3) (some G) := only_setCell (h2) (.inl rfl) b3
 have h4 : W.grownBy (((((W.setCell ⟨G, 0, none⟩ b0).setCell ⟨G, 1, none⟩ b1).setCell ⟨G, 2, none⟩ b2).setCell ⟨G, 3, none⟩ b3).setCell ⟨G, 4, none⟩ b4) (some G) := only_setCell (h3) (.inl rfl) b4
 have h5 : W.grownBy ((((((W.setCell ⟨G, 0, none⟩ b0).setCell ⟨G, 1, none⟩ b1).setCell ⟨G, 2, none⟩ b2).setCell ⟨G, 3, none⟩ b3).setCell ⟨G, 4, none⟩ b4).setCell ⟨G, 5, none⟩ b5) (some G) := only_setCell (h4) (.inl rfl) b5
 have h6 : W.grownBy (((((((W.setCell ⟨G, 0, none⟩ b0).setCell ⟨G, 1, none⟩ b1).setCell ⟨G, 2, none⟩ b2).setCell ⟨G, 3, none⟩ b3).setCell ⟨G, 4, none⟩ b4).setCell ⟨G, 5, none⟩ b5).setCell ⟨G, 6, none⟩ b6) (some G) := only_setCell (h5) (.inl rfl) b6
 have h7 : W.grownBy ((((((((W.setCell ⟨G, 0, none⟩ b0).setCell ⟨G, 1, none⟩ b1).setCell ⟨G, 2, none⟩ b2).setCell ⟨G, 3, none⟩ b3).setCell ⟨G, 4, none⟩ b4).setCell ⟨G, 5, none⟩ b5).setCell ⟨G, 6, none⟩ b6).setCell ⟨G, 7, none⟩ b7) (some G) := only_setCell (h6) (.inl rfl) b7
 have h8 : W.grownBy (((((((((W.setCell ⟨G, 0, none⟩ b0).setCell ⟨G, 1, none⟩ b1).setCell ⟨G, 2, none⟩ b2).setCell ⟨G, 3, none⟩ b3).setCell ⟨G, 4, none⟩ b4).setCell ⟨G, 5, none⟩ b5).setCell ⟨G, 6, none⟩ b6).setCell ⟨G, 7, none⟩ b7).setCell ⟨G, 8, none⟩ b8) (some G) := only_setCell (h7) (.inl rfl) b8
 have h9 : W.grownBy ((((((((((W.setCell ⟨G, 0, none⟩ b0).setCell ⟨G, 1, none⟩ b1).setCell ⟨G, 2, none⟩ b2).setCell ⟨G, 3, none⟩ b3).setCell ⟨G, 4, none⟩ b4).setCell ⟨G, 5, none⟩ b5).setCell ⟨G, 6, none⟩ b6).setCell ⟨G, 7, none⟩ b7).setCell ⟨G, 8, none⟩ b8).setCell ⟨G, 9, none⟩ b9) (some G) := only_setCell (h8) (.inl rfl) b9
 have h10 : W.grownBy (((((((((((W.setCell ⟨G, 0, none⟩ b0).setCell ⟨G, 1, none⟩ b1).setCell ⟨G, 2, none⟩ b2).setCell ⟨G, 3, none⟩ b3).setCell ⟨G, 4, none⟩ b4).setCell ⟨G, 5, none⟩ b5).setCell ⟨G, 6, none⟩ b6).setCell ⟨G, 7, none⟩ b7).setCell ⟨G, 8, none⟩ b8).setCell ⟨G, 9, none⟩ b9).setCell ⟨G, 10, none⟩ b10) (some G) := only_setCell (h9) (.inl rfl) b10
 have h11 : W.grownBy ((((((((((((W.setCell ⟨G, 0, none⟩ b0).setCell ⟨G, 1, none⟩ b1).setCell ⟨G, 2, none⟩ b2).setCell ⟨G, 3, none⟩ b3).setCell ⟨G, 4, none⟩ b4).setCell ⟨G, 5, none⟩ b5).setCell ⟨G, 6, none⟩ b6).setCell ⟨G, 7, none⟩ b7).setCell ⟨G, 8, none⟩ b8).setCell ⟨G, 9, none⟩ b9).setCell ⟨G, 10, none⟩ b10).setCell ⟨G, 11, none⟩ b11) (some G) := only_setCell (h10) (.inl rfl) b11
 have h12 : W.grownBy (((((((((((((W.setCell ⟨G, 0, none⟩ b0).setCell ⟨G, 1, none⟩ b1).setCell ⟨G, 2, none⟩ b2).setCell ⟨G, 3, none⟩ b3).setCell ⟨G, 4, none⟩ b4).setCell ⟨G, 5, none⟩ b5).setCell ⟨G, 6, none⟩ b6).setCell ⟨G, 7, none⟩ b7).setCell ⟨G, 8, none⟩ b8).setCell ⟨G, 9, none⟩ b9).setCell ⟨G, 10, none⟩ b10).setCell ⟨G, 11, none⟩ b11).setCell ⟨G, 12, none⟩ b12) (some G) := only_setCell (h11) (.inl rfl) b12
 have h13 : W.grownBy ((((((((((((((W.setCell ⟨G, 0, none⟩ b0).setCell ⟨G, 1, none⟩ b1).setCell ⟨G, 2, none⟩ b2).setCell ⟨G, 3, none⟩ b3).setCell ⟨G, 4, none⟩ b4).setCell ⟨G, 5, none⟩ b5).setCell ⟨G, 6, none⟩ b6).setCell ⟨G, 7, none⟩ b7).setCell ⟨G, 8, none⟩ b8).setCell ⟨G, 9, none⟩ b9).setCell ⟨G, 10, none⟩ b10).setCell ⟨G, 11, none⟩ b11).setCell ⟨G, 12, none⟩ b12).setCell ⟨G, 13, none⟩ b13) (some G) := only_setCell (h12) (.inl rfl) b13
 have h14 : W.grownBy (((((((((((((((W.setCell ⟨G, 0, none⟩ b0).setCell ⟨G, 1, none⟩ b1).setCell ⟨G, 2, none⟩ b2).setCell ⟨G, 3, none⟩ b3).setCell ⟨G, 4, none⟩ b4).setCell ⟨G, 5, none⟩ b5).setCell ⟨G, 6, none⟩ b6).setCell ⟨G, 7, none⟩ b7).setCell ⟨G, 8, none⟩ b8).setCell ⟨G, 9, none⟩ b9).setCell ⟨G, 10, none⟩ b10).setCell ⟨G, 11, none⟩ b11).setCell ⟨G, 12, none⟩ b12).setCell ⟨G, 13, none⟩ b13).setCell ⟨G, 14, none⟩ b14) (some G) := only_setCell (h13) (.inl rfl) b14
 exact h14
theorem fresh_any (w : World) : Calls Tryz.prog 7 #[] w fun e w' => e = .returned (.agg #[.int .i64 0, .int .i64 0, .int .i64 0, .int .i64 0, .int .i64 0, .int .i64 0, .slice none 0 0, .slice none 0 0, .int .i64 1, .slice none 0 0, .pointer none, .slice none 0 0, .slice none 0 0, .slice none 0 0, .slice none 0 0]) ∧ Below w.heap.size w w' := by
 go_enter Tryz.func7, Tryz.ntmps7
 go_wp2_with fail
 refine bodyPost_ret (v := .agg #[.int .i64 0, .int .i64 0, .int .i64 0, .int .i64 0, .int .i64 0, .int .i64 0, .slice none 0 0, .slice none 0 0, .int .i64 1, .slice none 0 0, .pointer none, .slice none 0 0, .slice none 0 0, .slice none 0 0, .slice none 0 0]) (by simp [results, Tryz.results7, go_sem]) rfl ⟨rfl, ?_⟩
 exact (Below.refl _ _).alloc (Nat.le_refl _) _
set_option maxRecDepth 100000 in
set_option maxHeartbeats 4000000 in
theorem do_clear (h : CmdIn w0 w g d L k A ws) (c : Nat) : Calls Tryz.prog 48 #[.pointer (some ⟨g, 0, none⟩), .slice A ws.length c] w (DoP w0 w g L (aClear d ws)) := by
 have HN := hide (h.nums (0) (by omega) (by omega) c)
 have H := hide h
 clear h
 go_enter Tryz.func48, Tryz.ntmps48
 go_wp2_with fail
 refine HN.out.mono ?_
 rintro r w1 ⟨⟨hn, rfl⟩ | ⟨l, v, hn, rfl, hown⟩, hB1⟩
 case inl =>
  have HP := hide (H.out.bad (x := aClear d ws) (withN_none hn) hB1)
  go_wp2_with fail
  exact ⟨rfl, HP.out⟩
 have HF := hide (fresh_any w1)
 go_wp2_with fail
 refine HF.out.mono ?_
 rintro r w2 ⟨rfl, hB2⟩
 have HB2 := hide (hB1.trans (hB2.mono hB1.size))
 have HX : Hid (aClear d ws = ⟨.ok ⟨#[99, 108, 101, 97, 114]⟩, dk0⟩) := hide (withN_some hn)
 have HD := hide (H.out.dk.below HB2.out)
 clear hB1 hB2 hown hn HN
 have c0 := HD.out.blk.cell 0
 have f0 := HD.out.blk.frozen 0
 have c1 := HD.out.blk.cell 1
 have f1 := HD.out.blk.frozen 1
 have c2 := HD.out.blk.cell 2
 have f2 := HD.out.blk.frozen 2
 have c3 := HD.out.blk.cell 3
 have f3 := HD.out.blk.frozen 3
 have c4 := HD.out.blk.cell 4
 have f4 := HD.out.blk.frozen 4
 have c5 := HD.out.blk.cell 5
 have f5 := HD.out.blk.frozen 5
 have c6 := HD.out.blk.cell 6
 have f6 := HD.out.blk.frozen 6
 have c7 := HD.out.blk.cell 7
 have f7 := HD.out.blk.frozen 7
 have c8 := HD.out.blk.cell 8
 have f8 := HD.out.blk.frozen 8
 have c9 := HD.out.blk.cell 9
 have f9 := HD.out.blk.frozen 9
 have c10 := HD.out.blk.cell 10
 have f10 := HD.out.blk.frozen 10
 have c11 := HD.out.blk.cell 11
 have f11 := HD.out.blk.frozen 11
 have c12 := HD.out.blk.cell 12
 have f12 := HD.out.blk.frozen 12
 have c13 := HD.out.blk.cell 13
 have f13 := HD.out.blk.frozen 13
 have c14 := HD.out.blk.cell 14
 have f14 := HD.out.blk.frozen 14
 simp at c0 c1 c2 c3 c4 c5 c6 c7 c8 c9 c10 c11 c12 c13 c14
 go_wp2_with fail
 go_ret
 rw [HX.out]
 exact ⟨rfl, DkTo.after HB2.out (HD.out.clear set15G (set15 HD.out.blk))⟩
end
end
section
open Go Go.RowKit
section
variable {w0 w : World} {g k : Nat} {d : Dk} {L : Ly} {A : Option Addr} {ws : List ByteArray}
theorem set6 {W : World} {G : Nat} {t : TypeId} {a0 a1 a2 a3 a4 a5 a6 a7 a8 a9 a10 a11 a12 a13 a14 b0 b1 b2 b3 b4 b5 : Value} (h : Blk W G t #[a0, a1, a2, a3, a4, a5, a6, a7, a8, a9, a10, a11, a12, a13, a14]) : Blk (((((((W.setCell ⟨G, 0, none⟩ b0).setCell ⟨G, 1, none⟩ b1).setCell ⟨G, 2, none⟩ b2).setCell ⟨G, 3, none⟩ b3).setCell ⟨G, 4, none⟩ b4).setCell ⟨G, 5, none⟩ b5)) G t #[b0, b1, b2, b3, b4, b5, a6, a7, a8, a9, a10, a11, a12, a13, a14] := by
 have h0 : Blk (W.setCell ⟨G, 0, none⟩ b0) G t #[b0, a1, a2, a3, a4, a5, a6, a7, a8, a9, a10, a11, a12, a13, a14] := h.set_ 0 b0
 have h1 : Blk ((W.setCell ⟨G, 0, none⟩ b0).setCell ⟨G, 1, none⟩ b1) G t #[b0, b1, a2, a3, a4, a5, a6, a7, a8, a9, a10, a11, a12, a13, a14] := h0.set_ 1 b1
 have h2 : Blk (((W.setCell ⟨G, 0, none⟩ b0).setCell ⟨G, 1, none⟩ b1).setCell ⟨G, 2, none⟩ b2) G t #[b0, b1, b2, a3, a4, a5, a6, a7, a8, a9, a10, a11, a12, a13, a14] := h1.set_ 2 b2
 have h3 : Blk ((((W.setCell ⟨G, 0, none⟩ b0).setCell ⟨G, 1, none⟩ b1).setCell ⟨G, 2, none⟩ b2).setCell ⟨G, 3, none⟩ b3) G t #[b0, b1, b2, b3, a4, a5, a6, a7, a8, a9, a10, a11, a12, a13, a14] := h2.set_ 3 b3
 have h4 : Blk (((((W.setCell ⟨G, 0, none⟩ b0).setCell ⟨G, 1, none⟩ b1).setCell ⟨G, 2, none⟩ b2).setCell ⟨G, 3, none⟩ b3).setCell ⟨G, 4, none⟩ b4) G t #[b0, b1, b2, b3, b4, a5, a6, a7, a8, a9, a10, a11, a12, a13, a14] := h3.set_ 4 b4
 have h5 : Blk ((((((W.setCell ⟨G, 0, none⟩ b0).setCell ⟨G, 1, none⟩ b1).setCell ⟨G, 2, none⟩ b2).setCell ⟨G, 3, none⟩ b3).setCell ⟨G, 4, none⟩ b4).setCell ⟨G, 5, none⟩ b5) G t #[b0, b1, b2, b3, b4, b5, a6, a7, a8, a9, a10, a11, a12, a13, a14] := h4.set_ 5 b5
 exact h5
theorem set6G {W : World} {G : Nat} {b0 b1 b2 b3 b4 b5 : Value} : W.grownBy ((((((W.setCell ⟨G, 0, none⟩ b0).setCell ⟨G, 1, none⟩ b1).setCell ⟨G, 2, none⟩ b2).setCell ⟨G, 3, none⟩ b3).setCell ⟨G, 4, none⟩ b4).setCell ⟨G, 5, none⟩ b5) (some G) := by
 have h0 : W.grownBy (W.setCell ⟨G, 0, none⟩ b0) (some G) := only_setCell (only_refl W (some G)) (.inl rfl) b0
 have h1 : W.grownBy ((W.setCell ⟨G, 0, none⟩ b0).setCell ⟨G, 1, none⟩ b1) (some G) := only_setCell (h0) (.inl rfl) b1
 have h2 : W.grownBy (((W.setCell ⟨G, 0, none⟩ b0).setCell ⟨G, 1, none⟩ b1).setCell ⟨G, 2, none⟩ b2) (some G) := only_setCell (h1) (.inl rfl) b2
 have h3 : W.grownBy ((((W.setCell ⟨G, 0, none⟩ b0).setCell ⟨G, 1, none⟩ b1).setCell ⟨G, 2, none⟩ b2).setCell ⟨G, 3, none⟩ b3) (some G) := only_setCell (h2) (.inl rfl) b3
 have h4 : W.grownBy (((((W.setCell ⟨G, 0, none⟩ b0).setCell ⟨G, 1, none⟩ b1).setCell ⟨G, 2, none⟩ b2).setCell ⟨G, 3, none⟩ b3).setCell ⟨G, 4, none⟩ b4) (some G) := only_setCell (h3) (.inl rfl) b4
 have h5 : W.grownBy ((((((W.setCell ⟨G, 0, none⟩ b0).setCell ⟨G, 1, none⟩ b1).setCell ⟨G, 2, none⟩ b2).setCell ⟨G, 3, none⟩ b3).setCell ⟨G, 4, none⟩ b4).setCell ⟨G, 5, none⟩ b5) (some G) := only_setCell (h4) (.inl rfl) b5
 exact h5
theorem rowX_eq {d d' : Dk} (h1 : d'.p.sl = d.p.sl) (h2 : d'.p.lk = d.p.lk) (h3 : d'.r = d.r) (j : Nat) : rowX d' j = rowX d j ∧ rowL d' j = rowL d j := by
 unfold rowX rowL
 rw [h1, h2, h3]
 exact ⟨rfl, rfl⟩
set_option maxRecDepth 100000 in
set_option maxHeartbeats 4000000 in
theorem do_plans (h : CmdIn w0 w g d L k A ws) (c : Nat) : Calls Tryz.prog 58 #[.pointer (some ⟨g, 0, none⟩), .slice A ws.length c] w (DoP w0 w g L (aPlan d ws)) := by
 have HN := hide (h.nums (6) (by omega) (by omega) c)
 have H := hide h
 clear h
 go_enter Tryz.func58, Tryz.ntmps58
 go_wp2_with fail
 refine HN.out.mono ?_
 rintro r w1 ⟨⟨hn, rfl⟩ | ⟨l, v, hn, rfl, hown⟩, hB1⟩
 case inl =>
  have HP := hide (H.out.bad (x := aPlan d ws) (withN_none hn) hB1)
  go_wp2_with fail
  exact ⟨rfl, HP.out⟩
 obtain ⟨x0, x1, x2, x3, x4, x5, gk, cp, rfl, rfl, n0, n1, n2, n3, n4, n5, hgk0, hgk1⟩ := dnum6 hown ((numbersF_len hn).1 (by omega))
 have HB1 := hide hB1; have HNU := hide hn; have HO := hide hown
 clear hB1 hn hown
 cases hd : d.c with
 | some y =>
  obtain ⟨a, b, c10, -⟩ := H.out.clCell HB1.out hd
  have HR := hide (ready_bad w1 (H.out.stdB HB1.out).err g _ false c10 rfl)
  have HX : Hid (aPlan d ws = ⟨.error 6, d⟩) := hide ((withN_some HNU.out).trans (noC_some hd))
  clear c10
  go_wp2_with fail
  refine HR.out.mono ?_
  rintro r w2 ⟨rfl, hB2⟩
  have HP := hide (H.out.bad HX.out (HB1.out.trans (hB2.mono HB1.out.size)))
  go_wp2_with fail
  exact ⟨rfl, HP.out⟩
 | none =>
  have HR := hide (ready_ok w1 g none false (H.out.noCell HB1.out hd) rfl)
  have HD := hide (H.out.dk.below HB1.out)
  have HX : Hid (aPlan d ws = ⟨.ok ⟨#[112, 108, 97, 110]⟩, { d with p := { d.p with nd := x0, fa := x1, sk := x2, ji := x3, dr := x4, rd := x5 } }⟩) := hide ((withN_some HNU.out).trans (noC_none hd))
  have hgk : gk ≠ g := by have := H.out.dk.blk.lt; omega
  have c0 := HD.out.blk.cell 0
  have f0 := HD.out.blk.frozen 0
  have c1 := HD.out.blk.cell 1
  have f1 := HD.out.blk.frozen 1
  have c2 := HD.out.blk.cell 2
  have f2 := HD.out.blk.frozen 2
  have c3 := HD.out.blk.cell 3
  have f3 := HD.out.blk.frozen 3
  have c4 := HD.out.blk.cell 4
  have f4 := HD.out.blk.frozen 4
  have c5 := HD.out.blk.cell 5
  have f5 := HD.out.blk.frozen 5
  simp at c0 c1 c2 c3 c4 c5
  go_wp2_with fail
  refine HR.out.mono ?_
  rintro r w2 ⟨rfl, rfl⟩
  clear HR HN
  go_wp2_with fail
  have HFIN : Hid (DkTo w0 w g L ((((((w2.setCell ⟨g, 0, none⟩ (.int .i64 x0)).setCell ⟨g, 1, none⟩ (.int .i64 x1)).setCell ⟨g, 2, none⟩ (.int .i64 x2)).setCell ⟨g, 3, none⟩ (.int .i64 x3)).setCell ⟨g, 4, none⟩ (.int .i64 x4)).setCell ⟨g, 5, none⟩ (.int .i64 x5)) { d with p := { d.p with nd := x0, fa := x1, sk := x2, ji := x3, dr := x4, rd := x5 } }) := hide (DkTo.after HB1.out (by
   have hb : Blk ((((((w2.setCell ⟨g, 0, none⟩ (.int .i64 x0)).setCell ⟨g, 1, none⟩ (.int .i64 x1)).setCell ⟨g, 2, none⟩ (.int .i64 x2)).setCell ⟨g, 3, none⟩ (.int .i64 x3)).setCell ⟨g, 4, none⟩ (.int .i64 x4)).setCell ⟨g, 5, none⟩ (.int .i64 x5)) g 37 (deskC { d with p := { d.p with nd := x0, fa := x1, sk := x2, ji := x3, dr := x4, rd := x5 } } L) := set6 HD.out.blk
   exact HD.out.put set6G hb (rowX_eq rfl rfl rfl) hd hd))
  go_region
  go_wp2_with fail
  go_ret
  rw [HX.out]
  exact ⟨rfl, HFIN.out.below (below_drewN (Below.refl _ _) 1)⟩
end
end
section
open Go
section
variable {P : Program} {ops : Array Oper} {Q : Exit → Act → World → Prop} {md : Region.Mode} {S : World → Prop} {L : Nat}
def takesOk (md : Region.Mode) (ops : Array Oper) (L : Nat) : List Nat → Array Bool → Bool
 | [], _ => true
 | i :: l, b => Region.free md ops b i && (Region.ready md ops b).contains i && (L != i && waitsFor md ops L i && !b.getD L true) && takesOk md ops L l (b.setIfInBounds i true)
def setAll : List Nat → Array Bool → Array Bool
 | [], b => b
 | i :: l, b => setAll l (b.setIfInBounds i true)
def Takes (P : Program) (ops : Array Oper) (S : World → Prop) : List Nat → Act → (Act → Prop) → Prop
 | [], a, K => K a
 | i :: l, a, K => ∃ o v, ops[i]? = some o ∧ YieldsIf P ops S o v a ∧ Takes P ops S l (a.put o.dst v) K
theorem wpAnyL_takes {w : World} (hs : Region.noSelect ops = true) (hQ : ∀ c a a' w, Q (.panic c) a w → Q (.panic c) a' w) (hS : S w) {fuel : Nat} : ∀ (l : List Nat) {b : Array Bool} {a : Act}, takesOk md ops L l b = true →
 Takes P ops S l a (fun a' => wpAnyL P md ops Q S L fuel (setAll l b) a' w) → wpAnyL P md ops Q S L (fuel + l.length) b a w
 | [], _, _, _, h => h
 | i :: l, b, a, hc, ⟨o, v, ho, hy, h⟩ => by
  unfold takesOk at hc
  simp only [Bool.and_eq_true] at hc
  exact wpAnyL_take ho hs hc.1.1.1 hc.1.1.2 (by simpa using hc.1.2) (fun c a w => hQ c _ _ w) hy hS (wpAnyL_takes hs hQ hS l hc.2 h)
end
end
section
open Go Go.RowKit
section
variable {w0 w : World} {g k : Nat} {d : Dk} {L : Ly} {A : Option Addr} {ws : List ByteArray}
theorem newsT {w : World} {b : Nat} {t : TypeId} {x y z : Value} (h : Blk w b t #[x, y, z]) : ∀ (j : Nat) (u : Value), [x, y, z][j]? = some u → w.cell? ((⟨b, 0, none⟩ : Addr).add j) = some u := by
 intro j u hu
 have e : ((⟨b, 0, none⟩ : Addr).add j) = ⟨b, j, none⟩ := by unfold Addr.add; split <;> simp_all
 rw [e, h.cell j]
 match j, hu with
 | 0, hu => exact hu
 | 1, hu => exact hu
 | 2, hu => exact hu
theorem one3 (x y z : Int) : ∀ u ∈ [Value.int .i64 x, .int .i64 y, .int .i64 z], u.oneCell' = true := by
 intro u hu
 simp only [List.mem_cons, List.not_mem_nil, or_false] at hu
 rcases hu with rfl | rfl | rfl <;> rfl
theorem losC_info : (Tryz.prog.info? 169).map (fun i => (i.zero, i.size, i.bytes)) = some (some (.agg #[.int .i64 0, .int .i64 0, .int .i64 0]), 3, 24) := by kernel_rfl
theorem redC_info : (Tryz.prog.info? 174).map (fun i => (i.zero, i.size, i.bytes)) = some (some (.agg #[.int .i64 0, .int .i64 0, .int .i64 0]), 3, 24) := by kernel_rfl
set_option maxRecDepth 100000 in
set_option maxHeartbeats 4000000 in
theorem do_lose (h : CmdIn w0 w g d L k A ws) (c : Nat) : Calls Tryz.prog 54 #[.pointer (some ⟨g, 0, none⟩), .slice A ws.length c] w (DoP w0 w g L (aLose d ws)) := by
 have HN := hide (h.nums (3) (by omega) (by omega) c)
 have H := hide h
 clear h
 go_enter Tryz.func54, Tryz.ntmps54
 go_wp2_with fail
 refine HN.out.mono ?_
 rintro r w1 ⟨⟨hn, rfl⟩ | ⟨l, v, hn, rfl, hown⟩, hB1⟩
 case inl =>
  have HP := hide (H.out.bad (x := aLose d ws) (withN_none hn) hB1)
  go_wp2_with fail
  exact ⟨rfl, HP.out⟩
 obtain ⟨x0, x1, x2, gk, cp, rfl, rfl, n0, n1, n2, hgk0, hgk1⟩ := dnum3 hown ((numbersF_len hn).1 (by omega))
 have HB1 := hide hB1; have HNU := hide hn; have HO := hide hown
 clear hB1 hn hown
 cases hd : d.c with
 | none =>
  have HR := hide (ready_bad w1 (H.out.stdB HB1.out).err g none true (H.out.noCell HB1.out hd) rfl)
  have HX : Hid (aLose d ws = ⟨.error 6, d⟩) := hide ((withN_some HNU.out).trans (hasC_none hd))
  go_wp2_with fail
  refine HR.out.mono ?_
  rintro r w2 ⟨rfl, hB2⟩
  have HP := hide (H.out.bad HX.out (HB1.out.trans (hB2.mono HB1.out.size)))
  go_wp2_with fail
  exact ⟨rfl, HP.out⟩
 | some y =>
  obtain ⟨a, b, c10, hcv, hLS, hb0, hb1, hCl⟩ := H.out.clCell HB1.out hd
  have HR := hide (ready_ok w1 g _ true c10 rfl)
  have HD := hide (H.out.dk.below HB1.out)
  have HX : Hid (aLose d ws = ⟨.ok ⟨#[108, 111, 115, 101]⟩, { d with r := { d.r with ls := d.r.ls ++ [⟨x0, x1, x2⟩] } }⟩) := hide ((withN_some HNU.out).trans (hasC_some hd))
  have hgk : gk ≠ g := by have := H.out.dk.blk.lt; omega
  have c11 := HD.out.blk.cell 11
  have f11 := HD.out.blk.frozen 11
  simp at c11
  clear c10 hcv hLS hb0 hb1 hCl
  go_wp2_with fail
  refine HR.out.mono ?_
  rintro r w2 ⟨rfl, rfl⟩
  clear HR HN
  obtain ⟨vv, hvv⟩ : ∃ vv, L.v 2 = vv := ⟨_, rfl⟩
  rw [hvv] at c11
  have HVV := hide hvv
  obtain ⟨m, hm⟩ : ∃ m, d.r.ls.length = m := ⟨_, rfl⟩
  have hm6 : m ≤ 6000 := by have := H.out.ok.ls; have := H.out.hk; omega
  have hOW : w2.ownsRow w0.heap.size 169 3 vv m (lsV d.r.ls) := by
   have := HD.out.own 2 (by omega)
   rw [hvv] at this
   rw [← hm]
   exact this
  have HB0 := hide (Nat.le_trans H.out.dk.low.size HB1.out.size)
  have HO1 := hide ((own_keepB hOW (below_drewN (Below.refl _ _) 1) : w2.drew.ownsRow w0.heap.size 169 3 vv m (lsV d.r.ls)).alloc (.cells #[.int .i64 x0, .int .i64 x1, .int .i64 x2] 169))
  have HNW := hide (newsT (Blk.new w2.drew 169 #[.int .i64 x0, .int .i64 x1, .int .i64 x2]))
  have HMX : Hid (m + 1 ≤ maxLen ∧ (m + 1) * 24 ≤ 140737488355328) := hide (by simp [maxLen]; omega)
  have HSZ : Hid (w0.heap.size ≤ (w2.drew.alloc (.cells #[.int .i64 x0, .int .i64 x1, .int .i64 x2] 169)).heap.size) := hide (by have := HB0.out; simp; omega)
  obtain ⟨i0, hi, hz0, hz1, hz2⟩ := en_info_parts losC_info
  have HGE : Hid (∀ W8, (w2.drew.alloc (.cells #[.int .i64 x0, .int .i64 x1, .int .i64 x2] 169)).grownBy W8 vv.ownBlock → W8.cell? ⟨g, 11, none⟩ = some vv ∧ W8.frozen? ⟨g, 11, none⟩ = false ∧ Blk W8 g 37 (deskC d L)) := hide (fun W8 hg => by
   have hb : Blk W8 g 37 (deskC d L) := (HD.out.blk.drew.alloc _).grown hg (fun e => HD.out.off 2 (by omega) (by rw [HVV.out]; exact e.symm))
   have hc := hb.cell 11
   simp at hc
   rw [HVV.out] at hc
   exact ⟨hc, hb.frozen 11, hb⟩)
  have cA : (w2.alloc (.cells #[.int .i64 x0, .int .i64 x1, .int .i64 x2] 169)).cell? ⟨g, 11, none⟩ = some vv := by
   have hc := (HD.out.blk.alloc (.cells #[.int .i64 x0, .int .i64 x1, .int .i64 x2] 169)).cell 11
   simp at hc
   rw [HVV.out] at hc
   exact hc
  have HFIN : Hid (∀ (W8 : World) (v8 : Value), W8.ownsRow w0.heap.size 169 3 v8 (m + 1) (lsV d.r.ls ++ [.int .i64 x0, .int .i64 x1, .int .i64 x2]) → (w2.drew.alloc (.cells #[.int .i64 x0, .int .i64 x1, .int .i64 x2] 169)).grownBy W8 vv.ownBlock → (v8.ownBlock = vv.ownBlock ∨ ∀ q, v8.ownBlock = some q → (w2.drew.alloc (.cells #[.int .i64 x0, .int .i64 x1, .int .i64 x2] 169)).heap.size ≤ q) → DkTo w0 w g L (W8.setCell ⟨g, 11, none⟩ v8) { d with r := { d.r with ls := d.r.ls ++ [⟨x0, x1, x2⟩] } }) := hide (fun W8 v8 ho hg hv => by
   have hBA : Below w2.heap.size w2 (w2.drew.alloc (.cells #[.int .i64 x0, .int .i64 x1, .int .i64 x2] 169)) := (below_drewN (Below.refl _ _) 1).alloc (Nat.le_refl _) _
   have hA := HD.out.below hBA
   have hb : Blk (W8.setCell ⟨g, 11, none⟩ v8) g 37 (deskC { d with r := { d.r with ls := d.r.ls ++ [⟨x0, x1, x2⟩] } } { L with v := updF L.v 2 v8 }) := (HGE.out W8 hg).2.2.set_ 11 v8
   have hX : ∀ j, j < 6 → j ≠ 2 → rowX { d with r := { d.r with ls := d.r.ls ++ [⟨x0, x1, x2⟩] } } j = rowX d j ∧ rowL { d with r := { d.r with ls := d.r.ls ++ [⟨x0, x1, x2⟩] } } j = rowL d j := (fun j hj hne => by
    obtain rfl | rfl | rfl | rfl | rfl : j = 0 ∨ j = 1 ∨ j = 3 ∨ j = 4 ∨ j = 5 := by omega
    all_goals exact ⟨rfl, rfl⟩)
   refine DkTo.after HB1.out (DkTo.after hBA (hA.row 2 (by omega) v8 (by rw [HVV.out]; exact hg) (by rw [HVV.out]; exact hv) (only_setCell (only_refl _ _) (.inl rfl) _) ?_ hb hX rfl (.inr ⟨by omega, rfl⟩)))
   have e1 : lsV (d.r.ls ++ [(⟨x0, x1, x2⟩ : Ls)]) = lsV d.r.ls ++ [.int .i64 x0, .int .i64 x1, .int .i64 x2] := lsV_snoc _ _
   show W8.ownsRow w0.heap.size 169 3 v8 (d.r.ls ++ [(⟨x0, x1, x2⟩ : Ls)]).length (lsV (d.r.ls ++ [(⟨x0, x1, x2⟩ : Ls)]))
   rw [e1, List.length_append, hm]
   exact ho)
  have HOB : Hid (∀ q, vv.ownBlock = some q → q ≠ gk) := hide (fun q e => by
   have h1 := H.out.dk.lo (i := q) (.inr (.inl ⟨2, by omega, by rw [HVV.out]; exact e⟩))
   omega)
  obtain ⟨S9, hS9⟩ : ∃ S9 : World → Prop, (fun W => W.cell? ⟨g, 11, none⟩ = some vv ∧ W.cell? ⟨gk, 0, none⟩ = some (.int .i64 x0) ∧ W.cell? ⟨gk, 1, none⟩ = some (.int .i64 x1) ∧ W.cell? ⟨gk, 2, none⟩ = some (.int .i64 x2)) = S9 := ⟨_, rfl⟩
  have HS9 : Hid (S9 = fun W => W.cell? ⟨g, 11, none⟩ = some vv ∧ W.cell? ⟨gk, 0, none⟩ = some (.int .i64 x0) ∧ W.cell? ⟨gk, 1, none⟩ = some (.int .i64 x1) ∧ W.cell? ⟨gk, 2, none⟩ = some (.int .i64 x2)) := hide hS9.symm
  have HNQ : Hid (∀ W : World, W.heap[gk]? = w2.heap[gk]? → W.cell? ⟨gk, 0, none⟩ = some (.int .i64 x0) ∧ W.cell? ⟨gk, 1, none⟩ = some (.int .i64 x1) ∧ W.cell? ⟨gk, 2, none⟩ = some (.int .i64 x2)) := hide (fun W hq => ⟨(World.cell?_of_block (a := ⟨gk, 0, none⟩) hq).trans n0, (World.cell?_of_block (a := ⟨gk, 1, none⟩) hq).trans n1, (World.cell?_of_block (a := ⟨gk, 2, none⟩) hq).trans n2⟩)
  have HH : Hid (S9 w2.drew) := hide (by rw [HS9.out]; exact ⟨c11, HNQ.out _ rfl⟩)
  have HHA : Hid (S9 (w2.drew.alloc (.cells #[.int .i64 x0, .int .i64 x1, .int .i64 x2] 169))) := hide (by rw [HS9.out]; exact ⟨cA, HNQ.out _ (Below.heap_alloc _ _ _ hgk1)⟩)
  have HH8 : Hid (∀ W8, (w2.drew.alloc (.cells #[.int .i64 x0, .int .i64 x1, .int .i64 x2] 169)).grownBy W8 vv.ownBlock → S9 W8) := hide (fun W8 hg => by
   rw [HS9.out]
   exact ⟨(HGE.out W8 hg).1, HNQ.out _ ((hg.block gk (by simp; omega) (fun e => HOB.out gk e.symm rfl)).trans (Below.heap_alloc _ _ _ hgk1))⟩)
  clear hOW hm hvv hS9 cA
  go_wp2_with fail
  refine wp_region_noPanic ?_
  refine wp_region_L (S := S9) (L := 21) (by kernel_rfl) ?_
  clear c11 n0 n1 n2
  have hH := HH.out
  try simp only [List.size_toArray, List.length_cons, List.length_nil, Nat.reduceAdd]
  refine wpAnyL_takes (fuel := 6) (by kernel_rfl) (fun _ _ _ _ h => h) (by assumption) [0, 1, 2, 3, 4, 5, 6, 7, 8, 9, 10, 11, 12, 13, 14, 15] (by kernel_rfl) ?_
  iterate 16
   refine ⟨_, ?_, rfl, .inl ⟨by rfl, ?_⟩, ?_⟩
   rotate_left
   ·(intro w9 hSw; rw [HS9.out] at hSw; obtain ⟨q0, q1, q2, q3⟩ := hSw; go_simp <;> with_reducible rfl)
   try simp only [Act.put, List.setIfInBounds_toArray, List.set_cons_zero, List.set_cons_succ, List.getElem_toArray, List.getElem_cons_zero, List.getElem_cons_succ]
  unfold Takes
  clear hH
  have hH := HH.out
  refine wpAnyL_one (i := 16) (by kernel_rfl) rfl (fun K9 hK9 => ?_)
  try simp only [List.getElem_toArray, List.getElem_cons_zero, List.getElem_cons_succ]
  go_simp
  refine hK9.out _ _ (fun _ => HHA.out) ?_
  clear hK9 K9 hH
  try simp only [Act.put, List.setIfInBounds_toArray, List.set_cons_zero, List.set_cons_succ]
  refine wpAnyL_one (i := 17) (by kernel_rfl) rfl (fun K9 hK9 => ?_)
  try simp only [List.getElem_toArray, List.getElem_cons_zero, List.getElem_cons_succ]
  rw [if_pos (by rfl)]
  refine wp_append_own2 _ (.tmp 15) (.tmp 26) 31 rfl w0.heap.size 169 i0 _ 3 24 Tryz.underlying31 hi hz0 hz1 hz2 rfl (by decide) vv m (lsV d.r.ls) rfl (by exact HO1.out) ⟨w2.heap.size, 0, none⟩ 1 1 [.int .i64 x0, .int .i64 x1, .int .i64 x2] rfl rfl (by exact HNW.out) (one3 x0 x1 x2) HMX.out.1 HMX.out.2 (by exact HSZ.out) ?_
  intro v8 w8 hown hg hwh
  obtain ⟨A8, c8, rfl, -⟩ := own_at hown
  have HO8 := hide hown; have HG8 := hide hg; have HV8 := hide hwh
  have HS8 := hide (HH8.out w8 hg)
  have c11 := (HGE.out w8 hg).1
  have f11 := (HGE.out w8 hg).2.1
  clear hown hg hwh
  refine hK9.out _ _ (fun _ => HS8.out) ?_
  clear hK9 K9
  try simp only [Act.put, List.setIfInBounds_toArray, List.set_cons_zero, List.set_cons_succ]
  refine wpAnyL_one (i := 18) (by kernel_rfl) rfl (fun K9 hK9 => ?_)
  try simp only [List.getElem_toArray, List.getElem_cons_zero, List.getElem_cons_succ]
  go_simp
  refine hK9.out _ _ (fun _ => HS8.out) ?_
  clear hK9 K9
  try simp only [Act.put, List.setIfInBounds_toArray, List.set_cons_zero, List.set_cons_succ]
  refine wpAnyL_one (i := 19) (by kernel_rfl) rfl (fun K9 hK9 => ?_)
  try simp only [List.getElem_toArray, List.getElem_cons_zero, List.getElem_cons_succ]
  go_simp
  refine hK9.out _ _ (fun _ => HS8.out) ?_
  clear hK9 K9
  try simp only [Act.put, List.setIfInBounds_toArray, List.set_cons_zero, List.set_cons_succ]
  refine wpAnyL_one (i := 20) (by kernel_rfl) rfl (fun K9 hK9 => ?_)
  try simp only [List.getElem_toArray, List.getElem_cons_zero, List.getElem_cons_succ]
  go_simp
  refine hK9.out _ _ (fun _ => HS8.out) ?_
  clear hK9 K9
  try simp only [Act.put, List.setIfInBounds_toArray, List.set_cons_zero, List.set_cons_succ]
  refine wpAnyL_one (i := 21) (by kernel_rfl) rfl (fun K9 hK9 => ?_)
  try simp only [List.getElem_toArray, List.getElem_cons_zero, List.getElem_cons_succ]
  go_simp
  refine hK9.out _ _ (fun h9 => absurd h9 (by decide)) ?_
  clear hK9 K9
  try simp only [Act.put, List.setIfInBounds_toArray, List.set_cons_zero, List.set_cons_succ]
  refine wpAnyL_done (by kernel_rfl) ?_ _
  refine NoPanic.normal ?_
  go_wp2_with fail
  go_ret
  rw [HX.out]
  exact ⟨rfl, HFIN.out _ _ HO8.out HG8.out HV8.out⟩
end
end
end Go.Proofs.YtideefjnlakciaaGreatDoor
