/- What the rows of the desk's laws list, as the walk wants it, and a world that meets it; no condition. -/
import Derived.Test.YtideefjnlakciaaGreatDoorP19
import Derived.Test.YtideefjnlakciaaGreatDoorP17
import Derived.LaidMore
import Derived.Lay
import Derived.Lib.LaidTab
set_option linter.unusedVariables false
set_option linter.unusedSimpArgs false
namespace Go.Proofs.YtideefjnlakciaaGreatDoor
section
open Go.ChangeShapes Go.WideShapes Go.RowKit
theorem iface_cell {H : Type} {enc : TypeId × Value → H} {P : Program} {w : World} {base : Nat} {sp : Nat → Bool} {fuel : Nat} {t : TypeId} {ms : Array (String × TypeId)} {cs : List Value} {nm : String} {d : DataW H} {p : List MemPlace}
 (ht : P.underlying t = some (.interface ms)) (h : DataW.trod enc P w base sp false fuel t cs = some (.iface nm d, p)) : ∃ u v, cs = [.iface u v] := by
 cases fuel with
 | zero => simp [DataW.trod] at h
 | succ n =>
  match cs, h with
  | [], h => simp [DataW.trod, ht] at h
  | [v], h => cases v <;> simp [DataW.trod, ht] at h <;> exact ⟨_, _, rfl⟩
  | _ :: _ :: _, h => simp [DataW.trod, ht] at h
theorem dg_syn : Tryz.prog.globalNamed "strconv.ErrSyntax" = some 5 := by kernel_rfl
theorem dg_ran : Tryz.prog.globalNamed "strconv.ErrRange" = some 6 := by kernel_rfl
theorem dg_six : Tryz.prog.globalNamed "math/bits.deBruijn64tab" = some 9 := by kernel_rfl
theorem dt_pow : (Tryz.prog.globals[7]?).map (·.type) = some 249 := by kernel_rfl
theorem du_pow : Tryz.prog.underlying 249 = some (.array 20 185) := by kernel_rfl
theorem du_u64 : Tryz.prog.underlying 185 = some (.int .u64) := by kernel_rfl
theorem dc_pow : Tryz.prog.cellsOf 249 = 20 := by kernel_rfl
theorem dc_u64 : Tryz.prog.cellsOf 185 = 1 := by kernel_rfl
theorem dg_pow : Tryz.prog.globalNamed "internal/strconv.uint64pow10" = some 7 := by kernel_rfl
theorem d_tab : (Rows.laid_internal_strconv_uint64pow10 : DataW Unit) = Lib.tabData .u64 Lib.pow10Tab := by kernel_rfl
theorem dt_syn : (Tryz.prog.globals[5]?).map (·.type) = some 48 := by kernel_rfl
theorem dt_ran : (Tryz.prog.globals[6]?).map (·.type) = some 48 := by kernel_rfl
theorem std_of_parts {W : World} (hE : ErrT W) {c1 c2 c3 c4 : Array Value} (h1 : W.var? Tryz.prog "math/bits.deBruijn64tab" = some c1) (h2 : W.var? Tryz.prog "internal/strconv.uint64pow10" = some c2) (h3 : W.var? Tryz.prog "strconv.ErrRange" = some c3) (h4 : W.var? Tryz.prog "strconv.ErrSyntax" = some c4)
 (e2 : c2 = (Lib.pow10Tab.map fun z => Value.int .u64 z).toArray) (e3 : ∃ u v, c3.toList = [.iface u v]) (e4 : ∃ u v, c4.toList = [.iface u v]) : StdOk W := by
 refine ⟨hE, by unfold Lib.TabIs; rw [← e2]; exact h2, ?_, ?_, ?_⟩
 ·obtain ⟨u, v, e⟩ := e4
  have := World.var?_cell dg_syn h4 0
  rw [Array.eq_one_of_toList e] at this
  exact ⟨_, by simpa using this, .inr ⟨u, v, rfl⟩⟩
 ·obtain ⟨u, v, e⟩ := e3
  have := World.var?_cell dg_ran h3 0
  rw [Array.eq_one_of_toList e] at this
  exact ⟨_, by simpa using this, .inr ⟨u, v, rfl⟩⟩
 ·simp only [World.var?, dg_six, Option.bind_some] at h1
  split at h1
  ·rename_i cs ty fz h
   have := (Array.getElem?_eq_some_iff.1 h).1
   omega
  ·cases h1
set_option maxRecDepth 100000 in
theorem std_of_laid {W : World} (h : laidMetH Tryz.prog Rows.deskPiecesRow.laid W) : StdOk W := by
 have h' : laidMet Tryz.prog [("math/bits.deBruijn32tab", Rows.laid_math_bits_deBruijn32tab), ("math/bits.deBruijn64tab", Rows.laid_math_bits_deBruijn64tab), ("internal/strconv.uint64pow10", Rows.laid_internal_strconv_uint64pow10), ("unicode/utf8.acceptRanges", Rows.laid_unicode_utf8_acceptRanges), ("strconv.ErrRange", Rows.laid_strconv_ErrRange), ("strconv.ErrSyntax", Rows.laid_strconv_ErrSyntax), ("unicode/utf8.first", Rows.laid_unicode_utf8_first)] W ∧
  handlesMet Tryz.prog [("errors.errorType", Rows.laid_errors_errorType)] W := h
 clear h
 obtain ⟨⟨ps, ⟨_, _, _, _, _, _, _, _, _, _, ⟨_, _, c1, _, _, _, _, _, v1, _, ⟨_, t2, c2, _, _, _, g2, ht2, v2, d2, ⟨_, _, _, _, _, _, _, _, _, _, ⟨_, t3, c3, _, _, _, g3, ht3, v3, d3, ⟨_, t4, c4, _, _, _, g4, ht4, v4, d4, _, _⟩, _⟩, _⟩, _⟩, _⟩, _⟩, _⟩, hh⟩ := h'
 obtain rfl := Option.some.inj (dg_pow.symm.trans g2)
 obtain rfl := Option.some.inj (dt_pow.symm.trans ht2)
 obtain rfl := Option.some.inj (dg_ran.symm.trans g3)
 obtain rfl := Option.some.inj (dt_ran.symm.trans ht3)
 obtain rfl := Option.some.inj (dg_syn.symm.trans g4)
 obtain rfl := Option.some.inj (dt_syn.symm.trans ht4)
 rw [d_tab] at d2
 have e2 := Lib.cells_of_tab du_pow du_u64 dc_u64 dc_pow d2
 exact std_of_parts (errT_of_handle hh (List.mem_singleton.2 rfl)) v1 v2 v3 v4 (by rw [← e2]) (iface_cell Tryz.underlying48 d3) (iface_cell Tryz.underlying48 d4)
end
section
open Go.ChangeShapes Go.WideShapes Go.RowKit
noncomputable def laidWorldD (os : Os) : World :=
 let w := World.laidAll Tryz.prog os [("math/bits.deBruijn32tab", Rows.laid_math_bits_deBruijn32tab), ("math/bits.deBruijn64tab", Rows.laid_math_bits_deBruijn64tab), ("internal/strconv.uint64pow10", Rows.laid_internal_strconv_uint64pow10), ("unicode/utf8.acceptRanges", Rows.laid_unicode_utf8_acceptRanges), ("strconv.ErrRange", Rows.laid_strconv_ErrRange), ("strconv.ErrSyntax", Rows.laid_strconv_ErrSyntax), ("unicode/utf8.first", Rows.laid_unicode_utf8_first)]
 { w with heap := w.heap.modify 4 fun
  | .cells _ t frozen => .cells #[.iface 277 (.agg #[hdl 48])] t frozen
  | o => o }
set_option maxRecDepth 100000 in
theorem laidWorldD_met (os : Os) (args : Array Value) : laidMetH Tryz.prog Rows.deskPiecesRow.laid ((laidWorldD os).forCall (fun _ _ => 0) ⟨#[], args, []⟩).memory :=
 laidMetH_of_parts (laidMet_of_run' 8 (by kernel_rfl) (by kernel_rfl)) (by kernel_rfl)
set_option maxRecDepth 100000 in
theorem laidWorldD_shaped (os : Os) (args : Array Value) : ((laidWorldD os).forCall (fun _ _ => 0) ⟨#[], args, []⟩).Shaped Tryz.prog :=
 World.shaped_of_ZipB (by kernel_rfl) (by kernel_rfl)
end
end Go.Proofs.YtideefjnlakciaaGreatDoor
