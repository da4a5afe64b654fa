/- What a row that lists errors.errorType and metronomeref.Fine gives its walk, and a world that meets it; no condition. -/
import Derived.Test.YtfdadkngbnhmeaaDoorDoor
import Derived.Test.YtfdadkngbnhmeaaDoorRwi
import Derived.Lib.SmallJoins
namespace Go.Proofs.YtfdadkngbnhmeaaDoor
open Go.ChangeShapes Go.WideShapes Go.RowKit Go.Joins

theorem d_fine : Tryd.prog.globalNamed "metronome/metronomeref.Fine" = some 0 := by kernel_rfl
theorem d_fineT : (Tryd.prog.globals[0]?).map (·.type) = some 30 := by kernel_rfl
theorem d_fineC : Tryd.prog.cellsOf 30 = 2 := by kernel_rfl
theorem d_intC : Tryd.prog.cellsOf 3 = 1 := by kernel_rfl
theorem d_errnoC : Tryd.prog.cellsOf 28 = 1 := by kernel_rfl
set_option maxRecDepth 100000 in
theorem fine_of_laid {W : World} (h : laidMet Tryd.prog [("metronome/metronomeref.Fine", Rows.laid_metronome_metronomeref_Fine)] W) : FinT W := by
  obtain ⟨ps, ⟨g, t, cs, fuel, p, q, hg, ht, hvar, hd, _, _⟩, _⟩ := h
  obtain rfl := Option.some.inj (d_fine.symm.trans hg)
  obtain rfl := Option.some.inj (d_fineT.symm.trans ht)
  obtain ⟨xs, m, rfl, hx1, hlen, hn3, hel⟩ := DataW.trod_struct Tryd.underlying30 hd
  have h0 := hel 0 _ rfl
  have h1 := hel 1 _ rfl
  obtain ⟨l⟩ := cs
  rw [d_fineC] at hlen
  match l, hlen, xs, hn3 with
  | [c0, c1], _, [x0, x1], _ =>
    obtain ⟨a, e0, f0, _⟩ := DataW.trod_int Tryd.underlying28 h0
    obtain ⟨b, e1, f1, _⟩ := DataW.trod_int Tryd.underlying3 h1
    simp [d_intC, d_errnoC] at e0 e1
    subst e0 e1
    subst f0 f1
    simp [Rows.laid_metronome_metronomeref_Fine] at hx1
    obtain ⟨⟨rfl, rfl⟩, _⟩ := hx1
    constructor
    · simpa using World.var?_cell hg hvar 0
    · simpa using World.var?_cell hg hvar 1
theorem fine_of_laid2 {W : World} (h : laidMetH Tryd.prog [("errors.errorType", Rows.laid_errors_errorType), ("metronome/metronomeref.Fine", Rows.laid_metronome_metronomeref_Fine)] W) : FinT W := by
  have h' : laidMet Tryd.prog [("metronome/metronomeref.Fine", Rows.laid_metronome_metronomeref_Fine)] W ∧ handlesMet Tryd.prog [("errors.errorType", Rows.laid_errors_errorType)] W := h
  exact fine_of_laid h'.1
theorem errT_of_laid2 {W : World} (h : laidMetH Tryd.prog [("errors.errorType", Rows.laid_errors_errorType), ("metronome/metronomeref.Fine", Rows.laid_metronome_metronomeref_Fine)] W) : ErrT W := by
  have h' : laidMet Tryd.prog [("metronome/metronomeref.Fine", Rows.laid_metronome_metronomeref_Fine)] W ∧ handlesMet Tryd.prog [("errors.errorType", Rows.laid_errors_errorType)] W := h
  exact errT_of_handle h'.2 (List.mem_singleton.2 rfl)
noncomputable def laidWorld2 (os : Os) : World :=
  let w0 := World.holding Tryd.prog os ⟨#[], #[], []⟩
  { w0 with heap := (w0.heap.modify 1 fun
      | .cells _ t frozen => .cells #[.iface 138 (.agg #[hdl 34])] t frozen
      | o => o).modify 0 fun
      | .cells _ t frozen => .cells #[.int .i64 0, .int .i64 (-1)] t frozen
      | o => o }
theorem laidWorld2_met (os : Os) (args : Array Value) : laidMetH Tryd.prog [("errors.errorType", Rows.laid_errors_errorType), ("metronome/metronomeref.Fine", Rows.laid_metronome_metronomeref_Fine)] ((laidWorld2 os).forCall (fun _ _ => 0) ⟨#[], args, []⟩).memory :=
  laidMetH_of_parts (laidMet_of_run' 8 (by kernel_rfl) (by kernel_rfl)) (by kernel_rfl)
end Go.Proofs.YtfdadkngbnhmeaaDoor
