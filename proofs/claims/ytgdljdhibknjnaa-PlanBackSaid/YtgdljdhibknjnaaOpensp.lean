/- Arguments that are spans, taken apart; no condition. -/
import Derived.Test.YtgdljdhibknjnaaLaw
import Derived.Lib.SmallJoins
namespace Go.Proofs.Ytgdljdhibknjnaa
open Go.ChangeShapes Go.WideShapes Go.ChangeAt Go.RowKit Go.Joins
variable {H : Type} {enc : TypeId × Value → H}
theorem cellsSpan : Try.prog.cellsOf 88 = 2 := by kernel_rfl
set_option maxRecDepth 100000 in
theorem open_span {W : World} {b : Nat} {sp : Nat → Bool} {r : Reach} {B : Nat} {hd : Bool} {v : Value} {d : DataW H} {p : List MemPlace}
    (h : DataW.Trod enc Try.prog W b sp hd 88 v d p) (hv : Value.okWide Try.prog W r B 88 v) : ∃ f s : Int, v = .agg #[.int .i64 f, .int .i64 s] := by
  obtain ⟨c0, c1, y0, y1, m, rfl, rfl, rfl, hy0, hy1⟩ := open_agg2 Try.underlying88 (by kernel_rfl) cellsSpan hv h
  obtain ⟨a, e0, _, _⟩ := DataW.trod_int Try.underlying3 hy0
  obtain ⟨b, e1, _, _⟩ := DataW.trod_int Try.underlying3 hy1
  simp at e0 e1
  subst e0 e1
  exact ⟨a, b, rfl⟩
end Go.Proofs.Ytgdljdhibknjnaa
