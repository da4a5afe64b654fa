/- Spans as values: what two have in common; plain definitions. -/
import Derived.Test.YtfdadkngbnhmeaaDoorIn
import Derived.Deep.RegionHeld3
namespace Go.Proofs.YtfdadkngbnhmeaaDoor
open Go.RowKit
abbrev spanV (a b : Int) : Value := .agg #[.int .i64 a, .int .i64 b]
def meetB (a b c d : Int) : Bool := decide (a < b ∧ c < d ∧ a < d ∧ c < b)
def comA (a b c d : Int) : Int := if meetB a b c d then max a c else 0
def comB (a b c d : Int) : Int := if meetB a b c d then min b d else 0
end Go.Proofs.YtfdadkngbnhmeaaDoor
