/- A plan's cells; no condition. -/
import Derived.Test.YtfdadkngbnhmeaaDoorLib
namespace Go.Proofs.YtfdadkngbnhmeaaDoor
open Go.RowKit

/-- A plan's cells. -/
abbrev planC (nd fa sk ji dr R : Int) (S L : Value) (fr : Int) (Q : Value) : Array Value := #[.int .i64 nd, .int .i64 fa, .int .i64 sk, .int .i64 ji, .int .i64 dr, .int .i64 R, S, L, .int .i64 fr, Q]
end Go.Proofs.YtfdadkngbnhmeaaDoor
