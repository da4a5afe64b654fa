/- Arguments that are structs of numbers, taken apart; no condition. -/
import Derived.Test.YtdbegdhbabfnoaaDoorLaw
import Derived.Lib.SmallJoins
namespace Go.Proofs.YtdbegdhbabfnoaaDoor
open Go.ChangeShapes Go.WideShapes Go.ChangeAt Go.RowKit Go.Joins
variable {H : Type} {enc : TypeId × Value → H}

theorem cellsInt : Tryd.prog.cellsOf 3 = 1 := by kernel_rfl
/-- The first n numbers of a slice lie in memory. -/
def IntsAt (W : World) (A : Option Addr) (n : Nat) (zs : List Int) : Prop := ∀ j, j < n → ∃ b off, A = some ⟨b, off, none⟩ ∧ W.cell? ⟨b, off + j, none⟩ = some (.int .i64 (zs.getD j 0))
end Go.Proofs.YtdbegdhbabfnoaaDoor

