/- The contract of frame.Encode at a frame without a message; no condition. -/
import Derived.Test.YtdbegdhbabfnoaaDoorFe
namespace Go.Proofs.YtdbegdhbabfnoaaDoor
open Go.RowKit

def frN (nd sl mb : Nat) : List Nat := [nd, sl, mb / 256, mb % 256, 0]

end Go.Proofs.YtdbegdhbabfnoaaDoor

