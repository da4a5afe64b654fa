/- The contract of metronomekeep.begun; conditions: the plan and the clocks lie in memory. -/
import Derived.Test.YtdogdlnaacimpaaGreatDoorP16
import Derived.Test.YtdogdlnaacimpaaGreatDoorP13
set_option linter.unusedVariables false
set_option linter.unusedSimpArgs false
namespace Go.Proofs.YtdogdlnaacimpaaGreatDoor
section
open Go Go.RowKit
attribute [local irreducible] chk
end
end Go.Proofs.YtdogdlnaacimpaaGreatDoor
