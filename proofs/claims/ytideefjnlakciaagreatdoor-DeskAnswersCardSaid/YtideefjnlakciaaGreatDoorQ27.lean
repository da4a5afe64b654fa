/- The contract of metronomekeep.begun; conditions: the plan and the clocks lie in memory. -/
import Derived.Test.YtideefjnlakciaaGreatDoorQ00
import Derived.Test.YtideefjnlakciaaGreatDoorQ12
import Derived.Test.YtideefjnlakciaaGreatDoorQ10
import Derived.Test.YtideefjnlakciaaGreatDoorQ17
import Derived.Laws.BytesArg
import Derived.Laws.MakeOwn
set_option maxRecDepth 1000000
set_option maxHeartbeats 20000000
set_option linter.unusedVariables false
set_option linter.unusedSimpArgs false
namespace Go.Proofs.YtideefjnlakciaaGreatDoor
open Go.RowKit Go.Proofs.Tryz
section
attribute [local irreducible] iO
end
section
attribute [local irreducible] gD gG mT lJ fP
end
section
attribute [local irreducible] gD gG iO kQ fP
end
section
variable {mk:Nat->ByteArray}{hi lo:Nat}{q pq:List ByteArray}{d:ByteArray}
end
section
variable {mk:Nat->Nat->ByteArray}{put:Nat->Nat}{last:Nat->Nat->Nat}{p:Pl}{c:Cl}
end
section
variable {w w':World}{g n base pb tb nl nd m:Nat}{G f put:Nat->Nat}{last h2:Nat->Nat->Nat}{S S':Ix->Ob}
end
section
variable {w w' w0:World}{base:Nat}{a b a1 b1:Ad}{n:Cn}{p:Pl}{P:lz}{fy:Nat}{x y x1 y1:Cl}
end
section
variable {w2 w w' w1:World}{ga gb:Nat}{p:Pl}{P:lz}{fy N:Nat}{x y x1 y1:Cl}{bs:List Nat}
end
section
variable {w2 w w' w1:World}{ga gb:Nat}{p:Pl}{fy N:Nat}{x y x1 y1:Cl}{bs:List Nat}{A AL:Option Addr}{c cl:Nat}{q:Value}
end
end Go.Proofs.YtideefjnlakciaaGreatDoor
