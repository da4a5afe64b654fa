/-
  DERIVED. GIVEN WITH THE SEED: THE CARDS: each row of YtfdadkngbnhmeaaDoorRows.lean that lists a variable, with what it lists TIED to the program's text (the seventh form; the later family's looks); each row that meets fmt, with fmt's text TOLD by the authors' own Lean function (tested against real Go, not proved from fmt's source: count such statements apart). THE CARD IS WHAT COUNTS. Prove the row's statement (the work); the ties are given (YtfdadkngbnhmeaaDoorTie.lean); close each card by the builder's one call (the guide's Derived/Test/ToyasCard.lean, 'card_holds'). Laid BY PROGRAM, IN A SANDBOX (cutbox-door.mjs). By AI agents, Wed Nov 11 2026. No macro, syntax, notation, axiom, sorry.
-/
import Derived.Test.YtfdadkngbnhmeaaDoorRows
import GoSem.ClaimSeven
namespace Go.Proofs.YtfdadkngbnhmeaaDoor
namespace Rows

/-- THE TIED CARD OF 'metronomelaw.PlanDecodes'. -/
def planDecodesCard : Claim7 := { stood := { row := planDecodesRow, standIns := [], harness := (true, "a09b32c75f9e673de537572537e660e2dc42fb65ea795d0fc1704a84a023b35f"), looks := true }, kinds := [], alts := [], laidByText := true, laidKinds := [.handle, .data], laidTests := true, laidLooks := .later }
def PlanDecodesCardSaid : Prop := Claim7.holds Tryd.pinned (.plain (OpenSpec.ofChange planDecodesSpec)) planDecodesCard

/-- THE TIED CARD OF 'metronomelaw.AgreeMidpoint'. -/
def agreeMidpointCard : Claim7 := { stood := { row := agreeMidpointRow, standIns := [], harness := (true, "a09b32c75f9e673de537572537e660e2dc42fb65ea795d0fc1704a84a023b35f"), looks := true }, kinds := [], alts := [], laidByText := true, laidKinds := [.handle], laidTests := true, laidLooks := .later }
def AgreeMidpointCardSaid : Prop := Claim7.holds Tryd.pinned (.plain (OpenSpec.ofChange agreeMidpointSpec)) agreeMidpointCard

/-- THE TIED CARD OF 'metronomelaw.AgreeRound'. -/
def agreeRoundCard : Claim7 := { stood := { row := agreeRoundRow, standIns := [], harness := (true, "a09b32c75f9e673de537572537e660e2dc42fb65ea795d0fc1704a84a023b35f"), looks := true }, kinds := [], alts := [], laidByText := true, laidKinds := [.handle, .data], laidTests := true, laidLooks := .later }
def AgreeRoundCardSaid : Prop := Claim7.holds Tryd.pinned (.plain (OpenSpec.ofChange agreeRoundSpec)) agreeRoundCard

/-- THE TIED CARD OF 'metronomekeep.AgreeHalves'. -/
def agreeHalvesCard : Claim7 := { stood := { row := agreeHalvesRow, standIns := [], harness := (true, "a09b32c75f9e673de537572537e660e2dc42fb65ea795d0fc1704a84a023b35f"), looks := true }, kinds := [], alts := [], laidByText := true, laidKinds := [.handle], laidTests := true, laidLooks := .later }
def AgreeHalvesCardSaid : Prop := Claim7.holds Tryd.pinned (.plain (OpenSpec.ofChange agreeHalvesSpec)) agreeHalvesCard

/-- THE SECOND FORM's CARD OF 'metronomelaw.PlanDecodes'. -/
def planDecodesUptoCard : Claim7 := { stood := { row := planDecodesUptoRow, standIns := [], harness := (true, "a09b32c75f9e673de537572537e660e2dc42fb65ea795d0fc1704a84a023b35f"), looks := true }, kinds := [], alts := [], laidByText := true, laidKinds := [.handle, .data], laidTests := true, laidLooks := .later }
def PlanDecodesUptoCardSaid : Prop := Claim7.holds Tryd.pinned (.plain (OpenSpec.upto planDecodesSpec)) planDecodesUptoCard

/-- THE SECOND FORM's CARD OF 'metronomelaw.AgreeMidpoint'. -/
def agreeMidpointUptoCard : Claim7 := { stood := { row := agreeMidpointUptoRow, standIns := [], harness := (true, "a09b32c75f9e673de537572537e660e2dc42fb65ea795d0fc1704a84a023b35f"), looks := true }, kinds := [], alts := [], laidByText := true, laidKinds := [.handle], laidTests := true, laidLooks := .later }
def AgreeMidpointUptoCardSaid : Prop := Claim7.holds Tryd.pinned (.plain (OpenSpec.upto agreeMidpointSpec)) agreeMidpointUptoCard

/-- THE SECOND FORM's CARD OF 'metronomelaw.AgreeRound'. -/
def agreeRoundUptoCard : Claim7 := { stood := { row := agreeRoundUptoRow, standIns := [], harness := (true, "a09b32c75f9e673de537572537e660e2dc42fb65ea795d0fc1704a84a023b35f"), looks := true }, kinds := [], alts := [], laidByText := true, laidKinds := [.handle, .data], laidTests := true, laidLooks := .later }
def AgreeRoundUptoCardSaid : Prop := Claim7.holds Tryd.pinned (.plain (OpenSpec.upto agreeRoundSpec)) agreeRoundUptoCard

/-- THE SECOND FORM's CARD OF 'metronomekeep.AgreeHalves'. -/
def agreeHalvesUptoCard : Claim7 := { stood := { row := agreeHalvesUptoRow, standIns := [], harness := (true, "a09b32c75f9e673de537572537e660e2dc42fb65ea795d0fc1704a84a023b35f"), looks := true }, kinds := [], alts := [], laidByText := true, laidKinds := [.handle], laidTests := true, laidLooks := .later }
def AgreeHalvesUptoCardSaid : Prop := Claim7.holds Tryd.pinned (.plain (OpenSpec.upto agreeHalvesSpec)) agreeHalvesUptoCard
end Rows
end Go.Proofs.YtfdadkngbnhmeaaDoor
