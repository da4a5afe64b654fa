/-
  DERIVED. GIVEN WITH THE SEED: THE CARDS: each row of YtgdljdhibknjnabDoorRows.lean that lists a variable, with what it lists TIED to the program's text (the seventh form; the later family's looks); each row that meets fmt, with fmt's text TOLD by the authors' own Lean function (tested against real Go, not proved from fmt's source: count such statements apart). THE CARD IS WHAT COUNTS. Prove the row's statement (the work); the ties are given (YtgdljdhibknjnabDoorTie.lean); close each card by the builder's one call (the guide's Derived/Test/ToyasCard.lean, 'card_holds'). Laid BY PROGRAM, IN A SANDBOX (cutbox-door.mjs). By AI agents, Wed Nov 11 2026. No macro, syntax, notation, axiom, sorry.
-/
import Derived.Test.YtgdljdhibknjnabDoorRows
import GoSem.ClaimSeven
namespace Go.Proofs.YtgdljdhibknjnabDoor
namespace Rows

/-- THE TIED CARD OF 'metronomelaw.TicksLocal'. -/
def ticksLocalCard : Claim7 := { stood := { row := ticksLocalRow, standIns := [], harness := (true, "002718983861c457cd992b5ab013d676ffa93e7cf8adce4089de6726128fd035"), looks := true }, kinds := [], alts := [], laidByText := true, laidKinds := [.handle], laidTests := true, laidLooks := .later }
def TicksLocalCardSaid : Prop := Claim7.holds Tryd.pinned (.plain (OpenSpec.ofChange ticksLocalSpec)) ticksLocalCard

/-- THE TIED CARD OF 'metronomelaw.TicksReal'. -/
def ticksRealCard : Claim7 := { stood := { row := ticksRealRow, standIns := [], harness := (true, "002718983861c457cd992b5ab013d676ffa93e7cf8adce4089de6726128fd035"), looks := true }, kinds := [], alts := [], laidByText := true, laidKinds := [.handle], laidTests := true, laidLooks := .later }
def TicksRealCardSaid : Prop := Claim7.holds Tryd.pinned (.plain (OpenSpec.ofChange ticksRealSpec)) ticksRealCard

/-- THE TIED CARD OF 'metronomelaw.FrameEncodes'. -/
def frameEncodesCard : Claim7 := { stood := { row := frameEncodesRow, standIns := [], harness := (true, "002718983861c457cd992b5ab013d676ffa93e7cf8adce4089de6726128fd035"), looks := true }, kinds := [], alts := [], laidByText := true, laidKinds := [.handle], laidTests := true, laidLooks := .later }
def FrameEncodesCardSaid : Prop := Claim7.holds Tryd.pinned (.plain (OpenSpec.ofChange frameEncodesSpec)) frameEncodesCard

/-- THE TIED CARD OF 'metronomelaw.VlinkSends'. -/
def vlinkSendsCard : Claim7 := { stood := { row := vlinkSendsRow, standIns := [], harness := (true, "002718983861c457cd992b5ab013d676ffa93e7cf8adce4089de6726128fd035"), looks := true }, kinds := [], alts := [], laidByText := true, laidKinds := [.handle], laidTests := true, laidLooks := .later }
def VlinkSendsCardSaid : Prop := Claim7.holds Tryd.pinned (.plain (OpenSpec.ofChange vlinkSendsSpec)) vlinkSendsCard

/-- THE TIED CARD OF 'metronomelaw.FrameDecodes'. -/
def frameDecodesCard : Claim7 := { stood := { row := frameDecodesRow, standIns := [], harness := (true, "002718983861c457cd992b5ab013d676ffa93e7cf8adce4089de6726128fd035"), looks := true }, kinds := [], alts := [], laidByText := true, laidKinds := [.handle], laidTests := true, laidLooks := .later }
def FrameDecodesCardSaid : Prop := Claim7.holds Tryd.pinned (.plain (OpenSpec.ofChange frameDecodesSpec)) frameDecodesCard

/-- THE TIED CARD OF 'metronomelaw.GuardOpens'. -/
def guardOpensCard : Claim7 := { stood := { row := guardOpensRow, standIns := [], harness := (true, "002718983861c457cd992b5ab013d676ffa93e7cf8adce4089de6726128fd035"), looks := true }, kinds := [], alts := [], laidByText := true, laidKinds := [.handle], laidTests := true, laidLooks := .later }
def GuardOpensCardSaid : Prop := Claim7.holds Tryd.pinned (.plain (OpenSpec.ofChange guardOpensSpec)) guardOpensCard

/-- THE TIED CARD OF 'metronomelaw.MemberPlays'. -/
def memberPlaysCard : Claim7 := { stood := { row := memberPlaysRow, standIns := [], harness := (true, "002718983861c457cd992b5ab013d676ffa93e7cf8adce4089de6726128fd035"), looks := true }, kinds := [], alts := [], laidByText := true, laidKinds := [.handle], laidTests := true, laidLooks := .later }
def MemberPlaysCardSaid : Prop := Claim7.holds Tryd.pinned (.plain (OpenSpec.ofChange memberPlaysSpec)) memberPlaysCard

/-- THE TIED CARD OF 'metronomelaw.PortPlays'. -/
def portPlaysCard : Claim7 := { stood := { row := portPlaysRow, standIns := [], harness := (true, "002718983861c457cd992b5ab013d676ffa93e7cf8adce4089de6726128fd035"), looks := true }, kinds := [], alts := [], laidByText := true, laidKinds := [.handle], laidTests := true, laidLooks := .later }
def PortPlaysCardSaid : Prop := Claim7.holds Tryd.pinned (.plain (OpenSpec.ofChange portPlaysSpec)) portPlaysCard

/-- THE TIED CARD OF 'metronomelaw.PartTables'. -/
def partTablesCard : Claim7 := { stood := { row := partTablesRow, standIns := [], harness := (true, "002718983861c457cd992b5ab013d676ffa93e7cf8adce4089de6726128fd035"), looks := true }, kinds := [], alts := [], laidByText := true, laidKinds := [.handle, .data], laidTests := true, laidLooks := .later }
def PartTablesCardSaid : Prop := Claim7.holds Tryd.pinned (.plain (OpenSpec.ofChange partTablesSpec)) partTablesCard

/-- THE TIED CARD OF 'metronomelaw.PlanChecks'. -/
def planChecksCard : Claim7 := { stood := { row := planChecksRow, standIns := [], harness := (true, "002718983861c457cd992b5ab013d676ffa93e7cf8adce4089de6726128fd035"), looks := true }, kinds := [], alts := [], laidByText := true, laidKinds := [.handle, .data], laidTests := true, laidLooks := .later }
def PlanChecksCardSaid : Prop := Claim7.holds Tryd.pinned (.plain (OpenSpec.ofChange planChecksSpec)) planChecksCard

/-- THE TIED CARD OF 'metronomelaw.PlanEncodes'. -/
def planEncodesCard : Claim7 := { stood := { row := planEncodesRow, standIns := [], harness := (true, "002718983861c457cd992b5ab013d676ffa93e7cf8adce4089de6726128fd035"), looks := true }, kinds := [], alts := [], laidByText := true, laidKinds := [.handle, .data], laidTests := true, laidLooks := .later }
def PlanEncodesCardSaid : Prop := Claim7.holds Tryd.pinned (.plain (OpenSpec.ofChange planEncodesSpec)) planEncodesCard

/-- THE SECOND FORM's CARD OF 'metronomelaw.TicksLocal'. -/
def ticksLocalUptoCard : Claim7 := { stood := { row := ticksLocalUptoRow, standIns := [], harness := (true, "002718983861c457cd992b5ab013d676ffa93e7cf8adce4089de6726128fd035"), looks := true }, kinds := [], alts := [], laidByText := true, laidKinds := [.handle], laidTests := true, laidLooks := .later }
def TicksLocalUptoCardSaid : Prop := Claim7.holds Tryd.pinned (.plain (OpenSpec.upto ticksLocalSpec)) ticksLocalUptoCard

/-- THE SECOND FORM's CARD OF 'metronomelaw.TicksReal'. -/
def ticksRealUptoCard : Claim7 := { stood := { row := ticksRealUptoRow, standIns := [], harness := (true, "002718983861c457cd992b5ab013d676ffa93e7cf8adce4089de6726128fd035"), looks := true }, kinds := [], alts := [], laidByText := true, laidKinds := [.handle], laidTests := true, laidLooks := .later }
def TicksRealUptoCardSaid : Prop := Claim7.holds Tryd.pinned (.plain (OpenSpec.upto ticksRealSpec)) ticksRealUptoCard

/-- THE SECOND FORM's CARD OF 'metronomelaw.FrameEncodes'. -/
def frameEncodesUptoCard : Claim7 := { stood := { row := frameEncodesUptoRow, standIns := [], harness := (true, "002718983861c457cd992b5ab013d676ffa93e7cf8adce4089de6726128fd035"), looks := true }, kinds := [], alts := [], laidByText := true, laidKinds := [.handle], laidTests := true, laidLooks := .later }
def FrameEncodesUptoCardSaid : Prop := Claim7.holds Tryd.pinned (.plain (OpenSpec.upto frameEncodesSpec)) frameEncodesUptoCard

/-- THE SECOND FORM's CARD OF 'metronomelaw.VlinkSends'. -/
def vlinkSendsUptoCard : Claim7 := { stood := { row := vlinkSendsUptoRow, standIns := [], harness := (true, "002718983861c457cd992b5ab013d676ffa93e7cf8adce4089de6726128fd035"), looks := true }, kinds := [], alts := [], laidByText := true, laidKinds := [.handle], laidTests := true, laidLooks := .later }
def VlinkSendsUptoCardSaid : Prop := Claim7.holds Tryd.pinned (.plain (OpenSpec.upto vlinkSendsSpec)) vlinkSendsUptoCard

/-- THE SECOND FORM's CARD OF 'metronomelaw.FrameDecodes'. -/
def frameDecodesUptoCard : Claim7 := { stood := { row := frameDecodesUptoRow, standIns := [], harness := (true, "002718983861c457cd992b5ab013d676ffa93e7cf8adce4089de6726128fd035"), looks := true }, kinds := [], alts := [], laidByText := true, laidKinds := [.handle], laidTests := true, laidLooks := .later }
def FrameDecodesUptoCardSaid : Prop := Claim7.holds Tryd.pinned (.plain (OpenSpec.upto frameDecodesSpec)) frameDecodesUptoCard

/-- THE SECOND FORM's CARD OF 'metronomelaw.GuardOpens'. -/
def guardOpensUptoCard : Claim7 := { stood := { row := guardOpensUptoRow, standIns := [], harness := (true, "002718983861c457cd992b5ab013d676ffa93e7cf8adce4089de6726128fd035"), looks := true }, kinds := [], alts := [], laidByText := true, laidKinds := [.handle], laidTests := true, laidLooks := .later }
def GuardOpensUptoCardSaid : Prop := Claim7.holds Tryd.pinned (.plain (OpenSpec.upto guardOpensSpec)) guardOpensUptoCard

/-- THE SECOND FORM's CARD OF 'metronomelaw.MemberPlays'. -/
def memberPlaysUptoCard : Claim7 := { stood := { row := memberPlaysUptoRow, standIns := [], harness := (true, "002718983861c457cd992b5ab013d676ffa93e7cf8adce4089de6726128fd035"), looks := true }, kinds := [], alts := [], laidByText := true, laidKinds := [.handle], laidTests := true, laidLooks := .later }
def MemberPlaysUptoCardSaid : Prop := Claim7.holds Tryd.pinned (.plain (OpenSpec.upto memberPlaysSpec)) memberPlaysUptoCard

/-- THE SECOND FORM's CARD OF 'metronomelaw.PortPlays'. -/
def portPlaysUptoCard : Claim7 := { stood := { row := portPlaysUptoRow, standIns := [], harness := (true, "002718983861c457cd992b5ab013d676ffa93e7cf8adce4089de6726128fd035"), looks := true }, kinds := [], alts := [], laidByText := true, laidKinds := [.handle], laidTests := true, laidLooks := .later }
def PortPlaysUptoCardSaid : Prop := Claim7.holds Tryd.pinned (.plain (OpenSpec.upto portPlaysSpec)) portPlaysUptoCard

/-- THE SECOND FORM's CARD OF 'metronomelaw.PartTables'. -/
def partTablesUptoCard : Claim7 := { stood := { row := partTablesUptoRow, standIns := [], harness := (true, "002718983861c457cd992b5ab013d676ffa93e7cf8adce4089de6726128fd035"), looks := true }, kinds := [], alts := [], laidByText := true, laidKinds := [.handle, .data], laidTests := true, laidLooks := .later }
def PartTablesUptoCardSaid : Prop := Claim7.holds Tryd.pinned (.plain (OpenSpec.upto partTablesSpec)) partTablesUptoCard

/-- THE SECOND FORM's CARD OF 'metronomelaw.PlanChecks'. -/
def planChecksUptoCard : Claim7 := { stood := { row := planChecksUptoRow, standIns := [], harness := (true, "002718983861c457cd992b5ab013d676ffa93e7cf8adce4089de6726128fd035"), looks := true }, kinds := [], alts := [], laidByText := true, laidKinds := [.handle, .data], laidTests := true, laidLooks := .later }
def PlanChecksUptoCardSaid : Prop := Claim7.holds Tryd.pinned (.plain (OpenSpec.upto planChecksSpec)) planChecksUptoCard

/-- THE SECOND FORM's CARD OF 'metronomelaw.PlanEncodes'. -/
def planEncodesUptoCard : Claim7 := { stood := { row := planEncodesUptoRow, standIns := [], harness := (true, "002718983861c457cd992b5ab013d676ffa93e7cf8adce4089de6726128fd035"), looks := true }, kinds := [], alts := [], laidByText := true, laidKinds := [.handle, .data], laidTests := true, laidLooks := .later }
def PlanEncodesUptoCardSaid : Prop := Claim7.holds Tryd.pinned (.plain (OpenSpec.upto planEncodesSpec)) planEncodesUptoCard
end Rows
end Go.Proofs.YtgdljdhibknjnabDoor
