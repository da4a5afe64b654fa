/-
  DERIVED. GIVEN WITH THE SEED: THE CARDS: each row of YtdogdlnaacimpaaGreatDoorRows.lean that lists a variable, with what it lists TIED to the program's text (the seventh form; the later family's looks); each row that meets fmt, with fmt's text TOLD by the authors' own Lean function (tested against real Go, not proved from fmt's source: count such statements apart). THE CARD IS WHAT COUNTS. Prove the row's statement (the work); the ties are given (YtdogdlnaacimpaaGreatDoorTie.lean); close each card by the builder's one call (the guide's Derived/Test/ToyasCard.lean, 'card_holds'). Laid BY PROGRAM, IN A SANDBOX (cutbox-door.mjs). By AI agents, Wed Nov 11 2026. No macro, syntax, notation, axiom, sorry.
-/
import Derived.Test.YtdogdlnaacimpaaGreatDoorRows
import GoSem.ClaimSeven
namespace Go.Proofs.YtdogdlnaacimpaaGreatDoor
namespace Rows

/-- THE TIED CARD OF 'metronomekeep.ClusterSkew'. -/
def clusterSkewCard : Claim7 := { stood := { row := clusterSkewRow, standIns := [], harness := (true, "7690147250608606e8adb3f5e17b03b4a961359813f72071c6be0db7670c753c"), looks := true }, kinds := [], alts := [], laidByText := true, laidKinds := [.handle], laidTests := true, laidLooks := .later }
def ClusterSkewCardSaid : Prop := Claim7.holds Tryz.pinned (.plain (OpenSpec.ofChange clusterSkewSpec)) clusterSkewCard

/-- THE TIED CARD OF 'metronomekeep.ClusterOrder'. -/
def clusterOrderCard : Claim7 := { stood := { row := clusterOrderRow, standIns := [], harness := (true, "7690147250608606e8adb3f5e17b03b4a961359813f72071c6be0db7670c753c"), looks := true }, kinds := [], alts := [], laidByText := true, laidKinds := [.handle], laidTests := true, laidLooks := .later }
def ClusterOrderCardSaid : Prop := Claim7.holds Tryz.pinned (.plain (OpenSpec.ofChange clusterOrderSpec)) clusterOrderCard

/-- THE TIED CARD OF 'metronomekeep.ClusterApart'. -/
def clusterApartCard : Claim7 := { stood := { row := clusterApartRow, standIns := [], harness := (true, "7690147250608606e8adb3f5e17b03b4a961359813f72071c6be0db7670c753c"), looks := true }, kinds := [], alts := [], laidByText := true, laidKinds := [.handle], laidTests := true, laidLooks := .later }
def ClusterApartCardSaid : Prop := Claim7.holds Tryz.pinned (.plain (OpenSpec.ofChange clusterApartSpec)) clusterApartCard

/-- THE TIED CARD OF 'metronomelaw.ClusterPlays'. -/
def clusterPlaysCard : Claim7 := { stood := { row := clusterPlaysRow, standIns := [], harness := (true, "7690147250608606e8adb3f5e17b03b4a961359813f72071c6be0db7670c753c"), looks := true }, kinds := [], alts := [], laidByText := true, laidKinds := [.handle, .data], laidTests := true, laidLooks := .later }
def ClusterPlaysCardSaid : Prop := Claim7.holds Tryz.pinned (.plain (OpenSpec.ofChange clusterPlaysSpec)) clusterPlaysCard

/-- THE SECOND FORM's CARD OF 'metronomekeep.ClusterSkew'. -/
def clusterSkewUptoCard : Claim7 := { stood := { row := clusterSkewUptoRow, standIns := [], harness := (true, "7690147250608606e8adb3f5e17b03b4a961359813f72071c6be0db7670c753c"), looks := true }, kinds := [], alts := [], laidByText := true, laidKinds := [.handle], laidTests := true, laidLooks := .later }
def ClusterSkewUptoCardSaid : Prop := Claim7.holds Tryz.pinned (.plain (OpenSpec.upto clusterSkewSpec)) clusterSkewUptoCard

/-- THE SECOND FORM's CARD OF 'metronomekeep.ClusterOrder'. -/
def clusterOrderUptoCard : Claim7 := { stood := { row := clusterOrderUptoRow, standIns := [], harness := (true, "7690147250608606e8adb3f5e17b03b4a961359813f72071c6be0db7670c753c"), looks := true }, kinds := [], alts := [], laidByText := true, laidKinds := [.handle], laidTests := true, laidLooks := .later }
def ClusterOrderUptoCardSaid : Prop := Claim7.holds Tryz.pinned (.plain (OpenSpec.upto clusterOrderSpec)) clusterOrderUptoCard

/-- THE SECOND FORM's CARD OF 'metronomekeep.ClusterApart'. -/
def clusterApartUptoCard : Claim7 := { stood := { row := clusterApartUptoRow, standIns := [], harness := (true, "7690147250608606e8adb3f5e17b03b4a961359813f72071c6be0db7670c753c"), looks := true }, kinds := [], alts := [], laidByText := true, laidKinds := [.handle], laidTests := true, laidLooks := .later }
def ClusterApartUptoCardSaid : Prop := Claim7.holds Tryz.pinned (.plain (OpenSpec.upto clusterApartSpec)) clusterApartUptoCard

/-- THE SECOND FORM's CARD OF 'metronomelaw.ClusterPlays'. -/
def clusterPlaysUptoCard : Claim7 := { stood := { row := clusterPlaysUptoRow, standIns := [], harness := (true, "7690147250608606e8adb3f5e17b03b4a961359813f72071c6be0db7670c753c"), looks := true }, kinds := [], alts := [], laidByText := true, laidKinds := [.handle, .data], laidTests := true, laidLooks := .later }
def ClusterPlaysUptoCardSaid : Prop := Claim7.holds Tryz.pinned (.plain (OpenSpec.upto clusterPlaysSpec)) clusterPlaysUptoCard
end Rows
end Go.Proofs.YtdogdlnaacimpaaGreatDoor
