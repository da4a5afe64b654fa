/-
  DERIVED. GIVEN WITH THE SEED: THE CARDS: each row of YtgdljdhibknjnaaDoorRows.lean that lists a variable, with what it lists TIED to the program's text (the seventh form; the later family's looks); each row that meets fmt, with fmt's text TOLD by the authors' own Lean function (tested against real Go, not proved from fmt's source: count such statements apart). THE CARD IS WHAT COUNTS. Prove the row's statement (the work); the ties are given (YtgdljdhibknjnaaDoorTie.lean); close each card by the builder's one call (the guide's Derived/Test/ToyasCard.lean, 'card_holds'). Laid BY PROGRAM, IN A SANDBOX (cutbox-door.mjs). By AI agents, Wed Nov 11 2026. No macro, syntax, notation, axiom, sorry.
-/
import Derived.Test.YtgdljdhibknjnaaDoorRows
import GoSem.ClaimSeven
namespace Go.Proofs.YtgdljdhibknjnaaDoor
namespace Rows

/-- THE TIED CARD OF 'metronomelaw.TicksSpans'. -/
def ticksSpansCard : Claim7 := { stood := { row := ticksSpansRow, standIns := [], harness := (true, "139906d14978ce7aae055b007df2fcea31fe7c81e7c86e8514c1515939e2ab51"), looks := true }, kinds := [], alts := [], laidByText := true, laidKinds := [.handle], laidTests := true, laidLooks := .later }
def TicksSpansCardSaid : Prop := Claim7.holds Tryd.pinned (.plain (OpenSpec.ofChange ticksSpansSpec)) ticksSpansCard

/-- THE SECOND FORM's CARD OF 'metronomelaw.TicksSpans'. -/
def ticksSpansUptoCard : Claim7 := { stood := { row := ticksSpansUptoRow, standIns := [], harness := (true, "139906d14978ce7aae055b007df2fcea31fe7c81e7c86e8514c1515939e2ab51"), looks := true }, kinds := [], alts := [], laidByText := true, laidKinds := [.handle], laidTests := true, laidLooks := .later }
def TicksSpansUptoCardSaid : Prop := Claim7.holds Tryd.pinned (.plain (OpenSpec.upto ticksSpansSpec)) ticksSpansUptoCard
end Rows
end Go.Proofs.YtgdljdhibknjnaaDoor
