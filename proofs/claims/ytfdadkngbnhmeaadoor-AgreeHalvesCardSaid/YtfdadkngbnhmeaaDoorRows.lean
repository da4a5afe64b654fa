/-
  NARROWER THAN 'FOR EVERY INPUT', by the rows' own cells (each row's printed sentence says how): PlanDecodes: laid · AgreeMidpoint: laid · AgreeRound: laid · AgreeHalves: laid.
  DERIVED. THE GIVEN ROWS OF THIS SEAT. 4 by the template 'for every input the law returns true; each argument reads behind the call as it read before'; 0 by the template 'total and deterministic' (their statements: YtfdadkngbnhmeaaDoorTotals.lean).
  GIVEN WITH THE SEED: the statements are not yours to turn. If you find one false, say at which input.
  Laid BY PROGRAM, IN A SANDBOX (cutbox-rows.mjs): the forced cells as the released guide's own fill.sh prints them over the translation 2bb2a8d5ff5c99e4… (all of the seat's roots in one cut). By AI agents, Wed Nov 11 2026. No macro, syntax, notation, axiom, sorry.
-/
import Derived.Test.YtfdadkngbnhmeaaDoorChecked
import GoSem.Claim
import GoSem.ClaimJoined
import GoSem.ClaimMapViews
import Derived.JoinedTies
import Derived.KernelRfl
namespace Go.Proofs.YtfdadkngbnhmeaaDoor
/- THE CELL 'sum', in the pinned program and in every row, IS THE sha256 OF THE DUMP (.gsa) THAT YtfdadkngbnhmeaaDoorProg.lean LOADS. Nothing in Lean hashes anything: it is a label: what it is worth is what the hold of that sum in a sandbox is worth. -/
noncomputable def Tryd.pinned : Pinned := { name := "ytfdadkngbnhmeaadoor", sum := "2bb2a8d5ff5c99e44c5b6a84439407412878eb8b6c9ab638eccaec0809bc615e", checked := Tryd.checked }
namespace Rows
def none {H : Type} : Left H := { results := [], args := [] }

/- WHAT THE LISTED PACKAGE-LEVEL VARIABLES READ AS WHEN THE CALL BEGINS. Each datum BY PROGRAM (the guide's laid-datum.mjs) off the statement by which the dump's own 'gosem.cut.vars' lays the variable. In a bare row this is a premise. The card (YtfdadkngbnhmeaaDoorCards.lean) ties it to the program's text. -/
def laid_errors_errorType {H : Type} : DataW H := .iface "internal/reflectlite.rtype" (.agg [.ptr (.lit (.string [101, 114, 114, 111, 114]))])
def laid_metronome_metronomeref_Fine {H : Type} : DataW H := .agg [.lit (.int .i64 0), .lit (.int .i64 (-1))]

/-- 'metronomelaw.PlanDecodes': WHATEVER THE INPUT: true; the input reads as it did. -/
def planDecodesSpec : ChangeSpec := { name := "planDecodes", fn := fun _ => fun
  | [d] => { results := [.lit (.bool true)], args := [d] }
  | _ => none }
def planDecodesRow : OpenClaim := { program := "ytfdadkngbnhmeaadoor", sum := "2bb2a8d5ff5c99e44c5b6a84439407412878eb8b6c9ab638eccaec0809bc615e", func := "metronome/metronomelaw.PlanDecodes", spec := "planDecodes", inPlace := ["internal/reflectlite.ValueOf", "(internal/reflectlite.Value).Type", "(internal/reflectlite.Value).IsNil", "internal/reflectlite.TypeOf", "(internal/reflectlite.Value).Elem", "(internal/reflectlite.Value).Set"], unfollowed := true, recurses := true, named := ["metronome/metronomeref.Fine", "errors.errorType"], apart := false, laid := [("errors.errorType", laid_errors_errorType), ("metronome/metronomeref.Fine", laid_metronome_metronomeref_Fine)] }
def PlanDecodesSaid : Prop := planDecodesRow.holds Tryd.pinned (OpenSpec.ofChange planDecodesSpec)

/-- ITS FALSE NEIGHBOUR: 'it returns false'. Refute it at one input. -/
def planDecodesWrong : ChangeSpec := { name := "planDecodes", fn := fun _ => fun
  | [d] => { results := [.lit (.bool false)], args := [d] }
  | _ => none }
def PlanDecodesWrongFalsely : Prop := planDecodesRow.holds Tryd.pinned (OpenSpec.ofChange planDecodesWrong)

/-- 'metronomelaw.AgreeMidpoint': WHATEVER THE INPUT: true; the input reads as it did. -/
def agreeMidpointSpec : ChangeSpec := { name := "agreeMidpoint", fn := fun _ => fun
  | [d1, d2] => { results := [.lit (.bool true)], args := [d1, d2] }
  | _ => none }
def agreeMidpointRow : OpenClaim := { program := "ytfdadkngbnhmeaadoor", sum := "2bb2a8d5ff5c99e44c5b6a84439407412878eb8b6c9ab638eccaec0809bc615e", func := "metronome/metronomelaw.AgreeMidpoint", spec := "agreeMidpoint", inPlace := ["internal/reflectlite.ValueOf", "(internal/reflectlite.Value).Type", "(internal/reflectlite.Value).IsNil", "internal/reflectlite.TypeOf", "(internal/reflectlite.Value).Elem", "(internal/reflectlite.Value).Set"], unfollowed := true, recurses := true, named := ["errors.errorType"], apart := false, laid := [("errors.errorType", laid_errors_errorType)] }
def AgreeMidpointSaid : Prop := agreeMidpointRow.holds Tryd.pinned (OpenSpec.ofChange agreeMidpointSpec)

/-- ITS FALSE NEIGHBOUR: 'it returns false'. Refute it at one input. -/
def agreeMidpointWrong : ChangeSpec := { name := "agreeMidpoint", fn := fun _ => fun
  | [d1, d2] => { results := [.lit (.bool false)], args := [d1, d2] }
  | _ => none }
def AgreeMidpointWrongFalsely : Prop := agreeMidpointRow.holds Tryd.pinned (OpenSpec.ofChange agreeMidpointWrong)

/-- 'metronomelaw.AgreeRound': WHATEVER THE INPUT: true; the input reads as it did. -/
def agreeRoundSpec : ChangeSpec := { name := "agreeRound", fn := fun _ => fun
  | [d1, d2, d3] => { results := [.lit (.bool true)], args := [d1, d2, d3] }
  | _ => none }
def agreeRoundRow : OpenClaim := { program := "ytfdadkngbnhmeaadoor", sum := "2bb2a8d5ff5c99e44c5b6a84439407412878eb8b6c9ab638eccaec0809bc615e", func := "metronome/metronomelaw.AgreeRound", spec := "agreeRound", inPlace := ["internal/reflectlite.ValueOf", "(internal/reflectlite.Value).Type", "(internal/reflectlite.Value).IsNil", "internal/reflectlite.TypeOf", "(internal/reflectlite.Value).Elem", "(internal/reflectlite.Value).Set"], unfollowed := true, recurses := true, named := ["metronome/metronomeref.Fine", "errors.errorType"], apart := false, laid := [("errors.errorType", laid_errors_errorType), ("metronome/metronomeref.Fine", laid_metronome_metronomeref_Fine)] }
def AgreeRoundSaid : Prop := agreeRoundRow.holds Tryd.pinned (OpenSpec.ofChange agreeRoundSpec)

/-- ITS FALSE NEIGHBOUR: 'it returns false'. Refute it at one input. -/
def agreeRoundWrong : ChangeSpec := { name := "agreeRound", fn := fun _ => fun
  | [d1, d2, d3] => { results := [.lit (.bool false)], args := [d1, d2, d3] }
  | _ => none }
def AgreeRoundWrongFalsely : Prop := agreeRoundRow.holds Tryd.pinned (OpenSpec.ofChange agreeRoundWrong)

/-- 'metronomekeep.AgreeHalves': WHATEVER THE INPUT: true; the input reads as it did. -/
def agreeHalvesSpec : ChangeSpec := { name := "agreeHalves", fn := fun _ => fun
  | [d1, d2, d3, d4, d5] => { results := [.lit (.bool true)], args := [d1, d2, d3, d4, d5] }
  | _ => none }
def agreeHalvesRow : OpenClaim := { program := "ytfdadkngbnhmeaadoor", sum := "2bb2a8d5ff5c99e44c5b6a84439407412878eb8b6c9ab638eccaec0809bc615e", func := "metronome/metronomekeep.AgreeHalves", spec := "agreeHalves", inPlace := ["internal/reflectlite.ValueOf", "(internal/reflectlite.Value).Type", "(internal/reflectlite.Value).IsNil", "internal/reflectlite.TypeOf", "(internal/reflectlite.Value).Elem", "(internal/reflectlite.Value).Set"], unfollowed := true, recurses := true, named := ["errors.errorType"], apart := false, laid := [("errors.errorType", laid_errors_errorType)] }
def AgreeHalvesSaid : Prop := agreeHalvesRow.holds Tryd.pinned (OpenSpec.ofChange agreeHalvesSpec)

/-- ITS FALSE NEIGHBOUR: 'it returns false'. Refute it at one input. -/
def agreeHalvesWrong : ChangeSpec := { name := "agreeHalves", fn := fun _ => fun
  | [d1, d2, d3, d4, d5] => { results := [.lit (.bool false)], args := [d1, d2, d3, d4, d5] }
  | _ => none }
def AgreeHalvesWrongFalsely : Prop := agreeHalvesRow.holds Tryd.pinned (OpenSpec.ofChange agreeHalvesWrong)

/- THE SECOND FORM. 'bulk': how many values and letters a reading holds, each counted each time it is reached (what is shared counts as often as it is met; a slice's spare places count too). A statement '..UptoSaid' is the law's where the arguments, and the package variables that the reading takes, are together of bulk at most 1048576: NARROWER than '..Said'. Prove '..Said' where nothing that the law and all that it calls make is longer than what came in: it says more and counts as full. Else prove '..UptoSaid'. A law counts once. -/
mutual
def uptoBulk {H : Type} : DataW H → Nat
  | .lit (.string bytes) => bytes.length + 1
  | .lit _ => 1
  | .nil => 1
  | .ptr d => uptoBulk d + 1
  | .slice elems spare => uptoBulkAll elems + uptoBulkAll spare + 1
  | .agg parts => uptoBulkAll parts + 1
  | .iface _ d => uptoBulk d + 1
  | .map entries => uptoBulkEntries entries + 1
  | .held _ => 1
def uptoBulkAll {H : Type} : List (DataW H) → Nat
  | [] => 0
  | d :: r => uptoBulk d + uptoBulkAll r
def uptoBulkEntries {H : Type} : List (Lit × DataW H) → Nat
  | [] => 0
  | x :: r => uptoBulkEntry x + uptoBulkEntries r
def uptoBulkEntry {H : Type} : Lit × DataW H → Nat
  | (.string bytes, d) => bytes.length + uptoBulk d + 1
  | (_, d) => uptoBulk d + 1
 end
def uptoSmall : (H : Type) → List (DataW H) → Bool := fun _ ds => decide (uptoBulkAll ds ≤ 1048576)
def OpenSpec.upto (s : _root_.Go.ChangeSpec) : _root_.Go.OpenSpec := { _root_.Go.OpenSpec.ofChange s with cond := some uptoSmall }

/-- 'metronomelaw.PlanDecodes', WHERE WHAT IT READS IS OF BULK AT MOST 1048576: true; the input reads as it did. -/
def planDecodesUptoRow : OpenClaim := { program := "ytfdadkngbnhmeaadoor", sum := "2bb2a8d5ff5c99e44c5b6a84439407412878eb8b6c9ab638eccaec0809bc615e", func := "metronome/metronomelaw.PlanDecodes", spec := "planDecodes", inPlace := ["internal/reflectlite.ValueOf", "(internal/reflectlite.Value).Type", "(internal/reflectlite.Value).IsNil", "internal/reflectlite.TypeOf", "(internal/reflectlite.Value).Elem", "(internal/reflectlite.Value).Set"], unfollowed := true, recurses := true, named := ["metronome/metronomeref.Fine", "errors.errorType"], apart := false, laid := [("errors.errorType", laid_errors_errorType), ("metronome/metronomeref.Fine", laid_metronome_metronomeref_Fine)], narrowed := true }
def PlanDecodesUptoSaid : Prop := planDecodesUptoRow.holds Tryd.pinned (OpenSpec.upto planDecodesSpec)

/-- 'metronomelaw.AgreeMidpoint', WHERE WHAT IT READS IS OF BULK AT MOST 1048576: true; the input reads as it did. -/
def agreeMidpointUptoRow : OpenClaim := { program := "ytfdadkngbnhmeaadoor", sum := "2bb2a8d5ff5c99e44c5b6a84439407412878eb8b6c9ab638eccaec0809bc615e", func := "metronome/metronomelaw.AgreeMidpoint", spec := "agreeMidpoint", inPlace := ["internal/reflectlite.ValueOf", "(internal/reflectlite.Value).Type", "(internal/reflectlite.Value).IsNil", "internal/reflectlite.TypeOf", "(internal/reflectlite.Value).Elem", "(internal/reflectlite.Value).Set"], unfollowed := true, recurses := true, named := ["errors.errorType"], apart := false, laid := [("errors.errorType", laid_errors_errorType)], narrowed := true }
def AgreeMidpointUptoSaid : Prop := agreeMidpointUptoRow.holds Tryd.pinned (OpenSpec.upto agreeMidpointSpec)

/-- 'metronomelaw.AgreeRound', WHERE WHAT IT READS IS OF BULK AT MOST 1048576: true; the input reads as it did. -/
def agreeRoundUptoRow : OpenClaim := { program := "ytfdadkngbnhmeaadoor", sum := "2bb2a8d5ff5c99e44c5b6a84439407412878eb8b6c9ab638eccaec0809bc615e", func := "metronome/metronomelaw.AgreeRound", spec := "agreeRound", inPlace := ["internal/reflectlite.ValueOf", "(internal/reflectlite.Value).Type", "(internal/reflectlite.Value).IsNil", "internal/reflectlite.TypeOf", "(internal/reflectlite.Value).Elem", "(internal/reflectlite.Value).Set"], unfollowed := true, recurses := true, named := ["metronome/metronomeref.Fine", "errors.errorType"], apart := false, laid := [("errors.errorType", laid_errors_errorType), ("metronome/metronomeref.Fine", laid_metronome_metronomeref_Fine)], narrowed := true }
def AgreeRoundUptoSaid : Prop := agreeRoundUptoRow.holds Tryd.pinned (OpenSpec.upto agreeRoundSpec)

/-- 'metronomekeep.AgreeHalves', WHERE WHAT IT READS IS OF BULK AT MOST 1048576: true; the input reads as it did. -/
def agreeHalvesUptoRow : OpenClaim := { program := "ytfdadkngbnhmeaadoor", sum := "2bb2a8d5ff5c99e44c5b6a84439407412878eb8b6c9ab638eccaec0809bc615e", func := "metronome/metronomekeep.AgreeHalves", spec := "agreeHalves", inPlace := ["internal/reflectlite.ValueOf", "(internal/reflectlite.Value).Type", "(internal/reflectlite.Value).IsNil", "internal/reflectlite.TypeOf", "(internal/reflectlite.Value).Elem", "(internal/reflectlite.Value).Set"], unfollowed := true, recurses := true, named := ["errors.errorType"], apart := false, laid := [("errors.errorType", laid_errors_errorType)], narrowed := true }
def AgreeHalvesUptoSaid : Prop := agreeHalvesUptoRow.holds Tryd.pinned (OpenSpec.upto agreeHalvesSpec)

end Rows
end Go.Proofs.YtfdadkngbnhmeaaDoor
