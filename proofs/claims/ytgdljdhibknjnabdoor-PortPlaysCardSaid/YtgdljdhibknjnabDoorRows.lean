/-
  NARROWER THAN 'FOR EVERY INPUT', by the rows' own cells (each row's printed sentence says how): TicksLocal: laid · TicksReal: laid · FrameEncodes: laid · VlinkSends: laid · FrameDecodes: laid · GuardOpens: laid · MemberPlays: laid · PortPlays: laid · PartTables: laid · PlanChecks: laid · PlanEncodes: laid.
  DERIVED. THE GIVEN ROWS OF THIS SEAT. 11 by the template 'for every input the law returns true; each argument reads behind the call as it read before'; 0 by the template 'total and deterministic' (their statements: YtgdljdhibknjnabDoorTotals.lean).
  GIVEN WITH THE SEED: the statements are not yours to turn. If you find one false, say at which input.
  Laid BY PROGRAM, IN A SANDBOX (cutbox-rows.mjs): the forced cells as the released guide's own fill.sh prints them over the translation 2667867b5b007d58… (all of the seat's roots in one cut). By AI agents, Wed Nov 11 2026. No macro, syntax, notation, axiom, sorry.
-/
import Derived.Test.YtgdljdhibknjnabDoorChecked
import GoSem.Claim
import GoSem.ClaimJoined
import GoSem.ClaimMapViews
import Derived.JoinedTies
import Derived.KernelRfl
namespace Go.Proofs.YtgdljdhibknjnabDoor
/- THE CELL 'sum', in the pinned program and in every row, IS THE sha256 OF THE DUMP (.gsa) THAT YtgdljdhibknjnabDoorProg.lean LOADS. Nothing in Lean hashes anything: it is a label: what it is worth is what the hold of that sum in a sandbox is worth. -/
noncomputable def Tryd.pinned : Pinned := { name := "ytgdljdhibknjnabdoor", sum := "2667867b5b007d58994512dee14c0c6539ecbeb6f5027744dde0509ccdae062f", checked := Tryd.checked }
namespace Rows
def none {H : Type} : Left H := { results := [], args := [] }

/- WHAT THE LISTED PACKAGE-LEVEL VARIABLES READ AS WHEN THE CALL BEGINS. Each datum BY PROGRAM (the guide's laid-datum.mjs) off the statement by which the dump's own 'gosem.cut.vars' lays the variable. In a bare row this is a premise. The card (YtgdljdhibknjnabDoorCards.lean) ties it to the program's text. -/
def laid_errors_errorType {H : Type} : DataW H := .iface "internal/reflectlite.rtype" (.agg [.ptr (.lit (.string [101, 114, 114, 111, 114]))])
def laid_metronome_metronomeref_Fine {H : Type} : DataW H := .agg [.lit (.int .i64 0), .lit (.int .i64 (-1))]

/-- 'metronomelaw.TicksLocal': WHATEVER THE INPUT: true; the input reads as it did. -/
def ticksLocalSpec : ChangeSpec := { name := "ticksLocal", fn := fun _ => fun
  | [d1, d2] => { results := [.lit (.bool true)], args := [d1, d2] }
  | _ => none }
def ticksLocalRow : OpenClaim := { program := "ytgdljdhibknjnabdoor", sum := "2667867b5b007d58994512dee14c0c6539ecbeb6f5027744dde0509ccdae062f", func := "metronome/metronomelaw.TicksLocal", spec := "ticksLocal", inPlace := ["internal/reflectlite.ValueOf", "(internal/reflectlite.Value).Type", "(internal/reflectlite.Value).IsNil", "internal/reflectlite.TypeOf", "(internal/reflectlite.Value).Elem", "(internal/reflectlite.Value).Set"], unfollowed := true, recurses := true, named := ["errors.errorType"], apart := false, laid := [("errors.errorType", laid_errors_errorType)] }
def TicksLocalSaid : Prop := ticksLocalRow.holds Tryd.pinned (OpenSpec.ofChange ticksLocalSpec)

/-- ITS FALSE NEIGHBOUR: 'it returns false'. Refute it at one input. -/
def ticksLocalWrong : ChangeSpec := { name := "ticksLocal", fn := fun _ => fun
  | [d1, d2] => { results := [.lit (.bool false)], args := [d1, d2] }
  | _ => none }
def TicksLocalWrongFalsely : Prop := ticksLocalRow.holds Tryd.pinned (OpenSpec.ofChange ticksLocalWrong)

/-- 'metronomelaw.TicksReal': WHATEVER THE INPUT: true; the input reads as it did. -/
def ticksRealSpec : ChangeSpec := { name := "ticksReal", fn := fun _ => fun
  | [d1, d2] => { results := [.lit (.bool true)], args := [d1, d2] }
  | _ => none }
def ticksRealRow : OpenClaim := { program := "ytgdljdhibknjnabdoor", sum := "2667867b5b007d58994512dee14c0c6539ecbeb6f5027744dde0509ccdae062f", func := "metronome/metronomelaw.TicksReal", spec := "ticksReal", inPlace := ["internal/reflectlite.ValueOf", "(internal/reflectlite.Value).Type", "(internal/reflectlite.Value).IsNil", "internal/reflectlite.TypeOf", "(internal/reflectlite.Value).Elem", "(internal/reflectlite.Value).Set"], unfollowed := true, recurses := true, named := ["errors.errorType"], apart := false, laid := [("errors.errorType", laid_errors_errorType)] }
def TicksRealSaid : Prop := ticksRealRow.holds Tryd.pinned (OpenSpec.ofChange ticksRealSpec)

/-- ITS FALSE NEIGHBOUR: 'it returns false'. Refute it at one input. -/
def ticksRealWrong : ChangeSpec := { name := "ticksReal", fn := fun _ => fun
  | [d1, d2] => { results := [.lit (.bool false)], args := [d1, d2] }
  | _ => none }
def TicksRealWrongFalsely : Prop := ticksRealRow.holds Tryd.pinned (OpenSpec.ofChange ticksRealWrong)

/-- 'metronomelaw.FrameEncodes': WHATEVER THE INPUT: true; the input reads as it did. -/
def frameEncodesSpec : ChangeSpec := { name := "frameEncodes", fn := fun _ => fun
  | [d] => { results := [.lit (.bool true)], args := [d] }
  | _ => none }
def frameEncodesRow : OpenClaim := { program := "ytgdljdhibknjnabdoor", sum := "2667867b5b007d58994512dee14c0c6539ecbeb6f5027744dde0509ccdae062f", func := "metronome/metronomelaw.FrameEncodes", spec := "frameEncodes", inPlace := ["internal/reflectlite.ValueOf", "(internal/reflectlite.Value).Type", "(internal/reflectlite.Value).IsNil", "internal/reflectlite.TypeOf", "(internal/reflectlite.Value).Elem", "(internal/reflectlite.Value).Set"], unfollowed := true, recurses := true, named := ["errors.errorType"], apart := false, laid := [("errors.errorType", laid_errors_errorType)] }
def FrameEncodesSaid : Prop := frameEncodesRow.holds Tryd.pinned (OpenSpec.ofChange frameEncodesSpec)

/-- ITS FALSE NEIGHBOUR: 'it returns false'. Refute it at one input. -/
def frameEncodesWrong : ChangeSpec := { name := "frameEncodes", fn := fun _ => fun
  | [d] => { results := [.lit (.bool false)], args := [d] }
  | _ => none }
def FrameEncodesWrongFalsely : Prop := frameEncodesRow.holds Tryd.pinned (OpenSpec.ofChange frameEncodesWrong)

/-- 'metronomelaw.VlinkSends': WHATEVER THE INPUT: true; the input reads as it did. -/
def vlinkSendsSpec : ChangeSpec := { name := "vlinkSends", fn := fun _ => fun
  | [d1, d2, d3] => { results := [.lit (.bool true)], args := [d1, d2, d3] }
  | _ => none }
def vlinkSendsRow : OpenClaim := { program := "ytgdljdhibknjnabdoor", sum := "2667867b5b007d58994512dee14c0c6539ecbeb6f5027744dde0509ccdae062f", func := "metronome/metronomelaw.VlinkSends", spec := "vlinkSends", inPlace := ["internal/reflectlite.ValueOf", "(internal/reflectlite.Value).Type", "(internal/reflectlite.Value).IsNil", "internal/reflectlite.TypeOf", "(internal/reflectlite.Value).Elem", "(internal/reflectlite.Value).Set"], unfollowed := true, recurses := true, named := ["errors.errorType"], apart := false, laid := [("errors.errorType", laid_errors_errorType)] }
def VlinkSendsSaid : Prop := vlinkSendsRow.holds Tryd.pinned (OpenSpec.ofChange vlinkSendsSpec)

/-- ITS FALSE NEIGHBOUR: 'it returns false'. Refute it at one input. -/
def vlinkSendsWrong : ChangeSpec := { name := "vlinkSends", fn := fun _ => fun
  | [d1, d2, d3] => { results := [.lit (.bool false)], args := [d1, d2, d3] }
  | _ => none }
def VlinkSendsWrongFalsely : Prop := vlinkSendsRow.holds Tryd.pinned (OpenSpec.ofChange vlinkSendsWrong)

/-- 'metronomelaw.FrameDecodes': WHATEVER THE INPUT: true; the input reads as it did. -/
def frameDecodesSpec : ChangeSpec := { name := "frameDecodes", fn := fun _ => fun
  | [d] => { results := [.lit (.bool true)], args := [d] }
  | _ => none }
def frameDecodesRow : OpenClaim := { program := "ytgdljdhibknjnabdoor", sum := "2667867b5b007d58994512dee14c0c6539ecbeb6f5027744dde0509ccdae062f", func := "metronome/metronomelaw.FrameDecodes", spec := "frameDecodes", inPlace := ["internal/reflectlite.ValueOf", "(internal/reflectlite.Value).Type", "(internal/reflectlite.Value).IsNil", "internal/reflectlite.TypeOf", "(internal/reflectlite.Value).Elem", "(internal/reflectlite.Value).Set"], unfollowed := true, recurses := true, named := ["errors.errorType"], apart := false, laid := [("errors.errorType", laid_errors_errorType)] }
def FrameDecodesSaid : Prop := frameDecodesRow.holds Tryd.pinned (OpenSpec.ofChange frameDecodesSpec)

/-- ITS FALSE NEIGHBOUR: 'it returns false'. Refute it at one input. -/
def frameDecodesWrong : ChangeSpec := { name := "frameDecodes", fn := fun _ => fun
  | [d] => { results := [.lit (.bool false)], args := [d] }
  | _ => none }
def FrameDecodesWrongFalsely : Prop := frameDecodesRow.holds Tryd.pinned (OpenSpec.ofChange frameDecodesWrong)

/-- 'metronomelaw.GuardOpens': WHATEVER THE INPUT: true; the input reads as it did. -/
def guardOpensSpec : ChangeSpec := { name := "guardOpens", fn := fun _ => fun
  | [d1, d2, d3, d4] => { results := [.lit (.bool true)], args := [d1, d2, d3, d4] }
  | _ => none }
def guardOpensRow : OpenClaim := { program := "ytgdljdhibknjnabdoor", sum := "2667867b5b007d58994512dee14c0c6539ecbeb6f5027744dde0509ccdae062f", func := "metronome/metronomelaw.GuardOpens", spec := "guardOpens", inPlace := ["internal/reflectlite.ValueOf", "(internal/reflectlite.Value).Type", "(internal/reflectlite.Value).IsNil", "internal/reflectlite.TypeOf", "(internal/reflectlite.Value).Elem", "(internal/reflectlite.Value).Set"], unfollowed := true, recurses := true, named := ["errors.errorType"], apart := false, laid := [("errors.errorType", laid_errors_errorType)] }
def GuardOpensSaid : Prop := guardOpensRow.holds Tryd.pinned (OpenSpec.ofChange guardOpensSpec)

/-- ITS FALSE NEIGHBOUR: 'it returns false'. Refute it at one input. -/
def guardOpensWrong : ChangeSpec := { name := "guardOpens", fn := fun _ => fun
  | [d1, d2, d3, d4] => { results := [.lit (.bool false)], args := [d1, d2, d3, d4] }
  | _ => none }
def GuardOpensWrongFalsely : Prop := guardOpensRow.holds Tryd.pinned (OpenSpec.ofChange guardOpensWrong)

/-- 'metronomelaw.MemberPlays': WHATEVER THE INPUT: true; the input reads as it did. -/
def memberPlaysSpec : ChangeSpec := { name := "memberPlays", fn := fun _ => fun
  | [d1, d2, d3] => { results := [.lit (.bool true)], args := [d1, d2, d3] }
  | _ => none }
def memberPlaysRow : OpenClaim := { program := "ytgdljdhibknjnabdoor", sum := "2667867b5b007d58994512dee14c0c6539ecbeb6f5027744dde0509ccdae062f", func := "metronome/metronomelaw.MemberPlays", spec := "memberPlays", inPlace := ["internal/reflectlite.ValueOf", "(internal/reflectlite.Value).Type", "(internal/reflectlite.Value).IsNil", "internal/reflectlite.TypeOf", "(internal/reflectlite.Value).Elem", "(internal/reflectlite.Value).Set"], unfollowed := true, recurses := true, named := ["errors.errorType"], apart := false, laid := [("errors.errorType", laid_errors_errorType)] }
def MemberPlaysSaid : Prop := memberPlaysRow.holds Tryd.pinned (OpenSpec.ofChange memberPlaysSpec)

/-- ITS FALSE NEIGHBOUR: 'it returns false'. Refute it at one input. -/
def memberPlaysWrong : ChangeSpec := { name := "memberPlays", fn := fun _ => fun
  | [d1, d2, d3] => { results := [.lit (.bool false)], args := [d1, d2, d3] }
  | _ => none }
def MemberPlaysWrongFalsely : Prop := memberPlaysRow.holds Tryd.pinned (OpenSpec.ofChange memberPlaysWrong)

/-- 'metronomelaw.PortPlays': WHATEVER THE INPUT: true; the input reads as it did. -/
def portPlaysSpec : ChangeSpec := { name := "portPlays", fn := fun _ => fun
  | [d1, d2, d3] => { results := [.lit (.bool true)], args := [d1, d2, d3] }
  | _ => none }
def portPlaysRow : OpenClaim := { program := "ytgdljdhibknjnabdoor", sum := "2667867b5b007d58994512dee14c0c6539ecbeb6f5027744dde0509ccdae062f", func := "metronome/metronomelaw.PortPlays", spec := "portPlays", inPlace := ["internal/reflectlite.ValueOf", "(internal/reflectlite.Value).Type", "(internal/reflectlite.Value).IsNil", "internal/reflectlite.TypeOf", "(internal/reflectlite.Value).Elem", "(internal/reflectlite.Value).Set"], unfollowed := true, recurses := true, named := ["errors.errorType"], apart := false, laid := [("errors.errorType", laid_errors_errorType)] }
def PortPlaysSaid : Prop := portPlaysRow.holds Tryd.pinned (OpenSpec.ofChange portPlaysSpec)

/-- ITS FALSE NEIGHBOUR: 'it returns false'. Refute it at one input. -/
def portPlaysWrong : ChangeSpec := { name := "portPlays", fn := fun _ => fun
  | [d1, d2, d3] => { results := [.lit (.bool false)], args := [d1, d2, d3] }
  | _ => none }
def PortPlaysWrongFalsely : Prop := portPlaysRow.holds Tryd.pinned (OpenSpec.ofChange portPlaysWrong)

/-- 'metronomelaw.PartTables': WHATEVER THE INPUT: true; the input reads as it did. -/
def partTablesSpec : ChangeSpec := { name := "partTables", fn := fun _ => fun
  | [d1, d2, d3, d4] => { results := [.lit (.bool true)], args := [d1, d2, d3, d4] }
  | _ => none }
def partTablesRow : OpenClaim := { program := "ytgdljdhibknjnabdoor", sum := "2667867b5b007d58994512dee14c0c6539ecbeb6f5027744dde0509ccdae062f", func := "metronome/metronomelaw.PartTables", spec := "partTables", inPlace := ["internal/reflectlite.ValueOf", "(internal/reflectlite.Value).Type", "(internal/reflectlite.Value).IsNil", "internal/reflectlite.TypeOf", "(internal/reflectlite.Value).Elem", "(internal/reflectlite.Value).Set"], unfollowed := true, recurses := true, named := ["metronome/metronomeref.Fine", "errors.errorType"], apart := false, laid := [("errors.errorType", laid_errors_errorType), ("metronome/metronomeref.Fine", laid_metronome_metronomeref_Fine)] }
def PartTablesSaid : Prop := partTablesRow.holds Tryd.pinned (OpenSpec.ofChange partTablesSpec)

/-- ITS FALSE NEIGHBOUR: 'it returns false'. Refute it at one input. -/
def partTablesWrong : ChangeSpec := { name := "partTables", fn := fun _ => fun
  | [d1, d2, d3, d4] => { results := [.lit (.bool false)], args := [d1, d2, d3, d4] }
  | _ => none }
def PartTablesWrongFalsely : Prop := partTablesRow.holds Tryd.pinned (OpenSpec.ofChange partTablesWrong)

/-- 'metronomelaw.PlanChecks': WHATEVER THE INPUT: true; the input reads as it did. -/
def planChecksSpec : ChangeSpec := { name := "planChecks", fn := fun _ => fun
  | [d] => { results := [.lit (.bool true)], args := [d] }
  | _ => none }
def planChecksRow : OpenClaim := { program := "ytgdljdhibknjnabdoor", sum := "2667867b5b007d58994512dee14c0c6539ecbeb6f5027744dde0509ccdae062f", func := "metronome/metronomelaw.PlanChecks", spec := "planChecks", inPlace := ["internal/reflectlite.ValueOf", "(internal/reflectlite.Value).Type", "(internal/reflectlite.Value).IsNil", "internal/reflectlite.TypeOf", "(internal/reflectlite.Value).Elem", "(internal/reflectlite.Value).Set"], unfollowed := true, recurses := true, named := ["metronome/metronomeref.Fine", "errors.errorType"], apart := false, laid := [("errors.errorType", laid_errors_errorType), ("metronome/metronomeref.Fine", laid_metronome_metronomeref_Fine)] }
def PlanChecksSaid : Prop := planChecksRow.holds Tryd.pinned (OpenSpec.ofChange planChecksSpec)

/-- ITS FALSE NEIGHBOUR: 'it returns false'. Refute it at one input. -/
def planChecksWrong : ChangeSpec := { name := "planChecks", fn := fun _ => fun
  | [d] => { results := [.lit (.bool false)], args := [d] }
  | _ => none }
def PlanChecksWrongFalsely : Prop := planChecksRow.holds Tryd.pinned (OpenSpec.ofChange planChecksWrong)

/-- 'metronomelaw.PlanEncodes': WHATEVER THE INPUT: true; the input reads as it did. -/
def planEncodesSpec : ChangeSpec := { name := "planEncodes", fn := fun _ => fun
  | [d] => { results := [.lit (.bool true)], args := [d] }
  | _ => none }
def planEncodesRow : OpenClaim := { program := "ytgdljdhibknjnabdoor", sum := "2667867b5b007d58994512dee14c0c6539ecbeb6f5027744dde0509ccdae062f", func := "metronome/metronomelaw.PlanEncodes", spec := "planEncodes", inPlace := ["internal/reflectlite.ValueOf", "(internal/reflectlite.Value).Type", "(internal/reflectlite.Value).IsNil", "internal/reflectlite.TypeOf", "(internal/reflectlite.Value).Elem", "(internal/reflectlite.Value).Set"], unfollowed := true, recurses := true, named := ["metronome/metronomeref.Fine", "errors.errorType"], apart := false, laid := [("errors.errorType", laid_errors_errorType), ("metronome/metronomeref.Fine", laid_metronome_metronomeref_Fine)] }
def PlanEncodesSaid : Prop := planEncodesRow.holds Tryd.pinned (OpenSpec.ofChange planEncodesSpec)

/-- ITS FALSE NEIGHBOUR: 'it returns false'. Refute it at one input. -/
def planEncodesWrong : ChangeSpec := { name := "planEncodes", fn := fun _ => fun
  | [d] => { results := [.lit (.bool false)], args := [d] }
  | _ => none }
def PlanEncodesWrongFalsely : Prop := planEncodesRow.holds Tryd.pinned (OpenSpec.ofChange planEncodesWrong)

/- THE SECOND FORM. 'bulk': how many values and letters a reading holds, each counted each time it is reached (what is shared counts as often as it is met; a slice's spare places count too). A statement '..UptoSaid' is the law's where the arguments, and the package variables that the reading takes, are together of bulk at most 1048576: NARROWER than '..Said'. Prove '..Said' where nothing that the law and all that it calls make is longer than what came in: it says more and counts as full. Else prove '..UptoSaid'. A law counts once. -/
mutual
def uptoBulk {H : Type} : DataW H → Nat
  | .lit (.string bytes) => bytes.length + 1
  | .lit _ => 1
  | .nil => 1
  | .ptr d => uptoBulk d + 1
  | .slice elems spare => uptoBulkAll elems + uptoBulkAll spare + 1
  | .agg parts => uptoBulkAll parts + 1
  | .iface _ d => uptoBulk d + 1
  | .map entries => uptoBulkEntries entries + 1
  | .held _ => 1
def uptoBulkAll {H : Type} : List (DataW H) → Nat
  | [] => 0
  | d :: r => uptoBulk d + uptoBulkAll r
def uptoBulkEntries {H : Type} : List (Lit × DataW H) → Nat
  | [] => 0
  | x :: r => uptoBulkEntry x + uptoBulkEntries r
def uptoBulkEntry {H : Type} : Lit × DataW H → Nat
  | (.string bytes, d) => bytes.length + uptoBulk d + 1
  | (_, d) => uptoBulk d + 1
 end
def uptoSmall : (H : Type) → List (DataW H) → Bool := fun _ ds => decide (uptoBulkAll ds ≤ 1048576)
def OpenSpec.upto (s : _root_.Go.ChangeSpec) : _root_.Go.OpenSpec := { _root_.Go.OpenSpec.ofChange s with cond := some uptoSmall }

/-- 'metronomelaw.TicksLocal', WHERE WHAT IT READS IS OF BULK AT MOST 1048576: true; the input reads as it did. -/
def ticksLocalUptoRow : OpenClaim := { program := "ytgdljdhibknjnabdoor", sum := "2667867b5b007d58994512dee14c0c6539ecbeb6f5027744dde0509ccdae062f", func := "metronome/metronomelaw.TicksLocal", spec := "ticksLocal", inPlace := ["internal/reflectlite.ValueOf", "(internal/reflectlite.Value).Type", "(internal/reflectlite.Value).IsNil", "internal/reflectlite.TypeOf", "(internal/reflectlite.Value).Elem", "(internal/reflectlite.Value).Set"], unfollowed := true, recurses := true, named := ["errors.errorType"], apart := false, laid := [("errors.errorType", laid_errors_errorType)], narrowed := true }
def TicksLocalUptoSaid : Prop := ticksLocalUptoRow.holds Tryd.pinned (OpenSpec.upto ticksLocalSpec)

/-- 'metronomelaw.TicksReal', WHERE WHAT IT READS IS OF BULK AT MOST 1048576: true; the input reads as it did. -/
def ticksRealUptoRow : OpenClaim := { program := "ytgdljdhibknjnabdoor", sum := "2667867b5b007d58994512dee14c0c6539ecbeb6f5027744dde0509ccdae062f", func := "metronome/metronomelaw.TicksReal", spec := "ticksReal", inPlace := ["internal/reflectlite.ValueOf", "(internal/reflectlite.Value).Type", "(internal/reflectlite.Value).IsNil", "internal/reflectlite.TypeOf", "(internal/reflectlite.Value).Elem", "(internal/reflectlite.Value).Set"], unfollowed := true, recurses := true, named := ["errors.errorType"], apart := false, laid := [("errors.errorType", laid_errors_errorType)], narrowed := true }
def TicksRealUptoSaid : Prop := ticksRealUptoRow.holds Tryd.pinned (OpenSpec.upto ticksRealSpec)

/-- 'metronomelaw.FrameEncodes', WHERE WHAT IT READS IS OF BULK AT MOST 1048576: true; the input reads as it did. -/
def frameEncodesUptoRow : OpenClaim := { program := "ytgdljdhibknjnabdoor", sum := "2667867b5b007d58994512dee14c0c6539ecbeb6f5027744dde0509ccdae062f", func := "metronome/metronomelaw.FrameEncodes", spec := "frameEncodes", inPlace := ["internal/reflectlite.ValueOf", "(internal/reflectlite.Value).Type", "(internal/reflectlite.Value).IsNil", "internal/reflectlite.TypeOf", "(internal/reflectlite.Value).Elem", "(internal/reflectlite.Value).Set"], unfollowed := true, recurses := true, named := ["errors.errorType"], apart := false, laid := [("errors.errorType", laid_errors_errorType)], narrowed := true }
def FrameEncodesUptoSaid : Prop := frameEncodesUptoRow.holds Tryd.pinned (OpenSpec.upto frameEncodesSpec)

/-- 'metronomelaw.VlinkSends', WHERE WHAT IT READS IS OF BULK AT MOST 1048576: true; the input reads as it did. -/
def vlinkSendsUptoRow : OpenClaim := { program := "ytgdljdhibknjnabdoor", sum := "2667867b5b007d58994512dee14c0c6539ecbeb6f5027744dde0509ccdae062f", func := "metronome/metronomelaw.VlinkSends", spec := "vlinkSends", inPlace := ["internal/reflectlite.ValueOf", "(internal/reflectlite.Value).Type", "(internal/reflectlite.Value).IsNil", "internal/reflectlite.TypeOf", "(internal/reflectlite.Value).Elem", "(internal/reflectlite.Value).Set"], unfollowed := true, recurses := true, named := ["errors.errorType"], apart := false, laid := [("errors.errorType", laid_errors_errorType)], narrowed := true }
def VlinkSendsUptoSaid : Prop := vlinkSendsUptoRow.holds Tryd.pinned (OpenSpec.upto vlinkSendsSpec)

/-- 'metronomelaw.FrameDecodes', WHERE WHAT IT READS IS OF BULK AT MOST 1048576: true; the input reads as it did. -/
def frameDecodesUptoRow : OpenClaim := { program := "ytgdljdhibknjnabdoor", sum := "2667867b5b007d58994512dee14c0c6539ecbeb6f5027744dde0509ccdae062f", func := "metronome/metronomelaw.FrameDecodes", spec := "frameDecodes", inPlace := ["internal/reflectlite.ValueOf", "(internal/reflectlite.Value).Type", "(internal/reflectlite.Value).IsNil", "internal/reflectlite.TypeOf", "(internal/reflectlite.Value).Elem", "(internal/reflectlite.Value).Set"], unfollowed := true, recurses := true, named := ["errors.errorType"], apart := false, laid := [("errors.errorType", laid_errors_errorType)], narrowed := true }
def FrameDecodesUptoSaid : Prop := frameDecodesUptoRow.holds Tryd.pinned (OpenSpec.upto frameDecodesSpec)

/-- 'metronomelaw.GuardOpens', WHERE WHAT IT READS IS OF BULK AT MOST 1048576: true; the input reads as it did. -/
def guardOpensUptoRow : OpenClaim := { program := "ytgdljdhibknjnabdoor", sum := "2667867b5b007d58994512dee14c0c6539ecbeb6f5027744dde0509ccdae062f", func := "metronome/metronomelaw.GuardOpens", spec := "guardOpens", inPlace := ["internal/reflectlite.ValueOf", "(internal/reflectlite.Value).Type", "(internal/reflectlite.Value).IsNil", "internal/reflectlite.TypeOf", "(internal/reflectlite.Value).Elem", "(internal/reflectlite.Value).Set"], unfollowed := true, recurses := true, named := ["errors.errorType"], apart := false, laid := [("errors.errorType", laid_errors_errorType)], narrowed := true }
def GuardOpensUptoSaid : Prop := guardOpensUptoRow.holds Tryd.pinned (OpenSpec.upto guardOpensSpec)

/-- 'metronomelaw.MemberPlays', WHERE WHAT IT READS IS OF BULK AT MOST 1048576: true; the input reads as it did. -/
def memberPlaysUptoRow : OpenClaim := { program := "ytgdljdhibknjnabdoor", sum := "2667867b5b007d58994512dee14c0c6539ecbeb6f5027744dde0509ccdae062f", func := "metronome/metronomelaw.MemberPlays", spec := "memberPlays", inPlace := ["internal/reflectlite.ValueOf", "(internal/reflectlite.Value).Type", "(internal/reflectlite.Value).IsNil", "internal/reflectlite.TypeOf", "(internal/reflectlite.Value).Elem", "(internal/reflectlite.Value).Set"], unfollowed := true, recurses := true, named := ["errors.errorType"], apart := false, laid := [("errors.errorType", laid_errors_errorType)], narrowed := true }
def MemberPlaysUptoSaid : Prop := memberPlaysUptoRow.holds Tryd.pinned (OpenSpec.upto memberPlaysSpec)

/-- 'metronomelaw.PortPlays', WHERE WHAT IT READS IS OF BULK AT MOST 1048576: true; the input reads as it did. -/
def portPlaysUptoRow : OpenClaim := { program := "ytgdljdhibknjnabdoor", sum := "2667867b5b007d58994512dee14c0c6539ecbeb6f5027744dde0509ccdae062f", func := "metronome/metronomelaw.PortPlays", spec := "portPlays", inPlace := ["internal/reflectlite.ValueOf", "(internal/reflectlite.Value).Type", "(internal/reflectlite.Value).IsNil", "internal/reflectlite.TypeOf", "(internal/reflectlite.Value).Elem", "(internal/reflectlite.Value).Set"], unfollowed := true, recurses := true, named := ["errors.errorType"], apart := false, laid := [("errors.errorType", laid_errors_errorType)], narrowed := true }
def PortPlaysUptoSaid : Prop := portPlaysUptoRow.holds Tryd.pinned (OpenSpec.upto portPlaysSpec)

/-- 'metronomelaw.PartTables', WHERE WHAT IT READS IS OF BULK AT MOST 1048576: true; the input reads as it did. -/
def partTablesUptoRow : OpenClaim := { program := "ytgdljdhibknjnabdoor", sum := "2667867b5b007d58994512dee14c0c6539ecbeb6f5027744dde0509ccdae062f", func := "metronome/metronomelaw.PartTables", spec := "partTables", inPlace := ["internal/reflectlite.ValueOf", "(internal/reflectlite.Value).Type", "(internal/reflectlite.Value).IsNil", "internal/reflectlite.TypeOf", "(internal/reflectlite.Value).Elem", "(internal/reflectlite.Value).Set"], unfollowed := true, recurses := true, named := ["metronome/metronomeref.Fine", "errors.errorType"], apart := false, laid := [("errors.errorType", laid_errors_errorType), ("metronome/metronomeref.Fine", laid_metronome_metronomeref_Fine)], narrowed := true }
def PartTablesUptoSaid : Prop := partTablesUptoRow.holds Tryd.pinned (OpenSpec.upto partTablesSpec)

/-- 'metronomelaw.PlanChecks', WHERE WHAT IT READS IS OF BULK AT MOST 1048576: true; the input reads as it did. -/
def planChecksUptoRow : OpenClaim := { program := "ytgdljdhibknjnabdoor", sum := "2667867b5b007d58994512dee14c0c6539ecbeb6f5027744dde0509ccdae062f", func := "metronome/metronomelaw.PlanChecks", spec := "planChecks", inPlace := ["internal/reflectlite.ValueOf", "(internal/reflectlite.Value).Type", "(internal/reflectlite.Value).IsNil", "internal/reflectlite.TypeOf", "(internal/reflectlite.Value).Elem", "(internal/reflectlite.Value).Set"], unfollowed := true, recurses := true, named := ["metronome/metronomeref.Fine", "errors.errorType"], apart := false, laid := [("errors.errorType", laid_errors_errorType), ("metronome/metronomeref.Fine", laid_metronome_metronomeref_Fine)], narrowed := true }
def PlanChecksUptoSaid : Prop := planChecksUptoRow.holds Tryd.pinned (OpenSpec.upto planChecksSpec)

/-- 'metronomelaw.PlanEncodes', WHERE WHAT IT READS IS OF BULK AT MOST 1048576: true; the input reads as it did. -/
def planEncodesUptoRow : OpenClaim := { program := "ytgdljdhibknjnabdoor", sum := "2667867b5b007d58994512dee14c0c6539ecbeb6f5027744dde0509ccdae062f", func := "metronome/metronomelaw.PlanEncodes", spec := "planEncodes", inPlace := ["internal/reflectlite.ValueOf", "(internal/reflectlite.Value).Type", "(internal/reflectlite.Value).IsNil", "internal/reflectlite.TypeOf", "(internal/reflectlite.Value).Elem", "(internal/reflectlite.Value).Set"], unfollowed := true, recurses := true, named := ["metronome/metronomeref.Fine", "errors.errorType"], apart := false, laid := [("errors.errorType", laid_errors_errorType), ("metronome/metronomeref.Fine", laid_metronome_metronomeref_Fine)], narrowed := true }
def PlanEncodesUptoSaid : Prop := planEncodesUptoRow.holds Tryd.pinned (OpenSpec.upto planEncodesSpec)

end Rows
end Go.Proofs.YtgdljdhibknjnabDoor
