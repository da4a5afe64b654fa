/-
  NARROWER THAN 'FOR EVERY INPUT', by the rows' own cells (each row's printed sentence says how): ClusterSkew: laid · ClusterOrder: laid · ClusterApart: laid · ClusterPlays: laid.
  DERIVED. THE GIVEN ROWS OF THIS SEAT. 4 by the template 'for every input the law returns true; each argument reads behind the call as it read before'; 0 by the template 'total and deterministic' (their statements: YtdogdlnaacimpaaGreatDoorTotals.lean).
  GIVEN WITH THE SEED: the statements are not yours to turn. If you find one false, say at which input.
  Laid BY PROGRAM, IN A SANDBOX (cutbox-rows.mjs): the forced cells as the released guide's own fill.sh prints them over the translation f6b96609428db014… (all of the seat's roots in one cut). By AI agents, Wed Nov 11 2026. No macro, syntax, notation, axiom, sorry.
-/
import Derived.Test.YtdogdlnaacimpaaGreatDoorChecked
import GoSem.Claim
import GoSem.ClaimJoined
import GoSem.ClaimMapViews
import Derived.JoinedTies
import Derived.KernelRfl
namespace Go.Proofs.YtdogdlnaacimpaaGreatDoor
/- THE CELL 'sum', in the pinned program and in every row, IS THE sha256 OF THE DUMP (.gsa) THAT YtdogdlnaacimpaaGreatDoorProg.lean LOADS. Nothing in Lean hashes anything: it is a label: what it is worth is what the hold of that sum in a sandbox is worth. -/
noncomputable def Tryz.pinned : Pinned := { name := "ytdogdlnaacimpaagreatdoor", sum := "f6b96609428db01497ee518e8804c998e9f6f0185a25268923ddaeae342ac630", checked := Tryz.checked }
namespace Rows
def none {H : Type} : Left H := { results := [], args := [] }

/- WHAT THE LISTED PACKAGE-LEVEL VARIABLES READ AS WHEN THE CALL BEGINS. Each datum BY PROGRAM (the guide's laid-datum.mjs) off the statement by which the dump's own 'gosem.cut.vars' lays the variable. In a bare row this is a premise. The card (YtdogdlnaacimpaaGreatDoorCards.lean) ties it to the program's text. -/
def laid_errors_errorType {H : Type} : DataW H := .iface "internal/reflectlite.rtype" (.agg [.ptr (.lit (.string [101, 114, 114, 111, 114]))])
def laid_metronome_metronomeref_Fine {H : Type} : DataW H := .agg [.lit (.int .i64 0), .lit (.int .i64 (-1))]

/-- 'metronomekeep.ClusterSkew': WHATEVER THE INPUT: true; the input reads as it did. -/
def clusterSkewSpec : ChangeSpec := { name := "clusterSkew", fn := fun _ => fun
  | [d1, d2, d3, d4] => { results := [.lit (.bool true)], args := [d1, d2, d3, d4] }
  | _ => none }
def clusterSkewRow : OpenClaim := { program := "ytdogdlnaacimpaagreatdoor", sum := "f6b96609428db01497ee518e8804c998e9f6f0185a25268923ddaeae342ac630", func := "metronome/metronomekeep.ClusterSkew", spec := "clusterSkew", inPlace := ["internal/reflectlite.ValueOf", "(internal/reflectlite.Value).Type", "(internal/reflectlite.Value).IsNil", "internal/reflectlite.TypeOf", "(internal/reflectlite.Value).Elem", "(internal/reflectlite.Value).Set"], unfollowed := true, recurses := true, named := ["errors.errorType"], plainKeys := false, apart := false, laid := [("errors.errorType", laid_errors_errorType)] }
def ClusterSkewSaid : Prop := clusterSkewRow.holds Tryz.pinned (OpenSpec.ofChange clusterSkewSpec)

/-- ITS FALSE NEIGHBOUR: 'it returns false'. Refute it at one input. -/
def clusterSkewWrong : ChangeSpec := { name := "clusterSkew", fn := fun _ => fun
  | [d1, d2, d3, d4] => { results := [.lit (.bool false)], args := [d1, d2, d3, d4] }
  | _ => none }
def ClusterSkewWrongFalsely : Prop := clusterSkewRow.holds Tryz.pinned (OpenSpec.ofChange clusterSkewWrong)

/-- 'metronomekeep.ClusterOrder': WHATEVER THE INPUT: true; the input reads as it did. -/
def clusterOrderSpec : ChangeSpec := { name := "clusterOrder", fn := fun _ => fun
  | [d1, d2, d3] => { results := [.lit (.bool true)], args := [d1, d2, d3] }
  | _ => none }
def clusterOrderRow : OpenClaim := { program := "ytdogdlnaacimpaagreatdoor", sum := "f6b96609428db01497ee518e8804c998e9f6f0185a25268923ddaeae342ac630", func := "metronome/metronomekeep.ClusterOrder", spec := "clusterOrder", inPlace := ["internal/reflectlite.ValueOf", "(internal/reflectlite.Value).Type", "(internal/reflectlite.Value).IsNil", "internal/reflectlite.TypeOf", "(internal/reflectlite.Value).Elem", "(internal/reflectlite.Value).Set"], unfollowed := true, recurses := true, named := ["errors.errorType"], plainKeys := false, apart := false, laid := [("errors.errorType", laid_errors_errorType)] }
def ClusterOrderSaid : Prop := clusterOrderRow.holds Tryz.pinned (OpenSpec.ofChange clusterOrderSpec)

/-- ITS FALSE NEIGHBOUR: 'it returns false'. Refute it at one input. -/
def clusterOrderWrong : ChangeSpec := { name := "clusterOrder", fn := fun _ => fun
  | [d1, d2, d3] => { results := [.lit (.bool false)], args := [d1, d2, d3] }
  | _ => none }
def ClusterOrderWrongFalsely : Prop := clusterOrderRow.holds Tryz.pinned (OpenSpec.ofChange clusterOrderWrong)

/-- 'metronomekeep.ClusterApart': WHATEVER THE INPUT: true; the input reads as it did. -/
def clusterApartSpec : ChangeSpec := { name := "clusterApart", fn := fun _ => fun
  | [d1, d2, d3, d4, d5] => { results := [.lit (.bool true)], args := [d1, d2, d3, d4, d5] }
  | _ => none }
def clusterApartRow : OpenClaim := { program := "ytdogdlnaacimpaagreatdoor", sum := "f6b96609428db01497ee518e8804c998e9f6f0185a25268923ddaeae342ac630", func := "metronome/metronomekeep.ClusterApart", spec := "clusterApart", inPlace := ["internal/reflectlite.ValueOf", "(internal/reflectlite.Value).Type", "(internal/reflectlite.Value).IsNil", "internal/reflectlite.TypeOf", "(internal/reflectlite.Value).Elem", "(internal/reflectlite.Value).Set"], unfollowed := true, recurses := true, named := ["errors.errorType"], plainKeys := false, apart := false, laid := [("errors.errorType", laid_errors_errorType)] }
def ClusterApartSaid : Prop := clusterApartRow.holds Tryz.pinned (OpenSpec.ofChange clusterApartSpec)

/-- ITS FALSE NEIGHBOUR: 'it returns false'. Refute it at one input. -/
def clusterApartWrong : ChangeSpec := { name := "clusterApart", fn := fun _ => fun
  | [d1, d2, d3, d4, d5] => { results := [.lit (.bool false)], args := [d1, d2, d3, d4, d5] }
  | _ => none }
def ClusterApartWrongFalsely : Prop := clusterApartRow.holds Tryz.pinned (OpenSpec.ofChange clusterApartWrong)

/-- 'metronomelaw.ClusterPlays': WHATEVER THE INPUT: true; the input reads as it did. -/
def clusterPlaysSpec : ChangeSpec := { name := "clusterPlays", fn := fun _ => fun
  | [d1, d2, d3, d4] => { results := [.lit (.bool true)], args := [d1, d2, d3, d4] }
  | _ => none }
def clusterPlaysRow : OpenClaim := { program := "ytdogdlnaacimpaagreatdoor", sum := "f6b96609428db01497ee518e8804c998e9f6f0185a25268923ddaeae342ac630", func := "metronome/metronomelaw.ClusterPlays", spec := "clusterPlays", inPlace := ["internal/reflectlite.ValueOf", "(internal/reflectlite.Value).Type", "(internal/reflectlite.Value).IsNil", "internal/reflectlite.TypeOf", "(internal/reflectlite.Value).Elem", "(internal/reflectlite.Value).Set"], unfollowed := true, recurses := true, named := ["metronome/metronomeref.Fine", "errors.errorType"], plainKeys := false, apart := false, laid := [("errors.errorType", laid_errors_errorType), ("metronome/metronomeref.Fine", laid_metronome_metronomeref_Fine)] }
def ClusterPlaysSaid : Prop := clusterPlaysRow.holds Tryz.pinned (OpenSpec.ofChange clusterPlaysSpec)

/-- ITS FALSE NEIGHBOUR: 'it returns false'. Refute it at one input. -/
def clusterPlaysWrong : ChangeSpec := { name := "clusterPlays", fn := fun _ => fun
  | [d1, d2, d3, d4] => { results := [.lit (.bool false)], args := [d1, d2, d3, d4] }
  | _ => none }
def ClusterPlaysWrongFalsely : Prop := clusterPlaysRow.holds Tryz.pinned (OpenSpec.ofChange clusterPlaysWrong)

/- THE SECOND FORM. 'bulk': how many values and letters a reading holds, each counted each time it is reached (what is shared counts as often as it is met; a slice's spare places count too). A statement '..UptoSaid' is the law's where the arguments, and the package variables that the reading takes, are together of bulk at most 1048576: NARROWER than '..Said'. Prove '..Said' where nothing that the law and all that it calls make is longer than what came in: it says more and counts as full. Else prove '..UptoSaid'. A law counts once. -/
mutual
def uptoBulk {H : Type} : DataW H → Nat
  | .lit (.string bytes) => bytes.length + 1
  | .lit _ => 1
  | .nil => 1
  | .ptr d => uptoBulk d + 1
  | .slice elems spare => uptoBulkAll elems + uptoBulkAll spare + 1
  | .agg parts => uptoBulkAll parts + 1
  | .iface _ d => uptoBulk d + 1
  | .map entries => uptoBulkEntries entries + 1
  | .held _ => 1
def uptoBulkAll {H : Type} : List (DataW H) → Nat
  | [] => 0
  | d :: r => uptoBulk d + uptoBulkAll r
def uptoBulkEntries {H : Type} : List (Lit × DataW H) → Nat
  | [] => 0
  | x :: r => uptoBulkEntry x + uptoBulkEntries r
def uptoBulkEntry {H : Type} : Lit × DataW H → Nat
  | (.string bytes, d) => bytes.length + uptoBulk d + 1
  | (_, d) => uptoBulk d + 1
 end
def uptoSmall : (H : Type) → List (DataW H) → Bool := fun _ ds => decide (uptoBulkAll ds ≤ 1048576)
def OpenSpec.upto (s : _root_.Go.ChangeSpec) : _root_.Go.OpenSpec := { _root_.Go.OpenSpec.ofChange s with cond := some uptoSmall }

/-- 'metronomekeep.ClusterSkew', WHERE WHAT IT READS IS OF BULK AT MOST 1048576: true; the input reads as it did. -/
def clusterSkewUptoRow : OpenClaim := { program := "ytdogdlnaacimpaagreatdoor", sum := "f6b96609428db01497ee518e8804c998e9f6f0185a25268923ddaeae342ac630", func := "metronome/metronomekeep.ClusterSkew", spec := "clusterSkew", inPlace := ["internal/reflectlite.ValueOf", "(internal/reflectlite.Value).Type", "(internal/reflectlite.Value).IsNil", "internal/reflectlite.TypeOf", "(internal/reflectlite.Value).Elem", "(internal/reflectlite.Value).Set"], unfollowed := true, recurses := true, named := ["errors.errorType"], plainKeys := false, apart := false, laid := [("errors.errorType", laid_errors_errorType)], narrowed := true }
def ClusterSkewUptoSaid : Prop := clusterSkewUptoRow.holds Tryz.pinned (OpenSpec.upto clusterSkewSpec)

/-- 'metronomekeep.ClusterOrder', WHERE WHAT IT READS IS OF BULK AT MOST 1048576: true; the input reads as it did. -/
def clusterOrderUptoRow : OpenClaim := { program := "ytdogdlnaacimpaagreatdoor", sum := "f6b96609428db01497ee518e8804c998e9f6f0185a25268923ddaeae342ac630", func := "metronome/metronomekeep.ClusterOrder", spec := "clusterOrder", inPlace := ["internal/reflectlite.ValueOf", "(internal/reflectlite.Value).Type", "(internal/reflectlite.Value).IsNil", "internal/reflectlite.TypeOf", "(internal/reflectlite.Value).Elem", "(internal/reflectlite.Value).Set"], unfollowed := true, recurses := true, named := ["errors.errorType"], plainKeys := false, apart := false, laid := [("errors.errorType", laid_errors_errorType)], narrowed := true }
def ClusterOrderUptoSaid : Prop := clusterOrderUptoRow.holds Tryz.pinned (OpenSpec.upto clusterOrderSpec)

/-- 'metronomekeep.ClusterApart', WHERE WHAT IT READS IS OF BULK AT MOST 1048576: true; the input reads as it did. -/
def clusterApartUptoRow : OpenClaim := { program := "ytdogdlnaacimpaagreatdoor", sum := "f6b96609428db01497ee518e8804c998e9f6f0185a25268923ddaeae342ac630", func := "metronome/metronomekeep.ClusterApart", spec := "clusterApart", inPlace := ["internal/reflectlite.ValueOf", "(internal/reflectlite.Value).Type", "(internal/reflectlite.Value).IsNil", "internal/reflectlite.TypeOf", "(internal/reflectlite.Value).Elem", "(internal/reflectlite.Value).Set"], unfollowed := true, recurses := true, named := ["errors.errorType"], plainKeys := false, apart := false, laid := [("errors.errorType", laid_errors_errorType)], narrowed := true }
def ClusterApartUptoSaid : Prop := clusterApartUptoRow.holds Tryz.pinned (OpenSpec.upto clusterApartSpec)

/-- 'metronomelaw.ClusterPlays', WHERE WHAT IT READS IS OF BULK AT MOST 1048576: true; the input reads as it did. -/
def clusterPlaysUptoRow : OpenClaim := { program := "ytdogdlnaacimpaagreatdoor", sum := "f6b96609428db01497ee518e8804c998e9f6f0185a25268923ddaeae342ac630", func := "metronome/metronomelaw.ClusterPlays", spec := "clusterPlays", inPlace := ["internal/reflectlite.ValueOf", "(internal/reflectlite.Value).Type", "(internal/reflectlite.Value).IsNil", "internal/reflectlite.TypeOf", "(internal/reflectlite.Value).Elem", "(internal/reflectlite.Value).Set"], unfollowed := true, recurses := true, named := ["metronome/metronomeref.Fine", "errors.errorType"], plainKeys := false, apart := false, laid := [("errors.errorType", laid_errors_errorType), ("metronome/metronomeref.Fine", laid_metronome_metronomeref_Fine)], narrowed := true }
def ClusterPlaysUptoSaid : Prop := clusterPlaysUptoRow.holds Tryz.pinned (OpenSpec.upto clusterPlaysSpec)

end Rows
end Go.Proofs.YtdogdlnaacimpaaGreatDoor
