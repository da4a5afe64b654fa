/-
  No cell of these rows narrows 'for every input' (looked for: loops, veiled, ifaces, maps, wideKeys, modest, calm, conditions, laid).
  DERIVED. THE GIVEN ROWS OF THIS SEAT. 10 by the template 'for every input the law returns true; each argument reads behind the call as it read before'; 0 by the template 'total and deterministic' (their statements: YtgdljdhibknjnaaTotals.lean).
  GIVEN WITH THE SEED: the statements are not yours to turn. If you find one false, say at which input.
  Laid BY PROGRAM, IN A SANDBOX (cutbox-rows.mjs): the forced cells as the released guide's own fill.sh prints them over the translation 16d6f2694ec56e83… (all of the seat's roots in one cut). By AI agents, Wed Nov 11 2026. No macro, syntax, notation, axiom, sorry.
-/
import Derived.Test.YtgdljdhibknjnaaChecked
import GoSem.Claim
import GoSem.ClaimJoined
import GoSem.ClaimMapViews
import Derived.JoinedTies
import Derived.KernelRfl
namespace Go.Proofs.Ytgdljdhibknjnaa
/- THE CELL 'sum', in the pinned program and in every row, IS THE sha256 OF THE DUMP (.gsa) THAT YtgdljdhibknjnaaProg.lean LOADS. Nothing in Lean hashes anything: it is a label: what it is worth is what the hold of that sum in a sandbox is worth. -/
noncomputable def Try.pinned : Pinned := { name := "ytgdljdhibknjnaa", sum := "16d6f2694ec56e830f9c24891bfdbabf66b609ecf478438e38040467a226227d", checked := Try.checked }
namespace Rows
def none {H : Type} : Left H := { results := [], args := [] }

/-- 'metronomelaw.VlinkTakes': WHATEVER THE INPUT: true; the input reads as it did. -/
def vlinkTakesSpec : ChangeSpec := { name := "vlinkTakes", fn := fun _ => fun
  | [d] => { results := [.lit (.bool true)], args := [d] }
  | _ => none }
def vlinkTakesRow : OpenClaim := { program := "ytgdljdhibknjnaa", sum := "16d6f2694ec56e830f9c24891bfdbabf66b609ecf478438e38040467a226227d", func := "metronome/metronomelaw.VlinkTakes", spec := "vlinkTakes", apart := false }
def VlinkTakesSaid : Prop := vlinkTakesRow.holds Try.pinned (OpenSpec.ofChange vlinkTakesSpec)

/-- ITS FALSE NEIGHBOUR: 'it returns false'. Refute it at one input. -/
def vlinkTakesWrong : ChangeSpec := { name := "vlinkTakes", fn := fun _ => fun
  | [d] => { results := [.lit (.bool false)], args := [d] }
  | _ => none }
def VlinkTakesWrongFalsely : Prop := vlinkTakesRow.holds Try.pinned (OpenSpec.ofChange vlinkTakesWrong)

/-- 'metronomekeep.TicksBack': WHATEVER THE INPUT: true; the input reads as it did. -/
def ticksBackSpec : ChangeSpec := { name := "ticksBack", fn := fun _ => fun
  | [d1, d2, d3, d4] => { results := [.lit (.bool true)], args := [d1, d2, d3, d4] }
  | _ => none }
def ticksBackRow : OpenClaim := { program := "ytgdljdhibknjnaa", sum := "16d6f2694ec56e830f9c24891bfdbabf66b609ecf478438e38040467a226227d", func := "metronome/metronomekeep.TicksBack", spec := "ticksBack", apart := false }
def TicksBackSaid : Prop := ticksBackRow.holds Try.pinned (OpenSpec.ofChange ticksBackSpec)

/-- ITS FALSE NEIGHBOUR: 'it returns false'. Refute it at one input. -/
def ticksBackWrong : ChangeSpec := { name := "ticksBack", fn := fun _ => fun
  | [d1, d2, d3, d4] => { results := [.lit (.bool false)], args := [d1, d2, d3, d4] }
  | _ => none }
def TicksBackWrongFalsely : Prop := ticksBackRow.holds Try.pinned (OpenSpec.ofChange ticksBackWrong)

/-- 'metronomekeep.MemberAlike': WHATEVER THE INPUT: true; the input reads as it did. -/
def memberAlikeSpec : ChangeSpec := { name := "memberAlike", fn := fun _ => fun
  | [d1, d2] => { results := [.lit (.bool true)], args := [d1, d2] }
  | _ => none }
def memberAlikeRow : OpenClaim := { program := "ytgdljdhibknjnaa", sum := "16d6f2694ec56e830f9c24891bfdbabf66b609ecf478438e38040467a226227d", func := "metronome/metronomekeep.MemberAlike", spec := "memberAlike", apart := false }
def MemberAlikeSaid : Prop := memberAlikeRow.holds Try.pinned (OpenSpec.ofChange memberAlikeSpec)

/-- ITS FALSE NEIGHBOUR: 'it returns false'. Refute it at one input. -/
def memberAlikeWrong : ChangeSpec := { name := "memberAlike", fn := fun _ => fun
  | [d1, d2] => { results := [.lit (.bool false)], args := [d1, d2] }
  | _ => none }
def MemberAlikeWrongFalsely : Prop := memberAlikeRow.holds Try.pinned (OpenSpec.ofChange memberAlikeWrong)

/-- 'metronomekeep.FrameBack': WHATEVER THE INPUT: true; the input reads as it did. -/
def frameBackSpec : ChangeSpec := { name := "frameBack", fn := fun _ => fun
  | [d] => { results := [.lit (.bool true)], args := [d] }
  | _ => none }
def frameBackRow : OpenClaim := { program := "ytgdljdhibknjnaa", sum := "16d6f2694ec56e830f9c24891bfdbabf66b609ecf478438e38040467a226227d", func := "metronome/metronomekeep.FrameBack", spec := "frameBack", apart := false }
def FrameBackSaid : Prop := frameBackRow.holds Try.pinned (OpenSpec.ofChange frameBackSpec)

/-- ITS FALSE NEIGHBOUR: 'it returns false'. Refute it at one input. -/
def frameBackWrong : ChangeSpec := { name := "frameBack", fn := fun _ => fun
  | [d] => { results := [.lit (.bool false)], args := [d] }
  | _ => none }
def FrameBackWrongFalsely : Prop := frameBackRow.holds Try.pinned (OpenSpec.ofChange frameBackWrong)

/-- 'metronomekeep.FrameBurst': WHATEVER THE INPUT: true; the input reads as it did. -/
def frameBurstSpec : ChangeSpec := { name := "frameBurst", fn := fun _ => fun
  | [d1, d2, d3] => { results := [.lit (.bool true)], args := [d1, d2, d3] }
  | _ => none }
def frameBurstRow : OpenClaim := { program := "ytgdljdhibknjnaa", sum := "16d6f2694ec56e830f9c24891bfdbabf66b609ecf478438e38040467a226227d", func := "metronome/metronomekeep.FrameBurst", spec := "frameBurst", apart := false }
def FrameBurstSaid : Prop := frameBurstRow.holds Try.pinned (OpenSpec.ofChange frameBurstSpec)

/-- ITS FALSE NEIGHBOUR: 'it returns false'. Refute it at one input. -/
def frameBurstWrong : ChangeSpec := { name := "frameBurst", fn := fun _ => fun
  | [d1, d2, d3] => { results := [.lit (.bool false)], args := [d1, d2, d3] }
  | _ => none }
def FrameBurstWrongFalsely : Prop := frameBurstRow.holds Try.pinned (OpenSpec.ofChange frameBurstWrong)

/-- 'metronomekeep.VlinkOnce': WHATEVER THE INPUT: true; the input reads as it did. -/
def vlinkOnceSpec : ChangeSpec := { name := "vlinkOnce", fn := fun _ => fun
  | [d1, d2, d3, d4] => { results := [.lit (.bool true)], args := [d1, d2, d3, d4] }
  | _ => none }
def vlinkOnceRow : OpenClaim := { program := "ytgdljdhibknjnaa", sum := "16d6f2694ec56e830f9c24891bfdbabf66b609ecf478438e38040467a226227d", func := "metronome/metronomekeep.VlinkOnce", spec := "vlinkOnce", apart := false }
def VlinkOnceSaid : Prop := vlinkOnceRow.holds Try.pinned (OpenSpec.ofChange vlinkOnceSpec)

/-- ITS FALSE NEIGHBOUR: 'it returns false'. Refute it at one input. -/
def vlinkOnceWrong : ChangeSpec := { name := "vlinkOnce", fn := fun _ => fun
  | [d1, d2, d3, d4] => { results := [.lit (.bool false)], args := [d1, d2, d3, d4] }
  | _ => none }
def VlinkOnceWrongFalsely : Prop := vlinkOnceRow.holds Try.pinned (OpenSpec.ofChange vlinkOnceWrong)

/-- 'metronomekeep.PartOne': WHATEVER THE INPUT: true; the input reads as it did. -/
def partOneSpec : ChangeSpec := { name := "partOne", fn := fun _ => fun
  | [d1, d2, d3] => { results := [.lit (.bool true)], args := [d1, d2, d3] }
  | _ => none }
def partOneRow : OpenClaim := { program := "ytgdljdhibknjnaa", sum := "16d6f2694ec56e830f9c24891bfdbabf66b609ecf478438e38040467a226227d", func := "metronome/metronomekeep.PartOne", spec := "partOne", unfollowed := true, recurses := true, apart := false }
def PartOneSaid : Prop := partOneRow.holds Try.pinned (OpenSpec.ofChange partOneSpec)

/-- ITS FALSE NEIGHBOUR: 'it returns false'. Refute it at one input. -/
def partOneWrong : ChangeSpec := { name := "partOne", fn := fun _ => fun
  | [d1, d2, d3] => { results := [.lit (.bool false)], args := [d1, d2, d3] }
  | _ => none }
def PartOneWrongFalsely : Prop := partOneRow.holds Try.pinned (OpenSpec.ofChange partOneWrong)

/-- 'metronomelaw.GuardPasses': WHATEVER THE INPUT: true; the input reads as it did. -/
def guardPassesSpec : ChangeSpec := { name := "guardPasses", fn := fun _ => fun
  | [d1, d2, d3, d4, d5, d6] => { results := [.lit (.bool true)], args := [d1, d2, d3, d4, d5, d6] }
  | _ => none }
def guardPassesRow : OpenClaim := { program := "ytgdljdhibknjnaa", sum := "16d6f2694ec56e830f9c24891bfdbabf66b609ecf478438e38040467a226227d", func := "metronome/metronomelaw.GuardPasses", spec := "guardPasses", unfollowed := true, recurses := true, apart := false }
def GuardPassesSaid : Prop := guardPassesRow.holds Try.pinned (OpenSpec.ofChange guardPassesSpec)

/-- ITS FALSE NEIGHBOUR: 'it returns false'. Refute it at one input. -/
def guardPassesWrong : ChangeSpec := { name := "guardPasses", fn := fun _ => fun
  | [d1, d2, d3, d4, d5, d6] => { results := [.lit (.bool false)], args := [d1, d2, d3, d4, d5, d6] }
  | _ => none }
def GuardPassesWrongFalsely : Prop := guardPassesRow.holds Try.pinned (OpenSpec.ofChange guardPassesWrong)

/-- 'metronomekeep.GuardApart': WHATEVER THE INPUT: true; the input reads as it did. -/
def guardApartSpec : ChangeSpec := { name := "guardApart", fn := fun _ => fun
  | [d1, d2, d3, d4, d5, d6, d7, d8, d9] => { results := [.lit (.bool true)], args := [d1, d2, d3, d4, d5, d6, d7, d8, d9] }
  | _ => none }
def guardApartRow : OpenClaim := { program := "ytgdljdhibknjnaa", sum := "16d6f2694ec56e830f9c24891bfdbabf66b609ecf478438e38040467a226227d", func := "metronome/metronomekeep.GuardApart", spec := "guardApart", unfollowed := true, recurses := true, apart := false }
def GuardApartSaid : Prop := guardApartRow.holds Try.pinned (OpenSpec.ofChange guardApartSpec)

/-- ITS FALSE NEIGHBOUR: 'it returns false'. Refute it at one input. -/
def guardApartWrong : ChangeSpec := { name := "guardApart", fn := fun _ => fun
  | [d1, d2, d3, d4, d5, d6, d7, d8, d9] => { results := [.lit (.bool false)], args := [d1, d2, d3, d4, d5, d6, d7, d8, d9] }
  | _ => none }
def GuardApartWrongFalsely : Prop := guardApartRow.holds Try.pinned (OpenSpec.ofChange guardApartWrong)

/-- 'metronomekeep.PlanBack': WHATEVER THE INPUT: true; the input reads as it did. -/
def planBackSpec : ChangeSpec := { name := "planBack", fn := fun _ => fun
  | [d1, d2] => { results := [.lit (.bool true)], args := [d1, d2] }
  | _ => none }
def planBackRow : OpenClaim := { program := "ytgdljdhibknjnaa", sum := "16d6f2694ec56e830f9c24891bfdbabf66b609ecf478438e38040467a226227d", func := "metronome/metronomekeep.PlanBack", spec := "planBack", unfollowed := true, recurses := true, apart := false }
def PlanBackSaid : Prop := planBackRow.holds Try.pinned (OpenSpec.ofChange planBackSpec)

/-- ITS FALSE NEIGHBOUR: 'it returns false'. Refute it at one input. -/
def planBackWrong : ChangeSpec := { name := "planBack", fn := fun _ => fun
  | [d1, d2] => { results := [.lit (.bool false)], args := [d1, d2] }
  | _ => none }
def PlanBackWrongFalsely : Prop := planBackRow.holds Try.pinned (OpenSpec.ofChange planBackWrong)

/- THE SECOND FORM. 'bulk': how many values and letters a reading holds, each counted each time it is reached (what is shared counts as often as it is met; a slice's spare places count too). A statement '..UptoSaid' is the law's where the arguments, and the package variables that the reading takes, are together of bulk at most 1048576: NARROWER than '..Said'. Prove '..Said' where nothing that the law and all that it calls make is longer than what came in: it says more and counts as full. Else prove '..UptoSaid'. A law counts once. -/
mutual
def uptoBulk {H : Type} : DataW H → Nat
  | .lit (.string bytes) => bytes.length + 1
  | .lit _ => 1
  | .nil => 1
  | .ptr d => uptoBulk d + 1
  | .slice elems spare => uptoBulkAll elems + uptoBulkAll spare + 1
  | .agg parts => uptoBulkAll parts + 1
  | .iface _ d => uptoBulk d + 1
  | .map entries => uptoBulkEntries entries + 1
  | .held _ => 1
def uptoBulkAll {H : Type} : List (DataW H) → Nat
  | [] => 0
  | d :: r => uptoBulk d + uptoBulkAll r
def uptoBulkEntries {H : Type} : List (Lit × DataW H) → Nat
  | [] => 0
  | x :: r => uptoBulkEntry x + uptoBulkEntries r
def uptoBulkEntry {H : Type} : Lit × DataW H → Nat
  | (.string bytes, d) => bytes.length + uptoBulk d + 1
  | (_, d) => uptoBulk d + 1
 end
def uptoSmall : (H : Type) → List (DataW H) → Bool := fun _ ds => decide (uptoBulkAll ds ≤ 1048576)
def OpenSpec.upto (s : _root_.Go.ChangeSpec) : _root_.Go.OpenSpec := { _root_.Go.OpenSpec.ofChange s with cond := some uptoSmall }

/-- 'metronomelaw.VlinkTakes', WHERE WHAT IT READS IS OF BULK AT MOST 1048576: true; the input reads as it did. -/
def vlinkTakesUptoRow : OpenClaim := { program := "ytgdljdhibknjnaa", sum := "16d6f2694ec56e830f9c24891bfdbabf66b609ecf478438e38040467a226227d", func := "metronome/metronomelaw.VlinkTakes", spec := "vlinkTakes", apart := false, narrowed := true }
def VlinkTakesUptoSaid : Prop := vlinkTakesUptoRow.holds Try.pinned (OpenSpec.upto vlinkTakesSpec)

/-- 'metronomekeep.TicksBack', WHERE WHAT IT READS IS OF BULK AT MOST 1048576: true; the input reads as it did. -/
def ticksBackUptoRow : OpenClaim := { program := "ytgdljdhibknjnaa", sum := "16d6f2694ec56e830f9c24891bfdbabf66b609ecf478438e38040467a226227d", func := "metronome/metronomekeep.TicksBack", spec := "ticksBack", apart := false, narrowed := true }
def TicksBackUptoSaid : Prop := ticksBackUptoRow.holds Try.pinned (OpenSpec.upto ticksBackSpec)

/-- 'metronomekeep.MemberAlike', WHERE WHAT IT READS IS OF BULK AT MOST 1048576: true; the input reads as it did. -/
def memberAlikeUptoRow : OpenClaim := { program := "ytgdljdhibknjnaa", sum := "16d6f2694ec56e830f9c24891bfdbabf66b609ecf478438e38040467a226227d", func := "metronome/metronomekeep.MemberAlike", spec := "memberAlike", apart := false, narrowed := true }
def MemberAlikeUptoSaid : Prop := memberAlikeUptoRow.holds Try.pinned (OpenSpec.upto memberAlikeSpec)

/-- 'metronomekeep.FrameBack', WHERE WHAT IT READS IS OF BULK AT MOST 1048576: true; the input reads as it did. -/
def frameBackUptoRow : OpenClaim := { program := "ytgdljdhibknjnaa", sum := "16d6f2694ec56e830f9c24891bfdbabf66b609ecf478438e38040467a226227d", func := "metronome/metronomekeep.FrameBack", spec := "frameBack", apart := false, narrowed := true }
def FrameBackUptoSaid : Prop := frameBackUptoRow.holds Try.pinned (OpenSpec.upto frameBackSpec)

/-- 'metronomekeep.FrameBurst', WHERE WHAT IT READS IS OF BULK AT MOST 1048576: true; the input reads as it did. -/
def frameBurstUptoRow : OpenClaim := { program := "ytgdljdhibknjnaa", sum := "16d6f2694ec56e830f9c24891bfdbabf66b609ecf478438e38040467a226227d", func := "metronome/metronomekeep.FrameBurst", spec := "frameBurst", apart := false, narrowed := true }
def FrameBurstUptoSaid : Prop := frameBurstUptoRow.holds Try.pinned (OpenSpec.upto frameBurstSpec)

/-- 'metronomekeep.VlinkOnce', WHERE WHAT IT READS IS OF BULK AT MOST 1048576: true; the input reads as it did. -/
def vlinkOnceUptoRow : OpenClaim := { program := "ytgdljdhibknjnaa", sum := "16d6f2694ec56e830f9c24891bfdbabf66b609ecf478438e38040467a226227d", func := "metronome/metronomekeep.VlinkOnce", spec := "vlinkOnce", apart := false, narrowed := true }
def VlinkOnceUptoSaid : Prop := vlinkOnceUptoRow.holds Try.pinned (OpenSpec.upto vlinkOnceSpec)

/-- 'metronomekeep.PartOne', WHERE WHAT IT READS IS OF BULK AT MOST 1048576: true; the input reads as it did. -/
def partOneUptoRow : OpenClaim := { program := "ytgdljdhibknjnaa", sum := "16d6f2694ec56e830f9c24891bfdbabf66b609ecf478438e38040467a226227d", func := "metronome/metronomekeep.PartOne", spec := "partOne", unfollowed := true, recurses := true, apart := false, narrowed := true }
def PartOneUptoSaid : Prop := partOneUptoRow.holds Try.pinned (OpenSpec.upto partOneSpec)

/-- 'metronomelaw.GuardPasses', WHERE WHAT IT READS IS OF BULK AT MOST 1048576: true; the input reads as it did. -/
def guardPassesUptoRow : OpenClaim := { program := "ytgdljdhibknjnaa", sum := "16d6f2694ec56e830f9c24891bfdbabf66b609ecf478438e38040467a226227d", func := "metronome/metronomelaw.GuardPasses", spec := "guardPasses", unfollowed := true, recurses := true, apart := false, narrowed := true }
def GuardPassesUptoSaid : Prop := guardPassesUptoRow.holds Try.pinned (OpenSpec.upto guardPassesSpec)

/-- 'metronomekeep.GuardApart', WHERE WHAT IT READS IS OF BULK AT MOST 1048576: true; the input reads as it did. -/
def guardApartUptoRow : OpenClaim := { program := "ytgdljdhibknjnaa", sum := "16d6f2694ec56e830f9c24891bfdbabf66b609ecf478438e38040467a226227d", func := "metronome/metronomekeep.GuardApart", spec := "guardApart", unfollowed := true, recurses := true, apart := false, narrowed := true }
def GuardApartUptoSaid : Prop := guardApartUptoRow.holds Try.pinned (OpenSpec.upto guardApartSpec)

/-- 'metronomekeep.PlanBack', WHERE WHAT IT READS IS OF BULK AT MOST 1048576: true; the input reads as it did. -/
def planBackUptoRow : OpenClaim := { program := "ytgdljdhibknjnaa", sum := "16d6f2694ec56e830f9c24891bfdbabf66b609ecf478438e38040467a226227d", func := "metronome/metronomekeep.PlanBack", spec := "planBack", unfollowed := true, recurses := true, apart := false, narrowed := true }
def PlanBackUptoSaid : Prop := planBackUptoRow.holds Try.pinned (OpenSpec.upto planBackSpec)

end Rows
end Go.Proofs.Ytgdljdhibknjnaa
