/-
  No cell of these rows narrows 'for every input' (looked for: loops, veiled, ifaces, maps, wideKeys, modest, calm, conditions, laid).
  DERIVED. THE GIVEN ROWS OF THIS SEAT. 12 by the template 'for every input the law returns true; each argument reads behind the call as it read before'; 0 by the template 'total and deterministic' (their statements: YtnjcmalmnofbmaaTotals.lean).
  GIVEN WITH THE SEED: the statements are not yours to turn. If you find one false, say at which input.
  Laid BY PROGRAM, IN A SANDBOX (cutbox-rows.mjs): the forced cells as the released guide's own fill.sh prints them over the translation 3a4d9b2227e40dea… (all of the seat's roots in one cut). By AI agents, Wed Nov 11 2026. No macro, syntax, notation, axiom, sorry.
-/
import Derived.Test.YtnjcmalmnofbmaaChecked
import GoSem.Claim
import GoSem.ClaimJoined
import GoSem.ClaimMapViews
import Derived.JoinedTies
import Derived.KernelRfl
namespace Go.Proofs.Ytnjcmalmnofbmaa
/- THE CELL 'sum', in the pinned program and in every row, IS THE sha256 OF THE DUMP (.gsa) THAT YtnjcmalmnofbmaaProg.lean LOADS. Nothing in Lean hashes anything: it is a label: what it is worth is what the hold of that sum in a sandbox is worth. -/
noncomputable def Try.pinned : Pinned := { name := "ytnjcmalmnofbmaa", sum := "3a4d9b2227e40dea5115c681b28478c49f3f226cb4c2a9de62b7e5a9e3a988c6", checked := Try.checked }
namespace Rows
def none {H : Type} : Left H := { results := [], args := [] }

/-- 'laws.FnExactValidMachine': WHATEVER THE INPUT: true; the input reads as it did. -/
def fnExactValidMachineSpec : ChangeSpec := { name := "fnExactValidMachine", fn := fun _ => fun
  | [d] => { results := [.lit (.bool true)], args := [d] }
  | _ => none }
def fnExactValidMachineRow : OpenClaim := { program := "ytnjcmalmnofbmaa", sum := "3a4d9b2227e40dea5115c681b28478c49f3f226cb4c2a9de62b7e5a9e3a988c6", func := "loop.example/g01264/laws.FnExactValidMachine", spec := "fnExactValidMachine", unfollowed := true, recurses := true, apart := false }
def FnExactValidMachineSaid : Prop := fnExactValidMachineRow.holds Try.pinned (OpenSpec.ofChange fnExactValidMachineSpec)

/-- ITS FALSE NEIGHBOUR: 'it returns false'. Refute it at one input. -/
def fnExactValidMachineWrong : ChangeSpec := { name := "fnExactValidMachine", fn := fun _ => fun
  | [d] => { results := [.lit (.bool false)], args := [d] }
  | _ => none }
def FnExactValidMachineWrongFalsely : Prop := fnExactValidMachineRow.holds Try.pinned (OpenSpec.ofChange fnExactValidMachineWrong)

/-- 'laws.FnExactFlipMachine': WHATEVER THE INPUT: true; the input reads as it did. -/
def fnExactFlipMachineSpec : ChangeSpec := { name := "fnExactFlipMachine", fn := fun _ => fun
  | [d] => { results := [.lit (.bool true)], args := [d] }
  | _ => none }
def fnExactFlipMachineRow : OpenClaim := { program := "ytnjcmalmnofbmaa", sum := "3a4d9b2227e40dea5115c681b28478c49f3f226cb4c2a9de62b7e5a9e3a988c6", func := "loop.example/g01264/laws.FnExactFlipMachine", spec := "fnExactFlipMachine", unfollowed := true, recurses := true, apart := false }
def FnExactFlipMachineSaid : Prop := fnExactFlipMachineRow.holds Try.pinned (OpenSpec.ofChange fnExactFlipMachineSpec)

/-- ITS FALSE NEIGHBOUR: 'it returns false'. Refute it at one input. -/
def fnExactFlipMachineWrong : ChangeSpec := { name := "fnExactFlipMachine", fn := fun _ => fun
  | [d] => { results := [.lit (.bool false)], args := [d] }
  | _ => none }
def FnExactFlipMachineWrongFalsely : Prop := fnExactFlipMachineRow.holds Try.pinned (OpenSpec.ofChange fnExactFlipMachineWrong)

/-- 'laws.FnExactBackwardMachine': WHATEVER THE INPUT: true; the input reads as it did. -/
def fnExactBackwardMachineSpec : ChangeSpec := { name := "fnExactBackwardMachine", fn := fun _ => fun
  | [d] => { results := [.lit (.bool true)], args := [d] }
  | _ => none }
def fnExactBackwardMachineRow : OpenClaim := { program := "ytnjcmalmnofbmaa", sum := "3a4d9b2227e40dea5115c681b28478c49f3f226cb4c2a9de62b7e5a9e3a988c6", func := "loop.example/g01264/laws.FnExactBackwardMachine", spec := "fnExactBackwardMachine", unfollowed := true, recurses := true, apart := false }
def FnExactBackwardMachineSaid : Prop := fnExactBackwardMachineRow.holds Try.pinned (OpenSpec.ofChange fnExactBackwardMachineSpec)

/-- ITS FALSE NEIGHBOUR: 'it returns false'. Refute it at one input. -/
def fnExactBackwardMachineWrong : ChangeSpec := { name := "fnExactBackwardMachine", fn := fun _ => fun
  | [d] => { results := [.lit (.bool false)], args := [d] }
  | _ => none }
def FnExactBackwardMachineWrongFalsely : Prop := fnExactBackwardMachineRow.holds Try.pinned (OpenSpec.ofChange fnExactBackwardMachineWrong)

/-- 'laws.FnExactPenTime': WHATEVER THE INPUT: true; the input reads as it did. -/
def fnExactPenTimeSpec : ChangeSpec := { name := "fnExactPenTime", fn := fun _ => fun
  | [d] => { results := [.lit (.bool true)], args := [d] }
  | _ => none }
def fnExactPenTimeRow : OpenClaim := { program := "ytnjcmalmnofbmaa", sum := "3a4d9b2227e40dea5115c681b28478c49f3f226cb4c2a9de62b7e5a9e3a988c6", func := "loop.example/g01264/laws.FnExactPenTime", spec := "fnExactPenTime", unfollowed := true, recurses := true, apart := false }
def FnExactPenTimeSaid : Prop := fnExactPenTimeRow.holds Try.pinned (OpenSpec.ofChange fnExactPenTimeSpec)

/-- ITS FALSE NEIGHBOUR: 'it returns false'. Refute it at one input. -/
def fnExactPenTimeWrong : ChangeSpec := { name := "fnExactPenTime", fn := fun _ => fun
  | [d] => { results := [.lit (.bool false)], args := [d] }
  | _ => none }
def FnExactPenTimeWrongFalsely : Prop := fnExactPenTimeRow.holds Try.pinned (OpenSpec.ofChange fnExactPenTimeWrong)

/-- 'laws.FnExactReverseProgram': WHATEVER THE INPUT: true; the input reads as it did. -/
def fnExactReverseProgramSpec : ChangeSpec := { name := "fnExactReverseProgram", fn := fun _ => fun
  | [d] => { results := [.lit (.bool true)], args := [d] }
  | _ => none }
def fnExactReverseProgramRow : OpenClaim := { program := "ytnjcmalmnofbmaa", sum := "3a4d9b2227e40dea5115c681b28478c49f3f226cb4c2a9de62b7e5a9e3a988c6", func := "loop.example/g01264/laws.FnExactReverseProgram", spec := "fnExactReverseProgram", unfollowed := true, recurses := true, apart := false }
def FnExactReverseProgramSaid : Prop := fnExactReverseProgramRow.holds Try.pinned (OpenSpec.ofChange fnExactReverseProgramSpec)

/-- ITS FALSE NEIGHBOUR: 'it returns false'. Refute it at one input. -/
def fnExactReverseProgramWrong : ChangeSpec := { name := "fnExactReverseProgram", fn := fun _ => fun
  | [d] => { results := [.lit (.bool false)], args := [d] }
  | _ => none }
def FnExactReverseProgramWrongFalsely : Prop := fnExactReverseProgramRow.holds Try.pinned (OpenSpec.ofChange fnExactReverseProgramWrong)

/-- 'laws.FnExactJoinPrograms': WHATEVER THE INPUT: true; the input reads as it did. -/
def fnExactJoinProgramsSpec : ChangeSpec := { name := "fnExactJoinPrograms", fn := fun _ => fun
  | [d1, d2] => { results := [.lit (.bool true)], args := [d1, d2] }
  | _ => none }
def fnExactJoinProgramsRow : OpenClaim := { program := "ytnjcmalmnofbmaa", sum := "3a4d9b2227e40dea5115c681b28478c49f3f226cb4c2a9de62b7e5a9e3a988c6", func := "loop.example/g01264/laws.FnExactJoinPrograms", spec := "fnExactJoinPrograms", unfollowed := true, recurses := true, apart := false }
def FnExactJoinProgramsSaid : Prop := fnExactJoinProgramsRow.holds Try.pinned (OpenSpec.ofChange fnExactJoinProgramsSpec)

/-- ITS FALSE NEIGHBOUR: 'it returns false'. Refute it at one input. -/
def fnExactJoinProgramsWrong : ChangeSpec := { name := "fnExactJoinPrograms", fn := fun _ => fun
  | [d1, d2] => { results := [.lit (.bool false)], args := [d1, d2] }
  | _ => none }
def FnExactJoinProgramsWrongFalsely : Prop := fnExactJoinProgramsRow.holds Try.pinned (OpenSpec.ofChange fnExactJoinProgramsWrong)

/-- 'laws.FnEvents': WHATEVER THE INPUT: true; the input reads as it did. -/
def fnEventsSpec : ChangeSpec := { name := "fnEvents", fn := fun _ => fun
  | [d1, d2] => { results := [.lit (.bool true)], args := [d1, d2] }
  | _ => none }
def fnEventsRow : OpenClaim := { program := "ytnjcmalmnofbmaa", sum := "3a4d9b2227e40dea5115c681b28478c49f3f226cb4c2a9de62b7e5a9e3a988c6", func := "loop.example/g01264/laws.FnEvents", spec := "fnEvents", unfollowed := true, recurses := true, apart := false }
def FnEventsSaid : Prop := fnEventsRow.holds Try.pinned (OpenSpec.ofChange fnEventsSpec)

/-- ITS FALSE NEIGHBOUR: 'it returns false'. Refute it at one input. -/
def fnEventsWrong : ChangeSpec := { name := "fnEvents", fn := fun _ => fun
  | [d1, d2] => { results := [.lit (.bool false)], args := [d1, d2] }
  | _ => none }
def FnEventsWrongFalsely : Prop := fnEventsRow.holds Try.pinned (OpenSpec.ofChange fnEventsWrong)

/-- 'laws.FnExactLineOf': WHATEVER THE INPUT: true; the input reads as it did. -/
def fnExactLineOfSpec : ChangeSpec := { name := "fnExactLineOf", fn := fun _ => fun
  | [d1, d2] => { results := [.lit (.bool true)], args := [d1, d2] }
  | _ => none }
def fnExactLineOfRow : OpenClaim := { program := "ytnjcmalmnofbmaa", sum := "3a4d9b2227e40dea5115c681b28478c49f3f226cb4c2a9de62b7e5a9e3a988c6", func := "loop.example/g01264/laws.FnExactLineOf", spec := "fnExactLineOf", apart := false }
def FnExactLineOfSaid : Prop := fnExactLineOfRow.holds Try.pinned (OpenSpec.ofChange fnExactLineOfSpec)

/-- ITS FALSE NEIGHBOUR: 'it returns false'. Refute it at one input. -/
def fnExactLineOfWrong : ChangeSpec := { name := "fnExactLineOf", fn := fun _ => fun
  | [d1, d2] => { results := [.lit (.bool false)], args := [d1, d2] }
  | _ => none }
def FnExactLineOfWrongFalsely : Prop := fnExactLineOfRow.holds Try.pinned (OpenSpec.ofChange fnExactLineOfWrong)

/-- 'laws.FnExactMachineFor': WHATEVER THE INPUT: true; the input reads as it did. -/
def fnExactMachineForSpec : ChangeSpec := { name := "fnExactMachineFor", fn := fun _ => fun
  | [d1, d2] => { results := [.lit (.bool true)], args := [d1, d2] }
  | _ => none }
def fnExactMachineForRow : OpenClaim := { program := "ytnjcmalmnofbmaa", sum := "3a4d9b2227e40dea5115c681b28478c49f3f226cb4c2a9de62b7e5a9e3a988c6", func := "loop.example/g01264/laws.FnExactMachineFor", spec := "fnExactMachineFor", unfollowed := true, recurses := true, apart := false }
def FnExactMachineForSaid : Prop := fnExactMachineForRow.holds Try.pinned (OpenSpec.ofChange fnExactMachineForSpec)

/-- ITS FALSE NEIGHBOUR: 'it returns false'. Refute it at one input. -/
def fnExactMachineForWrong : ChangeSpec := { name := "fnExactMachineFor", fn := fun _ => fun
  | [d1, d2] => { results := [.lit (.bool false)], args := [d1, d2] }
  | _ => none }
def FnExactMachineForWrongFalsely : Prop := fnExactMachineForRow.holds Try.pinned (OpenSpec.ofChange fnExactMachineForWrong)

/-- 'laws.FnExactLiftsOn': WHATEVER THE INPUT: true; the input reads as it did. -/
def fnExactLiftsOnSpec : ChangeSpec := { name := "fnExactLiftsOn", fn := fun _ => fun
  | [d1, d2] => { results := [.lit (.bool true)], args := [d1, d2] }
  | _ => none }
def fnExactLiftsOnRow : OpenClaim := { program := "ytnjcmalmnofbmaa", sum := "3a4d9b2227e40dea5115c681b28478c49f3f226cb4c2a9de62b7e5a9e3a988c6", func := "loop.example/g01264/laws.FnExactLiftsOn", spec := "fnExactLiftsOn", unfollowed := true, recurses := true, apart := false }
def FnExactLiftsOnSaid : Prop := fnExactLiftsOnRow.holds Try.pinned (OpenSpec.ofChange fnExactLiftsOnSpec)

/-- ITS FALSE NEIGHBOUR: 'it returns false'. Refute it at one input. -/
def fnExactLiftsOnWrong : ChangeSpec := { name := "fnExactLiftsOn", fn := fun _ => fun
  | [d1, d2] => { results := [.lit (.bool false)], args := [d1, d2] }
  | _ => none }
def FnExactLiftsOnWrongFalsely : Prop := fnExactLiftsOnRow.holds Try.pinned (OpenSpec.ofChange fnExactLiftsOnWrong)

/-- 'laws.FnExactCutAt': WHATEVER THE INPUT: true; the input reads as it did. -/
def fnExactCutAtSpec : ChangeSpec := { name := "fnExactCutAt", fn := fun _ => fun
  | [d1, d2, d3, d4] => { results := [.lit (.bool true)], args := [d1, d2, d3, d4] }
  | _ => none }
def fnExactCutAtRow : OpenClaim := { program := "ytnjcmalmnofbmaa", sum := "3a4d9b2227e40dea5115c681b28478c49f3f226cb4c2a9de62b7e5a9e3a988c6", func := "loop.example/g01264/laws.FnExactCutAt", spec := "fnExactCutAt", unfollowed := true, recurses := true, apart := false }
def FnExactCutAtSaid : Prop := fnExactCutAtRow.holds Try.pinned (OpenSpec.ofChange fnExactCutAtSpec)

/-- ITS FALSE NEIGHBOUR: 'it returns false'. Refute it at one input. -/
def fnExactCutAtWrong : ChangeSpec := { name := "fnExactCutAt", fn := fun _ => fun
  | [d1, d2, d3, d4] => { results := [.lit (.bool false)], args := [d1, d2, d3, d4] }
  | _ => none }
def FnExactCutAtWrongFalsely : Prop := fnExactCutAtRow.holds Try.pinned (OpenSpec.ofChange fnExactCutAtWrong)

/-- 'laws.FnExactMakeProfile': WHATEVER THE INPUT: true; the input reads as it did. -/
def fnExactMakeProfileSpec : ChangeSpec := { name := "fnExactMakeProfile", fn := fun _ => fun
  | [d] => { results := [.lit (.bool true)], args := [d] }
  | _ => none }
def fnExactMakeProfileRow : OpenClaim := { program := "ytnjcmalmnofbmaa", sum := "3a4d9b2227e40dea5115c681b28478c49f3f226cb4c2a9de62b7e5a9e3a988c6", func := "loop.example/g01264/laws.FnExactMakeProfile", spec := "fnExactMakeProfile", unfollowed := true, recurses := true, apart := false }
def FnExactMakeProfileSaid : Prop := fnExactMakeProfileRow.holds Try.pinned (OpenSpec.ofChange fnExactMakeProfileSpec)

/-- ITS FALSE NEIGHBOUR: 'it returns false'. Refute it at one input. -/
def fnExactMakeProfileWrong : ChangeSpec := { name := "fnExactMakeProfile", fn := fun _ => fun
  | [d] => { results := [.lit (.bool false)], args := [d] }
  | _ => none }
def FnExactMakeProfileWrongFalsely : Prop := fnExactMakeProfileRow.holds Try.pinned (OpenSpec.ofChange fnExactMakeProfileWrong)

/- THE SECOND FORM. 'bulk': how many values and letters a reading holds, each counted each time it is reached (what is shared counts as often as it is met; a slice's spare places count too). A statement '..UptoSaid' is the law's where the arguments, and the package variables that the reading takes, are together of bulk at most 1048576: NARROWER than '..Said'. Prove '..Said' where nothing that the law and all that it calls make is longer than what came in: it says more and counts as full. Else prove '..UptoSaid'. A law counts once. -/
mutual
def uptoBulk {H : Type} : DataW H → Nat
  | .lit (.string bytes) => bytes.length + 1
  | .lit _ => 1
  | .nil => 1
  | .ptr d => uptoBulk d + 1
  | .slice elems spare => uptoBulkAll elems + uptoBulkAll spare + 1
  | .agg parts => uptoBulkAll parts + 1
  | .iface _ d => uptoBulk d + 1
  | .map entries => uptoBulkEntries entries + 1
  | .held _ => 1
def uptoBulkAll {H : Type} : List (DataW H) → Nat
  | [] => 0
  | d :: r => uptoBulk d + uptoBulkAll r
def uptoBulkEntries {H : Type} : List (Lit × DataW H) → Nat
  | [] => 0
  | x :: r => uptoBulkEntry x + uptoBulkEntries r
def uptoBulkEntry {H : Type} : Lit × DataW H → Nat
  | (.string bytes, d) => bytes.length + uptoBulk d + 1
  | (_, d) => uptoBulk d + 1
 end
def uptoSmall : (H : Type) → List (DataW H) → Bool := fun _ ds => decide (uptoBulkAll ds ≤ 1048576)
def OpenSpec.upto (s : _root_.Go.ChangeSpec) : _root_.Go.OpenSpec := { _root_.Go.OpenSpec.ofChange s with cond := some uptoSmall }

/-- 'laws.FnExactValidMachine', WHERE WHAT IT READS IS OF BULK AT MOST 1048576: true; the input reads as it did. -/
def fnExactValidMachineUptoRow : OpenClaim := { program := "ytnjcmalmnofbmaa", sum := "3a4d9b2227e40dea5115c681b28478c49f3f226cb4c2a9de62b7e5a9e3a988c6", func := "loop.example/g01264/laws.FnExactValidMachine", spec := "fnExactValidMachine", unfollowed := true, recurses := true, apart := false, narrowed := true }
def FnExactValidMachineUptoSaid : Prop := fnExactValidMachineUptoRow.holds Try.pinned (OpenSpec.upto fnExactValidMachineSpec)

/-- 'laws.FnExactFlipMachine', WHERE WHAT IT READS IS OF BULK AT MOST 1048576: true; the input reads as it did. -/
def fnExactFlipMachineUptoRow : OpenClaim := { program := "ytnjcmalmnofbmaa", sum := "3a4d9b2227e40dea5115c681b28478c49f3f226cb4c2a9de62b7e5a9e3a988c6", func := "loop.example/g01264/laws.FnExactFlipMachine", spec := "fnExactFlipMachine", unfollowed := true, recurses := true, apart := false, narrowed := true }
def FnExactFlipMachineUptoSaid : Prop := fnExactFlipMachineUptoRow.holds Try.pinned (OpenSpec.upto fnExactFlipMachineSpec)

/-- 'laws.FnExactBackwardMachine', WHERE WHAT IT READS IS OF BULK AT MOST 1048576: true; the input reads as it did. -/
def fnExactBackwardMachineUptoRow : OpenClaim := { program := "ytnjcmalmnofbmaa", sum := "3a4d9b2227e40dea5115c681b28478c49f3f226cb4c2a9de62b7e5a9e3a988c6", func := "loop.example/g01264/laws.FnExactBackwardMachine", spec := "fnExactBackwardMachine", unfollowed := true, recurses := true, apart := false, narrowed := true }
def FnExactBackwardMachineUptoSaid : Prop := fnExactBackwardMachineUptoRow.holds Try.pinned (OpenSpec.upto fnExactBackwardMachineSpec)

/-- 'laws.FnExactPenTime', WHERE WHAT IT READS IS OF BULK AT MOST 1048576: true; the input reads as it did. -/
def fnExactPenTimeUptoRow : OpenClaim := { program := "ytnjcmalmnofbmaa", sum := "3a4d9b2227e40dea5115c681b28478c49f3f226cb4c2a9de62b7e5a9e3a988c6", func := "loop.example/g01264/laws.FnExactPenTime", spec := "fnExactPenTime", unfollowed := true, recurses := true, apart := false, narrowed := true }
def FnExactPenTimeUptoSaid : Prop := fnExactPenTimeUptoRow.holds Try.pinned (OpenSpec.upto fnExactPenTimeSpec)

/-- 'laws.FnExactReverseProgram', WHERE WHAT IT READS IS OF BULK AT MOST 1048576: true; the input reads as it did. -/
def fnExactReverseProgramUptoRow : OpenClaim := { program := "ytnjcmalmnofbmaa", sum := "3a4d9b2227e40dea5115c681b28478c49f3f226cb4c2a9de62b7e5a9e3a988c6", func := "loop.example/g01264/laws.FnExactReverseProgram", spec := "fnExactReverseProgram", unfollowed := true, recurses := true, apart := false, narrowed := true }
def FnExactReverseProgramUptoSaid : Prop := fnExactReverseProgramUptoRow.holds Try.pinned (OpenSpec.upto fnExactReverseProgramSpec)

/-- 'laws.FnExactJoinPrograms', WHERE WHAT IT READS IS OF BULK AT MOST 1048576: true; the input reads as it did. -/
def fnExactJoinProgramsUptoRow : OpenClaim := { program := "ytnjcmalmnofbmaa", sum := "3a4d9b2227e40dea5115c681b28478c49f3f226cb4c2a9de62b7e5a9e3a988c6", func := "loop.example/g01264/laws.FnExactJoinPrograms", spec := "fnExactJoinPrograms", unfollowed := true, recurses := true, apart := false, narrowed := true }
def FnExactJoinProgramsUptoSaid : Prop := fnExactJoinProgramsUptoRow.holds Try.pinned (OpenSpec.upto fnExactJoinProgramsSpec)

/-- 'laws.FnEvents', WHERE WHAT IT READS IS OF BULK AT MOST 1048576: true; the input reads as it did. -/
def fnEventsUptoRow : OpenClaim := { program := "ytnjcmalmnofbmaa", sum := "3a4d9b2227e40dea5115c681b28478c49f3f226cb4c2a9de62b7e5a9e3a988c6", func := "loop.example/g01264/laws.FnEvents", spec := "fnEvents", unfollowed := true, recurses := true, apart := false, narrowed := true }
def FnEventsUptoSaid : Prop := fnEventsUptoRow.holds Try.pinned (OpenSpec.upto fnEventsSpec)

/-- 'laws.FnExactLineOf', WHERE WHAT IT READS IS OF BULK AT MOST 1048576: true; the input reads as it did. -/
def fnExactLineOfUptoRow : OpenClaim := { program := "ytnjcmalmnofbmaa", sum := "3a4d9b2227e40dea5115c681b28478c49f3f226cb4c2a9de62b7e5a9e3a988c6", func := "loop.example/g01264/laws.FnExactLineOf", spec := "fnExactLineOf", apart := false, narrowed := true }
def FnExactLineOfUptoSaid : Prop := fnExactLineOfUptoRow.holds Try.pinned (OpenSpec.upto fnExactLineOfSpec)

/-- 'laws.FnExactMachineFor', WHERE WHAT IT READS IS OF BULK AT MOST 1048576: true; the input reads as it did. -/
def fnExactMachineForUptoRow : OpenClaim := { program := "ytnjcmalmnofbmaa", sum := "3a4d9b2227e40dea5115c681b28478c49f3f226cb4c2a9de62b7e5a9e3a988c6", func := "loop.example/g01264/laws.FnExactMachineFor", spec := "fnExactMachineFor", unfollowed := true, recurses := true, apart := false, narrowed := true }
def FnExactMachineForUptoSaid : Prop := fnExactMachineForUptoRow.holds Try.pinned (OpenSpec.upto fnExactMachineForSpec)

/-- 'laws.FnExactLiftsOn', WHERE WHAT IT READS IS OF BULK AT MOST 1048576: true; the input reads as it did. -/
def fnExactLiftsOnUptoRow : OpenClaim := { program := "ytnjcmalmnofbmaa", sum := "3a4d9b2227e40dea5115c681b28478c49f3f226cb4c2a9de62b7e5a9e3a988c6", func := "loop.example/g01264/laws.FnExactLiftsOn", spec := "fnExactLiftsOn", unfollowed := true, recurses := true, apart := false, narrowed := true }
def FnExactLiftsOnUptoSaid : Prop := fnExactLiftsOnUptoRow.holds Try.pinned (OpenSpec.upto fnExactLiftsOnSpec)

/-- 'laws.FnExactCutAt', WHERE WHAT IT READS IS OF BULK AT MOST 1048576: true; the input reads as it did. -/
def fnExactCutAtUptoRow : OpenClaim := { program := "ytnjcmalmnofbmaa", sum := "3a4d9b2227e40dea5115c681b28478c49f3f226cb4c2a9de62b7e5a9e3a988c6", func := "loop.example/g01264/laws.FnExactCutAt", spec := "fnExactCutAt", unfollowed := true, recurses := true, apart := false, narrowed := true }
def FnExactCutAtUptoSaid : Prop := fnExactCutAtUptoRow.holds Try.pinned (OpenSpec.upto fnExactCutAtSpec)

/-- 'laws.FnExactMakeProfile', WHERE WHAT IT READS IS OF BULK AT MOST 1048576: true; the input reads as it did. -/
def fnExactMakeProfileUptoRow : OpenClaim := { program := "ytnjcmalmnofbmaa", sum := "3a4d9b2227e40dea5115c681b28478c49f3f226cb4c2a9de62b7e5a9e3a988c6", func := "loop.example/g01264/laws.FnExactMakeProfile", spec := "fnExactMakeProfile", unfollowed := true, recurses := true, apart := false, narrowed := true }
def FnExactMakeProfileUptoSaid : Prop := fnExactMakeProfileUptoRow.holds Try.pinned (OpenSpec.upto fnExactMakeProfileSpec)

end Rows
end Go.Proofs.Ytnjcmalmnofbmaa
