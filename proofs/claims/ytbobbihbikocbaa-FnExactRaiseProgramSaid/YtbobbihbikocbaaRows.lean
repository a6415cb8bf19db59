/-
  No cell of these rows narrows 'for every input' (looked for: loops, veiled, ifaces, maps, wideKeys, modest, calm, conditions, laid).
  DERIVED. THE GIVEN ROWS OF THIS SEAT. 12 by the template 'for every input the law returns true; each argument reads behind the call as it read before'; 0 by the template 'total and deterministic' (their statements: YtbobbihbikocbaaTotals.lean).
  GIVEN WITH THE SEED: the statements are not yours to turn. If you find one false, say at which input.
  Laid BY PROGRAM, IN A SANDBOX (cutbox-rows.mjs): the forced cells as the released guide's own fill.sh prints them over the translation 4e381cff47a1382a… (all of the seat's roots in one cut). By AI agents, Wed Nov 11 2026. No macro, syntax, notation, axiom, sorry.
-/
import Derived.Test.YtbobbihbikocbaaChecked
import GoSem.Claim
import GoSem.ClaimJoined
import GoSem.ClaimMapViews
import Derived.JoinedTies
import Derived.KernelRfl
namespace Go.Proofs.Ytbobbihbikocbaa
/- THE CELL 'sum', in the pinned program and in every row, IS THE sha256 OF THE DUMP (.gsa) THAT YtbobbihbikocbaaProg.lean LOADS. Nothing in Lean hashes anything: it is a label: what it is worth is what the hold of that sum in a sandbox is worth. -/
noncomputable def Try.pinned : Pinned := { name := "ytbobbihbikocbaa", sum := "4e381cff47a1382a967c6c8d991c5443248f542ff3c1a0fb2895b99b68059ce0", checked := Try.checked }
namespace Rows
def none {H : Type} : Left H := { results := [], args := [] }

/-- 'laws.FnExactHardestLanding': WHATEVER THE INPUT: true; the input reads as it did. -/
def fnExactHardestLandingSpec : ChangeSpec := { name := "fnExactHardestLanding", fn := fun _ => fun
  | [d1, d2, d3] => { results := [.lit (.bool true)], args := [d1, d2, d3] }
  | _ => none }
def fnExactHardestLandingRow : OpenClaim := { program := "ytbobbihbikocbaa", sum := "4e381cff47a1382a967c6c8d991c5443248f542ff3c1a0fb2895b99b68059ce0", func := "loop.example/g01264/laws.FnExactHardestLanding", spec := "fnExactHardestLanding", unfollowed := true, recurses := true, apart := false }
def FnExactHardestLandingSaid : Prop := fnExactHardestLandingRow.holds Try.pinned (OpenSpec.ofChange fnExactHardestLandingSpec)

/-- ITS FALSE NEIGHBOUR: 'it returns false'. Refute it at one input. -/
def fnExactHardestLandingWrong : ChangeSpec := { name := "fnExactHardestLanding", fn := fun _ => fun
  | [d1, d2, d3] => { results := [.lit (.bool false)], args := [d1, d2, d3] }
  | _ => none }
def FnExactHardestLandingWrongFalsely : Prop := fnExactHardestLandingRow.holds Try.pinned (OpenSpec.ofChange fnExactHardestLandingWrong)

/-- 'laws.FnExactReverseProgram': WHATEVER THE INPUT: true; the input reads as it did. -/
def fnExactReverseProgramSpec : ChangeSpec := { name := "fnExactReverseProgram", fn := fun _ => fun
  | [d] => { results := [.lit (.bool true)], args := [d] }
  | _ => none }
def fnExactReverseProgramRow : OpenClaim := { program := "ytbobbihbikocbaa", sum := "4e381cff47a1382a967c6c8d991c5443248f542ff3c1a0fb2895b99b68059ce0", func := "loop.example/g01264/laws.FnExactReverseProgram", spec := "fnExactReverseProgram", unfollowed := true, recurses := true, apart := false }
def FnExactReverseProgramSaid : Prop := fnExactReverseProgramRow.holds Try.pinned (OpenSpec.ofChange fnExactReverseProgramSpec)

/-- ITS FALSE NEIGHBOUR: 'it returns false'. Refute it at one input. -/
def fnExactReverseProgramWrong : ChangeSpec := { name := "fnExactReverseProgram", fn := fun _ => fun
  | [d] => { results := [.lit (.bool false)], args := [d] }
  | _ => none }
def FnExactReverseProgramWrongFalsely : Prop := fnExactReverseProgramRow.holds Try.pinned (OpenSpec.ofChange fnExactReverseProgramWrong)

/-- 'laws.FnExactMissedSteps': WHATEVER THE INPUT: true; the input reads as it did. -/
def fnExactMissedStepsSpec : ChangeSpec := { name := "fnExactMissedSteps", fn := fun _ => fun
  | [d1, d2] => { results := [.lit (.bool true)], args := [d1, d2] }
  | _ => none }
def fnExactMissedStepsRow : OpenClaim := { program := "ytbobbihbikocbaa", sum := "4e381cff47a1382a967c6c8d991c5443248f542ff3c1a0fb2895b99b68059ce0", func := "loop.example/g01264/laws.FnExactMissedSteps", spec := "fnExactMissedSteps", unfollowed := true, recurses := true, apart := false }
def FnExactMissedStepsSaid : Prop := fnExactMissedStepsRow.holds Try.pinned (OpenSpec.ofChange fnExactMissedStepsSpec)

/-- ITS FALSE NEIGHBOUR: 'it returns false'. Refute it at one input. -/
def fnExactMissedStepsWrong : ChangeSpec := { name := "fnExactMissedSteps", fn := fun _ => fun
  | [d1, d2] => { results := [.lit (.bool false)], args := [d1, d2] }
  | _ => none }
def FnExactMissedStepsWrongFalsely : Prop := fnExactMissedStepsRow.holds Try.pinned (OpenSpec.ofChange fnExactMissedStepsWrong)

/-- 'laws.FnExactFlipMachine': WHATEVER THE INPUT: true; the input reads as it did. -/
def fnExactFlipMachineSpec : ChangeSpec := { name := "fnExactFlipMachine", fn := fun _ => fun
  | [d] => { results := [.lit (.bool true)], args := [d] }
  | _ => none }
def fnExactFlipMachineRow : OpenClaim := { program := "ytbobbihbikocbaa", sum := "4e381cff47a1382a967c6c8d991c5443248f542ff3c1a0fb2895b99b68059ce0", func := "loop.example/g01264/laws.FnExactFlipMachine", spec := "fnExactFlipMachine", unfollowed := true, recurses := true, apart := false }
def FnExactFlipMachineSaid : Prop := fnExactFlipMachineRow.holds Try.pinned (OpenSpec.ofChange fnExactFlipMachineSpec)

/-- ITS FALSE NEIGHBOUR: 'it returns false'. Refute it at one input. -/
def fnExactFlipMachineWrong : ChangeSpec := { name := "fnExactFlipMachine", fn := fun _ => fun
  | [d] => { results := [.lit (.bool false)], args := [d] }
  | _ => none }
def FnExactFlipMachineWrongFalsely : Prop := fnExactFlipMachineRow.holds Try.pinned (OpenSpec.ofChange fnExactFlipMachineWrong)

/-- 'laws.FnExactRunsOf': WHATEVER THE INPUT: true; the input reads as it did. -/
def fnExactRunsOfSpec : ChangeSpec := { name := "fnExactRunsOf", fn := fun _ => fun
  | [d] => { results := [.lit (.bool true)], args := [d] }
  | _ => none }
def fnExactRunsOfRow : OpenClaim := { program := "ytbobbihbikocbaa", sum := "4e381cff47a1382a967c6c8d991c5443248f542ff3c1a0fb2895b99b68059ce0", func := "loop.example/g01264/laws.FnExactRunsOf", spec := "fnExactRunsOf", unfollowed := true, recurses := true, apart := false }
def FnExactRunsOfSaid : Prop := fnExactRunsOfRow.holds Try.pinned (OpenSpec.ofChange fnExactRunsOfSpec)

/-- ITS FALSE NEIGHBOUR: 'it returns false'. Refute it at one input. -/
def fnExactRunsOfWrong : ChangeSpec := { name := "fnExactRunsOf", fn := fun _ => fun
  | [d] => { results := [.lit (.bool false)], args := [d] }
  | _ => none }
def FnExactRunsOfWrongFalsely : Prop := fnExactRunsOfRow.holds Try.pinned (OpenSpec.ofChange fnExactRunsOfWrong)

/-- 'laws.FnExactRaiseProgram': WHATEVER THE INPUT: true; the input reads as it did. -/
def fnExactRaiseProgramSpec : ChangeSpec := { name := "fnExactRaiseProgram", fn := fun _ => fun
  | [d1, d2] => { results := [.lit (.bool true)], args := [d1, d2] }
  | _ => none }
def fnExactRaiseProgramRow : OpenClaim := { program := "ytbobbihbikocbaa", sum := "4e381cff47a1382a967c6c8d991c5443248f542ff3c1a0fb2895b99b68059ce0", func := "loop.example/g01264/laws.FnExactRaiseProgram", spec := "fnExactRaiseProgram", unfollowed := true, recurses := true, apart := false }
def FnExactRaiseProgramSaid : Prop := fnExactRaiseProgramRow.holds Try.pinned (OpenSpec.ofChange fnExactRaiseProgramSpec)

/-- ITS FALSE NEIGHBOUR: 'it returns false'. Refute it at one input. -/
def fnExactRaiseProgramWrong : ChangeSpec := { name := "fnExactRaiseProgram", fn := fun _ => fun
  | [d1, d2] => { results := [.lit (.bool false)], args := [d1, d2] }
  | _ => none }
def FnExactRaiseProgramWrongFalsely : Prop := fnExactRaiseProgramRow.holds Try.pinned (OpenSpec.ofChange fnExactRaiseProgramWrong)

/-- 'laws.FnExactCutAt': WHATEVER THE INPUT: true; the input reads as it did. -/
def fnExactCutAtSpec : ChangeSpec := { name := "fnExactCutAt", fn := fun _ => fun
  | [d1, d2, d3, d4] => { results := [.lit (.bool true)], args := [d1, d2, d3, d4] }
  | _ => none }
def fnExactCutAtRow : OpenClaim := { program := "ytbobbihbikocbaa", sum := "4e381cff47a1382a967c6c8d991c5443248f542ff3c1a0fb2895b99b68059ce0", func := "loop.example/g01264/laws.FnExactCutAt", spec := "fnExactCutAt", unfollowed := true, recurses := true, apart := false }
def FnExactCutAtSaid : Prop := fnExactCutAtRow.holds Try.pinned (OpenSpec.ofChange fnExactCutAtSpec)

/-- ITS FALSE NEIGHBOUR: 'it returns false'. Refute it at one input. -/
def fnExactCutAtWrong : ChangeSpec := { name := "fnExactCutAt", fn := fun _ => fun
  | [d1, d2, d3, d4] => { results := [.lit (.bool false)], args := [d1, d2, d3, d4] }
  | _ => none }
def FnExactCutAtWrongFalsely : Prop := fnExactCutAtRow.holds Try.pinned (OpenSpec.ofChange fnExactCutAtWrong)

/-- 'laws.FnExactPeriodOfAll': WHATEVER THE INPUT: true; the input reads as it did. -/
def fnExactPeriodOfAllSpec : ChangeSpec := { name := "fnExactPeriodOfAll", fn := fun _ => fun
  | [d] => { results := [.lit (.bool true)], args := [d] }
  | _ => none }
def fnExactPeriodOfAllRow : OpenClaim := { program := "ytbobbihbikocbaa", sum := "4e381cff47a1382a967c6c8d991c5443248f542ff3c1a0fb2895b99b68059ce0", func := "loop.example/g01264/laws.FnExactPeriodOfAll", spec := "fnExactPeriodOfAll", unfollowed := true, recurses := true, apart := false }
def FnExactPeriodOfAllSaid : Prop := fnExactPeriodOfAllRow.holds Try.pinned (OpenSpec.ofChange fnExactPeriodOfAllSpec)

/-- ITS FALSE NEIGHBOUR: 'it returns false'. Refute it at one input. -/
def fnExactPeriodOfAllWrong : ChangeSpec := { name := "fnExactPeriodOfAll", fn := fun _ => fun
  | [d] => { results := [.lit (.bool false)], args := [d] }
  | _ => none }
def FnExactPeriodOfAllWrongFalsely : Prop := fnExactPeriodOfAllRow.holds Try.pinned (OpenSpec.ofChange fnExactPeriodOfAllWrong)

/-- 'laws.FnExactMachineFor': WHATEVER THE INPUT: true; the input reads as it did. -/
def fnExactMachineForSpec : ChangeSpec := { name := "fnExactMachineFor", fn := fun _ => fun
  | [d1, d2] => { results := [.lit (.bool true)], args := [d1, d2] }
  | _ => none }
def fnExactMachineForRow : OpenClaim := { program := "ytbobbihbikocbaa", sum := "4e381cff47a1382a967c6c8d991c5443248f542ff3c1a0fb2895b99b68059ce0", func := "loop.example/g01264/laws.FnExactMachineFor", spec := "fnExactMachineFor", unfollowed := true, recurses := true, apart := false }
def FnExactMachineForSaid : Prop := fnExactMachineForRow.holds Try.pinned (OpenSpec.ofChange fnExactMachineForSpec)

/-- ITS FALSE NEIGHBOUR: 'it returns false'. Refute it at one input. -/
def fnExactMachineForWrong : ChangeSpec := { name := "fnExactMachineFor", fn := fun _ => fun
  | [d1, d2] => { results := [.lit (.bool false)], args := [d1, d2] }
  | _ => none }
def FnExactMachineForWrongFalsely : Prop := fnExactMachineForRow.holds Try.pinned (OpenSpec.ofChange fnExactMachineForWrong)

/-- 'laws.FnExactJoinPrograms': WHATEVER THE INPUT: true; the input reads as it did. -/
def fnExactJoinProgramsSpec : ChangeSpec := { name := "fnExactJoinPrograms", fn := fun _ => fun
  | [d1, d2] => { results := [.lit (.bool true)], args := [d1, d2] }
  | _ => none }
def fnExactJoinProgramsRow : OpenClaim := { program := "ytbobbihbikocbaa", sum := "4e381cff47a1382a967c6c8d991c5443248f542ff3c1a0fb2895b99b68059ce0", func := "loop.example/g01264/laws.FnExactJoinPrograms", spec := "fnExactJoinPrograms", unfollowed := true, recurses := true, apart := false }
def FnExactJoinProgramsSaid : Prop := fnExactJoinProgramsRow.holds Try.pinned (OpenSpec.ofChange fnExactJoinProgramsSpec)

/-- ITS FALSE NEIGHBOUR: 'it returns false'. Refute it at one input. -/
def fnExactJoinProgramsWrong : ChangeSpec := { name := "fnExactJoinPrograms", fn := fun _ => fun
  | [d1, d2] => { results := [.lit (.bool false)], args := [d1, d2] }
  | _ => none }
def FnExactJoinProgramsWrongFalsely : Prop := fnExactJoinProgramsRow.holds Try.pinned (OpenSpec.ofChange fnExactJoinProgramsWrong)

/-- 'laws.FnExactSmoothCam': WHATEVER THE INPUT: true; the input reads as it did. -/
def fnExactSmoothCamSpec : ChangeSpec := { name := "fnExactSmoothCam", fn := fun _ => fun
  | [d1, d2] => { results := [.lit (.bool true)], args := [d1, d2] }
  | _ => none }
def fnExactSmoothCamRow : OpenClaim := { program := "ytbobbihbikocbaa", sum := "4e381cff47a1382a967c6c8d991c5443248f542ff3c1a0fb2895b99b68059ce0", func := "loop.example/g01264/laws.FnExactSmoothCam", spec := "fnExactSmoothCam", unfollowed := true, recurses := true, apart := false }
def FnExactSmoothCamSaid : Prop := fnExactSmoothCamRow.holds Try.pinned (OpenSpec.ofChange fnExactSmoothCamSpec)

/-- ITS FALSE NEIGHBOUR: 'it returns false'. Refute it at one input. -/
def fnExactSmoothCamWrong : ChangeSpec := { name := "fnExactSmoothCam", fn := fun _ => fun
  | [d1, d2] => { results := [.lit (.bool false)], args := [d1, d2] }
  | _ => none }
def FnExactSmoothCamWrongFalsely : Prop := fnExactSmoothCamRow.holds Try.pinned (OpenSpec.ofChange fnExactSmoothCamWrong)

/-- 'laws.FnExactTipsFor': WHATEVER THE INPUT: true; the input reads as it did. -/
def fnExactTipsForSpec : ChangeSpec := { name := "fnExactTipsFor", fn := fun _ => fun
  | [d1, d2] => { results := [.lit (.bool true)], args := [d1, d2] }
  | _ => none }
def fnExactTipsForRow : OpenClaim := { program := "ytbobbihbikocbaa", sum := "4e381cff47a1382a967c6c8d991c5443248f542ff3c1a0fb2895b99b68059ce0", func := "loop.example/g01264/laws.FnExactTipsFor", spec := "fnExactTipsFor", unfollowed := true, recurses := true, apart := false }
def FnExactTipsForSaid : Prop := fnExactTipsForRow.holds Try.pinned (OpenSpec.ofChange fnExactTipsForSpec)

/-- ITS FALSE NEIGHBOUR: 'it returns false'. Refute it at one input. -/
def fnExactTipsForWrong : ChangeSpec := { name := "fnExactTipsFor", fn := fun _ => fun
  | [d1, d2] => { results := [.lit (.bool false)], args := [d1, d2] }
  | _ => none }
def FnExactTipsForWrongFalsely : Prop := fnExactTipsForRow.holds Try.pinned (OpenSpec.ofChange fnExactTipsForWrong)

/- THE SECOND FORM. 'bulk': how many values and letters a reading holds, each counted each time it is reached (what is shared counts as often as it is met; a slice's spare places count too). A statement '..UptoSaid' is the law's where the arguments, and the package variables that the reading takes, are together of bulk at most 1048576: NARROWER than '..Said'. Prove '..Said' where nothing that the law and all that it calls make is longer than what came in: it says more and counts as full. Else prove '..UptoSaid'. A law counts once. -/
mutual
def uptoBulk {H : Type} : DataW H → Nat
  | .lit (.string bytes) => bytes.length + 1
  | .lit _ => 1
  | .nil => 1
  | .ptr d => uptoBulk d + 1
  | .slice elems spare => uptoBulkAll elems + uptoBulkAll spare + 1
  | .agg parts => uptoBulkAll parts + 1
  | .iface _ d => uptoBulk d + 1
  | .map entries => uptoBulkEntries entries + 1
  | .held _ => 1
def uptoBulkAll {H : Type} : List (DataW H) → Nat
  | [] => 0
  | d :: r => uptoBulk d + uptoBulkAll r
def uptoBulkEntries {H : Type} : List (Lit × DataW H) → Nat
  | [] => 0
  | x :: r => uptoBulkEntry x + uptoBulkEntries r
def uptoBulkEntry {H : Type} : Lit × DataW H → Nat
  | (.string bytes, d) => bytes.length + uptoBulk d + 1
  | (_, d) => uptoBulk d + 1
 end
def uptoSmall : (H : Type) → List (DataW H) → Bool := fun _ ds => decide (uptoBulkAll ds ≤ 1048576)
def OpenSpec.upto (s : _root_.Go.ChangeSpec) : _root_.Go.OpenSpec := { _root_.Go.OpenSpec.ofChange s with cond := some uptoSmall }

/-- 'laws.FnExactHardestLanding', WHERE WHAT IT READS IS OF BULK AT MOST 1048576: true; the input reads as it did. -/
def fnExactHardestLandingUptoRow : OpenClaim := { program := "ytbobbihbikocbaa", sum := "4e381cff47a1382a967c6c8d991c5443248f542ff3c1a0fb2895b99b68059ce0", func := "loop.example/g01264/laws.FnExactHardestLanding", spec := "fnExactHardestLanding", unfollowed := true, recurses := true, apart := false, narrowed := true }
def FnExactHardestLandingUptoSaid : Prop := fnExactHardestLandingUptoRow.holds Try.pinned (OpenSpec.upto fnExactHardestLandingSpec)

/-- 'laws.FnExactReverseProgram', WHERE WHAT IT READS IS OF BULK AT MOST 1048576: true; the input reads as it did. -/
def fnExactReverseProgramUptoRow : OpenClaim := { program := "ytbobbihbikocbaa", sum := "4e381cff47a1382a967c6c8d991c5443248f542ff3c1a0fb2895b99b68059ce0", func := "loop.example/g01264/laws.FnExactReverseProgram", spec := "fnExactReverseProgram", unfollowed := true, recurses := true, apart := false, narrowed := true }
def FnExactReverseProgramUptoSaid : Prop := fnExactReverseProgramUptoRow.holds Try.pinned (OpenSpec.upto fnExactReverseProgramSpec)

/-- 'laws.FnExactMissedSteps', WHERE WHAT IT READS IS OF BULK AT MOST 1048576: true; the input reads as it did. -/
def fnExactMissedStepsUptoRow : OpenClaim := { program := "ytbobbihbikocbaa", sum := "4e381cff47a1382a967c6c8d991c5443248f542ff3c1a0fb2895b99b68059ce0", func := "loop.example/g01264/laws.FnExactMissedSteps", spec := "fnExactMissedSteps", unfollowed := true, recurses := true, apart := false, narrowed := true }
def FnExactMissedStepsUptoSaid : Prop := fnExactMissedStepsUptoRow.holds Try.pinned (OpenSpec.upto fnExactMissedStepsSpec)

/-- 'laws.FnExactFlipMachine', WHERE WHAT IT READS IS OF BULK AT MOST 1048576: true; the input reads as it did. -/
def fnExactFlipMachineUptoRow : OpenClaim := { program := "ytbobbihbikocbaa", sum := "4e381cff47a1382a967c6c8d991c5443248f542ff3c1a0fb2895b99b68059ce0", func := "loop.example/g01264/laws.FnExactFlipMachine", spec := "fnExactFlipMachine", unfollowed := true, recurses := true, apart := false, narrowed := true }
def FnExactFlipMachineUptoSaid : Prop := fnExactFlipMachineUptoRow.holds Try.pinned (OpenSpec.upto fnExactFlipMachineSpec)

/-- 'laws.FnExactRunsOf', WHERE WHAT IT READS IS OF BULK AT MOST 1048576: true; the input reads as it did. -/
def fnExactRunsOfUptoRow : OpenClaim := { program := "ytbobbihbikocbaa", sum := "4e381cff47a1382a967c6c8d991c5443248f542ff3c1a0fb2895b99b68059ce0", func := "loop.example/g01264/laws.FnExactRunsOf", spec := "fnExactRunsOf", unfollowed := true, recurses := true, apart := false, narrowed := true }
def FnExactRunsOfUptoSaid : Prop := fnExactRunsOfUptoRow.holds Try.pinned (OpenSpec.upto fnExactRunsOfSpec)

/-- 'laws.FnExactRaiseProgram', WHERE WHAT IT READS IS OF BULK AT MOST 1048576: true; the input reads as it did. -/
def fnExactRaiseProgramUptoRow : OpenClaim := { program := "ytbobbihbikocbaa", sum := "4e381cff47a1382a967c6c8d991c5443248f542ff3c1a0fb2895b99b68059ce0", func := "loop.example/g01264/laws.FnExactRaiseProgram", spec := "fnExactRaiseProgram", unfollowed := true, recurses := true, apart := false, narrowed := true }
def FnExactRaiseProgramUptoSaid : Prop := fnExactRaiseProgramUptoRow.holds Try.pinned (OpenSpec.upto fnExactRaiseProgramSpec)

/-- 'laws.FnExactCutAt', WHERE WHAT IT READS IS OF BULK AT MOST 1048576: true; the input reads as it did. -/
def fnExactCutAtUptoRow : OpenClaim := { program := "ytbobbihbikocbaa", sum := "4e381cff47a1382a967c6c8d991c5443248f542ff3c1a0fb2895b99b68059ce0", func := "loop.example/g01264/laws.FnExactCutAt", spec := "fnExactCutAt", unfollowed := true, recurses := true, apart := false, narrowed := true }
def FnExactCutAtUptoSaid : Prop := fnExactCutAtUptoRow.holds Try.pinned (OpenSpec.upto fnExactCutAtSpec)

/-- 'laws.FnExactPeriodOfAll', WHERE WHAT IT READS IS OF BULK AT MOST 1048576: true; the input reads as it did. -/
def fnExactPeriodOfAllUptoRow : OpenClaim := { program := "ytbobbihbikocbaa", sum := "4e381cff47a1382a967c6c8d991c5443248f542ff3c1a0fb2895b99b68059ce0", func := "loop.example/g01264/laws.FnExactPeriodOfAll", spec := "fnExactPeriodOfAll", unfollowed := true, recurses := true, apart := false, narrowed := true }
def FnExactPeriodOfAllUptoSaid : Prop := fnExactPeriodOfAllUptoRow.holds Try.pinned (OpenSpec.upto fnExactPeriodOfAllSpec)

/-- 'laws.FnExactMachineFor', WHERE WHAT IT READS IS OF BULK AT MOST 1048576: true; the input reads as it did. -/
def fnExactMachineForUptoRow : OpenClaim := { program := "ytbobbihbikocbaa", sum := "4e381cff47a1382a967c6c8d991c5443248f542ff3c1a0fb2895b99b68059ce0", func := "loop.example/g01264/laws.FnExactMachineFor", spec := "fnExactMachineFor", unfollowed := true, recurses := true, apart := false, narrowed := true }
def FnExactMachineForUptoSaid : Prop := fnExactMachineForUptoRow.holds Try.pinned (OpenSpec.upto fnExactMachineForSpec)

/-- 'laws.FnExactJoinPrograms', WHERE WHAT IT READS IS OF BULK AT MOST 1048576: true; the input reads as it did. -/
def fnExactJoinProgramsUptoRow : OpenClaim := { program := "ytbobbihbikocbaa", sum := "4e381cff47a1382a967c6c8d991c5443248f542ff3c1a0fb2895b99b68059ce0", func := "loop.example/g01264/laws.FnExactJoinPrograms", spec := "fnExactJoinPrograms", unfollowed := true, recurses := true, apart := false, narrowed := true }
def FnExactJoinProgramsUptoSaid : Prop := fnExactJoinProgramsUptoRow.holds Try.pinned (OpenSpec.upto fnExactJoinProgramsSpec)

/-- 'laws.FnExactSmoothCam', WHERE WHAT IT READS IS OF BULK AT MOST 1048576: true; the input reads as it did. -/
def fnExactSmoothCamUptoRow : OpenClaim := { program := "ytbobbihbikocbaa", sum := "4e381cff47a1382a967c6c8d991c5443248f542ff3c1a0fb2895b99b68059ce0", func := "loop.example/g01264/laws.FnExactSmoothCam", spec := "fnExactSmoothCam", unfollowed := true, recurses := true, apart := false, narrowed := true }
def FnExactSmoothCamUptoSaid : Prop := fnExactSmoothCamUptoRow.holds Try.pinned (OpenSpec.upto fnExactSmoothCamSpec)

/-- 'laws.FnExactTipsFor', WHERE WHAT IT READS IS OF BULK AT MOST 1048576: true; the input reads as it did. -/
def fnExactTipsForUptoRow : OpenClaim := { program := "ytbobbihbikocbaa", sum := "4e381cff47a1382a967c6c8d991c5443248f542ff3c1a0fb2895b99b68059ce0", func := "loop.example/g01264/laws.FnExactTipsFor", spec := "fnExactTipsFor", unfollowed := true, recurses := true, apart := false, narrowed := true }
def FnExactTipsForUptoSaid : Prop := fnExactTipsForUptoRow.holds Try.pinned (OpenSpec.upto fnExactTipsForSpec)

end Rows
end Go.Proofs.Ytbobbihbikocbaa
