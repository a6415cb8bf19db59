/-
  No cell of these rows narrows 'for every input' (looked for: loops, veiled, ifaces, maps, wideKeys, modest, calm, conditions, laid).
  DERIVED. THE GIVEN ROWS OF THIS SEAT. 12 by the template 'for every input the law returns true; each argument reads behind the call as it read before'; 0 by the template 'total and deterministic' (their statements: YtmklaccobbkebabTotals.lean).
  GIVEN WITH THE SEED: the statements are not yours to turn. If you find one false, say at which input.
  Laid BY PROGRAM, IN A SANDBOX (cutbox-rows.mjs): the forced cells as the released guide's own fill.sh prints them over the translation 5b71b5c92c4dde76… (all of the seat's roots in one cut). By AI agents, Wed Nov 11 2026. No macro, syntax, notation, axiom, sorry.
-/
import Derived.Test.YtmklaccobbkebabChecked
import GoSem.Claim
import GoSem.ClaimJoined
import GoSem.ClaimMapViews
import Derived.JoinedTies
import Derived.KernelRfl
namespace Go.Proofs.Ytmklaccobbkebab
/- THE CELL 'sum', in the pinned program and in every row, IS THE sha256 OF THE DUMP (.gsa) THAT YtmklaccobbkebabProg.lean LOADS. Nothing in Lean hashes anything: it is a label: what it is worth is what the hold of that sum in a sandbox is worth. -/
noncomputable def Try.pinned : Pinned := { name := "ytmklaccobbkebab", sum := "5b71b5c92c4dde7649c44b4c058cdb6546e52d68ae41040b4bd07fe590d78217", checked := Try.checked }
namespace Rows
def none {H : Type} : Left H := { results := [], args := [] }

/-- 'laws.FnExactReachedCam': WHATEVER THE INPUT: true; the input reads as it did. -/
def fnExactReachedCamSpec : ChangeSpec := { name := "fnExactReachedCam", fn := fun _ => fun
  | [d1, d2] => { results := [.lit (.bool true)], args := [d1, d2] }
  | _ => none }
def fnExactReachedCamRow : OpenClaim := { program := "ytmklaccobbkebab", sum := "5b71b5c92c4dde7649c44b4c058cdb6546e52d68ae41040b4bd07fe590d78217", func := "loop.example/g01264/laws.FnExactReachedCam", spec := "fnExactReachedCam", unfollowed := true, recurses := true, apart := false }
def FnExactReachedCamSaid : Prop := fnExactReachedCamRow.holds Try.pinned (OpenSpec.ofChange fnExactReachedCamSpec)

/-- ITS FALSE NEIGHBOUR: 'it returns false'. Refute it at one input. -/
def fnExactReachedCamWrong : ChangeSpec := { name := "fnExactReachedCam", fn := fun _ => fun
  | [d1, d2] => { results := [.lit (.bool false)], args := [d1, d2] }
  | _ => none }
def FnExactReachedCamWrongFalsely : Prop := fnExactReachedCamRow.holds Try.pinned (OpenSpec.ofChange fnExactReachedCamWrong)

/-- 'laws.FnExactFlownSteps': WHATEVER THE INPUT: true; the input reads as it did. -/
def fnExactFlownStepsSpec : ChangeSpec := { name := "fnExactFlownSteps", fn := fun _ => fun
  | [d1, d2, d3] => { results := [.lit (.bool true)], args := [d1, d2, d3] }
  | _ => none }
def fnExactFlownStepsRow : OpenClaim := { program := "ytmklaccobbkebab", sum := "5b71b5c92c4dde7649c44b4c058cdb6546e52d68ae41040b4bd07fe590d78217", func := "loop.example/g01264/laws.FnExactFlownSteps", spec := "fnExactFlownSteps", unfollowed := true, recurses := true, apart := false }
def FnExactFlownStepsSaid : Prop := fnExactFlownStepsRow.holds Try.pinned (OpenSpec.ofChange fnExactFlownStepsSpec)

/-- ITS FALSE NEIGHBOUR: 'it returns false'. Refute it at one input. -/
def fnExactFlownStepsWrong : ChangeSpec := { name := "fnExactFlownSteps", fn := fun _ => fun
  | [d1, d2, d3] => { results := [.lit (.bool false)], args := [d1, d2, d3] }
  | _ => none }
def FnExactFlownStepsWrongFalsely : Prop := fnExactFlownStepsRow.holds Try.pinned (OpenSpec.ofChange fnExactFlownStepsWrong)

/-- 'laws.FnExactLeastTurn': WHATEVER THE INPUT: true; the input reads as it did. -/
def fnExactLeastTurnSpec : ChangeSpec := { name := "fnExactLeastTurn", fn := fun _ => fun
  | [d] => { results := [.lit (.bool true)], args := [d] }
  | _ => none }
def fnExactLeastTurnRow : OpenClaim := { program := "ytmklaccobbkebab", sum := "5b71b5c92c4dde7649c44b4c058cdb6546e52d68ae41040b4bd07fe590d78217", func := "loop.example/g01264/laws.FnExactLeastTurn", spec := "fnExactLeastTurn", unfollowed := true, recurses := true, apart := false }
def FnExactLeastTurnSaid : Prop := fnExactLeastTurnRow.holds Try.pinned (OpenSpec.ofChange fnExactLeastTurnSpec)

/-- ITS FALSE NEIGHBOUR: 'it returns false'. Refute it at one input. -/
def fnExactLeastTurnWrong : ChangeSpec := { name := "fnExactLeastTurn", fn := fun _ => fun
  | [d] => { results := [.lit (.bool false)], args := [d] }
  | _ => none }
def FnExactLeastTurnWrongFalsely : Prop := fnExactLeastTurnRow.holds Try.pinned (OpenSpec.ofChange fnExactLeastTurnWrong)

/-- 'laws.FnExactFitMotion': WHATEVER THE INPUT: true; the input reads as it did. -/
def fnExactFitMotionSpec : ChangeSpec := { name := "fnExactFitMotion", fn := fun _ => fun
  | [d1, d2, d3] => { results := [.lit (.bool true)], args := [d1, d2, d3] }
  | _ => none }
def fnExactFitMotionRow : OpenClaim := { program := "ytmklaccobbkebab", sum := "5b71b5c92c4dde7649c44b4c058cdb6546e52d68ae41040b4bd07fe590d78217", func := "loop.example/g01264/laws.FnExactFitMotion", spec := "fnExactFitMotion", unfollowed := true, recurses := true, apart := false }
def FnExactFitMotionSaid : Prop := fnExactFitMotionRow.holds Try.pinned (OpenSpec.ofChange fnExactFitMotionSpec)

/-- ITS FALSE NEIGHBOUR: 'it returns false'. Refute it at one input. -/
def fnExactFitMotionWrong : ChangeSpec := { name := "fnExactFitMotion", fn := fun _ => fun
  | [d1, d2, d3] => { results := [.lit (.bool false)], args := [d1, d2, d3] }
  | _ => none }
def FnExactFitMotionWrongFalsely : Prop := fnExactFitMotionRow.holds Try.pinned (OpenSpec.ofChange fnExactFitMotionWrong)

/-- 'laws.FnExactTurnsLike': WHATEVER THE INPUT: true; the input reads as it did. -/
def fnExactTurnsLikeSpec : ChangeSpec := { name := "fnExactTurnsLike", fn := fun _ => fun
  | [d1, d2] => { results := [.lit (.bool true)], args := [d1, d2] }
  | _ => none }
def fnExactTurnsLikeRow : OpenClaim := { program := "ytmklaccobbkebab", sum := "5b71b5c92c4dde7649c44b4c058cdb6546e52d68ae41040b4bd07fe590d78217", func := "loop.example/g01264/laws.FnExactTurnsLike", spec := "fnExactTurnsLike", unfollowed := true, recurses := true, apart := false }
def FnExactTurnsLikeSaid : Prop := fnExactTurnsLikeRow.holds Try.pinned (OpenSpec.ofChange fnExactTurnsLikeSpec)

/-- ITS FALSE NEIGHBOUR: 'it returns false'. Refute it at one input. -/
def fnExactTurnsLikeWrong : ChangeSpec := { name := "fnExactTurnsLike", fn := fun _ => fun
  | [d1, d2] => { results := [.lit (.bool false)], args := [d1, d2] }
  | _ => none }
def FnExactTurnsLikeWrongFalsely : Prop := fnExactTurnsLikeRow.holds Try.pinned (OpenSpec.ofChange fnExactTurnsLikeWrong)

/-- 'laws.FnExactStepOn': WHATEVER THE INPUT: true; the input reads as it did. -/
def fnExactStepOnSpec : ChangeSpec := { name := "fnExactStepOn", fn := fun _ => fun
  | [d1, d2, d3] => { results := [.lit (.bool true)], args := [d1, d2, d3] }
  | _ => none }
def fnExactStepOnRow : OpenClaim := { program := "ytmklaccobbkebab", sum := "5b71b5c92c4dde7649c44b4c058cdb6546e52d68ae41040b4bd07fe590d78217", func := "loop.example/g01264/laws.FnExactStepOn", spec := "fnExactStepOn", unfollowed := true, recurses := true, apart := false }
def FnExactStepOnSaid : Prop := fnExactStepOnRow.holds Try.pinned (OpenSpec.ofChange fnExactStepOnSpec)

/-- ITS FALSE NEIGHBOUR: 'it returns false'. Refute it at one input. -/
def fnExactStepOnWrong : ChangeSpec := { name := "fnExactStepOn", fn := fun _ => fun
  | [d1, d2, d3] => { results := [.lit (.bool false)], args := [d1, d2, d3] }
  | _ => none }
def FnExactStepOnWrongFalsely : Prop := fnExactStepOnRow.holds Try.pinned (OpenSpec.ofChange fnExactStepOnWrong)

/-- 'laws.FnExactPutLifts': WHATEVER THE INPUT: true; the input reads as it did. -/
def fnExactPutLiftsSpec : ChangeSpec := { name := "fnExactPutLifts", fn := fun _ => fun
  | [d1, d2, d3] => { results := [.lit (.bool true)], args := [d1, d2, d3] }
  | _ => none }
def fnExactPutLiftsRow : OpenClaim := { program := "ytmklaccobbkebab", sum := "5b71b5c92c4dde7649c44b4c058cdb6546e52d68ae41040b4bd07fe590d78217", func := "loop.example/g01264/laws.FnExactPutLifts", spec := "fnExactPutLifts", unfollowed := true, recurses := true, apart := false }
def FnExactPutLiftsSaid : Prop := fnExactPutLiftsRow.holds Try.pinned (OpenSpec.ofChange fnExactPutLiftsSpec)

/-- ITS FALSE NEIGHBOUR: 'it returns false'. Refute it at one input. -/
def fnExactPutLiftsWrong : ChangeSpec := { name := "fnExactPutLifts", fn := fun _ => fun
  | [d1, d2, d3] => { results := [.lit (.bool false)], args := [d1, d2, d3] }
  | _ => none }
def FnExactPutLiftsWrongFalsely : Prop := fnExactPutLiftsRow.holds Try.pinned (OpenSpec.ofChange fnExactPutLiftsWrong)

/-- 'laws.FnExactSteepestSlope': WHATEVER THE INPUT: true; the input reads as it did. -/
def fnExactSteepestSlopeSpec : ChangeSpec := { name := "fnExactSteepestSlope", fn := fun _ => fun
  | [d1, d2] => { results := [.lit (.bool true)], args := [d1, d2] }
  | _ => none }
def fnExactSteepestSlopeRow : OpenClaim := { program := "ytmklaccobbkebab", sum := "5b71b5c92c4dde7649c44b4c058cdb6546e52d68ae41040b4bd07fe590d78217", func := "loop.example/g01264/laws.FnExactSteepestSlope", spec := "fnExactSteepestSlope", unfollowed := true, recurses := true, apart := false }
def FnExactSteepestSlopeSaid : Prop := fnExactSteepestSlopeRow.holds Try.pinned (OpenSpec.ofChange fnExactSteepestSlopeSpec)

/-- ITS FALSE NEIGHBOUR: 'it returns false'. Refute it at one input. -/
def fnExactSteepestSlopeWrong : ChangeSpec := { name := "fnExactSteepestSlope", fn := fun _ => fun
  | [d1, d2] => { results := [.lit (.bool false)], args := [d1, d2] }
  | _ => none }
def FnExactSteepestSlopeWrongFalsely : Prop := fnExactSteepestSlopeRow.holds Try.pinned (OpenSpec.ofChange fnExactSteepestSlopeWrong)

/-- 'laws.FnExactSmoothRound': WHATEVER THE INPUT: true; the input reads as it did. -/
def fnExactSmoothRoundSpec : ChangeSpec := { name := "fnExactSmoothRound", fn := fun _ => fun
  | [d1, d2] => { results := [.lit (.bool true)], args := [d1, d2] }
  | _ => none }
def fnExactSmoothRoundRow : OpenClaim := { program := "ytmklaccobbkebab", sum := "5b71b5c92c4dde7649c44b4c058cdb6546e52d68ae41040b4bd07fe590d78217", func := "loop.example/g01264/laws.FnExactSmoothRound", spec := "fnExactSmoothRound", unfollowed := true, recurses := true, apart := false }
def FnExactSmoothRoundSaid : Prop := fnExactSmoothRoundRow.holds Try.pinned (OpenSpec.ofChange fnExactSmoothRoundSpec)

/-- ITS FALSE NEIGHBOUR: 'it returns false'. Refute it at one input. -/
def fnExactSmoothRoundWrong : ChangeSpec := { name := "fnExactSmoothRound", fn := fun _ => fun
  | [d1, d2] => { results := [.lit (.bool false)], args := [d1, d2] }
  | _ => none }
def FnExactSmoothRoundWrongFalsely : Prop := fnExactSmoothRoundRow.holds Try.pinned (OpenSpec.ofChange fnExactSmoothRoundWrong)

/-- 'laws.FnExactCheckFill': WHATEVER THE INPUT: true; the input reads as it did. -/
def fnExactCheckFillSpec : ChangeSpec := { name := "fnExactCheckFill", fn := fun _ => fun
  | [d1, d2, d3, d4] => { results := [.lit (.bool true)], args := [d1, d2, d3, d4] }
  | _ => none }
def fnExactCheckFillRow : OpenClaim := { program := "ytmklaccobbkebab", sum := "5b71b5c92c4dde7649c44b4c058cdb6546e52d68ae41040b4bd07fe590d78217", func := "loop.example/g01264/laws.FnExactCheckFill", spec := "fnExactCheckFill", unfollowed := true, recurses := true, apart := false }
def FnExactCheckFillSaid : Prop := fnExactCheckFillRow.holds Try.pinned (OpenSpec.ofChange fnExactCheckFillSpec)

/-- ITS FALSE NEIGHBOUR: 'it returns false'. Refute it at one input. -/
def fnExactCheckFillWrong : ChangeSpec := { name := "fnExactCheckFill", fn := fun _ => fun
  | [d1, d2, d3, d4] => { results := [.lit (.bool false)], args := [d1, d2, d3, d4] }
  | _ => none }
def FnExactCheckFillWrongFalsely : Prop := fnExactCheckFillRow.holds Try.pinned (OpenSpec.ofChange fnExactCheckFillWrong)

/-- 'laws.FnExactPeriodOfShaft': WHATEVER THE INPUT: true; the input reads as it did. -/
def fnExactPeriodOfShaftSpec : ChangeSpec := { name := "fnExactPeriodOfShaft", fn := fun _ => fun
  | [d1, d2] => { results := [.lit (.bool true)], args := [d1, d2] }
  | _ => none }
def fnExactPeriodOfShaftRow : OpenClaim := { program := "ytmklaccobbkebab", sum := "5b71b5c92c4dde7649c44b4c058cdb6546e52d68ae41040b4bd07fe590d78217", func := "loop.example/g01264/laws.FnExactPeriodOfShaft", spec := "fnExactPeriodOfShaft", unfollowed := true, recurses := true, apart := false }
def FnExactPeriodOfShaftSaid : Prop := fnExactPeriodOfShaftRow.holds Try.pinned (OpenSpec.ofChange fnExactPeriodOfShaftSpec)

/-- ITS FALSE NEIGHBOUR: 'it returns false'. Refute it at one input. -/
def fnExactPeriodOfShaftWrong : ChangeSpec := { name := "fnExactPeriodOfShaft", fn := fun _ => fun
  | [d1, d2] => { results := [.lit (.bool false)], args := [d1, d2] }
  | _ => none }
def FnExactPeriodOfShaftWrongFalsely : Prop := fnExactPeriodOfShaftRow.holds Try.pinned (OpenSpec.ofChange fnExactPeriodOfShaftWrong)

/-- 'laws.FnExactPenTime': WHATEVER THE INPUT: true; the input reads as it did. -/
def fnExactPenTimeSpec : ChangeSpec := { name := "fnExactPenTime", fn := fun _ => fun
  | [d] => { results := [.lit (.bool true)], args := [d] }
  | _ => none }
def fnExactPenTimeRow : OpenClaim := { program := "ytmklaccobbkebab", sum := "5b71b5c92c4dde7649c44b4c058cdb6546e52d68ae41040b4bd07fe590d78217", func := "loop.example/g01264/laws.FnExactPenTime", spec := "fnExactPenTime", unfollowed := true, recurses := true, apart := false }
def FnExactPenTimeSaid : Prop := fnExactPenTimeRow.holds Try.pinned (OpenSpec.ofChange fnExactPenTimeSpec)

/-- ITS FALSE NEIGHBOUR: 'it returns false'. Refute it at one input. -/
def fnExactPenTimeWrong : ChangeSpec := { name := "fnExactPenTime", fn := fun _ => fun
  | [d] => { results := [.lit (.bool false)], args := [d] }
  | _ => none }
def FnExactPenTimeWrongFalsely : Prop := fnExactPenTimeRow.holds Try.pinned (OpenSpec.ofChange fnExactPenTimeWrong)

/- THE SECOND FORM. 'bulk': how many values and letters a reading holds, each counted each time it is reached (what is shared counts as often as it is met; a slice's spare places count too). A statement '..UptoSaid' is the law's where the arguments, and the package variables that the reading takes, are together of bulk at most 1048576: NARROWER than '..Said'. Prove '..Said' where nothing that the law and all that it calls make is longer than what came in: it says more and counts as full. Else prove '..UptoSaid'. A law counts once. -/
mutual
def uptoBulk {H : Type} : DataW H → Nat
  | .lit (.string bytes) => bytes.length + 1
  | .lit _ => 1
  | .nil => 1
  | .ptr d => uptoBulk d + 1
  | .slice elems spare => uptoBulkAll elems + uptoBulkAll spare + 1
  | .agg parts => uptoBulkAll parts + 1
  | .iface _ d => uptoBulk d + 1
  | .map entries => uptoBulkEntries entries + 1
  | .held _ => 1
def uptoBulkAll {H : Type} : List (DataW H) → Nat
  | [] => 0
  | d :: r => uptoBulk d + uptoBulkAll r
def uptoBulkEntries {H : Type} : List (Lit × DataW H) → Nat
  | [] => 0
  | x :: r => uptoBulkEntry x + uptoBulkEntries r
def uptoBulkEntry {H : Type} : Lit × DataW H → Nat
  | (.string bytes, d) => bytes.length + uptoBulk d + 1
  | (_, d) => uptoBulk d + 1
 end
def uptoSmall : (H : Type) → List (DataW H) → Bool := fun _ ds => decide (uptoBulkAll ds ≤ 1048576)
def OpenSpec.upto (s : _root_.Go.ChangeSpec) : _root_.Go.OpenSpec := { _root_.Go.OpenSpec.ofChange s with cond := some uptoSmall }

/-- 'laws.FnExactReachedCam', WHERE WHAT IT READS IS OF BULK AT MOST 1048576: true; the input reads as it did. -/
def fnExactReachedCamUptoRow : OpenClaim := { program := "ytmklaccobbkebab", sum := "5b71b5c92c4dde7649c44b4c058cdb6546e52d68ae41040b4bd07fe590d78217", func := "loop.example/g01264/laws.FnExactReachedCam", spec := "fnExactReachedCam", unfollowed := true, recurses := true, apart := false, narrowed := true }
def FnExactReachedCamUptoSaid : Prop := fnExactReachedCamUptoRow.holds Try.pinned (OpenSpec.upto fnExactReachedCamSpec)

/-- 'laws.FnExactFlownSteps', WHERE WHAT IT READS IS OF BULK AT MOST 1048576: true; the input reads as it did. -/
def fnExactFlownStepsUptoRow : OpenClaim := { program := "ytmklaccobbkebab", sum := "5b71b5c92c4dde7649c44b4c058cdb6546e52d68ae41040b4bd07fe590d78217", func := "loop.example/g01264/laws.FnExactFlownSteps", spec := "fnExactFlownSteps", unfollowed := true, recurses := true, apart := false, narrowed := true }
def FnExactFlownStepsUptoSaid : Prop := fnExactFlownStepsUptoRow.holds Try.pinned (OpenSpec.upto fnExactFlownStepsSpec)

/-- 'laws.FnExactLeastTurn', WHERE WHAT IT READS IS OF BULK AT MOST 1048576: true; the input reads as it did. -/
def fnExactLeastTurnUptoRow : OpenClaim := { program := "ytmklaccobbkebab", sum := "5b71b5c92c4dde7649c44b4c058cdb6546e52d68ae41040b4bd07fe590d78217", func := "loop.example/g01264/laws.FnExactLeastTurn", spec := "fnExactLeastTurn", unfollowed := true, recurses := true, apart := false, narrowed := true }
def FnExactLeastTurnUptoSaid : Prop := fnExactLeastTurnUptoRow.holds Try.pinned (OpenSpec.upto fnExactLeastTurnSpec)

/-- 'laws.FnExactFitMotion', WHERE WHAT IT READS IS OF BULK AT MOST 1048576: true; the input reads as it did. -/
def fnExactFitMotionUptoRow : OpenClaim := { program := "ytmklaccobbkebab", sum := "5b71b5c92c4dde7649c44b4c058cdb6546e52d68ae41040b4bd07fe590d78217", func := "loop.example/g01264/laws.FnExactFitMotion", spec := "fnExactFitMotion", unfollowed := true, recurses := true, apart := false, narrowed := true }
def FnExactFitMotionUptoSaid : Prop := fnExactFitMotionUptoRow.holds Try.pinned (OpenSpec.upto fnExactFitMotionSpec)

/-- 'laws.FnExactTurnsLike', WHERE WHAT IT READS IS OF BULK AT MOST 1048576: true; the input reads as it did. -/
def fnExactTurnsLikeUptoRow : OpenClaim := { program := "ytmklaccobbkebab", sum := "5b71b5c92c4dde7649c44b4c058cdb6546e52d68ae41040b4bd07fe590d78217", func := "loop.example/g01264/laws.FnExactTurnsLike", spec := "fnExactTurnsLike", unfollowed := true, recurses := true, apart := false, narrowed := true }
def FnExactTurnsLikeUptoSaid : Prop := fnExactTurnsLikeUptoRow.holds Try.pinned (OpenSpec.upto fnExactTurnsLikeSpec)

/-- 'laws.FnExactStepOn', WHERE WHAT IT READS IS OF BULK AT MOST 1048576: true; the input reads as it did. -/
def fnExactStepOnUptoRow : OpenClaim := { program := "ytmklaccobbkebab", sum := "5b71b5c92c4dde7649c44b4c058cdb6546e52d68ae41040b4bd07fe590d78217", func := "loop.example/g01264/laws.FnExactStepOn", spec := "fnExactStepOn", unfollowed := true, recurses := true, apart := false, narrowed := true }
def FnExactStepOnUptoSaid : Prop := fnExactStepOnUptoRow.holds Try.pinned (OpenSpec.upto fnExactStepOnSpec)

/-- 'laws.FnExactPutLifts', WHERE WHAT IT READS IS OF BULK AT MOST 1048576: true; the input reads as it did. -/
def fnExactPutLiftsUptoRow : OpenClaim := { program := "ytmklaccobbkebab", sum := "5b71b5c92c4dde7649c44b4c058cdb6546e52d68ae41040b4bd07fe590d78217", func := "loop.example/g01264/laws.FnExactPutLifts", spec := "fnExactPutLifts", unfollowed := true, recurses := true, apart := false, narrowed := true }
def FnExactPutLiftsUptoSaid : Prop := fnExactPutLiftsUptoRow.holds Try.pinned (OpenSpec.upto fnExactPutLiftsSpec)

/-- 'laws.FnExactSteepestSlope', WHERE WHAT IT READS IS OF BULK AT MOST 1048576: true; the input reads as it did. -/
def fnExactSteepestSlopeUptoRow : OpenClaim := { program := "ytmklaccobbkebab", sum := "5b71b5c92c4dde7649c44b4c058cdb6546e52d68ae41040b4bd07fe590d78217", func := "loop.example/g01264/laws.FnExactSteepestSlope", spec := "fnExactSteepestSlope", unfollowed := true, recurses := true, apart := false, narrowed := true }
def FnExactSteepestSlopeUptoSaid : Prop := fnExactSteepestSlopeUptoRow.holds Try.pinned (OpenSpec.upto fnExactSteepestSlopeSpec)

/-- 'laws.FnExactSmoothRound', WHERE WHAT IT READS IS OF BULK AT MOST 1048576: true; the input reads as it did. -/
def fnExactSmoothRoundUptoRow : OpenClaim := { program := "ytmklaccobbkebab", sum := "5b71b5c92c4dde7649c44b4c058cdb6546e52d68ae41040b4bd07fe590d78217", func := "loop.example/g01264/laws.FnExactSmoothRound", spec := "fnExactSmoothRound", unfollowed := true, recurses := true, apart := false, narrowed := true }
def FnExactSmoothRoundUptoSaid : Prop := fnExactSmoothRoundUptoRow.holds Try.pinned (OpenSpec.upto fnExactSmoothRoundSpec)

/-- 'laws.FnExactCheckFill', WHERE WHAT IT READS IS OF BULK AT MOST 1048576: true; the input reads as it did. -/
def fnExactCheckFillUptoRow : OpenClaim := { program := "ytmklaccobbkebab", sum := "5b71b5c92c4dde7649c44b4c058cdb6546e52d68ae41040b4bd07fe590d78217", func := "loop.example/g01264/laws.FnExactCheckFill", spec := "fnExactCheckFill", unfollowed := true, recurses := true, apart := false, narrowed := true }
def FnExactCheckFillUptoSaid : Prop := fnExactCheckFillUptoRow.holds Try.pinned (OpenSpec.upto fnExactCheckFillSpec)

/-- 'laws.FnExactPeriodOfShaft', WHERE WHAT IT READS IS OF BULK AT MOST 1048576: true; the input reads as it did. -/
def fnExactPeriodOfShaftUptoRow : OpenClaim := { program := "ytmklaccobbkebab", sum := "5b71b5c92c4dde7649c44b4c058cdb6546e52d68ae41040b4bd07fe590d78217", func := "loop.example/g01264/laws.FnExactPeriodOfShaft", spec := "fnExactPeriodOfShaft", unfollowed := true, recurses := true, apart := false, narrowed := true }
def FnExactPeriodOfShaftUptoSaid : Prop := fnExactPeriodOfShaftUptoRow.holds Try.pinned (OpenSpec.upto fnExactPeriodOfShaftSpec)

/-- 'laws.FnExactPenTime', WHERE WHAT IT READS IS OF BULK AT MOST 1048576: true; the input reads as it did. -/
def fnExactPenTimeUptoRow : OpenClaim := { program := "ytmklaccobbkebab", sum := "5b71b5c92c4dde7649c44b4c058cdb6546e52d68ae41040b4bd07fe590d78217", func := "loop.example/g01264/laws.FnExactPenTime", spec := "fnExactPenTime", unfollowed := true, recurses := true, apart := false, narrowed := true }
def FnExactPenTimeUptoSaid : Prop := fnExactPenTimeUptoRow.holds Try.pinned (OpenSpec.upto fnExactPenTimeSpec)

end Rows
end Go.Proofs.Ytmklaccobbkebab
