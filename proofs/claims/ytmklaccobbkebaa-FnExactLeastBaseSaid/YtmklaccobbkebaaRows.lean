/-
  No cell of these rows narrows 'for every input' (looked for: loops, veiled, ifaces, maps, wideKeys, modest, calm, conditions, laid).
  DERIVED. THE GIVEN ROWS OF THIS SEAT. 12 by the template 'for every input the law returns true; each argument reads behind the call as it read before'; 0 by the template 'total and deterministic' (their statements: YtmklaccobbkebaaTotals.lean).
  GIVEN WITH THE SEED: the statements are not yours to turn. If you find one false, say at which input.
  Laid BY PROGRAM, IN A SANDBOX (cutbox-rows.mjs): the forced cells as the released guide's own fill.sh prints them over the translation e03b364ad56e4433… (all of the seat's roots in one cut). By AI agents, Wed Nov 11 2026. No macro, syntax, notation, axiom, sorry.
-/
import Derived.Test.YtmklaccobbkebaaChecked
import GoSem.Claim
import GoSem.ClaimJoined
import GoSem.ClaimMapViews
import Derived.JoinedTies
import Derived.KernelRfl
namespace Go.Proofs.Ytmklaccobbkebaa
/- THE CELL 'sum', in the pinned program and in every row, IS THE sha256 OF THE DUMP (.gsa) THAT YtmklaccobbkebaaProg.lean LOADS. Nothing in Lean hashes anything: it is a label: what it is worth is what the hold of that sum in a sandbox is worth. -/
noncomputable def Try.pinned : Pinned := { name := "ytmklaccobbkebaa", sum := "e03b364ad56e4433c3579657791e03ab1d919c8593bfe2723a08007011e5348c", checked := Try.checked }
namespace Rows
def none {H : Type} : Left H := { results := [], args := [] }

/-- 'laws.FnEvents': WHATEVER THE INPUT: true; the input reads as it did. -/
def fnEventsSpec : ChangeSpec := { name := "fnEvents", fn := fun _ => fun
  | [d1, d2] => { results := [.lit (.bool true)], args := [d1, d2] }
  | _ => none }
def fnEventsRow : OpenClaim := { program := "ytmklaccobbkebaa", sum := "e03b364ad56e4433c3579657791e03ab1d919c8593bfe2723a08007011e5348c", func := "loop.example/g01264/laws.FnEvents", spec := "fnEvents", unfollowed := true, recurses := true, apart := false }
def FnEventsSaid : Prop := fnEventsRow.holds Try.pinned (OpenSpec.ofChange fnEventsSpec)

/-- ITS FALSE NEIGHBOUR: 'it returns false'. Refute it at one input. -/
def fnEventsWrong : ChangeSpec := { name := "fnEvents", fn := fun _ => fun
  | [d1, d2] => { results := [.lit (.bool false)], args := [d1, d2] }
  | _ => none }
def FnEventsWrongFalsely : Prop := fnEventsRow.holds Try.pinned (OpenSpec.ofChange fnEventsWrong)

/-- 'laws.FnExactTurnCam': WHATEVER THE INPUT: true; the input reads as it did. -/
def fnExactTurnCamSpec : ChangeSpec := { name := "fnExactTurnCam", fn := fun _ => fun
  | [d1, d2] => { results := [.lit (.bool true)], args := [d1, d2] }
  | _ => none }
def fnExactTurnCamRow : OpenClaim := { program := "ytmklaccobbkebaa", sum := "e03b364ad56e4433c3579657791e03ab1d919c8593bfe2723a08007011e5348c", func := "loop.example/g01264/laws.FnExactTurnCam", spec := "fnExactTurnCam", unfollowed := true, recurses := true, apart := false }
def FnExactTurnCamSaid : Prop := fnExactTurnCamRow.holds Try.pinned (OpenSpec.ofChange fnExactTurnCamSpec)

/-- ITS FALSE NEIGHBOUR: 'it returns false'. Refute it at one input. -/
def fnExactTurnCamWrong : ChangeSpec := { name := "fnExactTurnCam", fn := fun _ => fun
  | [d1, d2] => { results := [.lit (.bool false)], args := [d1, d2] }
  | _ => none }
def FnExactTurnCamWrongFalsely : Prop := fnExactTurnCamRow.holds Try.pinned (OpenSpec.ofChange fnExactTurnCamWrong)

/-- 'laws.FnExactValidShafts': WHATEVER THE INPUT: true; the input reads as it did. -/
def fnExactValidShaftsSpec : ChangeSpec := { name := "fnExactValidShafts", fn := fun _ => fun
  | [d] => { results := [.lit (.bool true)], args := [d] }
  | _ => none }
def fnExactValidShaftsRow : OpenClaim := { program := "ytmklaccobbkebaa", sum := "e03b364ad56e4433c3579657791e03ab1d919c8593bfe2723a08007011e5348c", func := "loop.example/g01264/laws.FnExactValidShafts", spec := "fnExactValidShafts", unfollowed := true, recurses := true, apart := false }
def FnExactValidShaftsSaid : Prop := fnExactValidShaftsRow.holds Try.pinned (OpenSpec.ofChange fnExactValidShaftsSpec)

/-- ITS FALSE NEIGHBOUR: 'it returns false'. Refute it at one input. -/
def fnExactValidShaftsWrong : ChangeSpec := { name := "fnExactValidShafts", fn := fun _ => fun
  | [d] => { results := [.lit (.bool false)], args := [d] }
  | _ => none }
def FnExactValidShaftsWrongFalsely : Prop := fnExactValidShaftsRow.holds Try.pinned (OpenSpec.ofChange fnExactValidShaftsWrong)

/-- 'laws.FnExactValidMachine': WHATEVER THE INPUT: true; the input reads as it did. -/
def fnExactValidMachineSpec : ChangeSpec := { name := "fnExactValidMachine", fn := fun _ => fun
  | [d] => { results := [.lit (.bool true)], args := [d] }
  | _ => none }
def fnExactValidMachineRow : OpenClaim := { program := "ytmklaccobbkebaa", sum := "e03b364ad56e4433c3579657791e03ab1d919c8593bfe2723a08007011e5348c", func := "loop.example/g01264/laws.FnExactValidMachine", spec := "fnExactValidMachine", unfollowed := true, recurses := true, apart := false }
def FnExactValidMachineSaid : Prop := fnExactValidMachineRow.holds Try.pinned (OpenSpec.ofChange fnExactValidMachineSpec)

/-- ITS FALSE NEIGHBOUR: 'it returns false'. Refute it at one input. -/
def fnExactValidMachineWrong : ChangeSpec := { name := "fnExactValidMachine", fn := fun _ => fun
  | [d] => { results := [.lit (.bool false)], args := [d] }
  | _ => none }
def FnExactValidMachineWrongFalsely : Prop := fnExactValidMachineRow.holds Try.pinned (OpenSpec.ofChange fnExactValidMachineWrong)

/-- 'laws.FnExactLetsGoAt': WHATEVER THE INPUT: true; the input reads as it did. -/
def fnExactLetsGoAtSpec : ChangeSpec := { name := "fnExactLetsGoAt", fn := fun _ => fun
  | [d1, d2] => { results := [.lit (.bool true)], args := [d1, d2] }
  | _ => none }
def fnExactLetsGoAtRow : OpenClaim := { program := "ytmklaccobbkebaa", sum := "e03b364ad56e4433c3579657791e03ab1d919c8593bfe2723a08007011e5348c", func := "loop.example/g01264/laws.FnExactLetsGoAt", spec := "fnExactLetsGoAt", unfollowed := true, recurses := true, apart := false }
def FnExactLetsGoAtSaid : Prop := fnExactLetsGoAtRow.holds Try.pinned (OpenSpec.ofChange fnExactLetsGoAtSpec)

/-- ITS FALSE NEIGHBOUR: 'it returns false'. Refute it at one input. -/
def fnExactLetsGoAtWrong : ChangeSpec := { name := "fnExactLetsGoAt", fn := fun _ => fun
  | [d1, d2] => { results := [.lit (.bool false)], args := [d1, d2] }
  | _ => none }
def FnExactLetsGoAtWrongFalsely : Prop := fnExactLetsGoAtRow.holds Try.pinned (OpenSpec.ofChange fnExactLetsGoAtWrong)

/-- 'laws.FnExactPeriodOf': WHATEVER THE INPUT: true; the input reads as it did. -/
def fnExactPeriodOfSpec : ChangeSpec := { name := "fnExactPeriodOf", fn := fun _ => fun
  | [d] => { results := [.lit (.bool true)], args := [d] }
  | _ => none }
def fnExactPeriodOfRow : OpenClaim := { program := "ytmklaccobbkebaa", sum := "e03b364ad56e4433c3579657791e03ab1d919c8593bfe2723a08007011e5348c", func := "loop.example/g01264/laws.FnExactPeriodOf", spec := "fnExactPeriodOf", unfollowed := true, recurses := true, apart := false }
def FnExactPeriodOfSaid : Prop := fnExactPeriodOfRow.holds Try.pinned (OpenSpec.ofChange fnExactPeriodOfSpec)

/-- ITS FALSE NEIGHBOUR: 'it returns false'. Refute it at one input. -/
def fnExactPeriodOfWrong : ChangeSpec := { name := "fnExactPeriodOf", fn := fun _ => fun
  | [d] => { results := [.lit (.bool false)], args := [d] }
  | _ => none }
def FnExactPeriodOfWrongFalsely : Prop := fnExactPeriodOfRow.holds Try.pinned (OpenSpec.ofChange fnExactPeriodOfWrong)

/-- 'laws.FnExactBlendCams': WHATEVER THE INPUT: true; the input reads as it did. -/
def fnExactBlendCamsSpec : ChangeSpec := { name := "fnExactBlendCams", fn := fun _ => fun
  | [d1, d2, d3] => { results := [.lit (.bool true)], args := [d1, d2, d3] }
  | _ => none }
def fnExactBlendCamsRow : OpenClaim := { program := "ytmklaccobbkebaa", sum := "e03b364ad56e4433c3579657791e03ab1d919c8593bfe2723a08007011e5348c", func := "loop.example/g01264/laws.FnExactBlendCams", spec := "fnExactBlendCams", unfollowed := true, recurses := true, apart := false }
def FnExactBlendCamsSaid : Prop := fnExactBlendCamsRow.holds Try.pinned (OpenSpec.ofChange fnExactBlendCamsSpec)

/-- ITS FALSE NEIGHBOUR: 'it returns false'. Refute it at one input. -/
def fnExactBlendCamsWrong : ChangeSpec := { name := "fnExactBlendCams", fn := fun _ => fun
  | [d1, d2, d3] => { results := [.lit (.bool false)], args := [d1, d2, d3] }
  | _ => none }
def FnExactBlendCamsWrongFalsely : Prop := fnExactBlendCamsRow.holds Try.pinned (OpenSpec.ofChange fnExactBlendCamsWrong)

/-- 'laws.FnExactSlopeAt': WHATEVER THE INPUT: true; the input reads as it did. -/
def fnExactSlopeAtSpec : ChangeSpec := { name := "fnExactSlopeAt", fn := fun _ => fun
  | [d1, d2, d3] => { results := [.lit (.bool true)], args := [d1, d2, d3] }
  | _ => none }
def fnExactSlopeAtRow : OpenClaim := { program := "ytmklaccobbkebaa", sum := "e03b364ad56e4433c3579657791e03ab1d919c8593bfe2723a08007011e5348c", func := "loop.example/g01264/laws.FnExactSlopeAt", spec := "fnExactSlopeAt", unfollowed := true, recurses := true, apart := false }
def FnExactSlopeAtSaid : Prop := fnExactSlopeAtRow.holds Try.pinned (OpenSpec.ofChange fnExactSlopeAtSpec)

/-- ITS FALSE NEIGHBOUR: 'it returns false'. Refute it at one input. -/
def fnExactSlopeAtWrong : ChangeSpec := { name := "fnExactSlopeAt", fn := fun _ => fun
  | [d1, d2, d3] => { results := [.lit (.bool false)], args := [d1, d2, d3] }
  | _ => none }
def FnExactSlopeAtWrongFalsely : Prop := fnExactSlopeAtRow.holds Try.pinned (OpenSpec.ofChange fnExactSlopeAtWrong)

/-- 'laws.FnExactMotionAt': WHATEVER THE INPUT: true; the input reads as it did. -/
def fnExactMotionAtSpec : ChangeSpec := { name := "fnExactMotionAt", fn := fun _ => fun
  | [d1, d2] => { results := [.lit (.bool true)], args := [d1, d2] }
  | _ => none }
def fnExactMotionAtRow : OpenClaim := { program := "ytmklaccobbkebaa", sum := "e03b364ad56e4433c3579657791e03ab1d919c8593bfe2723a08007011e5348c", func := "loop.example/g01264/laws.FnExactMotionAt", spec := "fnExactMotionAt", unfollowed := true, recurses := true, apart := false }
def FnExactMotionAtSaid : Prop := fnExactMotionAtRow.holds Try.pinned (OpenSpec.ofChange fnExactMotionAtSpec)

/-- ITS FALSE NEIGHBOUR: 'it returns false'. Refute it at one input. -/
def fnExactMotionAtWrong : ChangeSpec := { name := "fnExactMotionAt", fn := fun _ => fun
  | [d1, d2] => { results := [.lit (.bool false)], args := [d1, d2] }
  | _ => none }
def FnExactMotionAtWrongFalsely : Prop := fnExactMotionAtRow.holds Try.pinned (OpenSpec.ofChange fnExactMotionAtWrong)

/-- 'laws.FnExactLeastBase': WHATEVER THE INPUT: true; the input reads as it did. -/
def fnExactLeastBaseSpec : ChangeSpec := { name := "fnExactLeastBase", fn := fun _ => fun
  | [d1, d2] => { results := [.lit (.bool true)], args := [d1, d2] }
  | _ => none }
def fnExactLeastBaseRow : OpenClaim := { program := "ytmklaccobbkebaa", sum := "e03b364ad56e4433c3579657791e03ab1d919c8593bfe2723a08007011e5348c", func := "loop.example/g01264/laws.FnExactLeastBase", spec := "fnExactLeastBase", unfollowed := true, recurses := true, apart := false }
def FnExactLeastBaseSaid : Prop := fnExactLeastBaseRow.holds Try.pinned (OpenSpec.ofChange fnExactLeastBaseSpec)

/-- ITS FALSE NEIGHBOUR: 'it returns false'. Refute it at one input. -/
def fnExactLeastBaseWrong : ChangeSpec := { name := "fnExactLeastBase", fn := fun _ => fun
  | [d1, d2] => { results := [.lit (.bool false)], args := [d1, d2] }
  | _ => none }
def FnExactLeastBaseWrongFalsely : Prop := fnExactLeastBaseRow.holds Try.pinned (OpenSpec.ofChange fnExactLeastBaseWrong)

/-- 'laws.FnExactWidestFoot': WHATEVER THE INPUT: true; the input reads as it did. -/
def fnExactWidestFootSpec : ChangeSpec := { name := "fnExactWidestFoot", fn := fun _ => fun
  | [d] => { results := [.lit (.bool true)], args := [d] }
  | _ => none }
def fnExactWidestFootRow : OpenClaim := { program := "ytmklaccobbkebaa", sum := "e03b364ad56e4433c3579657791e03ab1d919c8593bfe2723a08007011e5348c", func := "loop.example/g01264/laws.FnExactWidestFoot", spec := "fnExactWidestFoot", unfollowed := true, recurses := true, apart := false }
def FnExactWidestFootSaid : Prop := fnExactWidestFootRow.holds Try.pinned (OpenSpec.ofChange fnExactWidestFootSpec)

/-- ITS FALSE NEIGHBOUR: 'it returns false'. Refute it at one input. -/
def fnExactWidestFootWrong : ChangeSpec := { name := "fnExactWidestFoot", fn := fun _ => fun
  | [d] => { results := [.lit (.bool false)], args := [d] }
  | _ => none }
def FnExactWidestFootWrongFalsely : Prop := fnExactWidestFootRow.holds Try.pinned (OpenSpec.ofChange fnExactWidestFootWrong)

/-- 'laws.FnExactFootCam': WHATEVER THE INPUT: true; the input reads as it did. -/
def fnExactFootCamSpec : ChangeSpec := { name := "fnExactFootCam", fn := fun _ => fun
  | [d1, d2] => { results := [.lit (.bool true)], args := [d1, d2] }
  | _ => none }
def fnExactFootCamRow : OpenClaim := { program := "ytmklaccobbkebaa", sum := "e03b364ad56e4433c3579657791e03ab1d919c8593bfe2723a08007011e5348c", func := "loop.example/g01264/laws.FnExactFootCam", spec := "fnExactFootCam", unfollowed := true, recurses := true, apart := false }
def FnExactFootCamSaid : Prop := fnExactFootCamRow.holds Try.pinned (OpenSpec.ofChange fnExactFootCamSpec)

/-- ITS FALSE NEIGHBOUR: 'it returns false'. Refute it at one input. -/
def fnExactFootCamWrong : ChangeSpec := { name := "fnExactFootCam", fn := fun _ => fun
  | [d1, d2] => { results := [.lit (.bool false)], args := [d1, d2] }
  | _ => none }
def FnExactFootCamWrongFalsely : Prop := fnExactFootCamRow.holds Try.pinned (OpenSpec.ofChange fnExactFootCamWrong)

/- THE SECOND FORM. 'bulk': how many values and letters a reading holds, each counted each time it is reached (what is shared counts as often as it is met; a slice's spare places count too). A statement '..UptoSaid' is the law's where the arguments, and the package variables that the reading takes, are together of bulk at most 1048576: NARROWER than '..Said'. Prove '..Said' where nothing that the law and all that it calls make is longer than what came in: it says more and counts as full. Else prove '..UptoSaid'. A law counts once. -/
mutual
def uptoBulk {H : Type} : DataW H → Nat
  | .lit (.string bytes) => bytes.length + 1
  | .lit _ => 1
  | .nil => 1
  | .ptr d => uptoBulk d + 1
  | .slice elems spare => uptoBulkAll elems + uptoBulkAll spare + 1
  | .agg parts => uptoBulkAll parts + 1
  | .iface _ d => uptoBulk d + 1
  | .map entries => uptoBulkEntries entries + 1
  | .held _ => 1
def uptoBulkAll {H : Type} : List (DataW H) → Nat
  | [] => 0
  | d :: r => uptoBulk d + uptoBulkAll r
def uptoBulkEntries {H : Type} : List (Lit × DataW H) → Nat
  | [] => 0
  | x :: r => uptoBulkEntry x + uptoBulkEntries r
def uptoBulkEntry {H : Type} : Lit × DataW H → Nat
  | (.string bytes, d) => bytes.length + uptoBulk d + 1
  | (_, d) => uptoBulk d + 1
 end
def uptoSmall : (H : Type) → List (DataW H) → Bool := fun _ ds => decide (uptoBulkAll ds ≤ 1048576)
def OpenSpec.upto (s : _root_.Go.ChangeSpec) : _root_.Go.OpenSpec := { _root_.Go.OpenSpec.ofChange s with cond := some uptoSmall }

/-- 'laws.FnEvents', WHERE WHAT IT READS IS OF BULK AT MOST 1048576: true; the input reads as it did. -/
def fnEventsUptoRow : OpenClaim := { program := "ytmklaccobbkebaa", sum := "e03b364ad56e4433c3579657791e03ab1d919c8593bfe2723a08007011e5348c", func := "loop.example/g01264/laws.FnEvents", spec := "fnEvents", unfollowed := true, recurses := true, apart := false, narrowed := true }
def FnEventsUptoSaid : Prop := fnEventsUptoRow.holds Try.pinned (OpenSpec.upto fnEventsSpec)

/-- 'laws.FnExactTurnCam', WHERE WHAT IT READS IS OF BULK AT MOST 1048576: true; the input reads as it did. -/
def fnExactTurnCamUptoRow : OpenClaim := { program := "ytmklaccobbkebaa", sum := "e03b364ad56e4433c3579657791e03ab1d919c8593bfe2723a08007011e5348c", func := "loop.example/g01264/laws.FnExactTurnCam", spec := "fnExactTurnCam", unfollowed := true, recurses := true, apart := false, narrowed := true }
def FnExactTurnCamUptoSaid : Prop := fnExactTurnCamUptoRow.holds Try.pinned (OpenSpec.upto fnExactTurnCamSpec)

/-- 'laws.FnExactValidShafts', WHERE WHAT IT READS IS OF BULK AT MOST 1048576: true; the input reads as it did. -/
def fnExactValidShaftsUptoRow : OpenClaim := { program := "ytmklaccobbkebaa", sum := "e03b364ad56e4433c3579657791e03ab1d919c8593bfe2723a08007011e5348c", func := "loop.example/g01264/laws.FnExactValidShafts", spec := "fnExactValidShafts", unfollowed := true, recurses := true, apart := false, narrowed := true }
def FnExactValidShaftsUptoSaid : Prop := fnExactValidShaftsUptoRow.holds Try.pinned (OpenSpec.upto fnExactValidShaftsSpec)

/-- 'laws.FnExactValidMachine', WHERE WHAT IT READS IS OF BULK AT MOST 1048576: true; the input reads as it did. -/
def fnExactValidMachineUptoRow : OpenClaim := { program := "ytmklaccobbkebaa", sum := "e03b364ad56e4433c3579657791e03ab1d919c8593bfe2723a08007011e5348c", func := "loop.example/g01264/laws.FnExactValidMachine", spec := "fnExactValidMachine", unfollowed := true, recurses := true, apart := false, narrowed := true }
def FnExactValidMachineUptoSaid : Prop := fnExactValidMachineUptoRow.holds Try.pinned (OpenSpec.upto fnExactValidMachineSpec)

/-- 'laws.FnExactLetsGoAt', WHERE WHAT IT READS IS OF BULK AT MOST 1048576: true; the input reads as it did. -/
def fnExactLetsGoAtUptoRow : OpenClaim := { program := "ytmklaccobbkebaa", sum := "e03b364ad56e4433c3579657791e03ab1d919c8593bfe2723a08007011e5348c", func := "loop.example/g01264/laws.FnExactLetsGoAt", spec := "fnExactLetsGoAt", unfollowed := true, recurses := true, apart := false, narrowed := true }
def FnExactLetsGoAtUptoSaid : Prop := fnExactLetsGoAtUptoRow.holds Try.pinned (OpenSpec.upto fnExactLetsGoAtSpec)

/-- 'laws.FnExactPeriodOf', WHERE WHAT IT READS IS OF BULK AT MOST 1048576: true; the input reads as it did. -/
def fnExactPeriodOfUptoRow : OpenClaim := { program := "ytmklaccobbkebaa", sum := "e03b364ad56e4433c3579657791e03ab1d919c8593bfe2723a08007011e5348c", func := "loop.example/g01264/laws.FnExactPeriodOf", spec := "fnExactPeriodOf", unfollowed := true, recurses := true, apart := false, narrowed := true }
def FnExactPeriodOfUptoSaid : Prop := fnExactPeriodOfUptoRow.holds Try.pinned (OpenSpec.upto fnExactPeriodOfSpec)

/-- 'laws.FnExactBlendCams', WHERE WHAT IT READS IS OF BULK AT MOST 1048576: true; the input reads as it did. -/
def fnExactBlendCamsUptoRow : OpenClaim := { program := "ytmklaccobbkebaa", sum := "e03b364ad56e4433c3579657791e03ab1d919c8593bfe2723a08007011e5348c", func := "loop.example/g01264/laws.FnExactBlendCams", spec := "fnExactBlendCams", unfollowed := true, recurses := true, apart := false, narrowed := true }
def FnExactBlendCamsUptoSaid : Prop := fnExactBlendCamsUptoRow.holds Try.pinned (OpenSpec.upto fnExactBlendCamsSpec)

/-- 'laws.FnExactSlopeAt', WHERE WHAT IT READS IS OF BULK AT MOST 1048576: true; the input reads as it did. -/
def fnExactSlopeAtUptoRow : OpenClaim := { program := "ytmklaccobbkebaa", sum := "e03b364ad56e4433c3579657791e03ab1d919c8593bfe2723a08007011e5348c", func := "loop.example/g01264/laws.FnExactSlopeAt", spec := "fnExactSlopeAt", unfollowed := true, recurses := true, apart := false, narrowed := true }
def FnExactSlopeAtUptoSaid : Prop := fnExactSlopeAtUptoRow.holds Try.pinned (OpenSpec.upto fnExactSlopeAtSpec)

/-- 'laws.FnExactMotionAt', WHERE WHAT IT READS IS OF BULK AT MOST 1048576: true; the input reads as it did. -/
def fnExactMotionAtUptoRow : OpenClaim := { program := "ytmklaccobbkebaa", sum := "e03b364ad56e4433c3579657791e03ab1d919c8593bfe2723a08007011e5348c", func := "loop.example/g01264/laws.FnExactMotionAt", spec := "fnExactMotionAt", unfollowed := true, recurses := true, apart := false, narrowed := true }
def FnExactMotionAtUptoSaid : Prop := fnExactMotionAtUptoRow.holds Try.pinned (OpenSpec.upto fnExactMotionAtSpec)

/-- 'laws.FnExactLeastBase', WHERE WHAT IT READS IS OF BULK AT MOST 1048576: true; the input reads as it did. -/
def fnExactLeastBaseUptoRow : OpenClaim := { program := "ytmklaccobbkebaa", sum := "e03b364ad56e4433c3579657791e03ab1d919c8593bfe2723a08007011e5348c", func := "loop.example/g01264/laws.FnExactLeastBase", spec := "fnExactLeastBase", unfollowed := true, recurses := true, apart := false, narrowed := true }
def FnExactLeastBaseUptoSaid : Prop := fnExactLeastBaseUptoRow.holds Try.pinned (OpenSpec.upto fnExactLeastBaseSpec)

/-- 'laws.FnExactWidestFoot', WHERE WHAT IT READS IS OF BULK AT MOST 1048576: true; the input reads as it did. -/
def fnExactWidestFootUptoRow : OpenClaim := { program := "ytmklaccobbkebaa", sum := "e03b364ad56e4433c3579657791e03ab1d919c8593bfe2723a08007011e5348c", func := "loop.example/g01264/laws.FnExactWidestFoot", spec := "fnExactWidestFoot", unfollowed := true, recurses := true, apart := false, narrowed := true }
def FnExactWidestFootUptoSaid : Prop := fnExactWidestFootUptoRow.holds Try.pinned (OpenSpec.upto fnExactWidestFootSpec)

/-- 'laws.FnExactFootCam', WHERE WHAT IT READS IS OF BULK AT MOST 1048576: true; the input reads as it did. -/
def fnExactFootCamUptoRow : OpenClaim := { program := "ytmklaccobbkebaa", sum := "e03b364ad56e4433c3579657791e03ab1d919c8593bfe2723a08007011e5348c", func := "loop.example/g01264/laws.FnExactFootCam", spec := "fnExactFootCam", unfollowed := true, recurses := true, apart := false, narrowed := true }
def FnExactFootCamUptoSaid : Prop := fnExactFootCamUptoRow.holds Try.pinned (OpenSpec.upto fnExactFootCamSpec)

end Rows
end Go.Proofs.Ytmklaccobbkebaa
