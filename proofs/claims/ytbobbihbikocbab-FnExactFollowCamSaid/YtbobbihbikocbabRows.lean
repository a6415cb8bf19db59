/-
  No cell of these rows narrows 'for every input' (looked for: loops, veiled, ifaces, maps, wideKeys, modest, calm, conditions, laid).
  DERIVED. THE GIVEN ROWS OF THIS SEAT. 12 by the template 'for every input the law returns true; each argument reads behind the call as it read before'; 0 by the template 'total and deterministic' (their statements: YtbobbihbikocbabTotals.lean).
  GIVEN WITH THE SEED: the statements are not yours to turn. If you find one false, say at which input.
  Laid BY PROGRAM, IN A SANDBOX (cutbox-rows.mjs): the forced cells as the released guide's own fill.sh prints them over the translation daac02aad2c6e516… (all of the seat's roots in one cut). By AI agents, Wed Nov 11 2026. No macro, syntax, notation, axiom, sorry.
-/
import Derived.Test.YtbobbihbikocbabChecked
import GoSem.Claim
import GoSem.ClaimJoined
import GoSem.ClaimMapViews
import Derived.JoinedTies
import Derived.KernelRfl
namespace Go.Proofs.Ytbobbihbikocbab
/- THE CELL 'sum', in the pinned program and in every row, IS THE sha256 OF THE DUMP (.gsa) THAT YtbobbihbikocbabProg.lean LOADS. Nothing in Lean hashes anything: it is a label: what it is worth is what the hold of that sum in a sandbox is worth. -/
noncomputable def Try.pinned : Pinned := { name := "ytbobbihbikocbab", sum := "daac02aad2c6e5169f2e99d2984048dec43841cca0d42426f5045ae0139404e2", checked := Try.checked }
namespace Rows
def none {H : Type} : Left H := { results := [], args := [] }

/-- 'laws.FnExactFastestMove': WHATEVER THE INPUT: true; the input reads as it did. -/
def fnExactFastestMoveSpec : ChangeSpec := { name := "fnExactFastestMove", fn := fun _ => fun
  | [d] => { results := [.lit (.bool true)], args := [d] }
  | _ => none }
def fnExactFastestMoveRow : OpenClaim := { program := "ytbobbihbikocbab", sum := "daac02aad2c6e5169f2e99d2984048dec43841cca0d42426f5045ae0139404e2", func := "loop.example/g01264/laws.FnExactFastestMove", spec := "fnExactFastestMove", unfollowed := true, recurses := true, apart := false }
def FnExactFastestMoveSaid : Prop := fnExactFastestMoveRow.holds Try.pinned (OpenSpec.ofChange fnExactFastestMoveSpec)

/-- ITS FALSE NEIGHBOUR: 'it returns false'. Refute it at one input. -/
def fnExactFastestMoveWrong : ChangeSpec := { name := "fnExactFastestMove", fn := fun _ => fun
  | [d] => { results := [.lit (.bool false)], args := [d] }
  | _ => none }
def FnExactFastestMoveWrongFalsely : Prop := fnExactFastestMoveRow.holds Try.pinned (OpenSpec.ofChange fnExactFastestMoveWrong)

/-- 'laws.FnExactFollowCam': WHATEVER THE INPUT: true; the input reads as it did. -/
def fnExactFollowCamSpec : ChangeSpec := { name := "fnExactFollowCam", fn := fun _ => fun
  | [d1, d2, d3] => { results := [.lit (.bool true)], args := [d1, d2, d3] }
  | _ => none }
def fnExactFollowCamRow : OpenClaim := { program := "ytbobbihbikocbab", sum := "daac02aad2c6e5169f2e99d2984048dec43841cca0d42426f5045ae0139404e2", func := "loop.example/g01264/laws.FnExactFollowCam", spec := "fnExactFollowCam", unfollowed := true, recurses := true, apart := false }
def FnExactFollowCamSaid : Prop := fnExactFollowCamRow.holds Try.pinned (OpenSpec.ofChange fnExactFollowCamSpec)

/-- ITS FALSE NEIGHBOUR: 'it returns false'. Refute it at one input. -/
def fnExactFollowCamWrong : ChangeSpec := { name := "fnExactFollowCam", fn := fun _ => fun
  | [d1, d2, d3] => { results := [.lit (.bool false)], args := [d1, d2, d3] }
  | _ => none }
def FnExactFollowCamWrongFalsely : Prop := fnExactFollowCamRow.holds Try.pinned (OpenSpec.ofChange fnExactFollowCamWrong)

/-- 'laws.FnExactWearCam': WHATEVER THE INPUT: true; the input reads as it did. -/
def fnExactWearCamSpec : ChangeSpec := { name := "fnExactWearCam", fn := fun _ => fun
  | [d1, d2, d3, d4] => { results := [.lit (.bool true)], args := [d1, d2, d3, d4] }
  | _ => none }
def fnExactWearCamRow : OpenClaim := { program := "ytbobbihbikocbab", sum := "daac02aad2c6e5169f2e99d2984048dec43841cca0d42426f5045ae0139404e2", func := "loop.example/g01264/laws.FnExactWearCam", spec := "fnExactWearCam", unfollowed := true, recurses := true, apart := false }
def FnExactWearCamSaid : Prop := fnExactWearCamRow.holds Try.pinned (OpenSpec.ofChange fnExactWearCamSpec)

/-- ITS FALSE NEIGHBOUR: 'it returns false'. Refute it at one input. -/
def fnExactWearCamWrong : ChangeSpec := { name := "fnExactWearCam", fn := fun _ => fun
  | [d1, d2, d3, d4] => { results := [.lit (.bool false)], args := [d1, d2, d3, d4] }
  | _ => none }
def FnExactWearCamWrongFalsely : Prop := fnExactWearCamRow.holds Try.pinned (OpenSpec.ofChange fnExactWearCamWrong)

/-- 'laws.FnExactTurnsToWear': WHATEVER THE INPUT: true; the input reads as it did. -/
def fnExactTurnsToWearSpec : ChangeSpec := { name := "fnExactTurnsToWear", fn := fun _ => fun
  | [d1, d2, d3, d4] => { results := [.lit (.bool true)], args := [d1, d2, d3, d4] }
  | _ => none }
def fnExactTurnsToWearRow : OpenClaim := { program := "ytbobbihbikocbab", sum := "daac02aad2c6e5169f2e99d2984048dec43841cca0d42426f5045ae0139404e2", func := "loop.example/g01264/laws.FnExactTurnsToWear", spec := "fnExactTurnsToWear", unfollowed := true, recurses := true, apart := false }
def FnExactTurnsToWearSaid : Prop := fnExactTurnsToWearRow.holds Try.pinned (OpenSpec.ofChange fnExactTurnsToWearSpec)

/-- ITS FALSE NEIGHBOUR: 'it returns false'. Refute it at one input. -/
def fnExactTurnsToWearWrong : ChangeSpec := { name := "fnExactTurnsToWear", fn := fun _ => fun
  | [d1, d2, d3, d4] => { results := [.lit (.bool false)], args := [d1, d2, d3, d4] }
  | _ => none }
def FnExactTurnsToWearWrongFalsely : Prop := fnExactTurnsToWearRow.holds Try.pinned (OpenSpec.ofChange fnExactTurnsToWearWrong)

/-- 'laws.FnExactWasteOf': WHATEVER THE INPUT: true; the input reads as it did. -/
def fnExactWasteOfSpec : ChangeSpec := { name := "fnExactWasteOf", fn := fun _ => fun
  | [d1, d2] => { results := [.lit (.bool true)], args := [d1, d2] }
  | _ => none }
def fnExactWasteOfRow : OpenClaim := { program := "ytbobbihbikocbab", sum := "daac02aad2c6e5169f2e99d2984048dec43841cca0d42426f5045ae0139404e2", func := "loop.example/g01264/laws.FnExactWasteOf", spec := "fnExactWasteOf", unfollowed := true, recurses := true, apart := false }
def FnExactWasteOfSaid : Prop := fnExactWasteOfRow.holds Try.pinned (OpenSpec.ofChange fnExactWasteOfSpec)

/-- ITS FALSE NEIGHBOUR: 'it returns false'. Refute it at one input. -/
def fnExactWasteOfWrong : ChangeSpec := { name := "fnExactWasteOf", fn := fun _ => fun
  | [d1, d2] => { results := [.lit (.bool false)], args := [d1, d2] }
  | _ => none }
def FnExactWasteOfWrongFalsely : Prop := fnExactWasteOfRow.holds Try.pinned (OpenSpec.ofChange fnExactWasteOfWrong)

/-- 'laws.FnExactLiftsOn': WHATEVER THE INPUT: true; the input reads as it did. -/
def fnExactLiftsOnSpec : ChangeSpec := { name := "fnExactLiftsOn", fn := fun _ => fun
  | [d1, d2] => { results := [.lit (.bool true)], args := [d1, d2] }
  | _ => none }
def fnExactLiftsOnRow : OpenClaim := { program := "ytbobbihbikocbab", sum := "daac02aad2c6e5169f2e99d2984048dec43841cca0d42426f5045ae0139404e2", func := "loop.example/g01264/laws.FnExactLiftsOn", spec := "fnExactLiftsOn", unfollowed := true, recurses := true, apart := false }
def FnExactLiftsOnSaid : Prop := fnExactLiftsOnRow.holds Try.pinned (OpenSpec.ofChange fnExactLiftsOnSpec)

/-- ITS FALSE NEIGHBOUR: 'it returns false'. Refute it at one input. -/
def fnExactLiftsOnWrong : ChangeSpec := { name := "fnExactLiftsOn", fn := fun _ => fun
  | [d1, d2] => { results := [.lit (.bool false)], args := [d1, d2] }
  | _ => none }
def FnExactLiftsOnWrongFalsely : Prop := fnExactLiftsOnRow.holds Try.pinned (OpenSpec.ofChange fnExactLiftsOnWrong)

/-- 'laws.FnExactDrawStrokes': WHATEVER THE INPUT: true; the input reads as it did. -/
def fnExactDrawStrokesSpec : ChangeSpec := { name := "fnExactDrawStrokes", fn := fun _ => fun
  | [d] => { results := [.lit (.bool true)], args := [d] }
  | _ => none }
def fnExactDrawStrokesRow : OpenClaim := { program := "ytbobbihbikocbab", sum := "daac02aad2c6e5169f2e99d2984048dec43841cca0d42426f5045ae0139404e2", func := "loop.example/g01264/laws.FnExactDrawStrokes", spec := "fnExactDrawStrokes", unfollowed := true, recurses := true, apart := false }
def FnExactDrawStrokesSaid : Prop := fnExactDrawStrokesRow.holds Try.pinned (OpenSpec.ofChange fnExactDrawStrokesSpec)

/-- ITS FALSE NEIGHBOUR: 'it returns false'. Refute it at one input. -/
def fnExactDrawStrokesWrong : ChangeSpec := { name := "fnExactDrawStrokes", fn := fun _ => fun
  | [d] => { results := [.lit (.bool false)], args := [d] }
  | _ => none }
def FnExactDrawStrokesWrongFalsely : Prop := fnExactDrawStrokesRow.holds Try.pinned (OpenSpec.ofChange fnExactDrawStrokesWrong)

/-- 'laws.FnExactBackwardMachine': WHATEVER THE INPUT: true; the input reads as it did. -/
def fnExactBackwardMachineSpec : ChangeSpec := { name := "fnExactBackwardMachine", fn := fun _ => fun
  | [d] => { results := [.lit (.bool true)], args := [d] }
  | _ => none }
def fnExactBackwardMachineRow : OpenClaim := { program := "ytbobbihbikocbab", sum := "daac02aad2c6e5169f2e99d2984048dec43841cca0d42426f5045ae0139404e2", func := "loop.example/g01264/laws.FnExactBackwardMachine", spec := "fnExactBackwardMachine", unfollowed := true, recurses := true, apart := false }
def FnExactBackwardMachineSaid : Prop := fnExactBackwardMachineRow.holds Try.pinned (OpenSpec.ofChange fnExactBackwardMachineSpec)

/-- ITS FALSE NEIGHBOUR: 'it returns false'. Refute it at one input. -/
def fnExactBackwardMachineWrong : ChangeSpec := { name := "fnExactBackwardMachine", fn := fun _ => fun
  | [d] => { results := [.lit (.bool false)], args := [d] }
  | _ => none }
def FnExactBackwardMachineWrongFalsely : Prop := fnExactBackwardMachineRow.holds Try.pinned (OpenSpec.ofChange fnExactBackwardMachineWrong)

/-- 'laws.FnExactLeftBy': WHATEVER THE INPUT: true; the input reads as it did. -/
def fnExactLeftBySpec : ChangeSpec := { name := "fnExactLeftBy", fn := fun _ => fun
  | [d1, d2] => { results := [.lit (.bool true)], args := [d1, d2] }
  | _ => none }
def fnExactLeftByRow : OpenClaim := { program := "ytbobbihbikocbab", sum := "daac02aad2c6e5169f2e99d2984048dec43841cca0d42426f5045ae0139404e2", func := "loop.example/g01264/laws.FnExactLeftBy", spec := "fnExactLeftBy", unfollowed := true, recurses := true, apart := false }
def FnExactLeftBySaid : Prop := fnExactLeftByRow.holds Try.pinned (OpenSpec.ofChange fnExactLeftBySpec)

/-- ITS FALSE NEIGHBOUR: 'it returns false'. Refute it at one input. -/
def fnExactLeftByWrong : ChangeSpec := { name := "fnExactLeftBy", fn := fun _ => fun
  | [d1, d2] => { results := [.lit (.bool false)], args := [d1, d2] }
  | _ => none }
def FnExactLeftByWrongFalsely : Prop := fnExactLeftByRow.holds Try.pinned (OpenSpec.ofChange fnExactLeftByWrong)

/-- 'laws.FnExactMakeProfile': WHATEVER THE INPUT: true; the input reads as it did. -/
def fnExactMakeProfileSpec : ChangeSpec := { name := "fnExactMakeProfile", fn := fun _ => fun
  | [d] => { results := [.lit (.bool true)], args := [d] }
  | _ => none }
def fnExactMakeProfileRow : OpenClaim := { program := "ytbobbihbikocbab", sum := "daac02aad2c6e5169f2e99d2984048dec43841cca0d42426f5045ae0139404e2", func := "loop.example/g01264/laws.FnExactMakeProfile", spec := "fnExactMakeProfile", unfollowed := true, recurses := true, apart := false }
def FnExactMakeProfileSaid : Prop := fnExactMakeProfileRow.holds Try.pinned (OpenSpec.ofChange fnExactMakeProfileSpec)

/-- ITS FALSE NEIGHBOUR: 'it returns false'. Refute it at one input. -/
def fnExactMakeProfileWrong : ChangeSpec := { name := "fnExactMakeProfile", fn := fun _ => fun
  | [d] => { results := [.lit (.bool false)], args := [d] }
  | _ => none }
def FnExactMakeProfileWrongFalsely : Prop := fnExactMakeProfileRow.holds Try.pinned (OpenSpec.ofChange fnExactMakeProfileWrong)

/-- 'laws.FnExactStopsOf': WHATEVER THE INPUT: true; the input reads as it did. -/
def fnExactStopsOfSpec : ChangeSpec := { name := "fnExactStopsOf", fn := fun _ => fun
  | [d] => { results := [.lit (.bool true)], args := [d] }
  | _ => none }
def fnExactStopsOfRow : OpenClaim := { program := "ytbobbihbikocbab", sum := "daac02aad2c6e5169f2e99d2984048dec43841cca0d42426f5045ae0139404e2", func := "loop.example/g01264/laws.FnExactStopsOf", spec := "fnExactStopsOf", unfollowed := true, recurses := true, apart := false }
def FnExactStopsOfSaid : Prop := fnExactStopsOfRow.holds Try.pinned (OpenSpec.ofChange fnExactStopsOfSpec)

/-- ITS FALSE NEIGHBOUR: 'it returns false'. Refute it at one input. -/
def fnExactStopsOfWrong : ChangeSpec := { name := "fnExactStopsOf", fn := fun _ => fun
  | [d] => { results := [.lit (.bool false)], args := [d] }
  | _ => none }
def FnExactStopsOfWrongFalsely : Prop := fnExactStopsOfRow.holds Try.pinned (OpenSpec.ofChange fnExactStopsOfWrong)

/-- 'laws.FnExactCheckReach': WHATEVER THE INPUT: true; the input reads as it did. -/
def fnExactCheckReachSpec : ChangeSpec := { name := "fnExactCheckReach", fn := fun _ => fun
  | [d1, d2, d3, d4, d5] => { results := [.lit (.bool true)], args := [d1, d2, d3, d4, d5] }
  | _ => none }
def fnExactCheckReachRow : OpenClaim := { program := "ytbobbihbikocbab", sum := "daac02aad2c6e5169f2e99d2984048dec43841cca0d42426f5045ae0139404e2", func := "loop.example/g01264/laws.FnExactCheckReach", spec := "fnExactCheckReach", unfollowed := true, recurses := true, apart := false }
def FnExactCheckReachSaid : Prop := fnExactCheckReachRow.holds Try.pinned (OpenSpec.ofChange fnExactCheckReachSpec)

/-- ITS FALSE NEIGHBOUR: 'it returns false'. Refute it at one input. -/
def fnExactCheckReachWrong : ChangeSpec := { name := "fnExactCheckReach", fn := fun _ => fun
  | [d1, d2, d3, d4, d5] => { results := [.lit (.bool false)], args := [d1, d2, d3, d4, d5] }
  | _ => none }
def FnExactCheckReachWrongFalsely : Prop := fnExactCheckReachRow.holds Try.pinned (OpenSpec.ofChange fnExactCheckReachWrong)

/- THE SECOND FORM. 'bulk': how many values and letters a reading holds, each counted each time it is reached (what is shared counts as often as it is met; a slice's spare places count too). A statement '..UptoSaid' is the law's where the arguments, and the package variables that the reading takes, are together of bulk at most 1048576: NARROWER than '..Said'. Prove '..Said' where nothing that the law and all that it calls make is longer than what came in: it says more and counts as full. Else prove '..UptoSaid'. A law counts once. -/
mutual
def uptoBulk {H : Type} : DataW H → Nat
  | .lit (.string bytes) => bytes.length + 1
  | .lit _ => 1
  | .nil => 1
  | .ptr d => uptoBulk d + 1
  | .slice elems spare => uptoBulkAll elems + uptoBulkAll spare + 1
  | .agg parts => uptoBulkAll parts + 1
  | .iface _ d => uptoBulk d + 1
  | .map entries => uptoBulkEntries entries + 1
  | .held _ => 1
def uptoBulkAll {H : Type} : List (DataW H) → Nat
  | [] => 0
  | d :: r => uptoBulk d + uptoBulkAll r
def uptoBulkEntries {H : Type} : List (Lit × DataW H) → Nat
  | [] => 0
  | x :: r => uptoBulkEntry x + uptoBulkEntries r
def uptoBulkEntry {H : Type} : Lit × DataW H → Nat
  | (.string bytes, d) => bytes.length + uptoBulk d + 1
  | (_, d) => uptoBulk d + 1
 end
def uptoSmall : (H : Type) → List (DataW H) → Bool := fun _ ds => decide (uptoBulkAll ds ≤ 1048576)
def OpenSpec.upto (s : _root_.Go.ChangeSpec) : _root_.Go.OpenSpec := { _root_.Go.OpenSpec.ofChange s with cond := some uptoSmall }

/-- 'laws.FnExactFastestMove', WHERE WHAT IT READS IS OF BULK AT MOST 1048576: true; the input reads as it did. -/
def fnExactFastestMoveUptoRow : OpenClaim := { program := "ytbobbihbikocbab", sum := "daac02aad2c6e5169f2e99d2984048dec43841cca0d42426f5045ae0139404e2", func := "loop.example/g01264/laws.FnExactFastestMove", spec := "fnExactFastestMove", unfollowed := true, recurses := true, apart := false, narrowed := true }
def FnExactFastestMoveUptoSaid : Prop := fnExactFastestMoveUptoRow.holds Try.pinned (OpenSpec.upto fnExactFastestMoveSpec)

/-- 'laws.FnExactFollowCam', WHERE WHAT IT READS IS OF BULK AT MOST 1048576: true; the input reads as it did. -/
def fnExactFollowCamUptoRow : OpenClaim := { program := "ytbobbihbikocbab", sum := "daac02aad2c6e5169f2e99d2984048dec43841cca0d42426f5045ae0139404e2", func := "loop.example/g01264/laws.FnExactFollowCam", spec := "fnExactFollowCam", unfollowed := true, recurses := true, apart := false, narrowed := true }
def FnExactFollowCamUptoSaid : Prop := fnExactFollowCamUptoRow.holds Try.pinned (OpenSpec.upto fnExactFollowCamSpec)

/-- 'laws.FnExactWearCam', WHERE WHAT IT READS IS OF BULK AT MOST 1048576: true; the input reads as it did. -/
def fnExactWearCamUptoRow : OpenClaim := { program := "ytbobbihbikocbab", sum := "daac02aad2c6e5169f2e99d2984048dec43841cca0d42426f5045ae0139404e2", func := "loop.example/g01264/laws.FnExactWearCam", spec := "fnExactWearCam", unfollowed := true, recurses := true, apart := false, narrowed := true }
def FnExactWearCamUptoSaid : Prop := fnExactWearCamUptoRow.holds Try.pinned (OpenSpec.upto fnExactWearCamSpec)

/-- 'laws.FnExactTurnsToWear', WHERE WHAT IT READS IS OF BULK AT MOST 1048576: true; the input reads as it did. -/
def fnExactTurnsToWearUptoRow : OpenClaim := { program := "ytbobbihbikocbab", sum := "daac02aad2c6e5169f2e99d2984048dec43841cca0d42426f5045ae0139404e2", func := "loop.example/g01264/laws.FnExactTurnsToWear", spec := "fnExactTurnsToWear", unfollowed := true, recurses := true, apart := false, narrowed := true }
def FnExactTurnsToWearUptoSaid : Prop := fnExactTurnsToWearUptoRow.holds Try.pinned (OpenSpec.upto fnExactTurnsToWearSpec)

/-- 'laws.FnExactWasteOf', WHERE WHAT IT READS IS OF BULK AT MOST 1048576: true; the input reads as it did. -/
def fnExactWasteOfUptoRow : OpenClaim := { program := "ytbobbihbikocbab", sum := "daac02aad2c6e5169f2e99d2984048dec43841cca0d42426f5045ae0139404e2", func := "loop.example/g01264/laws.FnExactWasteOf", spec := "fnExactWasteOf", unfollowed := true, recurses := true, apart := false, narrowed := true }
def FnExactWasteOfUptoSaid : Prop := fnExactWasteOfUptoRow.holds Try.pinned (OpenSpec.upto fnExactWasteOfSpec)

/-- 'laws.FnExactLiftsOn', WHERE WHAT IT READS IS OF BULK AT MOST 1048576: true; the input reads as it did. -/
def fnExactLiftsOnUptoRow : OpenClaim := { program := "ytbobbihbikocbab", sum := "daac02aad2c6e5169f2e99d2984048dec43841cca0d42426f5045ae0139404e2", func := "loop.example/g01264/laws.FnExactLiftsOn", spec := "fnExactLiftsOn", unfollowed := true, recurses := true, apart := false, narrowed := true }
def FnExactLiftsOnUptoSaid : Prop := fnExactLiftsOnUptoRow.holds Try.pinned (OpenSpec.upto fnExactLiftsOnSpec)

/-- 'laws.FnExactDrawStrokes', WHERE WHAT IT READS IS OF BULK AT MOST 1048576: true; the input reads as it did. -/
def fnExactDrawStrokesUptoRow : OpenClaim := { program := "ytbobbihbikocbab", sum := "daac02aad2c6e5169f2e99d2984048dec43841cca0d42426f5045ae0139404e2", func := "loop.example/g01264/laws.FnExactDrawStrokes", spec := "fnExactDrawStrokes", unfollowed := true, recurses := true, apart := false, narrowed := true }
def FnExactDrawStrokesUptoSaid : Prop := fnExactDrawStrokesUptoRow.holds Try.pinned (OpenSpec.upto fnExactDrawStrokesSpec)

/-- 'laws.FnExactBackwardMachine', WHERE WHAT IT READS IS OF BULK AT MOST 1048576: true; the input reads as it did. -/
def fnExactBackwardMachineUptoRow : OpenClaim := { program := "ytbobbihbikocbab", sum := "daac02aad2c6e5169f2e99d2984048dec43841cca0d42426f5045ae0139404e2", func := "loop.example/g01264/laws.FnExactBackwardMachine", spec := "fnExactBackwardMachine", unfollowed := true, recurses := true, apart := false, narrowed := true }
def FnExactBackwardMachineUptoSaid : Prop := fnExactBackwardMachineUptoRow.holds Try.pinned (OpenSpec.upto fnExactBackwardMachineSpec)

/-- 'laws.FnExactLeftBy', WHERE WHAT IT READS IS OF BULK AT MOST 1048576: true; the input reads as it did. -/
def fnExactLeftByUptoRow : OpenClaim := { program := "ytbobbihbikocbab", sum := "daac02aad2c6e5169f2e99d2984048dec43841cca0d42426f5045ae0139404e2", func := "loop.example/g01264/laws.FnExactLeftBy", spec := "fnExactLeftBy", unfollowed := true, recurses := true, apart := false, narrowed := true }
def FnExactLeftByUptoSaid : Prop := fnExactLeftByUptoRow.holds Try.pinned (OpenSpec.upto fnExactLeftBySpec)

/-- 'laws.FnExactMakeProfile', WHERE WHAT IT READS IS OF BULK AT MOST 1048576: true; the input reads as it did. -/
def fnExactMakeProfileUptoRow : OpenClaim := { program := "ytbobbihbikocbab", sum := "daac02aad2c6e5169f2e99d2984048dec43841cca0d42426f5045ae0139404e2", func := "loop.example/g01264/laws.FnExactMakeProfile", spec := "fnExactMakeProfile", unfollowed := true, recurses := true, apart := false, narrowed := true }
def FnExactMakeProfileUptoSaid : Prop := fnExactMakeProfileUptoRow.holds Try.pinned (OpenSpec.upto fnExactMakeProfileSpec)

/-- 'laws.FnExactStopsOf', WHERE WHAT IT READS IS OF BULK AT MOST 1048576: true; the input reads as it did. -/
def fnExactStopsOfUptoRow : OpenClaim := { program := "ytbobbihbikocbab", sum := "daac02aad2c6e5169f2e99d2984048dec43841cca0d42426f5045ae0139404e2", func := "loop.example/g01264/laws.FnExactStopsOf", spec := "fnExactStopsOf", unfollowed := true, recurses := true, apart := false, narrowed := true }
def FnExactStopsOfUptoSaid : Prop := fnExactStopsOfUptoRow.holds Try.pinned (OpenSpec.upto fnExactStopsOfSpec)

/-- 'laws.FnExactCheckReach', WHERE WHAT IT READS IS OF BULK AT MOST 1048576: true; the input reads as it did. -/
def fnExactCheckReachUptoRow : OpenClaim := { program := "ytbobbihbikocbab", sum := "daac02aad2c6e5169f2e99d2984048dec43841cca0d42426f5045ae0139404e2", func := "loop.example/g01264/laws.FnExactCheckReach", spec := "fnExactCheckReach", unfollowed := true, recurses := true, apart := false, narrowed := true }
def FnExactCheckReachUptoSaid : Prop := fnExactCheckReachUptoRow.holds Try.pinned (OpenSpec.upto fnExactCheckReachSpec)

end Rows
end Go.Proofs.Ytbobbihbikocbab
