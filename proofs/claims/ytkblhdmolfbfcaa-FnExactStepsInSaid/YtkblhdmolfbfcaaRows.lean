/-
  No cell of these rows narrows 'for every input' (looked for: loops, veiled, ifaces, maps, wideKeys, modest, calm, conditions, laid).
  DERIVED. THE GIVEN ROWS OF THIS SEAT. 6 by the template 'for every input the law returns true; each argument reads behind the call as it read before'; 0 by the template 'total and deterministic' (their statements: YtkblhdmolfbfcaaTotals.lean).
  GIVEN WITH THE SEED: the statements are not yours to turn. If you find one false, say at which input.
  Laid BY PROGRAM, IN A SANDBOX (cutbox-rows.mjs): the forced cells as the released guide's own fill.sh prints them over the translation 2d0937f06b1f9c76… (all of the seat's roots in one cut). By AI agents, Wed Nov 11 2026. No macro, syntax, notation, axiom, sorry.
-/
import Derived.Test.YtkblhdmolfbfcaaChecked
import GoSem.Claim
import GoSem.ClaimJoined
import GoSem.ClaimMapViews
import Derived.JoinedTies
import Derived.KernelRfl
namespace Go.Proofs.Ytkblhdmolfbfcaa
/- THE CELL 'sum', in the pinned program and in every row, IS THE sha256 OF THE DUMP (.gsa) THAT YtkblhdmolfbfcaaProg.lean LOADS. Nothing in Lean hashes anything: it is a label: what it is worth is what the hold of that sum in a sandbox is worth. -/
noncomputable def Try.pinned : Pinned := { name := "ytkblhdmolfbfcaa", sum := "2d0937f06b1f9c76a65a80eb3f7e09f106da745dd3bfc687153fb389e3c0efd0", checked := Try.checked }
namespace Rows
def none {H : Type} : Left H := { results := [], args := [] }

/-- 'laws.FnExactLineOf': WHATEVER THE INPUT: true; the input reads as it did. -/
def fnExactLineOfSpec : ChangeSpec := { name := "fnExactLineOf", fn := fun _ => fun
  | [d1, d2] => { results := [.lit (.bool true)], args := [d1, d2] }
  | _ => none }
def fnExactLineOfRow : OpenClaim := { program := "ytkblhdmolfbfcaa", sum := "2d0937f06b1f9c76a65a80eb3f7e09f106da745dd3bfc687153fb389e3c0efd0", func := "loop.example/g01264/laws.FnExactLineOf", spec := "fnExactLineOf", apart := false }
def FnExactLineOfSaid : Prop := fnExactLineOfRow.holds Try.pinned (OpenSpec.ofChange fnExactLineOfSpec)

/-- ITS FALSE NEIGHBOUR: 'it returns false'. Refute it at one input. -/
def fnExactLineOfWrong : ChangeSpec := { name := "fnExactLineOf", fn := fun _ => fun
  | [d1, d2] => { results := [.lit (.bool false)], args := [d1, d2] }
  | _ => none }
def FnExactLineOfWrongFalsely : Prop := fnExactLineOfRow.holds Try.pinned (OpenSpec.ofChange fnExactLineOfWrong)

/-- 'laws.FnExactLagCam': WHATEVER THE INPUT: true; the input reads as it did. -/
def fnExactLagCamSpec : ChangeSpec := { name := "fnExactLagCam", fn := fun _ => fun
  | [d1, d2] => { results := [.lit (.bool true)], args := [d1, d2] }
  | _ => none }
def fnExactLagCamRow : OpenClaim := { program := "ytkblhdmolfbfcaa", sum := "2d0937f06b1f9c76a65a80eb3f7e09f106da745dd3bfc687153fb389e3c0efd0", func := "loop.example/g01264/laws.FnExactLagCam", spec := "fnExactLagCam", unfollowed := true, recurses := true, apart := false }
def FnExactLagCamSaid : Prop := fnExactLagCamRow.holds Try.pinned (OpenSpec.ofChange fnExactLagCamSpec)

/-- ITS FALSE NEIGHBOUR: 'it returns false'. Refute it at one input. -/
def fnExactLagCamWrong : ChangeSpec := { name := "fnExactLagCam", fn := fun _ => fun
  | [d1, d2] => { results := [.lit (.bool false)], args := [d1, d2] }
  | _ => none }
def FnExactLagCamWrongFalsely : Prop := fnExactLagCamRow.holds Try.pinned (OpenSpec.ofChange fnExactLagCamWrong)

/-- 'laws.FnExactCountOver': WHATEVER THE INPUT: true; the input reads as it did. -/
def fnExactCountOverSpec : ChangeSpec := { name := "fnExactCountOver", fn := fun _ => fun
  | [d1, d2] => { results := [.lit (.bool true)], args := [d1, d2] }
  | _ => none }
def fnExactCountOverRow : OpenClaim := { program := "ytkblhdmolfbfcaa", sum := "2d0937f06b1f9c76a65a80eb3f7e09f106da745dd3bfc687153fb389e3c0efd0", func := "loop.example/g01264/laws.FnExactCountOver", spec := "fnExactCountOver", unfollowed := true, recurses := true, apart := false }
def FnExactCountOverSaid : Prop := fnExactCountOverRow.holds Try.pinned (OpenSpec.ofChange fnExactCountOverSpec)

/-- ITS FALSE NEIGHBOUR: 'it returns false'. Refute it at one input. -/
def fnExactCountOverWrong : ChangeSpec := { name := "fnExactCountOver", fn := fun _ => fun
  | [d1, d2] => { results := [.lit (.bool false)], args := [d1, d2] }
  | _ => none }
def FnExactCountOverWrongFalsely : Prop := fnExactCountOverRow.holds Try.pinned (OpenSpec.ofChange fnExactCountOverWrong)

/-- 'laws.FnExactAddCams': WHATEVER THE INPUT: true; the input reads as it did. -/
def fnExactAddCamsSpec : ChangeSpec := { name := "fnExactAddCams", fn := fun _ => fun
  | [d1, d2] => { results := [.lit (.bool true)], args := [d1, d2] }
  | _ => none }
def fnExactAddCamsRow : OpenClaim := { program := "ytkblhdmolfbfcaa", sum := "2d0937f06b1f9c76a65a80eb3f7e09f106da745dd3bfc687153fb389e3c0efd0", func := "loop.example/g01264/laws.FnExactAddCams", spec := "fnExactAddCams", unfollowed := true, recurses := true, apart := false }
def FnExactAddCamsSaid : Prop := fnExactAddCamsRow.holds Try.pinned (OpenSpec.ofChange fnExactAddCamsSpec)

/-- ITS FALSE NEIGHBOUR: 'it returns false'. Refute it at one input. -/
def fnExactAddCamsWrong : ChangeSpec := { name := "fnExactAddCams", fn := fun _ => fun
  | [d1, d2] => { results := [.lit (.bool false)], args := [d1, d2] }
  | _ => none }
def FnExactAddCamsWrongFalsely : Prop := fnExactAddCamsRow.holds Try.pinned (OpenSpec.ofChange fnExactAddCamsWrong)

/-- 'laws.FnExactRefineCam': WHATEVER THE INPUT: true; the input reads as it did. -/
def fnExactRefineCamSpec : ChangeSpec := { name := "fnExactRefineCam", fn := fun _ => fun
  | [d1, d2] => { results := [.lit (.bool true)], args := [d1, d2] }
  | _ => none }
def fnExactRefineCamRow : OpenClaim := { program := "ytkblhdmolfbfcaa", sum := "2d0937f06b1f9c76a65a80eb3f7e09f106da745dd3bfc687153fb389e3c0efd0", func := "loop.example/g01264/laws.FnExactRefineCam", spec := "fnExactRefineCam", unfollowed := true, recurses := true, apart := false }
def FnExactRefineCamSaid : Prop := fnExactRefineCamRow.holds Try.pinned (OpenSpec.ofChange fnExactRefineCamSpec)

/-- ITS FALSE NEIGHBOUR: 'it returns false'. Refute it at one input. -/
def fnExactRefineCamWrong : ChangeSpec := { name := "fnExactRefineCam", fn := fun _ => fun
  | [d1, d2] => { results := [.lit (.bool false)], args := [d1, d2] }
  | _ => none }
def FnExactRefineCamWrongFalsely : Prop := fnExactRefineCamRow.holds Try.pinned (OpenSpec.ofChange fnExactRefineCamWrong)

/-- 'laws.FnExactStepsIn': WHATEVER THE INPUT: true; the input reads as it did. -/
def fnExactStepsInSpec : ChangeSpec := { name := "fnExactStepsIn", fn := fun _ => fun
  | [d] => { results := [.lit (.bool true)], args := [d] }
  | _ => none }
def fnExactStepsInRow : OpenClaim := { program := "ytkblhdmolfbfcaa", sum := "2d0937f06b1f9c76a65a80eb3f7e09f106da745dd3bfc687153fb389e3c0efd0", func := "loop.example/g01264/laws.FnExactStepsIn", spec := "fnExactStepsIn", unfollowed := true, recurses := true, apart := false }
def FnExactStepsInSaid : Prop := fnExactStepsInRow.holds Try.pinned (OpenSpec.ofChange fnExactStepsInSpec)

/-- ITS FALSE NEIGHBOUR: 'it returns false'. Refute it at one input. -/
def fnExactStepsInWrong : ChangeSpec := { name := "fnExactStepsIn", fn := fun _ => fun
  | [d] => { results := [.lit (.bool false)], args := [d] }
  | _ => none }
def FnExactStepsInWrongFalsely : Prop := fnExactStepsInRow.holds Try.pinned (OpenSpec.ofChange fnExactStepsInWrong)

/- THE SECOND FORM. 'bulk': how many values and letters a reading holds, each counted each time it is reached (what is shared counts as often as it is met; a slice's spare places count too). A statement '..UptoSaid' is the law's where the arguments, and the package variables that the reading takes, are together of bulk at most 1048576: NARROWER than '..Said'. Prove '..Said' where nothing that the law and all that it calls make is longer than what came in: it says more and counts as full. Else prove '..UptoSaid'. A law counts once. -/
mutual
def uptoBulk {H : Type} : DataW H → Nat
  | .lit (.string bytes) => bytes.length + 1
  | .lit _ => 1
  | .nil => 1
  | .ptr d => uptoBulk d + 1
  | .slice elems spare => uptoBulkAll elems + uptoBulkAll spare + 1
  | .agg parts => uptoBulkAll parts + 1
  | .iface _ d => uptoBulk d + 1
  | .map entries => uptoBulkEntries entries + 1
  | .held _ => 1
def uptoBulkAll {H : Type} : List (DataW H) → Nat
  | [] => 0
  | d :: r => uptoBulk d + uptoBulkAll r
def uptoBulkEntries {H : Type} : List (Lit × DataW H) → Nat
  | [] => 0
  | x :: r => uptoBulkEntry x + uptoBulkEntries r
def uptoBulkEntry {H : Type} : Lit × DataW H → Nat
  | (.string bytes, d) => bytes.length + uptoBulk d + 1
  | (_, d) => uptoBulk d + 1
 end
def uptoSmall : (H : Type) → List (DataW H) → Bool := fun _ ds => decide (uptoBulkAll ds ≤ 1048576)
def OpenSpec.upto (s : _root_.Go.ChangeSpec) : _root_.Go.OpenSpec := { _root_.Go.OpenSpec.ofChange s with cond := some uptoSmall }

/-- 'laws.FnExactLineOf', WHERE WHAT IT READS IS OF BULK AT MOST 1048576: true; the input reads as it did. -/
def fnExactLineOfUptoRow : OpenClaim := { program := "ytkblhdmolfbfcaa", sum := "2d0937f06b1f9c76a65a80eb3f7e09f106da745dd3bfc687153fb389e3c0efd0", func := "loop.example/g01264/laws.FnExactLineOf", spec := "fnExactLineOf", apart := false, narrowed := true }
def FnExactLineOfUptoSaid : Prop := fnExactLineOfUptoRow.holds Try.pinned (OpenSpec.upto fnExactLineOfSpec)

/-- 'laws.FnExactLagCam', WHERE WHAT IT READS IS OF BULK AT MOST 1048576: true; the input reads as it did. -/
def fnExactLagCamUptoRow : OpenClaim := { program := "ytkblhdmolfbfcaa", sum := "2d0937f06b1f9c76a65a80eb3f7e09f106da745dd3bfc687153fb389e3c0efd0", func := "loop.example/g01264/laws.FnExactLagCam", spec := "fnExactLagCam", unfollowed := true, recurses := true, apart := false, narrowed := true }
def FnExactLagCamUptoSaid : Prop := fnExactLagCamUptoRow.holds Try.pinned (OpenSpec.upto fnExactLagCamSpec)

/-- 'laws.FnExactCountOver', WHERE WHAT IT READS IS OF BULK AT MOST 1048576: true; the input reads as it did. -/
def fnExactCountOverUptoRow : OpenClaim := { program := "ytkblhdmolfbfcaa", sum := "2d0937f06b1f9c76a65a80eb3f7e09f106da745dd3bfc687153fb389e3c0efd0", func := "loop.example/g01264/laws.FnExactCountOver", spec := "fnExactCountOver", unfollowed := true, recurses := true, apart := false, narrowed := true }
def FnExactCountOverUptoSaid : Prop := fnExactCountOverUptoRow.holds Try.pinned (OpenSpec.upto fnExactCountOverSpec)

/-- 'laws.FnExactAddCams', WHERE WHAT IT READS IS OF BULK AT MOST 1048576: true; the input reads as it did. -/
def fnExactAddCamsUptoRow : OpenClaim := { program := "ytkblhdmolfbfcaa", sum := "2d0937f06b1f9c76a65a80eb3f7e09f106da745dd3bfc687153fb389e3c0efd0", func := "loop.example/g01264/laws.FnExactAddCams", spec := "fnExactAddCams", unfollowed := true, recurses := true, apart := false, narrowed := true }
def FnExactAddCamsUptoSaid : Prop := fnExactAddCamsUptoRow.holds Try.pinned (OpenSpec.upto fnExactAddCamsSpec)

/-- 'laws.FnExactRefineCam', WHERE WHAT IT READS IS OF BULK AT MOST 1048576: true; the input reads as it did. -/
def fnExactRefineCamUptoRow : OpenClaim := { program := "ytkblhdmolfbfcaa", sum := "2d0937f06b1f9c76a65a80eb3f7e09f106da745dd3bfc687153fb389e3c0efd0", func := "loop.example/g01264/laws.FnExactRefineCam", spec := "fnExactRefineCam", unfollowed := true, recurses := true, apart := false, narrowed := true }
def FnExactRefineCamUptoSaid : Prop := fnExactRefineCamUptoRow.holds Try.pinned (OpenSpec.upto fnExactRefineCamSpec)

/-- 'laws.FnExactStepsIn', WHERE WHAT IT READS IS OF BULK AT MOST 1048576: true; the input reads as it did. -/
def fnExactStepsInUptoRow : OpenClaim := { program := "ytkblhdmolfbfcaa", sum := "2d0937f06b1f9c76a65a80eb3f7e09f106da745dd3bfc687153fb389e3c0efd0", func := "loop.example/g01264/laws.FnExactStepsIn", spec := "fnExactStepsIn", unfollowed := true, recurses := true, apart := false, narrowed := true }
def FnExactStepsInUptoSaid : Prop := fnExactStepsInUptoRow.holds Try.pinned (OpenSpec.upto fnExactStepsInSpec)

end Rows
end Go.Proofs.Ytkblhdmolfbfcaa
