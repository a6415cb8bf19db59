/-
  No cell of these rows narrows 'for every input' (looked for: loops, veiled, ifaces, maps, wideKeys, modest, calm, conditions, laid).
  DERIVED. THE GIVEN ROWS OF THIS SEAT. 3 by the template 'for every input the law returns true; each argument reads behind the call as it read before'; 0 by the template 'total and deterministic' (their statements: YtkgeppbjfkhjcaaTotals.lean).
  GIVEN WITH THE SEED: the statements are not yours to turn. If you find one false, say at which input.
  Laid BY PROGRAM, IN A SANDBOX (cutbox-rows.mjs): the forced cells as the released guide's own fill.sh prints them over the translation e8aa82a40a1c0659… (all of the seat's roots in one cut). By AI agents, Wed Nov 11 2026. No macro, syntax, notation, axiom, sorry.
-/
import Derived.Test.YtkgeppbjfkhjcaaChecked
import GoSem.Claim
import GoSem.ClaimJoined
import GoSem.ClaimMapViews
import Derived.JoinedTies
import Derived.KernelRfl
namespace Go.Proofs.Ytkgeppbjfkhjcaa
/- THE CELL 'sum', in the pinned program and in every row, IS THE sha256 OF THE DUMP (.gsa) THAT YtkgeppbjfkhjcaaProg.lean LOADS. Nothing in Lean hashes anything: it is a label: what it is worth is what the hold of that sum in a sandbox is worth. -/
noncomputable def Try.pinned : Pinned := { name := "ytkgeppbjfkhjcaa", sum := "e8aa82a40a1c06595bc8c1d552dcc05ab2305de8d9aebe152dbb00587be2efbb", checked := Try.checked }
namespace Rows
def none {H : Type} : Left H := { results := [], args := [] }

/-- 'laws.FnExactDrawStrokes': WHATEVER THE INPUT: true; the input reads as it did. -/
def fnExactDrawStrokesSpec : ChangeSpec := { name := "fnExactDrawStrokes", fn := fun _ => fun
  | [d] => { results := [.lit (.bool true)], args := [d] }
  | _ => none }
def fnExactDrawStrokesRow : OpenClaim := { program := "ytkgeppbjfkhjcaa", sum := "e8aa82a40a1c06595bc8c1d552dcc05ab2305de8d9aebe152dbb00587be2efbb", func := "loop.example/g01264/laws.FnExactDrawStrokes", spec := "fnExactDrawStrokes", unfollowed := true, recurses := true, apart := false }
def FnExactDrawStrokesSaid : Prop := fnExactDrawStrokesRow.holds Try.pinned (OpenSpec.ofChange fnExactDrawStrokesSpec)

/-- ITS FALSE NEIGHBOUR: 'it returns false'. Refute it at one input. -/
def fnExactDrawStrokesWrong : ChangeSpec := { name := "fnExactDrawStrokes", fn := fun _ => fun
  | [d] => { results := [.lit (.bool false)], args := [d] }
  | _ => none }
def FnExactDrawStrokesWrongFalsely : Prop := fnExactDrawStrokesRow.holds Try.pinned (OpenSpec.ofChange fnExactDrawStrokesWrong)

/-- 'laws.FnExactCheckReach': WHATEVER THE INPUT: true; the input reads as it did. -/
def fnExactCheckReachSpec : ChangeSpec := { name := "fnExactCheckReach", fn := fun _ => fun
  | [d1, d2, d3, d4, d5] => { results := [.lit (.bool true)], args := [d1, d2, d3, d4, d5] }
  | _ => none }
def fnExactCheckReachRow : OpenClaim := { program := "ytkgeppbjfkhjcaa", sum := "e8aa82a40a1c06595bc8c1d552dcc05ab2305de8d9aebe152dbb00587be2efbb", func := "loop.example/g01264/laws.FnExactCheckReach", spec := "fnExactCheckReach", unfollowed := true, recurses := true, apart := false }
def FnExactCheckReachSaid : Prop := fnExactCheckReachRow.holds Try.pinned (OpenSpec.ofChange fnExactCheckReachSpec)

/-- ITS FALSE NEIGHBOUR: 'it returns false'. Refute it at one input. -/
def fnExactCheckReachWrong : ChangeSpec := { name := "fnExactCheckReach", fn := fun _ => fun
  | [d1, d2, d3, d4, d5] => { results := [.lit (.bool false)], args := [d1, d2, d3, d4, d5] }
  | _ => none }
def FnExactCheckReachWrongFalsely : Prop := fnExactCheckReachRow.holds Try.pinned (OpenSpec.ofChange fnExactCheckReachWrong)

/-- 'laws.FnExactReachOf': WHATEVER THE INPUT: true; the input reads as it did. -/
def fnExactReachOfSpec : ChangeSpec := { name := "fnExactReachOf", fn := fun _ => fun
  | [d1, d2, d3, d4, d5] => { results := [.lit (.bool true)], args := [d1, d2, d3, d4, d5] }
  | _ => none }
def fnExactReachOfRow : OpenClaim := { program := "ytkgeppbjfkhjcaa", sum := "e8aa82a40a1c06595bc8c1d552dcc05ab2305de8d9aebe152dbb00587be2efbb", func := "loop.example/g01264/laws.FnExactReachOf", spec := "fnExactReachOf", unfollowed := true, recurses := true, apart := false }
def FnExactReachOfSaid : Prop := fnExactReachOfRow.holds Try.pinned (OpenSpec.ofChange fnExactReachOfSpec)

/-- ITS FALSE NEIGHBOUR: 'it returns false'. Refute it at one input. -/
def fnExactReachOfWrong : ChangeSpec := { name := "fnExactReachOf", fn := fun _ => fun
  | [d1, d2, d3, d4, d5] => { results := [.lit (.bool false)], args := [d1, d2, d3, d4, d5] }
  | _ => none }
def FnExactReachOfWrongFalsely : Prop := fnExactReachOfRow.holds Try.pinned (OpenSpec.ofChange fnExactReachOfWrong)

/- THE SECOND FORM. 'bulk': how many values and letters a reading holds, each counted each time it is reached (what is shared counts as often as it is met; a slice's spare places count too). A statement '..UptoSaid' is the law's where the arguments, and the package variables that the reading takes, are together of bulk at most 1048576: NARROWER than '..Said'. Prove '..Said' where nothing that the law and all that it calls make is longer than what came in: it says more and counts as full. Else prove '..UptoSaid'. A law counts once. -/
mutual
def uptoBulk {H : Type} : DataW H → Nat
  | .lit (.string bytes) => bytes.length + 1
  | .lit _ => 1
  | .nil => 1
  | .ptr d => uptoBulk d + 1
  | .slice elems spare => uptoBulkAll elems + uptoBulkAll spare + 1
  | .agg parts => uptoBulkAll parts + 1
  | .iface _ d => uptoBulk d + 1
  | .map entries => uptoBulkEntries entries + 1
  | .held _ => 1
def uptoBulkAll {H : Type} : List (DataW H) → Nat
  | [] => 0
  | d :: r => uptoBulk d + uptoBulkAll r
def uptoBulkEntries {H : Type} : List (Lit × DataW H) → Nat
  | [] => 0
  | x :: r => uptoBulkEntry x + uptoBulkEntries r
def uptoBulkEntry {H : Type} : Lit × DataW H → Nat
  | (.string bytes, d) => bytes.length + uptoBulk d + 1
  | (_, d) => uptoBulk d + 1
 end
def uptoSmall : (H : Type) → List (DataW H) → Bool := fun _ ds => decide (uptoBulkAll ds ≤ 1048576)
def OpenSpec.upto (s : _root_.Go.ChangeSpec) : _root_.Go.OpenSpec := { _root_.Go.OpenSpec.ofChange s with cond := some uptoSmall }

/-- 'laws.FnExactDrawStrokes', WHERE WHAT IT READS IS OF BULK AT MOST 1048576: true; the input reads as it did. -/
def fnExactDrawStrokesUptoRow : OpenClaim := { program := "ytkgeppbjfkhjcaa", sum := "e8aa82a40a1c06595bc8c1d552dcc05ab2305de8d9aebe152dbb00587be2efbb", func := "loop.example/g01264/laws.FnExactDrawStrokes", spec := "fnExactDrawStrokes", unfollowed := true, recurses := true, apart := false, narrowed := true }
def FnExactDrawStrokesUptoSaid : Prop := fnExactDrawStrokesUptoRow.holds Try.pinned (OpenSpec.upto fnExactDrawStrokesSpec)

/-- 'laws.FnExactCheckReach', WHERE WHAT IT READS IS OF BULK AT MOST 1048576: true; the input reads as it did. -/
def fnExactCheckReachUptoRow : OpenClaim := { program := "ytkgeppbjfkhjcaa", sum := "e8aa82a40a1c06595bc8c1d552dcc05ab2305de8d9aebe152dbb00587be2efbb", func := "loop.example/g01264/laws.FnExactCheckReach", spec := "fnExactCheckReach", unfollowed := true, recurses := true, apart := false, narrowed := true }
def FnExactCheckReachUptoSaid : Prop := fnExactCheckReachUptoRow.holds Try.pinned (OpenSpec.upto fnExactCheckReachSpec)

/-- 'laws.FnExactReachOf', WHERE WHAT IT READS IS OF BULK AT MOST 1048576: true; the input reads as it did. -/
def fnExactReachOfUptoRow : OpenClaim := { program := "ytkgeppbjfkhjcaa", sum := "e8aa82a40a1c06595bc8c1d552dcc05ab2305de8d9aebe152dbb00587be2efbb", func := "loop.example/g01264/laws.FnExactReachOf", spec := "fnExactReachOf", unfollowed := true, recurses := true, apart := false, narrowed := true }
def FnExactReachOfUptoSaid : Prop := fnExactReachOfUptoRow.holds Try.pinned (OpenSpec.upto fnExactReachOfSpec)

end Rows
end Go.Proofs.Ytkgeppbjfkhjcaa
