/-
  No cell of these rows narrows 'for every input' (looked for: loops, veiled, ifaces, maps, wideKeys, modest, calm, conditions, laid).
  DERIVED. THE GIVEN ROWS OF THIS SEAT. 6 by the template 'for every input the law returns true; each argument reads behind the call as it read before'; 0 by the template 'total and deterministic' (their statements: YtboicfocaoohmaaTotals.lean).
  GIVEN WITH THE SEED: the statements are not yours to turn. If you find one false, say at which input.
  Laid BY PROGRAM, IN A SANDBOX (cutbox-rows.mjs): the forced cells as the released guide's own fill.sh prints them over the translation 0e287a1afedab7e0… (all of the seat's roots in one cut). By AI agents, Wed Nov 11 2026. No macro, syntax, notation, axiom, sorry.
-/
import Derived.Test.YtboicfocaoohmaaChecked
import GoSem.Claim
import GoSem.ClaimJoined
import GoSem.ClaimMapViews
import Derived.JoinedTies
import Derived.KernelRfl
namespace Go.Proofs.Ytboicfocaoohmaa
/- THE CELL 'sum', in the pinned program and in every row, IS THE sha256 OF THE DUMP (.gsa) THAT YtboicfocaoohmaaProg.lean LOADS. Nothing in Lean hashes anything: it is a label: what it is worth is what the hold of that sum in a sandbox is worth. -/
noncomputable def Try.pinned : Pinned := { name := "ytboicfocaoohmaa", sum := "0e287a1afedab7e08b801e091bb0f9a9f843ef880bd4b88573c386dc268f3a34", checked := Try.checked }
namespace Rows
def none {H : Type} : Left H := { results := [], args := [] }

/-- 'laws.FnExactTipsFor': WHATEVER THE INPUT: true; the input reads as it did. -/
def fnExactTipsForSpec : ChangeSpec := { name := "fnExactTipsFor", fn := fun _ => fun
  | [d1, d2] => { results := [.lit (.bool true)], args := [d1, d2] }
  | _ => none }
def fnExactTipsForRow : OpenClaim := { program := "ytboicfocaoohmaa", sum := "0e287a1afedab7e08b801e091bb0f9a9f843ef880bd4b88573c386dc268f3a34", func := "loop.example/g01264/laws.FnExactTipsFor", spec := "fnExactTipsFor", unfollowed := true, recurses := true, apart := false }
def FnExactTipsForSaid : Prop := fnExactTipsForRow.holds Try.pinned (OpenSpec.ofChange fnExactTipsForSpec)

/-- ITS FALSE NEIGHBOUR: 'it returns false'. Refute it at one input. -/
def fnExactTipsForWrong : ChangeSpec := { name := "fnExactTipsFor", fn := fun _ => fun
  | [d1, d2] => { results := [.lit (.bool false)], args := [d1, d2] }
  | _ => none }
def FnExactTipsForWrongFalsely : Prop := fnExactTipsForRow.holds Try.pinned (OpenSpec.ofChange fnExactTipsForWrong)

/-- 'laws.FnExactWasteOf': WHATEVER THE INPUT: true; the input reads as it did. -/
def fnExactWasteOfSpec : ChangeSpec := { name := "fnExactWasteOf", fn := fun _ => fun
  | [d1, d2] => { results := [.lit (.bool true)], args := [d1, d2] }
  | _ => none }
def fnExactWasteOfRow : OpenClaim := { program := "ytboicfocaoohmaa", sum := "0e287a1afedab7e08b801e091bb0f9a9f843ef880bd4b88573c386dc268f3a34", func := "loop.example/g01264/laws.FnExactWasteOf", spec := "fnExactWasteOf", unfollowed := true, recurses := true, apart := false }
def FnExactWasteOfSaid : Prop := fnExactWasteOfRow.holds Try.pinned (OpenSpec.ofChange fnExactWasteOfSpec)

/-- ITS FALSE NEIGHBOUR: 'it returns false'. Refute it at one input. -/
def fnExactWasteOfWrong : ChangeSpec := { name := "fnExactWasteOf", fn := fun _ => fun
  | [d1, d2] => { results := [.lit (.bool false)], args := [d1, d2] }
  | _ => none }
def FnExactWasteOfWrongFalsely : Prop := fnExactWasteOfRow.holds Try.pinned (OpenSpec.ofChange fnExactWasteOfWrong)

/-- 'laws.FnExactLeftBy': WHATEVER THE INPUT: true; the input reads as it did. -/
def fnExactLeftBySpec : ChangeSpec := { name := "fnExactLeftBy", fn := fun _ => fun
  | [d1, d2] => { results := [.lit (.bool true)], args := [d1, d2] }
  | _ => none }
def fnExactLeftByRow : OpenClaim := { program := "ytboicfocaoohmaa", sum := "0e287a1afedab7e08b801e091bb0f9a9f843ef880bd4b88573c386dc268f3a34", func := "loop.example/g01264/laws.FnExactLeftBy", spec := "fnExactLeftBy", unfollowed := true, recurses := true, apart := false }
def FnExactLeftBySaid : Prop := fnExactLeftByRow.holds Try.pinned (OpenSpec.ofChange fnExactLeftBySpec)

/-- ITS FALSE NEIGHBOUR: 'it returns false'. Refute it at one input. -/
def fnExactLeftByWrong : ChangeSpec := { name := "fnExactLeftBy", fn := fun _ => fun
  | [d1, d2] => { results := [.lit (.bool false)], args := [d1, d2] }
  | _ => none }
def FnExactLeftByWrongFalsely : Prop := fnExactLeftByRow.holds Try.pinned (OpenSpec.ofChange fnExactLeftByWrong)

/-- 'laws.FnExactGreatestChange': WHATEVER THE INPUT: true; the input reads as it did. -/
def fnExactGreatestChangeSpec : ChangeSpec := { name := "fnExactGreatestChange", fn := fun _ => fun
  | [d] => { results := [.lit (.bool true)], args := [d] }
  | _ => none }
def fnExactGreatestChangeRow : OpenClaim := { program := "ytboicfocaoohmaa", sum := "0e287a1afedab7e08b801e091bb0f9a9f843ef880bd4b88573c386dc268f3a34", func := "loop.example/g01264/laws.FnExactGreatestChange", spec := "fnExactGreatestChange", unfollowed := true, recurses := true, apart := false }
def FnExactGreatestChangeSaid : Prop := fnExactGreatestChangeRow.holds Try.pinned (OpenSpec.ofChange fnExactGreatestChangeSpec)

/-- ITS FALSE NEIGHBOUR: 'it returns false'. Refute it at one input. -/
def fnExactGreatestChangeWrong : ChangeSpec := { name := "fnExactGreatestChange", fn := fun _ => fun
  | [d] => { results := [.lit (.bool false)], args := [d] }
  | _ => none }
def FnExactGreatestChangeWrongFalsely : Prop := fnExactGreatestChangeRow.holds Try.pinned (OpenSpec.ofChange fnExactGreatestChangeWrong)

/-- 'laws.FnExactFastestMove': WHATEVER THE INPUT: true; the input reads as it did. -/
def fnExactFastestMoveSpec : ChangeSpec := { name := "fnExactFastestMove", fn := fun _ => fun
  | [d] => { results := [.lit (.bool true)], args := [d] }
  | _ => none }
def fnExactFastestMoveRow : OpenClaim := { program := "ytboicfocaoohmaa", sum := "0e287a1afedab7e08b801e091bb0f9a9f843ef880bd4b88573c386dc268f3a34", func := "loop.example/g01264/laws.FnExactFastestMove", spec := "fnExactFastestMove", unfollowed := true, recurses := true, apart := false }
def FnExactFastestMoveSaid : Prop := fnExactFastestMoveRow.holds Try.pinned (OpenSpec.ofChange fnExactFastestMoveSpec)

/-- ITS FALSE NEIGHBOUR: 'it returns false'. Refute it at one input. -/
def fnExactFastestMoveWrong : ChangeSpec := { name := "fnExactFastestMove", fn := fun _ => fun
  | [d] => { results := [.lit (.bool false)], args := [d] }
  | _ => none }
def FnExactFastestMoveWrongFalsely : Prop := fnExactFastestMoveRow.holds Try.pinned (OpenSpec.ofChange fnExactFastestMoveWrong)

/-- 'laws.FnExactStopsOf': WHATEVER THE INPUT: true; the input reads as it did. -/
def fnExactStopsOfSpec : ChangeSpec := { name := "fnExactStopsOf", fn := fun _ => fun
  | [d] => { results := [.lit (.bool true)], args := [d] }
  | _ => none }
def fnExactStopsOfRow : OpenClaim := { program := "ytboicfocaoohmaa", sum := "0e287a1afedab7e08b801e091bb0f9a9f843ef880bd4b88573c386dc268f3a34", func := "loop.example/g01264/laws.FnExactStopsOf", spec := "fnExactStopsOf", unfollowed := true, recurses := true, apart := false }
def FnExactStopsOfSaid : Prop := fnExactStopsOfRow.holds Try.pinned (OpenSpec.ofChange fnExactStopsOfSpec)

/-- ITS FALSE NEIGHBOUR: 'it returns false'. Refute it at one input. -/
def fnExactStopsOfWrong : ChangeSpec := { name := "fnExactStopsOf", fn := fun _ => fun
  | [d] => { results := [.lit (.bool false)], args := [d] }
  | _ => none }
def FnExactStopsOfWrongFalsely : Prop := fnExactStopsOfRow.holds Try.pinned (OpenSpec.ofChange fnExactStopsOfWrong)

/- THE SECOND FORM. 'bulk': how many values and letters a reading holds, each counted each time it is reached (what is shared counts as often as it is met; a slice's spare places count too). A statement '..UptoSaid' is the law's where the arguments, and the package variables that the reading takes, are together of bulk at most 1048576: NARROWER than '..Said'. Prove '..Said' where nothing that the law and all that it calls make is longer than what came in: it says more and counts as full. Else prove '..UptoSaid'. A law counts once. -/
mutual
def uptoBulk {H : Type} : DataW H → Nat
  | .lit (.string bytes) => bytes.length + 1
  | .lit _ => 1
  | .nil => 1
  | .ptr d => uptoBulk d + 1
  | .slice elems spare => uptoBulkAll elems + uptoBulkAll spare + 1
  | .agg parts => uptoBulkAll parts + 1
  | .iface _ d => uptoBulk d + 1
  | .map entries => uptoBulkEntries entries + 1
  | .held _ => 1
def uptoBulkAll {H : Type} : List (DataW H) → Nat
  | [] => 0
  | d :: r => uptoBulk d + uptoBulkAll r
def uptoBulkEntries {H : Type} : List (Lit × DataW H) → Nat
  | [] => 0
  | x :: r => uptoBulkEntry x + uptoBulkEntries r
def uptoBulkEntry {H : Type} : Lit × DataW H → Nat
  | (.string bytes, d) => bytes.length + uptoBulk d + 1
  | (_, d) => uptoBulk d + 1
 end
def uptoSmall : (H : Type) → List (DataW H) → Bool := fun _ ds => decide (uptoBulkAll ds ≤ 1048576)
def OpenSpec.upto (s : _root_.Go.ChangeSpec) : _root_.Go.OpenSpec := { _root_.Go.OpenSpec.ofChange s with cond := some uptoSmall }

/-- 'laws.FnExactTipsFor', WHERE WHAT IT READS IS OF BULK AT MOST 1048576: true; the input reads as it did. -/
def fnExactTipsForUptoRow : OpenClaim := { program := "ytboicfocaoohmaa", sum := "0e287a1afedab7e08b801e091bb0f9a9f843ef880bd4b88573c386dc268f3a34", func := "loop.example/g01264/laws.FnExactTipsFor", spec := "fnExactTipsFor", unfollowed := true, recurses := true, apart := false, narrowed := true }
def FnExactTipsForUptoSaid : Prop := fnExactTipsForUptoRow.holds Try.pinned (OpenSpec.upto fnExactTipsForSpec)

/-- 'laws.FnExactWasteOf', WHERE WHAT IT READS IS OF BULK AT MOST 1048576: true; the input reads as it did. -/
def fnExactWasteOfUptoRow : OpenClaim := { program := "ytboicfocaoohmaa", sum := "0e287a1afedab7e08b801e091bb0f9a9f843ef880bd4b88573c386dc268f3a34", func := "loop.example/g01264/laws.FnExactWasteOf", spec := "fnExactWasteOf", unfollowed := true, recurses := true, apart := false, narrowed := true }
def FnExactWasteOfUptoSaid : Prop := fnExactWasteOfUptoRow.holds Try.pinned (OpenSpec.upto fnExactWasteOfSpec)

/-- 'laws.FnExactLeftBy', WHERE WHAT IT READS IS OF BULK AT MOST 1048576: true; the input reads as it did. -/
def fnExactLeftByUptoRow : OpenClaim := { program := "ytboicfocaoohmaa", sum := "0e287a1afedab7e08b801e091bb0f9a9f843ef880bd4b88573c386dc268f3a34", func := "loop.example/g01264/laws.FnExactLeftBy", spec := "fnExactLeftBy", unfollowed := true, recurses := true, apart := false, narrowed := true }
def FnExactLeftByUptoSaid : Prop := fnExactLeftByUptoRow.holds Try.pinned (OpenSpec.upto fnExactLeftBySpec)

/-- 'laws.FnExactGreatestChange', WHERE WHAT IT READS IS OF BULK AT MOST 1048576: true; the input reads as it did. -/
def fnExactGreatestChangeUptoRow : OpenClaim := { program := "ytboicfocaoohmaa", sum := "0e287a1afedab7e08b801e091bb0f9a9f843ef880bd4b88573c386dc268f3a34", func := "loop.example/g01264/laws.FnExactGreatestChange", spec := "fnExactGreatestChange", unfollowed := true, recurses := true, apart := false, narrowed := true }
def FnExactGreatestChangeUptoSaid : Prop := fnExactGreatestChangeUptoRow.holds Try.pinned (OpenSpec.upto fnExactGreatestChangeSpec)

/-- 'laws.FnExactFastestMove', WHERE WHAT IT READS IS OF BULK AT MOST 1048576: true; the input reads as it did. -/
def fnExactFastestMoveUptoRow : OpenClaim := { program := "ytboicfocaoohmaa", sum := "0e287a1afedab7e08b801e091bb0f9a9f843ef880bd4b88573c386dc268f3a34", func := "loop.example/g01264/laws.FnExactFastestMove", spec := "fnExactFastestMove", unfollowed := true, recurses := true, apart := false, narrowed := true }
def FnExactFastestMoveUptoSaid : Prop := fnExactFastestMoveUptoRow.holds Try.pinned (OpenSpec.upto fnExactFastestMoveSpec)

/-- 'laws.FnExactStopsOf', WHERE WHAT IT READS IS OF BULK AT MOST 1048576: true; the input reads as it did. -/
def fnExactStopsOfUptoRow : OpenClaim := { program := "ytboicfocaoohmaa", sum := "0e287a1afedab7e08b801e091bb0f9a9f843ef880bd4b88573c386dc268f3a34", func := "loop.example/g01264/laws.FnExactStopsOf", spec := "fnExactStopsOf", unfollowed := true, recurses := true, apart := false, narrowed := true }
def FnExactStopsOfUptoSaid : Prop := fnExactStopsOfUptoRow.holds Try.pinned (OpenSpec.upto fnExactStopsOfSpec)

end Rows
end Go.Proofs.Ytboicfocaoohmaa
