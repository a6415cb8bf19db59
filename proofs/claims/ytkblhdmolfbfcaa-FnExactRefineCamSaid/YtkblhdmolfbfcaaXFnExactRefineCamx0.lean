/- Printed by this repository's own program (wip/tools/xprint.py) for the law FnExactRefineCam: Lean functions that say what the Go functions compute, and the proofs that the machine comes to just that; no condition beyond those in each statement. -/
import Derived.Test.YtkblhdmolfbfcaaProg
import Derived.Below
import Derived.Deep.Draws
import Derived.Deep.AppendLies
import Derived.Maps.AppendAt
import Derived.OwnWalk
import Derived.Laws.BytesArg
import Derived.Laws.MakeOwn
import Derived.Laws.OwnMore
import Derived.Deep.OwnRows
import Derived.Tactics
import Derived.Lib.ConvBytes
import Derived.Laws.Slices
import Derived.WalkKit
import Derived.KernelRfl
import Derived.RowKit3
import Derived.Deep.LoopGhost
import Derived.Deep.QuietTactic
import Derived.BigQuiet
import Derived.WideLaws
import Derived.Deep.DeepCutAuto
import Derived.Deep.CutBlock
import Derived.Deep.RegionHeld3
import Derived.Laws.Rows
import Derived.Lib.AppendStr
import Derived.ArgAppend
import Derived.Laws.IdiomCopy
import Derived.OrdersHeld
import Derived.Laws.BitsLemmas
import Derived.RowKit
import Derived.Test.YtkblhdmolfbfcaaWWords
import Derived.Test.YtkblhdmolfbfcaaWLast
import Derived.Test.YtkblhdmolfbfcaaWTab
import Derived.Test.YtkblhdmolfbfcaaWFour
import Derived.Test.YtkblhdmolfbfcaaWQPut
import Derived.Test.YtkblhdmolfbfcaaWApart
import Derived.Test.YtkblhdmolfbfcaaWArr
import Derived.Test.YtkblhdmolfbfcaaWZeros
import Derived.Test.YtkblhdmolfbfcaaWFoot
import Derived.Test.YtkblhdmolfbfcaaWKept
import Derived.Test.YtkblhdmolfbfcaaWShare
import Derived.Test.YtkblhdmolfbfcaaWN
import Derived.Test.YtkblhdmolfbfcaaWFootNe
import Derived.Test.YtkblhdmolfbfcaaWAt
import Derived.Test.YtkblhdmolfbfcaaWEqStruct
import Derived.Test.YtkblhdmolfbfcaaWRepsOne
import Derived.Test.YtkblhdmolfbfcaaWInv
import Derived.Test.YtkblhdmolfbfcaaWInvWords
import Derived.Test.YtkblhdmolfbfcaaWGuard
import Derived.Test.YtkblhdmolfbfcaaWNEv
import Derived.Test.YtkblhdmolfbfcaaWMore
import Derived.Test.YtkblhdmolfbfcaaXWords
namespace Go.Proofs.Ytkblhdmolfbfcaa.XFnExactRefineCam
open Go.RowKit Go.Proofs.YtkblhdmolfbfcaaW.PrintWords Go.Proofs.YtkblhdmolfbfcaaW.PrintLast Go.Proofs.YtkblhdmolfbfcaaW.PrintMore
attribute [local go_sem] max2_int min2_int max_two min_two max_three min_three max_four min_four   -- for this text's walks alone
set_option linter.unusedVariables false
set_option linter.unusedSimpArgs false



def errW : Option Int → Value
  | none => .nilIface
  | some c => .iface 0 (.int .i64 c)
theorem errW_none : errW none = .nilIface := rfl
theorem errW_some (c : Int) : errW (some c) = .iface 0 (.int .i64 c) := rfl

theorem info22 : (Try.prog.info? 22).map (fun i => (i.zero, i.size, i.bytes)) = some (some (.int .i16 0), 1, 2) := by kernel_rfl
-- the values' own types

end Go.Proofs.Ytkblhdmolfbfcaa.XFnExactRefineCam
