/- Printed by this repository's own program (wip/tools/xprint.py) for the law FnExactCutAt: Lean functions that say what the Go functions compute, and the proofs that the machine comes to just that; no condition beyond those in each statement. -/
import Derived.Lib.SliceRun
import Derived.Test.YtnjcmalmnofbmaaProg
import Derived.Below
import Derived.Deep.Draws
import Derived.Deep.AppendLies
import Derived.Maps.AppendAt
import Derived.OwnWalk
import Derived.Laws.BytesArg
import Derived.Laws.MakeOwn
import Derived.Laws.OwnMore
import Derived.Deep.OwnRows
import Derived.Tactics
import Derived.Lib.ConvBytes
import Derived.Laws.Slices
import Derived.WalkKit
import Derived.KernelRfl
import Derived.RowKit3
import Derived.Deep.LoopGhost
import Derived.Deep.QuietTactic
import Derived.BigQuiet
import Derived.WideLaws
import Derived.Deep.DeepCutAuto
import Derived.Deep.CutBlock
import Derived.Deep.RegionHeld3
import Derived.Laws.Rows
import Derived.Lib.AppendStr
import Derived.ArgAppend
import Derived.Laws.IdiomCopy
import Derived.OrdersHeld
import Derived.Laws.BitsLemmas
import Derived.RowKit
import Derived.Test.YtnjcmalmnofbmaaWWords
import Derived.Test.YtnjcmalmnofbmaaWLast
import Derived.Test.YtnjcmalmnofbmaaWTab
import Derived.Test.YtnjcmalmnofbmaaWFour
import Derived.Test.YtnjcmalmnofbmaaWQPut
import Derived.Test.YtnjcmalmnofbmaaWApart
import Derived.Test.YtnjcmalmnofbmaaWArr
import Derived.Test.YtnjcmalmnofbmaaWZeros
import Derived.Test.YtnjcmalmnofbmaaWFoot
import Derived.Test.YtnjcmalmnofbmaaWKept
import Derived.Test.YtnjcmalmnofbmaaWShare
import Derived.Test.YtnjcmalmnofbmaaWN
import Derived.Test.YtnjcmalmnofbmaaWFootNe
import Derived.Test.YtnjcmalmnofbmaaWAt
import Derived.Test.YtnjcmalmnofbmaaWEqStruct
import Derived.Test.YtnjcmalmnofbmaaWRepsOne
import Derived.Test.YtnjcmalmnofbmaaWInv
import Derived.Test.YtnjcmalmnofbmaaWInvWords
import Derived.Test.YtnjcmalmnofbmaaWGuard
import Derived.Test.YtnjcmalmnofbmaaWNEv
import Derived.Test.YtnjcmalmnofbmaaWMore
import Derived.Test.YtnjcmalmnofbmaaXWords
namespace Go.Proofs.Ytnjcmalmnofbmaa.XFnExactCutAt
open Go.RowKit Go.Proofs.YtnjcmalmnofbmaaW.PrintWords Go.Proofs.YtnjcmalmnofbmaaW.PrintLast Go.Proofs.YtnjcmalmnofbmaaW.PrintMore
attribute [local go_sem] max2_int min2_int max_two min_two max_three min_three max_four min_four   -- for this text's walks alone
set_option linter.unusedVariables false
set_option linter.unusedSimpArgs false



def errW : Option Int → Value
  | none => .nilIface
  | some c => .iface 0 (.int .i64 c)
theorem errW_none : errW none = .nilIface := rfl
theorem errW_some (c : Int) : errW (some c) = .iface 0 (.int .i64 c) := rfl

theorem info2 : (Try.prog.info? 2).map (fun i => (i.zero, i.size, i.bytes)) = some (some (.int .i64 0), 1, 8) := by kernel_rfl
theorem info38 : (Try.prog.info? 38).map (fun i => (i.zero, i.size, i.bytes)) = some (some (.int .i16 0), 1, 2) := by kernel_rfl
-- the values' own types

end Go.Proofs.Ytnjcmalmnofbmaa.XFnExactCutAt
