/- Printed by this repository's own program (wip/tools/xprint.py) for the law FnExactSmoothCam: Lean functions that say what the Go functions compute, and the proofs that the machine comes to just that; no condition beyond those in each statement. -/
import Derived.Lib.SliceRun
import Derived.Test.YtbobbihbikocbaaProg
import Derived.Below
import Derived.Deep.Draws
import Derived.Deep.AppendLies
import Derived.Maps.AppendAt
import Derived.OwnWalk
import Derived.Laws.BytesArg
import Derived.Laws.MakeOwn
import Derived.Laws.OwnMore
import Derived.Deep.OwnRows
import Derived.Tactics
import Derived.Lib.ConvBytes
import Derived.Laws.Slices
import Derived.WalkKit
import Derived.KernelRfl
import Derived.RowKit3
import Derived.Deep.LoopGhost
import Derived.Deep.QuietTactic
import Derived.BigQuiet
import Derived.WideLaws
import Derived.Deep.DeepCutAuto
import Derived.Deep.CutBlock
import Derived.Deep.RegionHeld3
import Derived.Laws.Rows
import Derived.Lib.AppendStr
import Derived.ArgAppend
import Derived.Laws.IdiomCopy
import Derived.OrdersHeld
import Derived.Laws.BitsLemmas
import Derived.RowKit
import Derived.Test.YtbobbihbikocbaaWWords
import Derived.Test.YtbobbihbikocbaaWLast
import Derived.Test.YtbobbihbikocbaaWTab
import Derived.Test.YtbobbihbikocbaaWFour
import Derived.Test.YtbobbihbikocbaaWQPut
import Derived.Test.YtbobbihbikocbaaWApart
import Derived.Test.YtbobbihbikocbaaWArr
import Derived.Test.YtbobbihbikocbaaWZeros
import Derived.Test.YtbobbihbikocbaaWFoot
import Derived.Test.YtbobbihbikocbaaWKept
import Derived.Test.YtbobbihbikocbaaWShare
import Derived.Test.YtbobbihbikocbaaWN
import Derived.Test.YtbobbihbikocbaaWFootNe
import Derived.Test.YtbobbihbikocbaaWAt
import Derived.Test.YtbobbihbikocbaaWEqStruct
import Derived.Test.YtbobbihbikocbaaWRepsOne
import Derived.Test.YtbobbihbikocbaaWInv
import Derived.Test.YtbobbihbikocbaaWInvWords
import Derived.Test.YtbobbihbikocbaaWGuard
import Derived.Test.YtbobbihbikocbaaWNEv
import Derived.Test.YtbobbihbikocbaaWMore
import Derived.Test.YtbobbihbikocbaaXWords
namespace Go.Proofs.Ytbobbihbikocbaa.XFnExactSmoothCam
open Go.RowKit Go.Proofs.YtbobbihbikocbaaW.PrintWords Go.Proofs.YtbobbihbikocbaaW.PrintLast Go.Proofs.YtbobbihbikocbaaW.PrintMore
attribute [local go_sem] max2_int min2_int max_two min_two max_three min_three max_four min_four   -- for this text's walks alone
set_option linter.unusedVariables false
set_option linter.unusedSimpArgs false



def errW : Option Int → Value
  | none => .nilIface
  | some c => .iface 0 (.int .i64 c)
theorem errW_none : errW none = .nilIface := rfl
theorem errW_some (c : Int) : errW (some c) = .iface 0 (.int .i64 c) := rfl

theorem info2 : (Try.prog.info? 2).map (fun i => (i.zero, i.size, i.bytes)) = some (some (.int .i64 0), 1, 8) := by kernel_rfl
theorem info4 : (Try.prog.info? 4).map (fun i => (i.zero, i.size, i.bytes)) = some (some (.bool false), 1, 1) := by kernel_rfl
theorem info33 : (Try.prog.info? 33).map (fun i => (i.zero, i.size, i.bytes)) = some (some (.int .i16 0), 1, 2) := by kernel_rfl
-- the values' own types

end Go.Proofs.Ytbobbihbikocbaa.XFnExactSmoothCam
