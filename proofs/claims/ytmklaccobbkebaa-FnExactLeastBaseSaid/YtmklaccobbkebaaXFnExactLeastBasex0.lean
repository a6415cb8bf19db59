/- Printed by this repository's own program (wip/tools/xprint.py) for the law FnExactLeastBase: Lean functions that say what the Go functions compute, and the proofs that the machine comes to just that; no condition beyond those in each statement. -/
import Derived.Test.YtmklaccobbkebaaProg
import Derived.Below
import Derived.Deep.Draws
import Derived.Deep.AppendLies
import Derived.Maps.AppendAt
import Derived.OwnWalk
import Derived.Laws.BytesArg
import Derived.Laws.MakeOwn
import Derived.Laws.OwnMore
import Derived.Deep.OwnRows
import Derived.Tactics
import Derived.Lib.ConvBytes
import Derived.Laws.Slices
import Derived.WalkKit
import Derived.KernelRfl
import Derived.RowKit3
import Derived.Deep.LoopGhost
import Derived.Deep.QuietTactic
import Derived.BigQuiet
import Derived.WideLaws
import Derived.Deep.DeepCutAuto
import Derived.Deep.CutBlock
import Derived.Deep.RegionHeld3
import Derived.Laws.Rows
import Derived.Lib.AppendStr
import Derived.ArgAppend
import Derived.Laws.IdiomCopy
import Derived.OrdersHeld
import Derived.Laws.BitsLemmas
import Derived.RowKit
import Derived.Test.YtmklaccobbkebaaWWords
import Derived.Test.YtmklaccobbkebaaWLast
import Derived.Test.YtmklaccobbkebaaWTab
import Derived.Test.YtmklaccobbkebaaWFour
import Derived.Test.YtmklaccobbkebaaWQPut
import Derived.Test.YtmklaccobbkebaaWApart
import Derived.Test.YtmklaccobbkebaaWArr
import Derived.Test.YtmklaccobbkebaaWZeros
import Derived.Test.YtmklaccobbkebaaWFoot
import Derived.Test.YtmklaccobbkebaaWKept
import Derived.Test.YtmklaccobbkebaaWShare
import Derived.Test.YtmklaccobbkebaaWN
import Derived.Test.YtmklaccobbkebaaWFootNe
import Derived.Test.YtmklaccobbkebaaWAt
import Derived.Test.YtmklaccobbkebaaWEqStruct
import Derived.Test.YtmklaccobbkebaaWRepsOne
import Derived.Test.YtmklaccobbkebaaWInv
import Derived.Test.YtmklaccobbkebaaWInvWords
import Derived.Test.YtmklaccobbkebaaWGuard
import Derived.Test.YtmklaccobbkebaaWNEv
import Derived.Test.YtmklaccobbkebaaWMore
import Derived.Test.YtmklaccobbkebaaXWords
namespace Go.Proofs.Ytmklaccobbkebaa.XFnExactLeastBase
open Go.RowKit Go.Proofs.YtmklaccobbkebaaW.PrintWords Go.Proofs.YtmklaccobbkebaaW.PrintLast Go.Proofs.YtmklaccobbkebaaW.PrintMore
attribute [local go_sem] max2_int min2_int max_two min_two max_three min_three max_four min_four   -- for this text's walks alone
set_option linter.unusedVariables false
set_option linter.unusedSimpArgs false



def errW : Option Int → Value
  | none => .nilIface
  | some c => .iface 0 (.int .i64 c)
theorem errW_none : errW none = .nilIface := rfl
theorem errW_some (c : Int) : errW (some c) = .iface 0 (.int .i64 c) := rfl

theorem info77 : (Try.prog.info? 77).map (fun i => (i.zero, i.size, i.bytes)) = some (some (.int .i16 0), 1, 2) := by kernel_rfl
-- the values' own types

end Go.Proofs.Ytmklaccobbkebaa.XFnExactLeastBase
