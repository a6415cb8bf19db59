/- Printed by this repository's own program (wip/tools/xprint.py) for the law FnExactWasteOf: Lean functions that say what the Go functions compute, and the proofs that the machine comes to just that; no condition beyond those in each statement. -/
import Derived.Test.YtboicfocaoohmaaProg
import Derived.Below
import Derived.Deep.Draws
import Derived.Deep.AppendLies
import Derived.Maps.AppendAt
import Derived.OwnWalk
import Derived.Laws.BytesArg
import Derived.Laws.MakeOwn
import Derived.Laws.OwnMore
import Derived.Deep.OwnRows
import Derived.Tactics
import Derived.Lib.ConvBytes
import Derived.Laws.Slices
import Derived.WalkKit
import Derived.KernelRfl
import Derived.RowKit3
import Derived.Deep.LoopGhost
import Derived.Deep.QuietTactic
import Derived.BigQuiet
import Derived.WideLaws
import Derived.Deep.DeepCutAuto
import Derived.Deep.CutBlock
import Derived.Deep.RegionHeld3
import Derived.Laws.Rows
import Derived.Lib.AppendStr
import Derived.ArgAppend
import Derived.Laws.IdiomCopy
import Derived.OrdersHeld
import Derived.Laws.BitsLemmas
import Derived.RowKit
import Derived.Test.YtboicfocaoohmaaWWords
import Derived.Test.YtboicfocaoohmaaWLast
import Derived.Test.YtboicfocaoohmaaWTab
import Derived.Test.YtboicfocaoohmaaWFour
import Derived.Test.YtboicfocaoohmaaWQPut
import Derived.Test.YtboicfocaoohmaaWApart
import Derived.Test.YtboicfocaoohmaaWArr
import Derived.Test.YtboicfocaoohmaaWZeros
import Derived.Test.YtboicfocaoohmaaWFoot
import Derived.Test.YtboicfocaoohmaaWKept
import Derived.Test.YtboicfocaoohmaaWShare
import Derived.Test.YtboicfocaoohmaaWN
import Derived.Test.YtboicfocaoohmaaWFootNe
import Derived.Test.YtboicfocaoohmaaWAt
import Derived.Test.YtboicfocaoohmaaWEqStruct
import Derived.Test.YtboicfocaoohmaaWRepsOne
import Derived.Test.YtboicfocaoohmaaWInv
import Derived.Test.YtboicfocaoohmaaWInvWords
import Derived.Test.YtboicfocaoohmaaWGuard
import Derived.Test.YtboicfocaoohmaaWNEv
import Derived.Test.YtboicfocaoohmaaWMore
import Derived.Test.YtboicfocaoohmaaXWords
namespace Go.Proofs.Ytboicfocaoohmaa.XFnExactWasteOf
open Go.RowKit Go.Proofs.YtboicfocaoohmaaW.PrintWords Go.Proofs.YtboicfocaoohmaaW.PrintLast Go.Proofs.YtboicfocaoohmaaW.PrintMore
attribute [local go_sem] max2_int min2_int max_two min_two max_three min_three max_four min_four   -- for this text's walks alone
set_option linter.unusedVariables false
set_option linter.unusedSimpArgs false



def errW : Option Int → Value
  | none => .nilIface
  | some c => .iface 0 (.int .i64 c)
theorem errW_none : errW none = .nilIface := rfl
theorem errW_some (c : Int) : errW (some c) = .iface 0 (.int .i64 c) := rfl

theorem info2 : (Try.prog.info? 2).map (fun i => (i.zero, i.size, i.bytes)) = some (some (.int .i64 0), 1, 8) := by kernel_rfl
theorem info41 : (Try.prog.info? 41).map (fun i => (i.zero, i.size, i.bytes)) = some (some (.int .i16 0), 1, 2) := by kernel_rfl
-- the values' own types

end Go.Proofs.Ytboicfocaoohmaa.XFnExactWasteOf
