/- Printed by this repository's own program (wip/tools/xprint.py) for the law FnExactMachineFor: Lean functions that say what the Go functions compute, and the proofs that the machine comes to just that; no condition beyond those in each statement. -/
import Derived.Test.YtnjcmalmnofbmaaXFnExactMachineForx0
import Derived.Test.YtnjcmalmnofbmaaXFnExactMachineForx1
import Derived.Test.YtnjcmalmnofbmaaXFnExactMachineForx2
import Derived.Test.YtnjcmalmnofbmaaXFnExactMachineForx3
import Derived.Test.YtnjcmalmnofbmaaXFnExactMachineForx4
import Derived.Test.YtnjcmalmnofbmaaXFnExactMachineForx5
import Derived.Test.YtnjcmalmnofbmaaXFnExactMachineForx6
import Derived.Test.YtnjcmalmnofbmaaXFnExactMachineForx7
namespace Go.Proofs.Ytnjcmalmnofbmaa.XFnExactMachineFor
open Go.RowKit Go.Proofs.YtnjcmalmnofbmaaW.PrintWords Go.Proofs.YtnjcmalmnofbmaaW.PrintLast Go.Proofs.YtnjcmalmnofbmaaW.PrintMore
attribute [local go_sem] max2_int min2_int max_two min_two max_three min_three max_four min_four   -- for this text's walks alone
set_option linter.unusedVariables false
set_option linter.unusedSimpArgs false

end Go.Proofs.Ytnjcmalmnofbmaa.XFnExactMachineFor
