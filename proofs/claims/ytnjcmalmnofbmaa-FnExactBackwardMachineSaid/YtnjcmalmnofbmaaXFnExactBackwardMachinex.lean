/- Printed by this repository's own program (wip/tools/xprint.py) for the law FnExactBackwardMachine: Lean functions that say what the Go functions compute, and the proofs that the machine comes to just that; no condition beyond those in each statement. -/
import Derived.Test.YtnjcmalmnofbmaaXFnExactBackwardMachinex0
import Derived.Test.YtnjcmalmnofbmaaXFnExactBackwardMachinex1
import Derived.Test.YtnjcmalmnofbmaaXFnExactBackwardMachinex2
import Derived.Test.YtnjcmalmnofbmaaXFnExactBackwardMachinex3
import Derived.Test.YtnjcmalmnofbmaaXFnExactBackwardMachinex4
import Derived.Test.YtnjcmalmnofbmaaXFnExactBackwardMachinex5
import Derived.Test.YtnjcmalmnofbmaaXFnExactBackwardMachinex6
namespace Go.Proofs.Ytnjcmalmnofbmaa.XFnExactBackwardMachine
open Go.RowKit Go.Proofs.YtnjcmalmnofbmaaW.PrintWords Go.Proofs.YtnjcmalmnofbmaaW.PrintLast Go.Proofs.YtnjcmalmnofbmaaW.PrintMore
attribute [local go_sem] max2_int min2_int max_two min_two max_three min_three max_four min_four   -- for this text's walks alone
set_option linter.unusedVariables false
set_option linter.unusedSimpArgs false

end Go.Proofs.Ytnjcmalmnofbmaa.XFnExactBackwardMachine
