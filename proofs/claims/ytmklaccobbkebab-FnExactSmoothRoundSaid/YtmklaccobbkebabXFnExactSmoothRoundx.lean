/- Printed by this repository's own program (wip/tools/xprint.py) for the law FnExactSmoothRound: Lean functions that say what the Go functions compute, and the proofs that the machine comes to just that; no condition beyond those in each statement. -/
import Derived.Test.YtmklaccobbkebabXFnExactSmoothRoundx0
import Derived.Test.YtmklaccobbkebabXFnExactSmoothRoundx1
import Derived.Test.YtmklaccobbkebabXFnExactSmoothRoundx2
import Derived.Test.YtmklaccobbkebabXFnExactSmoothRoundx3
import Derived.Test.YtmklaccobbkebabXFnExactSmoothRoundx4
namespace Go.Proofs.Ytmklaccobbkebab.XFnExactSmoothRound
open Go.RowKit Go.Proofs.YtmklaccobbkebabW.PrintWords Go.Proofs.YtmklaccobbkebabW.PrintLast Go.Proofs.YtmklaccobbkebabW.PrintMore
attribute [local go_sem] max2_int min2_int max_two min_two max_three min_three max_four min_four   -- for this text's walks alone
set_option linter.unusedVariables false
set_option linter.unusedSimpArgs false

end Go.Proofs.Ytmklaccobbkebab.XFnExactSmoothRound
