/- Printed by this repository's own program (wip/tools/xprint.py) for the law FnExactLeastBase: Lean functions that say what the Go functions compute, and the proofs that the machine comes to just that; no condition beyond those in each statement. -/
import Derived.Test.YtmklaccobbkebaaXFnExactLeastBasex0
import Derived.Test.YtmklaccobbkebaaXFnExactLeastBasex1
import Derived.Test.YtmklaccobbkebaaXFnExactLeastBasex2
import Derived.Test.YtmklaccobbkebaaXFnExactLeastBasex3
namespace Go.Proofs.Ytmklaccobbkebaa.XFnExactLeastBase
open Go.RowKit Go.Proofs.YtmklaccobbkebaaW.PrintWords Go.Proofs.YtmklaccobbkebaaW.PrintLast Go.Proofs.YtmklaccobbkebaaW.PrintMore
attribute [local go_sem] max2_int min2_int max_two min_two max_three min_three max_four min_four   -- for this text's walks alone
set_option linter.unusedVariables false
set_option linter.unusedSimpArgs false

end Go.Proofs.Ytmklaccobbkebaa.XFnExactLeastBase
