/- Printed by this repository's own program (wip/tools/xprint.py) for the law FnExactStepOn: Lean functions that say what the Go functions compute, and the proofs that the machine comes to just that; no condition beyond those in each statement. -/
import Derived.Test.YtmklaccobbkebabXFnExactStepOnx0
import Derived.Test.YtmklaccobbkebabXFnExactStepOnx1
import Derived.Test.YtmklaccobbkebabXFnExactStepOnx2
import Derived.Test.YtmklaccobbkebabXFnExactStepOnx3
import Derived.Test.YtmklaccobbkebabXFnExactStepOnx4
import Derived.Test.YtmklaccobbkebabXFnExactStepOnx5
import Derived.Test.YtmklaccobbkebabXFnExactStepOnx6
namespace Go.Proofs.Ytmklaccobbkebab.XFnExactStepOn
open Go.RowKit Go.Proofs.YtmklaccobbkebabW.PrintWords Go.Proofs.YtmklaccobbkebabW.PrintLast Go.Proofs.YtmklaccobbkebabW.PrintMore
attribute [local go_sem] max2_int min2_int max_two min_two max_three min_three max_four min_four   -- for this text's walks alone
set_option linter.unusedVariables false
set_option linter.unusedSimpArgs false

end Go.Proofs.Ytmklaccobbkebab.XFnExactStepOn
