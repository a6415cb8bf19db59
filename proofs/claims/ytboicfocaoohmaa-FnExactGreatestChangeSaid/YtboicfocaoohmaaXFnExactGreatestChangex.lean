/- Printed by this repository's own program (wip/tools/xprint.py) for the law FnExactGreatestChange: Lean functions that say what the Go functions compute, and the proofs that the machine comes to just that; no condition beyond those in each statement. -/
import Derived.Test.YtboicfocaoohmaaXFnExactGreatestChangex0
import Derived.Test.YtboicfocaoohmaaXFnExactGreatestChangex1
import Derived.Test.YtboicfocaoohmaaXFnExactGreatestChangex2
import Derived.Test.YtboicfocaoohmaaXFnExactGreatestChangex3
import Derived.Test.YtboicfocaoohmaaXFnExactGreatestChangex4
import Derived.Test.YtboicfocaoohmaaXFnExactGreatestChangex5
import Derived.Test.YtboicfocaoohmaaXFnExactGreatestChangex6
namespace Go.Proofs.Ytboicfocaoohmaa.XFnExactGreatestChange
open Go.RowKit Go.Proofs.YtboicfocaoohmaaW.PrintWords Go.Proofs.YtboicfocaoohmaaW.PrintLast Go.Proofs.YtboicfocaoohmaaW.PrintMore
attribute [local go_sem] max2_int min2_int max_two min_two max_three min_three max_four min_four   -- for this text's walks alone
set_option linter.unusedVariables false
set_option linter.unusedSimpArgs false

end Go.Proofs.Ytboicfocaoohmaa.XFnExactGreatestChange
