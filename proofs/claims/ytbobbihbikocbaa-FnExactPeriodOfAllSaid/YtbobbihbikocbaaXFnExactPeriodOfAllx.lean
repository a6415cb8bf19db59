/- Printed by this repository's own program (wip/tools/xprint.py) for the law FnExactPeriodOfAll: Lean functions that say what the Go functions compute, and the proofs that the machine comes to just that; no condition beyond those in each statement. -/
import Derived.Test.YtbobbihbikocbaaXFnExactPeriodOfAllx0
import Derived.Test.YtbobbihbikocbaaXFnExactPeriodOfAllx1
import Derived.Test.YtbobbihbikocbaaXFnExactPeriodOfAllx2
import Derived.Test.YtbobbihbikocbaaXFnExactPeriodOfAllx3
import Derived.Test.YtbobbihbikocbaaXFnExactPeriodOfAllx4
import Derived.Test.YtbobbihbikocbaaXFnExactPeriodOfAllx5
import Derived.Test.YtbobbihbikocbaaXFnExactPeriodOfAllx6
namespace Go.Proofs.Ytbobbihbikocbaa.XFnExactPeriodOfAll
open Go.RowKit Go.Proofs.YtbobbihbikocbaaW.PrintWords Go.Proofs.YtbobbihbikocbaaW.PrintLast Go.Proofs.YtbobbihbikocbaaW.PrintMore
attribute [local go_sem] max2_int min2_int max_two min_two max_three min_three max_four min_four   -- for this text's walks alone
set_option linter.unusedVariables false
set_option linter.unusedSimpArgs false

end Go.Proofs.Ytbobbihbikocbaa.XFnExactPeriodOfAll
