/- Printed by this repository's own program (wip/tools/xprint.py) for the law FnExactCheckReach: Lean functions that say what the Go functions compute, and the proofs that the machine comes to just that; no condition beyond those in each statement. -/
import Derived.Test.YtkgeppbjfkhjcaaXFnExactCheckReachx0
import Derived.Test.YtkgeppbjfkhjcaaXFnExactCheckReachx1
import Derived.Test.YtkgeppbjfkhjcaaXFnExactCheckReachx2
import Derived.Test.YtkgeppbjfkhjcaaXFnExactCheckReachx3
import Derived.Test.YtkgeppbjfkhjcaaXFnExactCheckReachx4
import Derived.Test.YtkgeppbjfkhjcaaXFnExactCheckReachx5
import Derived.Test.YtkgeppbjfkhjcaaXFnExactCheckReachx6
import Derived.Test.YtkgeppbjfkhjcaaXFnExactCheckReachx7
import Derived.Test.YtkgeppbjfkhjcaaXFnExactCheckReachx8
import Derived.Test.YtkgeppbjfkhjcaaXFnExactCheckReachx9
namespace Go.Proofs.Ytkgeppbjfkhjcaa.XFnExactCheckReach
open Go.RowKit Go.Proofs.YtkgeppbjfkhjcaaW.PrintWords Go.Proofs.YtkgeppbjfkhjcaaW.PrintLast Go.Proofs.YtkgeppbjfkhjcaaW.PrintMore
attribute [local go_sem] max2_int min2_int max_two min_two max_three min_three max_four min_four   -- for this text's walks alone
set_option linter.unusedVariables false
set_option linter.unusedSimpArgs false

end Go.Proofs.Ytkgeppbjfkhjcaa.XFnExactCheckReach
