/- Printed by this repository's own program (wip/tools/xprint.py) for the law FnExactWearCam: Lean functions that say what the Go functions compute, and the proofs that the machine comes to just that; no condition beyond those in each statement. -/
import Derived.Test.YtbobbihbikocbabXFnExactWearCamx0
import Derived.Test.YtbobbihbikocbabXFnExactWearCamx1
import Derived.Test.YtbobbihbikocbabXFnExactWearCamx2
import Derived.Test.YtbobbihbikocbabXFnExactWearCamx3
import Derived.Test.YtbobbihbikocbabXFnExactWearCamx4
import Derived.Test.YtbobbihbikocbabXFnExactWearCamx5
import Derived.Test.YtbobbihbikocbabXFnExactWearCamx6
import Derived.Test.YtbobbihbikocbabXFnExactWearCamx7
namespace Go.Proofs.Ytbobbihbikocbab.XFnExactWearCam
open Go.RowKit Go.Proofs.YtbobbihbikocbabW.PrintWords Go.Proofs.YtbobbihbikocbabW.PrintLast Go.Proofs.YtbobbihbikocbabW.PrintMore
attribute [local go_sem] max2_int min2_int max_two min_two max_three min_three max_four min_four   -- for this text's walks alone
set_option linter.unusedVariables false
set_option linter.unusedSimpArgs false

end Go.Proofs.Ytbobbihbikocbab.XFnExactWearCam
