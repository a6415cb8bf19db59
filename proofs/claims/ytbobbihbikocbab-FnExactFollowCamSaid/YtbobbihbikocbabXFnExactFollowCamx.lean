/- Printed by this repository's own program (wip/tools/xprint.py) for the law FnExactFollowCam: Lean functions that say what the Go functions compute, and the proofs that the machine comes to just that; no condition beyond those in each statement. -/
import Derived.Test.YtbobbihbikocbabXFnExactFollowCamx0
import Derived.Test.YtbobbihbikocbabXFnExactFollowCamx1
import Derived.Test.YtbobbihbikocbabXFnExactFollowCamx2
import Derived.Test.YtbobbihbikocbabXFnExactFollowCamx3
import Derived.Test.YtbobbihbikocbabXFnExactFollowCamx4
import Derived.Test.YtbobbihbikocbabXFnExactFollowCamx5
namespace Go.Proofs.Ytbobbihbikocbab.XFnExactFollowCam
open Go.RowKit Go.Proofs.YtbobbihbikocbabW.PrintWords Go.Proofs.YtbobbihbikocbabW.PrintLast Go.Proofs.YtbobbihbikocbabW.PrintMore
attribute [local go_sem] max2_int min2_int max_two min_two max_three min_three max_four min_four   -- for this text's walks alone
set_option linter.unusedVariables false
set_option linter.unusedSimpArgs false

end Go.Proofs.Ytbobbihbikocbab.XFnExactFollowCam
