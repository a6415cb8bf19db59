/- Printed by this repository's own program (wip/tools/xprint.py) for the law FnExactRaiseProgram: Lean functions that say what the Go functions compute, and the proofs that the machine comes to just that; no condition beyond those in each statement. -/
import Derived.Test.YtbobbihbikocbaaXFnExactRaiseProgramx0
import Derived.Test.YtbobbihbikocbaaXFnExactRaiseProgramx1
import Derived.Test.YtbobbihbikocbaaXFnExactRaiseProgramx2
import Derived.Test.YtbobbihbikocbaaXFnExactRaiseProgramx3
import Derived.Test.YtbobbihbikocbaaXFnExactRaiseProgramx4
import Derived.Test.YtbobbihbikocbaaXFnExactRaiseProgramx5
import Derived.Test.YtbobbihbikocbaaXFnExactRaiseProgramx6
namespace Go.Proofs.Ytbobbihbikocbaa.XFnExactRaiseProgram
open Go.RowKit Go.Proofs.YtbobbihbikocbaaW.PrintWords Go.Proofs.YtbobbihbikocbaaW.PrintLast Go.Proofs.YtbobbihbikocbaaW.PrintMore
attribute [local go_sem] max2_int min2_int max_two min_two max_three min_three max_four min_four   -- for this text's walks alone
set_option linter.unusedVariables false
set_option linter.unusedSimpArgs false

end Go.Proofs.Ytbobbihbikocbaa.XFnExactRaiseProgram
