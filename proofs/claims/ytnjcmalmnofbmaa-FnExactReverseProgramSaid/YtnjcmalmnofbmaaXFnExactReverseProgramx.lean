/- Printed by this repository's own program (wip/tools/xprint.py) for the law FnExactReverseProgram: Lean functions that say what the Go functions compute, and the proofs that the machine comes to just that; no condition beyond those in each statement. -/
import Derived.Test.YtnjcmalmnofbmaaXFnExactReverseProgramx0
import Derived.Test.YtnjcmalmnofbmaaXFnExactReverseProgramx1
import Derived.Test.YtnjcmalmnofbmaaXFnExactReverseProgramx2
import Derived.Test.YtnjcmalmnofbmaaXFnExactReverseProgramx3
import Derived.Test.YtnjcmalmnofbmaaXFnExactReverseProgramx4
import Derived.Test.YtnjcmalmnofbmaaXFnExactReverseProgramx5
import Derived.Test.YtnjcmalmnofbmaaXFnExactReverseProgramx6
namespace Go.Proofs.Ytnjcmalmnofbmaa.XFnExactReverseProgram
open Go.RowKit Go.Proofs.YtnjcmalmnofbmaaW.PrintWords Go.Proofs.YtnjcmalmnofbmaaW.PrintLast Go.Proofs.YtnjcmalmnofbmaaW.PrintMore
attribute [local go_sem] max2_int min2_int max_two min_two max_three min_three max_four min_four   -- for this text's walks alone
set_option linter.unusedVariables false
set_option linter.unusedSimpArgs false

end Go.Proofs.Ytnjcmalmnofbmaa.XFnExactReverseProgram
