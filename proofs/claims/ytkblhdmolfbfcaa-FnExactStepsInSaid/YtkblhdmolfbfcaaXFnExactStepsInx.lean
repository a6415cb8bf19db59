/- Printed by this repository's own program (wip/tools/xprint.py) for the law FnExactStepsIn: Lean functions that say what the Go functions compute, and the proofs that the machine comes to just that; no condition beyond those in each statement. -/
import Derived.Test.YtkblhdmolfbfcaaXFnExactStepsInx0
import Derived.Test.YtkblhdmolfbfcaaXFnExactStepsInx1
import Derived.Test.YtkblhdmolfbfcaaXFnExactStepsInx2
import Derived.Test.YtkblhdmolfbfcaaXFnExactStepsInx3
import Derived.Test.YtkblhdmolfbfcaaXFnExactStepsInx4
namespace Go.Proofs.Ytkblhdmolfbfcaa.XFnExactStepsIn
open Go.RowKit Go.Proofs.YtkblhdmolfbfcaaW.PrintWords Go.Proofs.YtkblhdmolfbfcaaW.PrintLast Go.Proofs.YtkblhdmolfbfcaaW.PrintMore
attribute [local go_sem] max2_int min2_int max_two min_two max_three min_three max_four min_four   -- for this text's walks alone
set_option linter.unusedVariables false
set_option linter.unusedSimpArgs false

end Go.Proofs.Ytkblhdmolfbfcaa.XFnExactStepsIn
