/- Printed by this repository's own program (wip/tools/xprint.py) for the law FnExactStopsOf: Lean functions that say what the Go functions compute, and the proofs that the machine comes to just that; no condition beyond those in each statement. -/
import Derived.Test.YtboicfocaoohmaaXFnExactStopsOfx0
import Derived.Test.YtboicfocaoohmaaXFnExactStopsOfx1
import Derived.Test.YtboicfocaoohmaaXFnExactStopsOfx2
import Derived.Test.YtboicfocaoohmaaXFnExactStopsOfx3
import Derived.Test.YtboicfocaoohmaaXFnExactStopsOfx4
import Derived.Test.YtboicfocaoohmaaXFnExactStopsOfx5
import Derived.Test.YtboicfocaoohmaaXFnExactStopsOfx6
import Derived.Test.YtboicfocaoohmaaXFnExactStopsOfx7
import Derived.Test.YtboicfocaoohmaaXFnExactStopsOfx8
namespace Go.Proofs.Ytboicfocaoohmaa.XFnExactStopsOf
open Go.RowKit Go.Proofs.YtboicfocaoohmaaW.PrintWords Go.Proofs.YtboicfocaoohmaaW.PrintLast Go.Proofs.YtboicfocaoohmaaW.PrintMore
attribute [local go_sem] max2_int min2_int max_two min_two max_three min_three max_four min_four   -- for this text's walks alone
set_option linter.unusedVariables false
set_option linter.unusedSimpArgs false

end Go.Proofs.Ytboicfocaoohmaa.XFnExactStopsOf
