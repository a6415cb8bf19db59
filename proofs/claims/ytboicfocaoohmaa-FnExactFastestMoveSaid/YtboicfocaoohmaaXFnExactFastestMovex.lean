/- Printed by this repository's own program (wip/tools/xprint.py) for the law FnExactFastestMove: Lean functions that say what the Go functions compute, and the proofs that the machine comes to just that; no condition beyond those in each statement. -/
import Derived.Test.YtboicfocaoohmaaXFnExactFastestMovex0
import Derived.Test.YtboicfocaoohmaaXFnExactFastestMovex1
import Derived.Test.YtboicfocaoohmaaXFnExactFastestMovex2
import Derived.Test.YtboicfocaoohmaaXFnExactFastestMovex3
import Derived.Test.YtboicfocaoohmaaXFnExactFastestMovex4
import Derived.Test.YtboicfocaoohmaaXFnExactFastestMovex5
import Derived.Test.YtboicfocaoohmaaXFnExactFastestMovex6
import Derived.Test.YtboicfocaoohmaaXFnExactFastestMovex7
namespace Go.Proofs.Ytboicfocaoohmaa.XFnExactFastestMove
open Go.RowKit Go.Proofs.YtboicfocaoohmaaW.PrintWords Go.Proofs.YtboicfocaoohmaaW.PrintLast Go.Proofs.YtboicfocaoohmaaW.PrintMore
attribute [local go_sem] max2_int min2_int max_two min_two max_three min_three max_four min_four   -- for this text's walks alone
set_option linter.unusedVariables false
set_option linter.unusedSimpArgs false

end Go.Proofs.Ytboicfocaoohmaa.XFnExactFastestMove
