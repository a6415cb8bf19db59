/- Printed by this repository's own program (wip/tools/xprint.py) for the law FnExactDrawStrokes: Lean functions that say what the Go functions compute, and the proofs that the machine comes to just that; no condition beyond those in each statement. -/
import Derived.Test.YtkgeppbjfkhjcaaXFnExactDrawStrokesx0
import Derived.Test.YtkgeppbjfkhjcaaXFnExactDrawStrokesx1
import Derived.Test.YtkgeppbjfkhjcaaXFnExactDrawStrokesx2
import Derived.Test.YtkgeppbjfkhjcaaXFnExactDrawStrokesx3
import Derived.Test.YtkgeppbjfkhjcaaXFnExactDrawStrokesx4
import Derived.Test.YtkgeppbjfkhjcaaXFnExactDrawStrokesx5
import Derived.Test.YtkgeppbjfkhjcaaXFnExactDrawStrokesx6
import Derived.Test.YtkgeppbjfkhjcaaXFnExactDrawStrokesx7
import Derived.Test.YtkgeppbjfkhjcaaXFnExactDrawStrokesx8
import Derived.Test.YtkgeppbjfkhjcaaXFnExactDrawStrokesx9
import Derived.Test.YtkgeppbjfkhjcaaXFnExactDrawStrokesx10
namespace Go.Proofs.Ytkgeppbjfkhjcaa.XFnExactDrawStrokes
open Go.RowKit Go.Proofs.YtkgeppbjfkhjcaaW.PrintWords Go.Proofs.YtkgeppbjfkhjcaaW.PrintLast Go.Proofs.YtkgeppbjfkhjcaaW.PrintMore
attribute [local go_sem] max2_int min2_int max_two min_two max_three min_three max_four min_four   -- for this text's walks alone
set_option linter.unusedVariables false
set_option linter.unusedSimpArgs false

end Go.Proofs.Ytkgeppbjfkhjcaa.XFnExactDrawStrokes
