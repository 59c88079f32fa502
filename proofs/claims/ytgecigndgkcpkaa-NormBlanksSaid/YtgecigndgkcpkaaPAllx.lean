/- Functions of the translation as plain Lean functions, and for each the proof that the machine's call does what that function says (laid by wip/tools/myprint.py of this session, by way of the print). -/
import Derived.Test.YtgecigndgkcpkaaPAllx0
import Derived.Test.YtgecigndgkcpkaaPAllx1
import Derived.Test.YtgecigndgkcpkaaPAllx2
import Derived.Test.YtgecigndgkcpkaaPAllx3
import Derived.Test.YtgecigndgkcpkaaPAllx4
import Derived.Test.YtgecigndgkcpkaaPAllx5
import Derived.Test.YtgecigndgkcpkaaPAllx6
namespace Go.Proofs.Ytgecigndgkcpkaa.PAll
open Go.RowKit Go.Proofs.YtgecigndgkcpkaaW.PrintWords Go.Proofs.YtgecigndgkcpkaaW.PrintLast Go.Proofs.YtgecigndgkcpkaaW.PrintMore
attribute [local go_sem] max2_int min2_int max_two min_two max_three min_three max_four min_four   -- for this text's walks alone
set_option linter.unusedVariables false
set_option linter.unusedSimpArgs false

end Go.Proofs.Ytgecigndgkcpkaa.PAll
