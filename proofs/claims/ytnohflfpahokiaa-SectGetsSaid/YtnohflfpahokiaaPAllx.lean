/- Functions of the translation as plain Lean functions, and for each the proof that the machine's call does what that function says (laid by wip/tools/myprint.py of this session, by way of the print). -/
import Derived.Test.YtnohflfpahokiaaPAllx0
import Derived.Test.YtnohflfpahokiaaPAllx1
import Derived.Test.YtnohflfpahokiaaPAllx2
import Derived.Test.YtnohflfpahokiaaPAllx3
import Derived.Test.YtnohflfpahokiaaPAllx4
namespace Go.Proofs.Ytnohflfpahokiaa.PAll
open Go.RowKit Go.Proofs.YtnohflfpahokiaaW.PrintWords Go.Proofs.YtnohflfpahokiaaW.PrintLast Go.Proofs.YtnohflfpahokiaaW.PrintMore
attribute [local go_sem] max2_int min2_int max_two min_two max_three min_three max_four min_four   -- for this text's walks alone
set_option linter.unusedVariables false
set_option linter.unusedSimpArgs false

end Go.Proofs.Ytnohflfpahokiaa.PAll
