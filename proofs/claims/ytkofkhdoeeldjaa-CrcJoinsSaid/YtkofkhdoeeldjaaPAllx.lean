/- Functions of the translation as plain Lean functions, and for each the proof that the machine's call does what that function says (laid by wip/tools/myprint.py of this session, by way of the print). -/
import Derived.Test.YtkofkhdoeeldjaaPAllx0
import Derived.Test.YtkofkhdoeeldjaaPAllx1
import Derived.Test.YtkofkhdoeeldjaaPAllx2
import Derived.Test.YtkofkhdoeeldjaaPAllx3
namespace Go.Proofs.Ytkofkhdoeeldjaa.PAll
open Go.RowKit Go.Proofs.YtkofkhdoeeldjaaW.PrintWords Go.Proofs.YtkofkhdoeeldjaaW.PrintLast Go.Proofs.YtkofkhdoeeldjaaW.PrintMore
attribute [local go_sem] max2_int min2_int max_two min_two max_three min_three max_four min_four   -- for this text's walks alone
set_option linter.unusedVariables false
set_option linter.unusedSimpArgs false

end Go.Proofs.Ytkofkhdoeeldjaa.PAll
