/- Functions of the translation as plain Lean functions, and for each the proof that the machine's call does what that function says (laid by wip/tools/myprint.py of this session, by way of the print). -/
import Derived.Test.YtckfkbhikdoelaaPAllx0
import Derived.Test.YtckfkbhikdoelaaPAllx1
import Derived.Test.YtckfkbhikdoelaaPAllx2
import Derived.Test.YtckfkbhikdoelaaPAllx3
import Derived.Test.YtckfkbhikdoelaaPAllx4
import Derived.Test.YtckfkbhikdoelaaPAllx5
namespace Go.Proofs.Ytckfkbhikdoelaa.PAll
open Go.RowKit Go.Proofs.YtckfkbhikdoelaaW.PrintWords Go.Proofs.YtckfkbhikdoelaaW.PrintLast Go.Proofs.YtckfkbhikdoelaaW.PrintMore
attribute [local go_sem] max2_int min2_int max_two min_two max_three min_three max_four min_four   -- for this text's walks alone
set_option linter.unusedVariables false
set_option linter.unusedSimpArgs false

end Go.Proofs.Ytckfkbhikdoelaa.PAll
