/- Functions of the translation as plain Lean functions, and for each the proof that the machine's call does what that function says (laid by wip/tools/myprint.py of this session, by way of the print). -/
import Derived.Test.YtjanjpchdjagjaaPAllx0
import Derived.Test.YtjanjpchdjagjaaPAllx1
import Derived.Test.YtjanjpchdjagjaaPAllx2
namespace Go.Proofs.Ytjanjpchdjagjaa.PAll
open Go.RowKit Go.Proofs.YtjanjpchdjagjaaW.PrintWords Go.Proofs.YtjanjpchdjagjaaW.PrintLast Go.Proofs.YtjanjpchdjagjaaW.PrintMore
attribute [local go_sem] max2_int min2_int max_two min_two max_three min_three max_four min_four   -- for this text's walks alone
set_option linter.unusedVariables false
set_option linter.unusedSimpArgs false

end Go.Proofs.Ytjanjpchdjagjaa.PAll
