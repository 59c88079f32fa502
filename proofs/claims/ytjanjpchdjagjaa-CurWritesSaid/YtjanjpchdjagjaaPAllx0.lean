/- Functions of the translation as plain Lean functions, and for each the proof that the machine's call does what that function says (laid by wip/tools/myprint.py of this session, by way of the print). -/
import Derived.Test.YtjanjpchdjagjaaProg
import Derived.Below
import Derived.Deep.Draws
import Derived.Deep.AppendLies
import Derived.Maps.AppendAt
import Derived.OwnWalk
import Derived.Laws.BytesArg
import Derived.Laws.MakeOwn
import Derived.Laws.OwnMore
import Derived.Deep.OwnRows
import Derived.Tactics
import Derived.Lib.ConvBytes
import Derived.Laws.Slices
import Derived.WalkKit
import Derived.KernelRfl
import Derived.RowKit3
import Derived.Deep.LoopGhost
import Derived.Deep.QuietTactic
import Derived.BigQuiet
import Derived.WideLaws
import Derived.Deep.DeepCutAuto
import Derived.Deep.CutBlock
import Derived.Deep.RegionHeld3
import Derived.Laws.Rows
import Derived.Lib.AppendStr
import Derived.ArgAppend
import Derived.Laws.IdiomCopy
import Derived.OrdersHeld
import Derived.Laws.BitsLemmas
import Derived.RowKit
import Derived.Test.YtjanjpchdjagjaaWWords
import Derived.Test.YtjanjpchdjagjaaWLast
import Derived.Test.YtjanjpchdjagjaaWTab
import Derived.Test.YtjanjpchdjagjaaWFour
import Derived.Test.YtjanjpchdjagjaaWQPut
import Derived.Test.YtjanjpchdjagjaaWApart
import Derived.Test.YtjanjpchdjagjaaWArr
import Derived.Test.YtjanjpchdjagjaaWZeros
import Derived.Test.YtjanjpchdjagjaaWFoot
import Derived.Test.YtjanjpchdjagjaaWKept
import Derived.Test.YtjanjpchdjagjaaWShare
import Derived.Test.YtjanjpchdjagjaaWN
import Derived.Test.YtjanjpchdjagjaaWFootNe
import Derived.Test.YtjanjpchdjagjaaWAt
import Derived.Test.YtjanjpchdjagjaaWEqStruct
import Derived.Test.YtjanjpchdjagjaaWRepsOne
import Derived.Test.YtjanjpchdjagjaaWInv
import Derived.Test.YtjanjpchdjagjaaWInvWords
import Derived.Test.YtjanjpchdjagjaaWGuard
import Derived.Test.YtjanjpchdjagjaaWNEv
import Derived.Test.YtjanjpchdjagjaaWMore
import Derived.Test.YtjanjpchdjagjaaMine
namespace Go.Proofs.Ytjanjpchdjagjaa.PAll
open Go.RowKit Go.Proofs.YtjanjpchdjagjaaW.PrintWords Go.Proofs.YtjanjpchdjagjaaW.PrintLast Go.Proofs.YtjanjpchdjagjaaW.PrintMore
attribute [local go_sem] max2_int min2_int max_two min_two max_three min_three max_four min_four   -- for this text's walks alone
set_option linter.unusedVariables false
set_option linter.unusedSimpArgs false



def errW : Option Int → Value
  | none => .nilIface
  | some c => .iface 0 (.int .i64 c)
theorem errW_none : errW none = .nilIface := rfl
theorem errW_some (c : Int) : errW (some c) = .iface 0 (.int .i64 c) := rfl

theorem info5 : (Try.prog.info? 5).map (fun i => (i.zero, i.size, i.bytes)) = some (some (.int .u8 0), 1, 1) := by kernel_rfl
-- the values' own types

end Go.Proofs.Ytjanjpchdjagjaa.PAll
