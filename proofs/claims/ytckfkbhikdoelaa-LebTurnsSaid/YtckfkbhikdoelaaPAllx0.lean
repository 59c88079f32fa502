/- Functions of the translation as plain Lean functions, and for each the proof that the machine's call does what that function says (laid by wip/tools/myprint.py of this session, by way of the print). -/
import Derived.Test.YtckfkbhikdoelaaProg
import Derived.Below
import Derived.Deep.Draws
import Derived.Deep.AppendLies
import Derived.Maps.AppendAt
import Derived.OwnWalk
import Derived.Laws.BytesArg
import Derived.Laws.MakeOwn
import Derived.Laws.OwnMore
import Derived.Deep.OwnRows
import Derived.Tactics
import Derived.Lib.ConvBytes
import Derived.Laws.Slices
import Derived.WalkKit
import Derived.KernelRfl
import Derived.RowKit3
import Derived.Deep.LoopGhost
import Derived.Deep.QuietTactic
import Derived.BigQuiet
import Derived.WideLaws
import Derived.Deep.DeepCutAuto
import Derived.Deep.CutBlock
import Derived.Deep.RegionHeld3
import Derived.Laws.Rows
import Derived.Lib.AppendStr
import Derived.ArgAppend
import Derived.Laws.IdiomCopy
import Derived.OrdersHeld
import Derived.Laws.BitsLemmas
import Derived.RowKit
import Derived.Test.YtckfkbhikdoelaaWWords
import Derived.Test.YtckfkbhikdoelaaWLast
import Derived.Test.YtckfkbhikdoelaaWTab
import Derived.Test.YtckfkbhikdoelaaWFour
import Derived.Test.YtckfkbhikdoelaaWQPut
import Derived.Test.YtckfkbhikdoelaaWApart
import Derived.Test.YtckfkbhikdoelaaWArr
import Derived.Test.YtckfkbhikdoelaaWZeros
import Derived.Test.YtckfkbhikdoelaaWFoot
import Derived.Test.YtckfkbhikdoelaaWKept
import Derived.Test.YtckfkbhikdoelaaWShare
import Derived.Test.YtckfkbhikdoelaaWN
import Derived.Test.YtckfkbhikdoelaaWFootNe
import Derived.Test.YtckfkbhikdoelaaWAt
import Derived.Test.YtckfkbhikdoelaaWEqStruct
import Derived.Test.YtckfkbhikdoelaaWRepsOne
import Derived.Test.YtckfkbhikdoelaaWInv
import Derived.Test.YtckfkbhikdoelaaWInvWords
import Derived.Test.YtckfkbhikdoelaaWGuard
import Derived.Test.YtckfkbhikdoelaaWNEv
import Derived.Test.YtckfkbhikdoelaaWMore
import Derived.Test.YtckfkbhikdoelaaMine
namespace Go.Proofs.Ytckfkbhikdoelaa.PAll
open Go.RowKit Go.Proofs.YtckfkbhikdoelaaW.PrintWords Go.Proofs.YtckfkbhikdoelaaW.PrintLast Go.Proofs.YtckfkbhikdoelaaW.PrintMore
attribute [local go_sem] max2_int min2_int max_two min_two max_three min_three max_four min_four   -- for this text's walks alone
set_option linter.unusedVariables false
set_option linter.unusedSimpArgs false



def errW : Option Int → Value
  | none => .nilIface
  | some c => .iface 0 (.int .i64 c)
theorem errW_none : errW none = .nilIface := rfl
theorem errW_some (c : Int) : errW (some c) = .iface 0 (.int .i64 c) := rfl

theorem info5 : (Try.prog.info? 5).map (fun i => (i.zero, i.size, i.bytes)) = some (some (.int .u8 0), 1, 1) := by kernel_rfl
-- the values' own types

end Go.Proofs.Ytckfkbhikdoelaa.PAll
