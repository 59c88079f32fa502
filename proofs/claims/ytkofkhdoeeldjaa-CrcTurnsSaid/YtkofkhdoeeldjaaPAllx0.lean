/- Functions of the translation as plain Lean functions, and for each the proof that the machine's call does what that function says (laid by wip/tools/myprint.py of this session, by way of the print). -/
import Derived.Test.YtkofkhdoeeldjaaProg
import Derived.Below
import Derived.Deep.Draws
import Derived.Deep.AppendLies
import Derived.Maps.AppendAt
import Derived.OwnWalk
import Derived.Laws.BytesArg
import Derived.Laws.MakeOwn
import Derived.Laws.OwnMore
import Derived.Deep.OwnRows
import Derived.Tactics
import Derived.Lib.ConvBytes
import Derived.Laws.Slices
import Derived.WalkKit
import Derived.KernelRfl
import Derived.RowKit3
import Derived.Deep.LoopGhost
import Derived.Deep.QuietTactic
import Derived.BigQuiet
import Derived.WideLaws
import Derived.Deep.DeepCutAuto
import Derived.Deep.CutBlock
import Derived.Deep.RegionHeld3
import Derived.Laws.Rows
import Derived.Lib.AppendStr
import Derived.ArgAppend
import Derived.Laws.IdiomCopy
import Derived.OrdersHeld
import Derived.Laws.BitsLemmas
import Derived.RowKit
import Derived.Test.YtkofkhdoeeldjaaWWords
import Derived.Test.YtkofkhdoeeldjaaWLast
import Derived.Test.YtkofkhdoeeldjaaWTab
import Derived.Test.YtkofkhdoeeldjaaWFour
import Derived.Test.YtkofkhdoeeldjaaWQPut
import Derived.Test.YtkofkhdoeeldjaaWApart
import Derived.Test.YtkofkhdoeeldjaaWArr
import Derived.Test.YtkofkhdoeeldjaaWZeros
import Derived.Test.YtkofkhdoeeldjaaWFoot
import Derived.Test.YtkofkhdoeeldjaaWKept
import Derived.Test.YtkofkhdoeeldjaaWShare
import Derived.Test.YtkofkhdoeeldjaaWN
import Derived.Test.YtkofkhdoeeldjaaWFootNe
import Derived.Test.YtkofkhdoeeldjaaWAt
import Derived.Test.YtkofkhdoeeldjaaWEqStruct
import Derived.Test.YtkofkhdoeeldjaaWRepsOne
import Derived.Test.YtkofkhdoeeldjaaWInv
import Derived.Test.YtkofkhdoeeldjaaWInvWords
import Derived.Test.YtkofkhdoeeldjaaWGuard
import Derived.Test.YtkofkhdoeeldjaaWNEv
import Derived.Test.YtkofkhdoeeldjaaWMore
import Derived.Test.YtkofkhdoeeldjaaMine
import Derived.Test.YtkofkhdoeeldjaaWalks2
import Derived.Lib.SlBytesConst
namespace Go.Proofs.Ytkofkhdoeeldjaa.PAll
open Go.RowKit Go.Proofs.YtkofkhdoeeldjaaW.PrintWords Go.Proofs.YtkofkhdoeeldjaaW.PrintLast Go.Proofs.YtkofkhdoeeldjaaW.PrintMore
attribute [local go_sem] max2_int min2_int max_two min_two max_three min_three max_four min_four   -- for this text's walks alone
set_option linter.unusedVariables false
set_option linter.unusedSimpArgs false



def errW : Option Int → Value
  | none => .nilIface
  | some c => .iface 0 (.int .i64 c)
theorem errW_none : errW none = .nilIface := rfl
theorem errW_some (c : Int) : errW (some c) = .iface 0 (.int .i64 c) := rfl

theorem info5 : (Try.prog.info? 5).map (fun i => (i.zero, i.size, i.bytes)) = some (some (.int .u8 0), 1, 1) := by kernel_rfl
-- the values' own types

end Go.Proofs.Ytkofkhdoeeldjaa.PAll
