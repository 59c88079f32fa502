/- Functions of the translation as plain Lean functions, and for each the proof that the machine's call does what that function says (laid by wip/tools/myprint.py of this session, by way of the print). -/
import Derived.Test.YtijbcfnkeahdoaaProg
import Derived.Below
import Derived.Deep.Draws
import Derived.Deep.AppendLies
import Derived.Maps.AppendAt
import Derived.OwnWalk
import Derived.Laws.BytesArg
import Derived.Laws.MakeOwn
import Derived.Laws.OwnMore
import Derived.Deep.OwnRows
import Derived.Tactics
import Derived.Lib.ConvBytes
import Derived.Laws.Slices
import Derived.WalkKit
import Derived.KernelRfl
import Derived.RowKit3
import Derived.Deep.LoopGhost
import Derived.Deep.QuietTactic
import Derived.BigQuiet
import Derived.WideLaws
import Derived.Deep.DeepCutAuto
import Derived.Deep.CutBlock
import Derived.Deep.RegionHeld3
import Derived.Laws.Rows
import Derived.Lib.AppendStr
import Derived.ArgAppend
import Derived.Laws.IdiomCopy
import Derived.OrdersHeld
import Derived.Laws.BitsLemmas
import Derived.RowKit
import Derived.Test.YtijbcfnkeahdoaaWWords
import Derived.Test.YtijbcfnkeahdoaaWLast
import Derived.Test.YtijbcfnkeahdoaaWTab
import Derived.Test.YtijbcfnkeahdoaaWFour
import Derived.Test.YtijbcfnkeahdoaaWQPut
import Derived.Test.YtijbcfnkeahdoaaWApart
import Derived.Test.YtijbcfnkeahdoaaWArr
import Derived.Test.YtijbcfnkeahdoaaWZeros
import Derived.Test.YtijbcfnkeahdoaaWFoot
import Derived.Test.YtijbcfnkeahdoaaWKept
import Derived.Test.YtijbcfnkeahdoaaWShare
import Derived.Test.YtijbcfnkeahdoaaWN
import Derived.Test.YtijbcfnkeahdoaaWFootNe
import Derived.Test.YtijbcfnkeahdoaaWAt
import Derived.Test.YtijbcfnkeahdoaaWEqStruct
import Derived.Test.YtijbcfnkeahdoaaWRepsOne
import Derived.Test.YtijbcfnkeahdoaaWInv
import Derived.Test.YtijbcfnkeahdoaaWInvWords
import Derived.Test.YtijbcfnkeahdoaaWGuard
import Derived.Test.YtijbcfnkeahdoaaWNEv
import Derived.Test.YtijbcfnkeahdoaaWMore
import Derived.Test.YtijbcfnkeahdoaaMine
import Derived.Test.YtijbcfnkeahdoaaFull
namespace Go.Proofs.Ytijbcfnkeahdoaa.PAll
open Go.RowKit Go.Proofs.YtijbcfnkeahdoaaW.PrintWords Go.Proofs.YtijbcfnkeahdoaaW.PrintLast Go.Proofs.YtijbcfnkeahdoaaW.PrintMore
attribute [local go_sem] max2_int min2_int max_two min_two max_three min_three max_four min_four   -- for this text's walks alone
set_option linter.unusedVariables false
set_option linter.unusedSimpArgs false



def errW : Option Int → Value
  | none => .nilIface
  | some c => .iface 0 (.int .i64 c)
theorem errW_none : errW none = .nilIface := rfl
theorem errW_some (c : Int) : errW (some c) = .iface 0 (.int .i64 c) := rfl

-- the values' own types

end Go.Proofs.Ytijbcfnkeahdoaa.PAll
