/- Functions of the translation as plain Lean functions, and for each the proof that the machine's call does what that function says (laid by wip/tools/myprint.py of this session, by way of the print). -/
import Derived.Test.YtgecigndgkcpkaaProg
import Derived.Below
import Derived.Deep.Draws
import Derived.Deep.AppendLies
import Derived.Maps.AppendAt
import Derived.OwnWalk
import Derived.Laws.BytesArg
import Derived.Laws.MakeOwn
import Derived.Laws.OwnMore
import Derived.Deep.OwnRows
import Derived.Tactics
import Derived.Lib.ConvBytes
import Derived.Laws.Slices
import Derived.WalkKit
import Derived.KernelRfl
import Derived.RowKit3
import Derived.Deep.LoopGhost
import Derived.Deep.QuietTactic
import Derived.BigQuiet
import Derived.WideLaws
import Derived.Deep.DeepCutAuto
import Derived.Deep.CutBlock
import Derived.Deep.RegionHeld3
import Derived.Laws.Rows
import Derived.Lib.AppendStr
import Derived.ArgAppend
import Derived.Laws.IdiomCopy
import Derived.OrdersHeld
import Derived.Laws.BitsLemmas
import Derived.RowKit
import Derived.Test.YtgecigndgkcpkaaWWords
import Derived.Test.YtgecigndgkcpkaaWLast
import Derived.Test.YtgecigndgkcpkaaWTab
import Derived.Test.YtgecigndgkcpkaaWFour
import Derived.Test.YtgecigndgkcpkaaWQPut
import Derived.Test.YtgecigndgkcpkaaWApart
import Derived.Test.YtgecigndgkcpkaaWArr
import Derived.Test.YtgecigndgkcpkaaWZeros
import Derived.Test.YtgecigndgkcpkaaWFoot
import Derived.Test.YtgecigndgkcpkaaWKept
import Derived.Test.YtgecigndgkcpkaaWShare
import Derived.Test.YtgecigndgkcpkaaWN
import Derived.Test.YtgecigndgkcpkaaWFootNe
import Derived.Test.YtgecigndgkcpkaaWAt
import Derived.Test.YtgecigndgkcpkaaWEqStruct
import Derived.Test.YtgecigndgkcpkaaWRepsOne
import Derived.Test.YtgecigndgkcpkaaWInv
import Derived.Test.YtgecigndgkcpkaaWInvWords
import Derived.Test.YtgecigndgkcpkaaWGuard
import Derived.Test.YtgecigndgkcpkaaWNEv
import Derived.Test.YtgecigndgkcpkaaWMore
import Derived.Test.YtgecigndgkcpkaaMine
import Derived.Test.YtgecigndgkcpkaaKey
import Derived.Test.YtgecigndgkcpkaaLebM
namespace Go.Proofs.Ytgecigndgkcpkaa.PAll
open Go.RowKit Go.Proofs.YtgecigndgkcpkaaW.PrintWords Go.Proofs.YtgecigndgkcpkaaW.PrintLast Go.Proofs.YtgecigndgkcpkaaW.PrintMore
attribute [local go_sem] max2_int min2_int max_two min_two max_three min_three max_four min_four   -- for this text's walks alone
set_option linter.unusedVariables false
set_option linter.unusedSimpArgs false



def errW : Option Int → Value
  | none => .nilIface
  | some c => .iface 0 (.int .i64 c)
theorem errW_none : errW none = .nilIface := rfl
theorem errW_some (c : Int) : errW (some c) = .iface 0 (.int .i64 c) := rfl

theorem info5 : (Try.prog.info? 5).map (fun i => (i.zero, i.size, i.bytes)) = some (some (.int .u8 0), 1, 1) := by kernel_rfl
theorem info9 : (Try.prog.info? 9).map (fun i => (i.zero, i.size, i.bytes)) = some (some (.string ⟨#[]⟩), 1, 16) := by kernel_rfl
-- the values' own types

end Go.Proofs.Ytgecigndgkcpkaa.PAll
