/- CrcSums: the program's sum of any bytes, and of any sum with bytes behind it, is the document's, and Whole tells whether a number is it. No condition. -/
import Derived.Test.YtkofkhdoeeldjaaPAllx1
import Derived.Test.YtkofkhdoeeldjaaBridge
set_option linter.unusedVariables false
set_option linter.unusedSimpArgs false
namespace Go.Proofs.Ytkofkhdoeeldjaa.Pure
open Go Go.RowKit Go.Proofs.Ytkofkhdoeeldjaa.PAll Go.Proofs.YtkofkhdoeeldjaaW.PrintWords Go.Proofs.YtkofkhdoeeldjaaW.PrintLast
open Go.Proofs.Ytkofkhdoeeldjaa Go.Proofs.Ytkofkhdoeeldjaa.Bridge

theorem CrcSums : warrantorlaw03_CrcSums.Pure := by
  intro l a hm hl hb ha
  have hb := bytes_of hb
  have ha := u32_of ha
  have hle : l.length ≤ 140737488355328 := by omega
  refine ⟨l.length + 10, ?_⟩
  have e1 := sum_ev hb hle (l.length + 10) (by omega)
  have e2 := rsum_ev hb hle (l.length + 10) (by omega)
  have e3 := more_ev hb hle ha.1 ha.2 (l.length + 10) (by omega)
  have e4 := rmore_ev hb hle ha.1 ha.2 (l.length + 10) (by omega)
  have e5 : ∀ z, crc_Whole.f (l.length + 10) l z = some (((CrcM.sum (nats l) : Nat) : Int) == z) := fun z => by unfold crc_Whole.f; rw [e1]; rfl
  have e6 : warrantorlaw03_lives.f = some true := rfl
  generalize l.length + 10 = k at *
  unfold warrantorlaw03_CrcSums.f
  rw [e6]
  simp only [Option.bind_some, if_true]
  split
  · rfl
  · rw [e1, e2]
    simp only [Option.bind_some, if_true]
    rw [e3, e4]
    simp only [Option.bind_some, if_true]
    rw [e5]
    simp only [Option.bind_some]
    rw [e5]
    simp

end Go.Proofs.Ytkofkhdoeeldjaa.Pure
