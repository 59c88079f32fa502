/- CrcZeros: any sum with n bytes of 0 behind is the document's; n behind m are m + n. No condition. -/
import Derived.Test.YtkofkhdoeeldjaaPAllx2
import Derived.Test.YtkofkhdoeeldjaaBridge
set_option linter.unusedVariables false
set_option linter.unusedSimpArgs false
namespace Go.Proofs.Ytkofkhdoeeldjaa.Pure
open Go Go.RowKit Go.Proofs.Ytkofkhdoeeldjaa.PAll Go.Proofs.YtkofkhdoeeldjaaW.PrintWords Go.Proofs.YtkofkhdoeeldjaaW.PrintLast
open Go.Proofs.Ytkofkhdoeeldjaa Go.Proofs.Ytkofkhdoeeldjaa.Bridge

theorem warrantorlaw03_CrcZeros_j0T (k : Nat) (x0 : Int) (x1 : Int) (x2 : Int) : warrantorlaw03_CrcZeros.j0 (k + 1) x0 x1 x2 true = ((warrantorlaw03_lives.f).bind fun t119 => (if t119 = true then (if x1 ≥ 1 then (some true) else ((crc_Zeros.f x0 x1).bind fun t120 => (some (t120 == x0)))) else (none))) := rfl
theorem warrantorlaw03_CrcZeros_j0F (k : Nat) (x0 : Int) (x1 : Int) (x2 : Int) : warrantorlaw03_CrcZeros.j0 (k + 1) x0 x1 x2 false = ((warrantorlaw03_lives.f).bind fun t121 => (if t121 = true then ((crc_Zeros.f x0 x1).bind fun t122 => (if 0 ≤ x1 then (if (x1 : Int).toNat ≤ 281474976710656 then ((warrantorref03_More.f k x0 (List.replicate (x1 : Int).toNat 0)).bind fun t126 => (if t122 = t126 then ((crc_Zeros.f x0 x2).bind fun t127 => ((crc_Zeros.f t127 x1).bind fun t128 => ((crc_Zeros.f x0 (wrap64 (x2 + x1))).bind fun t129 => (some (t128 == t129))))) else (none))) else (none)) else (none))) else (none))) := rfl
theorem CrcZeros : warrantorlaw03_CrcZeros.Pure := by
  intro s n m hs hn hm
  have hs := u32_of hs
  have hn := i64_of hn
  have hm := i64_of hm
  have e6 : warrantorlaw03_lives.f = some true := rfl
  have houter : ∀ k, warrantorlaw03_CrcZeros.j0 (k + 1) s n m true = some true := fun k => by
    rw [warrantorlaw03_CrcZeros_j0T, e6, Option.bind_some, if_pos rfl]
    by_cases h1 : n ≥ 1
    · rw [if_pos h1]
    · rw [if_neg h1, Zeros_f hs.1 hs.2 hn.1 hn.2, Option.bind_some, show n.toNat = 0 by omega, Nat.mul_zero, CrcM.steps, neg_neg (show s.toNat < 4294967296 by omega), Int.toNat_of_nonneg hs.1, beq_self_eq_true]
  obtain ⟨K, hK⟩ : ∃ K, K = n.toNat + 10 := ⟨_, rfl⟩
  refine ⟨K + 1, ?_⟩
  unfold warrantorlaw03_CrcZeros.f
  by_cases h1 : n > 3000
  · rw [if_pos h1]; exact houter _
  rw [if_neg h1]
  by_cases h2 : n < 0
  · rw [if_pos h2]; exact houter _
  rw [if_neg h2]
  by_cases h3 : m < 0
  · rw [if_pos h3]; exact houter _
  rw [if_neg h3]
  generalize hd : decide (m > 3000) = bd
  cases bd with
  | true => exact houter _
  | false =>
  have h4 := of_decide_eq_false hd
  have hz : nats (List.replicate n.toNat 0) = List.replicate n.toNat 0 := by simp [nats]
  have hmore := rmore_ev (l := List.replicate n.toNat 0) (fun x hx => by rw [(List.mem_replicate.1 hx).2]; omega) (by simp; omega) hs.1 hs.2 K (by simp; omega)
  rw [hz] at hmore
  have hmoreq : CrcM.more s.toNat (List.replicate n.toNat 0) = CrcM.neg (CrcM.steps (8 * n.toNat) (CrcM.neg s.toNat)) := by unfold CrcM.more; rw [CrcM.fold_zeros]
  have hZm := Zeros_f hs.1 hs.2 hm.1 hm.2
  have hlt : CrcM.steps (8 * m.toNat) (CrcM.neg s.toNat) < 4294967296 := CrcM.steps_lt _ neg_lt
  have hw : wrap64 (m + n) = m + n := by unfold wrap64; omega
  rw [warrantorlaw03_CrcZeros_j0F, e6, Option.bind_some, if_pos rfl, Zeros_f hs.1 hs.2 hn.1 hn.2, Option.bind_some, if_pos (by omega), if_pos (by omega), hmore, Option.bind_some, hmoreq, if_pos rfl, hZm, Option.bind_some,
    Zeros_f (by omega) (by have := @neg_lt (CrcM.steps (8 * m.toNat) (CrcM.neg s.toNat)); omega) hn.1 hn.2, Option.bind_some, hw, Zeros_f hs.1 hs.2 (by omega) (by omega), Option.bind_some, Int.toNat_natCast, neg_neg hlt, ← CrcM.steps_add,
    show 8 * m.toNat + 8 * n.toNat = 8 * (m + n).toNat by omega, beq_self_eq_true]

end Go.Proofs.Ytkofkhdoeeldjaa.Pure
