/- CrcJoins: the sum of two rows of bytes is told of their sums, and of the second one's length, without them. No condition. -/
import Derived.Test.YtkofkhdoeeldjaaPAllx2
import Derived.Test.YtkofkhdoeeldjaaBridge
set_option linter.unusedVariables false
set_option linter.unusedSimpArgs false
namespace Go.Proofs.Ytkofkhdoeeldjaa.Pure
open Go Go.RowKit Go.Proofs.Ytkofkhdoeeldjaa.PAll Go.Proofs.YtkofkhdoeeldjaaW.PrintWords Go.Proofs.YtkofkhdoeeldjaaW.PrintLast
open Go.Proofs.Ytkofkhdoeeldjaa Go.Proofs.Ytkofkhdoeeldjaa.Bridge

theorem join_eq (a b : List Nat) (ha : ∀ x ∈ a, x < 256) (hb : ∀ x ∈ b, x < 256) : CrcM.sum (a ++ b) = CrcM.steps (8 * b.length) (CrcM.sum a) ^^^ CrcM.sum b := by
  unfold CrcM.sum CrcM.more
  have hA : CrcM.fold (CrcM.neg 0) a < 4294967296 := CrcM.fold_lt a neg_lt ha
  have hB : CrcM.fold (CrcM.neg 0) b < 4294967296 := CrcM.fold_lt b neg_lt hb
  have hAB : CrcM.fold (CrcM.fold (CrcM.neg 0) a) b < 4294967296 := CrcM.fold_lt b hA hb
  rw [CrcM.fold_append, CrcM.neg_xor hAB, CrcM.neg_xor hA, CrcM.neg_xor hB]
  have hF : CrcM.neg 0 = 4294967295 := rfl
  rw [hF] at *
  generalize CrcM.fold 4294967295 a = A at *
  have : CrcM.fold A b = CrcM.fold 4294967295 b ^^^ CrcM.steps (8 * b.length) (4294967295 ^^^ A) := by
    rw [← CrcM.fold_xor, ← Nat.xor_assoc, Nat.xor_self, Nat.zero_xor]
  rw [this, ← Nat.xor_assoc, Nat.xor_comm]

theorem warrantorlaw03_CrcJoins_j0T (k : Nat) (x0 : List Int) (x1 : List Int) (x2 : Int) : warrantorlaw03_CrcJoins.j0 (k + 1) x0 x1 x2 true = ((warrantorlaw03_lives.f).bind fun t130 => (some t130)) := rfl
theorem warrantorlaw03_CrcJoins_j0F (k : Nat) (x0 : List Int) (x1 : List Int) (x2 : Int) : warrantorlaw03_CrcJoins.j0 (k + 1) x0 x1 x2 false = ((crc_Sum.f k x0).bind fun t131 => ((crc_Sum.f k x1).bind fun t132 => ((warrantorlaw03_lives.f).bind fun t133 => (if t133 = true then ((crc_Join.f t131 t132 (x1.length : Int)).bind fun t134 => ((some (([] : List Int) : List Int)).bind fun y135 => (if y135.length + x0.length < 140737488355328 then ((some (y135 ++ x0 : List Int)).bind fun y138 => (if y138.length + x1.length < 140737488355328 then ((warrantorref03_Sum.f k (y138 ++ x1)).bind fun t144 => (if t134 = t144 then (if x2 > 0 then (some true) else ((crc_Join.f t131 t132 x2).bind fun t145 => ((crc_Join.f t131 t132 0).bind fun t146 => (some (t145 == t146))))) else (none))) else (none))) else (none)))) else (none))))) := rfl
theorem CrcJoins : warrantorlaw03_CrcJoins.Pure := by
  intro a b n _ hla ha _ hlb hb hn
  have ha := bytes_of ha
  have hb := bytes_of hb
  have hn := i64_of hn
  have e6 : warrantorlaw03_lives.f = some true := rfl
  have houter : ∀ k, warrantorlaw03_CrcJoins.j0 (k + 1) a b n true = some true := fun k => by
    rw [warrantorlaw03_CrcJoins_j0T, e6]
    rfl
  obtain ⟨K, hK⟩ : ∃ K, K = a.length + b.length + 10 := ⟨_, rfl⟩
  refine ⟨K + 1, ?_⟩
  unfold warrantorlaw03_CrcJoins.f
  by_cases h1 : (a.length : Int) > 3000
  · rw [if_pos h1]; exact houter _
  rw [if_neg h1]
  generalize hd : decide ((b.length : Int) > 3000) = bd
  cases bd with
  | true => exact houter _
  | false =>
  have h4 := of_decide_eq_false hd
  have e1 := sum_ev ha (by omega) K (by omega)
  have e2 := sum_ev hb (by omega) K (by omega)
  have e3 := rsum_ev (l := a ++ b) (by intro x hx; rcases List.mem_append.1 hx with h | h; exact ha x h; exact hb x h) (by simp; omega) K (by simp; omega)
  have l1 := more_lt 0 (nats a)
  have l2 := more_lt 0 (nats b)
  have hj : ∀ z : Int, -9223372036854775808 ≤ z → z < 9223372036854775808 → crc_Join.f ((CrcM.sum (nats a) : Nat) : Int) ((CrcM.sum (nats b) : Nat) : Int) z = some ((CrcM.steps (8 * z.toNat) (CrcM.sum (nats a)) ^^^ CrcM.sum (nats b) : Nat) : Int) := fun z z0 z1 => by
    rw [Join_f (by omega) (by unfold CrcM.sum; omega) (by omega) (by unfold CrcM.sum; omega) z0 z1]
    simp only [Int.toNat_natCast]
  have hq : CrcM.sum (nats (a ++ b)) = CrcM.steps (8 * b.length) (CrcM.sum (nats a)) ^^^ CrcM.sum (nats b) := by
    have := join_eq (nats a) (nats b) (nats_lt ha) (nats_lt hb)
    rw [show nats (a ++ b) = nats a ++ nats b by simp [nats], this]
    simp [nats]
  rw [warrantorlaw03_CrcJoins_j0F, e1, Option.bind_some, e2, Option.bind_some, e6, Option.bind_some, if_pos rfl, hj _ (by omega) (by omega), Option.bind_some, Option.bind_some,
    if_pos (by simp only [List.length_nil]; omega), Option.bind_some, if_pos (by simp only [List.nil_append]; omega), List.nil_append, e3, Option.bind_some, hq, Int.toNat_natCast, if_pos rfl]
  by_cases hp : n > 0
  · rw [if_pos hp]
  · rw [if_neg hp, hj n hn.1 hn.2, Option.bind_some, hj 0 (by omega) (by omega), Option.bind_some, show n.toNat = 0 by omega, show (0 : Int).toNat = 0 from rfl, beq_self_eq_true]

end Go.Proofs.Ytkofkhdoeeldjaa.Pure
