import Derived.Test.YtdgholodogcemaaPAllx4
import Derived.Test.YtdgholodogcemaaBrg
set_option linter.unusedVariables false
set_option linter.unusedSimpArgs false
namespace Go.Proofs.Ytdgholodogcemaa.Pure
open Go.RowKit Go.Proofs.Ytdgholodogcemaa.PAll Go.Proofs.YtdgholodogcemaaW.PrintWords Go.Proofs.YtdgholodogcemaaW.PrintLast
open Go.Proofs.Ytdgholodogcemaa.Lex
theorem long_end {m k : Nat} (h1 : 1 ≤ m) (hm : m ≤ 2000000) : warrantorlaw23_LexLong.l0 (k + 1) ((m + 1 : Nat) : Int) (List.replicate (m + 1) 120) ((m + 1 : Nat) : Int) = some true := by
  have w1 : wrap64 (((m + 1 : Nat) : Int) - 1) = (m : Int) := by unfold wrap64; omega
  have ez : ((m : Int)).toNat = m := by omega
  simp only [warrantorlaw23_LexLong.l0]
  rw [if_neg (by omega), w1, if_pos (by omega), if_pos (by simp; omega), ez, last_set, Option.bind_some]
  have hT : lex_Tokens.f (strOfNums (xsI m)) = some (tokensM (strOfNums (xsI m))) := by
    unfold lex_Tokens.f
    rw [if_pos (by rw [strOfNums_size, xsI_len]; omega)]
  have hS : lex_Show.f ([(⟨1, 0, 0, strOfNums ((xsI m).take m)⟩ : S36), (⟨3, 0, 0, (⟨#[]⟩ : ByteArray)⟩ : S36)] : List S36) = some (if 1048576 < m + 1 then (⟨#[]⟩, 3) else (strOfNums (xsI m), 0)) := by
    rw [take_xs]
    show lex_Show.f (long2 m) = _
    unfold lex_Show.f
    rw [if_pos (by rw [long_weight]; omega), long_show h1]
  rw [hT, Option.bind_some, if_pos (by rw [List.length_replicate]; omega), hS, Option.bind_some]
  by_cases hb : 1048576 < m + 1
  · rw [if_pos (by omega), lives_t, Option.bind_some, if_pos rfl, long_big hb, if_pos rfl]
    simp [hb]
  · obtain ⟨l, a, b, e, hl⟩ := long_small h1 hb
    rw [if_neg (by omega), lives_t, Option.bind_some, if_pos rfl, e, if_pos rfl, if_pos (by rw [hl]; rfl), if_neg hb, if_pos rfl]
    simp
theorem long_fill {m : Nat} (h1 : 1 ≤ m) (hm : m ≤ 2000000) : ∀ (d i k : Nat), i + d = m + 1 → d < k → warrantorlaw23_LexLong.l0 k ((m + 1 : Nat) : Int) (List.replicate i 120 ++ List.replicate d 0) (i : Int) = some true
  | 0, i, k, h, hk => by
    obtain ⟨k, rfl⟩ : ∃ j, k = j + 1 := ⟨k - 1, by omega⟩
    obtain rfl : i = m + 1 := by omega
    rw [List.replicate_zero, List.append_nil]
    exact long_end h1 hm
  | d + 1, i, k, h, hk => by
    obtain ⟨k, rfl⟩ : ∃ j, k = j + 1 := ⟨k - 1, by omega⟩
    have ez : ((i : Int)).toNat = i := by omega
    simp only [warrantorlaw23_LexLong.l0]
    rw [if_pos (by omega), if_pos (by omega), if_pos (by simp; omega), ez, fill_set, w64n (by omega)]
    exact long_fill h1 hm d (i + 1) k (by omega) (by omega)
theorem LexLong : warrantorlaw23_LexLong.Pure := by
  intro a0 _
  have hj : ∀ k, warrantorlaw23_LexLong.j0 (k + 1) a0 true = some true := fun k => by
    simp only [warrantorlaw23_LexLong.j0]
    rw [if_pos trivial, lives_t]
    rfl
  by_cases h1 : a0 < 1048566
  · refine ⟨1, ?_⟩
    unfold warrantorlaw23_LexLong.f
    rw [if_pos h1]
    exact hj 0
  by_cases h2 : a0 > 1048586
  · refine ⟨1, ?_⟩
    unfold warrantorlaw23_LexLong.f
    rw [if_neg h1, decide_eq_true h2]
    exact hj 0
  obtain ⟨m, rfl⟩ : ∃ m : Nat, a0 = ((m + 1 : Nat) : Int) := ⟨a0.toNat - 1, by omega⟩
  refine ⟨m + 3, ?_⟩
  unfold warrantorlaw23_LexLong.f
  rw [if_neg h1, decide_eq_false h2]
  have ez : (((m + 1 : Nat) : Int)).toNat = m + 1 := by omega
  simp only [warrantorlaw23_LexLong.j0]
  rw [if_neg (by decide), if_pos (by omega), if_pos (by omega), ez]
  exact long_fill (by omega) (by omega) (m + 1) 0 (m + 2) (by omega) (by omega)

end Go.Proofs.Ytdgholodogcemaa.Pure
