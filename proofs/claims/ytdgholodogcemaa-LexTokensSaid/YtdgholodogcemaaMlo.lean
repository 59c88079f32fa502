/- A long word: what the lexer and its way back tell of it. -/
import Derived.Test.YtdgholodogcemaaMth
set_option linter.unusedVariables false
set_option linter.unusedSimpArgs false
namespace Go.Proofs.Ytdgholodogcemaa.Lex
open Go Go.RowKit Go.Proofs.YtdgholodogcemaaW.PrintWords Go.Proofs.YtdgholodogcemaaW.PrintLast
open Go.Proofs.Ytdgholodogcemaa.PAll (S36 k36)
def xsI (m : Nat) : List Int := List.replicate m 120 ++ [10]
theorem xsI_len (m : Nat) : (xsI m).length = m + 1 := by simp [xsI]
theorem xsI_rng (m : Nat) : ∀ x ∈ xsI m, 0 ≤ x ∧ x < 256 := by
  intro x hx
  rcases List.mem_append.1 hx with h | h
  · have := List.eq_of_mem_replicate h; omega
  · rw [List.mem_singleton] at h; omega
theorem rep_rng (m : Nat) : ∀ x ∈ List.replicate m (120 : Int), 0 ≤ x ∧ x < 256 := by
  intro x hx
  have := List.eq_of_mem_replicate hx; omega
theorem long_big {m : Nat} (h : 1048576 < m + 1) : tokensM (strOfNums (xsI m)) = ([], 0, 0, 3) := by
  unfold tokensM
  rw [if_pos (by rw [strOfNums_size, xsI_len]; exact h)]
theorem word_of_plain {c : Nat} (h : wordB c = true) : plainB c = true := by
  unfold wordB at h
  simp at h
  exact h.1
theorem long_small {m : Nat} (h1 : 1 ≤ m) (h : ¬ 1048576 < m + 1) : ∃ l a b : _, tokensM (strOfNums (xsI m)) = (l, a, b, 0) ∧ l.length = 2 := by
  unfold tokensM
  rw [if_neg (by rw [strOfNums_size, xsI_len]; exact h), bytesN_str (xsI_rng m)]
  obtain ⟨d, rfl⟩ : ∃ d, m = d + 1 := ⟨m - 1, by omega⟩
  have e : (xsI (d + 1)).map Int.toNat = (120 :: List.replicate d 120) ++ [10] := by simp [xsI, List.replicate_succ]
  rw [e, run_some (go_word0 (by decide) (by decide) (fun c hc => by rw [List.eq_of_mem_replicate hc]; decide) rfl), runM_step (step_of (.f1 rfl rfl))]
  exact ⟨_, _, _, rfl, by simp [nextM, M.eol, M0]⟩
def long2 (m : Nat) : List S36 := [⟨1, 0, 0, strOfNums (List.replicate m 120)⟩, ⟨3, 0, 0, ⟨#[]⟩⟩]
theorem long_showL {m : Nat} (h1 : 1 ≤ m) : showL (long2 m) true [] = some (xsI m, true) := by
  have hw : wordT (strOfNums (List.replicate m 120)) = true := by
    unfold wordT
    rw [strOfNums_size, bytesN_str (rep_rng m)]
    simp
    exact ⟨by omega, .inr (by decide)⟩
  have r1 : rightM 1 (strOfNums (List.replicate m 120)) true = true := by simp [rightM, hw]
  have r3 : rightM 3 ⟨#[]⟩ false = true := by decide
  have e : bodyM 1 (strOfNums (List.replicate m 120)) = List.replicate m 120 := by
    unfold bodyM
    rw [if_neg (by decide)]
    exact (str_bytes (rep_rng m)).symm
  simp only [long2, showL, r1, r3, e]
  simp [xsI]
theorem long_show {m : Nat} (h1 : 1 ≤ m) : showM (long2 m) = if 1048576 < m + 1 then (⟨#[]⟩, 3) else (strOfNums (xsI m), 0) := by
  unfold showM
  rw [long_showL h1]
  simp [xsI_len]
theorem long_weight (m : Nat) : weight (long2 m) = 2 * m + 6 := by
  simp only [long2, weight, strOfNums_size, List.length_replicate]
  show 2 * m + 3 + (2 * 0 + 3 + 0) = _
  omega
theorem fill_set (i d : Nat) : (List.replicate i (120 : Int) ++ List.replicate (d + 1) 0).set i 120 = List.replicate (i + 1) 120 ++ List.replicate d 0 := by
  rw [List.set_append_right _ _ (by simp), List.replicate_succ' (n := i), List.append_assoc]
  simp [List.replicate_succ]
theorem last_set (m : Nat) : (List.replicate (m + 1) (120 : Int)).set m 10 = xsI m := by
  rw [List.replicate_succ', List.set_append_right _ _ (by simp)]
  simp [xsI]
theorem take_xs (m : Nat) : (xsI m).take m = List.replicate m 120 := by
  unfold xsI
  rw [List.take_append_of_le_length (by simp)]
  simp
end Go.Proofs.Ytdgholodogcemaa.Lex
