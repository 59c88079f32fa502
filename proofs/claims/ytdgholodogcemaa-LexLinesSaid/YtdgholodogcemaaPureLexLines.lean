import Derived.Test.YtdgholodogcemaaLin
import Derived.Test.YtdgholodogcemaaMqu
set_option linter.unusedVariables false
set_option linter.unusedSimpArgs false
namespace Go.Proofs.Ytdgholodogcemaa.Pure
open Go.RowKit Go.Proofs.Ytdgholodogcemaa.PAll Go.Proofs.YtdgholodogcemaaW.PrintWords Go.Proofs.YtdgholodogcemaaW.PrintLast
open Go.Proofs.Ytdgholodogcemaa.Lex
theorem lines_loop {n lb ra : Int} {L R pre : List S36} (hL : L.length ≤ 1000000) (hp : pre.length ≤ 1000000) (hra : ra = wrap64 (n + lb)) (hR : R = pre ++ L.map (sh n)) :
    ∀ (d i k : Nat), i + d = L.length → d < k → warrantorlaw23_LexLines.l0 k n L lb R ra 0 (pre ++ (L.take i).map (sh n)) (i : Int) = some true
  | 0, i, k, h, hk => by
    obtain ⟨k, rfl⟩ : ∃ j, k = j + 1 := ⟨k - 1, by omega⟩
    simp only [warrantorlaw23_LexLines.l0]
    rw [if_neg (by omega), if_pos trivial, if_pos hra, List.take_of_length_le (by omega), ← hR]
    unfold warrantorref23_Same.f
    rw [if_pos (by rw [hR, List.length_append, List.length_map]; omega)]
    simp [sameT]
  | d + 1, i, k, h, hk => by
    obtain ⟨k, rfl⟩ : ∃ j, k = j + 1 := ⟨k - 1, by omega⟩
    have h1 : i < L.length := by omega
    have hr : rd_T36 L (i : Int) = L[i] := by simp [rd_T36, h1]
    simp only [warrantorlaw23_LexLines.l0]
    rw [if_pos (by omega), if_pos (by omega), if_pos (by rw [List.length_append, List.length_map, List.length_take]; omega), hr, w64n (by omega)]
    have := lines_loop hL hp hra hR d (i + 1) k (by omega) (by omega)
    rw [List.take_succ_eq_append_getElem h1, List.map_append, ← List.append_assoc] at this
    exact this
theorem LexLines : warrantorlaw23_LexLines.Pure := by
  intro a b _ _
  have hj : ∀ k, warrantorlaw23_LexLines.j0 (k + 1) a b true = some true := fun k => by
    simp only [warrantorlaw23_LexLines.j0]
    rw [if_pos trivial, lives_t]
    rfl
  refine ⟨10000, ?_⟩
  unfold warrantorlaw23_LexLines.f
  by_cases h1 : (a.size : Int) > 2000
  · rw [if_pos h1]
    exact hj _
  rw [if_neg h1]
  by_cases h2 : (b.size : Int) > 2000
  · rw [decide_eq_true h2]
    exact hj _
  rw [decide_eq_false h2]
  have tk : ∀ s : ByteArray, s.size ≤ 10000 → lex_Tokens.f s = some (tokensM s) := fun s hs => by
    unfold lex_Tokens.f
    rw [if_pos (by omega)]
  show warrantorlaw23_LexLines.j0 (9999 + 1) a b false = some true
  simp only [warrantorlaw23_LexLines.j0]
  rw [if_neg (by decide), tk a (by omega), tk b (by omega), tk (a ++ b) (by rw [ByteArray.size_append]; omega), Option.bind_some, Option.bind_some, if_pos (by omega), Option.bind_some, lives_t, Option.bind_some, if_pos rfl]
  have hbl := bytesN_len a
  have hbl2 := bytesN_len b
  rcases run_cases (bytesN a) M0 with ⟨m', hg, hc, e⟩ | ⟨li, co, e⟩
  · have hrow := rows (b := b) (by omega) hg hc
    have hG := good_go good0 hg
    have hli := hG.li
    have hou := hG.out
    have hgb := run_good (bytesN b) M0 0 good0
    rw [tokens_run (s := b) (by omega)] at hrow
    rw [tokens_run (s := a) (by omega), e, hrow, tokens_run (s := b) (by omega)]
    have w1 : ∀ x : Int, 0 ≤ x → x ≤ 4001 → wrap64 (m'.li - 1 + x) = x + (m'.li - 1) := fun x h0 h1 => by unfold wrap64; omega
    show warrantorlaw23_LexLines.j1 (9998 + 1) _ _ _ _ _ _ _ _ _ _ _ = some true
    simp only [warrantorlaw23_LexLines.j1]
    rw [if_neg (by decide)]
    rcases run_cases (bytesN b) M0 with ⟨mb, hgb2, hcb, eb⟩ | ⟨lb, cb, eb⟩
    · rw [eb] at hgb ⊢
      simp only at hgb ⊢
      rw [if_pos trivial, Option.bind_some, if_pos (by simp; omega)]
      have := lines_loop (n := m'.li - 1) (lb := mb.li - 1) (ra := mb.li - 1 + (m'.li - 1)) (L := mb.out) (pre := m'.out) (by omega) (by omega) (w1 _ (by omega) (by omega)).symm rfl mb.out.length 0 9998 (by omega) (by omega)
      simpa using this
    · rw [eb] at hgb ⊢
      simp only at hgb ⊢
      rw [if_neg (by decide), if_pos trivial, w1 _ (by omega) (by omega), if_pos rfl]
      simp
  · rw [tokens_run (s := a) (by omega), e]
    show warrantorlaw23_LexLines.j1 (9998 + 1) _ _ _ _ _ _ _ _ _ _ true = some true
    simp only [warrantorlaw23_LexLines.j1]
    rw [if_pos trivial, lives_t]
    rfl

end Go.Proofs.Ytdgholodogcemaa.Pure
