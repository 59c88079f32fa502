import Derived.Test.YtdgholodogcemaaMtl
import Derived.Test.YtdgholodogcemaaMti
set_option linter.unusedVariables false
set_option linter.unusedSimpArgs false
namespace Go.Proofs.Ytdgholodogcemaa.Pure
open Go.RowKit Go.Proofs.Ytdgholodogcemaa.PAll Go.Proofs.YtdgholodogcemaaW.PrintWords Go.Proofs.YtdgholodogcemaaW.PrintLast
open Go.Proofs.Ytdgholodogcemaa.Lex
theorem LexTokens : warrantorlaw23_LexTokens.Pure := by
  intro s _
  refine ⟨10000, ?_⟩
  unfold warrantorlaw23_LexTokens.f
  by_cases hb : (s.size : Int) > 3000
  · rw [if_pos hb, lives_t]
    rfl
  rw [if_neg hb]
  have hT : lex_Tokens.f s = some (tokensM s) := by
    unfold lex_Tokens.f
    rw [if_pos (by omega)]
  have hgood := run_good (bytesN s) M0 0 good0
  rw [← tokens_run (s := s) (by omega), bytesN_len] at hgood
  have hM : warrantorref23_Same.f (tokensM s).1 (tokensM s).1 true = some true := by
    unfold warrantorref23_Same.f
    rw [if_pos (by omega)]
    simp [sameT]
  rw [hT, Option.bind_some, ref_tokens s (by omega) (by omega), Option.bind_some, lives_t, Option.bind_some, if_pos rfl, if_pos rfl, if_pos rfl, if_pos rfl, hM, Option.bind_some, if_pos rfl]
  rcases run_cases (bytesN s) M0 with ⟨m', hg, hc, e⟩ | ⟨li, co, e⟩
  · obtain ⟨hsh, hw⟩ := read_back (by omega) hg hc
    rw [tokens_run (by omega), e]
    have hS : lex_Show.f m'.out = some (s, 0) := by
      unfold lex_Show.f
      rw [if_pos (by omega), hsh]
    simp only [hS, Option.bind_some, if_true]
    simp
  · rw [tokens_run (by omega), e]
    have hS : lex_Show.f ([] : List S36) = some (showM []) := by
      unfold lex_Show.f
      rw [if_pos (by decide)]
    simp only [hS, Option.bind_some]
    rw [if_neg (by decide)]

end Go.Proofs.Ytdgholodogcemaa.Pure
