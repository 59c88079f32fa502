import Derived.Test.YtdgholodogcemaaPAllx4
import Derived.Test.YtdgholodogcemaaMqu
set_option linter.unusedVariables false
set_option linter.unusedSimpArgs false
namespace Go.Proofs.Ytdgholodogcemaa.Pure
open Go.RowKit Go.Proofs.Ytdgholodogcemaa.PAll Go.Proofs.YtdgholodogcemaaW.PrintWords Go.Proofs.YtdgholodogcemaaW.PrintLast
open Go.Proofs.Ytdgholodogcemaa.Lex
theorem LexQuotes : warrantorlaw23_LexQuotes.Pure := by
  intro s _
  refine ⟨3000, ?_⟩
  unfold warrantorlaw23_LexQuotes.f
  by_cases hb : (s.size : Int) > 1000
  · rw [if_pos hb, lives_t]
    rfl
  rw [if_neg hb]
  have hq := quote_len s
  have hz : (strOfNums (quoteM s) ++ (⟨#[10]⟩ : ByteArray)).size = (quoteM s).length + 1 := by rw [ByteArray.size_append, strOfNums_size]; rfl
  have hQ : lex_Quote.f s = some (strOfNums (quoteM s)) := by
    unfold lex_Quote.f
    rw [if_pos (by omega)]
  have hT : lex_Tokens.f (strOfNums (quoteM s) ++ ⟨#[10]⟩) = some (tokensM (strOfNums (quoteM s) ++ ⟨#[10]⟩)) := by
    unfold lex_Tokens.f
    rw [if_pos (by omega)]
  obtain ⟨x, y, a, b, e, h0, h3⟩ := quote_tokens s (by omega)
  rw [hQ, Option.bind_some, if_pos (by rw [strOfNums_size]; omega), hT, Option.bind_some, lives_t, Option.bind_some, if_pos rfl, Option.bind_some, ref_quote_f s (by omega) (by omega), Option.bind_some, if_pos rfl, ref_word_f s (by omega) (by omega), e]
  have hr : rd_T36 [x, y] 0 = x := rfl
  simp only [lex_Word.f, Option.bind_some, beq_self_eq_true, if_true, hr, h0]
  rw [if_pos (by rfl), if_pos (by simp), decide_eq_true (by omega)]

end Go.Proofs.Ytdgholodogcemaa.Pure
