/- A quote's tokens; two texts in a row. -/
import Derived.Test.YtdgholodogcemaaBrg
set_option linter.unusedVariables false
set_option linter.unusedSimpArgs false
namespace Go.Proofs.Ytdgholodogcemaa.Lex
open Go Go.RowKit Go.Proofs.YtdgholodogcemaaW.PrintWords Go.Proofs.YtdgholodogcemaaW.PrintLast
open Go.Proofs.Ytdgholodogcemaa.PAll (S36 k36)
theorem quote_N (s : ByteArray) : (quoteM s).map Int.toNat = 34 :: (bytesN s).flatMap qbN ++ [34] := by
  unfold quoteM
  rw [List.map_append, List.map_cons, flat_N]
  rfl
theorem quote_tokens (s : ByteArray) (hs : s.size ≤ 100000) : ∃ x y : S36, ∃ a b : Int, tokensM (strOfNums (quoteM s) ++ ⟨#[10]⟩) = ([x, y], a, b, 0) ∧ x.f0 = 2 ∧ x.f3.size ≤ s.size := by
  have hq := quote_len s
  have hz : (strOfNums (quoteM s) ++ (⟨#[10]⟩ : ByteArray)).size = (quoteM s).length + 1 := by rw [ByteArray.size_append, strOfNums_size]; rfl
  obtain ⟨k, e, hk⟩ := go_quote (bytesN s) (m := M0) rfl
  unfold tokensM
  rw [if_neg (by omega), bytesN_app, bytesN_str (quote_range s), quote_N, run_some e, show bytesN (⟨#[10]⟩ : ByteArray) = [10] from rfl, runM_step (step_of (.f4 rfl rfl))]
  refine ⟨_, _, _, _, rfl, rfl, ?_⟩
  show (strOfNums _).size ≤ _
  rw [strOfNums_size, List.length_map, ← bytesN_len s]
  exact List.length_filter_le _ _
theorem tokens_run {s : ByteArray} (h : s.size ≤ 1048576) : tokensM s = runM (bytesN s) M0 := by
  unfold tokensM
  rw [if_neg (by omega)]
/-- two texts in a row: the first one is read to its end -/
theorem rows {a b : ByteArray} (h : a.size + b.size ≤ 1000000) {m' : M} (hg : goM (bytesN a) M0 = some m') (hc : m'.co = 1) :
    tokensM (a ++ b) = (if (tokensM b).2.2.2 = 0 then m'.out ++ (tokensM b).1.map (sh (m'.li - 1)) else [], (tokensM b).2.1 + (m'.li - 1), (tokensM b).2.2.1, (tokensM b).2.2.2) := by
  have hG := good_go good0 hg
  have hs := (col_go (m := M0) (by decide) (fun _ => rfl) hg).2 hc
  have hl := hG.li
  have hbl := bytesN_len a
  have hbl2 := bytesN_len b
  rw [tokens_run (by rw [ByteArray.size_append]; omega), bytesN_app, run_some hg, tokens_run (s := b) (by omega)]
  exact run_shift (by omega) (by omega) _ M0 m' 0 good0 ⟨hs, hc, by show m'.li = 1 + _; omega, by simp [M0], fun h => by simp [M0] at h⟩ (by omega)
end Go.Proofs.Ytdgholodogcemaa.Lex
