/- LexShows: the law, by the printed walk and what its functions come to. -/
import Derived.Test.YtdgholodogcemaaPAllx4
import Derived.Test.YtdgholodogcemaaBrs
set_option linter.unusedVariables false
set_option linter.unusedSimpArgs false
namespace Go.Proofs.Ytdgholodogcemaa.Lex
open Go Go.RowKit Go.Proofs.Ytdgholodogcemaa.PAll Go.Proofs.YtdgholodogcemaaW.PrintWords Go.Proofs.YtdgholodogcemaaW.PrintLast Go.Proofs.YtdgholodogcemaaW.PrintMore
theorem shows_t (l : List S36) (hl : l.length ≤ 140737488355328) (hs : ∀ x ∈ l, x.f3.size ≤ 140737488351232) : ∃ k, warrantorlaw23_LexShows.f k l = some true := by
  by_cases hb : 500 < l.length
  · refine ⟨l.length + 1, ?_⟩
    unfold warrantorlaw23_LexShows.f warrantorref23_Large.f
    have := large_long l (by omega) hb l.length 0 (l.length + 1) 0 (by omega) (by omega)
    rw [show ((0 : Nat) : Int) = 0 from rfl] at this
    rw [this, Option.bind_some, if_pos rfl, lives_t]
    rfl
  have hb : l.length ≤ 500 := by omega
  have hz := sizes_le l hs
  have hL := large_short l hb hs l.length 0 30000 0 (by omega) (by omega) (by rw [List.drop_zero]; omega)
  rw [List.drop_zero, Nat.zero_add] at hL
  refine ⟨30000, ?_⟩
  unfold warrantorlaw23_LexShows.f
  have hL2 : warrantorref23_Large.f 30000 l = some (decide (5000 < sizes l)) := hL
  rw [hL2, Option.bind_some]
  by_cases h5 : 5000 < sizes l
  · rw [decide_eq_true h5, if_pos rfl, lives_t]
    rfl
  rw [decide_eq_false h5, if_neg (by decide)]
  have hw := sizes_weight l
  have hS : lex_Show.f l = some (showM l) := by
    unfold lex_Show.f
    rw [if_pos (by omega)]
  rw [hS, Option.bind_some, ref_show_f l (by omega) (by omega) (by omega), Option.bind_some, lives_t, Option.bind_some, if_pos rfl]
  cases hsh : showL l true [] with
  | none =>
    have e : showM l = (⟨#[]⟩, 1) := by unfold showM; rw [hsh]
    rw [e]
    show (if false = true then _ else _) = _
    rw [if_neg (by decide), if_pos rfl]
    simp
  | some r =>
    obtain ⟨acc, first⟩ := r
    have hlen := showL_len l _ _ _ hsh
    simp only [List.length_nil] at hlen
    cases first with
    | false =>
      have e : showM l = (⟨#[]⟩, 1) := by unfold showM; rw [hsh]; rfl
      rw [e]
      show (if false = true then _ else _) = _
      rw [if_neg (by decide), if_pos rfl]
      simp
    | true =>
      have e : showM l = (strOfNums acc, 0) := by unfold showM; rw [hsh]; simp only [if_true]; rw [if_neg (by omega)]
      obtain ⟨r, a, ht, hsame, hrl⟩ := show_back hsh (by omega)
      have hT : lex_Tokens.f (strOfNums acc) = some (r, a, 0, 0) := by
        unfold lex_Tokens.f
        rw [if_pos (by rw [strOfNums_size]; omega), ht]
      have hM : warrantorref23_Same.f r l false = some true := by
        unfold warrantorref23_Same.f
        rw [if_pos (by omega), hsame]
      rw [e]
      show (if true = true then _ else _) = _
      rw [if_pos rfl]
      simp only [hT, Option.bind_some, showR, if_true, hM]
theorem shows_law {A : Option Addr} {c : Nat} {l : List S36} {w : World} (hC : Kd.C k36 w A l.length l) (hc : l.length ≤ c) (hl : l.length ≤ 140737488355328) (hs : ∀ x ∈ l, x.f3.size ≤ 140737488351232) :
    Calls Try.prog 4 #[.slice A l.length c] w fun e w' => e = .returned (.bool true) ∧ Below w.heap.size w w' := by
  obtain ⟨k, h⟩ := shows_t l hl hs
  exact warrantorlaw23_LexShows.calls k A c l true w hC hc h
end Go.Proofs.Ytdgholodogcemaa.Lex
