/- What is shown is read as it was. -/
import Derived.Test.YtdgholodogcemaaMqu
set_option linter.unusedVariables false
set_option linter.unusedSimpArgs false
namespace Go.Proofs.Ytdgholodogcemaa.Lex
open Go Go.RowKit Go.Proofs.YtdgholodogcemaaW.PrintWords Go.Proofs.YtdgholodogcemaaW.PrintLast
open Go.Proofs.Ytdgholodogcemaa.PAll (S36 k36)
theorem showL_len : ∀ (l : List S36) (first : Bool) (acc : List Int) (r : List Int × Bool), showL l first acc = some r → r.1.length ≤ acc.length + weight l
  | [], first, acc, r, h => by
    injection h with h
    subst h
    exact Nat.le_add_right _ _
  | x :: l, first, acc, r, h => by
    simp only [showL] at h
    have hb := body_len x.f0 x.f3
    split at h
    · split at h
      · have := showL_len l _ _ _ h
        simp only [List.length_append, List.length_cons, List.length_nil] at this
        simp only [weight]
        omega
      · have := showL_len l _ _ _ h
        simp only [List.length_append] at this
        have h2 : (if first = true then ([] : List Int) else [32]).length ≤ 1 := by split <;> simp
        simp only [weight]
        omega
    · cases h
def outP (m : M) : List S36 := m.out ++ (if m.st = 1 then [m.tok] else [])
def sepI (first : Bool) : List Int := if first then [] else [32]
def Mat (first : Bool) (m : M) : Prop := (first = true ∧ m.st = 0 ∧ m.co = 1) ∨ (first = false ∧ (m.st = 1 ∨ m.st = 4))
theorem sep_go {first : Bool} {m : M} (h : Mat first m) : ∃ m1, goM ((sepI first).map Int.toNat) m = some m1 ∧ m1.st = 0 ∧ m1.out = outP m := by
  rcases h with ⟨rfl, h1, h2⟩ | ⟨rfl, h1 | h1⟩
  · exact ⟨m, rfl, h1, by simp [outP, h1]⟩
  · exact ⟨nextM _, goM_cons (step_of (.b1 h1 rfl)), rfl, by simp [nextM, outP, h1]⟩
  · exact ⟨nextM _, goM_cons (step_of (.b4 h1 rfl)), rfl, by simp [nextM, outP, h1]⟩
theorem sepI_rng (first : Bool) : ∀ x ∈ sepI first, 0 ≤ x ∧ x < 256 := by
  intro x hx
  unfold sepI at hx
  split at hx
  · cases hx
  · rw [List.mem_singleton] at hx; omega
theorem right_1M {t : ByteArray} {first : Bool} (h : rightM 1 t first = true) : wordT t = true := h
theorem right_2M {t : ByteArray} {first : Bool} (h : rightM 2 t first = true) : (bytesN t).all plainB = true := h
theorem right_3M {t : ByteArray} {first : Bool} (h : rightM 3 t first = true) : first = false ∧ t = ⟨#[]⟩ := by
  have h2 : (!first && decide (t.size = 0)) = true := h
  simp at h2
  exact ⟨h2.1, h2.2⟩
theorem right_kinds {k : Int} {t : ByteArray} {first : Bool} (h : rightM k t first = true) : k = 1 ∨ k = 2 ∨ k = 3 := by
  unfold rightM at h
  by_cases h1 : k = 1
  · exact .inl h1
  by_cases h2 : k = 2
  · exact .inr (.inl h2)
  by_cases h3 : k = 3
  · exact .inr (.inr h3)
  rw [if_neg h1, if_neg h2, if_neg h3] at h
  cases h
theorem bytesOf_toNat (t : ByteArray) : (bytesOf t).map Int.toNat = bytesN t := by
  rw [bytesOf_N, List.map_map]
  simp [Function.comp_def]
theorem str_cast (t : ByteArray) : strOfNums ((bytesN t).map (fun c : Nat => (c : Int))) = t := by
  rw [← bytesOf_N]
  exact str_of_bytes t
theorem body_go {x : S36} {first : Bool} {m : M} (h : rightM x.f0 x.f3 first = true) (h3 : x.f0 ≠ 3) (hs : m.st = 0) :
    ∃ m1, goM ((bodyM x.f0 x.f3).map Int.toNat) m = some m1 ∧ (m1.st = 1 ∨ m1.st = 4) ∧ (outP m1).map (key false) = m.out.map (key false) ++ [key false x] := by
  obtain ⟨k, l, c, t⟩ := x
  simp only at h h3 ⊢
  rcases right_kinds h with rfl | rfl | rfl
  · have hw := right_1M h
    unfold wordT at hw
    simp only [Bool.and_eq_true, decide_eq_true_eq, List.all_eq_true] at hw
    obtain ⟨hz, hw⟩ := hw
    have e : bodyM 1 t = bytesOf t := by unfold bodyM; rw [if_neg (by decide)]
    rw [e, bytesOf_toNat]
    have hbl := bytesN_len t
    cases hbt : bytesN t with
    | nil => rw [hbt] at hbl; simp at hbl; omega
    | cons b r =>
      rw [hbt] at hw
      have hb := hw b (by simp)
      have h34 : b ≠ 34 := fun h => by rw [h] at hb; cases hb
      refine ⟨_, go_word0 h34 hb (fun c hc => hw c (by simp [hc])) hs, .inl rfl, ?_⟩
      simp only [outP, M.tok, if_true]
      rw [← hbt, str_cast]
      simp [key]
  · have hp := right_2M h
    have e : bodyM 2 t = quoteM t := rfl
    obtain ⟨k, eg, hk⟩ := go_quote (bytesN t) hs
    rw [e, quote_N]
    refine ⟨_, eg, .inr rfl, ?_⟩
    have hf : (bytesN t).filter plainB = bytesN t := List.filter_eq_self.2 fun a ha => List.all_eq_true.1 hp a ha
    simp only [outP, hf, str_cast]
    simp [key]
  · exact absurd rfl h3
theorem show_run : ∀ (l : List S36) (first : Bool) (acc accF : List Int), showL l first acc = some (accF, true) →
    ∃ s : List Int, accF = acc ++ s ∧ (∀ x ∈ s, 0 ≤ x ∧ x < 256) ∧ ∀ m : M, Mat first m → ∃ m', goM (s.map Int.toNat) m = some m' ∧ m'.co = 1 ∧ m'.out.map (key false) = (outP m).map (key false) ++ l.map (key false)
  | [], first, acc, accF, h => by
    simp only [showL, Option.some.injEq, Prod.mk.injEq] at h
    obtain ⟨rfl, rfl⟩ := h
    refine ⟨[], by simp, fun x hx => absurd hx (by simp), fun m hm => ⟨m, rfl, ?_⟩⟩
    rcases hm with ⟨_, h1, h2⟩ | ⟨h, _⟩
    · exact ⟨h2, by simp [outP, h1]⟩
    · cases h
  | x :: l, first, acc, accF, h => by
    simp only [showL] at h
    split at h
    · rename_i hr
      split at h
      · rename_i h3
        obtain ⟨s, rfl, hs, hm⟩ := show_run l _ _ _ h
        refine ⟨10 :: s, by simp, fun x hx => ?_, fun m hmat => ?_⟩
        · rcases List.mem_cons.1 hx with rfl | hx
          · omega
          · exact hs x hx
        · rw [h3] at hr
          obtain ⟨hf, ht⟩ := right_3M hr
          have hst : m.st = 1 ∨ m.st = 4 := by
            rcases hmat with ⟨h, _⟩ | ⟨_, h⟩
            · rw [hf] at h; cases h
            · exact h
          have e : stepM m 10 = some (m.eol (outP m)) := by
            rcases hst with h | h
            · rw [step_of (.f1 h rfl)]; simp [outP, h]
            · rw [step_of (.f4 h rfl)]; simp [outP, h]
          obtain ⟨m', g, hc, ho⟩ := hm (nextM (m.eol (outP m))) (.inl ⟨rfl, rfl, rfl⟩)
          refine ⟨m', ?_, hc, ?_⟩
          · rw [List.map_cons]
            show goM (10 :: _) m = _
            rw [goM_cons e, g]
          · rw [ho]
            obtain ⟨k, a, b, t⟩ := x
            simp only at h3 ht
            subst h3 ht
            simp [outP, nextM, M.eol, key]
      · rename_i h3
        obtain ⟨s, rfl, hs, hm⟩ := show_run l _ _ _ h
        refine ⟨sepI first ++ (bodyM x.f0 x.f3 ++ s), by simp [sepI], fun y hy => ?_, fun m hmat => ?_⟩
        · rcases List.mem_append.1 hy with hy | hy
          · exact sepI_rng _ y hy
          · rcases List.mem_append.1 hy with hy | hy
            · exact body_range _ _ y hy
            · exact hs y hy
        · obtain ⟨m1, g1, s1, o1⟩ := sep_go hmat
          obtain ⟨m2, g2, s2, o2⟩ := body_go hr h3 s1
          obtain ⟨m', g, hc, ho⟩ := hm m2 (.inr ⟨rfl, s2⟩)
          refine ⟨m', ?_, hc, ?_⟩
          · rw [List.map_append, List.map_append, goM_append g1, goM_append g2, g]
          · rw [ho, o2, o1]
            simp
    · cases h
/-- the way back: the tokens of what is shown -/
theorem show_back {l : List S36} {acc : List Int} (h : showL l true [] = some (acc, true)) (hw : weight l ≤ 1048576) :
    ∃ r a : _, tokensM (strOfNums acc) = (r, a, 0, 0) ∧ sameT r l false = true ∧ r.length = l.length := by
  obtain ⟨s, rfl, hs, hm⟩ := show_run l true [] acc h
  obtain ⟨m', g, hc, ho⟩ := hm M0 (.inl ⟨rfl, rfl, rfl⟩)
  have hl := showL_len l _ _ _ h
  have hl2 : acc.length ≤ 1048576 := by simp only [List.length_nil] at hl; omega
  rw [tokens_run (by rw [strOfNums_size]; exact hl2), bytesN_str hs, run_go g]
  refine ⟨m'.out, m'.li - 1, by simp [runM, hc], ?_, ?_⟩
  · unfold sameT
    rw [ho]
    simp [outP, M0]
  · have := congrArg List.length ho
    simpa [outP, M0] using this
end Go.Proofs.Ytdgholodogcemaa.Lex
