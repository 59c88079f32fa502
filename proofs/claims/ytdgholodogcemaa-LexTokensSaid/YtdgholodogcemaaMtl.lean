/- The reference's Tokens is the machine: the loop. -/
import Derived.Test.YtdgholodogcemaaMtk
set_option linter.unusedVariables false
set_option linter.unusedSimpArgs false
namespace Go.Proofs.Ytdgholodogcemaa.Lex
open Go Go.RowKit Go.Proofs.Ytdgholodogcemaa.PAll Go.Proofs.YtdgholodogcemaaW.PrintWords Go.Proofs.YtdgholodogcemaaW.PrintLast Go.Proofs.YtdgholodogcemaaW.PrintMore
theorem part_self (s : ByteArray) (i : Nat) : partN s i i = [] := by simp [partN]
theorem part_len (s : ByteArray) {i j : Nat} (h1 : i ≤ j) (h2 : j ≤ s.size) : (partN s i j).length = j - i := by
  unfold partN
  rw [List.length_take, List.length_drop, bytesN_len]
  omega
theorem word34 {c : Nat} (h : wordB c = true) : c ≠ 34 := fun e => by rw [e] at h; cases h
theorem token_f (s : ByteArray) (hs : s.size ≤ 1000000) {i k : Nat} (hi : i < s.size) (hk : s.size + 5 ≤ k) {m : M} (hst : m.st = 0) (hco : 1 ≤ m.co) :
    ∃ (kind : Int) (text : ByteArray) (next : Nat) (ok : Bool), warrantorref23_token.f k s (i : Int) = some (kind, 0, 0, text, (next : Int), ok) ∧ i ≤ next ∧ next ≤ s.size ∧
    (ok = true → i < next ∧ ∃ m', runM ((bytesN s).drop i) m = runM ((bytesN s).drop next) m' ∧ (m'.st = 4 ∨ (m'.st = 1 ∧ ∀ h : next < s.size, wordB (s[next]'h).toNat = false)) ∧ outP m' = m.out ++ [⟨kind, m.li, m.co, text⟩] ∧ m'.li = m.li ∧ m'.co = m.co + (next - i)) ∧
    (ok = false → runM ((bytesN s).drop i) m = ([], m.li, m.co + (next - i), 230)) := by
  obtain ⟨k, rfl⟩ : ∃ j, k = j + 1 := ⟨k - 1, by omega⟩
  unfold warrantorref23_token.f
  rw [if_pos (by omega), if_pos (by omega), bt_nat s hi]
  simp only [warrantorref23_token.j0]
  have hdr := drop_at s hi
  by_cases c34 : (s[i]'hi).toNat = 34
  · rw [if_pos (by rw [c34]; rfl), wrap_nat (by omega)]
    obtain ⟨text, next, ok, q, a, b, c, d⟩ := text_loop s hs s.size (i + 1) k (nextM { m with st := 2, tk := 2, tl := m.li, tc := m.co, xs := [] }) [] (by omega) (by omega) (by omega) rfl rfl (by simp) (by simp only [nextM]; omega)
    refine ⟨2, text, next, ok, q, by omega, b, fun hk => ?_, fun hk => ?_⟩
    · obtain ⟨m', e, q1, q2, q3, q4⟩ := c hk
      refine ⟨by omega, m', ?_, .inl q1, ?_, q3, by rw [q4]; simp only [nextM]; omega⟩
      · rw [hdr, runM_step (step_of (.q0 hst c34)), e]
      · unfold outP
        rw [if_neg (by omega), List.append_nil, q2]
        rfl
    · rw [hdr, runM_step (step_of (.q0 hst c34)), d hk]
      simp only [nextM]
      congr 3
      omega
  · rw [if_neg (by simp; omega)]
    obtain ⟨next, q, a, b, c, d⟩ := word_loop s hs i s.size i k (by omega) (by omega) (by omega) (by omega) (by rw [part_self]; intro x hx; cases hx)
    refine ⟨1, _, next, _, q, a, b, fun hk => ?_, fun hk => ?_⟩
    · have hlt := of_decide_eq_true hk
      have hl := part_len s a b
      rw [part_drop s a]
      cases hp : partN s i next with
      | nil => rw [hp] at hl; simp at hl; omega
      | cons x l =>
        rw [hp] at hl c
        rw [List.length_cons] at hl
        have hx := c x (by simp)
        refine ⟨hlt, _, run_some (go_word0 (word34 hx) hx (fun y hy => c y (by simp [hy])) hst) _, .inr ⟨rfl, d⟩, ?_, rfl, ?_⟩
        · simp [outP, M.tok]
        · simp only []
          omega
    · have hge := of_decide_eq_false hk
      obtain rfl : next = i := by omega
      have hw := d hi
      have en : stepM m (s[next]'hi).toNat = none := by
        simp only [stepM, hst]
        rw [if_neg c34, hw, if_neg (by decide)]
      rw [hdr, runM_none en]
      congr 3
      omega
theorem wr_col {b i : Nat} (h : b ≤ i) (hi : i ≤ 1000000) : wrap64 (wrap64 ((i : Int) - (b : Int)) + 1) = (i : Int) - b + 1 := by
  have e : wrap64 ((i : Int) - (b : Int)) = (i : Int) - b := by unfold wrap64; omega
  rw [e]
  unfold wrap64
  omega
theorem tokens_loop (s : ByteArray) (hs : s.size ≤ 100000) : ∀ (d i b k : Nat) (m : M) (out : List S36) (line : Int), s.size - i ≤ d → b ≤ i → i ≤ s.size → (i = s.size → b = i) → 2 * d + s.size + 20 ≤ k →
    m.st = 0 → m.co = (i : Int) - b + 1 → m.out = out → m.li = line → 1 ≤ line → line ≤ i + 1 → out.length ≤ 2 * i → warrantorref23_Tokens.l0 k s out line (b : Int) (i : Int) = some (runM ((bytesN s).drop i) m) := by
  intro d
  induction d using Nat.strongRecOn with
  | ind d ih =>
  intro i b k m out line hd hb hi he hk hst hco ho hli hl1 hl2 hol
  obtain ⟨k, rfl⟩ : ∃ j, k = j + 2 := ⟨k - 2, by omega⟩
  rw [show k + 2 = (k + 1) + 1 from rfl]
  simp only [warrantorref23_Tokens.l0]
  by_cases h1 : i < s.size
  · obtain ⟨kind, text, next, ok, q, hn1, hn2, hok, hno⟩ := token_f s (by omega) (k := k + 1) h1 (by omega) hst (by omega)
    rw [if_pos (by omega), q, Option.bind_some]
    simp only
    cases ok with
    | false =>
      rw [if_neg (by decide), hno rfl, wr_col (by omega) (by omega), hli, hco]
      congr 4
      omega
    | true =>
      obtain ⟨hlt, m', hr, hs', hout, hli', hco'⟩ := hok rfl
      rw [if_pos rfl, if_pos (by omega), wr_col hb (by omega), Option.bind_some, hr]
      have hy : out ++ [(⟨kind, line, (i : Int) - b + 1, text⟩ : S36)] = outP m' := by rw [hout, ho, hli, hco]
      have hyl : (outP m').length ≤ 2 * i + 1 := by rw [← hy, List.length_append]; simp; omega
      rw [hy]
      clear hy hout
      have hco2 : m'.co = (next : Int) - b + 1 := by rw [hco', hco]; omega
      have hli2 : m'.li = line := by rw [hli', hli]
      have blank : stepM m' 32 = some { m' with st := 0, out := outP m' } := by
        rcases hs' with h4 | ⟨h1', _⟩
        · rw [step_of (.b4 h4 rfl)]; simp [outP, h4]
        · rw [step_of (.b1 h1' rfl)]; simp [outP, h1']
      have line10 : stepM m' 10 = some (m'.eol (outP m')) := by
        rcases hs' with h4 | ⟨h1', _⟩
        · rw [step_of (.f4 h4 rfl)]; simp [outP, h4]
        · rw [step_of (.f1 h1' rfl)]; simp [outP, h1']
      by_cases hn : next < s.size
      · have hdr := drop_at s hn
        have hbt := bt_nat s hn
        have hword : m'.st = 4 ∨ (m'.st = 1 ∧ wordB (s[next]'hn).toNat = false) := hs'.imp id fun h => ⟨h.1, h.2 hn⟩
        rw [if_pos (by omega), if_pos (by omega), hbt]
        simp only [warrantorref23_Tokens.j1]
        rw [hbt]
        generalize (s[next]'hn).toNat = c at hdr hbt hword ⊢
        rw [hdr]
        by_cases c32 : c = 32
        · subst c32
          rw [if_pos (by rfl), wrap_nat (by omega), runM_step blank]
          by_cases hend : next + 1 = s.size
          · rw [if_pos (by omega), bytesN_end (by omega), run_nil (by simp only [nextM]; omega), wr_col (by omega) (by omega)]
            simp only [nextM, hli2, hco2]
            congr 4
            omega
          · rw [if_neg (by omega)]
            exact ih (d - 1) (by omega) (next + 1) b k _ (outP m') line (by omega) (by omega) (by omega) (by omega) (by omega) rfl (by simp only [nextM]; omega) rfl hli2 hl1 (by omega) (by omega)
        · rw [if_neg (by simp; omega), if_pos (by omega), if_pos (by omega)]
          by_cases c10 : c = 10
          · subst c10
            have hlw : wrap64 (line + 1) = line + 1 := wrap_small (by omega) (by omega)
            rw [if_pos (by rfl), if_pos (by omega), wr_col (by omega) (by omega), wrap_nat (by omega), hlw, runM_step line10]
            exact ih (d - 1) (by omega) (next + 1) (next + 1) k _ _ (line + 1) (by omega) (by omega) (by omega) (by omega) (by omega) rfl (by simp only [nextM, M.eol]; omega) (by simp only [nextM, M.eol, hli2, hco2]) (by simp only [nextM, M.eol, hli2]) (by omega) (by omega) (by simp; omega)
          · have en : stepM m' c = none := by
              rcases hword with h4 | ⟨h1', hw⟩
              · simp only [stepM, h4]
                rw [if_neg c32, if_neg c10]
              · simp only [stepM, h1']
                rw [hw, if_neg (by decide), if_neg c32, if_neg c10]
            rw [if_neg (by omega), runM_none en, wr_col (by omega) (by omega), hli2, hco2]
      · rw [if_neg (by omega)]
        simp only [warrantorref23_Tokens.j1]
        rw [if_neg (by decide), if_neg (by omega), bytesN_end hn, run_nil (by omega), wr_col (by omega) (by omega), hli2, hco2]
  · obtain rfl : i = s.size := by omega
    have hb2 := he rfl
    subst hb2
    rw [if_neg (by omega), bytesN_end h1]
    simp only [runM]
    rw [if_neg (by omega), ho, hli, show wrap64 (line - 1) = line - 1 by unfold wrap64; omega]
theorem ref_tokens (s : ByteArray) (hs : s.size ≤ 100000) {k : Nat} (hk : 3 * s.size + 20 ≤ k) : warrantorref23_Tokens.f k s = some (tokensM s) := by
  unfold warrantorref23_Tokens.f
  rw [if_neg (by omega), tokens_run (by omega)]
  have := tokens_loop s hs s.size 0 0 k M0 [] 1 (by omega) (by omega) (by omega) (fun _ => rfl) (by omega) rfl rfl rfl rfl (by decide) (by decide) (by simp)
  rwa [List.drop_zero] at this
end Go.Proofs.Ytdgholodogcemaa.Lex
