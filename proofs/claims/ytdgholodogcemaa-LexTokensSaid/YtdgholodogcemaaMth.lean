/- The lexer's machine: what it does with texts in a row, with a quote, with a long word, with what is shown. -/
import Derived.Test.YtdgholodogcemaaSam
set_option linter.unusedVariables false
set_option linter.unusedSimpArgs false
namespace Go.Proofs.Ytdgholodogcemaa.Lex
open Go Go.RowKit Go.Proofs.YtdgholodogcemaaW.PrintWords Go.Proofs.YtdgholodogcemaaW.PrintLast
open Go.Proofs.Ytdgholodogcemaa.PAll (S36 k36)

inductive StepC (m : M) (c : Nat) : M → Prop
  | q0 (h : m.st = 0) (hc : c = 34) : StepC m c { m with st := 2, tk := 2, tl := m.li, tc := m.co, xs := [] }
  | w0 (h : m.st = 0) (hc : c ≠ 34) (hw : wordB c = true) : StepC m c { m with st := 1, tk := 1, tl := m.li, tc := m.co, xs := [(c : Int)] }
  | w1 (h : m.st = 1) (hw : wordB c = true) : StepC m c { m with xs := m.xs ++ [(c : Int)] }
  | b1 (h : m.st = 1) (hc : c = 32) : StepC m c { m with st := 0, out := m.out ++ [m.tok] }
  | f1 (h : m.st = 1) (hc : c = 10) : StepC m c (m.eol (m.out ++ [m.tok]))
  | q2 (h : m.st = 2) (hc : c = 34) : StepC m c { m with st := 4, out := m.out ++ [m.tok] }
  | s2 (h : m.st = 2) (hc : c = 92) : StepC m c { m with st := 3 }
  | p2 (h : m.st = 2) (h34 : c ≠ 34) (h92 : c ≠ 92) (hp : plainB c = true) : StepC m c { m with xs := m.xs ++ [(c : Int)] }
  | e3 (h : m.st = 3) (hc : c = 34 ∨ c = 92) : StepC m c { m with st := 2, xs := m.xs ++ [(c : Int)] }
  | b4 (h : m.st = 4) (hc : c = 32) : StepC m c { m with st := 0 }
  | f4 (h : m.st = 4) (hc : c = 10) : StepC m c (m.eol m.out)
theorem step_is {m m' : M} {c : Nat} (e : stepM m c = some m') : StepC m c m' := by
  unfold stepM at e
  split at e
  · rename_i h
    split at e
    · rename_i a; injection e with e; subst e; exact .q0 h a
    · rename_i a
      split at e
      · rename_i b; injection e with e; subst e; exact .w0 h a b
      · cases e
  · rename_i h
    split at e
    · rename_i a; injection e with e; subst e; exact .w1 h a
    · split at e
      · rename_i b; injection e with e; subst e; exact .b1 h b
      · split at e
        · rename_i b; injection e with e; subst e; exact .f1 h b
        · cases e
  · rename_i h
    split at e
    · rename_i a; injection e with e; subst e; exact .q2 h a
    · rename_i a
      split at e
      · rename_i b; injection e with e; subst e; exact .s2 h b
      · rename_i b
        split at e
        · rename_i d; injection e with e; subst e; exact .p2 h a b d
        · cases e
  · rename_i h
    split at e
    · rename_i a; injection e with e; subst e; exact .e3 h a
    · cases e
  · rename_i h
    split at e
    · rename_i b; injection e with e; subst e; exact .b4 h b
    · split at e
      · rename_i b; injection e with e; subst e; exact .f4 h b
      · cases e
  · cases e
theorem step_of {m m' : M} {c : Nat} (h : StepC m c m') : stepM m c = some m' := by
  cases h with
  | q0 h hc => simp only [stepM, h]; rw [if_pos hc]
  | w0 h hc hw => simp only [stepM, h]; rw [if_neg hc, if_pos hw]
  | w1 h hw => simp only [stepM, h]; rw [if_pos hw]
  | b1 h hc => subst hc; simp only [stepM, h]; rw [if_neg (by decide), if_pos trivial]
  | f1 h hc => subst hc; simp only [stepM, h]; rw [if_neg (by decide), if_neg (by decide), if_pos trivial]
  | q2 h hc => simp only [stepM, h]; rw [if_pos hc]
  | s2 h hc => subst hc; simp only [stepM, h]; rw [if_neg (by decide), if_pos trivial]
  | p2 h h34 h92 hp => simp only [stepM, h]; rw [if_neg h34, if_neg h92, if_pos hp]
  | e3 h hc => simp only [stepM, h]; rw [if_pos hc]
  | b4 h hc => simp only [stepM, h]; rw [if_pos hc]
  | f4 h hc => subst hc; simp only [stepM, h]; rw [if_neg (by decide), if_pos trivial]
theorem step_st {m1 m2 m2' : M} {c : Nat} (h : m2.st = m1.st) (e : stepM m2 c = some m2') : ∃ m1', stepM m1 c = some m1' := by
  cases step_is e with
  | q0 h1 hc => exact ⟨_, step_of (.q0 (h ▸ h1) hc)⟩
  | w0 h1 hc hw => exact ⟨_, step_of (.w0 (h ▸ h1) hc hw)⟩
  | w1 h1 hw => exact ⟨_, step_of (.w1 (h ▸ h1) hw)⟩
  | b1 h1 hc => exact ⟨_, step_of (.b1 (h ▸ h1) hc)⟩
  | f1 h1 hc => exact ⟨_, step_of (.f1 (h ▸ h1) hc)⟩
  | q2 h1 hc => exact ⟨_, step_of (.q2 (h ▸ h1) hc)⟩
  | s2 h1 hc => exact ⟨_, step_of (.s2 (h ▸ h1) hc)⟩
  | p2 h1 a b d => exact ⟨_, step_of (.p2 (h ▸ h1) a b d)⟩
  | e3 h1 hc => exact ⟨_, step_of (.e3 (h ▸ h1) hc)⟩
  | b4 h1 hc => exact ⟨_, step_of (.b4 (h ▸ h1) hc)⟩
  | f4 h1 hc => exact ⟨_, step_of (.f4 (h ▸ h1) hc)⟩
theorem none_st {m1 m2 : M} {c : Nat} (h : m2.st = m1.st) (e : stepM m1 c = none) : stepM m2 c = none := by
  cases e2 : stepM m2 c with
  | none => rfl
  | some m2' =>
    obtain ⟨m1', e1⟩ := step_st h e2
    rw [e] at e1; cases e1
def goM : List Nat → M → Option M
  | [], m => some m
  | c :: r, m => match stepM m c with
    | none => none
    | some m' => goM r (nextM m')
theorem goM_cons {c : Nat} {r : List Nat} {m m' : M} (h : stepM m c = some m') : goM (c :: r) m = goM r (nextM m') := by simp only [goM, h]
theorem runM_step {c : Nat} {r : List Nat} {m m' : M} (h : stepM m c = some m') : runM (c :: r) m = runM r (nextM m') := by simp only [runM, h]
theorem runM_none {c : Nat} {r : List Nat} {m : M} (h : stepM m c = none) : runM (c :: r) m = ([], m.li, m.co, 230) := by simp only [runM, h]
theorem goM_append {l r : List Nat} {m m' : M} (h : goM l m = some m') : goM (l ++ r) m = goM r m' := by
  induction l generalizing m with
  | nil => injection h with h; subst h; rfl
  | cons c l ih =>
    simp only [goM] at h
    simp only [List.cons_append, goM]
    cases e : stepM m c with
    | none => rw [e] at h; cases h
    | some m1 => rw [e] at h; exact ih h
theorem run_some {l : List Nat} {m m' : M} (h : goM l m = some m') (r : List Nat) : runM (l ++ r) m = runM r m' := by
  induction l generalizing m with
  | nil => injection h with h; subst h; rfl
  | cons c l ih =>
    simp only [goM] at h
    simp only [List.cons_append, runM]
    cases e : stepM m c with
    | none => rw [e] at h; cases h
    | some m1 => rw [e] at h; exact ih h
theorem run_go {l : List Nat} {m m' : M} (h : goM l m = some m') : runM l m = runM [] m' := by
  have := run_some h []
  rwa [List.append_nil] at this
theorem run_cases (l : List Nat) (m : M) : (∃ m', goM l m = some m' ∧ m'.co = 1 ∧ runM l m = (m'.out, m'.li - 1, 0, 0)) ∨ (∃ li co, runM l m = ([], li, co, 230)) := by
  induction l generalizing m with
  | nil =>
    by_cases h : m.co = 1
    · exact .inl ⟨m, rfl, h, by simp [runM, h]⟩
    · exact .inr ⟨m.li, m.co, by simp [runM, h]⟩
  | cons c l ih =>
    simp only [goM, runM]
    cases e : stepM m c with
    | none => exact .inr ⟨_, _, rfl⟩
    | some m1 => exact ih _
theorem good_go {l : List Nat} {m m' : M} {p : Nat} (h : m.Good p) (e : goM l m = some m') : m'.Good (p + l.length) := by
  induction l generalizing m p with
  | nil => injection e with e; subst e; exact h
  | cons c l ih =>
    simp only [goM] at e
    cases e1 : stepM m c with
    | none => rw [e1] at e; cases e
    | some m1 =>
      rw [e1] at e
      have hc : c < 128 := Nat.lt_of_not_le fun hc => by rw [step_hi hc] at e1; cases e1
      have := ih (good_step h hc e1).1 e
      rw [List.length_cons, show p + (l.length + 1) = p + 1 + l.length by omega]
      exact this
theorem good0 : M0.Good 0 := ⟨by decide, by decide, ⟨by decide, fun x hx => by cases hx⟩, by decide, by decide⟩
theorem col_go {l : List Nat} {m m' : M} (h1 : 1 ≤ m.co) (h2 : m.co = 1 → m.st = 0) (e : goM l m = some m') : 1 ≤ m'.co ∧ (m'.co = 1 → m'.st = 0) := by
  induction l generalizing m with
  | nil => injection e with e; subst e; exact ⟨h1, h2⟩
  | cons c l ih =>
    simp only [goM] at e
    cases e1 : stepM m c with
    | none => rw [e1] at e; cases e
    | some m1 =>
      rw [e1] at e
      refine ih ?_ ?_ e <;> cases step_is e1 <;> simp [nextM, M.eol] <;> omega
/-! ### two texts in a row -/
def sh (n : Int) (t : S36) : S36 := ⟨t.f0, wrap64 (t.f1 + n), t.f2, t.f3⟩
structure Shf (n : Int) (pre : List S36) (m1 m2 : M) : Prop where
  st : m2.st = m1.st
  co : m2.co = m1.co
  li : m2.li = m1.li + n
  out : m2.out = pre ++ m1.out.map (sh n)
  pend : 1 ≤ m1.st ∧ m1.st ≤ 3 → m2.tk = m1.tk ∧ m2.tl = wrap64 (m1.tl + n) ∧ m2.tc = m1.tc ∧ m2.xs = m1.xs
theorem Shf.tok {n : Int} {pre : List S36} {m1 m2 : M} (h : Shf n pre m1 m2) (hs : 1 ≤ m1.st ∧ m1.st ≤ 3) : m2.tok = sh n m1.tok := by
  obtain ⟨a, b, c, d⟩ := h.pend hs
  simp only [M.tok, sh, a, b, c, d]
theorem Shf.step {n : Int} {pre : List S36} {m1 m2 m1' : M} {c : Nat} (h : Shf n pre m1 m2) (hb : wrap64 (m1.li + n) = m1.li + n) (e : stepM m1 c = some m1') : ∃ m2', stepM m2 c = some m2' ∧ Shf n pre (nextM m1') (nextM m2') := by
  have hs := h.st
  cases step_is e with
  | q0 h1 hc => exact ⟨_, step_of (.q0 (hs.trans h1) hc), ⟨rfl, by simp [nextM, h.co], h.li, h.out, fun _ => ⟨rfl, by simp [nextM, h.li, hb], by simp [nextM, h.co], rfl⟩⟩⟩
  | w0 h1 hc hw => exact ⟨_, step_of (.w0 (hs.trans h1) hc hw), ⟨rfl, by simp [nextM, h.co], h.li, h.out, fun _ => ⟨rfl, by simp [nextM, h.li, hb], by simp [nextM, h.co], rfl⟩⟩⟩
  | w1 h1 hw =>
    obtain ⟨p1, p2, p3, p4⟩ := h.pend (by omega)
    exact ⟨_, step_of (.w1 (hs.trans h1) hw), ⟨h.st, by simp [nextM, h.co], h.li, h.out, fun _ => ⟨p1, p2, p3, by simp [nextM, p4]⟩⟩⟩
  | b1 h1 hc => exact ⟨_, step_of (.b1 (hs.trans h1) hc), ⟨rfl, by simp [nextM, h.co], h.li, by simp [nextM, h.out, h.tok (by omega)], fun h2 => by simp [nextM] at h2⟩⟩
  | f1 h1 hc => exact ⟨_, step_of (.f1 (hs.trans h1) hc), ⟨rfl, rfl, by simp only [nextM, M.eol, h.li]; omega, by simp [nextM, M.eol, h.out, h.tok (show 1 ≤ m1.st ∧ m1.st ≤ 3 by omega), sh, h.li, h.co, hb], fun h2 => by simp [nextM, M.eol] at h2⟩⟩
  | q2 h1 hc => exact ⟨_, step_of (.q2 (hs.trans h1) hc), ⟨rfl, by simp [nextM, h.co], h.li, by simp [nextM, h.out, h.tok (by omega)], fun h2 => by simp [nextM] at h2⟩⟩
  | s2 h1 hc =>
    obtain ⟨p1, p2, p3, p4⟩ := h.pend (by omega)
    exact ⟨_, step_of (.s2 (hs.trans h1) hc), ⟨rfl, by simp [nextM, h.co], h.li, h.out, fun _ => ⟨p1, p2, p3, p4⟩⟩⟩
  | p2 h1 a b d =>
    obtain ⟨p1, p2, p3, p4⟩ := h.pend (by omega)
    exact ⟨_, step_of (.p2 (hs.trans h1) a b d), ⟨h.st, by simp [nextM, h.co], h.li, h.out, fun _ => ⟨p1, p2, p3, by simp [nextM, p4]⟩⟩⟩
  | e3 h1 hc =>
    obtain ⟨p1, p2, p3, p4⟩ := h.pend (by omega)
    exact ⟨_, step_of (.e3 (hs.trans h1) hc), ⟨rfl, by simp [nextM, h.co], h.li, h.out, fun _ => ⟨p1, p2, p3, by simp [nextM, p4]⟩⟩⟩
  | b4 h1 hc => exact ⟨_, step_of (.b4 (hs.trans h1) hc), ⟨rfl, by simp [nextM, h.co], h.li, h.out, fun h2 => by simp [nextM] at h2⟩⟩
  | f4 h1 hc => exact ⟨_, step_of (.f4 (hs.trans h1) hc), ⟨rfl, rfl, by simp only [nextM, M.eol, h.li]; omega, by simp [nextM, M.eol, h.out, sh, h.li, h.co, hb], fun h2 => by simp [nextM, M.eol] at h2⟩⟩
theorem wrap_small {x : Int} (h0 : 0 ≤ x) (h1 : x ≤ 4000000000) : wrap64 x = x := by unfold wrap64; omega
theorem run_shift {n : Int} {pre : List S36} (hn : 0 ≤ n) (hn2 : n ≤ 1000000000) : ∀ (l : List Nat) (m1 m2 : M) (p : Nat), m1.Good p → Shf n pre m1 m2 → p + l.length ≤ 1000000000 →
    runM l m2 = (if (runM l m1).2.2.2 = 0 then pre ++ (runM l m1).1.map (sh n) else [], (runM l m1).2.1 + n, (runM l m1).2.2.1, (runM l m1).2.2.2)
  | [], m1, m2, p, hG, h, hp => by
    by_cases hc : m1.co = 1
    · have h2 := h.co
      rw [hc] at h2
      simp only [runM, hc, h2, h.li, h.out]
      simp
      omega
    · have h2 : m2.co ≠ 1 := by rw [h.co]; exact hc
      simp only [runM, if_pos hc, if_pos h2, h.li, h.co]
      simp
  | c :: l, m1, m2, p, hG, h, hp => by
    have hli := hG.li
    rw [List.length_cons] at hp
    cases e : stepM m1 c with
    | none =>
      rw [runM_none (none_st h.st e), runM_none e]
      simp [h.li, h.co]
    | some m1' =>
      obtain ⟨m2', e2, h2⟩ := h.step (wrap_small (by omega) (by omega)) e
      rw [runM_step e2, runM_step e]
      have hc : c < 128 := Nat.lt_of_not_le fun hc => by rw [step_hi hc] at e; cases e
      exact run_shift hn hn2 l _ _ (p + 1) (good_step hG hc e).1 h2 (by omega)
/-- what a text's tokens stay within -/
theorem run_good (l : List Nat) (m : M) (p : Nat) (hG : m.Good p) : (runM l m).1.length ≤ 2 * (p + l.length) ∧ 0 ≤ (runM l m).2.1 ∧ (runM l m).2.1 ≤ p + l.length + 1 := by
  induction l generalizing m p with
  | nil =>
    have h1 := hG.out
    have h2 := hG.li
    by_cases hc : m.co = 1
    · simp only [runM, hc]; simp; omega
    · simp only [runM, if_pos hc]; simp; omega
  | cons c l ih =>
    have h2 := hG.li
    cases e : stepM m c with
    | none => rw [runM_none e]; simp; omega
    | some m' =>
      have hc : c < 128 := Nat.lt_of_not_le fun hc => by rw [step_hi hc] at e; cases e
      have := ih _ _ (good_step hG hc e).1
      rw [runM_step e]
      simp only [List.length_cons]
      omega
/-! ### a long word; a quote -/
theorem go_word {l : List Nat} (hl : ∀ c ∈ l, wordB c = true) {m : M} (hs : m.st = 1) : goM l m = some { m with xs := m.xs ++ l.map (fun c : Nat => (c : Int)), co := m.co + l.length } := by
  induction l generalizing m with
  | nil => simp [goM]
  | cons c l ih =>
    rw [goM_cons (step_of (.w1 hs (hl c (by simp)))), ih (fun x hx => hl x (by simp [hx])) (by simpa [nextM] using hs)]
    simp [nextM]
    omega
theorem go_word0 {c : Nat} {l : List Nat} (h34 : c ≠ 34) (hc : wordB c = true) (hl : ∀ c ∈ l, wordB c = true) {m : M} (hs : m.st = 0) :
    goM (c :: l) m = some { m with st := 1, tk := 1, tl := m.li, tc := m.co, xs := (c :: l).map (fun c : Nat => (c : Int)), co := m.co + 1 + l.length } := by
  rw [goM_cons (step_of (.w0 hs h34 hc)), go_word hl (by simp [nextM])]
  simp [nextM]
def qbN (c : Nat) : List Nat := if plainB c then (if c = 34 ∨ c = 92 then [92, c] else [c]) else []
theorem qb_N (c : Nat) : (qb c).map Int.toNat = qbN c := by
  unfold qb qbN
  split
  · split <;> simp
  · rfl
theorem flat_N (l : List Nat) : (l.flatMap qb).map Int.toNat = l.flatMap qbN := by
  induction l with
  | nil => rfl
  | cons c l ih => rw [List.flatMap_cons, List.map_append, ih, qb_N, List.flatMap_cons]
theorem go_flat (l : List Nat) {m : M} (hs : m.st = 2) : ∃ k : Int, goM (l.flatMap qbN) m = some { m with xs := m.xs ++ (l.filter plainB).map (fun c : Nat => (c : Int)), co := m.co + k } ∧ 0 ≤ k := by
  induction l generalizing m with
  | nil => exact ⟨0, by simp [goM], by omega⟩
  | cons c l ih =>
    rw [List.flatMap_cons]
    by_cases hp : plainB c = true
    · by_cases hq : c = 34 ∨ c = 92
      · obtain ⟨k, e, hk⟩ := ih (m := { m with xs := m.xs ++ [(c : Int)], co := m.co + 2 }) hs
        refine ⟨k + 2, ?_, by omega⟩
        have e1 : goM [92, c] m = some { m with xs := m.xs ++ [(c : Int)], co := m.co + 2 } := by
          rw [goM_cons (step_of (.s2 hs rfl)), goM_cons (step_of (.e3 (by simp [nextM]) hq))]
          simp [goM, nextM, hs]
          omega
        rw [show qbN c = [92, c] by unfold qbN; rw [if_pos hp, if_pos hq], goM_append e1, e, List.filter_cons_of_pos hp]
        simp
        omega
      · obtain ⟨k, e, hk⟩ := ih (m := { m with xs := m.xs ++ [(c : Int)], co := m.co + 1 }) hs
        refine ⟨k + 1, ?_, by omega⟩
        have e1 : goM [c] m = some { m with xs := m.xs ++ [(c : Int)], co := m.co + 1 } := by
          rw [goM_cons (step_of (.p2 hs (fun h => hq (.inl h)) (fun h => hq (.inr h)) hp))]
          simp [goM, nextM]
        rw [show qbN c = [c] by unfold qbN; rw [if_pos hp, if_neg hq], goM_append e1, e, List.filter_cons_of_pos hp]
        simp
        omega
    · obtain ⟨k, e, hk⟩ := ih hs
      refine ⟨k, ?_, hk⟩
      rw [show qbN c = [] by unfold qbN; rw [if_neg hp], List.nil_append, e, List.filter_cons_of_neg hp]
theorem go_quote (l : List Nat) {m : M} (hs : m.st = 0) : ∃ k : Int, goM (34 :: l.flatMap qbN ++ [34]) m = some { m with st := 4, tk := 2, tl := m.li, tc := m.co, xs := (l.filter plainB).map (fun c : Nat => (c : Int)), co := m.co + k, out := m.out ++ [⟨2, m.li, m.co, strOfNums ((l.filter plainB).map (fun c : Nat => (c : Int)))⟩] } ∧ 2 ≤ k := by
  obtain ⟨k, e, hk⟩ := go_flat l (m := { m with st := 2, tk := 2, tl := m.li, tc := m.co, xs := [], co := m.co + 1 }) rfl
  refine ⟨k + 2, ?_, by omega⟩
  rw [List.cons_append, goM_cons (step_of (.q0 hs rfl))]
  show goM (l.flatMap qbN ++ [34]) { m with st := 2, tk := 2, tl := m.li, tc := m.co, xs := [], co := m.co + 1 } = _
  rw [goM_append e, goM_cons (step_of (.q2 rfl rfl))]
  simp [goM, nextM, M.tok]
  omega
/-! ### texts and their bytes -/
theorem bytesN_str {xs : List Int} : (∀ x ∈ xs, 0 ≤ x ∧ x < 256) → bytesN (strOfNums xs) = xs.map Int.toNat := by
  intro h
  simp only [bytesN, strOfNums, List.map_map]
  refine List.map_congr_left fun x hx => ?_
  have := h x hx
  simp only [Function.comp, UInt8.toNat_ofNat']
  omega
theorem strOfNums_size (xs : List Int) : (strOfNums xs).size = xs.length := by
  show ((xs.map _).toArray).size = _
  simp
theorem bytesN_app (a b : ByteArray) : bytesN (a ++ b) = bytesN a ++ bytesN b := by
  simp [bytesN]
theorem str_of_bytes (s : ByteArray) : strOfNums (bytesOf s) = s := by
  obtain ⟨⟨l⟩⟩ := s
  simp [strOfNums, bytesOf, Function.comp_def]
theorem bytesOf_N (s : ByteArray) : bytesOf s = (bytesN s).map fun c : Nat => (c : Int) := by
  simp [bytesOf, bytesN]
theorem toList_data (s : ByteArray) : s.toList = s.data.toList := by
  obtain ⟨⟨l⟩⟩ := s
  simp
theorem toList_inj (a b : ByteArray) : a.toList = b.toList ↔ a = b :=
  ⟨fun h => by rw [toList_data, toList_data] at h; exact ByteArray.ext (Array.ext' h), fun h => by rw [h]⟩
end Go.Proofs.Ytdgholodogcemaa.Lex
