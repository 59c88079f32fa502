/- lex.Tokens, walked, by a plain machine over bytes. -/
import Derived.Test.YtdgholodogcemaaSta
import Derived.Lib.OthersKept
set_option linter.unusedVariables false
set_option linter.unusedSimpArgs false
set_option maxRecDepth 20000
namespace Go.Proofs.Ytdgholodogcemaa.Lex
open Go Go.RowKit Go.Proofs.YtdgholodogcemaaW.PrintWords Go.Proofs.YtdgholodogcemaaW.PrintLast
open Go.Proofs.Ytdgholodogcemaa.PAll (S36 k36)

/-- a machine over bytes: its state (0 ahead of a token, 1 within a word, 2 within a text, 3 behind a sign that another one is meant as it is, 4 behind a text), the tokens so far, line, column, the token that is read -/
structure M where
  st : Nat
  out : List S36
  li : Int
  co : Int
  tk : Int
  tl : Int
  tc : Int
  xs : List Int
def M.tok (m : M) : S36 := ⟨m.tk, m.tl, m.tc, strOfNums m.xs⟩
/-- a line ends -/
def M.eol (m : M) (out : List S36) : M := { m with st := 0, out := out ++ [⟨3, m.li, m.co, ⟨#[]⟩⟩], li := m.li + 1, co := 0 }
def stepM (m : M) (c : Nat) : Option M :=
  match m.st with
  | 0 => if c = 34 then some { m with st := 2, tk := 2, tl := m.li, tc := m.co, xs := [] } else if wordB c then some { m with st := 1, tk := 1, tl := m.li, tc := m.co, xs := [(c : Int)] } else none
  | 1 => if wordB c then some { m with xs := m.xs ++ [(c : Int)] } else if c = 32 then some { m with st := 0, out := m.out ++ [m.tok] } else if c = 10 then some (m.eol (m.out ++ [m.tok])) else none
  | 2 => if c = 34 then some { m with st := 4, out := m.out ++ [m.tok] } else if c = 92 then some { m with st := 3 } else if plainB c then some { m with xs := m.xs ++ [(c : Int)] } else none
  | 3 => if c = 34 ∨ c = 92 then some { m with st := 2, xs := m.xs ++ [(c : Int)] } else none
  | 4 => if c = 32 then some { m with st := 0 } else if c = 10 then some (m.eol m.out) else none
  | _ => none
def nextM (m : M) : M := { m with co := m.co + 1 }
def runM : List Nat → M → List S36 × Int × Int × Int
  | [], m => if m.co ≠ 1 then ([], m.li, m.co, 230) else (m.out, m.li - 1, 0, 0)
  | c :: r, m => match stepM m c with
    | none => ([], m.li, m.co, 230)
    | some m' => runM r (nextM m')
def M0 : M := ⟨0, [], 1, 1, 0, 0, 0, []⟩
def bytesN (s : ByteArray) : List Nat := s.data.toList.map UInt8.toNat
def tokensM (s : ByteArray) : List S36 × Int × Int × Int := if 1048576 < s.size then ([], 0, 0, 3) else runM (bytesN s) M0
theorem word_hi {c : Nat} (h : 128 ≤ c) : wordB c = false := by unfold wordB plainB; rw [decide_eq_false (show ¬ c ≤ 126 by omega)]; simp
theorem plain_hi {c : Nat} (h : 128 ≤ c) : plainB c = false := by unfold plainB; rw [decide_eq_false (show ¬ c ≤ 126 by omega)]; simp
theorem step_hi {c : Nat} (h : 128 ≤ c) (m : M) : stepM m c = none := by
  unfold stepM
  rw [word_hi h, plain_hi h]
  split
  · rw [if_neg (by omega), if_neg (by decide)]
  · rw [if_neg (by decide), if_neg (by omega), if_neg (by omega)]
  · rw [if_neg (by omega), if_neg (by omega), if_neg (by decide)]
  · rw [if_neg (by omega)]
  · rw [if_neg (by omega), if_neg (by omega)]
  · rfl
/-- what the machine never leaves -/
structure M.Good (m : M) (p : Nat) : Prop where
  st : m.st ≤ 4
  out : m.out.length ≤ 2 * p
  xs : m.xs.length ≤ p ∧ ∀ x ∈ m.xs, 0 ≤ x ∧ x < 256
  li : 1 ≤ m.li ∧ m.li ≤ p + 1
  co : 1 ≤ m.co ∧ m.co ≤ p + 1
theorem good_step {m m' : M} {p c : Nat} (h : m.Good p) (hc : c < 128) (e : stepM m c = some m') : (nextM m').Good (p + 1) ∧ 0 ≤ m'.co ∧ m'.co ≤ p + 1 := by
  obtain ⟨h1, h2, h3, h4, h5⟩ := h
  have hx : ∀ x ∈ m.xs ++ [(c : Int)], 0 ≤ x ∧ x < 256 := fun x hx => by
    rcases List.mem_append.1 hx with hx | hx
    · exact h3.2 x hx
    · rw [List.mem_singleton] at hx; omega
  have hs : ∀ x ∈ [(c : Int)], 0 ≤ x ∧ x < 256 := fun x hx => by rw [List.mem_singleton] at hx; omega
  unfold stepM at e
  split at e
  · by_cases a : c = 34
    · rw [if_pos a] at e; injection e with e; subst e
      exact ⟨⟨by simp [nextM, M.eol], by simp [nextM]; omega, ⟨by simp [nextM], fun x hx => by cases hx⟩, by simp [nextM]; omega, by simp [nextM]; omega⟩, by simp; omega, by simp; omega⟩
    rw [if_neg a] at e
    by_cases b : wordB c = true
    · rw [if_pos b] at e; injection e with e; subst e
      exact ⟨⟨by simp [nextM, M.eol], by simp [nextM]; omega, ⟨by simp [nextM], hs⟩, by simp [nextM]; omega, by simp [nextM]; omega⟩, by simp; omega, by simp; omega⟩
    rw [if_neg b] at e; cases e
  · rename_i hst
    by_cases a : wordB c = true
    · rw [if_pos a] at e; injection e with e; subst e
      exact ⟨⟨by simp [nextM, hst], by simp [nextM]; omega, ⟨by simp [nextM]; omega, hx⟩, by simp [nextM]; omega, by simp [nextM]; omega⟩, by simp; omega, by simp; omega⟩
    rw [if_neg a] at e
    by_cases b : c = 32
    · rw [if_pos b] at e; injection e with e; subst e
      exact ⟨⟨by simp [nextM, M.eol], by simp [nextM]; omega, ⟨by simp [nextM]; omega, h3.2⟩, by simp [nextM]; omega, by simp [nextM]; omega⟩, by simp; omega, by simp; omega⟩
    rw [if_neg b] at e
    by_cases d : c = 10
    · rw [if_pos d] at e; injection e with e; subst e
      exact ⟨⟨by simp [nextM, M.eol], by simp [nextM, M.eol]; omega, ⟨by simp [nextM, M.eol]; omega, h3.2⟩, by simp [nextM, M.eol]; omega, by simp [nextM, M.eol]; omega⟩, by simp [M.eol], by simp [M.eol]; omega⟩
    rw [if_neg d] at e; cases e
  · rename_i hst
    by_cases a : c = 34
    · rw [if_pos a] at e; injection e with e; subst e
      exact ⟨⟨by simp [nextM, M.eol], by simp [nextM]; omega, ⟨by simp [nextM]; omega, h3.2⟩, by simp [nextM]; omega, by simp [nextM]; omega⟩, by simp; omega, by simp; omega⟩
    rw [if_neg a] at e
    by_cases b : c = 92
    · rw [if_pos b] at e; injection e with e; subst e
      exact ⟨⟨by simp [nextM, M.eol], by simp [nextM]; omega, ⟨by simp [nextM]; omega, h3.2⟩, by simp [nextM]; omega, by simp [nextM]; omega⟩, by simp; omega, by simp; omega⟩
    rw [if_neg b] at e
    by_cases d : plainB c = true
    · rw [if_pos d] at e; injection e with e; subst e
      exact ⟨⟨by simp [nextM, hst], by simp [nextM]; omega, ⟨by simp [nextM]; omega, hx⟩, by simp [nextM]; omega, by simp [nextM]; omega⟩, by simp; omega, by simp; omega⟩
    rw [if_neg d] at e; cases e
  · by_cases a : c = 34 ∨ c = 92
    · rw [if_pos a] at e; injection e with e; subst e
      exact ⟨⟨by simp [nextM, M.eol], by simp [nextM]; omega, ⟨by simp [nextM]; omega, hx⟩, by simp [nextM]; omega, by simp [nextM]; omega⟩, by simp; omega, by simp; omega⟩
    rw [if_neg a] at e; cases e
  · by_cases a : c = 32
    · rw [if_pos a] at e; injection e with e; subst e
      exact ⟨⟨by simp [nextM, M.eol], by simp [nextM]; omega, ⟨by simp [nextM]; omega, h3.2⟩, by simp [nextM]; omega, by simp [nextM]; omega⟩, by simp; omega, by simp; omega⟩
    rw [if_neg a] at e
    by_cases d : c = 10
    · rw [if_pos d] at e; injection e with e; subst e
      exact ⟨⟨by simp [nextM, M.eol], by simp [nextM, M.eol]; omega, ⟨by simp [nextM, M.eol]; omega, h3.2⟩, by simp [nextM, M.eol]; omega, by simp [nextM, M.eol]; omega⟩, by simp [M.eol], by simp [M.eol]; omega⟩
    rw [if_neg d] at e; cases e
  · cases e
/-- the lexer, as the machine stands -/
def LDm (m : M) (w : World) (g base : Nat) : Prop := (1 ≤ m.st ∧ m.st ≤ 3 → LDo w g base m.out m.li m.co m.tk m.tl m.tc m.xs) ∧ LDc w g base m.out m.li m.co
theorem LDm.open_ {m : M} {w : World} {g base : Nat} (h : LDo w g base m.out m.li m.co m.tk m.tl m.tc m.xs) : LDm m w g base := ⟨fun _ => h, h.close⟩
theorem LDm.closed {m : M} {w : World} {g base : Nat} (h : LDc w g base m.out m.li m.co) (hs : m.st = 0 ∨ m.st = 4) : LDm m w g base := ⟨fun h2 => by omega, h⟩
def fnOk (n st : Nat) : Prop := st = 0 ∧ (n = 19 ∨ n = 31) ∨ st = 1 ∧ n = 38 ∨ st = 2 ∧ n = 36 ∨ st = 3 ∧ n = 44 ∨ st = 4 ∧ n = 43
def StepPost (m' : M) (w : World) (g base : Nat) (e : Ending) (w' : World) : Prop := (∃ n, e = .returned (.func (.func n) #[] #[]) ∧ fnOk n m'.st) ∧ LDm m' w' g base ∧ IterStay w w' ∧ Below base w w'
theorem str_bytes {xs : List Int} (h : ∀ x ∈ xs, 0 ≤ x ∧ x < 256) : xs = bytesOf (strOfNums xs) := by
  simp only [strOfNums, bytesOf, List.map_map]
  conv => lhs; rw [← List.map_id xs]
  refine (List.map_congr_left fun x hx => ?_).symm
  have := h x hx
  simp only [Function.comp, UInt8.toNat_ofNat', id]
  omega
theorem w64i {x : Int} (h : 0 ≤ x ∧ x ≤ 3000000) : wrap64 (x + 1) = x + 1 := by unfold wrap64; omega
section
variable {m m' : M} {w : World} {g base p c : Nat}
theorem step0 (hG : m.Good p) (hp : p ≤ 1048576) (hs : m.st = 0) (hL : LDm m w g base) (hc : c < 128) (e : stepM m c = some m') {n : Nat} (hn : n = 19 ∨ n = 31) :
    Calls Try.prog n #[.pointer (some ⟨g, 0, none⟩), .int .i32 (c : Int)] w (StepPost m' w g base) := by
  unfold stepM at e
  rw [hs] at e
  by_cases a : c = 34
  · rw [if_pos a] at e
    injection e with e
    subst e
    subst a
    rcases hn with rfl | rfl
    · exact (start_q hL.2).mono fun e w' h => ⟨⟨36, h.1, .inr (.inr (.inl ⟨rfl, rfl⟩))⟩, LDm.open_ h.2.1, h.2.2⟩
    · exact (fresh_q hL.2).mono fun e w' h => ⟨⟨36, h.1, .inr (.inr (.inl ⟨rfl, rfl⟩))⟩, LDm.open_ h.2.1, h.2.2⟩
  · simp only [if_neg a] at e
    by_cases b : wordB c = true
    · rw [if_pos b] at e
      injection e with e
      subst e
      rcases hn with rfl | rfl
      · exact (start_w hL.2 hc b a).mono fun e w' h => ⟨⟨38, h.1, .inr (.inl ⟨rfl, rfl⟩)⟩, LDm.open_ h.2.1, h.2.2⟩
      · exact (fresh_w hL.2 hc b a).mono fun e w' h => ⟨⟨38, h.1, .inr (.inl ⟨rfl, rfl⟩)⟩, LDm.open_ h.2.1, h.2.2⟩
    · rw [if_neg b] at e
      cases e
theorem none0 (hs : m.st = 0) (e : stepM m c = none) {n : Nat} (hn : n = 19 ∨ n = 31) (w : World) : Calls Try.prog n #[.pointer (some ⟨g, 0, none⟩), .int .i32 (c : Int)] w fun e w' => e = .returned .nilFunc ∧ w = w' := by
  unfold stepM at e
  rw [hs] at e
  by_cases a : c = 34
  · rw [if_pos a] at e; cases e
  simp only [if_neg a] at e
  by_cases b : wordB c = true
  · rw [if_pos b] at e; cases e
  have b : wordB c = false := by simpa using b
  rcases hn with rfl | rfl
  · exact start_n b a
  · exact fresh_n b a
theorem step1 (hG : m.Good p) (hp : p ≤ 1048576) (hs : m.st = 1) (hL : LDm m w g base) (hc : c < 128) (e : stepM m c = some m') :
    Calls Try.prog 38 #[.pointer (some ⟨g, 0, none⟩), .int .i32 (c : Int)] w (StepPost m' w g base) := by
  have hO := hL.1 (by omega)
  have ho := hG.out
  have hx := hG.xs.1
  unfold stepM at e
  rw [hs] at e
  by_cases a : wordB c = true
  · simp only [if_pos a] at e
    injection e with e
    subst e
    exact (goes_w hO hc a (by omega)).mono fun e w' h => ⟨⟨38, h.1, .inr (.inl ⟨rfl, rfl⟩)⟩, LDm.open_ h.2.1, h.2.2⟩
  simp only [if_neg a] at e
  by_cases b : c = 32
  · rw [if_pos b] at e
    injection e with e
    subst e
    subst b
    exact (goes_b hO (strOfNums m.xs) (str_bytes hG.xs.2) (by omega)).mono fun e w' h => ⟨⟨31, h.1, .inl ⟨rfl, .inr rfl⟩⟩, LDm.closed h.2.1 (.inl rfl), h.2.2⟩
  simp only [if_neg b] at e
  by_cases d : c = 10
  · rw [if_pos d] at e
    injection e with e
    subst e
    subst d
    exact (goes_f hO (strOfNums m.xs) (str_bytes hG.xs.2) (by omega) (by simp; omega) (w64i (by have := hG.li; omega))).mono fun e w' h => ⟨⟨19, h.1, .inl ⟨rfl, .inl rfl⟩⟩, LDm.closed h.2.1 (.inl rfl), h.2.2⟩
  · rw [if_neg d] at e
    cases e
theorem none1 (hs : m.st = 1) (e : stepM m c = none) (w : World) : Calls Try.prog 38 #[.pointer (some ⟨g, 0, none⟩), .int .i32 (c : Int)] w fun e w' => e = .returned .nilFunc ∧ w = w' := by
  unfold stepM at e
  rw [hs] at e
  by_cases a : wordB c = true
  · simp only [if_pos a] at e; cases e
  simp only [if_neg a] at e
  by_cases b : c = 32
  · rw [if_pos b] at e; cases e
  simp only [if_neg b] at e
  by_cases d : c = 10
  · rw [if_pos d] at e; cases e
  exact goes_n (by simpa using a) b d
theorem step2 (hG : m.Good p) (hp : p ≤ 1048576) (hs : m.st = 2) (hL : LDm m w g base) (hc : c < 128) (e : stepM m c = some m') :
    Calls Try.prog 36 #[.pointer (some ⟨g, 0, none⟩), .int .i32 (c : Int)] w (StepPost m' w g base) := by
  have hO := hL.1 (by omega)
  have ho := hG.out
  have hx := hG.xs.1
  unfold stepM at e
  rw [hs] at e
  by_cases a : c = 34
  · simp only [if_pos a] at e
    injection e with e
    subst e
    subst a
    exact (within_q hO (strOfNums m.xs) (str_bytes hG.xs.2) (by omega)).mono fun e w' h => ⟨⟨43, h.1, .inr (.inr (.inr (.inr ⟨rfl, rfl⟩)))⟩, LDm.closed h.2.1 (.inr rfl), h.2.2⟩
  simp only [if_neg a] at e
  by_cases b : c = 92
  · rw [if_pos b] at e
    injection e with e
    subst e
    subst b
    exact (within_s hO).mono fun e w' h => ⟨⟨44, h.1, .inr (.inr (.inr (.inl ⟨rfl, rfl⟩)))⟩, LDm.open_ h.2.1, h.2.2⟩
  simp only [if_neg b] at e
  by_cases d : plainB c = true
  · rw [if_pos d] at e
    injection e with e
    subst e
    exact (within_p hO hc d a b (by omega)).mono fun e w' h => ⟨⟨36, h.1, .inr (.inr (.inl ⟨rfl, rfl⟩))⟩, LDm.open_ h.2.1, h.2.2⟩
  · rw [if_neg d] at e
    cases e
theorem none2 (hs : m.st = 2) (e : stepM m c = none) (w : World) : Calls Try.prog 36 #[.pointer (some ⟨g, 0, none⟩), .int .i32 (c : Int)] w fun e w' => e = .returned .nilFunc ∧ w = w' := by
  unfold stepM at e
  rw [hs] at e
  by_cases a : c = 34
  · simp only [if_pos a] at e; cases e
  simp only [if_neg a] at e
  by_cases b : c = 92
  · rw [if_pos b] at e; cases e
  simp only [if_neg b] at e
  by_cases d : plainB c = true
  · rw [if_pos d] at e; cases e
  exact within_n (by simpa using d) a b
theorem step3 (hG : m.Good p) (hp : p ≤ 1048576) (hs : m.st = 3) (hL : LDm m w g base) (hc : c < 128) (e : stepM m c = some m') :
    Calls Try.prog 44 #[.pointer (some ⟨g, 0, none⟩), .int .i32 (c : Int)] w (StepPost m' w g base) := by
  have hO := hL.1 (by omega)
  have hx := hG.xs.1
  unfold stepM at e
  rw [hs] at e
  by_cases a : c = 34 ∨ c = 92
  · simp only [if_pos a] at e
    injection e with e
    subst e
    rcases a with rfl | rfl
    · exact (escaped_q hO (by omega)).mono fun e w' h => ⟨⟨36, h.1, .inr (.inr (.inl ⟨rfl, rfl⟩))⟩, LDm.open_ h.2.1, h.2.2⟩
    · exact (escaped_s hO (by omega)).mono fun e w' h => ⟨⟨36, h.1, .inr (.inr (.inl ⟨rfl, rfl⟩))⟩, LDm.open_ h.2.1, h.2.2⟩
  · simp only [if_neg a] at e
    cases e
theorem none3 (hs : m.st = 3) (e : stepM m c = none) (w : World) : Calls Try.prog 44 #[.pointer (some ⟨g, 0, none⟩), .int .i32 (c : Int)] w fun e w' => e = .returned .nilFunc ∧ w = w' := by
  unfold stepM at e
  rw [hs] at e
  by_cases a : c = 34 ∨ c = 92
  · simp only [if_pos a] at e; cases e
  exact escaped_n (fun h => a (.inl h)) (fun h => a (.inr h))
theorem step4 (hG : m.Good p) (hp : p ≤ 1048576) (hs : m.st = 4) (hL : LDm m w g base) (hc : c < 128) (e : stepM m c = some m') :
    Calls Try.prog 43 #[.pointer (some ⟨g, 0, none⟩), .int .i32 (c : Int)] w (StepPost m' w g base) := by
  have ho := hG.out
  unfold stepM at e
  rw [hs] at e
  by_cases b : c = 32
  · simp only [if_pos b] at e
    injection e with e
    subst e
    subst b
    exact (behind_b hL.2).mono fun e w' h => ⟨⟨31, h.1, .inl ⟨rfl, .inr rfl⟩⟩, LDm.closed h.2.1 (.inl rfl), h.2.2⟩
  simp only [if_neg b] at e
  by_cases d : c = 10
  · rw [if_pos d] at e
    injection e with e
    subst e
    subst d
    exact (behind_f hL.2 (by omega) (w64i (by have := hG.li; omega))).mono fun e w' h => ⟨⟨19, h.1, .inl ⟨rfl, .inl rfl⟩⟩, LDm.closed h.2.1 (.inl rfl), h.2.2⟩
  · rw [if_neg d] at e
    cases e
theorem none4 (hs : m.st = 4) (e : stepM m c = none) (w : World) : Calls Try.prog 43 #[.pointer (some ⟨g, 0, none⟩), .int .i32 (c : Int)] w fun e w' => e = .returned .nilFunc ∧ w = w' := by
  unfold stepM at e
  rw [hs] at e
  by_cases b : c = 32
  · simp only [if_pos b] at e; cases e
  simp only [if_neg b] at e
  by_cases d : c = 10
  · rw [if_pos d] at e; cases e
  exact behind_n b d
/-- the state that a function value stands for -/
theorem step_any (hG : m.Good p) (hp : p ≤ 1048576) {n : Nat} (hn : fnOk n m.st) (hL : LDm m w g base) (hc : c < 128) (e : stepM m c = some m') :
    Calls Try.prog n #[.pointer (some ⟨g, 0, none⟩), .int .i32 (c : Int)] w (StepPost m' w g base) := by
  rcases hn with ⟨h, hn⟩ | ⟨h, rfl⟩ | ⟨h, rfl⟩ | ⟨h, rfl⟩ | ⟨h, rfl⟩
  · exact step0 hG hp h hL hc e hn
  · exact step1 hG hp h hL hc e
  · exact step2 hG hp h hL hc e
  · exact step3 hG hp h hL hc e
  · exact step4 hG hp h hL hc e
theorem none_any {n : Nat} (hn : fnOk n m.st) (e : stepM m c = none) (w : World) : Calls Try.prog n #[.pointer (some ⟨g, 0, none⟩), .int .i32 (c : Int)] w fun e w' => e = .returned .nilFunc ∧ w = w' := by
  rcases hn with ⟨h, hn⟩ | ⟨h, rfl⟩ | ⟨h, rfl⟩ | ⟨h, rfl⟩ | ⟨h, rfl⟩
  · exact none0 h e hn w
  · exact none1 h e w
  · exact none2 h e w
  · exact none3 h e w
  · exact none4 h e w
end
end Go.Proofs.Ytdgholodogcemaa.Lex
