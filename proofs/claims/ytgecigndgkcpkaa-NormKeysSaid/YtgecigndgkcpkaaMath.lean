/- The parts of a text and its norm, over lists of bytes: no program in sight. -/
set_option linter.unusedVariables false
set_option linter.unusedSimpArgs false
namespace Go.Proofs.Ytgecigndgkcpkaa.NormM

def wordN (n : Nat) : Bool := decide (97 ≤ n ∧ n ≤ 122) || decide (65 ≤ n ∧ n ≤ 90) || decide (48 ≤ n ∧ n ≤ 57) || decide (n = 95) || decide (n = 46)
def wordB (c : UInt8) : Bool := wordN c.toNat
theorem word_blank : wordB 32 = false := rfl

def headW : List UInt8 → Bool
  | [] => false
  | c :: _ => wordB c
def lastW : List UInt8 → Bool
  | [] => false
  | [c] => wordB c
  | _ :: s => lastW s
def consHead (c : UInt8) : List (List UInt8) → List (List UInt8)
  | [] => [[c]]
  | p :: ps => (c :: p) :: ps

/-- the parts of a text -/
def parts : List UInt8 → List (List UInt8)
  | [] => []
  | c :: s => if c = 32 then parts s else if wordB c = true ∧ headW s = true then consHead c (parts s) else [c] :: parts s

theorem parts_blank (s : List UInt8) : parts (32 :: s) = parts s := by simp [parts]
theorem parts_no (c : UInt8) (s : List UInt8) (h : c ≠ 32) (h2 : ¬ (wordB c = true ∧ headW s = true)) : parts (c :: s) = [c] :: parts s := by simp only [parts]; rw [if_neg h, if_neg h2]
theorem parts_yes (c : UInt8) (s : List UInt8) (h1 : wordB c = true) (h2 : headW s = true) : parts (c :: s) = consHead c (parts s) := by
  simp only [parts]
  rw [if_neg (by rintro rfl; rw [word_blank] at h1; cases h1), if_pos ⟨h1, h2⟩]
theorem word_ne {c : UInt8} (h : wordB c = true) : c ≠ 32 := by rintro rfl; rw [word_blank] at h; cases h

/-- a run of word bytes in front of none -/
theorem parts_run (b : List UInt8) (hb : headW b = false) : ∀ (a : List UInt8), a ≠ [] → (∀ c ∈ a, wordB c = true) → parts (a ++ b) = a :: parts b
  | [], h, _ => absurd rfl h
  | [c], _, h => by
    have hc := h c (by simp)
    exact parts_no c b (word_ne hc) (by rw [hb]; simp)
  | c :: d :: a, _, h => by
    have hc := h c (by simp)
    have hd := h d (by simp)
    have ih := parts_run b hb (d :: a) (by simp) (fun x hx => h x (by simp at hx ⊢; exact .inr hx))
    show parts (c :: (d :: a ++ b)) = _
    rw [parts_yes c _ hc (by simpa [headW] using hd), ih]
    rfl

/-- the head of the first part -/
theorem parts_head (s : List UInt8) (h : headW s = true) : ∃ p ps, parts s = p :: ps ∧ headW p = true := by
  cases s with
  | nil => simp [headW] at h
  | cons c s =>
    simp only [headW] at h
    by_cases h2 : headW s = true
    · rw [parts_yes c s h h2]
      cases parts s with
      | nil => exact ⟨_, _, rfl, by simpa [headW] using h⟩
      | cons p ps => exact ⟨_, _, rfl, by simpa [headW] using h⟩
    · rw [parts_no c s (word_ne h) (by simp [h2])]
      exact ⟨_, _, rfl, by simpa [headW] using h⟩

def Good (p : List UInt8) : Prop := (p ≠ [] ∧ ∀ c ∈ p, wordB c = true) ∨ ∃ c, p = [c] ∧ wordB c = false ∧ c ≠ 32

theorem Good.ne {p : List UInt8} (h : Good p) : p ≠ [] := by
  rcases h with h | ⟨c, rfl, _⟩
  · exact h.1
  · simp

theorem parts_good : ∀ s, ∀ p ∈ parts s, Good p
  | [] => by simp [parts]
  | c :: s => by
    have ih := parts_good s
    by_cases h0 : c = 32
    · subst h0; rw [parts_blank]; exact ih
    · by_cases h1 : wordB c = true
      · by_cases h2 : headW s = true
        · obtain ⟨p, ps, hp, hh⟩ := parts_head s h2
          rw [parts_yes c s h1 h2]
          rw [hp] at ih ⊢
          intro q hq
          simp only [consHead, List.mem_cons] at hq
          rcases hq with rfl | hq
          · have := ih p (by simp)
            rcases this with h | ⟨d, rfl, hd, _⟩
            · refine .inl ⟨by simp, fun x hx => ?_⟩
              simp only [List.mem_cons] at hx
              rcases hx with rfl | hx
              · exact h1
              · exact h.2 x hx
            · simp [headW, hd] at hh
          · exact ih q (by simp [hq])
        · rw [parts_no c s h0 (by simp [h2])]
          intro q hq
          simp only [List.mem_cons] at hq
          rcases hq with rfl | hq
          · exact .inl ⟨by simp, by simpa using h1⟩
          · exact ih q hq
      · rw [parts_no c s h0 (by simp [h1])]
        intro q hq
        simp only [List.mem_cons] at hq
        rcases hq with rfl | hq
        · exact .inr ⟨c, rfl, by simpa using h1, h0⟩
        · exact ih q hq

/-- the parts behind each other, a blank between two words; l: a word stands in front -/
def joinP : Bool → List (List UInt8) → List UInt8
  | _, [] => []
  | l, p :: ps => (if l = true ∧ headW p = true then 32 :: p else p) ++ joinP (headW p) ps

theorem head_join (ps : List (List UInt8)) (h : ∀ p ∈ ps, Good p) : headW (joinP true ps) = false := by
  cases ps with
  | nil => rfl
  | cons p ps =>
    cases p with
    | nil => exact absurd rfl (h [] (by simp)).ne
    | cons c p =>
      by_cases hp : headW (c :: p) = true
      · rw [joinP, if_pos ⟨rfl, hp⟩]; exact word_blank
      · rw [joinP, if_neg (fun hh => hp hh.2)]; exact (by simpa using hp : headW (c :: p) = false)

theorem good_word {p : List UInt8} (h : Good p) (hp : headW p = true) : ∀ c ∈ p, wordB c = true := by
  rcases h with h | ⟨c, rfl, hc, _⟩
  · exact h.2
  · simp [headW, hc] at hp

theorem parts_join : ∀ (ps : List (List UInt8)), (∀ p ∈ ps, Good p) → ∀ l, parts (joinP l ps) = ps
  | [], _, _ => rfl
  | p :: ps, h, l => by
    have hp := h p (by simp)
    have ih := parts_join ps (fun q hq => h q (by simp [hq]))
    have e : parts (joinP l (p :: ps)) = parts (p ++ joinP (headW p) ps) := by
      simp only [joinP]
      split
      · show parts (32 :: (p ++ _)) = _
        rw [parts_blank]
      · rfl
    rw [e]
    by_cases hw : headW p = true
    · rw [hw, parts_run _ (head_join ps (fun q hq => h q (by simp [hq]))) p hp.ne (good_word hp hw), ih]
    · rcases hp with hp | ⟨c, rfl, hc, h0⟩
      · obtain ⟨hne, hall⟩ := hp
        cases p with
        | nil => exact absurd rfl hne
        | cons c p => exact absurd (hall c (by simp)) hw
      · show parts (c :: joinP _ ps) = _
        rw [parts_no c _ h0 (by simp [hc]), ih]

def norm (s : List UInt8) : List UInt8 := joinP false (parts s)

theorem parts_norm (s : List UInt8) : parts (norm s) = parts s := parts_join _ (parts_good s) _
theorem norm_norm (s : List UInt8) : norm (norm s) = norm s := by show joinP false (parts (norm s)) = _; rw [parts_norm]; rfl
theorem norm_eq (s t : List UInt8) : norm s = norm t ↔ parts s = parts t :=
  ⟨fun h => by rw [← parts_norm s, h, parts_norm], fun h => by show joinP false (parts s) = _; rw [h]; rfl⟩

theorem join_len : ∀ s, (joinP false (parts s)).length ≤ s.length ∧ (joinP true (parts s)).length ≤ s.length + (if headW s = true then 1 else 0)
  | [] => by simp [parts, joinP]
  | c :: s => by
    obtain ⟨h1, h2⟩ := join_len s
    have h2' : (joinP true (parts s)).length ≤ s.length + 1 := Nat.le_trans h2 (by split <;> omega)
    by_cases h0 : c = 32
    · subst h0
      rw [parts_blank]
      simp only [List.length_cons]
      exact ⟨by omega, by omega⟩
    · by_cases hw : wordB c = true
      · by_cases hh : headW s = true
        · obtain ⟨p, ps, hp, hph⟩ := parts_head s hh
          rw [parts_yes c s hw hh, hp]
          rw [hp] at h1
          simp only [joinP, hph, consHead] at h1 ⊢
          simp [headW, hw] at h1 ⊢
          omega
        · rw [parts_no c s h0 (by simp [hh])]
          simp only [hh] at h2
          simp [joinP, headW, hw] at h2 ⊢
          omega
      · rw [parts_no c s h0 (by simp [hw])]
        have hw' : wordB c = false := by simpa using hw
        simp [joinP, headW, hw']
        omega
theorem norm_len (s : List UInt8) : (norm s).length ≤ s.length := (join_len s).1

/-! ### blanks in a norm -/
def Spaced (x : List UInt8) : Prop := ∀ i : Nat, x[i]? = some 32 → ∃ d, x[i + 1]? = some d ∧ d ≠ 32
theorem spaced_cons {c : UInt8} {x : List UInt8} (hc : c ≠ 32) (h : Spaced x) : Spaced (c :: x) := by
  intro i hi
  cases i with
  | zero => simp at hi; exact absurd hi hc
  | succ i => simpa using h i (by simpa using hi)
theorem spaced_app : ∀ (p x : List UInt8), (∀ c ∈ p, c ≠ 32) → Spaced x → Spaced (p ++ x)
  | [], _, _, h => h
  | c :: p, x, hp, h => spaced_cons (hp c (by simp)) (spaced_app p x (fun d hd => hp d (by simp [hd])) h)
theorem good_blank {p : List UInt8} (h : Good p) : ∀ c ∈ p, c ≠ 32 := by
  rcases h with h | ⟨c, rfl, _, h⟩
  · exact fun c hc => word_ne (h.2 c hc)
  · simpa using h
theorem join_spaced : ∀ (ps : List (List UInt8)), (∀ p ∈ ps, Good p) → ∀ l, Spaced (joinP l ps)
  | [], _, _ => by intro i hi; simp [joinP] at hi
  | p :: ps, h, l => by
    have hp := h p (by simp)
    have ih := spaced_app p _ (good_blank hp) (join_spaced ps (fun q hq => h q (by simp [hq])) (headW p))
    simp only [joinP]
    split
    · cases p with
      | nil => exact absurd rfl hp.ne
      | cons c p =>
        intro i hi
        cases i with
        | zero => exact ⟨c, by simp, good_blank hp c (by simp)⟩
        | succ i => simpa using ih i (by simpa using hi)
    · exact ih
theorem join_head (ps : List (List UInt8)) (h : ∀ p ∈ ps, Good p) : (joinP false ps)[0]? ≠ some 32 := by
  cases ps with
  | nil => simp [joinP]
  | cons p ps =>
    have hp := h p (by simp)
    cases p with
    | nil => exact absurd rfl hp.ne
    | cons c p => simpa [joinP] using good_blank hp c (by simp)

/-! ### two texts behind each other -/
theorem lastW_cons (c d : UInt8) (s : List UInt8) : lastW (c :: d :: s) = lastW (d :: s) := rfl
theorem headW_app (a b : List UInt8) (h : a ≠ []) : headW (a ++ b) = headW a := by
  cases a with
  | nil => exact absurd rfl h
  | cons c a => rfl
theorem consHead_app (c : UInt8) (xs ys : List (List UInt8)) (h : xs ≠ []) : consHead c (xs ++ ys) = consHead c xs ++ ys := by
  cases xs with
  | nil => exact absurd rfl h
  | cons p ps => rfl
theorem consHead_len (c : UInt8) (xs : List (List UInt8)) (h : xs ≠ []) : (consHead c xs).length = xs.length := by
  cases xs with
  | nil => exact absurd rfl h
  | cons p ps => rfl
theorem parts_ne (s : List UInt8) (h : headW s = true) : parts s ≠ [] := by obtain ⟨p, ps, hp, _⟩ := parts_head s h; simp [hp]

theorem parts_app (b : List UInt8) : ∀ (a : List UInt8), ¬ (lastW a = true ∧ headW b = true) → parts (a ++ b) = parts a ++ parts b
  | [], _ => rfl
  | [c], h => by
    show parts (c :: b) = _
    by_cases h0 : c = 32
    · subst h0; rw [parts_blank]; rfl
    · rw [parts_no c b h0 h, parts_no c [] h0 (by simp [headW])]; rfl
  | c :: d :: a, h => by
    rw [lastW_cons] at h
    have ih := parts_app b (d :: a) h
    show parts (c :: (d :: a ++ b)) = _
    by_cases h0 : c = 32
    · subst h0; rw [parts_blank, parts_blank, ih]
    · by_cases hw : wordB c = true ∧ headW (d :: a) = true
      · rw [parts_yes c (d :: a ++ b) hw.1 hw.2, parts_yes c (d :: a) hw.1 hw.2, ih, consHead_app _ _ _ (parts_ne _ hw.2)]
      · rw [parts_no c (d :: a ++ b) h0 hw, parts_no c (d :: a) h0 hw, ih]; rfl
theorem parts_met (b : List UInt8) (hb : headW b = true) : ∀ (a : List UInt8), lastW a = true → (parts (a ++ b)).length + 1 = (parts a).length + (parts b).length
  | [], h => by simp [lastW] at h
  | [c], h => by
    have hc : wordB c = true := h
    show (parts (c :: b)).length + 1 = _
    rw [parts_yes c b hc hb, consHead_len _ _ (parts_ne _ hb), parts_no c [] (word_ne hc) (by simp [headW])]
    simp [parts]
    omega
  | c :: d :: a, h => by
    rw [lastW_cons] at h
    have ih := parts_met b hb (d :: a) h
    show (parts (c :: (d :: a ++ b))).length + 1 = _
    by_cases h0 : c = 32
    · subst h0; rw [parts_blank, parts_blank, ih]
    · by_cases hw : wordB c = true ∧ headW (d :: a) = true
      · have hw2 : headW (d :: a ++ b) = true := hw.2
        rw [parts_yes c (d :: a ++ b) hw.1 hw2, parts_yes c (d :: a) hw.1 hw.2, consHead_len _ _ (parts_ne _ hw2), consHead_len _ _ (parts_ne _ hw.2), ih]
      · rw [parts_no c (d :: a ++ b) h0 hw, parts_no c (d :: a) h0 hw]
        simp only [List.length_cons]
        omega
theorem parts_gap (a b : List UInt8) (n : Nat) (hn : 0 < n) : parts (a ++ (List.replicate n 32 ++ b)) = parts a ++ parts b := by
  obtain ⟨m, rfl⟩ : ∃ m, n = m + 1 := ⟨n - 1, by omega⟩
  rw [parts_app _ a (by simp [List.replicate_succ, headW, word_blank])]
  congr 1
  clear hn
  induction m with
  | zero => exact parts_blank b
  | succ m ih =>
    rw [List.replicate_succ]
    show parts (32 :: (_ ++ b)) = _
    rw [parts_blank, ih]
/-- blanks put between a and b change the parts just where two words met there -/
theorem parts_gap_iff (a b : List UInt8) (n : Nat) : parts (a ++ (List.replicate n 32 ++ b)) = parts (a ++ b) ↔ ¬ (0 < n ∧ lastW a = true ∧ headW b = true) := by
  rcases Nat.eq_zero_or_pos n with rfl | hn
  · simp
  · rw [parts_gap a b n hn]
    constructor
    · rintro h ⟨_, h1, h2⟩
      have := parts_met b h2 a h1
      rw [← h, List.length_append] at this
      omega
    · intro h
      rw [parts_app b a (fun hh => h ⟨hn, hh⟩)]
/-- two bytes that are no blanks are one part just if both are words -/
theorem parts_two (c d : UInt8) (hc : c ≠ 32) (hd : d ≠ 32) : (parts [c, d]).length = 1 ↔ (wordB c = true ∧ wordB d = true) := by
  have h1 : parts [d] = [[d]] := by rw [parts_no d [] hd (by simp [headW])]; rfl
  by_cases h : wordB c = true ∧ headW [d] = true
  · rw [parts_yes c [d] h.1 h.2, h1]
    simp only [consHead, List.length_cons, List.length_nil]
    exact ⟨fun _ => ⟨h.1, by simpa [headW] using h.2⟩, fun _ => by simp⟩
  · rw [parts_no c [d] hc h, h1]
    simp only [List.length_cons, List.length_nil]
    constructor
    · intro hh; omega
    · intro hh; exact absurd ⟨hh.1, by simpa [headW] using hh.2⟩ h

/-! ### one byte more at the end -/
theorem lastW_snoc (c : UInt8) : ∀ a : List UInt8, lastW (a ++ [c]) = wordB c
  | [] => rfl
  | [x] => rfl
  | x :: y :: a => by
    show lastW (x :: (y :: a ++ [c])) = _
    exact lastW_snoc c (y :: a)
theorem parts_snoc_blank (a : List UInt8) : parts (a ++ [32]) = parts a := by
  rw [parts_app [32] a (by simp [headW, word_blank]), parts_blank]
  simp [parts]
theorem parts_snoc_new (a : List UInt8) (c : UInt8) (hc : c ≠ 32) (h : ¬ (lastW a = true ∧ wordB c = true)) : parts (a ++ [c]) = parts a ++ [[c]] := by
  rw [parts_app [c] a h, parts_no c [] hc (by simp [headW])]
  rfl
theorem parts_snoc_join (c : UInt8) (hc : wordB c = true) : ∀ a : List UInt8, lastW a = true → ∃ xs p, parts a = xs ++ [p] ∧ parts (a ++ [c]) = xs ++ [p ++ [c]]
  | [], h => by simp [lastW] at h
  | [x], h => by
    have hx : wordB x = true := h
    have h1 : parts [c] = [[c]] := by rw [parts_no c [] (word_ne hc) (by simp [headW])]; rfl
    refine ⟨[], [x], ?_, ?_⟩
    · rw [parts_no x [] (word_ne hx) (by simp [headW])]; rfl
    · show parts (x :: [c]) = _
      rw [parts_yes x [c] hx hc, h1]; rfl
  | x :: y :: a, h => by
    rw [lastW_cons] at h
    obtain ⟨xs, p, h1, h2⟩ := parts_snoc_join c hc (y :: a) h
    show ∃ xs p, parts (x :: y :: a) = _ ∧ parts (x :: (y :: a ++ [c])) = _
    by_cases h0 : x = 32
    · subst h0
      rw [parts_blank, parts_blank]
      exact ⟨xs, p, h1, h2⟩
    · by_cases hw : wordB x = true ∧ headW (y :: a) = true
      · have hw2 : headW (y :: a ++ [c]) = true := hw.2
        rw [parts_yes x (y :: a) hw.1 hw.2, parts_yes x (y :: a ++ [c]) hw.1 hw2, h1, h2]
        cases xs with
        | nil => exact ⟨[], x :: p, rfl, rfl⟩
        | cons q xs => exact ⟨(x :: q) :: xs, p, rfl, rfl⟩
      · have hw2 : ¬ (wordB x = true ∧ headW (y :: a ++ [c]) = true) := hw
        rw [parts_no x (y :: a) h0 hw, parts_no x (y :: a ++ [c]) h0 hw2, h1, h2]
        exact ⟨[x] :: xs, p, rfl, rfl⟩
theorem parts_count : ∀ s : List UInt8, (parts s).length ≤ s.length
  | [] => by simp [parts]
  | c :: s => by
    have ih := parts_count s
    by_cases h0 : c = 32
    · subst h0; rw [parts_blank]; simp; omega
    · by_cases hw : wordB c = true ∧ headW s = true
      · rw [parts_yes c s hw.1 hw.2, consHead_len _ _ (parts_ne s hw.2)]; simp; omega
      · rw [parts_no c s h0 hw]; simp; omega
end Go.Proofs.Ytgecigndgkcpkaa.NormM
