/- What is read is shown as it was. -/
import Derived.Test.YtdgholodogcemaaBrs
set_option linter.unusedVariables false
set_option linter.unusedSimpArgs false
namespace Go.Proofs.Ytdgholodogcemaa.Lex
open Go Go.RowKit Go.Proofs.YtdgholodogcemaaW.PrintWords Go.Proofs.YtdgholodogcemaaW.PrintLast
open Go.Proofs.Ytdgholodogcemaa.PAll (S36 k36)
theorem showL_snoc (x : S36) : ∀ (l : List S36) (f : Bool) (a : List Int), showL (l ++ [x]) f a = (showL l f a).bind fun r => showL [x] r.2 r.1
  | [], f, a => rfl
  | y :: l, f, a => by
    simp only [List.cons_append, showL]
    split
    · split
      · exact showL_snoc x l _ _
      · exact showL_snoc x l _ _
    · rfl
theorem showL_snoc' {x : S36} {l : List S36} {a : List Int} {f : Bool} (h : showL l true [] = some (a, f)) {a' : List Int} {f' : Bool} (h2 : showL [x] f a = some (a', f')) : showL (l ++ [x]) true [] = some (a', f') := by
  rw [showL_snoc, h]
  exact h2
theorem showL_ge : ∀ (l : List S36) (f : Bool) (a : List Int) (r : List Int × Bool), showL l f a = some r → weight l + 5 * a.length ≤ 5 * r.1.length
  | [], f, a, r, h => by
    injection h with h
    subst h
    simp [weight]
  | x :: l, f, a, r, h => by
    simp only [showL] at h
    split at h
    · rename_i hr
      split at h
      · rename_i h3
        have := showL_ge l _ _ _ h
        rw [h3] at hr
        have hz := (right_3M hr).2
        have hz2 : x.f3.size = 0 := by rw [hz]; rfl
        simp only [List.length_append, List.length_cons, List.length_nil] at this
        simp only [weight]
        omega
      · rename_i h3
        have := showL_ge l _ _ _ h
        simp only [List.length_append] at this
        simp only [weight]
        rcases right_kinds hr with hk | hk | hk
        · rw [hk] at hr
          have hw := right_1M hr
          unfold wordT at hw
          simp only [Bool.and_eq_true, decide_eq_true_eq] at hw
          have e : (bodyM x.f0 x.f3).length = x.f3.size := by unfold bodyM; rw [if_neg (by rw [hk]; decide), bytesOf_length]
          omega
        · rw [hk] at hr
          have := quote_ge (right_2M hr)
          have e : (bodyM x.f0 x.f3) = quoteM x.f3 := by unfold bodyM; rw [if_pos hk]
          have e2 := congrArg List.length e
          omega
        · exact absurd hk h3
    · cases h
def castI (l : List Nat) : List Int := l.map (fun c : Nat => (c : Int))
/-- what the machine has read, by what its tokens show -/
structure Inv (m : M) (p : List Int) : Prop where
  co : 1 ≤ m.co
  w : ∃ (acc : List Int) (first : Bool), showL m.out true [] = some (acc, first) ∧
    ((m.st = 0 ∧ (m.co = 1 → first = true) ∧ p = acc ++ sepI first) ∨
     (m.st = 1 ∧ m.tk = 1 ∧ ∃ ys : List Nat, m.xs = castI ys ∧ ys ≠ [] ∧ (∀ c ∈ ys, wordB c = true) ∧ p = acc ++ sepI first ++ castI ys) ∨
     (m.st = 2 ∧ m.tk = 2 ∧ ∃ ys : List Nat, m.xs = castI ys ∧ (∀ c ∈ ys, plainB c = true) ∧ p = acc ++ sepI first ++ 34 :: ys.flatMap qb) ∨
     (m.st = 3 ∧ m.tk = 2 ∧ ∃ ys : List Nat, m.xs = castI ys ∧ (∀ c ∈ ys, plainB c = true) ∧ p = acc ++ sepI first ++ 34 :: ys.flatMap qb ++ [92]) ∨
     (m.st = 4 ∧ first = false ∧ p = acc))
theorem inv0 : Inv M0 [] := ⟨by decide, [], true, rfl, .inl ⟨rfl, fun _ => rfl, rfl⟩⟩
theorem plain_lt {c : Nat} (h : plainB c = true) : c < 128 := Nat.lt_of_not_le fun h2 => by rw [plain_hi h2] at h; cases h
theorem castI_rng {ys : List Nat} (h : ∀ c ∈ ys, plainB c = true) : ∀ x ∈ castI ys, 0 ≤ x ∧ x < 256 := by
  intro x hx
  obtain ⟨c, hc, rfl⟩ := List.mem_map.1 hx
  have := plain_lt (h c hc)
  omega
theorem castI_N {ys : List Nat} (h : ∀ c ∈ ys, plainB c = true) : bytesN (strOfNums (castI ys)) = ys := by
  rw [bytesN_str (castI_rng h)]
  simp [castI, Function.comp_def]
theorem show_word {ys : List Nat} (hn : ys ≠ []) (h : ∀ c ∈ ys, wordB c = true) (first : Bool) (acc : List Int) (l c : Int) : showL [⟨1, l, c, strOfNums (castI ys)⟩] first acc = some (acc ++ sepI first ++ castI ys, false) := by
  have hp : ∀ c ∈ ys, plainB c = true := fun c hc => word_of_plain (h c hc)
  have hr : rightM 1 (strOfNums (castI ys)) first = true := by
    show wordT _ = true
    unfold wordT
    rw [castI_N hp, strOfNums_size]
    simp only [castI, List.length_map, Bool.and_eq_true, decide_eq_true_eq, List.all_eq_true]
    exact ⟨fun h => hn (List.eq_nil_of_length_eq_zero h), h⟩
  have e : bodyM 1 (strOfNums (castI ys)) = castI ys := by
    unfold bodyM
    rw [if_neg (by decide)]
    exact (str_bytes (castI_rng hp)).symm
  simp only [showL, hr, if_true, e]
  rw [if_neg (by decide)]
  rfl
theorem show_text {ys : List Nat} (h : ∀ c ∈ ys, plainB c = true) (first : Bool) (acc : List Int) (l c : Int) : showL [⟨2, l, c, strOfNums (castI ys)⟩] first acc = some (acc ++ sepI first ++ 34 :: ys.flatMap qb ++ [34], false) := by
  have hr : rightM 2 (strOfNums (castI ys)) first = true := by
    show (bytesN _).all plainB = true
    rw [castI_N h]
    exact List.all_eq_true.2 h
  have e : bodyM 2 (strOfNums (castI ys)) = 34 :: ys.flatMap qb ++ [34] := by
    show quoteM _ = _
    unfold quoteM
    rw [castI_N h]
  simp only [showL, hr, if_true, e]
  rw [if_neg (by decide)]
  simp [sepI]
theorem show_eol (acc : List Int) (l c : Int) : showL [⟨3, l, c, ⟨#[]⟩⟩] false acc = some (acc ++ [10], true) := by
  have hr : rightM 3 ⟨#[]⟩ false = true := by decide
  simp only [showL, hr, if_true]
theorem inv_step {m m' : M} {p : List Int} {c : Nat} (h : Inv m p) (e : stepM m c = some m') : Inv (nextM m') (p ++ [(c : Int)]) := by
  obtain ⟨hco, acc, first, hs, hw⟩ := h
  cases step_is e with
  | q0 h1 hc =>
    rcases hw with ⟨_, hf, rfl⟩ | ⟨h2, _⟩ | ⟨h2, _⟩ | ⟨h2, _⟩ | ⟨h2, _⟩ <;> try omega
    subst hc
    exact ⟨by simp only [nextM]; omega, acc, first, hs, .inr (.inr (.inl ⟨rfl, rfl, [], rfl, fun c hc => absurd hc (by simp), by simp⟩))⟩
  | w0 h1 hc hwb =>
    rcases hw with ⟨_, hf, rfl⟩ | ⟨h2, _⟩ | ⟨h2, _⟩ | ⟨h2, _⟩ | ⟨h2, _⟩ <;> try omega
    exact ⟨by simp only [nextM]; omega, acc, first, hs, .inr (.inl ⟨rfl, rfl, [c], rfl, by simp, fun d hd => by rw [List.mem_singleton] at hd; rw [hd]; exact hwb, by simp [castI]⟩)⟩
  | w1 h1 hwb =>
    rcases hw with ⟨h2, _⟩ | ⟨_, htk, ys, hx, hn, ha, rfl⟩ | ⟨h2, _⟩ | ⟨h2, _⟩ | ⟨h2, _⟩ <;> try omega
    exact ⟨by simp only [nextM]; omega, acc, first, hs, .inr (.inl ⟨h1, htk, ys ++ [c], by simp [nextM, hx, castI], by simp, fun d hd => by
      rcases List.mem_append.1 hd with hd | hd
      · exact ha d hd
      · rw [List.mem_singleton] at hd; rw [hd]; exact hwb, by simp [castI]⟩)⟩
  | b1 h1 hc =>
    rcases hw with ⟨h2, _⟩ | ⟨_, htk, ys, hx, hn, ha, rfl⟩ | ⟨h2, _⟩ | ⟨h2, _⟩ | ⟨h2, _⟩ <;> try omega
    subst hc
    refine ⟨by simp only [nextM]; omega, acc ++ sepI first ++ castI ys, false, ?_, .inl ⟨rfl, fun h => by simp only [nextM] at h; omega, by simp [sepI]⟩⟩
    exact showL_snoc' hs (by simp only [M.tok, htk, hx]; exact show_word hn ha _ _ _ _)
  | f1 h1 hc =>
    rcases hw with ⟨h2, _⟩ | ⟨_, htk, ys, hx, hn, ha, rfl⟩ | ⟨h2, _⟩ | ⟨h2, _⟩ | ⟨h2, _⟩ <;> try omega
    subst hc
    refine ⟨by simp [nextM, M.eol], acc ++ sepI first ++ castI ys ++ [10], true, ?_, .inl ⟨rfl, fun _ => rfl, by simp [sepI]⟩⟩
    exact showL_snoc' (showL_snoc' hs (by simp only [M.tok, htk, hx]; exact show_word hn ha _ _ _ _)) (show_eol _ _ _)
  | q2 h1 hc =>
    rcases hw with ⟨h2, _⟩ | ⟨h2, _⟩ | ⟨_, htk, ys, hx, ha, rfl⟩ | ⟨h2, _⟩ | ⟨h2, _⟩ <;> try omega
    subst hc
    refine ⟨by simp only [nextM]; omega, acc ++ sepI first ++ 34 :: ys.flatMap qb ++ [34], false, ?_, .inr (.inr (.inr (.inr ⟨rfl, rfl, rfl⟩)))⟩
    exact showL_snoc' hs (by simp only [M.tok, htk, hx]; exact show_text ha _ _ _ _)
  | s2 h1 hc =>
    rcases hw with ⟨h2, _⟩ | ⟨h2, _⟩ | ⟨_, htk, ys, hx, ha, rfl⟩ | ⟨h2, _⟩ | ⟨h2, _⟩ <;> try omega
    subst hc
    exact ⟨by simp only [nextM]; omega, acc, first, hs, .inr (.inr (.inr (.inl ⟨rfl, htk, ys, hx, ha, rfl⟩)))⟩
  | p2 h1 h34 h92 hp =>
    rcases hw with ⟨h2, _⟩ | ⟨h2, _⟩ | ⟨_, htk, ys, hx, ha, rfl⟩ | ⟨h2, _⟩ | ⟨h2, _⟩ <;> try omega
    have eq : qb c = [(c : Int)] := by unfold qb; rw [if_pos hp, if_neg (by omega)]
    exact ⟨by simp only [nextM]; omega, acc, first, hs, .inr (.inr (.inl ⟨h1, htk, ys ++ [c], by simp [nextM, hx, castI], fun d hd => by
      rcases List.mem_append.1 hd with hd | hd
      · exact ha d hd
      · rw [List.mem_singleton] at hd; rw [hd]; exact hp, by simp [eq]⟩))⟩
  | e3 h1 hc =>
    rcases hw with ⟨h2, _⟩ | ⟨h2, _⟩ | ⟨h2, _⟩ | ⟨_, htk, ys, hx, ha, rfl⟩ | ⟨h2, _⟩ <;> try omega
    have hp : plainB c = true := by rcases hc with rfl | rfl <;> decide
    have eq : qb c = [92, (c : Int)] := by unfold qb; rw [if_pos hp, if_pos hc]
    exact ⟨by simp only [nextM]; omega, acc, first, hs, .inr (.inr (.inl ⟨rfl, htk, ys ++ [c], by simp [nextM, hx, castI], fun d hd => by
      rcases List.mem_append.1 hd with hd | hd
      · exact ha d hd
      · rw [List.mem_singleton] at hd; rw [hd]; exact hp, by simp [eq]⟩))⟩
  | b4 h1 hc =>
    rcases hw with ⟨h2, _⟩ | ⟨h2, _⟩ | ⟨h2, _⟩ | ⟨h2, _⟩ | ⟨_, rfl, rfl⟩ <;> try omega
    subst hc
    exact ⟨by simp only [nextM]; omega, p, false, hs, .inl ⟨rfl, fun h => by simp only [nextM] at h; omega, rfl⟩⟩
  | f4 h1 hc =>
    rcases hw with ⟨h2, _⟩ | ⟨h2, _⟩ | ⟨h2, _⟩ | ⟨h2, _⟩ | ⟨_, rfl, rfl⟩ <;> try omega
    subst hc
    exact ⟨by simp [nextM, M.eol], p ++ [10], true, showL_snoc' hs (show_eol _ _ _), .inl ⟨rfl, fun _ => rfl, by simp [sepI]⟩⟩
theorem inv_go {l : List Nat} {m m' : M} {p : List Int} (h : Inv m p) (e : goM l m = some m') : Inv m' (p ++ castI l) := by
  induction l generalizing m p with
  | nil => injection e with e; subst e; simpa [castI] using h
  | cons c l ih =>
    simp only [goM] at e
    cases e1 : stepM m c with
    | none => rw [e1] at e; cases e
    | some m1 =>
      rw [e1] at e
      have := ih (inv_step h e1) e
      simpa [castI] using this
/-- what is read is shown as it was -/
theorem read_back {s : ByteArray} (hs : s.size ≤ 1048576) {m' : M} (hg : goM (bytesN s) M0 = some m') (hc : m'.co = 1) : showM m'.out = (s, 0) ∧ weight m'.out ≤ 5 * s.size := by
  have hI := inv_go inv0 hg
  have hst := (col_go (m := M0) (by decide) (fun _ => rfl) hg).2 hc
  obtain ⟨_, acc, first, hsh, hw⟩ := hI
  rcases hw with ⟨_, hf, hp⟩ | ⟨h2, _⟩ | ⟨h2, _⟩ | ⟨h2, _⟩ | ⟨h2, _⟩ <;> try omega
  have hf := hf hc
  subst hf
  have e : acc = bytesOf s := by
    rw [bytesOf_N]
    simpa [sepI, castI] using hp.symm
  subst e
  have hl : (bytesOf s).length = s.size := bytesOf_length s
  refine ⟨?_, ?_⟩
  · unfold showM
    rw [hsh]
    simp only [if_true]
    rw [if_neg (by omega), str_of_bytes]
  · have := showL_ge _ _ _ _ hsh
    simp only [List.length_nil] at this
    omega
end Go.Proofs.Ytdgholodogcemaa.Lex
