/- What the reference's small functions come to; the check that the laws are about a living lexer. -/
import Derived.Test.YtdgholodogcemaaPAllx1
import Derived.Test.YtdgholodogcemaaMlo
set_option linter.unusedVariables false
set_option linter.unusedSimpArgs false
namespace Go.Proofs.Ytdgholodogcemaa.Lex
open Go Go.RowKit Go.Proofs.Ytdgholodogcemaa.PAll Go.Proofs.YtdgholodogcemaaW.PrintWords Go.Proofs.YtdgholodogcemaaW.PrintLast Go.Proofs.YtdgholodogcemaaW.PrintMore
theorem lives_t : warrantorlaw23_lives.f = some true := by decide +kernel
theorem w64n {i : Nat} (h : i < 9223372036854775807) : wrap64 ((i : Int) + 1) = ((i + 1 : Nat) : Int) := by unfold wrap64; omega
theorem bt_nat (s : ByteArray) {i : Nat} (h : i < s.size) : bt s (i : Int) = ((s[i]'h).toNat : Int) := by simp [bt, h]
theorem drop_at (s : ByteArray) {i : Nat} (h : i < s.size) : (bytesN s).drop i = (s[i]'h).toNat :: (bytesN s).drop (i + 1) := bytesN_drop h
theorem rword {c : Nat} (hc : c < 256) : warrantorref23_word.f (c : Int) = some (wordB c) := by
  unfold warrantorref23_word.f wordB plainB
  by_cases h1 : 33 ≤ c
  · rw [if_pos (by omega), decide_eq_true (show 32 ≤ c by omega), decide_eq_true (show c ≠ 32 by omega)]
    by_cases h2 : c ≤ 126
    · rw [if_pos (by omega), decide_eq_true h2]
      by_cases h3 : c = 34
      · subst h3; decide
      · rw [decide_eq_true h3, bne_iff_ne.mpr (by omega)]; rfl
    · rw [if_neg (by omega), decide_eq_false h2]; rfl
  · rw [if_neg (by omega)]
    by_cases h2 : c = 32
    · subst h2; decide
    · rw [decide_eq_false (show ¬ 32 ≤ c by omega)]; rfl
theorem ref_word (s : ByteArray) (hs : s.size ≤ 1000000000) : ∀ (d i k : Nat), i + d = s.size → d < k → warrantorref23_Word.l0 k s (i : Int) = some (if ((bytesN s).drop i).all wordB then decide (0 < s.size) else false)
  | 0, i, k, h, hk => by
    obtain ⟨k, rfl⟩ : ∃ m, k = m + 1 := ⟨k - 1, by omega⟩
    simp only [warrantorref23_Word.l0]
    rw [if_neg (by omega), bytesN_end (by omega)]
    simp
  | d + 1, i, k, h, hk => by
    obtain ⟨k, rfl⟩ : ∃ m, k = m + 1 := ⟨k - 1, by omega⟩
    have h1 : i < s.size := by omega
    simp only [warrantorref23_Word.l0]
    rw [if_pos (by omega), if_pos (by omega), bt_nat s h1, rword (UInt8.toNat_lt _), Option.bind_some, drop_at s h1, List.all_cons]
    by_cases hw : wordB (s[i]'h1).toNat = true
    · rw [if_pos hw, w64n (by omega), ref_word s hs d (i + 1) k (by omega) (by omega), hw, Bool.true_and]
    · rw [if_neg hw, Bool.eq_false_iff.mpr hw]
      simp
theorem ref_word_f (s : ByteArray) (hs : s.size ≤ 1000000000) {k : Nat} (hk : s.size < k) : warrantorref23_Word.f k s = some (wordT s) := by
  unfold warrantorref23_Word.f
  rw [show (0 : Int) = ((0 : Nat) : Int) from rfl, ref_word s hs s.size 0 k (by omega) hk, List.drop_zero]
  unfold wordT
  congr 1
  by_cases h : s.size = 0
  · rw [decide_eq_false (show ¬ 0 < s.size by omega), decide_eq_false (show ¬ s.size ≠ 0 by omega)]; simp
  · rw [decide_eq_true (show 0 < s.size by omega), decide_eq_true h]; cases (bytesN s).all wordB <;> rfl
theorem ext1 (s : ByteArray) {i : Nat} (h : i < s.size) : s.extract i (i + 1) = strOfNums [((s[i]'h).toNat : Int)] := by
  apply ByteArray.ext
  apply Array.ext
  · simp [strOfNums]; omega
  · intro j h1 h2
    have h2' : j < 1 := by simpa [strOfNums] using h2
    obtain rfl : j = 0 := by omega
    simp [strOfNums]
    rfl
theorem str_app (a b : List Int) : strOfNums a ++ strOfNums b = strOfNums (a ++ b) := by
  apply ByteArray.ext
  simp [strOfNums]
theorem ref_quote (s : ByteArray) (hs : s.size ≤ 1000000000) : ∀ (d i k : Nat) (acc : List Int), i + d = s.size → 2 * d < k → acc.length ≤ 2 * i + 1 →
    warrantorref23_Quote.l0 k s (strOfNums acc) (i : Int) = some (strOfNums (acc ++ ((bytesN s).drop i).flatMap qb ++ [34]))
  | 0, i, k, acc, h, hk, ha => by
    obtain ⟨k, rfl⟩ : ∃ m, k = m + 1 := ⟨k - 1, by omega⟩
    simp only [warrantorref23_Quote.l0]
    rw [if_neg (by omega), bytesN_end (by omega), if_pos (by rw [strOfNums_size]; omega)]
    rw [show (⟨#[34]⟩ : ByteArray) = strOfNums [34] from rfl, str_app]
    simp
  | d + 1, i, k, acc, h, hk, ha => by
    obtain ⟨k, rfl⟩ : ∃ m, k = m + 2 := ⟨k - 2, by omega⟩
    have h1 : i < s.size := by omega
    have hlt := UInt8.toNat_lt (s[i]'h1)
    have ez : ((i : Int)).toNat = i := by omega
    have ez1 : (((i + 1 : Nat) : Int)).toNat = i + 1 := by omega
    have ih := fun acc h => ref_quote s hs d (i + 1) k acc (by omega) (by omega) h
    simp only [warrantorref23_Quote.l0]
    rw [if_pos (by omega), if_pos (by omega), drop_at s h1, List.flatMap_cons]
    have key : ∀ b : Bool, b = (decide ((s[i]'h1).toNat = 34) || decide ((s[i]'h1).toNat = 92)) → warrantorref23_Quote.j1 (k + 1) s (strOfNums acc) (i : Int) b = some (strOfNums (acc ++ (qb (s[i]'h1).toNat ++ ((bytesN s).drop (i + 1)).flatMap qb) ++ [34])) := by
      intro b hb
      simp only [warrantorref23_Quote.j1]
      rw [w64n (by omega), ez, ez1, ext1 s h1, show (⟨#[92]⟩ : ByteArray) = strOfNums [92] from rfl, str_app, str_app, str_app, strOfNums_size, strOfNums_size, strOfNums_size, bt_nat s h1]
      by_cases hq : (s[i]'h1).toNat = 34 ∨ (s[i]'h1).toNat = 92
      · have hb2 : b = true := by rw [hb]; rcases hq with h | h <;> simp [h]
        rw [if_pos hb2, if_pos (by omega), if_pos (by omega), if_pos (by omega), if_pos (by omega), if_pos (by simp; omega), ih _ (by simp; omega)]
        have hp : plainB (s[i]'h1).toNat = true := by rcases hq with h | h <;> rw [h] <;> decide
        rw [show qb (s[i]'h1).toNat = [92, ((s[i]'h1).toNat : Int)] by unfold qb; rw [if_pos hp, if_pos hq]]
        simp
      · have hb2 : b = false := by rw [hb]; simp; exact ⟨fun h => hq (.inl h), fun h => hq (.inr h)⟩
        rw [if_neg (by rw [hb2]; decide), if_pos (by omega), if_pos (by omega)]
        by_cases hp : plainB (s[i]'h1).toNat = true
        · have hp2 := hp
          unfold plainB at hp2
          simp at hp2
          rw [if_pos (by omega), if_pos (by omega), if_pos (by omega), if_pos (by omega), if_pos (by simp; omega), ih _ (by simp; omega)]
          rw [show qb (s[i]'h1).toNat = [((s[i]'h1).toNat : Int)] by unfold qb; rw [if_pos hp, if_neg hq]]
          simp
        · have e : qb (s[i]'h1).toNat = [] := by unfold qb; rw [if_neg hp]
          have hp2 := hp
          unfold plainB at hp2
          simp at hp2
          rw [e, List.nil_append]
          by_cases h32 : 32 ≤ (s[i]'h1).toNat
          · rw [if_pos (by omega), if_neg (by omega), ih _ (by omega)]
          · rw [if_neg (by omega), ih _ (by omega)]
    rw [bt_nat s h1]
    by_cases h34 : (s[i]'h1).toNat = 34
    · rw [if_pos (by omega), key true (by simp [h34])]
    · rw [if_neg (by omega), key _ (by simp [h34]; rw [Bool.eq_iff_iff]; simp; omega)]
theorem ref_quote_f (s : ByteArray) (hs : s.size ≤ 1000000000) {k : Nat} (hk : 2 * s.size < k) : warrantorref23_Quote.f k s = some (strOfNums (quoteM s)) := by
  unfold warrantorref23_Quote.f
  rw [show (0 : Int) = ((0 : Nat) : Int) from rfl, show (⟨#[34]⟩ : ByteArray) = strOfNums [34] from rfl, ref_quote s hs s.size 0 k [34] (by omega) hk (by simp), List.drop_zero]
  rfl
end Go.Proofs.Ytdgholodogcemaa.Lex
