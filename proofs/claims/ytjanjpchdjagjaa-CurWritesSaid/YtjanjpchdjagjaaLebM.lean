/- Plain mathematics of numbers as bytes (base 128): no program in sight. -/
import Derived.Laws.BitsAllLaws
import Derived.Laws.BytesArg
import Derived.Lib.Strings
namespace Go.Proofs.Ytjanjpchdjagjaa.LebM
open Go

/-- a number's bytes -/
def putN : Nat → Int → List Int
  | 0, n => [n]
  | d + 1, n => if n ≥ 128 then (n % 128 + 128) :: putN d (n / 128) else [n]

/-- reading: the bytes that are left, the place, the unit, the sum so far -/
def getS : List Int → Nat → Int → Int → Int × Int × Int
  | [], _, _, _ => (0, 0, 10)
  | x :: r, i, u, n => if (i = 9 ∧ x > 1) ∨ (i > 0 ∧ x = 0) then (0, 0, 11) else if x < 128 then (n + u * x, (i : Int) + 1, 0) else getS r (i + 1) (u * 128) (n + u * (x - 128))

theorem putN_pos (d : Nat) (n : Int) : 0 < (putN d n).length := by
  cases d with
  | zero => simp [putN]
  | succ d => unfold putN; split <;> simp

theorem putN_byte : ∀ (d : Nat) (n : Int), 0 ≤ n → n < 128 ^ (d + 1) → ∀ x ∈ putN d n, 0 ≤ x ∧ x < 256
  | 0, n, h0, h1, x, hx => by simp [putN] at hx; subst hx; omega
  | d + 1, n, h0, h1, x, hx => by
    unfold putN at hx
    split at hx
    · rcases List.mem_cons.1 hx with rfl | hx
      · omega
      · exact putN_byte d (n / 128) (by omega) (by rw [Int.pow_succ] at h1; omega) x hx
    · simp at hx; subst hx; omega

theorem putN_len_mono : ∀ (d : Nat) (a b : Int), 0 ≤ a → a ≤ b → (putN d a).length ≤ (putN d b).length
  | 0, a, b, _, _ => by simp [putN]
  | d + 1, a, b, h0, h => by
    unfold putN
    by_cases ha : a ≥ 128
    · rw [if_pos ha, if_pos (by omega)]
      have := putN_len_mono d (a / 128) (b / 128) (by omega) (by omega)
      simp; exact this
    · rw [if_neg ha]
      split <;> simp

/-- what was put is got, whatever stands behind it -/
theorem get_put : ∀ (d : Nat) (n : Int) (r : List Int) (i : Nat) (m : Int), 0 ≤ n → n < 128 ^ (d + 1) → i ≤ 9 → 128 ^ i * n < 18446744073709551616 → (0 < i → 0 < n) →
    getS (putN d n ++ r) i (128 ^ i) m = (m + 128 ^ i * n, (i : Int) + (putN d n).length, 0)
  | 0, n, r, i, m, h0, h1, hi, hb, hp => by
    have h1' : n < 128 := by simpa using h1
    simp only [putN, List.singleton_append, getS]
    rw [if_neg, if_pos h1']
    · simp
    · rintro (⟨h9, hx⟩ | ⟨h9, hx⟩)
      · subst h9; omega
      · have := hp h9; omega
  | d + 1, n, r, i, m, h0, h1, hi, hb, hp => by
    unfold putN
    by_cases hn : n ≥ 128
    · rw [if_pos hn]
      have hi8 : i ≤ 8 := by
        rcases Nat.lt_or_ge i 9 with h | h
        · omega
        · have : i = 9 := by omega
          subst this; omega
      simp only [List.cons_append, getS]
      rw [if_neg, if_neg (by omega)]
      · have e := get_put d (n / 128) r (i + 1) (m + 128 ^ i * (n % 128 + 128 - 128)) (by omega) (by rw [Int.pow_succ] at h1; omega) (by omega) (by
          have h2 : (128 : Int) ^ (i + 1) * (n / 128) ≤ 128 ^ i * n := by
            rw [Int.pow_succ, Int.mul_assoc]
            exact Int.mul_le_mul_of_nonneg_left (by omega) (Int.pow_nonneg (by omega))
          omega) (by intro; omega)
        rw [Int.pow_succ] at e
        rw [e]
        have e1 : m + 128 ^ i * (n % 128 + 128 - 128) + 128 ^ i * 128 * (n / 128) = m + 128 ^ i * n := by
          have : n = n % 128 + 128 * (n / 128) := by omega
          rw [Int.mul_assoc, Int.add_assoc, ← Int.mul_add, show n % 128 + 128 - 128 + 128 * (n / 128) = n by omega]
        rw [e1]
        simp only [List.length_cons, Int.natCast_add, Int.natCast_one, Prod.mk.injEq, true_and, and_true]
        omega
      · rintro (⟨h9, _⟩ | ⟨_, hx⟩) <;> omega
    · rw [if_neg hn]
      simp only [List.singleton_append, getS]
      rw [if_neg, if_pos (by omega)]
      · simp
      · rintro (⟨h9, hx⟩ | ⟨h9, hx⟩)
        · subst h9; omega
        · have := hp h9; omega

/-- what is got was put so -/
theorem put_get : ∀ (l : List Int) (i d : Nat) (m : Int) (v k : Int), (∀ x ∈ l, 0 ≤ x ∧ x < 256) → i ≤ 9 → i + d = 9 → getS l i (128 ^ i) m = (v, k, 0) →
    ∃ n : Int, 0 ≤ n ∧ v = m + 128 ^ i * n ∧ (0 < i → 0 < n) ∧ (i : Int) < k ∧ k ≤ (i : Int) + l.length ∧ 128 ^ i * n < 18446744073709551616 ∧ putN d n = l.take (k - i).toNat ∧ n < 128 ^ (d + 1)
  | [], i, d, m, v, k, _, _, _, h => by simp [getS] at h
  | x :: r, i, d, m, v, k, hb, hi, hd, h => by
    have hx := hb x (List.mem_cons_self ..)
    simp only [getS] at h
    split at h
    · simp at h
    · rename_i hc
      split at h
      · rename_i hlt
        simp only [Prod.mk.injEq, and_true] at h
        obtain ⟨rfl, rfl⟩ := h
        refine ⟨x, hx.1, rfl, fun hp => ?_, by omega, by simp only [List.length_cons]; omega, ?_, ?_, ?_⟩
        · rcases Int.lt_or_eq_of_le hx.1 with h2 | h2
          · exact h2
          · exact absurd (.inr ⟨hp, h2.symm⟩) hc
        · rcases Nat.lt_or_ge i 9 with h9 | h9
          · have h3 : (128 : Int) ^ i ≤ 128 ^ 8 := by
              exact_mod_cast Nat.pow_le_pow_right (by omega : 0 < 128) (by omega : i ≤ 8)
            have h4 : (128 : Int) ^ i * x ≤ 128 ^ 8 * x := Int.mul_le_mul_of_nonneg_right h3 hx.1
            omega
          · have e9 : i = 9 := by omega
            subst e9
            have h1 : x ≤ 1 := by
              rcases Int.lt_or_le 1 x with h2 | h2
              · exact absurd (.inl ⟨rfl, h2⟩) hc
              · exact h2
            omega
        · rw [show ((i : Int) + 1 - i).toNat = 1 by omega]
          cases d with
          | zero => simp [putN]
          | succ d => unfold putN; rw [if_neg (by omega)]; simp
        · have : (128 : Int) ^ (d + 1) = 128 ^ d * 128 := Int.pow_succ 128 d
          have h5 : (1 : Int) ≤ 128 ^ d := by exact_mod_cast Nat.one_le_pow d 128 (by omega)
          omega
      · rename_i hge
        have hi8 : i ≤ 8 := by
          rcases Nat.lt_or_ge i 9 with h9 | h9
          · omega
          · have e9 : i = 9 := by omega
            exact absurd (.inl ⟨e9, by omega⟩) hc
        obtain ⟨d, rfl⟩ : ∃ q, d = q + 1 := ⟨d - 1, by omega⟩
        rw [← Int.pow_succ] at h
        obtain ⟨n, h0, hv, hp, hk1, hk2, hb2, ht, hl⟩ := put_get r (i + 1) d (m + 128 ^ i * (x - 128)) v k (fun y hy => hb y (List.mem_cons_of_mem _ hy)) (by omega) (by omega) h
        have hn0 : 0 < n := hp (by omega)
        have e1 : (128 : Int) ^ (i + 1) * n = 128 ^ i * (128 * n) := by rw [Int.pow_succ, Int.mul_assoc]
        refine ⟨x - 128 + 128 * n, by omega, ?_, fun _ => by omega, by omega, by simp only [List.length_cons]; omega, ?_, ?_, ?_⟩
        · rw [hv, e1, Int.mul_add, Int.add_assoc]
        · have h6 : (n : Int) < 128 ^ (d + 1) := hl
          have h7 : (128 : Int) ^ i * (x - 128 + 128 * n) ≤ 128 ^ i * (128 * n + 127) := Int.mul_le_mul_of_nonneg_left (by omega) (Int.pow_nonneg (by omega))
          have h8 : (128 : Int) ^ i * (128 * n + 127) = 128 ^ (i + 1) * n + 128 ^ i * 127 := by rw [Int.mul_add, ← Int.mul_assoc, ← Int.pow_succ]
          -- the last byte: 128^(i+1) * n is a multiple of 128^(i+1) below 2^64
          have h9 : (128 : Int) ^ (i + 1) * (n + 1) ≤ 18446744073709551616 := by
            have hz : ∃ z : Int, 18446744073709551616 = 128 ^ (i + 1) * z := by
              refine ⟨2 * 128 ^ (8 - i), ?_⟩
              have : (128 : Int) ^ (i + 1) * 128 ^ (8 - i) = 128 ^ 9 := by rw [← Int.pow_add]; congr 1; omega
              rw [Int.mul_comm 2, ← Int.mul_assoc, this]; rfl
            obtain ⟨z, hz⟩ := hz
            rw [hz] at hb2 ⊢
            have hpos : (0 : Int) < 128 ^ (i + 1) := Int.pow_pos (by omega)
            exact Int.mul_le_mul_of_nonneg_left (by have := Int.lt_of_mul_lt_mul_left hb2 (Int.le_of_lt hpos); omega) (Int.le_of_lt hpos)
          have h10 : (128 : Int) ^ (i + 1) * (n + 1) = 128 ^ (i + 1) * n + 128 ^ i * 128 := by rw [Int.mul_add, Int.mul_one, Int.pow_succ]
          have hpos : (0 : Int) < 128 ^ i := Int.pow_pos (by omega)
          omega
        · rw [show (k - (i : Int)).toNat = (k - ((i + 1 : Nat) : Int)).toNat + 1 by omega, List.take_succ_cons, ← ht]
          conv => lhs; unfold putN
          rw [if_pos (by omega), show (x - 128 + 128 * n) % 128 + 128 = x by omega, show (x - 128 + 128 * n) / 128 = n by omega]
        · rw [Int.pow_succ]; omega

/-- the reading from its begin -/
theorem get_put0 {n : Int} (r : List Int) (h0 : 0 ≤ n) (h1 : n < 18446744073709551616) : getS (putN 9 n ++ r) 0 1 0 = (n, ((putN 9 n).length : Int), 0) := by
  have := get_put 9 n r 0 0 h0 (by omega) (by omega) (by omega) (by omega)
  simpa using this

theorem put_get0 {l : List Int} {v k : Int} (hb : ∀ x ∈ l, 0 ≤ x ∧ x < 256) (h : getS l 0 1 0 = (v, k, 0)) : 0 ≤ v ∧ v < 18446744073709551616 ∧ 0 < k ∧ k ≤ l.length ∧ putN 9 v = l.take k.toNat := by
  obtain ⟨n, h0, hv, _, hk, hk2, hb2, ht, _⟩ := put_get l 0 9 0 v k hb (by omega) (by omega) (by simpa using h)
  have : v = n := by rw [hv]; simp
  subst this
  exact ⟨h0, by simpa using hb2, by simpa using hk, by simpa using hk2, by simpa using ht⟩

theorem getS_range : ∀ (l : List Int) (i : Nat) (u m : Int), (getS l i u m).2.2 = 0 ∨ getS l i u m = (0, 0, 10) ∨ getS l i u m = (0, 0, 11)
  | [], _, _, _ => by simp [getS]
  | x :: r, i, u, m => by
    simp only [getS]
    split
    · simp
    · split
      · simp
      · exact getS_range r _ _ _

/-- prefixes -/
theorem prefix_free {a b : Int} (ha : 0 ≤ a ∧ a < 18446744073709551616) (hb : 0 ≤ b ∧ b < 18446744073709551616) (h : (putN 9 b).take (putN 9 a).length = putN 9 a) : a = b := by
  have e : putN 9 b = putN 9 a ++ (putN 9 b).drop (putN 9 a).length := by
    conv => lhs; rw [← List.take_append_drop (putN 9 a).length (putN 9 b)]
    rw [h]
  have h1 := get_put0 ((putN 9 b).drop (putN 9 a).length) ha.1 ha.2
  rw [← e] at h1
  have h2 := get_put0 [] hb.1 hb.2
  rw [List.append_nil, h1] at h2
  simpa using congrArg Prod.fst h2

theorem toList_data (s : ByteArray) : s.toList = s.data.toList := by
  obtain ⟨⟨l⟩⟩ := s
  simp

/-- texts of bytes are equal just where the bytes are -/
theorem str_inj {a b : List Int} (ha : ∀ x ∈ a, 0 ≤ x ∧ x < 256) (hb : ∀ x ∈ b, 0 ≤ x ∧ x < 256) (h : (strOfNums a).toList = (strOfNums b).toList) : a = b := by
  rw [toList_data, toList_data] at h
  simp only [strOfNums] at h
  have key : ∀ (a b : List Int), (∀ x ∈ a, 0 ≤ x ∧ x < 256) → (∀ x ∈ b, 0 ≤ x ∧ x < 256) → a.map (fun n => UInt8.ofNat n.toNat) = b.map (fun n => UInt8.ofNat n.toNat) → a = b := by
    intro a
    induction a with
    | nil => intro b _ _ h; cases b with
      | nil => rfl
      | cons y b => simp at h
    | cons x a ih =>
      intro b ha hb h
      cases b with
      | nil => simp at h
      | cons y b =>
        simp only [List.map_cons, List.cons.injEq] at h
        have hx := ha x (List.mem_cons_self ..)
        have hy := hb y (List.mem_cons_self ..)
        have e : x = y := by
          have := congrArg UInt8.toNat h.1
          rw [UInt8.toNat_ofNat', UInt8.toNat_ofNat'] at this
          omega
        rw [e, ih b (fun z hz => ha z (List.mem_cons_of_mem _ hz)) (fun z hz => hb z (List.mem_cons_of_mem _ hz)) h.2]
  exact key a b ha hb h
end Go.Proofs.Ytjanjpchdjagjaa.LebM
