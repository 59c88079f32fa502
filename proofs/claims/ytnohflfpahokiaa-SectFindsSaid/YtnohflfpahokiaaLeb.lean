/- Plain mathematics of numbers as bytes (base 128): no program in sight. -/
import Derived.Laws.BitsAllLaws
import Derived.Laws.BytesArg
import Derived.Lib.Strings
import Derived.Test.YtnohflfpahokiaaPAllx
namespace Go.Proofs.Ytnohflfpahokiaa.LebM
open Go

/-- a number's bytes -/
def putN : Nat → Int → List Int
  | 0, n => [n]
  | d + 1, n => if n ≥ 128 then (n % 128 + 128) :: putN d (n / 128) else [n]

/-- reading: the bytes that are left, the place, the unit, the sum so far -/
def getS : List Int → Nat → Int → Int → Int × Int × Int
  | [], _, _, _ => (0, 0, 10)
  | x :: r, i, u, n => if (i = 9 ∧ x > 1) ∨ (i > 0 ∧ x = 0) then (0, 0, 11) else if x < 128 then (n + u * x, (i : Int) + 1, 0) else getS r (i + 1) (u * 128) (n + u * (x - 128))

theorem putN_pos (d : Nat) (n : Int) : 0 < (putN d n).length := by
  cases d with
  | zero => simp [putN]
  | succ d => unfold putN; split <;> simp

theorem putN_byte : ∀ (d : Nat) (n : Int), 0 ≤ n → n < 128 ^ (d + 1) → ∀ x ∈ putN d n, 0 ≤ x ∧ x < 256
  | 0, n, h0, h1, x, hx => by simp [putN] at hx; subst hx; omega
  | d + 1, n, h0, h1, x, hx => by
    unfold putN at hx
    split at hx
    · rcases List.mem_cons.1 hx with rfl | hx
      · omega
      · exact putN_byte d (n / 128) (by omega) (by rw [Int.pow_succ] at h1; omega) x hx
    · simp at hx; subst hx; omega

theorem putN_len_mono : ∀ (d : Nat) (a b : Int), 0 ≤ a → a ≤ b → (putN d a).length ≤ (putN d b).length
  | 0, a, b, _, _ => by simp [putN]
  | d + 1, a, b, h0, h => by
    unfold putN
    by_cases ha : a ≥ 128
    · rw [if_pos ha, if_pos (by omega)]
      have := putN_len_mono d (a / 128) (b / 128) (by omega) (by omega)
      simp; exact this
    · rw [if_neg ha]
      split <;> simp

/-- what was put is got, whatever stands behind it -/
theorem get_put : ∀ (d : Nat) (n : Int) (r : List Int) (i : Nat) (m : Int), 0 ≤ n → n < 128 ^ (d + 1) → i ≤ 9 → 128 ^ i * n < 18446744073709551616 → (0 < i → 0 < n) →
    getS (putN d n ++ r) i (128 ^ i) m = (m + 128 ^ i * n, (i : Int) + (putN d n).length, 0)
  | 0, n, r, i, m, h0, h1, hi, hb, hp => by
    have h1' : n < 128 := by simpa using h1
    simp only [putN, List.singleton_append, getS]
    rw [if_neg, if_pos h1']
    · simp
    · rintro (⟨h9, hx⟩ | ⟨h9, hx⟩)
      · subst h9; omega
      · have := hp h9; omega
  | d + 1, n, r, i, m, h0, h1, hi, hb, hp => by
    unfold putN
    by_cases hn : n ≥ 128
    · rw [if_pos hn]
      have hi8 : i ≤ 8 := by
        rcases Nat.lt_or_ge i 9 with h | h
        · omega
        · have : i = 9 := by omega
          subst this; omega
      simp only [List.cons_append, getS]
      rw [if_neg, if_neg (by omega)]
      · have e := get_put d (n / 128) r (i + 1) (m + 128 ^ i * (n % 128 + 128 - 128)) (by omega) (by rw [Int.pow_succ] at h1; omega) (by omega) (by
          have h2 : (128 : Int) ^ (i + 1) * (n / 128) ≤ 128 ^ i * n := by
            rw [Int.pow_succ, Int.mul_assoc]
            exact Int.mul_le_mul_of_nonneg_left (by omega) (Int.pow_nonneg (by omega))
          omega) (by intro; omega)
        rw [Int.pow_succ] at e
        rw [e]
        have e1 : m + 128 ^ i * (n % 128 + 128 - 128) + 128 ^ i * 128 * (n / 128) = m + 128 ^ i * n := by
          have : n = n % 128 + 128 * (n / 128) := by omega
          rw [Int.mul_assoc, Int.add_assoc, ← Int.mul_add, show n % 128 + 128 - 128 + 128 * (n / 128) = n by omega]
        rw [e1]
        simp only [List.length_cons, Int.natCast_add, Int.natCast_one, Prod.mk.injEq, true_and, and_true]
        omega
      · rintro (⟨h9, _⟩ | ⟨_, hx⟩) <;> omega
    · rw [if_neg hn]
      simp only [List.singleton_append, getS]
      rw [if_neg, if_pos (by omega)]
      · simp
      · rintro (⟨h9, hx⟩ | ⟨h9, hx⟩)
        · subst h9; omega
        · have := hp h9; omega

/-- what is got was put so -/
theorem put_get : ∀ (l : List Int) (i d : Nat) (m : Int) (v k : Int), (∀ x ∈ l, 0 ≤ x ∧ x < 256) → i ≤ 9 → i + d = 9 → getS l i (128 ^ i) m = (v, k, 0) →
    ∃ n : Int, 0 ≤ n ∧ v = m + 128 ^ i * n ∧ (0 < i → 0 < n) ∧ (i : Int) < k ∧ k ≤ (i : Int) + l.length ∧ 128 ^ i * n < 18446744073709551616 ∧ putN d n = l.take (k - i).toNat ∧ n < 128 ^ (d + 1)
  | [], i, d, m, v, k, _, _, _, h => by simp [getS] at h
  | x :: r, i, d, m, v, k, hb, hi, hd, h => by
    have hx := hb x (List.mem_cons_self ..)
    simp only [getS] at h
    split at h
    · simp at h
    · rename_i hc
      split at h
      · rename_i hlt
        simp only [Prod.mk.injEq, and_true] at h
        obtain ⟨rfl, rfl⟩ := h
        refine ⟨x, hx.1, rfl, fun hp => ?_, by omega, by simp only [List.length_cons]; omega, ?_, ?_, ?_⟩
        · rcases Int.lt_or_eq_of_le hx.1 with h2 | h2
          · exact h2
          · exact absurd (.inr ⟨hp, h2.symm⟩) hc
        · rcases Nat.lt_or_ge i 9 with h9 | h9
          · have h3 : (128 : Int) ^ i ≤ 128 ^ 8 := by
              exact_mod_cast Nat.pow_le_pow_right (by omega : 0 < 128) (by omega : i ≤ 8)
            have h4 : (128 : Int) ^ i * x ≤ 128 ^ 8 * x := Int.mul_le_mul_of_nonneg_right h3 hx.1
            omega
          · have e9 : i = 9 := by omega
            subst e9
            have h1 : x ≤ 1 := by
              rcases Int.lt_or_le 1 x with h2 | h2
              · exact absurd (.inl ⟨rfl, h2⟩) hc
              · exact h2
            omega
        · rw [show ((i : Int) + 1 - i).toNat = 1 by omega]
          cases d with
          | zero => simp [putN]
          | succ d => unfold putN; rw [if_neg (by omega)]; simp
        · have : (128 : Int) ^ (d + 1) = 128 ^ d * 128 := Int.pow_succ 128 d
          have h5 : (1 : Int) ≤ 128 ^ d := by exact_mod_cast Nat.one_le_pow d 128 (by omega)
          omega
      · rename_i hge
        have hi8 : i ≤ 8 := by
          rcases Nat.lt_or_ge i 9 with h9 | h9
          · omega
          · have e9 : i = 9 := by omega
            exact absurd (.inl ⟨e9, by omega⟩) hc
        obtain ⟨d, rfl⟩ : ∃ q, d = q + 1 := ⟨d - 1, by omega⟩
        rw [← Int.pow_succ] at h
        obtain ⟨n, h0, hv, hp, hk1, hk2, hb2, ht, hl⟩ := put_get r (i + 1) d (m + 128 ^ i * (x - 128)) v k (fun y hy => hb y (List.mem_cons_of_mem _ hy)) (by omega) (by omega) h
        have hn0 : 0 < n := hp (by omega)
        have e1 : (128 : Int) ^ (i + 1) * n = 128 ^ i * (128 * n) := by rw [Int.pow_succ, Int.mul_assoc]
        refine ⟨x - 128 + 128 * n, by omega, ?_, fun _ => by omega, by omega, by simp only [List.length_cons]; omega, ?_, ?_, ?_⟩
        · rw [hv, e1, Int.mul_add, Int.add_assoc]
        · have h6 : (n : Int) < 128 ^ (d + 1) := hl
          have h7 : (128 : Int) ^ i * (x - 128 + 128 * n) ≤ 128 ^ i * (128 * n + 127) := Int.mul_le_mul_of_nonneg_left (by omega) (Int.pow_nonneg (by omega))
          have h8 : (128 : Int) ^ i * (128 * n + 127) = 128 ^ (i + 1) * n + 128 ^ i * 127 := by rw [Int.mul_add, ← Int.mul_assoc, ← Int.pow_succ]
          -- the last byte: 128^(i+1) * n is a multiple of 128^(i+1) below 2^64
          have h9 : (128 : Int) ^ (i + 1) * (n + 1) ≤ 18446744073709551616 := by
            have hz : ∃ z : Int, 18446744073709551616 = 128 ^ (i + 1) * z := by
              refine ⟨2 * 128 ^ (8 - i), ?_⟩
              have : (128 : Int) ^ (i + 1) * 128 ^ (8 - i) = 128 ^ 9 := by rw [← Int.pow_add]; congr 1; omega
              rw [Int.mul_comm 2, ← Int.mul_assoc, this]; rfl
            obtain ⟨z, hz⟩ := hz
            rw [hz] at hb2 ⊢
            have hpos : (0 : Int) < 128 ^ (i + 1) := Int.pow_pos (by omega)
            exact Int.mul_le_mul_of_nonneg_left (by have := Int.lt_of_mul_lt_mul_left hb2 (Int.le_of_lt hpos); omega) (Int.le_of_lt hpos)
          have h10 : (128 : Int) ^ (i + 1) * (n + 1) = 128 ^ (i + 1) * n + 128 ^ i * 128 := by rw [Int.mul_add, Int.mul_one, Int.pow_succ]
          have hpos : (0 : Int) < 128 ^ i := Int.pow_pos (by omega)
          omega
        · rw [show (k - (i : Int)).toNat = (k - ((i + 1 : Nat) : Int)).toNat + 1 by omega, List.take_succ_cons, ← ht]
          conv => lhs; unfold putN
          rw [if_pos (by omega), show (x - 128 + 128 * n) % 128 + 128 = x by omega, show (x - 128 + 128 * n) / 128 = n by omega]
        · rw [Int.pow_succ]; omega

/-- the reading from its begin -/
theorem get_put0 {n : Int} (r : List Int) (h0 : 0 ≤ n) (h1 : n < 18446744073709551616) : getS (putN 9 n ++ r) 0 1 0 = (n, ((putN 9 n).length : Int), 0) := by
  have := get_put 9 n r 0 0 h0 (by omega) (by omega) (by omega) (by omega)
  simpa using this

theorem put_get0 {l : List Int} {v k : Int} (hb : ∀ x ∈ l, 0 ≤ x ∧ x < 256) (h : getS l 0 1 0 = (v, k, 0)) : 0 ≤ v ∧ v < 18446744073709551616 ∧ 0 < k ∧ k ≤ l.length ∧ putN 9 v = l.take k.toNat := by
  obtain ⟨n, h0, hv, _, hk, hk2, hb2, ht, _⟩ := put_get l 0 9 0 v k hb (by omega) (by omega) (by simpa using h)
  have : v = n := by rw [hv]; simp
  subst this
  exact ⟨h0, by simpa using hb2, by simpa using hk, by simpa using hk2, by simpa using ht⟩

theorem getS_range : ∀ (l : List Int) (i : Nat) (u m : Int), (getS l i u m).2.2 = 0 ∨ getS l i u m = (0, 0, 10) ∨ getS l i u m = (0, 0, 11)
  | [], _, _, _ => by simp [getS]
  | x :: r, i, u, m => by
    simp only [getS]
    split
    · simp
    · split
      · simp
      · exact getS_range r _ _ _

/-- prefixes -/
theorem prefix_free {a b : Int} (ha : 0 ≤ a ∧ a < 18446744073709551616) (hb : 0 ≤ b ∧ b < 18446744073709551616) (h : (putN 9 b).take (putN 9 a).length = putN 9 a) : a = b := by
  have e : putN 9 b = putN 9 a ++ (putN 9 b).drop (putN 9 a).length := by
    conv => lhs; rw [← List.take_append_drop (putN 9 a).length (putN 9 b)]
    rw [h]
  have h1 := get_put0 ((putN 9 b).drop (putN 9 a).length) ha.1 ha.2
  rw [← e] at h1
  have h2 := get_put0 [] hb.1 hb.2
  rw [List.append_nil, h1] at h2
  simpa using congrArg Prod.fst h2

theorem toList_data (s : ByteArray) : s.toList = s.data.toList := by
  obtain ⟨⟨l⟩⟩ := s
  simp

/-- texts of bytes are equal just where the bytes are -/
theorem str_inj {a b : List Int} (ha : ∀ x ∈ a, 0 ≤ x ∧ x < 256) (hb : ∀ x ∈ b, 0 ≤ x ∧ x < 256) (h : (strOfNums a).toList = (strOfNums b).toList) : a = b := by
  rw [toList_data, toList_data] at h
  simp only [strOfNums] at h
  have key : ∀ (a b : List Int), (∀ x ∈ a, 0 ≤ x ∧ x < 256) → (∀ x ∈ b, 0 ≤ x ∧ x < 256) → a.map (fun n => UInt8.ofNat n.toNat) = b.map (fun n => UInt8.ofNat n.toNat) → a = b := by
    intro a
    induction a with
    | nil => intro b _ _ h; cases b with
      | nil => rfl
      | cons y b => simp at h
    | cons x a ih =>
      intro b ha hb h
      cases b with
      | nil => simp at h
      | cons y b =>
        simp only [List.map_cons, List.cons.injEq] at h
        have hx := ha x (List.mem_cons_self ..)
        have hy := hb y (List.mem_cons_self ..)
        have e : x = y := by
          have := congrArg UInt8.toNat h.1
          rw [UInt8.toNat_ofNat', UInt8.toNat_ofNat'] at this
          omega
        rw [e, ih b (fun z hz => ha z (List.mem_cons_of_mem _ hz)) (fun z hz => hb z (List.mem_cons_of_mem _ hz)) h.2]
  exact key a b ha hb h
end Go.Proofs.Ytnohflfpahokiaa.LebM
set_option linter.unusedVariables false
namespace Go.Proofs.Ytnohflfpahokiaa.Leb
open Go Go.RowKit Go.Proofs.Ytnohflfpahokiaa.PAll Go.Proofs.YtnohflfpahokiaaW.PrintWords Go.Proofs.YtnohflfpahokiaaW.PrintLast Go.Proofs.YtnohflfpahokiaaW.PrintMore Go.Proofs.Ytnohflfpahokiaa.LebM

theorem or128 : ∀ m : Nat, m < 256 → m ||| 128 = m % 128 + 128 := by decide +kernel

theorem bits_or128 (n : Int) : Go.bits .or .u8 (n % 256) 128 = n % 128 + 128 := by
  rw [u8_or _ _ (by omega) (by omega) (by omega) (by omega), show ((128 : Int)).toNat = 128 from rfl, or128 _ (by omega)]
  omega


theorem put_loop : ∀ (d k : Nat) (n : Int) (acc : List Int), 0 ≤ n → n < 128 ^ (d + 1) → d < k → acc.length + d < 1000 → leb_Put.l0 k n acc = some (acc ++ putN d n)
  | 0, k, n, acc, h0, h1, hk, ha => by
    obtain ⟨k, rfl⟩ : ∃ m, k = m + 1 := ⟨k - 1, by omega⟩
    have h1' : n < 128 := by simpa using h1
    simp only [leb_Put.l0, putN]
    rw [if_neg (by omega), if_pos (by omega), show n % 256 = n by omega]
  | d + 1, k, n, acc, h0, h1, hk, ha => by
    obtain ⟨k, rfl⟩ : ∃ m, k = m + 1 := ⟨k - 1, by omega⟩
    simp only [leb_Put.l0]
    conv => rhs; unfold putN
    by_cases hn : n ≥ 128
    · rw [if_pos hn, if_pos hn, if_pos (by omega), bits_or128 n, put_loop d k (n / 128) _ (by omega) (by rw [Int.pow_succ] at h1; omega) (by omega) (by simp; omega)]
      simp
    · rw [if_neg hn, if_neg hn, if_pos (by omega), show n % 256 = n by omega]

theorem put_ev {n : Int} (h0 : 0 ≤ n) (h1 : n < 18446744073709551616) : Ev (fun k => leb_Put.f k n) (putN 9 n) :=
  ⟨11, fun k hk => by show leb_Put.f k n = _; unfold leb_Put.f; rw [put_loop 9 k n _ h0 (by omega) (by omega) (by simp)]; simp⟩


theorem rput_loop : ∀ (d k : Nat) (n : Int) (acc : List Int), 0 ≤ n → n < 128 ^ (d + 1) → n < 18446744073709551616 → d < k → acc.length + d < 1000 → warrantorref01_Put.l0 k n acc = some (acc ++ putN d n)
  | 0, k, n, acc, h0, h1, h2, hk, ha => by
    obtain ⟨k, rfl⟩ : ∃ m, k = m + 1 := ⟨k - 1, by omega⟩
    have h1' : n < 128 := by simpa using h1
    simp only [warrantorref01_Put.l0, putN]
    rw [if_neg (by omega), if_pos (by omega), show n % 256 = n by omega]
  | d + 1, k, n, acc, h0, h1, h2, hk, ha => by
    obtain ⟨k, rfl⟩ : ∃ m, k = m + 1 := ⟨k - 1, by omega⟩
    simp only [warrantorref01_Put.l0]
    conv => rhs; unfold putN
    by_cases hn : n ≥ 128
    · have e1 : (IntKind.u64.wrap (Int.tdiv n 128)) = n / 128 := by rw [Int.tdiv_eq_ediv_of_nonneg h0, IntKind.wrap_u64]; omega
      have e2 : (IntKind.u64.wrap (Int.tmod n 128 + 128)) % 256 = n % 128 + 128 := by rw [Int.tmod_eq_emod_of_nonneg h0, IntKind.wrap_u64]; omega
      rw [if_pos hn, if_pos hn, if_pos (by omega), e1, e2, rput_loop d k (n / 128) _ (by omega) (by rw [Int.pow_succ] at h1; omega) (by omega) (by omega) (by simp; omega)]
      simp
    · rw [if_neg hn, if_neg hn, if_pos (by omega), show n % 256 = n by omega]

theorem rput_ev {n : Int} (h0 : 0 ≤ n) (h1 : n < 18446744073709551616) : Ev (fun k => warrantorref01_Put.f k n) (putN 9 n) :=
  ⟨11, fun k hk => by show warrantorref01_Put.f k n = _; unfold warrantorref01_Put.f; rw [rput_loop 9 k n _ h0 (by omega) h1 (by omega) (by simp)]; simp⟩


theorem wrap_id {n : Int} (h0 : -1000000 ≤ n) (h1 : n ≤ 140737488355328) : wrap64 n = n := by unfold wrap64; omega


theorem rd_at (pre r : List Int) (x : Int) : rd (pre ++ x :: r) (pre.length : Int) = x := by simp [rd]

theorem part_eq {i : Nat} {x : Int} (hi : i ≤ 9) (h0 : 0 ≤ x) (h1 : x < 256) (h9 : i = 9 → x ≤ 1) :
    shl .u64 (IntKind.u64.wrap (Go.bits .andNot .u8 x 128)) (7 * (i : Int)) = 128 ^ i * (x % 128) ∧ 128 ^ i * (x % 128) < 18446744073709551616 := by
  have e1 : Go.bits .andNot .u8 x 128 = x % 128 := by
    rw [u8_andNot _ _ h0 h1 (by omega) (by omega), show (255 - ((128 : Int)).toNat) = 127 from rfl, nat_mask7]; omega
  have hb : 128 ^ i * (x % 128) < 18446744073709551616 := by
    rcases Nat.lt_or_ge i 9 with h | h
    · have h3 : (128 : Int) ^ i ≤ 128 ^ 8 := by exact_mod_cast Nat.pow_le_pow_right (by omega : 0 < 128) (by omega : i ≤ 8)
      have h4 : (128 : Int) ^ i * (x % 128) ≤ 128 ^ 8 * (x % 128) := Int.mul_le_mul_of_nonneg_right h3 (by omega)
      omega
    · have e9 : i = 9 := by omega
      have := h9 e9
      subst e9; omega
  refine ⟨?_, hb⟩
  have e2 : IntKind.u64.wrap (x % 128) = x % 128 := by rw [IntKind.wrap_u64]; omega
  have e3 : min (7 * (i : Int)).toNat (IntKind.bits .u64) = 7 * i := by
    have : IntKind.bits .u64 = 64 := rfl
    rw [this]; omega
  unfold shl
  rw [e1, e2, e3, Int.pow_mul, show ((2 : Int) ^ 7) = 128 from rfl, Int.mul_comm, IntKind.wrap_u64]
  have : 0 ≤ 128 ^ i * (x % 128) := Int.mul_nonneg (Int.pow_nonneg (by omega)) (by omega)
  exact Int.emod_eq_of_lt this hb

theorem or_eq {i : Nat} {n y : Int} (hn0 : 0 ≤ n) (hn : n < 128 ^ i) (hy : 0 ≤ y) (hb : 128 ^ i * y < 18446744073709551616) (hi : i ≤ 9) : Go.bits .or .u64 n (128 ^ i * y) = n + 128 ^ i * y := by
  have hs : 0 ≤ 128 ^ i * y := Int.mul_nonneg (Int.pow_nonneg (by omega)) hy
  have hn2 : n < 18446744073709551616 := by
    have h3 : (128 : Int) ^ i ≤ 128 ^ 9 := by exact_mod_cast Nat.pow_le_pow_right (by omega : 0 < 128) hi
    omega
  rw [u64_or _ _ hn0 hn2 hs hb, Nat.or_comm]
  have e2 : (128 ^ i * y).toNat = 128 ^ i * y.toNat := by
    rw [Int.toNat_mul (Int.pow_nonneg (by omega)) hy, Int.toNat_pow_of_nonneg (by omega)]; rfl
  have e3 : (128 : Nat) ^ i = 2 ^ (7 * i) := by rw [Nat.pow_mul]
  rw [nat_join (7 * i)]
  · omega
  · rw [e2, e3]; exact Nat.mul_mod_right _ _
  · rw [← e3]
    have : ((n.toNat : Nat) : Int) < ((128 ^ i : Nat) : Int) := by rw [Int.toNat_of_nonneg hn0]; exact_mod_cast hn
    exact_mod_cast this


theorem get_loop (l : List Int) (hb : ∀ x ∈ l, 0 ≤ x ∧ x < 256) : ∀ (r pre : List Int) (k : Nat) (n : Int), l = pre ++ r → pre.length ≤ 9 → 0 ≤ n → n < 128 ^ pre.length → 2 * r.length < k →
    leb_Get.l0 k n l (l.length : Int) (pre.length : Int) = some (getS r pre.length (128 ^ pre.length) n)
  | [], pre, k, n, hl, hi, hn0, hn, hk => by
    obtain ⟨k, rfl⟩ : ∃ m, k = m + 1 := ⟨k - 1, by omega⟩
    subst hl
    simp only [leb_Get.l0, getS]
    rw [if_neg (by simp)]
  | x :: r, pre, k, n, hl, hi, hn0, hn, hk => by
    obtain ⟨k, rfl⟩ : ∃ m, k = m + 2 := ⟨k - 2, by simp at hk; omega⟩
    have hx := hb x (by rw [hl]; simp)
    have hlen : (l.length : Int) = pre.length + r.length + 1 := by rw [hl]; simp; omega
    have hrd : rd l (pre.length : Int) = x := by rw [hl]; exact rd_at pre r x
    have step : leb_Get.l0 (k + 2) n l (l.length : Int) (pre.length : Int) = leb_Get.j1 (k + 1) n (pre.length : Int) x l (l.length : Int) (pre.length : Int) (decide ((pre.length = 9 ∧ x > 1) ∨ (pre.length > 0 ∧ x = 0))) := by
      simp only [leb_Get.l0]
      rw [if_pos (by omega), if_pos (by omega), if_pos (by omega), hrd]
      by_cases h9 : pre.length = 9
      · rw [if_pos (by omega)]
        by_cases h1 : x > 1
        · rw [if_pos h1]; congr 1; simp [h9, h1]
        · rw [if_neg h1, if_pos (by omega)]; congr 1
          by_cases h0 : x = 0 <;> simp [h9, h1, h0]
      · rw [if_neg (by omega)]
        by_cases h0 : pre.length > 0
        · rw [if_pos (by omega)]; congr 1
          by_cases hx0 : x = 0
          · simp [hx0, h0]
          · simp [hx0, h9]
        · rw [if_neg (by omega)]; congr 1; simp [h9, h0]
    rw [step]
    simp only [leb_Get.j1, getS]
    by_cases hc : (pre.length = 9 ∧ x > 1) ∨ (pre.length > 0 ∧ x = 0)
    · rw [if_pos (by simpa using hc), if_pos hc]
    · have h9 : pre.length = 9 → x ≤ 1 := fun h => by
        rcases Int.lt_or_le 1 x with h2 | h2
        · exact absurd (.inl ⟨h, h2⟩) hc
        · exact h2
      rw [if_neg (by simpa using hc), if_neg hc, wrap_id (n := 7 * (pre.length : Int)) (by omega) (by omega), if_pos (by omega)]
      obtain ⟨e, hbd⟩ := part_eq hi hx.1 hx.2 h9
      rw [e, or_eq hn0 hn (by omega) hbd hi, wrap_id (n := (pre.length : Int) + 1) (by omega) (by omega)]
      by_cases hlt : x < 128
      · rw [if_pos hlt, if_pos hlt, show x % 128 = x by omega]
      · rw [if_neg hlt, if_neg hlt, show x % 128 = x - 128 by omega]
        have hi8 : pre.length ≤ 8 := by
          rcases Nat.lt_or_ge pre.length 9 with h | h
          · omega
          · have := h9 (by omega); omega
        have := get_loop l hb r (pre ++ [x]) k (n + 128 ^ pre.length * (x - 128)) (by rw [hl]; simp) (by simp; omega) (by have : (0 : Int) ≤ 128 ^ pre.length * (x - 128) := Int.mul_nonneg (Int.pow_nonneg (by omega)) (by omega); omega) (by
          rw [List.length_append, List.length_singleton, Int.pow_succ]
          have h4 : (128 : Int) ^ pre.length * (x - 128) ≤ 128 ^ pre.length * 127 := Int.mul_le_mul_of_nonneg_left (by omega) (Int.pow_nonneg (by omega))
          omega) (by simp at hk; omega)
        rw [List.length_append, List.length_singleton, Int.pow_succ] at this
        simpa using this

theorem get_ev {l : List Int} (hb : ∀ x ∈ l, 0 ≤ x ∧ x < 256) : Ev (fun k => leb_Get.f k l) (getS l 0 1 0) :=
  ⟨2 * l.length + 1, fun k hk => by
    show leb_Get.f k l = _
    unfold leb_Get.f
    have := get_loop l hb l [] k 0 rfl (by simp) (by omega) (by simp) (by omega)
    simpa using this⟩


theorem rget_loop (l : List Int) (hb : ∀ x ∈ l, 0 ≤ x ∧ x < 256) : ∀ (r pre : List Int) (k : Nat) (n : Int), l = pre ++ r → pre.length ≤ 9 → 0 ≤ n → n < 128 ^ pre.length → 2 * r.length < k →
    warrantorref01_Get.l0 k l n (128 ^ pre.length) (pre.length : Int) = some (getS r pre.length (128 ^ pre.length) n)
  | [], pre, k, n, hl, hi, hn0, hn, hk => by
    obtain ⟨k, rfl⟩ : ∃ m, k = m + 1 := ⟨k - 1, by omega⟩
    subst hl
    simp only [warrantorref01_Get.l0, getS]
    rw [if_neg (by simp)]
  | x :: r, pre, k, n, hl, hi, hn0, hn, hk => by
    obtain ⟨k, rfl⟩ : ∃ m, k = m + 2 := ⟨k - 2, by simp at hk; omega⟩
    have hx := hb x (by rw [hl]; simp)
    have hlen : (l.length : Int) = pre.length + r.length + 1 := by rw [hl]; simp; omega
    have hrd : IntKind.u64.wrap (rd l (pre.length : Int)) = x := by rw [hl, rd_at pre r x, IntKind.wrap_u64]; omega
    have step : warrantorref01_Get.l0 (k + 2) l n (128 ^ pre.length) (pre.length : Int) = warrantorref01_Get.j1 (k + 1) l n (128 ^ pre.length) (pre.length : Int) x (decide ((pre.length = 9 ∧ x > 1) ∨ (pre.length > 0 ∧ x = 0))) := by
      simp only [warrantorref01_Get.l0]
      rw [if_pos (by omega), if_pos (by omega), hrd]
      by_cases h9 : pre.length = 9
      · rw [if_pos (by omega)]
        by_cases h1 : x > 1
        · rw [if_pos h1]; congr 1; simp [h9, h1]
        · rw [if_neg h1]
          by_cases h0 : x = 0
          · rw [if_pos h0]; congr 1; simp [h9, h0]
          · rw [if_neg h0]; congr 1; simp [h1, h0]
      · rw [if_neg (by omega)]
        by_cases h0 : x = 0
        · rw [if_pos h0]; congr 1; simp [h9, h0]
        · rw [if_neg h0]; congr 1; simp [h9, h0]
    rw [step]
    simp only [warrantorref01_Get.j1, getS]
    by_cases hc : (pre.length = 9 ∧ x > 1) ∨ (pre.length > 0 ∧ x = 0)
    · rw [if_pos (by simpa using hc), if_pos hc]
    · have h9 : pre.length = 9 → x ≤ 1 := fun h => by
        rcases Int.lt_or_le 1 x with h2 | h2
        · exact absurd (.inl ⟨h, h2⟩) hc
        · exact h2
      rw [if_neg (by simpa using hc), if_neg hc]
      obtain ⟨-, hbd⟩ := part_eq hi hx.1 hx.2 h9
      have hpp : (0 : Int) ≤ 128 ^ pre.length * (x % 128) := Int.mul_nonneg (Int.pow_nonneg (by omega)) (by omega)
      have hsum : n + 128 ^ pre.length * (x % 128) < 18446744073709551616 := by
        rcases Nat.lt_or_ge pre.length 9 with h | h
        · have h3 : (128 : Int) ^ pre.length ≤ 128 ^ 8 := by exact_mod_cast Nat.pow_le_pow_right (by omega : 0 < 128) (by omega : pre.length ≤ 8)
          have h4 : (128 : Int) ^ pre.length * (x % 128) ≤ 128 ^ 8 * (x % 128) := Int.mul_le_mul_of_nonneg_right h3 (by omega)
          omega
        · have e9 : pre.length = 9 := by omega
          have := h9 e9
          rw [e9] at hn ⊢
          omega
      have e1 : IntKind.u64.wrap (n + IntKind.u64.wrap (128 ^ pre.length * Int.tmod x 128)) = n + 128 ^ pre.length * (x % 128) := by
        rw [Int.tmod_eq_emod_of_nonneg hx.1, IntKind.wrap_u64, IntKind.wrap_u64, Int.emod_eq_of_lt hpp hbd, Int.emod_eq_of_lt (by omega) hsum]
      rw [e1, wrap_id (n := (pre.length : Int) + 1) (by omega) (by omega)]
      by_cases hlt : x < 128
      · rw [if_pos hlt, if_pos hlt, show x % 128 = x by omega]
      · rw [if_neg hlt, if_neg hlt, show x % 128 = x - 128 by omega]
        have hi8 : pre.length ≤ 8 := by
          rcases Nat.lt_or_ge pre.length 9 with h | h
          · omega
          · have := h9 (by omega); omega
        have e2 : IntKind.u64.wrap (128 ^ pre.length * 128) = 128 ^ (pre.length + 1) := by
          rw [← Int.pow_succ, IntKind.wrap_u64]
          have h3 : (128 : Int) ^ (pre.length + 1) ≤ 128 ^ 9 := by exact_mod_cast Nat.pow_le_pow_right (by omega : 0 < 128) (by omega : pre.length + 1 ≤ 9)
          exact Int.emod_eq_of_lt (Int.pow_nonneg (by omega)) (by omega)
        rw [e2]
        have := rget_loop l hb r (pre ++ [x]) k (n + 128 ^ pre.length * (x - 128)) (by rw [hl]; simp) (by simp; omega) (by have : (0 : Int) ≤ 128 ^ pre.length * (x - 128) := Int.mul_nonneg (Int.pow_nonneg (by omega)) (by omega); omega) (by
          rw [List.length_append, List.length_singleton, Int.pow_succ]
          have h4 : (128 : Int) ^ pre.length * (x - 128) ≤ 128 ^ pre.length * 127 := Int.mul_le_mul_of_nonneg_left (by omega) (Int.pow_nonneg (by omega))
          omega) (by simp at hk; omega)
        rw [List.length_append, List.length_singleton] at this
        rw [Int.pow_succ] at this ⊢
        simpa using this

theorem rget_ev {l : List Int} (hb : ∀ x ∈ l, 0 ≤ x ∧ x < 256) : Ev (fun k => warrantorref01_Get.f k l) (getS l 0 1 0) :=
  ⟨2 * l.length + 1, fun k hk => by
    show warrantorref01_Get.f k l = _
    unfold warrantorref01_Get.f
    have := rget_loop l hb l [] k 0 rfl (by simp) (by omega) (by simp) (by omega)
    simpa using this⟩


def zigS (n : Int) : Int := if n ≥ 0 then 2 * n else -2 * n - 1
def zagS (u : Int) : Int := if u % 2 = 0 then u / 2 else -(u / 2) - 1
theorem zigS_range {n : Int} (h : -9223372036854775808 ≤ n ∧ n < 9223372036854775808) : 0 ≤ zigS n ∧ zigS n < 18446744073709551616 := by unfold zigS; split <;> omega
theorem zagS_range {u : Int} (h : 0 ≤ u ∧ u < 18446744073709551616) : -9223372036854775808 ≤ zagS u ∧ zagS u < 9223372036854775808 := by unfold zagS; split <;> omega
theorem zag_zig (n : Int) : zagS (zigS n) = n := by unfold zagS zigS; split <;> split <;> omega
theorem zig_zag {u : Int} (h : 0 ≤ u) : zigS (zagS u) = u := by unfold zagS zigS; split <;> split <;> omega
theorem xor_ones (x : Int) (h0 : 0 ≤ x) (h1 : x < 18446744073709551616) : Go.bits .xor .u64 x 18446744073709551615 = 18446744073709551615 - x := by
  rw [u64_xor _ _ h0 h1 (by omega) (by omega)]
  have : (x.toNat ^^^ (18446744073709551615 : Int).toNat) = 18446744073709551615 - x.toNat := by
    have e : x.toNat = (BitVec.ofNat 64 x.toNat).toNat := by rw [BitVec.toNat_ofNat]; omega
    have e2 : (18446744073709551615 : Int).toNat = (BitVec.allOnes 64).toNat := rfl
    rw [e, e2, ← BitVec.toNat_xor, BitVec.xor_allOnes, BitVec.toNat_not]
  rw [this]; omega

theorem put_calls (n : Int) (w : World) (h0 : 0 ≤ n) (h1 : n < 18446744073709551616) : Calls Try.prog 75 #[.int .u64 n] w fun e w' => ∃ v : Value, e = .returned v ∧ (Kd.int .u8).R 5 w' w.heap.size (fun _ => True) v (putN 9 n) ∧ Below w.heap.size w w' := by
  obtain ⟨k, hk⟩ := (put_ev h0 h1).rounds
  exact leb_Put.calls k n _ w hk
theorem rput_calls (n : Int) (w : World) (h0 : 0 ≤ n) (h1 : n < 18446744073709551616) : Calls Try.prog 72 #[.int .u64 n] w fun e w' => ∃ v : Value, e = .returned v ∧ (Kd.int .u8).R 5 w' w.heap.size (fun _ => True) v (putN 9 n) ∧ Below w.heap.size w w' := by
  obtain ⟨k, hk⟩ := (rput_ev h0 h1).rounds
  exact warrantorref01_Put.calls k n _ w hk
theorem get_calls {A : Option Addr} {c : Nat} {l : List Int} {w : World} (hC : (Kd.int .u8).C w A l.length l) (hc : l.length ≤ c) (hb : ∀ x ∈ l, 0 ≤ x ∧ x < 256) :
    Calls Try.prog 82 #[.slice A l.length c] w fun e w' => e = .returned (.tuple #[.int .u64 (getS l 0 1 0).1, .int .i64 (getS l 0 1 0).2.1, .int .i64 (getS l 0 1 0).2.2]) ∧ Drawn0 w w' := by
  obtain ⟨k, hk⟩ := (get_ev hb).rounds
  exact leb_Get.calls k A c l _ _ _ w hC hc hk
theorem rget_calls {A : Option Addr} {c : Nat} {l : List Int} {w : World} (hC : (Kd.int .u8).C w A l.length l) (hc : l.length ≤ c) (hb : ∀ x ∈ l, 0 ≤ x ∧ x < 256) :
    Calls Try.prog 81 #[.slice A l.length c] w fun e w' => e = .returned (.tuple #[.int .u64 (getS l 0 1 0).1, .int .i64 (getS l 0 1 0).2.1, .int .i64 (getS l 0 1 0).2.2]) ∧ Drawn0 w w' := by
  obtain ⟨k, hk⟩ := (rget_ev hb).rounds
  exact warrantorref01_Get.calls k A c l _ _ _ w hC hc hk
def wordN (n : Int) : List Int := [n % 256, n / 256 % 256, n / 65536 % 256, n / 16777216 % 256]
theorem rword_calls (n : Int) (w : World) (h : 0 ≤ n ∧ n < 4294967296) : Calls Try.prog 19 #[.int .u32 n] w fun e w' => ∃ v : Value, e = .returned v ∧ (Kd.int .u8).R 5 w' w.heap.size (fun _ => True) v (wordN n) ∧ Below w.heap.size w w' := by
  refine warrantorref02_Word.calls n _ w ?_
  unfold warrantorref02_Word.f wordN
  rw [Int.tmod_eq_emod_of_nonneg h.1, Int.tdiv_eq_ediv_of_nonneg h.1, Int.tdiv_eq_ediv_of_nonneg h.1, Int.tdiv_eq_ediv_of_nonneg h.1]
  have e0 : n % 256 % 256 = n % 256 := by omega
  have e1 : n / 256 % 4294967296 % 256 = n / 256 % 256 := by omega
  have e2 : n / 65536 % 4294967296 % 256 = n / 65536 % 256 := by omega
  have e3 : n / 16777216 % 4294967296 % 256 = n / 16777216 % 256 := by omega
  rw [e0, e1, e2, e3]
theorem putN_le : ∀ (d : Nat) (n : Int), (putN d n).length ≤ d + 1
  | 0, n => by simp [putN]
  | d + 1, n => by
    unfold putN
    split
    · have := putN_le d (n / 128); simp; omega
    · simp
end Go.Proofs.Ytnohflfpahokiaa.Leb
