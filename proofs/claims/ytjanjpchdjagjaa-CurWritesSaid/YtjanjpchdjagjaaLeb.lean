/- What the functions of layer 1 come to: the plain mathematics of the text LebM, and their contracts by it. -/
import Derived.Test.YtjanjpchdjagjaaLebM
import Derived.Test.YtjanjpchdjagjaaPAllx
set_option linter.unusedVariables false
namespace Go.Proofs.Ytjanjpchdjagjaa.Leb
open Go Go.RowKit Go.Proofs.Ytjanjpchdjagjaa.PAll Go.Proofs.YtjanjpchdjagjaaW.PrintWords Go.Proofs.YtjanjpchdjagjaaW.PrintLast Go.Proofs.YtjanjpchdjagjaaW.PrintMore Go.Proofs.Ytjanjpchdjagjaa.LebM

theorem or128 : ∀ m : Nat, m < 256 → m ||| 128 = m % 128 + 128 := by decide +kernel

theorem bits_or128 (n : Int) : Go.bits .or .u8 (n % 256) 128 = n % 128 + 128 := by
  rw [u8_or _ _ (by omega) (by omega) (by omega) (by omega), show ((128 : Int)).toNat = 128 from rfl, or128 _ (by omega)]
  omega


theorem put_loop : ∀ (d k : Nat) (n : Int) (acc : List Int), 0 ≤ n → n < 128 ^ (d + 1) → d < k → acc.length + d < 1000 → leb_Put.l0 k n acc = some (acc ++ putN d n)
  | 0, k, n, acc, h0, h1, hk, ha => by
    obtain ⟨k, rfl⟩ : ∃ m, k = m + 1 := ⟨k - 1, by omega⟩
    have h1' : n < 128 := by simpa using h1
    simp only [leb_Put.l0, putN]
    rw [if_neg (by omega), if_pos (by omega), show n % 256 = n by omega]
  | d + 1, k, n, acc, h0, h1, hk, ha => by
    obtain ⟨k, rfl⟩ : ∃ m, k = m + 1 := ⟨k - 1, by omega⟩
    simp only [leb_Put.l0]
    conv => rhs; unfold putN
    by_cases hn : n ≥ 128
    · rw [if_pos hn, if_pos hn, if_pos (by omega), bits_or128 n, put_loop d k (n / 128) _ (by omega) (by rw [Int.pow_succ] at h1; omega) (by omega) (by simp; omega)]
      simp
    · rw [if_neg hn, if_neg hn, if_pos (by omega), show n % 256 = n by omega]

theorem put_ev {n : Int} (h0 : 0 ≤ n) (h1 : n < 18446744073709551616) : Ev (fun k => leb_Put.f k n) (putN 9 n) :=
  ⟨11, fun k hk => by show leb_Put.f k n = _; unfold leb_Put.f; rw [put_loop 9 k n _ h0 (by omega) (by omega) (by simp)]; simp⟩


theorem rput_loop : ∀ (d k : Nat) (n : Int) (acc : List Int), 0 ≤ n → n < 128 ^ (d + 1) → n < 18446744073709551616 → d < k → acc.length + d < 1000 → warrantorref01_Put.l0 k n acc = some (acc ++ putN d n)
  | 0, k, n, acc, h0, h1, h2, hk, ha => by
    obtain ⟨k, rfl⟩ : ∃ m, k = m + 1 := ⟨k - 1, by omega⟩
    have h1' : n < 128 := by simpa using h1
    simp only [warrantorref01_Put.l0, putN]
    rw [if_neg (by omega), if_pos (by omega), show n % 256 = n by omega]
  | d + 1, k, n, acc, h0, h1, h2, hk, ha => by
    obtain ⟨k, rfl⟩ : ∃ m, k = m + 1 := ⟨k - 1, by omega⟩
    simp only [warrantorref01_Put.l0]
    conv => rhs; unfold putN
    by_cases hn : n ≥ 128
    · have e1 : (IntKind.u64.wrap (Int.tdiv n 128)) = n / 128 := by rw [Int.tdiv_eq_ediv_of_nonneg h0, IntKind.wrap_u64]; omega
      have e2 : (IntKind.u64.wrap (Int.tmod n 128 + 128)) % 256 = n % 128 + 128 := by rw [Int.tmod_eq_emod_of_nonneg h0, IntKind.wrap_u64]; omega
      rw [if_pos hn, if_pos hn, if_pos (by omega), e1, e2, rput_loop d k (n / 128) _ (by omega) (by rw [Int.pow_succ] at h1; omega) (by omega) (by omega) (by simp; omega)]
      simp
    · rw [if_neg hn, if_neg hn, if_pos (by omega), show n % 256 = n by omega]

theorem rput_ev {n : Int} (h0 : 0 ≤ n) (h1 : n < 18446744073709551616) : Ev (fun k => warrantorref01_Put.f k n) (putN 9 n) :=
  ⟨11, fun k hk => by show warrantorref01_Put.f k n = _; unfold warrantorref01_Put.f; rw [rput_loop 9 k n _ h0 (by omega) h1 (by omega) (by simp)]; simp⟩


theorem wrap_id {n : Int} (h0 : -1000000 ≤ n) (h1 : n ≤ 140737488355328) : wrap64 n = n := by unfold wrap64; omega


theorem rd_at (pre r : List Int) (x : Int) : rd (pre ++ x :: r) (pre.length : Int) = x := by simp [rd]

theorem part_eq {i : Nat} {x : Int} (hi : i ≤ 9) (h0 : 0 ≤ x) (h1 : x < 256) (h9 : i = 9 → x ≤ 1) :
    shl .u64 (IntKind.u64.wrap (Go.bits .andNot .u8 x 128)) (7 * (i : Int)) = 128 ^ i * (x % 128) ∧ 128 ^ i * (x % 128) < 18446744073709551616 := by
  have e1 : Go.bits .andNot .u8 x 128 = x % 128 := by
    rw [u8_andNot _ _ h0 h1 (by omega) (by omega), show (255 - ((128 : Int)).toNat) = 127 from rfl, nat_mask7]; omega
  have hb : 128 ^ i * (x % 128) < 18446744073709551616 := by
    rcases Nat.lt_or_ge i 9 with h | h
    · have h3 : (128 : Int) ^ i ≤ 128 ^ 8 := by exact_mod_cast Nat.pow_le_pow_right (by omega : 0 < 128) (by omega : i ≤ 8)
      have h4 : (128 : Int) ^ i * (x % 128) ≤ 128 ^ 8 * (x % 128) := Int.mul_le_mul_of_nonneg_right h3 (by omega)
      omega
    · have e9 : i = 9 := by omega
      have := h9 e9
      subst e9; omega
  refine ⟨?_, hb⟩
  have e2 : IntKind.u64.wrap (x % 128) = x % 128 := by rw [IntKind.wrap_u64]; omega
  have e3 : min (7 * (i : Int)).toNat (IntKind.bits .u64) = 7 * i := by
    have : IntKind.bits .u64 = 64 := rfl
    rw [this]; omega
  unfold shl
  rw [e1, e2, e3, Int.pow_mul, show ((2 : Int) ^ 7) = 128 from rfl, Int.mul_comm, IntKind.wrap_u64]
  have : 0 ≤ 128 ^ i * (x % 128) := Int.mul_nonneg (Int.pow_nonneg (by omega)) (by omega)
  exact Int.emod_eq_of_lt this hb

theorem or_eq {i : Nat} {n y : Int} (hn0 : 0 ≤ n) (hn : n < 128 ^ i) (hy : 0 ≤ y) (hb : 128 ^ i * y < 18446744073709551616) (hi : i ≤ 9) : Go.bits .or .u64 n (128 ^ i * y) = n + 128 ^ i * y := by
  have hs : 0 ≤ 128 ^ i * y := Int.mul_nonneg (Int.pow_nonneg (by omega)) hy
  have hn2 : n < 18446744073709551616 := by
    have h3 : (128 : Int) ^ i ≤ 128 ^ 9 := by exact_mod_cast Nat.pow_le_pow_right (by omega : 0 < 128) hi
    omega
  rw [u64_or _ _ hn0 hn2 hs hb, Nat.or_comm]
  have e2 : (128 ^ i * y).toNat = 128 ^ i * y.toNat := by
    rw [Int.toNat_mul (Int.pow_nonneg (by omega)) hy, Int.toNat_pow_of_nonneg (by omega)]; rfl
  have e3 : (128 : Nat) ^ i = 2 ^ (7 * i) := by rw [Nat.pow_mul]
  rw [nat_join (7 * i)]
  · omega
  · rw [e2, e3]; exact Nat.mul_mod_right _ _
  · rw [← e3]
    have : ((n.toNat : Nat) : Int) < ((128 ^ i : Nat) : Int) := by rw [Int.toNat_of_nonneg hn0]; exact_mod_cast hn
    exact_mod_cast this


theorem get_loop (l : List Int) (hb : ∀ x ∈ l, 0 ≤ x ∧ x < 256) : ∀ (r pre : List Int) (k : Nat) (n : Int), l = pre ++ r → pre.length ≤ 9 → 0 ≤ n → n < 128 ^ pre.length → 2 * r.length < k →
    leb_Get.l0 k n l (l.length : Int) (pre.length : Int) = some (getS r pre.length (128 ^ pre.length) n)
  | [], pre, k, n, hl, hi, hn0, hn, hk => by
    obtain ⟨k, rfl⟩ : ∃ m, k = m + 1 := ⟨k - 1, by omega⟩
    subst hl
    simp only [leb_Get.l0, getS]
    rw [if_neg (by simp)]
  | x :: r, pre, k, n, hl, hi, hn0, hn, hk => by
    obtain ⟨k, rfl⟩ : ∃ m, k = m + 2 := ⟨k - 2, by simp at hk; omega⟩
    have hx := hb x (by rw [hl]; simp)
    have hlen : (l.length : Int) = pre.length + r.length + 1 := by rw [hl]; simp; omega
    have hrd : rd l (pre.length : Int) = x := by rw [hl]; exact rd_at pre r x
    have step : leb_Get.l0 (k + 2) n l (l.length : Int) (pre.length : Int) = leb_Get.j1 (k + 1) n (pre.length : Int) x l (l.length : Int) (pre.length : Int) (decide ((pre.length = 9 ∧ x > 1) ∨ (pre.length > 0 ∧ x = 0))) := by
      simp only [leb_Get.l0]
      rw [if_pos (by omega), if_pos (by omega), if_pos (by omega), hrd]
      by_cases h9 : pre.length = 9
      · rw [if_pos (by omega)]
        by_cases h1 : x > 1
        · rw [if_pos h1]; congr 1; simp [h9, h1]
        · rw [if_neg h1, if_pos (by omega)]; congr 1
          by_cases h0 : x = 0 <;> simp [h9, h1, h0]
      · rw [if_neg (by omega)]
        by_cases h0 : pre.length > 0
        · rw [if_pos (by omega)]; congr 1
          by_cases hx0 : x = 0
          · simp [hx0, h0]
          · simp [hx0, h9]
        · rw [if_neg (by omega)]; congr 1; simp [h9, h0]
    rw [step]
    simp only [leb_Get.j1, getS]
    by_cases hc : (pre.length = 9 ∧ x > 1) ∨ (pre.length > 0 ∧ x = 0)
    · rw [if_pos (by simpa using hc), if_pos hc]
    · have h9 : pre.length = 9 → x ≤ 1 := fun h => by
        rcases Int.lt_or_le 1 x with h2 | h2
        · exact absurd (.inl ⟨h, h2⟩) hc
        · exact h2
      rw [if_neg (by simpa using hc), if_neg hc, wrap_id (n := 7 * (pre.length : Int)) (by omega) (by omega), if_pos (by omega)]
      obtain ⟨e, hbd⟩ := part_eq hi hx.1 hx.2 h9
      rw [e, or_eq hn0 hn (by omega) hbd hi, wrap_id (n := (pre.length : Int) + 1) (by omega) (by omega)]
      by_cases hlt : x < 128
      · rw [if_pos hlt, if_pos hlt, show x % 128 = x by omega]
      · rw [if_neg hlt, if_neg hlt, show x % 128 = x - 128 by omega]
        have hi8 : pre.length ≤ 8 := by
          rcases Nat.lt_or_ge pre.length 9 with h | h
          · omega
          · have := h9 (by omega); omega
        have := get_loop l hb r (pre ++ [x]) k (n + 128 ^ pre.length * (x - 128)) (by rw [hl]; simp) (by simp; omega) (by have : (0 : Int) ≤ 128 ^ pre.length * (x - 128) := Int.mul_nonneg (Int.pow_nonneg (by omega)) (by omega); omega) (by
          rw [List.length_append, List.length_singleton, Int.pow_succ]
          have h4 : (128 : Int) ^ pre.length * (x - 128) ≤ 128 ^ pre.length * 127 := Int.mul_le_mul_of_nonneg_left (by omega) (Int.pow_nonneg (by omega))
          omega) (by simp at hk; omega)
        rw [List.length_append, List.length_singleton, Int.pow_succ] at this
        simpa using this

theorem get_ev {l : List Int} (hb : ∀ x ∈ l, 0 ≤ x ∧ x < 256) : Ev (fun k => leb_Get.f k l) (getS l 0 1 0) :=
  ⟨2 * l.length + 1, fun k hk => by
    show leb_Get.f k l = _
    unfold leb_Get.f
    have := get_loop l hb l [] k 0 rfl (by simp) (by omega) (by simp) (by omega)
    simpa using this⟩


theorem rget_loop (l : List Int) (hb : ∀ x ∈ l, 0 ≤ x ∧ x < 256) : ∀ (r pre : List Int) (k : Nat) (n : Int), l = pre ++ r → pre.length ≤ 9 → 0 ≤ n → n < 128 ^ pre.length → 2 * r.length < k →
    warrantorref01_Get.l0 k l n (128 ^ pre.length) (pre.length : Int) = some (getS r pre.length (128 ^ pre.length) n)
  | [], pre, k, n, hl, hi, hn0, hn, hk => by
    obtain ⟨k, rfl⟩ : ∃ m, k = m + 1 := ⟨k - 1, by omega⟩
    subst hl
    simp only [warrantorref01_Get.l0, getS]
    rw [if_neg (by simp)]
  | x :: r, pre, k, n, hl, hi, hn0, hn, hk => by
    obtain ⟨k, rfl⟩ : ∃ m, k = m + 2 := ⟨k - 2, by simp at hk; omega⟩
    have hx := hb x (by rw [hl]; simp)
    have hlen : (l.length : Int) = pre.length + r.length + 1 := by rw [hl]; simp; omega
    have hrd : IntKind.u64.wrap (rd l (pre.length : Int)) = x := by rw [hl, rd_at pre r x, IntKind.wrap_u64]; omega
    have step : warrantorref01_Get.l0 (k + 2) l n (128 ^ pre.length) (pre.length : Int) = warrantorref01_Get.j1 (k + 1) l n (128 ^ pre.length) (pre.length : Int) x (decide ((pre.length = 9 ∧ x > 1) ∨ (pre.length > 0 ∧ x = 0))) := by
      simp only [warrantorref01_Get.l0]
      rw [if_pos (by omega), if_pos (by omega), hrd]
      by_cases h9 : pre.length = 9
      · rw [if_pos (by omega)]
        by_cases h1 : x > 1
        · rw [if_pos h1]; congr 1; simp [h9, h1]
        · rw [if_neg h1]
          by_cases h0 : x = 0
          · rw [if_pos h0]; congr 1; simp [h9, h0]
          · rw [if_neg h0]; congr 1; simp [h1, h0]
      · rw [if_neg (by omega)]
        by_cases h0 : x = 0
        · rw [if_pos h0]; congr 1; simp [h9, h0]
        · rw [if_neg h0]; congr 1; simp [h9, h0]
    rw [step]
    simp only [warrantorref01_Get.j1, getS]
    by_cases hc : (pre.length = 9 ∧ x > 1) ∨ (pre.length > 0 ∧ x = 0)
    · rw [if_pos (by simpa using hc), if_pos hc]
    · have h9 : pre.length = 9 → x ≤ 1 := fun h => by
        rcases Int.lt_or_le 1 x with h2 | h2
        · exact absurd (.inl ⟨h, h2⟩) hc
        · exact h2
      rw [if_neg (by simpa using hc), if_neg hc]
      obtain ⟨-, hbd⟩ := part_eq hi hx.1 hx.2 h9
      have hpp : (0 : Int) ≤ 128 ^ pre.length * (x % 128) := Int.mul_nonneg (Int.pow_nonneg (by omega)) (by omega)
      have hsum : n + 128 ^ pre.length * (x % 128) < 18446744073709551616 := by
        rcases Nat.lt_or_ge pre.length 9 with h | h
        · have h3 : (128 : Int) ^ pre.length ≤ 128 ^ 8 := by exact_mod_cast Nat.pow_le_pow_right (by omega : 0 < 128) (by omega : pre.length ≤ 8)
          have h4 : (128 : Int) ^ pre.length * (x % 128) ≤ 128 ^ 8 * (x % 128) := Int.mul_le_mul_of_nonneg_right h3 (by omega)
          omega
        · have e9 : pre.length = 9 := by omega
          have := h9 e9
          rw [e9] at hn ⊢
          omega
      have e1 : IntKind.u64.wrap (n + IntKind.u64.wrap (128 ^ pre.length * Int.tmod x 128)) = n + 128 ^ pre.length * (x % 128) := by
        rw [Int.tmod_eq_emod_of_nonneg hx.1, IntKind.wrap_u64, IntKind.wrap_u64, Int.emod_eq_of_lt hpp hbd, Int.emod_eq_of_lt (by omega) hsum]
      rw [e1, wrap_id (n := (pre.length : Int) + 1) (by omega) (by omega)]
      by_cases hlt : x < 128
      · rw [if_pos hlt, if_pos hlt, show x % 128 = x by omega]
      · rw [if_neg hlt, if_neg hlt, show x % 128 = x - 128 by omega]
        have hi8 : pre.length ≤ 8 := by
          rcases Nat.lt_or_ge pre.length 9 with h | h
          · omega
          · have := h9 (by omega); omega
        have e2 : IntKind.u64.wrap (128 ^ pre.length * 128) = 128 ^ (pre.length + 1) := by
          rw [← Int.pow_succ, IntKind.wrap_u64]
          have h3 : (128 : Int) ^ (pre.length + 1) ≤ 128 ^ 9 := by exact_mod_cast Nat.pow_le_pow_right (by omega : 0 < 128) (by omega : pre.length + 1 ≤ 9)
          exact Int.emod_eq_of_lt (Int.pow_nonneg (by omega)) (by omega)
        rw [e2]
        have := rget_loop l hb r (pre ++ [x]) k (n + 128 ^ pre.length * (x - 128)) (by rw [hl]; simp) (by simp; omega) (by have : (0 : Int) ≤ 128 ^ pre.length * (x - 128) := Int.mul_nonneg (Int.pow_nonneg (by omega)) (by omega); omega) (by
          rw [List.length_append, List.length_singleton, Int.pow_succ]
          have h4 : (128 : Int) ^ pre.length * (x - 128) ≤ 128 ^ pre.length * 127 := Int.mul_le_mul_of_nonneg_left (by omega) (Int.pow_nonneg (by omega))
          omega) (by simp at hk; omega)
        rw [List.length_append, List.length_singleton] at this
        rw [Int.pow_succ] at this ⊢
        simpa using this

theorem rget_ev {l : List Int} (hb : ∀ x ∈ l, 0 ≤ x ∧ x < 256) : Ev (fun k => warrantorref01_Get.f k l) (getS l 0 1 0) :=
  ⟨2 * l.length + 1, fun k hk => by
    show warrantorref01_Get.f k l = _
    unfold warrantorref01_Get.f
    have := rget_loop l hb l [] k 0 rfl (by simp) (by omega) (by simp) (by omega)
    simpa using this⟩


def zigS (n : Int) : Int := if n ≥ 0 then 2 * n else -2 * n - 1
def zagS (u : Int) : Int := if u % 2 = 0 then u / 2 else -(u / 2) - 1
theorem zigS_range {n : Int} (h : -9223372036854775808 ≤ n ∧ n < 9223372036854775808) : 0 ≤ zigS n ∧ zigS n < 18446744073709551616 := by unfold zigS; split <;> omega
theorem zagS_range {u : Int} (h : 0 ≤ u ∧ u < 18446744073709551616) : -9223372036854775808 ≤ zagS u ∧ zagS u < 9223372036854775808 := by unfold zagS; split <;> omega
theorem zag_zig (n : Int) : zagS (zigS n) = n := by unfold zagS zigS; split <;> split <;> omega
theorem zig_zag {u : Int} (h : 0 ≤ u) : zigS (zagS u) = u := by unfold zagS zigS; split <;> split <;> omega
theorem xor_ones (x : Int) (h0 : 0 ≤ x) (h1 : x < 18446744073709551616) : Go.bits .xor .u64 x 18446744073709551615 = 18446744073709551615 - x := by
  rw [u64_xor _ _ h0 h1 (by omega) (by omega)]
  have : (x.toNat ^^^ (18446744073709551615 : Int).toNat) = 18446744073709551615 - x.toNat := by
    have e : x.toNat = (BitVec.ofNat 64 x.toNat).toNat := by rw [BitVec.toNat_ofNat]; omega
    have e2 : (18446744073709551615 : Int).toNat = (BitVec.allOnes 64).toNat := rfl
    rw [e, e2, ← BitVec.toNat_xor, BitVec.xor_allOnes, BitVec.toNat_not]
  rw [this]; omega

theorem zig_eq {n : Int} (h : -9223372036854775808 ≤ n ∧ n < 9223372036854775808) : leb_Zig.f n = some (zigS n) := by
  unfold leb_Zig.f zigS
  simp only [IntKind.wrap_u64]
  by_cases hn : n ≥ 0
  · rw [if_pos hn, show n / 9223372036854775808 = 0 by omega, show (n % 18446744073709551616 * 2) % 18446744073709551616 = 2 * n by omega, u64_xor _ _ (by omega) (by omega) (by omega) (by omega)]
    simp
    omega
  · rw [if_neg hn, show n / 9223372036854775808 = -1 by omega, show (-1 : Int) % 18446744073709551616 = 18446744073709551615 by decide, xor_ones _ (by omega) (by omega)]
    simp only [Option.some.injEq]
    omega

theorem rzig_eq {n : Int} (h : -9223372036854775808 ≤ n ∧ n < 9223372036854775808) : warrantorref01_Zig.f n = some (zigS n) := by
  unfold warrantorref01_Zig.f zigS
  simp only [IntKind.wrap_u64, wrap64]
  split <;> simp only [Option.some.injEq] <;> omega

theorem rzag_eq {u : Int} (h : 0 ≤ u ∧ u < 18446744073709551616) : warrantorref01_Zag.f u = some (zagS u) := by
  unfold warrantorref01_Zag.f zagS
  rw [Int.tmod_eq_emod_of_nonneg h.1, Int.tdiv_eq_ediv_of_nonneg h.1]
  simp only [IntKind.wrap_u64, wrap64]
  split <;> simp only [Option.some.injEq] <;> omega

theorem xor_zero_i64 (x : Int) (h : -9223372036854775808 ≤ x ∧ x < 9223372036854775808) : Go.bits .xor .i64 x 0 = x := by
  show IntKind.i64.wrap ((BitVec.ofInt 64 x ^^^ BitVec.ofInt 64 0).toNat : Int) = _
  rw [show BitVec.ofInt 64 0 = 0#64 from rfl, BitVec.xor_zero, BitVec.toNat_ofInt, IntKind.wrap_i64]
  omega
theorem xor_neg_i64 (x : Int) (h : -9223372036854775808 ≤ x ∧ x < 9223372036854775808) : Go.bits .xor .i64 x (-1) = -x - 1 := by
  show IntKind.i64.wrap ((BitVec.ofInt 64 x ^^^ BitVec.ofInt 64 (-1)).toNat : Int) = _
  rw [show BitVec.ofInt 64 (-1) = BitVec.allOnes 64 from rfl, BitVec.xor_allOnes, BitVec.toNat_not, BitVec.toNat_ofInt, IntKind.wrap_i64]
  omega
theorem zag_eq {u : Int} (h : 0 ≤ u ∧ u < 18446744073709551616) : leb_Zag.f u = some (zagS u) := by
  unfold leb_Zag.f zagS
  rw [u64_and _ _ h.1 h.2 (by omega) (by omega), show ((1 : Int)).toNat = 1 from rfl, nat_mask1, show wrap64 (u / 2) = u / 2 by unfold wrap64; omega]
  by_cases hp : u % 2 = 0
  · rw [if_pos hp, show ((u.toNat % 2 : Nat) : Int) = 0 by omega, show wrap64 (-(wrap64 0)) = 0 from by unfold wrap64; omega, xor_zero_i64 _ (by omega)]
  · rw [if_neg hp, show ((u.toNat % 2 : Nat) : Int) = 1 by omega, show wrap64 (-(wrap64 1)) = -1 from by unfold wrap64; omega, xor_neg_i64 _ (by omega)]


theorem put_calls (n : Int) (w : World) (h0 : 0 ≤ n) (h1 : n < 18446744073709551616) : Calls Try.prog 56 #[.int .u64 n] w fun e w' => ∃ v : Value, e = .returned v ∧ (Kd.int .u8).R 5 w' w.heap.size (fun _ => True) v (putN 9 n) ∧ Below w.heap.size w w' := by
  obtain ⟨k, hk⟩ := (put_ev h0 h1).rounds
  exact leb_Put.calls k n _ w hk
theorem rput_calls (n : Int) (w : World) (h0 : 0 ≤ n) (h1 : n < 18446744073709551616) : Calls Try.prog 29 #[.int .u64 n] w fun e w' => ∃ v : Value, e = .returned v ∧ (Kd.int .u8).R 5 w' w.heap.size (fun _ => True) v (putN 9 n) ∧ Below w.heap.size w w' := by
  obtain ⟨k, hk⟩ := (rput_ev h0 h1).rounds
  exact warrantorref01_Put.calls k n _ w hk
theorem putint_calls (n : Int) (w : World) (h : -9223372036854775808 ≤ n ∧ n < 9223372036854775808) : Calls Try.prog 57 #[.int .i64 n] w fun e w' => ∃ v : Value, e = .returned v ∧ (Kd.int .u8).R 5 w' w.heap.size (fun _ => True) v (putN 9 (zigS n)) ∧ Below w.heap.size w w' := by
  have hz := zigS_range h
  obtain ⟨k, hk⟩ := (put_ev hz.1 hz.2).rounds
  exact leb_PutInt.calls k n _ w (by unfold leb_PutInt.f; rw [zig_eq h, Option.bind_some, hk]; rfl)
theorem rputint_calls (n : Int) (w : World) (h : -9223372036854775808 ≤ n ∧ n < 9223372036854775808) : Calls Try.prog 30 #[.int .i64 n] w fun e w' => ∃ v : Value, e = .returned v ∧ (Kd.int .u8).R 5 w' w.heap.size (fun _ => True) v (putN 9 (zigS n)) ∧ Below w.heap.size w w' := by
  have hz := zigS_range h
  obtain ⟨k, hk⟩ := (rput_ev hz.1 hz.2).rounds
  exact warrantorref01_PutInt.calls k n _ w (by unfold warrantorref01_PutInt.f; rw [rzig_eq h, Option.bind_some, hk]; rfl)
theorem get_calls {A : Option Addr} {c : Nat} {l : List Int} {w : World} (hC : (Kd.int .u8).C w A l.length l) (hc : l.length ≤ c) (hb : ∀ x ∈ l, 0 ≤ x ∧ x < 256) :
    Calls Try.prog 60 #[.slice A l.length c] w fun e w' => e = .returned (.tuple #[.int .u64 (getS l 0 1 0).1, .int .i64 (getS l 0 1 0).2.1, .int .i64 (getS l 0 1 0).2.2]) ∧ Drawn0 w w' := by
  obtain ⟨k, hk⟩ := (get_ev hb).rounds
  exact leb_Get.calls k A c l _ _ _ w hC hc hk
theorem rget_calls {A : Option Addr} {c : Nat} {l : List Int} {w : World} (hC : (Kd.int .u8).C w A l.length l) (hc : l.length ≤ c) (hb : ∀ x ∈ l, 0 ≤ x ∧ x < 256) :
    Calls Try.prog 66 #[.slice A l.length c] w fun e w' => e = .returned (.tuple #[.int .u64 (getS l 0 1 0).1, .int .i64 (getS l 0 1 0).2.1, .int .i64 (getS l 0 1 0).2.2]) ∧ Drawn0 w w' := by
  obtain ⟨k, hk⟩ := (rget_ev hb).rounds
  exact warrantorref01_Get.calls k A c l _ _ _ w hC hc hk
theorem zag_calls (u : Int) (w : World) (h : 0 ≤ u ∧ u < 18446744073709551616) : Calls Try.prog 62 #[.int .u64 u] w fun e w' => e = .returned (.int .i64 (zagS u)) ∧ Drawn0 w w' := leb_Zag.calls u _ w (zag_eq h)
theorem rzag_calls (u : Int) (w : World) (h : 0 ≤ u ∧ u < 18446744073709551616) : Calls Try.prog 67 #[.int .u64 u] w fun e w' => e = .returned (.int .i64 (zagS u)) ∧ Drawn0 w w' := warrantorref01_Zag.calls u _ w (rzag_eq h)
def wordN (n : Int) : List Int := [n % 256, n / 256 % 256, n / 65536 % 256, n / 16777216 % 256]
theorem rword_calls (n : Int) (w : World) (h : 0 ≤ n ∧ n < 4294967296) : Calls Try.prog 31 #[.int .u32 n] w fun e w' => ∃ v : Value, e = .returned v ∧ (Kd.int .u8).R 5 w' w.heap.size (fun _ => True) v (wordN n) ∧ Below w.heap.size w w' := by
  refine warrantorref02_Word.calls n _ w ?_
  unfold warrantorref02_Word.f wordN
  rw [Int.tmod_eq_emod_of_nonneg h.1, Int.tdiv_eq_ediv_of_nonneg h.1, Int.tdiv_eq_ediv_of_nonneg h.1, Int.tdiv_eq_ediv_of_nonneg h.1]
  have e0 : n % 256 % 256 = n % 256 := by omega
  have e1 : n / 256 % 4294967296 % 256 = n / 256 % 256 := by omega
  have e2 : n / 65536 % 4294967296 % 256 = n / 65536 % 256 := by omega
  have e3 : n / 16777216 % 4294967296 % 256 = n / 16777216 % 256 := by omega
  rw [e0, e1, e2, e3]
theorem putN_le : ∀ (d : Nat) (n : Int), (putN d n).length ≤ d + 1
  | 0, n => by simp [putN]
  | d + 1, n => by
    unfold putN
    split
    · have := putN_le d (n / 128); simp; omega
    · simp
end Go.Proofs.Ytjanjpchdjagjaa.Leb
