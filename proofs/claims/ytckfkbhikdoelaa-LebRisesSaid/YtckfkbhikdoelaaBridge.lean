/- What the functions of layer 1, as the print tells them, come to: the plain mathematics of the text Math. -/
import Derived.Test.YtckfkbhikdoelaaMath
import Derived.Test.YtckfkbhikdoelaaPAllx
namespace Go.Proofs.Ytckfkbhikdoelaa.Bridge
open Go Go.RowKit Go.Proofs.Ytckfkbhikdoelaa.PAll Go.Proofs.YtckfkbhikdoelaaW.PrintWords Go.Proofs.YtckfkbhikdoelaaW.PrintLast Go.Proofs.YtckfkbhikdoelaaW.PrintMore Go.Proofs.Ytckfkbhikdoelaa.LebM

theorem or128 : ∀ m : Nat, m < 256 → m ||| 128 = m % 128 + 128 := by decide +kernel

theorem bits_or128 (n : Int) : Go.bits .or .u8 (n % 256) 128 = n % 128 + 128 := by
  rw [u8_or _ _ (by omega) (by omega) (by omega) (by omega), show ((128 : Int)).toNat = 128 from rfl, or128 _ (by omega)]
  omega

theorem put_loop : ∀ (d k : Nat) (n : Int) (acc : List Int), 0 ≤ n → n < 128 ^ (d + 1) → d < k → acc.length + d < 1000 → leb_Put.l0 k n acc = some (acc ++ putN d n)
  | 0, k, n, acc, h0, h1, hk, ha => by
    obtain ⟨k, rfl⟩ : ∃ m, k = m + 1 := ⟨k - 1, by omega⟩
    have h1' : n < 128 := by simpa using h1
    simp only [leb_Put.l0, putN]
    rw [if_neg (by omega), if_pos (by omega), show n % 256 = n by omega]
  | d + 1, k, n, acc, h0, h1, hk, ha => by
    obtain ⟨k, rfl⟩ : ∃ m, k = m + 1 := ⟨k - 1, by omega⟩
    simp only [leb_Put.l0]
    conv => rhs; unfold putN
    by_cases hn : n ≥ 128
    · rw [if_pos hn, if_pos hn, if_pos (by omega), bits_or128 n, put_loop d k (n / 128) _ (by omega) (by rw [Int.pow_succ] at h1; omega) (by omega) (by simp; omega)]
      simp
    · rw [if_neg hn, if_neg hn, if_pos (by omega), show n % 256 = n by omega]

theorem put_ev {n : Int} (h0 : 0 ≤ n) (h1 : n < 18446744073709551616) : Ev (fun k => leb_Put.f k n) (putN 9 n) :=
  ⟨11, fun k hk => by show leb_Put.f k n = _; unfold leb_Put.f; rw [put_loop 9 k n _ h0 (by omega) (by omega) (by simp)]; simp⟩

theorem rput_loop : ∀ (d k : Nat) (n : Int) (acc : List Int), 0 ≤ n → n < 128 ^ (d + 1) → n < 18446744073709551616 → d < k → acc.length + d < 1000 → warrantorref01_Put.l0 k n acc = some (acc ++ putN d n)
  | 0, k, n, acc, h0, h1, h2, hk, ha => by
    obtain ⟨k, rfl⟩ : ∃ m, k = m + 1 := ⟨k - 1, by omega⟩
    have h1' : n < 128 := by simpa using h1
    simp only [warrantorref01_Put.l0, putN]
    rw [if_neg (by omega), if_pos (by omega), show n % 256 = n by omega]
  | d + 1, k, n, acc, h0, h1, h2, hk, ha => by
    obtain ⟨k, rfl⟩ : ∃ m, k = m + 1 := ⟨k - 1, by omega⟩
    simp only [warrantorref01_Put.l0]
    conv => rhs; unfold putN
    by_cases hn : n ≥ 128
    · have e1 : (IntKind.u64.wrap (Int.tdiv n 128)) = n / 128 := by rw [Int.tdiv_eq_ediv_of_nonneg h0, IntKind.wrap_u64]; omega
      have e2 : (IntKind.u64.wrap (Int.tmod n 128 + 128)) % 256 = n % 128 + 128 := by rw [Int.tmod_eq_emod_of_nonneg h0, IntKind.wrap_u64]; omega
      rw [if_pos hn, if_pos hn, if_pos (by omega), e1, e2, rput_loop d k (n / 128) _ (by omega) (by rw [Int.pow_succ] at h1; omega) (by omega) (by omega) (by simp; omega)]
      simp
    · rw [if_neg hn, if_neg hn, if_pos (by omega), show n % 256 = n by omega]

theorem rput_ev {n : Int} (h0 : 0 ≤ n) (h1 : n < 18446744073709551616) : Ev (fun k => warrantorref01_Put.f k n) (putN 9 n) :=
  ⟨11, fun k hk => by show warrantorref01_Put.f k n = _; unfold warrantorref01_Put.f; rw [rput_loop 9 k n _ h0 (by omega) h1 (by omega) (by simp)]; simp⟩

theorem wrap_id {n : Int} (h0 : -1000000 ≤ n) (h1 : n ≤ 140737488355328) : wrap64 n = n := by unfold wrap64; omega

theorem size_loop : ∀ (d k : Nat) (n c : Int), 0 ≤ n → n < 128 ^ (d + 1) → d < k → 0 ≤ c → c + d < 1000 → leb_Size.l0 k (n / 128) c = some (c - 1 + (putN d n).length)
  | 0, k, n, c, h0, h1, hk, hc, hd => by
    obtain ⟨k, rfl⟩ : ∃ m, k = m + 1 := ⟨k - 1, by omega⟩
    have h1' : n < 128 := by simpa using h1
    simp only [leb_Size.l0, putN]
    rw [if_neg (by omega)]
    simp
  | d + 1, k, n, c, h0, h1, hk, hc, hd => by
    obtain ⟨k, rfl⟩ : ∃ m, k = m + 1 := ⟨k - 1, by omega⟩
    simp only [leb_Size.l0]
    conv => rhs; unfold putN
    by_cases hn : n ≥ 128
    · rw [if_pos (by omega), if_pos hn, wrap_id (by omega) (by omega), size_loop d k (n / 128) (c + 1) (by omega) (by rw [Int.pow_succ] at h1; omega) (by omega) (by omega) (by omega)]
      simp only [List.length_cons, Option.some.injEq, Int.natCast_add, Int.natCast_one]
      omega
    · rw [if_neg (by omega), if_neg hn]; simp

theorem size_ev {n : Int} (h0 : 0 ≤ n) (h1 : n < 18446744073709551616) : Ev (fun k => leb_Size.f k n) ((putN 9 n).length : Int) :=
  ⟨11, fun k hk => by show leb_Size.f k n = _; unfold leb_Size.f; rw [size_loop 9 k n 1 h0 (by omega) (by omega) (by omega) (by omega)]; simp⟩

theorem rd_at (pre r : List Int) (x : Int) : rd (pre ++ x :: r) (pre.length : Int) = x := by simp [rd]

theorem part_eq {i : Nat} {x : Int} (hi : i ≤ 9) (h0 : 0 ≤ x) (h1 : x < 256) (h9 : i = 9 → x ≤ 1) :
    shl .u64 (IntKind.u64.wrap (Go.bits .andNot .u8 x 128)) (7 * (i : Int)) = 128 ^ i * (x % 128) ∧ 128 ^ i * (x % 128) < 18446744073709551616 := by
  have e1 : Go.bits .andNot .u8 x 128 = x % 128 := by
    rw [u8_andNot _ _ h0 h1 (by omega) (by omega), show (255 - ((128 : Int)).toNat) = 127 from rfl, nat_mask7]; omega
  have hb : 128 ^ i * (x % 128) < 18446744073709551616 := by
    rcases Nat.lt_or_ge i 9 with h | h
    · have h3 : (128 : Int) ^ i ≤ 128 ^ 8 := by exact_mod_cast Nat.pow_le_pow_right (by omega : 0 < 128) (by omega : i ≤ 8)
      have h4 : (128 : Int) ^ i * (x % 128) ≤ 128 ^ 8 * (x % 128) := Int.mul_le_mul_of_nonneg_right h3 (by omega)
      omega
    · have e9 : i = 9 := by omega
      have := h9 e9
      subst e9; omega
  refine ⟨?_, hb⟩
  have e2 : IntKind.u64.wrap (x % 128) = x % 128 := by rw [IntKind.wrap_u64]; omega
  have e3 : min (7 * (i : Int)).toNat (IntKind.bits .u64) = 7 * i := by
    have : IntKind.bits .u64 = 64 := rfl
    rw [this]; omega
  unfold shl
  rw [e1, e2, e3, Int.pow_mul, show ((2 : Int) ^ 7) = 128 from rfl, Int.mul_comm, IntKind.wrap_u64]
  have : 0 ≤ 128 ^ i * (x % 128) := Int.mul_nonneg (Int.pow_nonneg (by omega)) (by omega)
  exact Int.emod_eq_of_lt this hb

theorem or_eq {i : Nat} {n y : Int} (hn0 : 0 ≤ n) (hn : n < 128 ^ i) (hy : 0 ≤ y) (hb : 128 ^ i * y < 18446744073709551616) (hi : i ≤ 9) : Go.bits .or .u64 n (128 ^ i * y) = n + 128 ^ i * y := by
  have hs : 0 ≤ 128 ^ i * y := Int.mul_nonneg (Int.pow_nonneg (by omega)) hy
  have hn2 : n < 18446744073709551616 := by
    have h3 : (128 : Int) ^ i ≤ 128 ^ 9 := by exact_mod_cast Nat.pow_le_pow_right (by omega : 0 < 128) hi
    omega
  rw [u64_or _ _ hn0 hn2 hs hb, Nat.or_comm]
  have e2 : (128 ^ i * y).toNat = 128 ^ i * y.toNat := by
    rw [Int.toNat_mul (Int.pow_nonneg (by omega)) hy, Int.toNat_pow_of_nonneg (by omega)]; rfl
  have e3 : (128 : Nat) ^ i = 2 ^ (7 * i) := by rw [Nat.pow_mul]
  rw [nat_join (7 * i)]
  · omega
  · rw [e2, e3]; exact Nat.mul_mod_right _ _
  · rw [← e3]
    have : ((n.toNat : Nat) : Int) < ((128 ^ i : Nat) : Int) := by rw [Int.toNat_of_nonneg hn0]; exact_mod_cast hn
    exact_mod_cast this

theorem get_loop (l : List Int) (hb : ∀ x ∈ l, 0 ≤ x ∧ x < 256) : ∀ (r pre : List Int) (k : Nat) (n : Int), l = pre ++ r → pre.length ≤ 9 → 0 ≤ n → n < 128 ^ pre.length → 2 * r.length < k →
    leb_Get.l0 k n l (l.length : Int) (pre.length : Int) = some (getS r pre.length (128 ^ pre.length) n)
  | [], pre, k, n, hl, hi, hn0, hn, hk => by
    obtain ⟨k, rfl⟩ : ∃ m, k = m + 1 := ⟨k - 1, by omega⟩
    subst hl
    simp only [leb_Get.l0, getS]
    rw [if_neg (by simp)]
  | x :: r, pre, k, n, hl, hi, hn0, hn, hk => by
    obtain ⟨k, rfl⟩ : ∃ m, k = m + 2 := ⟨k - 2, by simp at hk; omega⟩
    have hx := hb x (by rw [hl]; simp)
    have hlen : (l.length : Int) = pre.length + r.length + 1 := by rw [hl]; simp; omega
    have hrd : rd l (pre.length : Int) = x := by rw [hl]; exact rd_at pre r x
    have step : leb_Get.l0 (k + 2) n l (l.length : Int) (pre.length : Int) = leb_Get.j1 (k + 1) n (pre.length : Int) x l (l.length : Int) (pre.length : Int) (decide ((pre.length = 9 ∧ x > 1) ∨ (pre.length > 0 ∧ x = 0))) := by
      simp only [leb_Get.l0]
      rw [if_pos (by omega), if_pos (by omega), if_pos (by omega), hrd]
      by_cases h9 : pre.length = 9
      · rw [if_pos (by omega)]
        by_cases h1 : x > 1
        · rw [if_pos h1]; congr 1; simp [h9, h1]
        · rw [if_neg h1, if_pos (by omega)]; congr 1
          by_cases h0 : x = 0 <;> simp [h9, h1, h0]
      · rw [if_neg (by omega)]
        by_cases h0 : pre.length > 0
        · rw [if_pos (by omega)]; congr 1
          by_cases hx0 : x = 0
          · simp [hx0, h0]
          · simp [hx0, h9]
        · rw [if_neg (by omega)]; congr 1; simp [h9, h0]
    rw [step]
    simp only [leb_Get.j1, getS]
    by_cases hc : (pre.length = 9 ∧ x > 1) ∨ (pre.length > 0 ∧ x = 0)
    · rw [if_pos (by simpa using hc), if_pos hc]
    · have h9 : pre.length = 9 → x ≤ 1 := fun h => by
        rcases Int.lt_or_le 1 x with h2 | h2
        · exact absurd (.inl ⟨h, h2⟩) hc
        · exact h2
      rw [if_neg (by simpa using hc), if_neg hc, wrap_id (n := 7 * (pre.length : Int)) (by omega) (by omega), if_pos (by omega)]
      obtain ⟨e, hbd⟩ := part_eq hi hx.1 hx.2 h9
      rw [e, or_eq hn0 hn (by omega) hbd hi, wrap_id (n := (pre.length : Int) + 1) (by omega) (by omega)]
      by_cases hlt : x < 128
      · rw [if_pos hlt, if_pos hlt, show x % 128 = x by omega]
      · rw [if_neg hlt, if_neg hlt, show x % 128 = x - 128 by omega]
        have hi8 : pre.length ≤ 8 := by
          rcases Nat.lt_or_ge pre.length 9 with h | h
          · omega
          · have := h9 (by omega); omega
        have := get_loop l hb r (pre ++ [x]) k (n + 128 ^ pre.length * (x - 128)) (by rw [hl]; simp) (by simp; omega) (by have : (0 : Int) ≤ 128 ^ pre.length * (x - 128) := Int.mul_nonneg (Int.pow_nonneg (by omega)) (by omega); omega) (by
          rw [List.length_append, List.length_singleton, Int.pow_succ]
          have h4 : (128 : Int) ^ pre.length * (x - 128) ≤ 128 ^ pre.length * 127 := Int.mul_le_mul_of_nonneg_left (by omega) (Int.pow_nonneg (by omega))
          omega) (by simp at hk; omega)
        rw [List.length_append, List.length_singleton, Int.pow_succ] at this
        simpa using this

theorem get_ev {l : List Int} (hb : ∀ x ∈ l, 0 ≤ x ∧ x < 256) : Ev (fun k => leb_Get.f k l) (getS l 0 1 0) :=
  ⟨2 * l.length + 1, fun k hk => by
    show leb_Get.f k l = _
    unfold leb_Get.f
    have := get_loop l hb l [] k 0 rfl (by simp) (by omega) (by simp) (by omega)
    simpa using this⟩

theorem rget_loop (l : List Int) (hb : ∀ x ∈ l, 0 ≤ x ∧ x < 256) : ∀ (r pre : List Int) (k : Nat) (n : Int), l = pre ++ r → pre.length ≤ 9 → 0 ≤ n → n < 128 ^ pre.length → 2 * r.length < k →
    warrantorref01_Get.l0 k l n (128 ^ pre.length) (pre.length : Int) = some (getS r pre.length (128 ^ pre.length) n)
  | [], pre, k, n, hl, hi, hn0, hn, hk => by
    obtain ⟨k, rfl⟩ : ∃ m, k = m + 1 := ⟨k - 1, by omega⟩
    subst hl
    simp only [warrantorref01_Get.l0, getS]
    rw [if_neg (by simp)]
  | x :: r, pre, k, n, hl, hi, hn0, hn, hk => by
    obtain ⟨k, rfl⟩ : ∃ m, k = m + 2 := ⟨k - 2, by simp at hk; omega⟩
    have hx := hb x (by rw [hl]; simp)
    have hlen : (l.length : Int) = pre.length + r.length + 1 := by rw [hl]; simp; omega
    have hrd : IntKind.u64.wrap (rd l (pre.length : Int)) = x := by rw [hl, rd_at pre r x, IntKind.wrap_u64]; omega
    have step : warrantorref01_Get.l0 (k + 2) l n (128 ^ pre.length) (pre.length : Int) = warrantorref01_Get.j1 (k + 1) l n (128 ^ pre.length) (pre.length : Int) x (decide ((pre.length = 9 ∧ x > 1) ∨ (pre.length > 0 ∧ x = 0))) := by
      simp only [warrantorref01_Get.l0]
      rw [if_pos (by omega), if_pos (by omega), hrd]
      by_cases h9 : pre.length = 9
      · rw [if_pos (by omega)]
        by_cases h1 : x > 1
        · rw [if_pos h1]; congr 1; simp [h9, h1]
        · rw [if_neg h1]
          by_cases h0 : x = 0
          · rw [if_pos h0]; congr 1; simp [h9, h0]
          · rw [if_neg h0]; congr 1; simp [h1, h0]
      · rw [if_neg (by omega)]
        by_cases h0 : x = 0
        · rw [if_pos h0]; congr 1; simp [h9, h0]
        · rw [if_neg h0]; congr 1; simp [h9, h0]
    rw [step]
    simp only [warrantorref01_Get.j1, getS]
    by_cases hc : (pre.length = 9 ∧ x > 1) ∨ (pre.length > 0 ∧ x = 0)
    · rw [if_pos (by simpa using hc), if_pos hc]
    · have h9 : pre.length = 9 → x ≤ 1 := fun h => by
        rcases Int.lt_or_le 1 x with h2 | h2
        · exact absurd (.inl ⟨h, h2⟩) hc
        · exact h2
      rw [if_neg (by simpa using hc), if_neg hc]
      obtain ⟨-, hbd⟩ := part_eq hi hx.1 hx.2 h9
      have hpp : (0 : Int) ≤ 128 ^ pre.length * (x % 128) := Int.mul_nonneg (Int.pow_nonneg (by omega)) (by omega)
      have hsum : n + 128 ^ pre.length * (x % 128) < 18446744073709551616 := by
        rcases Nat.lt_or_ge pre.length 9 with h | h
        · have h3 : (128 : Int) ^ pre.length ≤ 128 ^ 8 := by exact_mod_cast Nat.pow_le_pow_right (by omega : 0 < 128) (by omega : pre.length ≤ 8)
          have h4 : (128 : Int) ^ pre.length * (x % 128) ≤ 128 ^ 8 * (x % 128) := Int.mul_le_mul_of_nonneg_right h3 (by omega)
          omega
        · have e9 : pre.length = 9 := by omega
          have := h9 e9
          rw [e9] at hn ⊢
          omega
      have e1 : IntKind.u64.wrap (n + IntKind.u64.wrap (128 ^ pre.length * Int.tmod x 128)) = n + 128 ^ pre.length * (x % 128) := by
        rw [Int.tmod_eq_emod_of_nonneg hx.1, IntKind.wrap_u64, IntKind.wrap_u64, Int.emod_eq_of_lt hpp hbd, Int.emod_eq_of_lt (by omega) hsum]
      rw [e1, wrap_id (n := (pre.length : Int) + 1) (by omega) (by omega)]
      by_cases hlt : x < 128
      · rw [if_pos hlt, if_pos hlt, show x % 128 = x by omega]
      · rw [if_neg hlt, if_neg hlt, show x % 128 = x - 128 by omega]
        have hi8 : pre.length ≤ 8 := by
          rcases Nat.lt_or_ge pre.length 9 with h | h
          · omega
          · have := h9 (by omega); omega
        have e2 : IntKind.u64.wrap (128 ^ pre.length * 128) = 128 ^ (pre.length + 1) := by
          rw [← Int.pow_succ, IntKind.wrap_u64]
          have h3 : (128 : Int) ^ (pre.length + 1) ≤ 128 ^ 9 := by exact_mod_cast Nat.pow_le_pow_right (by omega : 0 < 128) (by omega : pre.length + 1 ≤ 9)
          exact Int.emod_eq_of_lt (Int.pow_nonneg (by omega)) (by omega)
        rw [e2]
        have := rget_loop l hb r (pre ++ [x]) k (n + 128 ^ pre.length * (x - 128)) (by rw [hl]; simp) (by simp; omega) (by have : (0 : Int) ≤ 128 ^ pre.length * (x - 128) := Int.mul_nonneg (Int.pow_nonneg (by omega)) (by omega); omega) (by
          rw [List.length_append, List.length_singleton, Int.pow_succ]
          have h4 : (128 : Int) ^ pre.length * (x - 128) ≤ 128 ^ pre.length * 127 := Int.mul_le_mul_of_nonneg_left (by omega) (Int.pow_nonneg (by omega))
          omega) (by simp at hk; omega)
        rw [List.length_append, List.length_singleton] at this
        rw [Int.pow_succ] at this ⊢
        simpa using this

theorem rget_ev {l : List Int} (hb : ∀ x ∈ l, 0 ≤ x ∧ x < 256) : Ev (fun k => warrantorref01_Get.f k l) (getS l 0 1 0) :=
  ⟨2 * l.length + 1, fun k hk => by
    show warrantorref01_Get.f k l = _
    unfold warrantorref01_Get.f
    have := rget_loop l hb l [] k 0 rfl (by simp) (by omega) (by simp) (by omega)
    simpa using this⟩

theorem lives_ev : Ev (fun k => warrantorlaw01_lives.f k) true :=
  Ev.of (fun k => warrantorlaw01_lives.mono k) (k := 40) (by decide +kernel)

theorem bytes_of {l : List Int} (h : ∀ x ∈ l, (Lit.int .u8 x).wf = true) : ∀ x ∈ l, 0 ≤ x ∧ x < 256 := fun x hx => by
  have := h x hx
  simp only [Lit.wf, Bool.and_eq_true, decide_eq_true_eq] at this
  have h1 : IntKind.u8.min = 0 := rfl
  have h2 : IntKind.u8.max = 255 := rfl
  omega
theorem u64_of {n : Int} (h : (Lit.int .u64 n).wf = true) : 0 ≤ n ∧ n < 18446744073709551616 := by
  simp only [Lit.wf, Bool.and_eq_true, decide_eq_true_eq] at h
  have h1 : IntKind.u64.min = 0 := rfl
  have h2 : IntKind.u64.max = 18446744073709551615 := rfl
  omega
theorem i64_of {n : Int} (h : (Lit.int .i64 n).wf = true) : -9223372036854775808 ≤ n ∧ n < 9223372036854775808 := by
  simp only [Lit.wf, Bool.and_eq_true, decide_eq_true_eq] at h
  have h1 : IntKind.i64.min = -9223372036854775808 := rfl
  have h2 : IntKind.i64.max = 9223372036854775807 := rfl
  omega
end Go.Proofs.Ytckfkbhikdoelaa.Bridge
