/- What the functions of layer 3, as the print tells them, come to: the plain mathematics of the text Math. -/
import Derived.Test.YtkofkhdoeeldjaaMath
import Derived.Test.YtkofkhdoeeldjaaPAllx
set_option linter.unusedVariables false
set_option linter.unusedSimpArgs false
namespace Go.Proofs.Ytkofkhdoeeldjaa.Bridge
open Go Go.RowKit Go.Proofs.Ytkofkhdoeeldjaa.PAll Go.Proofs.YtkofkhdoeeldjaaW.PrintWords Go.Proofs.YtkofkhdoeeldjaaW.PrintLast Go.Proofs.YtkofkhdoeeldjaaW.PrintMore
open Go.Proofs.Ytkofkhdoeeldjaa

/-- bytes as numbers -/
def nats (l : List Int) : List Nat := l.map Int.toNat

theorem nats_lt {l : List Int} (h : ∀ x ∈ l, 0 ≤ x ∧ x < 256) : ∀ x ∈ nats l, x < 256 := by
  intro x hx
  obtain ⟨y, hy, rfl⟩ := List.mem_map.1 hx
  have := h y hy; omega

theorem xor_neg {c : Int} (h0 : 0 ≤ c) (h1 : c < 4294967296) : Go.bits .xor .u32 4294967295 c = ((CrcM.neg c.toNat : Nat) : Int) := by
  rw [u32_xor _ _ (by omega) (by omega) h0 h1, show ((4294967295 : Int)).toNat = 4294967295 from rfl, ← CrcM.neg_xor (show c.toNat < 4294967296 by omega)]

theorem neg_lt {c : Nat} : CrcM.neg c < 4294967296 := by unfold CrcM.neg; omega
theorem neg_neg {c : Nat} (h : c < 4294967296) : CrcM.neg (CrcM.neg c) = c := by unfold CrcM.neg; omega

theorem rd_at (pre r : List Int) (x : Int) : rd (pre ++ x :: r) (pre.length : Int) = x := by simp [rd]
theorem step_w {n : Nat} (h : n ≤ 140737488355328) : wrap64 ((n : Int) + 1) = ((n + 1 : Nat) : Int) := by unfold wrap64; omega

theorem more_loop (l : List Int) (hb : ∀ x ∈ l, 0 ≤ x ∧ x < 256) (hl : l.length ≤ 140737488355328) : ∀ (r pre : List Int) (k c : Nat), l = pre ++ r → c < 4294967296 → r.length + 9 < k →
    crc_More.l0 k (c : Int) l (l.length : Int) (pre.length : Int) = some ((CrcM.neg (CrcM.fold c (nats r)) : Nat) : Int)
  | [], pre, k, c, he, hc, hk => by
    obtain ⟨k, rfl⟩ : ∃ m, k = m + 1 := ⟨k - 1, by omega⟩
    subst he
    simp only [crc_More.l0, nats, List.map_nil, CrcM.fold]
    rw [if_neg (by simp), xor_neg (by omega) (by omega), Int.toNat_natCast]
  | x :: r, pre, k, c, he, hc, hk => by
    obtain ⟨k, rfl⟩ : ∃ m, k = m + 1 := ⟨k - 1, by omega⟩
    have hx := hb x (by rw [he]; simp)
    have hlen : (l.length : Int) = pre.length + r.length + 1 := by rw [he]; simp; omega
    have hrd : rd l (pre.length : Int) = x := by rw [he]; exact rd_at pre r x
    have hxl : c ^^^ x.toNat < 4294967296 := Nat.xor_lt_two_pow (n := 32) hc (by omega)
    have hxor : Go.bits .xor .u32 (c : Int) (x % 4294967296) = ((c ^^^ x.toNat : Nat) : Int) := by
      rw [show x % 4294967296 = ((x.toNat : Nat) : Int) by omega]
      exact u32_xor_nat _ _ hc (by omega)
    simp only [crc_More.l0]
    rw [if_pos (by omega), if_pos (by omega), if_pos (by omega), hrd, hxor]
    have hbits : crc_bits.f k ((c ^^^ x.toNat : Nat) : Int) 8 = some ((CrcM.steps 8 (c ^^^ x.toNat) : Nat) : Int) := by
      unfold crc_bits.f
      exact crc_bits_loop 8 k _ 0 hxl (by omega) (by omega) (by simp at hk; omega)
    rw [hbits, Option.bind_some, step_w (by omega)]
    have := more_loop l hb hl r (pre ++ [x]) k (CrcM.steps 8 (c ^^^ x.toNat)) (by rw [he]; simp) (CrcM.steps_lt 8 hxl) (by simp at hk; omega)
    rw [List.length_append, List.length_singleton] at this
    rw [this]
    rfl

theorem more_ev {l : List Int} (hb : ∀ x ∈ l, 0 ≤ x ∧ x < 256) (hl : l.length ≤ 140737488355328) {s : Int} (h0 : 0 ≤ s) (h1 : s < 4294967296) : ∀ k, l.length + 9 < k → crc_More.f k s l = some ((CrcM.more s.toNat (nats l) : Nat) : Int) := by
  intro k hk
  unfold crc_More.f
  rw [xor_neg h0 h1]
  exact more_loop l hb hl l [] k _ rfl neg_lt hk

theorem sum_ev {l : List Int} (hb : ∀ x ∈ l, 0 ≤ x ∧ x < 256) (hl : l.length ≤ 140737488355328) : ∀ k, l.length + 9 < k → crc_Sum.f k l = some ((CrcM.sum (nats l) : Nat) : Int) := by
  intro k hk
  unfold crc_Sum.f
  rw [more_ev hb hl (by omega) (by omega) k hk]
  rfl

theorem rbit_eq {c x : Nat} (hc : c < 4294967296) : warrantorref03_bit.f (c : Int) (x : Int) = some ((CrcM.rbit c x : Nat) : Int) := by
  unfold warrantorref03_bit.f CrcM.rbit
  rw [Int.tmod_eq_emod_of_nonneg (by omega), Int.tmod_eq_emod_of_nonneg (by omega), Int.tdiv_eq_ediv_of_nonneg (by omega), show ((c : Int) / 2) % 4294967296 = ((c / 2 : Nat) : Int) by omega]
  by_cases h : c % 2 = x % 2
  · rw [if_pos (by omega), if_pos h]; simp
  · rw [if_neg (by omega), if_neg h]
    have := u32_xor_nat (c / 2) 2197175160 (by omega) (by omega)
    exact congrArg some this

theorem rbit_lt {c x : Nat} (hc : c < 4294967296) : CrcM.rbit c x < 4294967296 := by
  unfold CrcM.rbit CrcM.T
  exact Nat.xor_lt_two_pow (n := 32) (by omega) (by split <;> omega)

theorem take_loop : ∀ (d k c x : Nat) (i : Int), c < 4294967296 → x < 4294967296 → 0 ≤ i → i + d = 8 → d < k → warrantorref03_take.l0 k (c : Int) (x : Int) i = some ((CrcM.rbits d c x : Nat) : Int)
  | 0, k, c, x, i, hc, hx, h0, h1, hk => by
    obtain ⟨k, rfl⟩ : ∃ m, k = m + 1 := ⟨k - 1, by omega⟩
    simp only [warrantorref03_take.l0]
    rw [if_neg (by omega)]; rfl
  | d + 1, k, c, x, i, hc, hx, h0, h1, hk => by
    obtain ⟨k, rfl⟩ : ∃ m, k = m + 1 := ⟨k - 1, by omega⟩
    simp only [warrantorref03_take.l0]
    rw [if_pos (by omega), rbit_eq hc, Option.bind_some, Int.tdiv_eq_ediv_of_nonneg (by omega), show ((x : Int) / 2) % 4294967296 = ((x / 2 : Nat) : Int) by omega, show wrap64 (i + 1) = i + 1 by unfold wrap64; omega]
    exact take_loop d k _ _ (i + 1) (rbit_lt hc) (by omega) (by omega) (by omega) (by omega)

theorem rmore_loop (l : List Int) (hb : ∀ x ∈ l, 0 ≤ x ∧ x < 256) (hl : l.length ≤ 140737488355328) : ∀ (r pre : List Int) (k c : Nat), l = pre ++ r → c < 4294967296 → r.length + 9 < k →
    warrantorref03_More.l0 k l (c : Int) (pre.length : Int) = some ((CrcM.neg (CrcM.fold c (nats r)) : Nat) : Int)
  | [], pre, k, c, he, hc, hk => by
    obtain ⟨k, rfl⟩ : ∃ m, k = m + 1 := ⟨k - 1, by omega⟩
    subst he
    simp only [warrantorref03_More.l0, nats, List.map_nil, CrcM.fold]
    rw [if_neg (by simp), Option.some.injEq]
    unfold CrcM.neg
    omega
  | x :: r, pre, k, c, he, hc, hk => by
    obtain ⟨k, rfl⟩ : ∃ m, k = m + 1 := ⟨k - 1, by omega⟩
    have hx := hb x (by rw [he]; simp)
    have hlen : (l.length : Int) = pre.length + r.length + 1 := by rw [he]; simp; omega
    have hrd : rd l (pre.length : Int) = x := by rw [he]; exact rd_at pre r x
    have hxl : c ^^^ x.toNat < 4294967296 := Nat.xor_lt_two_pow (n := 32) hc (by omega)
    simp only [warrantorref03_More.l0]
    rw [if_pos (by omega), if_pos (by omega), hrd]
    have htake : warrantorref03_take.f k (c : Int) x = some ((CrcM.steps 8 (c ^^^ x.toNat) : Nat) : Int) := by
      unfold warrantorref03_take.f
      rw [show x % 4294967296 = ((x.toNat : Nat) : Int) by omega, take_loop 8 k c x.toNat 0 hc (by omega) (by omega) (by omega) (by simp at hk; omega), CrcM.take_eq (by omega)]
    rw [htake, Option.bind_some, step_w (by omega)]
    have := rmore_loop l hb hl r (pre ++ [x]) k (CrcM.steps 8 (c ^^^ x.toNat)) (by rw [he]; simp) (CrcM.steps_lt 8 hxl) (by simp at hk; omega)
    rw [List.length_append, List.length_singleton] at this
    rw [this]
    rfl

theorem rmore_ev {l : List Int} (hb : ∀ x ∈ l, 0 ≤ x ∧ x < 256) (hl : l.length ≤ 140737488355328) {s : Int} (h0 : 0 ≤ s) (h1 : s < 4294967296) : ∀ k, l.length + 9 < k → warrantorref03_More.f k s l = some ((CrcM.more s.toNat (nats l) : Nat) : Int) := by
  intro k hk
  unfold warrantorref03_More.f
  rw [show (4294967295 - s) % 4294967296 = ((CrcM.neg s.toNat : Nat) : Int) by unfold CrcM.neg; omega]
  exact rmore_loop l hb hl l [] k _ rfl neg_lt hk

theorem rsum_ev {l : List Int} (hb : ∀ x ∈ l, 0 ≤ x ∧ x < 256) (hl : l.length ≤ 140737488355328) : ∀ k, l.length + 9 < k → warrantorref03_Sum.f k l = some ((CrcM.sum (nats l) : Nat) : Int) := by
  intro k hk
  unfold warrantorref03_Sum.f
  rw [rmore_ev hb hl (by omega) (by omega) k hk]
  rfl

theorem more_lt (s : Nat) (l : List Nat) : CrcM.more s l < 4294967296 := neg_lt

theorem zeros_f {c n : Int} (h0 : 0 ≤ c) (h1 : c < 4294967296) (h2 : -9223372036854775808 ≤ n) (h3 : n < 9223372036854775808) : crc_zeros.f c n = some ((CrcM.steps (8 * n.toNat) c.toNat : Nat) : Int) := by
  unfold crc_zeros.f
  rw [if_pos ⟨h0, h1, h2, h3⟩]

theorem Zeros_f {c n : Int} (h0 : 0 ≤ c) (h1 : c < 4294967296) (h2 : -9223372036854775808 ≤ n) (h3 : n < 9223372036854775808) : crc_Zeros.f c n = some ((CrcM.neg (CrcM.steps (8 * n.toNat) (CrcM.neg c.toNat)) : Nat) : Int) := by
  unfold crc_Zeros.f
  rw [xor_neg h0 h1, zeros_f (by omega) (by have := @neg_lt c.toNat; omega) h2 h3, Option.bind_some, xor_neg (by omega) (by have := CrcM.steps_lt (8 * n.toNat) (@neg_lt c.toNat); rw [Int.toNat_natCast]; omega)]
  simp only [Int.toNat_natCast]

theorem Join_f {a b n : Int} (h0 : 0 ≤ a) (h1 : a < 4294967296) (g0 : 0 ≤ b) (g1 : b < 4294967296) (h2 : -9223372036854775808 ≤ n) (h3 : n < 9223372036854775808) : crc_Join.f a b n = some ((CrcM.steps (8 * n.toNat) a.toNat ^^^ b.toNat : Nat) : Int) := by
  unfold crc_Join.f
  rw [zeros_f h0 h1 h2 h3, Option.bind_some]
  have := u32_xor_nat (CrcM.steps (8 * n.toNat) a.toNat) b.toNat (CrcM.steps_lt _ (by omega)) (by omega)
  rw [Int.toNat_of_nonneg g0] at this
  rw [this]

theorem bytes_of {l : List Int} (h : ∀ x ∈ l, (Lit.int .u8 x).wf = true) : ∀ x ∈ l, 0 ≤ x ∧ x < 256 := fun x hx => by
  have := h x hx
  simp only [Lit.wf, Bool.and_eq_true, decide_eq_true_eq] at this
  have h1 : IntKind.u8.min = 0 := rfl
  have h2 : IntKind.u8.max = 255 := rfl
  omega
theorem u32_of {n : Int} (h : (Lit.int .u32 n).wf = true) : 0 ≤ n ∧ n < 4294967296 := by
  simp only [Lit.wf, Bool.and_eq_true, decide_eq_true_eq] at h
  have h1 : IntKind.u32.min = 0 := rfl
  have h2 : IntKind.u32.max = 4294967295 := rfl
  omega
theorem i64_of {n : Int} (h : (Lit.int .i64 n).wf = true) : -9223372036854775808 ≤ n ∧ n < 9223372036854775808 := by
  simp only [Lit.wf, Bool.and_eq_true, decide_eq_true_eq] at h
  have h1 : IntKind.i64.min = -9223372036854775808 := rfl
  have h2 : IntKind.i64.max = 9223372036854775807 := rfl
  omega
end Go.Proofs.Ytkofkhdoeeldjaa.Bridge
