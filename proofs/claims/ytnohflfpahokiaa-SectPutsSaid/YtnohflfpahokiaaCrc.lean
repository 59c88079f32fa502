/- Plain mathematics of sums of bytes (a register of 32 bits): no program in sight. -/
import Derived.Test.YtnohflfpahokiaaPAllx
import Derived.Laws.BitsAllLaws
namespace Go.Proofs.Ytnohflfpahokiaa.CrcM

/-- the polynomial -/
def T : Nat := 2197175160

/-- one step of the register -/
def step (c : Nat) : Nat := (c / 2) ^^^ (if c % 2 = 1 then T else 0)

theorem step_lt {c : Nat} (h : c < 4294967296) : step c < 4294967296 := by
  unfold step T
  have : c / 2 < 2 ^ 32 := by omega
  split
  · exact Nat.xor_lt_two_pow (n := 32) this (by omega)
  · simpa using (by omega : c / 2 < 4294967296)

theorem xor_div2 (a b : Nat) : (a ^^^ b) / 2 = a / 2 ^^^ b / 2 := by
  have := Nat.xor_div_two_pow (a := a) (b := b) (n := 1)
  simpa using this

theorem xor_mod2 (a b : Nat) : (a ^^^ b) % 2 = (a % 2 + b % 2) % 2 := by
  have := Nat.xor_mod_two_eq_one (a := a) (b := b)
  omega

theorem step_xor (a b : Nat) : step (a ^^^ b) = step a ^^^ step b := by
  unfold step
  rw [xor_div2, xor_mod2]
  rcases Nat.mod_two_eq_zero_or_one a with ha | ha <;> rcases Nat.mod_two_eq_zero_or_one b with hb | hb <;> simp [ha, hb]
  · rw [Nat.xor_assoc]
  · rw [Nat.xor_assoc, Nat.xor_assoc, Nat.xor_comm T]
  · have : a / 2 ^^^ T ^^^ (b / 2 ^^^ T) = a / 2 ^^^ b / 2 ^^^ (T ^^^ T) := by
      rw [Nat.xor_assoc, Nat.xor_assoc]; congr 1; rw [← Nat.xor_assoc, Nat.xor_comm T, Nat.xor_assoc]
    rw [this]; simp

theorem step_zero : step 0 = 0 := by decide

theorem step_inj {c : Nat} (hc : c < 4294967296) (h : step c = 0) : c = 0 := by
  unfold step at h
  rcases Nat.mod_two_eq_zero_or_one c with hp | hp
  · simp [hp] at h; omega
  · simp [hp] at h
    have h2 : c / 2 = T := by
      have : (c / 2 ^^^ T) ^^^ T = 0 ^^^ T := by rw [h]
      rw [Nat.xor_assoc] at this; simpa using this
    unfold T at h2; omega

/-- n steps -/
def steps : Nat → Nat → Nat
  | 0, c => c
  | n + 1, c => steps n (step c)

theorem steps_add (m n c : Nat) : steps (m + n) c = steps n (steps m c) := by
  induction m generalizing c with
  | zero => simp [steps]
  | succ m ih => rw [Nat.succ_add]; simp only [steps]; exact ih _

theorem steps_succ' (n c : Nat) : steps (n + 1) c = step (steps n c) := by
  rw [steps_add n 1 c]; rfl

theorem steps_lt (n : Nat) : ∀ {c : Nat}, c < 4294967296 → steps n c < 4294967296 := by
  induction n with
  | zero => intro c h; exact h
  | succ n ih => intro c h; exact ih (step_lt h)

theorem steps_xor (n : Nat) : ∀ a b, steps n (a ^^^ b) = steps n a ^^^ steps n b := by
  induction n with
  | zero => intro a b; rfl
  | succ n ih => intro a b; simp only [steps]; rw [step_xor, ih]

theorem steps_zero (n : Nat) : steps n 0 = 0 := by
  induction n with
  | zero => rfl
  | succ n ih => simp only [steps]; rw [step_zero]; exact ih

theorem steps_inj (n : Nat) : ∀ {c : Nat}, c < 4294967296 → steps n c = 0 → c = 0 := by
  induction n with
  | zero => intro c _ h; exact h
  | succ n ih => intro c hc h; exact step_inj hc (ih (step_lt hc) h)

/-- the document's register behind a bit -/
def rbit (c x : Nat) : Nat := (c / 2) ^^^ (if c % 2 = x % 2 then 0 else T)

/-- behind n bits -/
def rbits : Nat → Nat → Nat → Nat
  | 0, c, _ => c
  | n + 1, c, x => rbits n (rbit c x) (x / 2)

theorem rbit_step (c x : Nat) : step (c ^^^ x) = rbit c x ^^^ x / 2 := by
  unfold step rbit
  rw [xor_div2, xor_mod2]
  have e : (if (c % 2 + x % 2) % 2 = 1 then T else 0) = if c % 2 = x % 2 then 0 else T := by
    split <;> split <;> first | rfl | omega
  rw [e, Nat.xor_assoc, Nat.xor_assoc, Nat.xor_comm (x / 2)]

theorem rbits_steps (n : Nat) : ∀ c x, steps n (c ^^^ x) = rbits n c x ^^^ x / 2 ^ n := by
  induction n with
  | zero => intro c x; simp [steps, rbits]
  | succ n ih =>
    intro c x
    simp only [steps, rbits]
    rw [rbit_step, ih, Nat.div_div_eq_div_mul, Nat.pow_succ, Nat.mul_comm 2]

theorem take_eq {c x : Nat} (h : x < 256) : rbits 8 c x = steps 8 (c ^^^ x) := by
  rw [rbits_steps]; have : x / 2 ^ 8 = 0 := by omega
  rw [this]; simp

/-- the register behind bytes -/
def fold (c : Nat) : List Nat → Nat
  | [] => c
  | x :: l => fold (steps 8 (c ^^^ x)) l

theorem fold_append (c : Nat) (a b : List Nat) : fold c (a ++ b) = fold (fold c a) b := by
  induction a generalizing c with
  | nil => rfl
  | cons x a ih => simp only [List.cons_append, fold]; exact ih _

theorem fold_lt (l : List Nat) : ∀ {c : Nat}, c < 4294967296 → (∀ x ∈ l, x < 256) → fold c l < 4294967296 := by
  induction l with
  | nil => intro c h _; exact h
  | cons x l ih =>
    intro c h hl
    refine ih (steps_lt 8 ?_) (fun y hy => hl y (List.mem_cons_of_mem _ hy))
    have hx := hl x (List.mem_cons_self ..)
    exact Nat.xor_lt_two_pow (n := 32) h (by omega)

theorem fold_xor (l : List Nat) : ∀ c d, fold (c ^^^ d) l = fold c l ^^^ steps (8 * l.length) d := by
  induction l with
  | nil => intro c d; rfl
  | cons x l ih =>
    intro c d
    simp only [fold, List.length_cons]
    have : c ^^^ d ^^^ x = (c ^^^ x) ^^^ d := by rw [Nat.xor_assoc, Nat.xor_comm d, ← Nat.xor_assoc]
    rw [this, steps_xor, ih, Nat.mul_add, Nat.mul_one, Nat.add_comm (8 * l.length), steps_add]

theorem fold_zeros (n : Nat) : ∀ c, fold c (List.replicate n 0) = steps (8 * n) c := by
  induction n with
  | zero => intro c; rfl
  | succ n ih =>
    intro c
    simp only [List.replicate_succ, fold, Nat.xor_zero]
    rw [ih, Nat.mul_add, Nat.mul_one, Nat.add_comm (8 * n), steps_add]

/-- all bits turned -/
def neg (c : Nat) : Nat := 4294967295 - c

theorem neg_xor {c : Nat} (h : c < 4294967296) : neg c = 4294967295 ^^^ c := by
  have e : c = 4294967295 &&& c := by
    have : c &&& (2 ^ 32 - 1) = c % 2 ^ 32 := Nat.and_two_pow_sub_one_eq_mod c 32
    rw [Nat.and_comm]; have h2 : c % 2 ^ 32 = c := Nat.mod_eq_of_lt h
    simpa using (this.trans h2).symm
  apply Nat.eq_of_testBit_eq
  intro i
  have hn : neg c = 2 ^ 32 - (c + 1) := by unfold neg; omega
  rw [hn, Nat.testBit_two_pow_sub_succ h, Nat.testBit_xor]
  have h3 : Nat.testBit 4294967295 i = decide (i < 32) := by
    have := Nat.testBit_two_pow_sub_one 32 i
    simpa using this
  rw [h3]
  by_cases hi : i < 32
  · simp [hi]
  · have : c.testBit i = false := by
      apply Nat.testBit_lt_two_pow
      exact Nat.lt_of_lt_of_le (show c < 2 ^ 32 from h) (Nat.pow_le_pow_right (n := 2) (by omega) (show 32 ≤ i by omega))
    simp [hi, this]

def more (s : Nat) (l : List Nat) : Nat := neg (fold (neg s) l)
def sum (l : List Nat) : Nat := more 0 l


/-! bytes as one number: the first byte lowest -/
def val : List Nat → Nat
  | [] => 0
  | x :: l => x ^^^ (256 * val l)

theorem step_double (c : Nat) : step (2 * c) = c := by
  unfold step
  rw [if_neg (by omega), Nat.mul_div_cancel_left _ (by omega)]; simp

theorem steps_shift : ∀ (n c : Nat), steps n (2 ^ n * c) = c
  | 0, c => by simp [steps]
  | n + 1, c => by
    simp only [steps]
    rw [Nat.pow_succ, Nat.mul_comm (2 ^ n) 2, Nat.mul_assoc, step_double, steps_shift n c]

theorem fold_val : ∀ (l : List Nat) (c : Nat), fold c l = steps (8 * l.length) (c ^^^ val l)
  | [], c => by simp [fold, val, steps]
  | x :: l, c => by
    simp only [fold, val, List.length_cons]
    rw [fold_val l, Nat.mul_add, Nat.mul_one, Nat.add_comm (8 * l.length), steps_add, ← Nat.xor_assoc, steps_xor 8 (c ^^^ x) (256 * val l), show 256 * val l = 2 ^ 8 * val l from rfl, steps_shift 8]

/-- a burst: bytes that are the others with a number turned into them -/
theorem burst {l l' : List Nat} {c at_ t : Nat} (hlen : l'.length = l.length) (hv : val l' = val l ^^^ (2 ^ at_ * t)) (hat : at_ ≤ 8 * l.length) (ht : t < 4294967296) (h0 : t ≠ 0) : fold c l' ≠ fold c l := by
  intro h
  rw [fold_val, fold_val, hlen, hv, ← Nat.xor_assoc, steps_xor] at h
  have h1 : steps (8 * l.length) (2 ^ at_ * t) = 0 := by
    have h2 := congrArg (fun z => steps (8 * l.length) (c ^^^ val l) ^^^ z) h
    simp only [← Nat.xor_assoc, Nat.xor_self, Nat.zero_xor] at h2
    exact h2
  rw [show 8 * l.length = at_ + (8 * l.length - at_) by omega, steps_add, steps_shift] at h1
  exact h0 (steps_inj _ ht h1)

theorem mul_xor (k a b : Nat) : 2 ^ k * (a ^^^ b) = 2 ^ k * a ^^^ 2 ^ k * b := by
  rw [Nat.mul_comm, ← Nat.shiftLeft_eq, Nat.shiftLeft_xor_distrib, Nat.shiftLeft_eq, Nat.shiftLeft_eq, Nat.mul_comm a, Nat.mul_comm b]

theorem val_set : ∀ (l : List Nat) (i m : Nat), i < l.length → val (l.set i (l.getD i 0 ^^^ m)) = val l ^^^ (256 ^ i * m)
  | [], i, m, h => by simp at h
  | x :: l, 0, m, _ => by
    simp only [List.set_cons_zero, val, List.getD_cons_zero, Nat.pow_zero, Nat.one_mul]
    rw [Nat.xor_assoc, Nat.xor_assoc, Nat.xor_comm m]
  | x :: l, i + 1, m, h => by
    simp only [List.set_cons_succ, val, List.getD_cons_succ]
    rw [val_set l i m (by simpa using h), Nat.xor_assoc]
    congr 1
    rw [show (256 : Nat) = 2 ^ 8 from rfl, mul_xor, show (2 ^ 8 : Nat) ^ (i + 1) = 2 ^ 8 * (2 ^ 8) ^ i from by rw [Nat.pow_succ, Nat.mul_comm ((2 ^ 8) ^ i)], Nat.mul_assoc]

/-- a register's bits, by columns -/
def ofN (M : Nat → Nat) : Nat → Nat → Nat
  | 0, _ => 0
  | i + 1, c => ofN M i c ^^^ (if c / 2 ^ i % 2 = 1 then M i else 0)

theorem mod_step (c n : Nat) : c % 2 ^ (n + 1) = (c % 2 ^ n) ^^^ (if c / 2 ^ n % 2 = 1 then 2 ^ n else 0) := by
  apply Nat.eq_of_testBit_eq
  intro i
  rw [Nat.testBit_xor, Nat.testBit_mod_two_pow, Nat.testBit_mod_two_pow]
  have hb : c.testBit n = decide (c / 2 ^ n % 2 = 1) := by rw [Nat.testBit_eq_decide_div_mod_eq]
  by_cases hc : c / 2 ^ n % 2 = 1
  · rw [if_pos hc, Nat.testBit_two_pow]
    rcases Nat.lt_trichotomy i n with h | h | h
    · simp [h, show i < n + 1 by omega, show ¬ n = i by omega]
    · subst h; simp [hb, hc]
    · simp [show ¬ i < n + 1 by omega, show ¬ i < n by omega, show ¬ n = i by omega]
  · rw [if_neg hc, Nat.zero_testBit]
    rcases Nat.lt_trichotomy i n with h | h | h
    · simp [h, show i < n + 1 by omega]
    · subst h; simp [hb, hc]
    · simp [show ¬ i < n + 1 by omega, show ¬ i < n by omega]

theorem of_lin {f : Nat → Nat} (h0 : f 0 = 0) (hx : ∀ a b, f (a ^^^ b) = f a ^^^ f b) (n c : Nat) : ofN (fun i => f (2 ^ i)) n c = f (c % 2 ^ n) := by
  induction n with
  | zero => simp [ofN, Nat.mod_one, h0]
  | succ n ih =>
    rw [mod_step, hx, ← ih]
    simp only [ofN]
    congr 1
    split
    · rfl
    · exact h0.symm

theorem of_steps (m c : Nat) (h : c < 4294967296) : ofN (fun i => steps m (2 ^ i)) 32 c = steps m c := by
  rw [of_lin (f := steps m) (steps_zero m) (steps_xor m) 32 c, Nat.mod_eq_of_lt (show c < 2 ^ 32 from h)]

/-- turning bits from one on: after i rounds -/
theorem turn_step (t at_ i : Nat) : 2 ^ at_ * (t % 2 ^ (i + 1)) = 2 ^ at_ * (t % 2 ^ i) ^^^ (if t / 2 ^ i % 2 = 1 then 2 ^ (at_ + i) else 0) := by
  rw [mod_step, mul_xor]
  congr 1
  split
  · rw [Nat.pow_add]
  · rfl

end Go.Proofs.Ytnohflfpahokiaa.CrcM
set_option linter.unusedVariables false
set_option linter.unusedSimpArgs false
namespace Go.Proofs.Ytnohflfpahokiaa.Crc
open Go Go.RowKit Go.Proofs.Ytnohflfpahokiaa.PAll Go.Proofs.YtnohflfpahokiaaW.PrintWords Go.Proofs.YtnohflfpahokiaaW.PrintLast Go.Proofs.YtnohflfpahokiaaW.PrintMore
open Go.Proofs.Ytnohflfpahokiaa


theorem and_one (x : Nat) (h : x < 4294967296) : bits .and .u32 (x : Int) 1 = ((x % 2 : Nat) : Int) := by
  have := u32_and_nat x 1 h (by omega)
  rw [nat_mask1] at this
  exact this
theorem and_all (x : Nat) (h : x < 4294967296) : bits .and .u32 (x : Int) 4294967295 = (x : Int) := by
  have := u32_and_nat x 4294967295 h (by omega)
  have e : x &&& 4294967295 = x := by
    have h2 : x &&& (2 ^ 32 - 1) = x % 2 ^ 32 := Nat.and_two_pow_sub_one_eq_mod x 32
    exact h2.trans (Nat.mod_eq_of_lt h)
  rw [e] at this
  exact this
theorem and_none (x : Nat) (h : x < 4294967296) : bits .and .u32 (x : Int) 0 = 0 := by
  have := u32_and_nat x 0 h (by omega)
  simpa using this
theorem step_term (c : Nat) (hc : c < 4294967296) : Go.bits .xor .u32 ((c : Int) / 2) (Go.bits .and .u32 2197175160 ((-(Go.bits .and .u32 (c : Int) 1)) % 4294967296)) = ((CrcM.step c : Nat) : Int) := by
  rw [and_one c hc]
  have e : ((c : Int) / 2) = ((c / 2 : Nat) : Int) := by omega
  rw [e]
  unfold CrcM.step CrcM.T
  rcases Nat.mod_two_eq_zero_or_one c with h | h
  · rw [h, show (-((0 : Nat) : Int)) % 4294967296 = 0 by decide, if_neg (by omega)]
    have h1 := and_none 2197175160 (by omega)
    have h2 := u32_xor_nat (c / 2) 0 (by omega) (by omega)
    have e3 : bits .and .u32 2197175160 0 = 0 := h1
    rw [e3]
    exact h2
  · rw [h, show (-((1 : Nat) : Int)) % 4294967296 = 4294967295 by decide, if_pos rfl]
    have h1 := and_all 2197175160 (by omega)
    have e3 : bits .and .u32 2197175160 4294967295 = 2197175160 := h1
    rw [e3]
    exact u32_xor_nat (c / 2) 2197175160 (by omega) (by omega)


theorem crc_bits_loop : ∀ (d k : Nat) (c : Nat) (i : Int), c < 4294967296 → 0 ≤ i → i + d = 8 → d < k → crc_bits.l0 k (c : Int) 8 i = some ((Go.Proofs.Ytnohflfpahokiaa.CrcM.steps d c : Nat) : Int)
  | 0, k, c, i, hc, h0, h1, hk => by
    obtain ⟨k, rfl⟩ : ∃ m, k = m + 1 := ⟨k - 1, by omega⟩
    simp only [crc_bits.l0]
    rw [if_neg (by omega)]
    rfl
  | d + 1, k, c, i, hc, h0, h1, hk => by
    obtain ⟨k, rfl⟩ : ∃ m, k = m + 1 := ⟨k - 1, by omega⟩
    simp only [crc_bits.l0]
    rw [if_pos (by omega), step_term c hc, show wrap64 (i + 1) = i + 1 by unfold wrap64; omega]
    exact crc_bits_loop d k _ (i + 1) (Go.Proofs.Ytnohflfpahokiaa.CrcM.step_lt hc) (by omega) (by omega) (by omega)

/-- bytes as numbers -/
def nats (l : List Int) : List Nat := l.map Int.toNat

theorem nats_lt {l : List Int} (h : ∀ x ∈ l, 0 ≤ x ∧ x < 256) : ∀ x ∈ nats l, x < 256 := by
  intro x hx
  obtain ⟨y, hy, rfl⟩ := List.mem_map.1 hx
  have := h y hy; omega

theorem xor_neg {c : Int} (h0 : 0 ≤ c) (h1 : c < 4294967296) : Go.bits .xor .u32 4294967295 c = ((CrcM.neg c.toNat : Nat) : Int) := by
  rw [u32_xor _ _ (by omega) (by omega) h0 h1, show ((4294967295 : Int)).toNat = 4294967295 from rfl, ← CrcM.neg_xor (show c.toNat < 4294967296 by omega)]

theorem neg_lt {c : Nat} : CrcM.neg c < 4294967296 := by unfold CrcM.neg; omega
theorem neg_neg {c : Nat} (h : c < 4294967296) : CrcM.neg (CrcM.neg c) = c := by unfold CrcM.neg; omega

theorem rd_at (pre r : List Int) (x : Int) : rd (pre ++ x :: r) (pre.length : Int) = x := by simp [rd]
theorem step_w {n : Nat} (h : n ≤ 140737488355328) : wrap64 ((n : Int) + 1) = ((n + 1 : Nat) : Int) := by unfold wrap64; omega

theorem more_loop (l : List Int) (hb : ∀ x ∈ l, 0 ≤ x ∧ x < 256) (hl : l.length ≤ 140737488355328) : ∀ (r pre : List Int) (k c : Nat), l = pre ++ r → c < 4294967296 → r.length + 9 < k →
    crc_More.l0 k (c : Int) l (l.length : Int) (pre.length : Int) = some ((CrcM.neg (CrcM.fold c (nats r)) : Nat) : Int)
  | [], pre, k, c, he, hc, hk => by
    obtain ⟨k, rfl⟩ : ∃ m, k = m + 1 := ⟨k - 1, by omega⟩
    subst he
    simp only [crc_More.l0, nats, List.map_nil, CrcM.fold]
    rw [if_neg (by simp), xor_neg (by omega) (by omega), Int.toNat_natCast]
  | x :: r, pre, k, c, he, hc, hk => by
    obtain ⟨k, rfl⟩ : ∃ m, k = m + 1 := ⟨k - 1, by omega⟩
    have hx := hb x (by rw [he]; simp)
    have hlen : (l.length : Int) = pre.length + r.length + 1 := by rw [he]; simp; omega
    have hrd : rd l (pre.length : Int) = x := by rw [he]; exact rd_at pre r x
    have hxl : c ^^^ x.toNat < 4294967296 := Nat.xor_lt_two_pow (n := 32) hc (by omega)
    have hxor : Go.bits .xor .u32 (c : Int) (x % 4294967296) = ((c ^^^ x.toNat : Nat) : Int) := by
      rw [show x % 4294967296 = ((x.toNat : Nat) : Int) by omega]
      exact u32_xor_nat _ _ hc (by omega)
    simp only [crc_More.l0]
    rw [if_pos (by omega), if_pos (by omega), if_pos (by omega), hrd, hxor]
    have hbits : crc_bits.f k ((c ^^^ x.toNat : Nat) : Int) 8 = some ((CrcM.steps 8 (c ^^^ x.toNat) : Nat) : Int) := by
      unfold crc_bits.f
      exact crc_bits_loop 8 k _ 0 hxl (by omega) (by omega) (by simp at hk; omega)
    rw [hbits, Option.bind_some, step_w (by omega)]
    have := more_loop l hb hl r (pre ++ [x]) k (CrcM.steps 8 (c ^^^ x.toNat)) (by rw [he]; simp) (CrcM.steps_lt 8 hxl) (by simp at hk; omega)
    rw [List.length_append, List.length_singleton] at this
    rw [this]
    rfl

theorem more_ev {l : List Int} (hb : ∀ x ∈ l, 0 ≤ x ∧ x < 256) (hl : l.length ≤ 140737488355328) {s : Int} (h0 : 0 ≤ s) (h1 : s < 4294967296) : ∀ k, l.length + 9 < k → crc_More.f k s l = some ((CrcM.more s.toNat (nats l) : Nat) : Int) := by
  intro k hk
  unfold crc_More.f
  rw [xor_neg h0 h1]
  exact more_loop l hb hl l [] k _ rfl neg_lt hk

theorem sum_ev {l : List Int} (hb : ∀ x ∈ l, 0 ≤ x ∧ x < 256) (hl : l.length ≤ 140737488355328) : ∀ k, l.length + 9 < k → crc_Sum.f k l = some ((CrcM.sum (nats l) : Nat) : Int) := by
  intro k hk
  unfold crc_Sum.f
  rw [more_ev hb hl (by omega) (by omega) k hk]
  rfl

theorem rbit_eq {c x : Nat} (hc : c < 4294967296) : warrantorref03_bit.f (c : Int) (x : Int) = some ((CrcM.rbit c x : Nat) : Int) := by
  unfold warrantorref03_bit.f CrcM.rbit
  rw [Int.tmod_eq_emod_of_nonneg (by omega), Int.tmod_eq_emod_of_nonneg (by omega), Int.tdiv_eq_ediv_of_nonneg (by omega), show ((c : Int) / 2) % 4294967296 = ((c / 2 : Nat) : Int) by omega]
  by_cases h : c % 2 = x % 2
  · rw [if_pos (by omega), if_pos h]; simp
  · rw [if_neg (by omega), if_neg h]
    have := u32_xor_nat (c / 2) 2197175160 (by omega) (by omega)
    exact congrArg some this

theorem rbit_lt {c x : Nat} (hc : c < 4294967296) : CrcM.rbit c x < 4294967296 := by
  unfold CrcM.rbit CrcM.T
  exact Nat.xor_lt_two_pow (n := 32) (by omega) (by split <;> omega)

theorem take_loop : ∀ (d k c x : Nat) (i : Int), c < 4294967296 → x < 4294967296 → 0 ≤ i → i + d = 8 → d < k → warrantorref03_take.l0 k (c : Int) (x : Int) i = some ((CrcM.rbits d c x : Nat) : Int)
  | 0, k, c, x, i, hc, hx, h0, h1, hk => by
    obtain ⟨k, rfl⟩ : ∃ m, k = m + 1 := ⟨k - 1, by omega⟩
    simp only [warrantorref03_take.l0]
    rw [if_neg (by omega)]; rfl
  | d + 1, k, c, x, i, hc, hx, h0, h1, hk => by
    obtain ⟨k, rfl⟩ : ∃ m, k = m + 1 := ⟨k - 1, by omega⟩
    simp only [warrantorref03_take.l0]
    rw [if_pos (by omega), rbit_eq hc, Option.bind_some, Int.tdiv_eq_ediv_of_nonneg (by omega), show ((x : Int) / 2) % 4294967296 = ((x / 2 : Nat) : Int) by omega, show wrap64 (i + 1) = i + 1 by unfold wrap64; omega]
    exact take_loop d k _ _ (i + 1) (rbit_lt hc) (by omega) (by omega) (by omega) (by omega)

theorem rmore_loop (l : List Int) (hb : ∀ x ∈ l, 0 ≤ x ∧ x < 256) (hl : l.length ≤ 140737488355328) : ∀ (r pre : List Int) (k c : Nat), l = pre ++ r → c < 4294967296 → r.length + 9 < k →
    warrantorref03_More.l0 k l (c : Int) (pre.length : Int) = some ((CrcM.neg (CrcM.fold c (nats r)) : Nat) : Int)
  | [], pre, k, c, he, hc, hk => by
    obtain ⟨k, rfl⟩ : ∃ m, k = m + 1 := ⟨k - 1, by omega⟩
    subst he
    simp only [warrantorref03_More.l0, nats, List.map_nil, CrcM.fold]
    rw [if_neg (by simp), Option.some.injEq]
    unfold CrcM.neg
    omega
  | x :: r, pre, k, c, he, hc, hk => by
    obtain ⟨k, rfl⟩ : ∃ m, k = m + 1 := ⟨k - 1, by omega⟩
    have hx := hb x (by rw [he]; simp)
    have hlen : (l.length : Int) = pre.length + r.length + 1 := by rw [he]; simp; omega
    have hrd : rd l (pre.length : Int) = x := by rw [he]; exact rd_at pre r x
    have hxl : c ^^^ x.toNat < 4294967296 := Nat.xor_lt_two_pow (n := 32) hc (by omega)
    simp only [warrantorref03_More.l0]
    rw [if_pos (by omega), if_pos (by omega), hrd]
    have htake : warrantorref03_take.f k (c : Int) x = some ((CrcM.steps 8 (c ^^^ x.toNat) : Nat) : Int) := by
      unfold warrantorref03_take.f
      rw [show x % 4294967296 = ((x.toNat : Nat) : Int) by omega, take_loop 8 k c x.toNat 0 hc (by omega) (by omega) (by omega) (by simp at hk; omega), CrcM.take_eq (by omega)]
    rw [htake, Option.bind_some, step_w (by omega)]
    have := rmore_loop l hb hl r (pre ++ [x]) k (CrcM.steps 8 (c ^^^ x.toNat)) (by rw [he]; simp) (CrcM.steps_lt 8 hxl) (by simp at hk; omega)
    rw [List.length_append, List.length_singleton] at this
    rw [this]
    rfl

theorem rmore_ev {l : List Int} (hb : ∀ x ∈ l, 0 ≤ x ∧ x < 256) (hl : l.length ≤ 140737488355328) {s : Int} (h0 : 0 ≤ s) (h1 : s < 4294967296) : ∀ k, l.length + 9 < k → warrantorref03_More.f k s l = some ((CrcM.more s.toNat (nats l) : Nat) : Int) := by
  intro k hk
  unfold warrantorref03_More.f
  rw [show (4294967295 - s) % 4294967296 = ((CrcM.neg s.toNat : Nat) : Int) by unfold CrcM.neg; omega]
  exact rmore_loop l hb hl l [] k _ rfl neg_lt hk

theorem rsum_ev {l : List Int} (hb : ∀ x ∈ l, 0 ≤ x ∧ x < 256) (hl : l.length ≤ 140737488355328) : ∀ k, l.length + 9 < k → warrantorref03_Sum.f k l = some ((CrcM.sum (nats l) : Nat) : Int) := by
  intro k hk
  unfold warrantorref03_Sum.f
  rw [rmore_ev hb hl (by omega) (by omega) k hk]
  rfl

theorem more_lt (s : Nat) (l : List Nat) : CrcM.more s l < 4294967296 := neg_lt


/-- the sum of bytes -/
def sumI (l : List Int) : Int := ((CrcM.sum (nats l) : Nat) : Int)
theorem sumI_range (l : List Int) : 0 ≤ sumI l ∧ sumI l < 4294967296 := by
  have h : CrcM.sum (nats l) < 4294967296 := more_lt 0 (nats l)
  unfold sumI
  omega
theorem sum_calls {A : Option Addr} {c : Nat} {l : List Int} {w : World} (hC : (Kd.int .u8).C w A l.length l) (hc : l.length ≤ c) (hb : ∀ x ∈ l, 0 ≤ x ∧ x < 256) (hl : l.length ≤ 140737488355328) :
    Calls Try.prog 49 #[.slice A l.length c] w fun e w' => e = .returned (.int .u32 (sumI l)) ∧ Drawn0 w w' := crc_Sum.calls (l.length + 10) A c l _ w hC hc (sum_ev hb hl _ (by omega))
theorem rsum_calls {A : Option Addr} {c : Nat} {l : List Int} {w : World} (hC : (Kd.int .u8).C w A l.length l) (hc : l.length ≤ c) (hb : ∀ x ∈ l, 0 ≤ x ∧ x < 256) (hl : l.length ≤ 140737488355328) :
    Calls Try.prog 20 #[.slice A l.length c] w fun e w' => e = .returned (.int .u32 (sumI l)) ∧ Drawn0 w w' := warrantorref03_Sum.calls (l.length + 10) A c l _ w hC hc (rsum_ev hb hl _ (by omega))
theorem whole_calls {A : Option Addr} {c : Nat} {l : List Int} {w : World} (hC : (Kd.int .u8).C w A l.length l) (hc : l.length ≤ c) (hb : ∀ x ∈ l, 0 ≤ x ∧ x < 256) (hl : l.length ≤ 140737488355328) (s : Int) :
    Calls Try.prog 55 #[.slice A l.length c, .int .u32 s] w fun e w' => e = .returned (.bool (sumI l == s)) ∧ Drawn0 w w' :=
  crc_Whole.calls (l.length + 10) A c l s _ w hC hc (by unfold crc_Whole.f; rw [sum_ev hb hl _ (by omega)]; rfl)
end Go.Proofs.Ytnohflfpahokiaa.Crc
