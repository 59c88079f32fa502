/- Plain mathematics of sums of bytes (a register of 32 bits): no program in sight. -/
namespace Go.Proofs.Ytkofkhdoeeldjaa.CrcM

/-- the polynomial -/
def T : Nat := 2197175160

/-- one step of the register -/
def step (c : Nat) : Nat := (c / 2) ^^^ (if c % 2 = 1 then T else 0)

theorem step_lt {c : Nat} (h : c < 4294967296) : step c < 4294967296 := by
  unfold step T
  have : c / 2 < 2 ^ 32 := by omega
  split
  · exact Nat.xor_lt_two_pow (n := 32) this (by omega)
  · simpa using (by omega : c / 2 < 4294967296)

theorem xor_div2 (a b : Nat) : (a ^^^ b) / 2 = a / 2 ^^^ b / 2 := by
  have := Nat.xor_div_two_pow (a := a) (b := b) (n := 1)
  simpa using this

theorem xor_mod2 (a b : Nat) : (a ^^^ b) % 2 = (a % 2 + b % 2) % 2 := by
  have := Nat.xor_mod_two_eq_one (a := a) (b := b)
  omega

theorem step_xor (a b : Nat) : step (a ^^^ b) = step a ^^^ step b := by
  unfold step
  rw [xor_div2, xor_mod2]
  rcases Nat.mod_two_eq_zero_or_one a with ha | ha <;> rcases Nat.mod_two_eq_zero_or_one b with hb | hb <;> simp [ha, hb]
  · rw [Nat.xor_assoc]
  · rw [Nat.xor_assoc, Nat.xor_assoc, Nat.xor_comm T]
  · have : a / 2 ^^^ T ^^^ (b / 2 ^^^ T) = a / 2 ^^^ b / 2 ^^^ (T ^^^ T) := by
      rw [Nat.xor_assoc, Nat.xor_assoc]; congr 1; rw [← Nat.xor_assoc, Nat.xor_comm T, Nat.xor_assoc]
    rw [this]; simp

theorem step_zero : step 0 = 0 := by decide

theorem step_inj {c : Nat} (hc : c < 4294967296) (h : step c = 0) : c = 0 := by
  unfold step at h
  rcases Nat.mod_two_eq_zero_or_one c with hp | hp
  · simp [hp] at h; omega
  · simp [hp] at h
    have h2 : c / 2 = T := by
      have : (c / 2 ^^^ T) ^^^ T = 0 ^^^ T := by rw [h]
      rw [Nat.xor_assoc] at this; simpa using this
    unfold T at h2; omega

/-- n steps -/
def steps : Nat → Nat → Nat
  | 0, c => c
  | n + 1, c => steps n (step c)

theorem steps_add (m n c : Nat) : steps (m + n) c = steps n (steps m c) := by
  induction m generalizing c with
  | zero => simp [steps]
  | succ m ih => rw [Nat.succ_add]; simp only [steps]; exact ih _

theorem steps_succ' (n c : Nat) : steps (n + 1) c = step (steps n c) := by
  rw [steps_add n 1 c]; rfl

theorem steps_lt (n : Nat) : ∀ {c : Nat}, c < 4294967296 → steps n c < 4294967296 := by
  induction n with
  | zero => intro c h; exact h
  | succ n ih => intro c h; exact ih (step_lt h)

theorem steps_xor (n : Nat) : ∀ a b, steps n (a ^^^ b) = steps n a ^^^ steps n b := by
  induction n with
  | zero => intro a b; rfl
  | succ n ih => intro a b; simp only [steps]; rw [step_xor, ih]

theorem steps_zero (n : Nat) : steps n 0 = 0 := by
  induction n with
  | zero => rfl
  | succ n ih => simp only [steps]; rw [step_zero]; exact ih

theorem steps_inj (n : Nat) : ∀ {c : Nat}, c < 4294967296 → steps n c = 0 → c = 0 := by
  induction n with
  | zero => intro c _ h; exact h
  | succ n ih => intro c hc h; exact step_inj hc (ih (step_lt hc) h)

/-- the document's register behind a bit -/
def rbit (c x : Nat) : Nat := (c / 2) ^^^ (if c % 2 = x % 2 then 0 else T)

/-- behind n bits -/
def rbits : Nat → Nat → Nat → Nat
  | 0, c, _ => c
  | n + 1, c, x => rbits n (rbit c x) (x / 2)

theorem rbit_step (c x : Nat) : step (c ^^^ x) = rbit c x ^^^ x / 2 := by
  unfold step rbit
  rw [xor_div2, xor_mod2]
  have e : (if (c % 2 + x % 2) % 2 = 1 then T else 0) = if c % 2 = x % 2 then 0 else T := by
    split <;> split <;> first | rfl | omega
  rw [e, Nat.xor_assoc, Nat.xor_assoc, Nat.xor_comm (x / 2)]

theorem rbits_steps (n : Nat) : ∀ c x, steps n (c ^^^ x) = rbits n c x ^^^ x / 2 ^ n := by
  induction n with
  | zero => intro c x; simp [steps, rbits]
  | succ n ih =>
    intro c x
    simp only [steps, rbits]
    rw [rbit_step, ih, Nat.div_div_eq_div_mul, Nat.pow_succ, Nat.mul_comm 2]

theorem take_eq {c x : Nat} (h : x < 256) : rbits 8 c x = steps 8 (c ^^^ x) := by
  rw [rbits_steps]; have : x / 2 ^ 8 = 0 := by omega
  rw [this]; simp

/-- the register behind bytes -/
def fold (c : Nat) : List Nat → Nat
  | [] => c
  | x :: l => fold (steps 8 (c ^^^ x)) l

theorem fold_append (c : Nat) (a b : List Nat) : fold c (a ++ b) = fold (fold c a) b := by
  induction a generalizing c with
  | nil => rfl
  | cons x a ih => simp only [List.cons_append, fold]; exact ih _

theorem fold_lt (l : List Nat) : ∀ {c : Nat}, c < 4294967296 → (∀ x ∈ l, x < 256) → fold c l < 4294967296 := by
  induction l with
  | nil => intro c h _; exact h
  | cons x l ih =>
    intro c h hl
    refine ih (steps_lt 8 ?_) (fun y hy => hl y (List.mem_cons_of_mem _ hy))
    have hx := hl x (List.mem_cons_self ..)
    exact Nat.xor_lt_two_pow (n := 32) h (by omega)

theorem fold_xor (l : List Nat) : ∀ c d, fold (c ^^^ d) l = fold c l ^^^ steps (8 * l.length) d := by
  induction l with
  | nil => intro c d; rfl
  | cons x l ih =>
    intro c d
    simp only [fold, List.length_cons]
    have : c ^^^ d ^^^ x = (c ^^^ x) ^^^ d := by rw [Nat.xor_assoc, Nat.xor_comm d, ← Nat.xor_assoc]
    rw [this, steps_xor, ih, Nat.mul_add, Nat.mul_one, Nat.add_comm (8 * l.length), steps_add]

theorem fold_zeros (n : Nat) : ∀ c, fold c (List.replicate n 0) = steps (8 * n) c := by
  induction n with
  | zero => intro c; rfl
  | succ n ih =>
    intro c
    simp only [List.replicate_succ, fold, Nat.xor_zero]
    rw [ih, Nat.mul_add, Nat.mul_one, Nat.add_comm (8 * n), steps_add]

/-- all bits turned -/
def neg (c : Nat) : Nat := 4294967295 - c

theorem neg_xor {c : Nat} (h : c < 4294967296) : neg c = 4294967295 ^^^ c := by
  have e : c = 4294967295 &&& c := by
    have : c &&& (2 ^ 32 - 1) = c % 2 ^ 32 := Nat.and_two_pow_sub_one_eq_mod c 32
    rw [Nat.and_comm]; have h2 : c % 2 ^ 32 = c := Nat.mod_eq_of_lt h
    simpa using (this.trans h2).symm
  apply Nat.eq_of_testBit_eq
  intro i
  have hn : neg c = 2 ^ 32 - (c + 1) := by unfold neg; omega
  rw [hn, Nat.testBit_two_pow_sub_succ h, Nat.testBit_xor]
  have h3 : Nat.testBit 4294967295 i = decide (i < 32) := by
    have := Nat.testBit_two_pow_sub_one 32 i
    simpa using this
  rw [h3]
  by_cases hi : i < 32
  · simp [hi]
  · have : c.testBit i = false := by
      apply Nat.testBit_lt_two_pow
      exact Nat.lt_of_lt_of_le (show c < 2 ^ 32 from h) (Nat.pow_le_pow_right (n := 2) (by omega) (show 32 ≤ i by omega))
    simp [hi, this]

def more (s : Nat) (l : List Nat) : Nat := neg (fold (neg s) l)
def sum (l : List Nat) : Nat := more 0 l


/-! bytes as one number: the first byte lowest -/
def val : List Nat → Nat
  | [] => 0
  | x :: l => x ^^^ (256 * val l)

theorem step_double (c : Nat) : step (2 * c) = c := by
  unfold step
  rw [if_neg (by omega), Nat.mul_div_cancel_left _ (by omega)]; simp

theorem steps_shift : ∀ (n c : Nat), steps n (2 ^ n * c) = c
  | 0, c => by simp [steps]
  | n + 1, c => by
    simp only [steps]
    rw [Nat.pow_succ, Nat.mul_comm (2 ^ n) 2, Nat.mul_assoc, step_double, steps_shift n c]

theorem fold_val : ∀ (l : List Nat) (c : Nat), fold c l = steps (8 * l.length) (c ^^^ val l)
  | [], c => by simp [fold, val, steps]
  | x :: l, c => by
    simp only [fold, val, List.length_cons]
    rw [fold_val l, Nat.mul_add, Nat.mul_one, Nat.add_comm (8 * l.length), steps_add, ← Nat.xor_assoc, steps_xor 8 (c ^^^ x) (256 * val l), show 256 * val l = 2 ^ 8 * val l from rfl, steps_shift 8]

/-- a burst: bytes that are the others with a number turned into them -/
theorem burst {l l' : List Nat} {c at_ t : Nat} (hlen : l'.length = l.length) (hv : val l' = val l ^^^ (2 ^ at_ * t)) (hat : at_ ≤ 8 * l.length) (ht : t < 4294967296) (h0 : t ≠ 0) : fold c l' ≠ fold c l := by
  intro h
  rw [fold_val, fold_val, hlen, hv, ← Nat.xor_assoc, steps_xor] at h
  have h1 : steps (8 * l.length) (2 ^ at_ * t) = 0 := by
    have h2 := congrArg (fun z => steps (8 * l.length) (c ^^^ val l) ^^^ z) h
    simp only [← Nat.xor_assoc, Nat.xor_self, Nat.zero_xor] at h2
    exact h2
  rw [show 8 * l.length = at_ + (8 * l.length - at_) by omega, steps_add, steps_shift] at h1
  exact h0 (steps_inj _ ht h1)

theorem mul_xor (k a b : Nat) : 2 ^ k * (a ^^^ b) = 2 ^ k * a ^^^ 2 ^ k * b := by
  rw [Nat.mul_comm, ← Nat.shiftLeft_eq, Nat.shiftLeft_xor_distrib, Nat.shiftLeft_eq, Nat.shiftLeft_eq, Nat.mul_comm a, Nat.mul_comm b]

theorem val_set : ∀ (l : List Nat) (i m : Nat), i < l.length → val (l.set i (l.getD i 0 ^^^ m)) = val l ^^^ (256 ^ i * m)
  | [], i, m, h => by simp at h
  | x :: l, 0, m, _ => by
    simp only [List.set_cons_zero, val, List.getD_cons_zero, Nat.pow_zero, Nat.one_mul]
    rw [Nat.xor_assoc, Nat.xor_assoc, Nat.xor_comm m]
  | x :: l, i + 1, m, h => by
    simp only [List.set_cons_succ, val, List.getD_cons_succ]
    rw [val_set l i m (by simpa using h), Nat.xor_assoc]
    congr 1
    rw [show (256 : Nat) = 2 ^ 8 from rfl, mul_xor, show (2 ^ 8 : Nat) ^ (i + 1) = 2 ^ 8 * (2 ^ 8) ^ i from by rw [Nat.pow_succ, Nat.mul_comm ((2 ^ 8) ^ i)], Nat.mul_assoc]

/-- a register's bits, by columns -/
def ofN (M : Nat → Nat) : Nat → Nat → Nat
  | 0, _ => 0
  | i + 1, c => ofN M i c ^^^ (if c / 2 ^ i % 2 = 1 then M i else 0)

theorem mod_step (c n : Nat) : c % 2 ^ (n + 1) = (c % 2 ^ n) ^^^ (if c / 2 ^ n % 2 = 1 then 2 ^ n else 0) := by
  apply Nat.eq_of_testBit_eq
  intro i
  rw [Nat.testBit_xor, Nat.testBit_mod_two_pow, Nat.testBit_mod_two_pow]
  have hb : c.testBit n = decide (c / 2 ^ n % 2 = 1) := by rw [Nat.testBit_eq_decide_div_mod_eq]
  by_cases hc : c / 2 ^ n % 2 = 1
  · rw [if_pos hc, Nat.testBit_two_pow]
    rcases Nat.lt_trichotomy i n with h | h | h
    · simp [h, show i < n + 1 by omega, show ¬ n = i by omega]
    · subst h; simp [hb, hc]
    · simp [show ¬ i < n + 1 by omega, show ¬ i < n by omega, show ¬ n = i by omega]
  · rw [if_neg hc, Nat.zero_testBit]
    rcases Nat.lt_trichotomy i n with h | h | h
    · simp [h, show i < n + 1 by omega]
    · subst h; simp [hb, hc]
    · simp [show ¬ i < n + 1 by omega, show ¬ i < n by omega]

theorem of_lin {f : Nat → Nat} (h0 : f 0 = 0) (hx : ∀ a b, f (a ^^^ b) = f a ^^^ f b) (n c : Nat) : ofN (fun i => f (2 ^ i)) n c = f (c % 2 ^ n) := by
  induction n with
  | zero => simp [ofN, Nat.mod_one, h0]
  | succ n ih =>
    rw [mod_step, hx, ← ih]
    simp only [ofN]
    congr 1
    split
    · rfl
    · exact h0.symm

theorem of_steps (m c : Nat) (h : c < 4294967296) : ofN (fun i => steps m (2 ^ i)) 32 c = steps m c := by
  rw [of_lin (f := steps m) (steps_zero m) (steps_xor m) 32 c, Nat.mod_eq_of_lt (show c < 2 ^ 32 from h)]

/-- turning bits from one on: after i rounds -/
theorem turn_step (t at_ i : Nat) : 2 ^ at_ * (t % 2 ^ (i + 1)) = 2 ^ at_ * (t % 2 ^ i) ^^^ (if t / 2 ^ i % 2 = 1 then 2 ^ (at_ + i) else 0) := by
  rw [mod_step, mul_xor]
  congr 1
  split
  · rw [Nat.pow_add]
  · rfl

end Go.Proofs.Ytkofkhdoeeldjaa.CrcM
