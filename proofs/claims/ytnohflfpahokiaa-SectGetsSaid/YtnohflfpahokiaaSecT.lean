/- Sections: what the reference's Large, Check, Same and the turned bits come to. -/
import Derived.Test.YtnohflfpahokiaaSec9
import Derived.Test.YtnohflfpahokiaaSecP
set_option linter.unusedVariables false
set_option linter.unusedSimpArgs false
namespace Go.Proofs.Ytnohflfpahokiaa.Sec
open Go Go.RowKit Go.Proofs.YtnohflfpahokiaaW.PrintWords Go.Proofs.YtnohflfpahokiaaW.PrintLast Go.Proofs.Ytnohflfpahokiaa.LebM Go.Proofs.Ytnohflfpahokiaa.Leb
open Go.Proofs.Ytnohflfpahokiaa.PAll (S39 k39 z39 rd_T39 warrantorref04_Large.f warrantorref04_Large.l0 warrantorref04_Check.f warrantorref04_Check.l0 warrantorref04_Check.l1 warrantorref04_Same.f warrantorref04_Same.l0 warrantorref03_Turn.f warrantorref03_Turn.l0 warrantorref03_Turn.l1 warrantorref03_Turn.j1)
open Go.Proofs.Ytnohflfpahokiaa.Crc (sumI sumI_range)
open Go.Proofs.Ytnohflfpahokiaa.Head (head5)

theorem rd39_at (pre r : List S39) (s : S39) : rd_T39 (pre ++ s :: r) (pre.length : Int) = s := by simp [rd_T39]
/-- too many, or too large to be looked at -/
def big (most : Int) : Int → List S39 → Bool
  | acc, [] => decide (acc > most)
  | acc, s :: r => if (s.f1.length : Int) > most then true else big most (acc + s.f1.length) r
def largeB (l : List S39) (most : Int) : Bool := if (l.length : Int) > 20 then true else big most 0 l
theorem big_no : ∀ (r : List S39) (most acc : Int), 0 ≤ acc → big most acc r = false → acc ≤ most ∧ ∀ s ∈ r, (s.f1.length : Int) + acc ≤ most
  | [], most, acc, h0, h => by
    simp [big] at h
    exact ⟨h, fun s hs => by cases hs⟩
  | s :: r, most, acc, h0, h => by
    unfold big at h
    by_cases h1 : (s.f1.length : Int) > most
    · rw [if_pos h1] at h; cases h
    · rw [if_neg h1] at h
      obtain ⟨h2, h3⟩ := big_no r most (acc + s.f1.length) (by omega) h
      refine ⟨by omega, fun x hx => ?_⟩
      rcases List.mem_cons.1 hx with rfl | hx
      · omega
      · have := h3 x hx; omega
theorem large_no {l : List S39} {most : Int} (h : largeB l most = false) : l.length ≤ 20 ∧ ∀ s ∈ l, (s.f1.length : Int) ≤ most := by
  unfold largeB at h
  by_cases h1 : (l.length : Int) > 20
  · rw [if_pos h1] at h; cases h
  · rw [if_neg h1] at h
    exact ⟨by omega, fun s hs => by have := (big_no l most 0 (by omega) h).2 s hs; omega⟩
theorem large_loop (l : List S39) (most : Int) (hm : 0 ≤ most ∧ most ≤ 10000000) (hn : l.length ≤ 20) : ∀ (r pre : List S39) (k : Nat) (acc : Int), l = pre ++ r → 0 ≤ acc → acc ≤ 10000000 * pre.length → r.length < k →
    warrantorref04_Large.l0 k l most acc (pre.length : Int) = some (big most acc r)
  | [], pre, k, acc, e, h0, ha, hk => by
    obtain ⟨k, rfl⟩ : ∃ m, k = m + 1 := ⟨k - 1, by omega⟩
    rw [List.append_nil] at e
    subst e
    simp only [warrantorref04_Large.l0, big]
    rw [if_neg (by omega)]
  | s :: r, pre, k, acc, e, h0, ha, hk => by
    obtain ⟨k, rfl⟩ : ∃ m, k = m + 1 := ⟨k - 1, by omega⟩
    have hl : l.length = pre.length + (r.length + 1) := by rw [e]; simp
    have hr : rd_T39 l (pre.length : Int) = s := by rw [e]; exact rd39_at pre r s
    simp only [warrantorref04_Large.l0, big]
    rw [if_pos (by omega), if_pos (by omega), hr]
    by_cases h1 : (s.f1.length : Int) > most
    · rw [if_pos h1, if_pos h1]
    · rw [if_neg h1, if_neg h1]
      have e1 : wrap64 (acc + (s.f1.length : Int)) = acc + s.f1.length := by unfold wrap64; omega
      have e2 : wrap64 ((pre.length : Int) + 1) = ((pre ++ [s]).length : Int) := by rw [List.length_append]; simp; unfold wrap64; omega
      rw [e1, e2]
      exact large_loop l most hm hn r (pre ++ [s]) k _ (by rw [e]; simp) (by omega) (by rw [List.length_append]; simp; omega) (by simp at hk; omega)
theorem large_calls {A : Option Addr} {c : Nat} {l : List S39} {w : World} (hL : Kd.C k39 w A l.length l) (hc : l.length ≤ c) (most : Int) (hm : 0 ≤ most ∧ most ≤ 10000000) :
    Calls Try.prog 8 #[.slice A l.length c, .int .i64 most] w fun e w' => e = .returned (.bool (largeB l most)) ∧ Drawn0 w w' := by
  refine PAll.warrantorref04_Large.calls 30 A c l most _ w hL hc ?_
  unfold warrantorref04_Large.f largeB
  by_cases h : (l.length : Int) > 20
  · rw [if_pos h, if_pos h]
  · rw [if_neg h, if_neg h]
    exact large_loop l most hm (by omega) l [] 30 0 rfl (by omega) (by simp) (by omega)
def checkM (l : List S39) : Int := if longM l then 3 else if oddM 0 l then 41 else 0
theorem odd_loop (l : List S39) (hn : l.length ≤ 1000000) : ∀ (r pre : List S39) (k : Nat) (last : Int), l = pre ++ r → r.length < k → warrantorref04_Check.l1 k l last (pre.length : Int) = some (if oddM last r then 41 else 0)
  | [], pre, k, last, e, hk => by
    obtain ⟨k, rfl⟩ : ∃ m, k = m + 1 := ⟨k - 1, by omega⟩
    rw [List.append_nil] at e
    subst e
    simp only [warrantorref04_Check.l1, oddM]
    rw [if_neg (by omega)]
    simp
  | s :: r, pre, k, last, e, hk => by
    obtain ⟨k, rfl⟩ : ∃ m, k = m + 1 := ⟨k - 1, by omega⟩
    have hl : l.length = pre.length + (r.length + 1) := by rw [e]; simp
    have hr : rd_T39 l (pre.length : Int) = s := by rw [e]; exact rd39_at pre r s
    have e2 : wrap64 ((pre.length : Int) + 1) = ((pre ++ [s]).length : Int) := by rw [List.length_append]; simp; unfold wrap64; omega
    simp only [warrantorref04_Check.l1]
    rw [if_pos (by omega), if_pos (by omega), hr, e2]
    have ho : oddM last (s :: r) = (decide (s.f0 ≤ last) || decide (255 < s.f0) || oddM s.f0 r) := rfl
    by_cases h1 : s.f0 ≤ last
    · rw [if_pos h1, show oddM last (s :: r) = true by rw [ho, decide_eq_true h1]; rfl]; rfl
    · rw [if_neg h1]
      by_cases h2 : s.f0 > 255
      · rw [if_pos h2, show oddM last (s :: r) = true by rw [ho, decide_eq_true (show 255 < s.f0 from h2)]; simp]; rfl
      · rw [if_neg h2, show oddM last (s :: r) = oddM s.f0 r by rw [ho, decide_eq_false h1, decide_eq_false (show ¬ 255 < s.f0 from h2), Bool.false_or, Bool.false_or]]
        exact odd_loop l hn r (pre ++ [s]) k _ (by rw [e]; simp) (by simp at hk; omega)
theorem long_loop (l : List S39) (hn : l.length ≤ 1000000) : ∀ (r pre : List S39) (k : Nat), l = pre ++ r → r.length + l.length + 2 < k → warrantorref04_Check.l0 k l (pre.length : Int) = some (if r.any longB then 3 else if oddM 0 l then 41 else 0)
  | [], pre, k, e, hk => by
    obtain ⟨k, rfl⟩ : ∃ m, k = m + 1 := ⟨k - 1, by omega⟩
    rw [List.append_nil] at e
    subst e
    simp only [warrantorref04_Check.l0]
    rw [if_neg (by omega)]
    have := odd_loop l hn l [] k 0 rfl (by omega)
    simpa using this
  | s :: r, pre, k, e, hk => by
    obtain ⟨k, rfl⟩ : ∃ m, k = m + 1 := ⟨k - 1, by omega⟩
    have hl : l.length = pre.length + (r.length + 1) := by rw [e]; simp
    have hr : rd_T39 l (pre.length : Int) = s := by rw [e]; exact rd39_at pre r s
    have e2 : wrap64 ((pre.length : Int) + 1) = ((pre ++ [s]).length : Int) := by rw [List.length_append]; simp; unfold wrap64; omega
    simp only [warrantorref04_Check.l0]
    rw [if_pos (by omega), if_pos (by omega), hr, e2, List.any_cons]
    by_cases h1 : (s.f1.length : Int) > 1048576
    · rw [if_pos h1, show longB s = true from decide_eq_true (by omega)]; rfl
    · rw [if_neg h1, show longB s = false from decide_eq_false (by omega), Bool.false_or]
      exact long_loop l hn r (pre ++ [s]) k (by rw [e]; simp) (by simp at hk; omega)
theorem check_calls {A : Option Addr} {c : Nat} {l : List S39} {w : World} (hL : Kd.C k39 w A l.length l) (hc : l.length ≤ c) (hn : l.length ≤ 1000000) :
    Calls Try.prog 11 #[.slice A l.length c] w fun e w' => e = .returned (.int .i64 (checkM l)) ∧ Drawn0 w w' := by
  refine PAll.warrantorref04_Check.calls (l.length + l.length + 3) A c l _ w hL hc ?_
  unfold warrantorref04_Check.f checkM longM
  by_cases h : (l.length : Int) > 16
  · rw [if_pos h, decide_eq_true (show 16 < l.length by omega)]; rfl
  · rw [if_neg h, decide_eq_false (show ¬ 16 < l.length by omega), Bool.false_or]
    exact long_loop l hn l [] _ rfl (by omega)
/-- bodies of bytes -/
def Bytes (l : List S39) : Prop := ∀ s ∈ l, ∀ x ∈ s.f1, 0 ≤ x ∧ x < 256
theorem same_loop (l m : List S39) (hn : l.length ≤ 1000000) (hlm : l.length = m.length) (hb : Bytes l) (hd : Bytes m) : ∀ (r s pre qre : List S39) (k : Nat), l = pre ++ r → m = qre ++ s → pre.length = qre.length → r.length < k →
    warrantorref04_Same.l0 k l m (pre.length : Int) = some (decide (r.map pr = s.map pr))
  | [], s, pre, qre, k, e, e', hp, hk => by
    obtain ⟨k, rfl⟩ : ∃ m, k = m + 1 := ⟨k - 1, by omega⟩
    rw [List.append_nil] at e
    subst e
    have hs : s = [] := by
      have := hlm
      rw [e', List.length_append] at this
      exact List.length_eq_zero_iff.1 (by omega)
    subst hs
    simp only [warrantorref04_Same.l0]
    rw [if_neg (by omega)]
    rfl
  | x :: r, [], pre, qre, k, e, e', hp, hk => by
    have := hlm
    rw [e, e', List.length_append, List.length_append, List.length_cons, List.length_nil] at this
    omega
  | x :: r, y :: s, pre, qre, k, e, e', hp, hk => by
    obtain ⟨k, rfl⟩ : ∃ m, k = m + 1 := ⟨k - 1, by omega⟩
    have hl : l.length = pre.length + (r.length + 1) := by rw [e]; simp
    have hr : rd_T39 l (pre.length : Int) = x := by rw [e]; exact rd39_at pre r x
    have hr' : rd_T39 m (pre.length : Int) = y := by rw [e', hp]; exact rd39_at qre s y
    have hx : x ∈ l := by rw [e]; simp
    have hy : y ∈ m := by rw [e']; simp
    have e2 : wrap64 ((pre.length : Int) + 1) = ((pre ++ [x]).length : Int) := by rw [List.length_append]; simp; unfold wrap64; omega
    simp only [warrantorref04_Same.l0]
    rw [if_pos (by omega), if_pos (by omega), if_pos (by omega), hr, hr', e2]
    by_cases h1 : x.f0 = y.f0
    · rw [if_pos h1]
      by_cases h2 : x.f1 = y.f1
      · rw [if_pos (by rw [h2]), same_loop l m hn hlm hb hd r s (pre ++ [x]) (qre ++ [y]) k (by rw [e]; simp) (by rw [e']; simp) (by simp [hp]) (by simp at hk; omega)]
        congr 1
        simp [pr, h1, h2]
      · rw [if_neg (fun h => h2 (str_inj (hb x hx) (hd y hy) h))]
        rw [decide_eq_false (by simp [pr, h2])]
    · rw [if_neg h1, decide_eq_false (by simp [pr, h1])]
theorem rsame_calls {A B : Option Addr} {c d : Nat} {l m : List S39} {w : World} (hA : Kd.C k39 w A l.length l) (hc : l.length ≤ c) (hB : Kd.C k39 w B m.length m) (hd : m.length ≤ d) (hn : l.length ≤ 1000000) (hb : Bytes l) (hbm : Bytes m) :
    Calls Try.prog 14 #[.slice A l.length c, .slice B m.length d] w fun e w' => e = .returned (.bool (sameB l m)) ∧ Drawn0 w w' := by
  refine PAll.warrantorref04_Same.calls (l.length + 1) A c l B d m _ w hA hc hB hd ?_
  unfold warrantorref04_Same.f sameB
  by_cases h : (l.length : Int) = (m.length : Int)
  · rw [if_pos h]
    exact same_loop l m hn (by omega) hb hbm l m [] [] _ rfl rfl rfl (by omega)
  · rw [if_neg h, decide_eq_false (fun e => h (by have := congrArg List.length e; simp at this; omega))]
theorem getL_bytes {bs : List Int} : ∀ (f p : Nat) (last : Int) (out : List S39), Bytes out → Bytes (getL bs f last p out).1
  | 0, p, last, out, h => h
  | f + 1, p, last, out, h => by
    unfold getL
    split
    · exact h
    split
    · exact fun s hs => by cases hs
    split
    · exact fun s hs => by cases hs
    · refine getL_bytes f _ _ _ fun s hs => ?_
      rcases List.mem_append.1 hs with hs | hs
      · exact h s hs
      · rw [List.mem_singleton] at hs
        subst hs
        exact bytesOf_range _
theorem getMM_bytes (b : List Int) : Bytes (getMM b).1 := by
  unfold getMM
  split
  · exact fun s hs => by cases hs
  · exact getL_bytes _ _ _ _ (fun s hs => by cases hs)
theorem getL_len {bs : List Int} : ∀ (f p : Nat) (last : Int) (out : List S39), out.length ≤ 16 → (getL bs f last p out).1.length ≤ 16
  | 0, p, last, out, h => h
  | f + 1, p, last, out, h => by
    unfold getL
    split
    · exact h
    split
    · simp
    split
    · simp
    · exact getL_len f _ _ _ (by rw [List.length_append]; simp; omega)
theorem getMM_len (b : List Int) : (getMM b).1.length ≤ 16 := by
  unfold getMM
  split
  · simp
  · exact getL_len _ _ _ _ (by simp)
open Go.Proofs.Ytnohflfpahokiaa.Crc (nats step_w nats_lt neg_lt neg_neg)
theorem two_xor_one (q : Nat) : 1 ^^^ 2 * q = 2 * q + 1 := by
  have h1 := CrcM.xor_div2 1 (2 * q)
  have h2 := CrcM.xor_mod2 1 (2 * q)
  rw [show 1 / 2 = 0 from rfl, Nat.mul_div_cancel_left _ (by omega), Nat.zero_xor] at h1
  omega

theorem odd_eq (p t : Nat) (h : t % 2 = 1) : 2 ^ p ^^^ 2 ^ (p + 1) * (t / 2) = 2 ^ p * t := by
  rw [Nat.pow_succ, Nat.mul_assoc]
  have := CrcM.mul_xor p 1 (2 * (t / 2))
  rw [Nat.mul_one] at this
  rw [← this, two_xor_one]
  congr 1
  omega

theorem inner (at_ t i pos : Int) (xs : List Int) (hp : 0 ≤ pos) (hp2 : pos < 1000000) (hx : pos / 8 < xs.length) : ∀ (d k j : Nat) (one jj : Int), one = ((2 ^ j : Nat) : Int) → jj = j → jj + d = pos % 8 → d < k →
    warrantorref03_Turn.l1 k at_ t xs i pos one jj = warrantorref03_Turn.l0 (k - d - 1) at_ ((Int.tdiv t 2) % 4294967296) (xs.set (pos / 8).toNat (Go.bits .xor .u8 (rd xs (pos / 8)) ((2 ^ (pos % 8).toNat : Nat) : Int))) (wrap64 (i + 1))
  | 0, k, j, one, jj, ho, hjj, hj, hk => by
    obtain ⟨k, rfl⟩ : ∃ m, k = m + 1 := ⟨k - 1, by omega⟩
    simp only [warrantorref03_Turn.l1]
    rw [Int.tmod_eq_emod_of_nonneg hp, Int.tdiv_eq_ediv_of_nonneg hp, show wrap64 (pos / 8) = pos / 8 by unfold wrap64; omega, if_neg (by omega), if_pos (by omega), if_pos hx, show (pos % 8).toNat = j by omega, ho]
    rfl
  | d + 1, k, j, one, jj, ho, hjj, hj, hk => by
    obtain ⟨k, rfl⟩ : ∃ m, k = m + 1 := ⟨k - 1, by omega⟩
    have hj7 : j < 7 := by omega
    have h2 : 2 ^ j ≤ 2 ^ 6 := Nat.pow_le_pow_right (by omega) (by omega)
    have := inner at_ t i pos xs hp hp2 hx d k (j + 1) ((2 * one) % 256) (wrap64 (jj + 1)) (by rw [Nat.pow_succ]; omega) (by unfold wrap64; omega) (by unfold wrap64; omega) (by omega)
    simp only [warrantorref03_Turn.l1]
    rw [Int.tmod_eq_emod_of_nonneg hp, if_pos (by omega), this, show k + 1 - (d + 1) - 1 = k - d - 1 by omega]

/-- a bit turned: the bytes stay bytes, and the number of them all is turned at that bit -/
def flipI (xs : List Int) (pos : Nat) : List Int := xs.set (pos / 8) (Go.bits .xor .u8 (rd xs ((pos / 8 : Nat) : Int)) ((2 ^ (pos % 8) : Nat) : Int))

theorem flip_val (xs : List Int) (hb : ∀ x ∈ xs, 0 ≤ x ∧ x < 256) (pos : Nat) (hx : pos / 8 < xs.length) :
    (∀ x ∈ flipI xs pos, 0 ≤ x ∧ x < 256) ∧ CrcM.val (nats (flipI xs pos)) = CrcM.val (nats xs) ^^^ 2 ^ pos ∧ (flipI xs pos).length = xs.length := by
  have hrd : rd xs ((pos / 8 : Nat) : Int) = xs[pos / 8] := by
    show xs.getD (((pos / 8 : Nat) : Int)).toNat 0 = _
    rw [Int.toNat_natCast]
    simp [hx]
  have hx8 := hb _ (List.getElem_mem hx)
  have h2 : 2 ^ (pos % 8) ≤ 2 ^ 7 := Nat.pow_le_pow_right (by omega) (by omega)
  have e : Go.bits .xor .u8 (rd xs ((pos / 8 : Nat) : Int)) ((2 ^ (pos % 8) : Nat) : Int) = ((xs[pos / 8].toNat ^^^ 2 ^ (pos % 8) : Nat) : Int) := by
    rw [hrd]
    generalize 2 ^ (pos % 8) = z at *
    rw [u8_xor _ _ hx8.1 hx8.2 (by omega) (by omega), Int.toNat_natCast]
  have hlt : xs[pos / 8].toNat ^^^ 2 ^ (pos % 8) < 256 := Nat.xor_lt_two_pow (n := 8) (by omega) (by omega)
  unfold flipI
  rw [e]
  refine ⟨fun x hm => ?_, ?_, by simp⟩
  · rcases List.mem_or_eq_of_mem_set hm with h | h
    · exact hb x h
    · subst h; omega
  · have h3 := CrcM.val_set (nats xs) (pos / 8) (2 ^ (pos % 8)) (by simp [nats, hx])
    have h4 : (nats xs).getD (pos / 8) 0 = xs[pos / 8].toNat := by simp [nats, hx]
    rw [h4] at h3
    have h5 : nats (xs.set (pos / 8) ((xs[pos / 8].toNat ^^^ 2 ^ (pos % 8) : Nat) : Int)) = (nats xs).set (pos / 8) (xs[pos / 8].toNat ^^^ 2 ^ (pos % 8)) := by
      unfold nats
      rw [List.map_set, Int.toNat_natCast]
    rw [h5, h3, show (256 : Nat) = 2 ^ 8 from rfl, ← Nat.pow_mul, ← Nat.pow_add, Nat.div_add_mod]

theorem half {t : Nat} (h : t < 4294967296) : (Int.tdiv (t : Int) 2) % 4294967296 = ((t / 2 : Nat) : Int) := by rw [Int.tdiv_eq_ediv_of_nonneg (by omega)]; omega

theorem odd_round (k t i at_ : Nat) (xs : List Int) (hi : i < 32) (ht : t < 4294967296) (hat : at_ + 32 ≤ 8 * xs.length) (hl : xs.length ≤ 100000) (hk : 10 ≤ k) (hodd : t % 2 = 1) :
    warrantorref03_Turn.l0 (k + 2) (at_ : Int) (t : Int) xs (i : Int) = warrantorref03_Turn.l0 (k - (at_ + i) % 8 - 1) (at_ : Int) ((t / 2 : Nat) : Int) (flipI xs (at_ + i)) ((i + 1 : Nat) : Int) := by
  have eW : wrap64 ((at_ : Int) + i) = ((at_ + i : Nat) : Int) := by unfold wrap64; omega
  have eL : wrap64 (8 * (xs.length : Int)) = 8 * (xs.length : Int) := by unfold wrap64; omega
  have hin := inner (at_ : Int) (t : Int) (i : Int) ((at_ + i : Nat) : Int) xs (by omega) (by omega) (by omega) ((at_ + i) % 8) k 0 1 0 rfl rfl (by omega) (by omega)
  have e1 : (((at_ + i : Nat) : Int) / 8).toNat = (at_ + i) / 8 := by omega
  have e2 : (((at_ + i : Nat) : Int) % 8).toNat = (at_ + i) % 8 := by omega
  have e3 : ((at_ + i : Nat) : Int) / 8 = (((at_ + i) / 8 : Nat) : Int) := by omega
  rw [e1, e2, e3, half ht, step_w (by omega)] at hin
  simp only [warrantorref03_Turn.l0]
  rw [if_pos (by omega), Int.tmod_eq_emod_of_nonneg (by omega), if_pos (by omega), eW, eL, decide_eq_true (by omega)]
  simp only [warrantorref03_Turn.j1, if_true]
  rw [eW]
  exact hin

theorem even_round (k t i at_ : Nat) (xs : List Int) (hi : i < 32) (ht : t < 4294967296) (hodd : ¬ t % 2 = 1) :
    warrantorref03_Turn.l0 (k + 2) (at_ : Int) (t : Int) xs (i : Int) = warrantorref03_Turn.l0 k (at_ : Int) ((t / 2 : Nat) : Int) xs ((i + 1 : Nat) : Int) := by
  simp only [warrantorref03_Turn.l0]
  rw [if_pos (by omega), Int.tmod_eq_emod_of_nonneg (by omega), if_neg (by omega)]
  simp only [warrantorref03_Turn.j1]
  rw [if_neg (by decide), half ht, step_w (by omega)]

theorem turn_loop : ∀ (d k t : Nat) (xs : List Int) (i at_ : Nat), (∀ x ∈ xs, 0 ≤ x ∧ x < 256) → i + d = 32 → t < 2 ^ d → at_ + 32 ≤ 8 * xs.length → xs.length ≤ 100000 → 20 * d < k →
    ∃ r, warrantorref03_Turn.l0 k (at_ : Int) (t : Int) xs (i : Int) = some r ∧ r.length = xs.length ∧ (∀ x ∈ r, 0 ≤ x ∧ x < 256) ∧ CrcM.val (nats r) = CrcM.val (nats xs) ^^^ (2 ^ (at_ + i) * t)
  | 0, k, t, xs, i, at_, hb, hi, ht, hat, hl, hk => by
    obtain ⟨k, rfl⟩ : ∃ m, k = m + 1 := ⟨k - 1, by omega⟩
    have h0 : t = 0 := by simpa using ht
    subst h0
    refine ⟨xs, ?_, rfl, hb, by simp⟩
    simp only [warrantorref03_Turn.l0]
    rw [if_neg (by omega)]
  | d + 1, k, t, xs, i, at_, hb, hi, ht, hat, hl, hk => by
    obtain ⟨k, rfl⟩ : ∃ m, k = m + 2 := ⟨k - 2, by omega⟩
    have h32 : 2 ^ (d + 1) ≤ 2 ^ 32 := Nat.pow_le_pow_right (by omega) (by omega)
    have e32 : (2 : Nat) ^ 32 = 4294967296 := by decide
    have ht32 : t < 4294967296 := by rw [e32] at h32; omega
    have ht2 : t / 2 < 2 ^ d := by rw [Nat.pow_succ] at ht; omega
    by_cases hodd : t % 2 = 1
    · have hq := flip_val xs hb (at_ + i) (by omega)
      obtain ⟨r, hr, hlen, hbr, hv⟩ := turn_loop d (k - (at_ + i) % 8 - 1) (t / 2) (flipI xs (at_ + i)) (i + 1) at_ hq.1 (by omega) ht2 (by rw [hq.2.2]; exact hat) (by rw [hq.2.2]; exact hl) (by omega)
      refine ⟨r, ?_, by rw [hlen, hq.2.2], hbr, ?_⟩
      · rw [odd_round k t i at_ xs (by omega) ht32 hat hl (by omega) hodd]
        exact hr
      · rw [hv, hq.2.1, Nat.xor_assoc, ← Nat.add_assoc, odd_eq _ _ hodd]
    · obtain ⟨r, hr, hlen, hbr, hv⟩ := turn_loop d k (t / 2) xs (i + 1) at_ hb (by omega) ht2 hat hl (by omega)
      refine ⟨r, ?_, hlen, hbr, ?_⟩
      · rw [even_round k t i at_ xs (by omega) ht32 hodd]
        exact hr
      · rw [hv, ← Nat.add_assoc, Nat.pow_succ, Nat.mul_assoc, show 2 * (t / 2) = t by omega]


/-- bits that are turned -/
theorem turn_calls {A : Option Addr} {c : Nat} {l : List Int} {w : World} (hL : (Kd.int .u8).C w A l.length l) (hc : l.length ≤ c) (hb : ∀ x ∈ l, 0 ≤ x ∧ x < 256) (hl : l.length ≤ 100000) (at_ t : Nat) (ht : t < 4294967296) (hat : at_ + 32 ≤ 8 * l.length) :
    ∃ r, (r.length = l.length ∧ (∀ x ∈ r, 0 ≤ x ∧ x < 256) ∧ CrcM.val (nats r) = CrcM.val (nats l) ^^^ (2 ^ at_ * t)) ∧ Calls Try.prog 18 #[.slice A l.length c, .int .i64 (at_ : Int), .int .u32 (t : Int)] w fun e w' => ∃ v0_ : Value, e = .returned (v0_) ∧ Kd.R (Kd.int .u8) 5 w' w.heap.size (fun _ => True) v0_ r ∧ Below w.heap.size w w' := by
  have e32 : (2 : Nat) ^ 32 = 4294967296 := by decide
  obtain ⟨r, hr, h1, h2, h3⟩ := turn_loop 32 1000 t l 0 at_ hb (by omega) (by rw [e32]; exact ht) hat hl (by omega)
  refine ⟨r, ⟨h1, h2, by simpa using h3⟩, PAll.warrantorref03_Turn.calls 1000 A c l _ _ r w hL hc ?_⟩
  unfold warrantorref03_Turn.f
  simp only [Option.bind_some, List.nil_append, List.length_nil, Nat.zero_add]
  rw [if_pos (by omega)]
  exact hr
end Go.Proofs.Ytnohflfpahokiaa.Sec
set_option linter.unusedVariables false
set_option linter.unusedSimpArgs false
namespace Go.Proofs.Ytnohflfpahokiaa.Sec
open Go Go.RowKit Go.Proofs.YtnohflfpahokiaaW.PrintWords Go.Proofs.YtnohflfpahokiaaW.PrintLast Go.Proofs.Ytnohflfpahokiaa.LebM Go.Proofs.Ytnohflfpahokiaa.Leb
open Go.Proofs.Ytnohflfpahokiaa.PAll (S39 k39)
open Go.Proofs.Ytnohflfpahokiaa.Crc (sumI sumI_range nats nats_lt neg_lt neg_neg)
open Go.Proofs.Ytnohflfpahokiaa.Head (head5)

theorem xor_low {a x : Nat} (h : a < 256) : (a ^^^ 256 * x) % 256 = a ∧ (a ^^^ 256 * x) / 256 = x := by
  have h1 := Nat.xor_mod_two_pow (a := a) (b := 256 * x) (n := 8)
  have h2 := Nat.shiftRight_xor_distrib (a := a) (b := 256 * x) (i := 8)
  rw [Nat.shiftRight_eq_div_pow, Nat.shiftRight_eq_div_pow, Nat.shiftRight_eq_div_pow] at h2
  rw [show (2 : Nat) ^ 8 = 256 from rfl] at h1 h2
  rw [h1, h2, Nat.mul_mod_right, Nat.mod_eq_of_lt h, Nat.mul_div_cancel_left _ (by omega), Nat.div_eq_of_lt h]
  simp
theorem val_app : ∀ (a c : List Nat), CrcM.val (a ++ c) = CrcM.val a ^^^ 256 ^ a.length * CrcM.val c
  | [], c => by simp [CrcM.val]
  | x :: a, c => by
    simp only [List.cons_append, CrcM.val, List.length_cons]
    rw [val_app a c, show (256 : Nat) = 2 ^ 8 from rfl, CrcM.mul_xor, ← Nat.xor_assoc, ← Nat.pow_mul, ← Nat.pow_mul, ← Nat.mul_assoc, ← Nat.pow_add, show 8 + 8 * a.length = 8 * (a.length + 1) from by omega]
theorem val_inj : ∀ {p q : List Nat} {x y : Nat}, (∀ z ∈ p, z < 256) → (∀ z ∈ q, z < 256) → p.length = q.length → CrcM.val p ^^^ 256 ^ p.length * x = CrcM.val q ^^^ 256 ^ q.length * y → p = q ∧ x = y
  | [], [], x, y, _, _, _, h => by simpa [CrcM.val] using h
  | a :: p, b :: q, x, y, hp, hq, hl, h => by
    have key : ∀ (a : Nat) (p : List Nat) (x : Nat), CrcM.val (a :: p) ^^^ 256 ^ (a :: p).length * x = a ^^^ 256 * (CrcM.val p ^^^ 256 ^ p.length * x) := by
      intro a p x
      simp only [CrcM.val, List.length_cons]
      rw [show (256 : Nat) = 2 ^ 8 from rfl, CrcM.mul_xor, ← Nat.xor_assoc, ← Nat.pow_mul, ← Nat.pow_mul, ← Nat.mul_assoc (2 ^ 8), ← Nat.pow_add, show 8 + 8 * p.length = 8 * (p.length + 1) from by omega]
    rw [key, key] at h
    have ha := xor_low (x := CrcM.val p ^^^ 256 ^ p.length * x) (hp a List.mem_cons_self)
    have hb := xor_low (x := CrcM.val q ^^^ 256 ^ q.length * y) (hq b List.mem_cons_self)
    rw [h] at ha
    have e1 : a = b := ha.1.symm.trans hb.1
    have e2 := ha.2.symm.trans hb.2
    obtain ⟨e3, e4⟩ := val_inj (fun z hz => hp z (List.mem_cons_of_mem _ hz)) (fun z hz => hq z (List.mem_cons_of_mem _ hz)) (by simpa using hl) e2
    exact ⟨by rw [e1, e3], e4⟩
theorem nats_inj {a b : List Int} (ha : ∀ x ∈ a, 0 ≤ x ∧ x < 256) (hb : ∀ x ∈ b, 0 ≤ x ∧ x < 256) (h : nats a = nats b) : a = b := by
  have key : ∀ (a : List Int), (∀ x ∈ a, 0 ≤ x ∧ x < 256) → (nats a).map (fun n : Nat => (n : Int)) = a := by
    intro a ha
    unfold nats
    rw [List.map_map]
    conv => rhs; rw [← List.map_id a]
    refine List.map_congr_left fun x hx => ?_
    have := ha x hx
    simp only [Function.comp, id]
    omega
  rw [← key a ha, ← key b hb, h]
theorem nats_app (a b : List Int) : nats (a ++ b) = nats a ++ nats b := List.map_append
theorem nats_len (a : List Int) : (nats a).length = a.length := List.length_map _
/-- bytes in which only a part behind some of them is turned -/
theorem turned_split {b r p z : List Int} (hb : b = p ++ z) (hbb : ∀ x ∈ b, 0 ≤ x ∧ x < 256) (hrb : ∀ x ∈ r, 0 ≤ x ∧ x < 256) (hl : r.length = b.length) {at_ t : Nat} (hv : CrcM.val (nats r) = CrcM.val (nats b) ^^^ 2 ^ (8 * p.length + at_) * t) :
    ∃ z', r = p ++ z' ∧ z'.length = z.length ∧ CrcM.val (nats z') = CrcM.val (nats z) ^^^ 2 ^ at_ * t := by
  have hlen : b.length = p.length + z.length := by rw [hb]; simp
  have hr : r = r.take p.length ++ r.drop p.length := (List.take_append_drop _ _).symm
  have htl : (r.take p.length).length = p.length := by rw [List.length_take]; omega
  have hpb : ∀ x ∈ p, 0 ≤ x ∧ x < 256 := fun x hx => hbb x (by rw [hb]; exact List.mem_append_left _ hx)
  have htb : ∀ x ∈ r.take p.length, 0 ≤ x ∧ x < 256 := fun x hx => hrb x (List.mem_of_mem_take hx)
  have e1 : CrcM.val (nats (r.take p.length)) ^^^ 256 ^ (nats (r.take p.length)).length * CrcM.val (nats (r.drop p.length)) = CrcM.val (nats p) ^^^ 256 ^ (nats p).length * (CrcM.val (nats z) ^^^ 2 ^ at_ * t) := by
    rw [← val_app, ← nats_app, ← hr, hv, hb, nats_app, val_app, show (256 : Nat) = 2 ^ 8 from rfl, ← Nat.pow_mul, nats_len, CrcM.mul_xor, ← Nat.xor_assoc, ← Nat.mul_assoc, ← Nat.pow_add]
  obtain ⟨e2, e3⟩ := val_inj (nats_lt htb) (nats_lt hpb) (by rw [nats_len, nats_len, htl]) e1
  have e4 := nats_inj htb hpb e2
  exact ⟨r.drop p.length, by rw [← e4, htl]; exact hr, by rw [List.length_drop]; omega, e3⟩
/-- what a word is worth -/
def leW (wd : List Int) : Int := wd.getD 0 0 + 256 * wd.getD 1 0 + 65536 * wd.getD 2 0 + 16777216 * wd.getD 3 0
theorem xor_add {a x : Nat} (h : a < 256) : a ^^^ 256 * x = a + 256 * x := by
  have := xor_low (x := x) h
  omega
theorem val_word {wd : List Int} (hb : ∀ x ∈ wd, 0 ≤ x ∧ x < 256) (hl : wd.length = 4) : ((CrcM.val (nats wd) : Nat) : Int) = leW wd := by
  match wd, hl with
  | [a, b, c, d], _ =>
    have h0 := hb a (by simp)
    have h1 := hb b (by simp)
    have h2 := hb c (by simp)
    have h3 := hb d (by simp)
    show ((CrcM.val [a.toNat, b.toNat, c.toNat, d.toNat] : Nat) : Int) = a + 256 * b + 65536 * c + 16777216 * d
    simp only [CrcM.val]
    rw [xor_add (by omega), xor_add (by omega), xor_add (by omega), xor_add (by omega)]
    omega
theorem fold_word {pre wd : List Int} (hp : ∀ x ∈ pre, 0 ≤ x ∧ x < 256) (hb : ∀ x ∈ wd, 0 ≤ x ∧ x < 256) (hl : wd.length = 4) (h : sumI pre = leW wd) : CrcM.fold (CrcM.neg 0) (nats (pre ++ wd)) = CrcM.steps 32 4294967295 := by
  have hF : CrcM.fold (CrcM.neg 0) (nats pre) < 4294967296 := CrcM.fold_lt _ neg_lt (nats_lt hp)
  rw [nats_app, CrcM.fold_append, CrcM.fold_val, nats_len, hl]
  have e : CrcM.val (nats wd) = CrcM.neg (CrcM.fold (CrcM.neg 0) (nats pre)) := by
    have h1 := val_word hb hl
    rw [← h] at h1
    unfold sumI CrcM.sum CrcM.more at h1
    omega
  rw [e, CrcM.neg_xor hF, Nat.xor_comm 4294967295, ← Nat.xor_assoc, Nat.xor_self, Nat.zero_xor]
theorem turned_sum {q ys ys' wd wd' : List Int} (hq : ∀ x ∈ q, 0 ≤ x ∧ x < 256) (hy : ∀ x ∈ ys, 0 ≤ x ∧ x < 256) (hy' : ∀ x ∈ ys', 0 ≤ x ∧ x < 256) (hw : ∀ x ∈ wd, 0 ≤ x ∧ x < 256) (hw' : ∀ x ∈ wd', 0 ≤ x ∧ x < 256)
    (hl : wd.length = 4) (hl' : wd'.length = 4) (hyl : ys'.length = ys.length) (hs : sumI (q ++ ys) = leW wd) {at_ t : Nat} (hat : at_ ≤ 8 * (ys.length + 4)) (ht : t < 4294967296) (h0 : t ≠ 0) (hv : CrcM.val (nats (ys' ++ wd')) = CrcM.val (nats (ys ++ wd)) ^^^ 2 ^ at_ * t) : sumI (q ++ ys') ≠ leW wd' := by
  intro h
  have hqy : ∀ (a : List Int), (∀ x ∈ a, 0 ≤ x ∧ x < 256) → ∀ x ∈ q ++ a, 0 ≤ x ∧ x < 256 := fun a ha x hx => by
    rcases List.mem_append.1 hx with hx | hx
    · exact hq x hx
    · exact ha x hx
  have f1 := fold_word (hqy ys hy) hw hl hs
  have f2 := fold_word (hqy ys' hy') hw' hl' h
  refine CrcM.burst (l := nats (q ++ ys ++ wd)) (l' := nats (q ++ ys' ++ wd')) (c := CrcM.neg 0) (at_ := 8 * q.length + at_) (t := t) ?_ ?_ ?_ ht h0 (f2.trans f1.symm)
  · rw [nats_len, nats_len]; simp; omega
  · rw [List.append_assoc, List.append_assoc, nats_app, nats_app q, val_app, val_app, hv, show (256 : Nat) = 2 ^ 8 from rfl, ← Nat.pow_mul, nats_len, CrcM.mul_xor, ← Nat.xor_assoc, ← Nat.mul_assoc, ← Nat.pow_add]
  · rw [nats_len]; simp; omega
theorem odd_init : ∀ {l : List S39} {s : S39} {last : Int}, oddM last (l ++ [s]) = false → oddM last l = false
  | [], s, last, h => rfl
  | x :: l, s, last, h => by
    have := odd_cons (s := x) (r := l ++ [s]) h
    exact odd_mk this.1 this.2.1 (odd_init this.2.2)
/-- what Get tells of the bytes of sections, with bits of the last body and its sum turned -/
theorem get_turned {l : List S39} {s : S39} (hF : Fine 0 (l ++ [s])) (hn : l.length ≤ 15) {r : List Int} (hrb : ∀ x ∈ r, 0 ≤ x ∧ x < 256) (hr : r.length = (putM (l ++ [s])).length) {at_ t : Nat} (hat : at_ ≤ 8 * (s.f1.length + 4)) (ht : t < 4294967296) (h0 : t ≠ 0)
    (hv : CrcM.val (nats r) = CrcM.val (nats (putM (l ++ [s]))) ^^^ 2 ^ (8 * ((putM (l ++ [s])).length - (s.f1.length + 4)) + at_) * t) : (getMM r).2.2 = 42 := by
  have hs := hF.2 s (by simp)
  have hfi : Fine 0 l := ⟨odd_init hF.1, fun x hx => hF.2 x (List.mem_append_left _ hx)⟩
  have hg : Good (l ++ [s]) := fun x hx => ⟨(hF.2 x hx).1, by have := (hF.2 x hx).2; omega⟩
  have hpb := putM_range hg
  have hpe : putM (l ++ [s]) = (head5 ++ secsB l ++ ([s.f0 % 256] ++ putN 9 (s.f1.length : Int))) ++ (s.f1 ++ wordN (sumI (preB s.f0 s.f1))) := by
    unfold putM
    rw [secsB_app, secsB_cons]
    unfold secB preB
    simp [secsB]
  have hzl : (s.f1 ++ wordN (sumI (preB s.f0 s.f1))).length = s.f1.length + 4 := by rw [List.length_append]; rfl
  have hk : (putM (l ++ [s])).length - (s.f1.length + 4) = (head5 ++ secsB l ++ ([s.f0 % 256] ++ putN 9 (s.f1.length : Int))).length := by
    rw [hpe, List.length_append (bs := s.f1 ++ wordN (sumI (preB s.f0 s.f1))), hzl]
    omega
  rw [hk] at hv
  obtain ⟨z, hz, hzlen, hzv⟩ := turned_split hpe hpb hrb hr hv
  rw [hzl] at hzlen
  have hzs : z = z.take s.f1.length ++ z.drop s.f1.length := (List.take_append_drop _ _).symm
  have hyl : (z.take s.f1.length).length = s.f1.length := by rw [List.length_take]; omega
  have hwl : (z.drop s.f1.length).length = 4 := by rw [List.length_drop]; omega
  have hzb : ∀ x ∈ z, 0 ≤ x ∧ x < 256 := fun x hx => hrb x (by rw [hz]; exact List.mem_append_right _ hx)
  obtain ⟨ys, hys⟩ : ∃ ys, z.take s.f1.length = ys := ⟨_, rfl⟩
  obtain ⟨wd, hwd⟩ : ∃ wd, z.drop s.f1.length = wd := ⟨_, rfl⟩
  have hyb : ∀ x ∈ ys, 0 ≤ x ∧ x < 256 := fun x hx => hzb x (by rw [← hys] at hx; exact List.mem_of_mem_take hx)
  have hwb : ∀ x ∈ wd, 0 ≤ x ∧ x < 256 := fun x hx => hzb x (by rw [← hwd] at hx; exact List.mem_of_mem_drop hx)
  rw [hys] at hyl
  rw [hwd] at hwl
  rw [hys, hwd] at hzs
  rw [hzs] at hzv
  have hqb : ∀ x ∈ ([s.f0 % 256] ++ putN 9 (s.f1.length : Int)), 0 ≤ x ∧ x < 256 := by
    intro x hx
    rcases List.mem_append.1 hx with hx | hx
    · simp at hx; omega
    · exact putN_byte 9 _ (by omega) (by have := hs.2; omega) x hx
  have hpre : ∀ a : List Int, a.length = s.f1.length → preB s.f0 a = ([s.f0 % 256] ++ putN 9 (s.f1.length : Int)) ++ a := fun a ha => by unfold preB; rw [ha]; simp
  have hne := turned_sum (q := [s.f0 % 256] ++ putN 9 (s.f1.length : Int)) (ys := s.f1) (ys' := ys) (wd := wordN (sumI (preB s.f0 s.f1))) (wd' := wd) hqb hs.1 hyb (wordN_range _) hwb rfl hwl hyl (by
    rw [← hpre s.f1 rfl]
    exact (word_back (sumI_range _)).symm) hat ht h0 hzv
  rw [← hpre ys hyl] at hne
  have hre : r = head5 ++ (secsB l ++ (preB s.f0 ys ++ (wd ++ []))) := by
    rw [hz, hzs, hpre ys hyl]
    simp
  have h1 : begM r head5 = 5 := by rw [hre]; exact begM_self head5 _
  have h2 : r.drop 5 = secsB l ++ (preB s.f0 ys ++ (wd ++ [])) := by rw [hre]; exact List.drop_left' rfl
  unfold getMM
  rw [if_neg (by omega)]
  obtain ⟨f', hf', he⟩ := getL_pre (bs := r.drop 5) l _ (r.length + 1) 0 0 [] (by rw [List.drop_zero]; exact h2) hfi (by omega) (by simp; omega) (by rw [List.length_drop]; omega)
  rw [he]
  have hd := drop_more (p := 0) (bs := r.drop 5) (by rw [List.drop_zero]; exact h2)
  obtain ⟨g1, g2, g3, g4⟩ := sec_at hd (by have := hs.2; omega) hwl
  have hlen := len_of hd
  rw [List.length_append, preB_length] at hlen
  obtain ⟨f', rfl⟩ : ∃ m, f' = m + 1 := ⟨f' - 1, by omega⟩
  have hE : gE (r.drop 5) (0 + (secsB l).length) (lastOf 0 l) = 42 := by
    unfold gE
    rw [g3, g2]
    simp only
    rw [if_neg (by simp), g4]
    exact if_pos hne
  unfold getL
  rw [if_neg (by omega), hE]
  rfl
end Go.Proofs.Ytnohflfpahokiaa.Sec
