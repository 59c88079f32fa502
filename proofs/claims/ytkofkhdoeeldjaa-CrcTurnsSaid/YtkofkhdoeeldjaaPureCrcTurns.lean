/- CrcTurns: bytes of which some bits within 32 in a row are turned have another sum. No condition. -/
import Derived.Test.YtkofkhdoeeldjaaPAllx3
import Derived.Test.YtkofkhdoeeldjaaBridge
set_option linter.unusedVariables false
set_option linter.unusedSimpArgs false
namespace Go.Proofs.Ytkofkhdoeeldjaa.Pure
open Go Go.RowKit Go.Proofs.Ytkofkhdoeeldjaa.PAll Go.Proofs.YtkofkhdoeeldjaaW.PrintWords Go.Proofs.YtkofkhdoeeldjaaW.PrintLast
open Go.Proofs.Ytkofkhdoeeldjaa Go.Proofs.Ytkofkhdoeeldjaa.Bridge

theorem two_xor_one (q : Nat) : 1 ^^^ 2 * q = 2 * q + 1 := by
  have h1 := CrcM.xor_div2 1 (2 * q)
  have h2 := CrcM.xor_mod2 1 (2 * q)
  rw [show 1 / 2 = 0 from rfl, Nat.mul_div_cancel_left _ (by omega), Nat.zero_xor] at h1
  omega

theorem odd_eq (p t : Nat) (h : t % 2 = 1) : 2 ^ p ^^^ 2 ^ (p + 1) * (t / 2) = 2 ^ p * t := by
  rw [Nat.pow_succ, Nat.mul_assoc]
  have := CrcM.mul_xor p 1 (2 * (t / 2))
  rw [Nat.mul_one] at this
  rw [← this, two_xor_one]
  congr 1
  omega

theorem inner (at_ t i pos : Int) (xs : List Int) (hp : 0 ≤ pos) (hp2 : pos < 1000000) (hx : pos / 8 < xs.length) : ∀ (d k j : Nat) (one jj : Int), one = ((2 ^ j : Nat) : Int) → jj = j → jj + d = pos % 8 → d < k →
    warrantorref03_Turn.l1 k at_ t xs i pos one jj = warrantorref03_Turn.l0 (k - d - 1) at_ ((Int.tdiv t 2) % 4294967296) (xs.set (pos / 8).toNat (Go.bits .xor .u8 (rd xs (pos / 8)) ((2 ^ (pos % 8).toNat : Nat) : Int))) (wrap64 (i + 1))
  | 0, k, j, one, jj, ho, hjj, hj, hk => by
    obtain ⟨k, rfl⟩ : ∃ m, k = m + 1 := ⟨k - 1, by omega⟩
    simp only [warrantorref03_Turn.l1]
    rw [Int.tmod_eq_emod_of_nonneg hp, Int.tdiv_eq_ediv_of_nonneg hp, show wrap64 (pos / 8) = pos / 8 by unfold wrap64; omega, if_neg (by omega), if_pos (by omega), if_pos hx, show (pos % 8).toNat = j by omega, ho]
    rfl
  | d + 1, k, j, one, jj, ho, hjj, hj, hk => by
    obtain ⟨k, rfl⟩ : ∃ m, k = m + 1 := ⟨k - 1, by omega⟩
    have hj7 : j < 7 := by omega
    have h2 : 2 ^ j ≤ 2 ^ 6 := Nat.pow_le_pow_right (by omega) (by omega)
    have := inner at_ t i pos xs hp hp2 hx d k (j + 1) ((2 * one) % 256) (wrap64 (jj + 1)) (by rw [Nat.pow_succ]; omega) (by unfold wrap64; omega) (by unfold wrap64; omega) (by omega)
    simp only [warrantorref03_Turn.l1]
    rw [Int.tmod_eq_emod_of_nonneg hp, if_pos (by omega), this, show k + 1 - (d + 1) - 1 = k - d - 1 by omega]

/-- a bit turned: the bytes stay bytes, and the number of them all is turned at that bit -/
def flip (xs : List Int) (pos : Nat) : List Int := xs.set (pos / 8) (Go.bits .xor .u8 (rd xs ((pos / 8 : Nat) : Int)) ((2 ^ (pos % 8) : Nat) : Int))

theorem flip_val (xs : List Int) (hb : ∀ x ∈ xs, 0 ≤ x ∧ x < 256) (pos : Nat) (hx : pos / 8 < xs.length) :
    (∀ x ∈ flip xs pos, 0 ≤ x ∧ x < 256) ∧ CrcM.val (nats (flip xs pos)) = CrcM.val (nats xs) ^^^ 2 ^ pos ∧ (flip xs pos).length = xs.length := by
  have hrd : rd xs ((pos / 8 : Nat) : Int) = xs[pos / 8] := by
    show xs.getD (((pos / 8 : Nat) : Int)).toNat 0 = _
    rw [Int.toNat_natCast]
    simp [hx]
  have hx8 := hb _ (List.getElem_mem hx)
  have h2 : 2 ^ (pos % 8) ≤ 2 ^ 7 := Nat.pow_le_pow_right (by omega) (by omega)
  have e : Go.bits .xor .u8 (rd xs ((pos / 8 : Nat) : Int)) ((2 ^ (pos % 8) : Nat) : Int) = ((xs[pos / 8].toNat ^^^ 2 ^ (pos % 8) : Nat) : Int) := by
    rw [hrd]
    generalize 2 ^ (pos % 8) = z at *
    rw [u8_xor _ _ hx8.1 hx8.2 (by omega) (by omega), Int.toNat_natCast]
  have hlt : xs[pos / 8].toNat ^^^ 2 ^ (pos % 8) < 256 := Nat.xor_lt_two_pow (n := 8) (by omega) (by omega)
  unfold flip
  rw [e]
  refine ⟨fun x hm => ?_, ?_, by simp⟩
  · rcases List.mem_or_eq_of_mem_set hm with h | h
    · exact hb x h
    · subst h; omega
  · have h3 := CrcM.val_set (nats xs) (pos / 8) (2 ^ (pos % 8)) (by simp [nats, hx])
    have h4 : (nats xs).getD (pos / 8) 0 = xs[pos / 8].toNat := by simp [nats, hx]
    rw [h4] at h3
    have h5 : nats (xs.set (pos / 8) ((xs[pos / 8].toNat ^^^ 2 ^ (pos % 8) : Nat) : Int)) = (nats xs).set (pos / 8) (xs[pos / 8].toNat ^^^ 2 ^ (pos % 8)) := by
      unfold nats
      rw [List.map_set, Int.toNat_natCast]
    rw [h5, h3, show (256 : Nat) = 2 ^ 8 from rfl, ← Nat.pow_mul, ← Nat.pow_add, Nat.div_add_mod]

theorem half {t : Nat} (h : t < 4294967296) : (Int.tdiv (t : Int) 2) % 4294967296 = ((t / 2 : Nat) : Int) := by rw [Int.tdiv_eq_ediv_of_nonneg (by omega)]; omega

theorem odd_round (k t i at_ : Nat) (xs : List Int) (hi : i < 32) (ht : t < 4294967296) (hat : at_ + 32 ≤ 8 * xs.length) (hl : xs.length ≤ 3000) (hk : 10 ≤ k) (hodd : t % 2 = 1) :
    warrantorref03_Turn.l0 (k + 2) (at_ : Int) (t : Int) xs (i : Int) = warrantorref03_Turn.l0 (k - (at_ + i) % 8 - 1) (at_ : Int) ((t / 2 : Nat) : Int) (flip xs (at_ + i)) ((i + 1 : Nat) : Int) := by
  have eW : wrap64 ((at_ : Int) + i) = ((at_ + i : Nat) : Int) := by unfold wrap64; omega
  have eL : wrap64 (8 * (xs.length : Int)) = 8 * (xs.length : Int) := by unfold wrap64; omega
  have hin := inner (at_ : Int) (t : Int) (i : Int) ((at_ + i : Nat) : Int) xs (by omega) (by omega) (by omega) ((at_ + i) % 8) k 0 1 0 rfl rfl (by omega) (by omega)
  have e1 : (((at_ + i : Nat) : Int) / 8).toNat = (at_ + i) / 8 := by omega
  have e2 : (((at_ + i : Nat) : Int) % 8).toNat = (at_ + i) % 8 := by omega
  have e3 : ((at_ + i : Nat) : Int) / 8 = (((at_ + i) / 8 : Nat) : Int) := by omega
  rw [e1, e2, e3, half ht, step_w (by omega)] at hin
  simp only [warrantorref03_Turn.l0]
  rw [if_pos (by omega), Int.tmod_eq_emod_of_nonneg (by omega), if_pos (by omega), eW, eL, decide_eq_true (by omega)]
  simp only [warrantorref03_Turn.j1, if_true]
  rw [eW]
  exact hin

theorem even_round (k t i at_ : Nat) (xs : List Int) (hi : i < 32) (ht : t < 4294967296) (hodd : ¬ t % 2 = 1) :
    warrantorref03_Turn.l0 (k + 2) (at_ : Int) (t : Int) xs (i : Int) = warrantorref03_Turn.l0 k (at_ : Int) ((t / 2 : Nat) : Int) xs ((i + 1 : Nat) : Int) := by
  simp only [warrantorref03_Turn.l0]
  rw [if_pos (by omega), Int.tmod_eq_emod_of_nonneg (by omega), if_neg (by omega)]
  simp only [warrantorref03_Turn.j1]
  rw [if_neg (by decide), half ht, step_w (by omega)]

theorem turn_loop : ∀ (d k t : Nat) (xs : List Int) (i at_ : Nat), (∀ x ∈ xs, 0 ≤ x ∧ x < 256) → i + d = 32 → t < 2 ^ d → at_ + 32 ≤ 8 * xs.length → xs.length ≤ 3000 → 20 * d < k →
    ∃ r, warrantorref03_Turn.l0 k (at_ : Int) (t : Int) xs (i : Int) = some r ∧ r.length = xs.length ∧ (∀ x ∈ r, 0 ≤ x ∧ x < 256) ∧ CrcM.val (nats r) = CrcM.val (nats xs) ^^^ (2 ^ (at_ + i) * t)
  | 0, k, t, xs, i, at_, hb, hi, ht, hat, hl, hk => by
    obtain ⟨k, rfl⟩ : ∃ m, k = m + 1 := ⟨k - 1, by omega⟩
    have h0 : t = 0 := by simpa using ht
    subst h0
    refine ⟨xs, ?_, rfl, hb, by simp⟩
    simp only [warrantorref03_Turn.l0]
    rw [if_neg (by omega)]
  | d + 1, k, t, xs, i, at_, hb, hi, ht, hat, hl, hk => by
    obtain ⟨k, rfl⟩ : ∃ m, k = m + 2 := ⟨k - 2, by omega⟩
    have h32 : 2 ^ (d + 1) ≤ 2 ^ 32 := Nat.pow_le_pow_right (by omega) (by omega)
    have e32 : (2 : Nat) ^ 32 = 4294967296 := by decide
    have ht32 : t < 4294967296 := by rw [e32] at h32; omega
    have ht2 : t / 2 < 2 ^ d := by rw [Nat.pow_succ] at ht; omega
    by_cases hodd : t % 2 = 1
    · have hq := flip_val xs hb (at_ + i) (by omega)
      obtain ⟨r, hr, hlen, hbr, hv⟩ := turn_loop d (k - (at_ + i) % 8 - 1) (t / 2) (flip xs (at_ + i)) (i + 1) at_ hq.1 (by omega) ht2 (by rw [hq.2.2]; exact hat) (by rw [hq.2.2]; exact hl) (by omega)
      refine ⟨r, ?_, by rw [hlen, hq.2.2], hbr, ?_⟩
      · rw [odd_round k t i at_ xs (by omega) ht32 hat hl (by omega) hodd]
        exact hr
      · rw [hv, hq.2.1, Nat.xor_assoc, ← Nat.add_assoc, odd_eq _ _ hodd]
    · obtain ⟨r, hr, hlen, hbr, hv⟩ := turn_loop d k (t / 2) xs (i + 1) at_ hb (by omega) ht2 hat hl (by omega)
      refine ⟨r, ?_, hlen, hbr, ?_⟩
      · rw [even_round k t i at_ xs (by omega) ht32 hodd]
        exact hr
      · rw [hv, ← Nat.add_assoc, Nat.pow_succ, Nat.mul_assoc, show 2 * (t / 2) = t by omega]

theorem CrcTurns : warrantorlaw03_CrcTurns.Pure := by
  intro l at_ t _ hl hb hat ht
  have hb := bytes_of hb
  have hat := i64_of hat
  have ht := u32_of ht
  have e6 : warrantorlaw03_lives.f = some true := rfl
  have houter : ∀ k, warrantorlaw03_CrcTurns.j0 (k + 1) l at_ t true = some true := fun k => by
    simp only [warrantorlaw03_CrcTurns.j0, e6, Option.bind_some, if_true]
  obtain ⟨K, hK⟩ : ∃ K, K = l.length + 1000 := ⟨_, rfl⟩
  refine ⟨K + 1, ?_⟩
  unfold warrantorlaw03_CrcTurns.f
  by_cases h1 : (l.length : Int) > 3000
  · rw [if_pos h1]; exact houter _
  rw [if_neg h1]
  by_cases h2 : at_ < 0
  · rw [if_pos h2]; exact houter _
  rw [if_neg h2, show wrap64 (wrap64 (8 * (l.length : Int)) - 32) = 8 * (l.length : Int) - 32 by unfold wrap64; omega]
  by_cases h3 : at_ > 8 * (l.length : Int) - 32
  · rw [if_pos h3]; exact houter _
  rw [if_neg h3]
  by_cases h4 : t = 0
  · rw [beq_iff_eq.2 h4]; exact houter _
  rw [beq_eq_false_iff_ne.2 h4]
  have e32 : (2 : Nat) ^ 32 = 4294967296 := by decide
  obtain ⟨r, hr, hlen, hbr, hv⟩ := turn_loop 32 K t.toNat l 0 at_.toNat hb (by omega) (by rw [e32]; omega) (by omega) (by omega) (by omega)
  have hturn : warrantorref03_Turn.f K l at_ t = some r := by
    unfold warrantorref03_Turn.f
    simp only [Option.bind_some, List.nil_append, List.length_nil, Nat.zero_add]
    rw [if_pos (by omega)]
    rw [Int.toNat_of_nonneg (by omega), Int.toNat_of_nonneg (by omega)] at hr
    exact hr
  have e1 := sum_ev hb (by omega) K (by omega)
  have e2 := sum_ev hbr (by omega) K (by omega)
  have hne : CrcM.sum (nats r) ≠ CrcM.sum (nats l) := by
    intro h
    have hA : CrcM.fold (CrcM.neg 0) (nats r) < 4294967296 := CrcM.fold_lt _ neg_lt (nats_lt hbr)
    have hB : CrcM.fold (CrcM.neg 0) (nats l) < 4294967296 := CrcM.fold_lt _ neg_lt (nats_lt hb)
    have h5 := congrArg CrcM.neg h
    unfold CrcM.sum CrcM.more at h5
    rw [neg_neg hA, neg_neg hB] at h5
    exact CrcM.burst (t := t.toNat) (at_ := at_.toNat) (by simp [nats, hlen]) (by rw [hv]; simp) (by simp [nats]; omega) (by omega) (by omega) h5
  simp only [warrantorlaw03_CrcTurns.j0, e6]
  rw [if_neg (by decide)]
  simp only [Option.bind_some, if_true]
  rw [hturn]
  simp only [Option.bind_some]
  rw [e2, e1]
  simp only [Option.bind_some, Option.some.injEq, bne_iff_ne]
  intro h
  exact hne (by omega)

end Go.Proofs.Ytkofkhdoeeldjaa.Pure
