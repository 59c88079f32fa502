/- The walk of crc's 'zeros': a register behind n bytes of 0. -/
import Derived.Test.YtkofkhdoeeldjaaWalks1
import Derived.StillTailTactics
set_option linter.unusedVariables false
set_option linter.unusedSimpArgs false
namespace Go.Proofs.Ytkofkhdoeeldjaa.Walks
open Go Go.RowKit Go.Proofs.YtkofkhdoeeldjaaW.PrintWords Go.Proofs.YtkofkhdoeeldjaaW.PrintLast Go.Proofs.Ytkofkhdoeeldjaa.CrcM

/-- what 'bits' is asked of here -/
def BitsSaid : Prop := ∀ (c : Nat) (w : World), c < 4294967296 → Calls Try.prog 16 #[.int .u32 (c : Int), .int .i64 8] w fun e w' => e = .returned (.int .u32 (steps 8 c : Nat)) ∧ Drawn0 w w'

theorem pow_lt {k : Nat} (h : k < 32) : 2 ^ k < 4294967296 := Nat.pow_lt_pow_right (n := 32) (by omega) h

theorem bits_pow (hbits : BitsSaid) {k : Nat} (h : k < 32) (w : World) : Calls Try.prog 16 #[.int .u32 (IntKind.u32.wrap (2 ^ k)), .int .i64 8] w fun e w' => e = .returned (.int .u32 (steps 8 (2 ^ k) : Nat)) ∧ Drawn0 w w' := by
  have hp := pow_lt h
  have e : IntKind.u32.wrap (2 ^ k) = ((2 ^ k : Nat) : Int) := by
    rw [IntKind.wrap_u32', show ((2 : Int) ^ k) = ((2 ^ k : Nat) : Int) by rw [Int.natCast_pow]; rfl]
    exact Int.emod_eq_of_lt (Int.natCast_nonneg _) (Int.ofNat_lt.2 hp)
  rw [e]
  exact hbits _ _ hp

theorem and_one_i64 {N : Int} (h0 : 0 ≤ N) (h1 : N < 9223372036854775808) : bits .and .i64 N 1 = N % 2 := by
  show IntKind.i64.wrap ((BitVec.ofInt 64 N &&& BitVec.ofInt 64 1).toNat : Int) = _
  rw [BitVec.toNat_and, BitVec.toNat_ofInt, show (BitVec.ofInt 64 1).toNat = 1 from rfl, Nat.and_one_is_mod, IntKind.wrap_i64]
  omega

/-- what is left to be done behind one round of the doubling -/
theorem left_eq (q N C : Nat) (h : N % 2 = 1 ∨ N % 2 = 0) : steps (2 * q * (N / 2)) (if N % 2 = 1 then steps q C else C) = steps (q * N) C := by
  rcases h with h | h
  · rw [if_pos h, ← steps_add]
    congr 1
    have h2 : N = 2 * (N / 2) + 1 := by omega
    conv => rhs; rw [h2, Nat.mul_add, Nat.mul_one, ← Nat.mul_assoc, Nat.mul_comm q 2]
    omega
  · rw [if_neg (by omega)]
    congr 1
    have h2 : N = 2 * (N / 2) := by omega
    conv => rhs; rw [h2, ← Nat.mul_assoc, Nat.mul_comm q 2]

/-- one step of a register, as the program reckons it -/
theorem step_term (c : Nat) (hc : c < 4294967296) : Go.bits .xor .u32 ((c : Int) / 2) (Go.bits .and .u32 2197175160 ((-(Go.bits .and .u32 (c : Int) 1)) % 4294967296)) = ((CrcM.step c : Nat) : Int) := by
  rw [and_one c hc]
  have e : ((c : Int) / 2) = ((c / 2 : Nat) : Int) := by omega
  rw [e]
  unfold CrcM.step T
  rcases Nat.mod_two_eq_zero_or_one c with h | h
  · rw [h, show (-((0 : Nat) : Int)) % 4294967296 = 0 by decide, if_neg (by omega)]
    have h1 := and_none 2197175160 (by omega)
    have h2 := u32_xor_nat (c / 2) 0 (by omega) (by omega)
    have e3 : bits .and .u32 2197175160 0 = 0 := h1
    rw [e3]
    exact h2
  · rw [h, show (-((1 : Nat) : Int)) % 4294967296 = 4294967295 by decide, if_pos rfl]
    have h1 := and_all 2197175160 (by omega)
    have e3 : bits .and .u32 2197175160 4294967295 = 2197175160 := h1
    rw [e3]
    exact u32_xor_nat (c / 2) 2197175160 (by omega) (by omega)

theorem cols_twice (q : Nat) : cols (fun i => ofN (fun i => steps q (2 ^ i)) 32 (steps q (2 ^ i))) = cols (fun i => steps (2 * q) (2 ^ i)) :=
  cols_congr (fun i hi => by rw [of_steps q _ (steps_lt q (pow_lt hi)), ← steps_add, Nat.two_mul])

set_option maxRecDepth 100000 in
set_option maxHeartbeats 2000000 in
theorem zeros_calls (hbits : BitsSaid) (c : Nat) (hc : c < 4294967296) (n : Int) (hn0 : -9223372036854775808 ≤ n) (hn1 : n < 9223372036854775808) (w : World) :
    Calls Try.prog 18 #[.int .u32 (c : Int), .int .i64 n] w fun e w' => e = .returned (.int .u32 (steps (8 * n.toNat) c : Nat)) ∧ Below w.heap.size w w' := by
  go_enter Try.func18, Try.ntmps18
  go_wp2
  go_loopw [9] (fun i wr => ∃ k : Nat, k ≤ 32 ∧ i = .int .i64 k ∧ Aside0 (wr.heap[w.heap.size]? = some (.cells (cols (fun i => if i < k then steps 8 (2 ^ i) else 0)) 39 (0, 0))) ∧ Aside0 (Below w.heap.size w wr)) (fun i _ => 32 - (intOf i).toNat)
  case atStart => exact ⟨0, by omega, rfl, ⟨(blk_new w _).trans (by rw [cols_start]; rfl)⟩, ⟨(Below.refl _ _).alloc (Nat.le_refl _) _⟩⟩
  case round =>
    obtain ⟨k, hk, rfl, HN, HL⟩ := hrel
    by_cases hlt : k < 32
    · have hcell2 : wr.cell? ⟨w.heap.size, k, none⟩ = some (.int .u32 0) := (blk_cell HN.out k).trans ((cols_at _ hlt).trans (by simp))
      have hfr : wr.frozen? ⟨w.heap.size, k, none⟩ = false := blk_frozen HN.out k
      go_wp2
      refine start_ (n := 8) (S := fun w' => True) (ds := []) #[false, false, false, false, false, false, false, false] (by kernel_rfl) rfl rfl trivial (fun hHeld => ?_)
      refine pure_ (i := 0) (N := some 12) (v := ?_) (a' := ?_) #[true, false, false, false, false, false, false, false] rfl rfl (by kernel_rfl) (fun _ _ _ h => h) (Or.inl ⟨by rfl, ?_⟩) ?_ ?_
      rotate_left
      · intro w'
        go_simp
        with_reducible rfl
      rotate_left
      · simp only [Act.put, List.setIfInBounds_toArray, List.set_cons_zero, List.set_cons_succ, i64_w, i32_w]
        rfl
      refine pure_ (i := 1) (N := some 13) (v := ?_) (a' := ?_) #[true, true, false, false, false, false, false, false] rfl rfl (by kernel_rfl) (fun _ _ _ h => h) (Or.inl ⟨by rfl, ?_⟩) ?_ ?_
      rotate_left
      · intro w'
        go_simp
        with_reducible rfl
      rotate_left
      · simp only [Act.put, List.setIfInBounds_toArray, List.set_cons_zero, List.set_cons_succ, i64_w, i32_w]
        rfl
      refine pure_ (i := 2) (N := some 14) (v := ?_) (a' := ?_) #[true, true, true, false, false, false, false, false] rfl rfl (by kernel_rfl) (fun _ _ _ h => h) (Or.inl ⟨by rfl, ?_⟩) ?_ ?_
      rotate_left
      · intro w'
        go_simp
        with_reducible rfl
      rotate_left
      · simp only [Act.put, List.setIfInBounds_toArray, List.set_cons_zero, List.set_cons_succ, i64_w, i32_w]
        rfl
      refine pure_ (i := 3) (N := some 15) (v := ?_) (a' := ?_) #[true, true, true, true, false, false, false, false] rfl rfl (by kernel_rfl) (fun _ _ _ h => h) (Or.inl ⟨by rfl, ?_⟩) ?_ ?_
      rotate_left
      · intro w'
        go_simp
        with_reducible rfl
      rotate_left
      · simp only [Act.put, List.setIfInBounds_toArray, List.set_cons_zero, List.set_cons_succ, i64_w, i32_w]
        rfl
      refine pure_ (i := 5) (N := some 17) (v := ?_) (a' := ?_) #[true, true, true, true, false, true, false, false] rfl rfl (by kernel_rfl) (fun _ _ _ h => h) (Or.inl ⟨by rfl, ?_⟩) ?_ ?_
      rotate_left
      · intro w'
        go_simp
        with_reducible rfl
      rotate_left
      · simp only [Act.put, List.setIfInBounds_toArray, List.set_cons_zero, List.set_cons_succ, i64_w, i32_w]
        rfl
      refine one_ (i := 4) (N := some 16) #[true, true, true, true, true, true, false, false] rfl rfl (by kernel_rfl) (by decide) (fun K hK => ?_)
      refine goes_ Try.func16 (by kernel_rfl) rfl #[.int .u32 (IntKind.u32.wrap (2 ^ k)), .int .i64 8] (by rfl) rfl rfl (by simp only [List.map_toArray, List.map_cons, List.map_nil]; rfl) ?_
      with_reducible refine (bits_pow hbits hlt _).mono ?_
      rintro e w3 ⟨rfl, ⟨n3, rfl⟩⟩
      refine ⟨_, rfl, ?_⟩
      refine hK.out _ _ trivial (fun hHeld => ?_)
      clear hK K
      refine norm_ (a' := ?_) ?_ ?_
      rotate_left
      · show Act.put _ (some 16) _ = _
        simp only [Act.put, List.setIfInBounds_toArray, List.set_cons_zero, List.set_cons_succ, i64_w, i32_w]
        rfl
      refine pure_ (i := 6) (N := some 18) (v := ?_) (a' := ?_) #[true, true, true, true, true, true, true, false] rfl rfl (by kernel_rfl) (fun _ _ _ h => h) (Or.inl ⟨by rfl, ?_⟩) ?_ ?_
      rotate_left
      · intro w'
        go_simp
        with_reducible rfl
      rotate_left
      · simp only [Act.put, List.setIfInBounds_toArray, List.set_cons_zero, List.set_cons_succ, i64_w, i32_w]
        rfl
      refine one_ (i := 7) (N := none) #[true, true, true, true, true, true, true, true] rfl rfl (by kernel_rfl) (by decide) (fun K hK => ?_)
      refine skip_ (w1 := ?_) (by rfl) rfl ?_ ?_
      rotate_left
      · go_simp
        rfl
      refine hK.out _ _ trivial (fun hHeld => ?_)
      clear hK K
      refine done_ (by kernel_rfl) ?_

      go_wp2
      go_roundw
      case rel => exact ⟨k + 1, by omega, by go_num, ⟨by rw [← cols_set (fun i => steps 8 (2 ^ i)) k hlt]; exact blk_set (blk_drewN HN.out _) k _⟩, ⟨(pw_below_drewN HL.out _).setCell (Nat.le_refl _) _⟩⟩
      case measure => simp [intOf]; omega
    · have : k = 32 := by omega
      subst this
      go_wp2
      have HN2 : Aside0 (wr.heap[w.heap.size]? = some (.cells (cols (fun i => steps 8 (2 ^ i))) 39 (0, 0))) := ⟨HN.out.trans (by rw [cols_congr (G := fun i => steps 8 (2 ^ i)) (fun i hi => by simp [hi])])⟩
      clear HN
      obtain ⟨wo, rfl⟩ : ∃ wo : World, wo = wr := ⟨_, rfl⟩
      go_loopw [0, 1, 5] (fun vc vn vm wr => ∃ (N : Int) (C q b : Nat), vc = .int .u32 (C : Nat) ∧ vn = .int .i64 N ∧ vm = .pointer (some ⟨b, 0, none⟩) ∧ C < 4294967296 ∧ N < 9223372036854775808 ∧ Aside0 (steps (q * N.toNat) C = steps (8 * n.toNat) c) ∧
        Aside0 (wr.heap[b]? = some (.cells (cols (fun i => steps q (2 ^ i))) 39 (0, 0))) ∧ Aside0 (Below w.heap.size w wr)) (fun _ vn _ _ => (intOf vn).toNat)
      case atStart => exact ⟨n, c, 8, w.heap.size, rfl, rfl, rfl, hc, hn1, ⟨rfl⟩, HN2, HL⟩
      case round =>
        clear HN2 HL
        obtain ⟨N, C, q, b, rfl, rfl, rfl, hC, hN, HE, HM, HL⟩ := hrel
        by_cases hpos : 0 < N
        · have hMlt : ∀ i, i < 32 → steps q (2 ^ i) < 4294967296 := fun i hi => steps_lt q (pow_lt hi)
          have hand : bits .and .i64 N 1 = N % 2 := and_one_i64 (by omega) hN
          rcases (by omega : N % 2 = 0 ∨ N % 2 = 1) with hp | hp
          · have hb1 : (bits .and .i64 N 1 == 1) = false := by rw [hand, hp]; rfl
            have HP := Aside0.mk hp
            clear hp hand
            go_wp2_with (go_at_call 21; (with_reducible refine (twice_calls _ hMlt b _ HM.out).mono ?_); rintro e w1 ⟨b', rfl, hb', hbs, hbel⟩; have HB' := Aside0.mk hb'; have HS := Aside0.mk hbs; have HL1 := Aside0.mk hbel; clear hb' hbs hbel)
            go_roundw
            case rel => (repeat apply Exists.intro); refine ⟨?_, rfl⟩; exact ⟨N / 2, C, 2 * q, b', rfl, rfl, rfl, hC, by omega, ⟨by rw [← HE.out, ← left_eq q N.toNat C (.inr (by have := HP.out; omega)), if_neg (by have := HP.out; omega), show (N / 2).toNat = N.toNat / 2 by omega]⟩, ⟨by rw [HB'.out, cols_twice]⟩, ⟨below_step HL.out HL1.out⟩⟩
            case measure => simp [intOf]; omega
          · have hb1 : (bits .and .i64 N 1 == 1) = true := by rw [hand, hp]; rfl
            have HP := Aside0.mk hp
            clear hp hand
            go_wp2_with (first | (go_at_call 20; (with_reducible refine (of_calls _ hMlt b C hC _ HM.out).mono ?_); rintro e w0 ⟨rfl, ⟨n0, rfl⟩⟩) | (go_at_call 21; (with_reducible refine (twice_calls _ hMlt b _ (blk_drewN HM.out _)).mono ?_); rintro e w1 ⟨b', rfl, hb', hbs, hbel⟩; have HB' := Aside0.mk hb'; have HS := Aside0.mk hbs; have HL1 := Aside0.mk hbel; clear hb' hbs hbel))
            go_roundw
            case rel => (repeat apply Exists.intro); refine ⟨?_, rfl⟩; exact ⟨N / 2, steps q C, 2 * q, b', by rw [of_steps q C hC], rfl, rfl, steps_lt q hC, by omega, ⟨by rw [← HE.out, ← left_eq q N.toNat C (.inl (by have := HP.out; omega)), if_pos (by have := HP.out; omega), show (N / 2).toNat = N.toNat / 2 by omega]⟩, ⟨by rw [HB'.out, cols_twice]⟩, ⟨below_step (pw_below_drewN HL.out _) HL1.out⟩⟩
            case measure => simp [intOf]; omega
        · go_wp2
          go_ret
          have : N.toNat = 0 := by omega
          have h := HE.out
          rw [this, Nat.mul_zero] at h
          exact ⟨by rw [← h]; rfl, HL.out⟩
end Go.Proofs.Ytkofkhdoeeldjaa.Walks
