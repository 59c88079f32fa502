/- What a reader is asked for from within: a byte, a word, a count, a text. -/
import Derived.Test.YtjanjpchdjagjaaRdr
import Derived.Laws.BitsAllLaws
set_option linter.unusedVariables false
set_option linter.unusedSimpArgs false
namespace Go.Proofs.Ytjanjpchdjagjaa.Rd
open Go Go.RowKit Go.Proofs.YtjanjpchdjagjaaW.PrintWords Go.Proofs.YtjanjpchdjagjaaW.PrintLast Go.Proofs.Ytjanjpchdjagjaa.LebM Go.Proofs.Ytjanjpchdjagjaa.Leb
section
variable {base g : Nat} {w : World} {bs : List Int} {p : Nat} {er : Int}
theorem take_okI (r : Rdr 64 base w g bs p er) (n : Nat) (z : Int) (hz : (n : Int) = z) (hn : p + n ≤ bs.length) :
    Calls Try.prog 40 #[.pointer (some ⟨g, 0, none⟩), .int .i64 z] w fun e w' => (∃ A2 c2, e = .returned (.slice A2 n c2) ∧ n ≤ c2 ∧ (Kd.int .u8).C w' A2 ((bs.take (p + n)).drop p).length ((bs.take (p + n)).drop p)) ∧ Rdr 64 base w' g bs (p + n) er ∧ Kp base w w' g := by
  subst hz
  exact take_ok r n hn
theorem getD_byte {bs : List Int} (h : ∀ x ∈ bs, 0 ≤ x ∧ x < 256) (i : Nat) : 0 ≤ bs.getD i 0 ∧ bs.getD i 0 < 256 := by
  rw [List.getD_eq_getElem?_getD]
  by_cases hi : i < bs.length
  · rw [List.getElem?_eq_getElem hi]
    exact h _ (List.getElem_mem hi)
  · rw [List.getElem?_eq_none (by omega)]
    simp
theorem mid_getD (bs : List Int) (p n i : Nat) (h : p + n ≤ bs.length) (hi : i < n) : ((bs.take (p + n)).drop p).getD i 0 = bs.getD (p + i) 0 := by
  rw [List.getD_eq_getElem?_getD, List.getD_eq_getElem?_getD, List.getElem?_drop, List.getElem?_take, if_pos (by omega)]
/-- a byte of a row -/
theorem C_at {w : World} {A : Option Addr} {ys : List Int} (hC : (Kd.int .u8).C w A ys.length ys) (i : Nat) (hi : i < ys.length) : ∃ ad, A = some ad ∧ w.cell? (ad.add i) = some (.int .u8 (ys.getD i 0)) := by
  obtain ⟨ad, hA, _⟩ := hC.2.2 (by omega)
  refine ⟨ad, hA, C_cells hC ad hA i _ ?_⟩
  rw [List.getD_eq_getElem?_getD, List.getElem?_eq_getElem hi]
  simp [nums, List.getElem?_eq_getElem hi]
set_option maxHeartbeats 1000000 in
theorem byte1_bad (r : Rdr 64 base w g bs p er) (hn : bs.length ≤ p) :
    Calls Try.prog 39 #[.pointer (some ⟨g, 0, none⟩)] w fun e w' => e = .panicked (brk 10) ∧ Rdr 64 base w' g bs p er ∧ Kp base w w' g := by
  have R := Aside0.mk r
  have HN := Aside0.mk hn
  clear r hn
  go_enter Try.func39, Try.ntmps39
  go_wp2_with (go_at_call 40; (with_reducible refine (take_bad R.out 1 (by have := HN.out; omega)).mono ?_); rintro e w1 ⟨rfl, h1, h2⟩; have R1 := Aside0.mk h1; have K1 := Aside0.mk h2; clear h1 h2)
  exact ⟨rfl, rfl, R1.out, K1.out⟩
set_option maxHeartbeats 1000000 in
theorem byte1_ok (r : Rdr 64 base w g bs p er) (hn : p < bs.length) :
    Calls Try.prog 39 #[.pointer (some ⟨g, 0, none⟩)] w fun e w' => e = .returned (.int .i64 (bs.getD p 0)) ∧ Rdr 64 base w' g bs (p + 1) er ∧ Kp base w w' g := by
  have R := Aside0.mk r
  have HN := Aside0.mk (show p + 1 ≤ bs.length by omega)
  have hml := midlen bs p 1 (by omega)
  have hg : ((bs.take (p + 1)).drop p).getD 0 0 = bs.getD p 0 := mid_getD bs p 1 0 (by omega) (by omega)
  have hby := getD_byte r.byte p
  have hw := w64 (x := bs.getD p 0) (by omega)
  obtain ⟨x, hx⟩ : ∃ x, bs.getD p 0 = x := ⟨_, rfl⟩
  rw [hx] at hg hw hby ⊢
  have HG := Aside0.mk hg
  have HML := Aside0.mk hml
  clear r hn hml hg hx
  go_enter Try.func39, Try.ntmps39
  go_wp2_with (go_at_call 40; (with_reducible refine (take_okI R.out 1 1 rfl HN.out).mono ?_); rintro e w1 ⟨⟨A2, c2, rfl, h0, h3⟩, h1, h2⟩; have R1 := Aside0.mk h1; have K1 := Aside0.mk h2; obtain ⟨ad, rfl, hcell⟩ := C_at h3 0 (by have := HML.out; omega); rw [HG.out] at hcell; have hcell2 : w1.cell? ad = some (.int .u8 x) := (by have h_ := hcell; simpa [Addr.add] using h_); clear h1 h2 h3 h0)
  go_ret
  exact ⟨by first | rfl | simp [hw], R1.out, K1.out⟩
set_option maxHeartbeats 1000000 in
theorem count1_ok (r : Rdr 64 base w g bs p er) {n k : Int} (hq : getS (bs.drop p) 0 1 0 = (n, k, 0)) (most : Int) (hm : most < 9223372036854775808) (hn : 0 ≤ most ∧ n ≤ most) (q : Nat) (hc : w.cell? ⟨q, 0, none⟩ = some (.int .i64 most)) :
    Calls Try.prog 54 #[.pointer (some ⟨g, 0, none⟩), .pointer (some ⟨q, 0, none⟩)] w fun e w' => e = .returned (.int .i64 n) ∧ Rdr 64 base w' g bs (p + k.toNat) er ∧ Kp base w w' g := by
  have R := Aside0.mk r
  have HQ := Aside0.mk hq
  have HM := Aside0.mk hm
  have HN := Aside0.mk hn
  clear r hq hm hn
  go_enter Try.func54, Try.ntmps54
  go_wp2_with (go_at_call 45; (with_reducible refine (upto_ok R.out HQ.out most HM.out HN.out).mono ?_); rintro e w1 ⟨rfl, h1, h2⟩; have R1 := Aside0.mk h1; have K1 := Aside0.mk h2; clear h1 h2)
  go_ret
  exact ⟨rfl, R1.out, K1.out⟩
set_option maxHeartbeats 1000000 in
theorem count1_long (r : Rdr 64 base w g bs p er) {n k : Int} (hq : getS (bs.drop p) 0 1 0 = (n, k, 0)) (most : Int) (hm : most < 9223372036854775808) (hn : most < 0 ∨ most < n) (q : Nat) (hc : w.cell? ⟨q, 0, none⟩ = some (.int .i64 most)) :
    Calls Try.prog 54 #[.pointer (some ⟨g, 0, none⟩), .pointer (some ⟨q, 0, none⟩)] w fun e w' => e = .panicked (brk 3) ∧ Rdr 64 base w' g bs (p + k.toNat) er ∧ Kp base w w' g := by
  have R := Aside0.mk r
  have HQ := Aside0.mk hq
  have HM := Aside0.mk hm
  have HN := Aside0.mk hn
  clear r hq hm hn
  go_enter Try.func54, Try.ntmps54
  go_wp2_with (go_at_call 45; (with_reducible refine (upto_long R.out HQ.out most HM.out HN.out).mono ?_); rintro e w1 ⟨rfl, h1, h2⟩; have R1 := Aside0.mk h1; have K1 := Aside0.mk h2; clear h1 h2)
  exact ⟨rfl, rfl, R1.out, K1.out⟩
set_option maxHeartbeats 1000000 in
theorem count1_bad (r : Rdr 64 base w g bs p er) {n k x : Int} (hq : getS (bs.drop p) 0 1 0 = (n, k, x)) (hx : x ≠ 0) (most : Int) (q : Nat) (hc : w.cell? ⟨q, 0, none⟩ = some (.int .i64 most)) :
    Calls Try.prog 54 #[.pointer (some ⟨g, 0, none⟩), .pointer (some ⟨q, 0, none⟩)] w fun e w' => e = .panicked (brk x) ∧ Rdr 64 base w' g bs p er ∧ Kp base w w' g := by
  have R := Aside0.mk r
  have HQ := Aside0.mk hq
  have HX := Aside0.mk hx
  clear r hq hx
  go_enter Try.func54, Try.ntmps54
  go_wp2_with (go_at_call 45; (with_reducible refine (upto_bad R.out HQ.out HX.out most).mono ?_); rintro e w1 ⟨rfl, h1, h2⟩; have R1 := Aside0.mk h1; have K1 := Aside0.mk h2; clear h1 h2)
  exact ⟨rfl, rfl, R1.out, K1.out⟩
set_option maxHeartbeats 1000000 in
theorem text1_bad (r : Rdr 64 base w g bs p er) {n k x : Int} (hq : getS (bs.drop p) 0 1 0 = (n, k, x)) (hx : x ≠ 0) (most : Int) (q : Nat) (hc : w.cell? ⟨q, 0, none⟩ = some (.int .i64 most)) :
    Calls Try.prog 44 #[.pointer (some ⟨g, 0, none⟩), .pointer (some ⟨q, 0, none⟩)] w fun e w' => e = .panicked (brk x) ∧ Rdr 64 base w' g bs p er ∧ Kp base w w' g := by
  have R := Aside0.mk r
  have HQ := Aside0.mk hq
  have HX := Aside0.mk hx
  clear r hq hx
  go_enter Try.func44, Try.ntmps44
  go_wp2_with (go_at_call 45; (with_reducible refine (upto_bad R.out HQ.out HX.out most).mono ?_); rintro e w1 ⟨rfl, h1, h2⟩; have R1 := Aside0.mk h1; have K1 := Aside0.mk h2; clear h1 h2)
  exact ⟨rfl, rfl, R1.out, K1.out⟩
set_option maxHeartbeats 1000000 in
theorem text1_long (r : Rdr 64 base w g bs p er) {n k : Int} (hq : getS (bs.drop p) 0 1 0 = (n, k, 0)) (most : Int) (hm : most < 9223372036854775808) (hn : most < 0 ∨ most < n) (q : Nat) (hc : w.cell? ⟨q, 0, none⟩ = some (.int .i64 most)) :
    Calls Try.prog 44 #[.pointer (some ⟨g, 0, none⟩), .pointer (some ⟨q, 0, none⟩)] w fun e w' => e = .panicked (brk 3) ∧ Rdr 64 base w' g bs (p + k.toNat) er ∧ Kp base w w' g := by
  have R := Aside0.mk r
  have HQ := Aside0.mk hq
  have HM := Aside0.mk hm
  have HN := Aside0.mk hn
  clear r hq hm hn
  go_enter Try.func44, Try.ntmps44
  go_wp2_with (go_at_call 45; (with_reducible refine (upto_long R.out HQ.out most HM.out HN.out).mono ?_); rintro e w1 ⟨rfl, h1, h2⟩; have R1 := Aside0.mk h1; have K1 := Aside0.mk h2; clear h1 h2)
  exact ⟨rfl, rfl, R1.out, K1.out⟩
set_option maxHeartbeats 1000000 in
theorem text1_short (r : Rdr 64 base w g bs p er) {n k : Int} (hq : getS (bs.drop p) 0 1 0 = (n, k, 0)) (most : Int) (hm : most < 9223372036854775808) (hn : 0 ≤ most ∧ n ≤ most) (hl : (bs.length : Int) - (p + k.toNat : Nat) < n) (q : Nat) (hc : w.cell? ⟨q, 0, none⟩ = some (.int .i64 most)) :
    Calls Try.prog 44 #[.pointer (some ⟨g, 0, none⟩), .pointer (some ⟨q, 0, none⟩)] w fun e w' => e = .panicked (brk 10) ∧ Rdr 64 base w' g bs (p + k.toNat) er ∧ Kp base w w' g := by
  have R := Aside0.mk r
  have HQ := Aside0.mk hq
  have HM := Aside0.mk hm
  have HN := Aside0.mk hn
  have HL := Aside0.mk hl
  clear r hq hm hn hl
  go_enter Try.func44, Try.ntmps44
  go_wp2_with (first
    | (go_at_call 45; (with_reducible refine (upto_ok R.out HQ.out most HM.out HN.out).mono ?_); rintro e w1 ⟨rfl, h1, h2⟩; have R1 := Aside0.mk h1; have K1 := Aside0.mk h2; clear h1 h2)
    | (go_at_call 40; (with_reducible refine (take_bad R1.out n HL.out).mono ?_); rintro e w2 ⟨rfl, h1, h2⟩; have R2 := Aside0.mk h1; have K2 := Aside0.mk (K1.out.trans h2); clear h1 h2))
  exact ⟨rfl, rfl, R2.out, K2.out⟩
set_option maxHeartbeats 1000000 in
theorem text1_ok (r : Rdr 64 base w g bs p er) {n k : Int} (hq : getS (bs.drop p) 0 1 0 = (n, k, 0)) (most : Int) (hm : most < 9223372036854775808) (hn : 0 ≤ most ∧ n ≤ most) (hl : n ≤ (bs.length : Int) - (p + k.toNat : Nat)) (q : Nat) (hc : w.cell? ⟨q, 0, none⟩ = some (.int .i64 most)) :
    Calls Try.prog 44 #[.pointer (some ⟨g, 0, none⟩), .pointer (some ⟨q, 0, none⟩)] w fun e w' => e = .returned (.string (strOfNums ((bs.take (p + k.toNat + n.toNat)).drop (p + k.toNat)))) ∧ Rdr 64 base w' g bs (p + k.toNat + n.toNat) er ∧ Kp base w w' g := by
  have hk := put_get0 (fun x hx => r.byte x (List.mem_of_mem_drop hx)) hq
  obtain ⟨m, rfl⟩ : ∃ m : Nat, n = (m : Int) := ⟨n.toNat, by have := hk.1; omega⟩
  rw [Int.toNat_natCast]
  have R := Aside0.mk r
  have HQ := Aside0.mk hq
  have HM := Aside0.mk hm
  have HN := Aside0.mk hn
  have HL := Aside0.mk (show p + k.toNat + m ≤ bs.length by omega)
  have HML := Aside0.mk (midlen bs (p + k.toNat) m (by omega))
  clear r hq hm hn hl hk
  go_enter Try.func44, Try.ntmps44
  go_wp2_with (first
    | (go_at_call 45; (with_reducible refine (upto_ok R.out HQ.out most HM.out HN.out).mono ?_); rintro e w1 ⟨rfl, h1, h2⟩; have R1 := Aside0.mk h1; have K1 := Aside0.mk h2; clear h1 h2)
    | (go_at_call 40; (with_reducible refine (take_ok R1.out m HL.out).mono ?_); rintro e w2 ⟨⟨A2, c2, rfl, h0, h3⟩, h1, h2⟩; have R2 := Aside0.mk h1; have K2 := Aside0.mk (K1.out.trans h2); have hcv := Kd.C_string (P := Try.prog) (A := A2) (c := c2) Try.underlying26 Try.underlying5 Try.underlying9 h3; rw [HML.out] at hcv; clear h0 h1 h2 h3))
  go_ret
  exact ⟨by first | rfl | simp, R2.out, K2.out⟩
theorem word_bad (r : Rdr 64 base w g bs p er) (hn : bs.length < p + 4) :
    Calls Try.prog 42 #[.pointer (some ⟨g, 0, none⟩)] w fun e w' => e = .panicked (brk 10) ∧ Rdr 64 base w' g bs p er ∧ Kp base w w' g := by
  have R := Aside0.mk r
  have HN := Aside0.mk hn
  clear r hn
  go_enter Try.func42, Try.ntmps42
  go_wp2_with (go_at_call 40; (with_reducible refine (take_bad R.out 4 (by have := HN.out; omega)).mono ?_); rintro e w1 ⟨rfl, h1, h2⟩; have R1 := Aside0.mk h1; have K1 := Aside0.mk h2; clear h1 h2)
  exact ⟨rfl, rfl, R1.out, K1.out⟩
/-- the first j bytes as a number, the least first -/
def leJ (y : Nat → Int) : Nat → Int
  | 0 => 0
  | j + 1 => leJ y j + y j * 256 ^ j
theorem leJ_lt {y : Nat → Int} (h : ∀ i, 0 ≤ y i ∧ y i < 256) : ∀ j, 0 ≤ leJ y j ∧ leJ y j < 256 ^ j
  | 0 => by simp [leJ]
  | j + 1 => by
    have h1 := leJ_lt h j
    have h2 := h j
    have h3 : y j * 256 ^ j ≤ 255 * 256 ^ j := Int.mul_le_mul_of_nonneg_right (by omega) (Int.pow_nonneg (by omega))
    have h4 : 0 ≤ y j * 256 ^ j := Int.mul_nonneg h2.1 (Int.pow_nonneg (by omega))
    unfold leJ
    rw [Int.pow_succ]
    constructor
    · omega
    · omega
theorem le_step {y : Nat → Int} (h : ∀ i, 0 ≤ y i ∧ y i < 256) (j : Nat) (hj : j < 4) : Go.bits .or .u32 (leJ y j) (y j * 256 ^ j) = leJ y (j + 1) ∧ 0 ≤ y j * 256 ^ j ∧ y j * 256 ^ j < 4294967296 := by
  have h1 := leJ_lt h j
  have h2 := h j
  have h4 : 0 ≤ y j * 256 ^ j := Int.mul_nonneg h2.1 (Int.pow_nonneg (by omega))
  have hj4 : j = 0 ∨ j = 1 ∨ j = 2 ∨ j = 3 := by omega
  have hp : (256 : Int) ^ j ≤ 16777216 := by rcases hj4 with rfl | rfl | rfl | rfl <;> decide
  have hpc : ((256 ^ j : Nat) : Int) = 256 ^ j := by rcases hj4 with rfl | rfl | rfl | rfl <;> rfl
  have h3 : y j * 256 ^ j ≤ 255 * 256 ^ j := Int.mul_le_mul_of_nonneg_right (by omega) (Int.pow_nonneg (by omega))
  have h5 : y j * 256 ^ j < 4294967296 := by omega
  refine ⟨?_, h4, h5⟩
  rw [u32_or _ _ h1.1 (by omega) h4 h5, Nat.or_comm]
  have e2 : (y j * 256 ^ j).toNat = (y j).toNat * 256 ^ j := by
    rw [Int.toNat_mul h2.1 (Int.pow_nonneg (by omega)), Int.toNat_pow_of_nonneg (by omega)]; rfl
  have e3 : (256 : Nat) ^ j = 2 ^ (8 * j) := by rw [Nat.pow_mul]
  rw [nat_join (8 * j)]
  · show _ = leJ y j + y j * 256 ^ j
    omega
  · rw [e2, e3]; exact Nat.mul_mod_left _ _
  · rw [← e3]
    have h6 := h1.2
    rw [← hpc] at h6
    omega
set_option maxHeartbeats 2000000 in
theorem word_ok (r : Rdr 64 base w g bs p er) (hn : p + 4 ≤ bs.length) :
    Calls Try.prog 42 #[.pointer (some ⟨g, 0, none⟩)] w fun e w' => e = .returned (.int .u32 (leJ (fun i => bs.getD (p + i) 0) 4)) ∧ Rdr 64 base w' g bs (p + 4) er ∧ Kp base w w' g := by
  have R := Aside0.mk r
  have HN := Aside0.mk hn
  have HML := Aside0.mk (midlen bs p 4 (by omega))
  have hy : ∀ i, 0 ≤ (fun i => bs.getD (p + i) 0) i ∧ (fun i => bs.getD (p + i) 0) i < 256 := fun i => getD_byte r.byte (p + i)
  obtain ⟨y, hyy⟩ : ∃ y : Nat → Int, (fun i => bs.getD (p + i) 0) = y := ⟨_, rfl⟩
  have HMG := Aside0.mk (show ∀ i, i < 4 → ((bs.take (p + 4)).drop p).getD i 0 = y i by intro i hi; rw [← hyy]; exact mid_getD bs p 4 i (by omega) hi)
  rw [hyy] at hy ⊢
  have HY := Aside0.mk hy
  clear r hn hy hyy
  go_enter Try.func42, Try.ntmps42
  go_wp2_with (go_at_call 40; (with_reducible refine (take_okI R.out 4 4 rfl HN.out).mono ?_); rintro e w1 ⟨⟨A2, c2, rfl, h0, h3⟩, h1, h2⟩; have R1 := Aside0.mk h1; have K1 := Aside0.mk h2; have HC := Aside0.mk h3; clear h1 h2 h3 h0)
  go_loopg [3, 9] 4 (fun gk v3 v9 w' => ∃ j : Nat, v9 = .int .i64 (j : Int) ∧ v3 = .int .u32 (leJ y j) ∧ Aside0 (j + gk = 4) ∧ w' = w1)
  case atStart => exact ⟨0, rfl, rfl, ⟨rfl⟩, rfl⟩
  case round =>
    obtain ⟨j, rfl, rfl, HJ, rfl⟩ := hrel
    by_cases hj : j < 4
    · have c1 : decide ((j : Int) < 4) = true := decide_eq_true (by omega)
      have c1n : decide (j < 4) = true := decide_eq_true hj
      have p1 : 0 ≤ (j : Int) := by omega
      have p2 : (j : Int) < 4 := by omega
      obtain ⟨ad, rfl, hcell⟩ := C_at HC.out j (by rw [HML.out]; exact hj)
      rw [HMG.out j hj] at hcell
      have hs := le_step HY.out j hj
      have hs2 : y j % 4294967296 * 2 ^ (8 * j) % 4294967296 = y j * 256 ^ j := by
        have h1 := HY.out j
        rw [Int.emod_eq_of_lt (b := 4294967296) h1.1 (by omega), Int.pow_mul, show ((2 : Int) ^ 8) = 256 from rfl]
        exact Int.emod_eq_of_lt hs.2.1 hs.2.2
      have HS := Aside0.mk hs
      have HS2 := Aside0.mk hs2
      clear hs hs2
      go_wp2
      go_roundg (gk - 1)
      case measure => have := HJ.out; omega
      case rel => exact ⟨j + 1, by first | rfl | go_num, by rw [HS2.out, HS.out.1], ⟨by have := HJ.out; omega⟩, rfl⟩
    · have hj4 : j = 4 := by have := HJ.out; omega
      subst hj4
      go_wp2
      go_ret
      exact ⟨rfl, R1.out, K1.out⟩
end
end Go.Proofs.Ytjanjpchdjagjaa.Rd
