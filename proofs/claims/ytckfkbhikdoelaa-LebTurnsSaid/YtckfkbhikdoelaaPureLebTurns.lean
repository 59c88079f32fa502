/- LebTurns: any signed number, turned, and back, and its bytes, as the document has them. No condition. -/
import Derived.Test.YtckfkbhikdoelaaPAllx4
import Derived.Test.YtckfkbhikdoelaaBridge
namespace Go.Proofs.Ytckfkbhikdoelaa.Pure
open Go Go.RowKit Go.Proofs.Ytckfkbhikdoelaa.PAll Go.Proofs.YtckfkbhikdoelaaW.PrintWords Go.Proofs.YtckfkbhikdoelaaW.PrintLast
open Go.Proofs.Ytckfkbhikdoelaa.LebM Go.Proofs.Ytckfkbhikdoelaa.Bridge

def zigS (n : Int) : Int := if n ≥ 0 then 2 * n else -2 * n - 1
def zagS (u : Int) : Int := if u % 2 = 0 then u / 2 else -(u / 2) - 1
theorem zigS_range {n : Int} (h : -9223372036854775808 ≤ n ∧ n < 9223372036854775808) : 0 ≤ zigS n ∧ zigS n < 18446744073709551616 := by unfold zigS; split <;> omega
theorem zagS_range {u : Int} (h : 0 ≤ u ∧ u < 18446744073709551616) : -9223372036854775808 ≤ zagS u ∧ zagS u < 9223372036854775808 := by unfold zagS; split <;> omega
theorem zag_zig (n : Int) : zagS (zigS n) = n := by unfold zagS zigS; split <;> split <;> omega
theorem zig_zag {u : Int} (h : 0 ≤ u) : zigS (zagS u) = u := by unfold zagS zigS; split <;> split <;> omega
theorem xor_ones (x : Int) (h0 : 0 ≤ x) (h1 : x < 18446744073709551616) : Go.bits .xor .u64 x 18446744073709551615 = 18446744073709551615 - x := by
  rw [u64_xor _ _ h0 h1 (by omega) (by omega)]
  have : (x.toNat ^^^ (18446744073709551615 : Int).toNat) = 18446744073709551615 - x.toNat := by
    have e : x.toNat = (BitVec.ofNat 64 x.toNat).toNat := by rw [BitVec.toNat_ofNat]; omega
    have e2 : (18446744073709551615 : Int).toNat = (BitVec.allOnes 64).toNat := rfl
    rw [e, e2, ← BitVec.toNat_xor, BitVec.xor_allOnes, BitVec.toNat_not]
  rw [this]; omega
theorem zig_eq {n : Int} (h : -9223372036854775808 ≤ n ∧ n < 9223372036854775808) : leb_Zig.f n = some (zigS n) := by
  unfold leb_Zig.f zigS
  simp only [IntKind.wrap_u64]
  by_cases hn : n ≥ 0
  · rw [if_pos hn, show n / 9223372036854775808 = 0 by omega, show (n % 18446744073709551616 * 2) % 18446744073709551616 = 2 * n by omega, u64_xor _ _ (by omega) (by omega) (by omega) (by omega)]
    simp
    omega
  · rw [if_neg hn, show n / 9223372036854775808 = -1 by omega, show (-1 : Int) % 18446744073709551616 = 18446744073709551615 by decide, xor_ones _ (by omega) (by omega)]
    simp only [Option.some.injEq]
    omega
theorem rzig_eq {n : Int} (h : -9223372036854775808 ≤ n ∧ n < 9223372036854775808) : warrantorref01_Zig.f n = some (zigS n) := by
  unfold warrantorref01_Zig.f zigS
  simp only [IntKind.wrap_u64, wrap64]
  split <;> simp only [Option.some.injEq] <;> omega
theorem rzag_eq {u : Int} (h : 0 ≤ u ∧ u < 18446744073709551616) : warrantorref01_Zag.f u = some (zagS u) := by
  unfold warrantorref01_Zag.f zagS
  rw [Int.tmod_eq_emod_of_nonneg h.1, Int.tdiv_eq_ediv_of_nonneg h.1]
  simp only [IntKind.wrap_u64, wrap64]
  split <;> simp only [Option.some.injEq] <;> omega
theorem xor_zero_i64 (x : Int) (h : -9223372036854775808 ≤ x ∧ x < 9223372036854775808) : Go.bits .xor .i64 x 0 = x := by
  show IntKind.i64.wrap ((BitVec.ofInt 64 x ^^^ BitVec.ofInt 64 0).toNat : Int) = _
  rw [show BitVec.ofInt 64 0 = 0#64 from rfl, BitVec.xor_zero, BitVec.toNat_ofInt, IntKind.wrap_i64]
  omega
theorem xor_neg_i64 (x : Int) (h : -9223372036854775808 ≤ x ∧ x < 9223372036854775808) : Go.bits .xor .i64 x (-1) = -x - 1 := by
  show IntKind.i64.wrap ((BitVec.ofInt 64 x ^^^ BitVec.ofInt 64 (-1)).toNat : Int) = _
  rw [show BitVec.ofInt 64 (-1) = BitVec.allOnes 64 from rfl, BitVec.xor_allOnes, BitVec.toNat_not, BitVec.toNat_ofInt, IntKind.wrap_i64]
  omega
theorem zag_eq {u : Int} (h : 0 ≤ u ∧ u < 18446744073709551616) : leb_Zag.f u = some (zagS u) := by
  unfold leb_Zag.f zagS
  rw [u64_and _ _ h.1 h.2 (by omega) (by omega), show ((1 : Int)).toNat = 1 from rfl, nat_mask1, show wrap64 (u / 2) = u / 2 by unfold wrap64; omega]
  by_cases hp : u % 2 = 0
  · rw [if_pos hp, show ((u.toNat % 2 : Nat) : Int) = 0 by omega, show wrap64 (-(wrap64 0)) = 0 from by unfold wrap64; omega, xor_zero_i64 _ (by omega)]
  · rw [if_neg hp, show ((u.toNat % 2 : Nat) : Int) = 1 by omega, show wrap64 (-(wrap64 1)) = -1 from by unfold wrap64; omega, xor_neg_i64 _ (by omega)]

theorem LebTurns : warrantorlaw01_LebTurns.Pure := by
  intro n u l hn hu _ _ hb
  have hn := i64_of hn
  have hu := u64_of hu
  have hb := bytes_of hb
  have hz := zigS_range hn
  have hpb := putN_byte 9 (zigS n) hz.1 (by omega)
  obtain ⟨K1, e1⟩ := put_ev hz.1 hz.2
  obtain ⟨K2, e2⟩ := rput_ev hz.1 hz.2
  obtain ⟨K3, e3⟩ := get_ev hpb
  obtain ⟨K4, e4⟩ := get_ev hb
  obtain ⟨K6, e6⟩ := rget_ev hb
  obtain ⟨K5, e5⟩ := lives_ev
  refine ⟨K1 + K2 + K3 + K4 + K5 + K6, ?_⟩
  have e1 : leb_Put.f (K1 + K2 + K3 + K4 + K5 + K6) (zigS n) = _ := e1 _ (by omega)
  have e2 : warrantorref01_Put.f (K1 + K2 + K3 + K4 + K5 + K6) (zigS n) = _ := e2 _ (by omega)
  have e3 : leb_Get.f (K1 + K2 + K3 + K4 + K5 + K6) (putN 9 (zigS n)) = _ := e3 _ (by omega)
  have e4 : leb_Get.f (K1 + K2 + K3 + K4 + K5 + K6) l = _ := e4 _ (by omega)
  have e6 : warrantorref01_Get.f (K1 + K2 + K3 + K4 + K5 + K6) l = _ := e6 _ (by omega)
  have e5 : warrantorlaw01_lives.f (K1 + K2 + K3 + K4 + K5 + K6) = _ := e5 _ (by omega)
  generalize K1 + K2 + K3 + K4 + K5 + K6 = k at *
  have hg := get_put0 [] hz.1 hz.2
  rw [List.append_nil] at hg
  rw [hg] at e3
  have z1 := zig_eq hn
  have z2 := rzig_eq hn
  have z3 := zag_eq hz
  have z4 := zag_eq hu
  have z5 := rzag_eq hu
  have z6 := zag_zig n
  have z7 := zig_zag hu.1
  have z8 := zig_eq (zagS_range hu)
  have hp : leb_PutInt.f k n = some (putN 9 (zigS n)) := by unfold leb_PutInt.f; rw [z1, Option.bind_some, e1]; rfl
  have hrp : warrantorref01_PutInt.f k n = some (putN 9 (zigS n)) := by unfold warrantorref01_PutInt.f; rw [z2, Option.bind_some, e2]; rfl
  have hg1 : leb_GetInt.f k (putN 9 (zigS n)) = some (n, ((putN 9 (zigS n)).length : Int), 0) := by
    unfold leb_GetInt.f
    rw [e3]
    simp only [Option.bind_some, if_true]
    rw [z3, z6]
    rfl
  rcases hgl : getS l 0 1 0 with ⟨v, j, e⟩
  rw [hgl] at e4 e6
  have hg2 : ∃ r, leb_GetInt.f k l = some r ∧ warrantorref01_GetInt.f k l = some r := by
    unfold leb_GetInt.f warrantorref01_GetInt.f
    rw [e4, e6]
    simp only [Option.bind_some]
    by_cases h0 : e = 0
    · rw [if_pos h0, if_pos h0]
      subst h0
      have := put_get0 hb hgl
      rw [zag_eq ⟨this.1, this.2.1⟩, rzag_eq ⟨this.1, this.2.1⟩]
      exact ⟨_, rfl, rfl⟩
    · rw [if_neg h0, if_neg h0]
      exact ⟨_, rfl, rfl⟩
  obtain ⟨r, hr1, hr2⟩ := hg2
  unfold warrantorlaw01_LebTurns.f
  by_cases hl : (l.length : Int) > 1000
  · rw [if_pos hl, e5]; rfl
  · rw [if_neg hl, hp]
    simp only [Option.bind_some]
    rw [hg1]
    simp only [Option.bind_some]
    rw [hr1]
    simp only [Option.bind_some]
    rw [hr2]
    simp only [Option.bind_some]
    rw [e5]
    simp only [Option.bind_some, if_true]
    rw [z1, z2]
    simp only [Option.bind_some, if_true]
    rw [z3, z6]
    simp only [Option.bind_some, if_true]
    rw [z4]
    simp only [Option.bind_some]
    rw [z8, z7]
    simp only [Option.bind_some, if_true]
    rw [z5]
    simp only [Option.bind_some, if_true]
    rw [hrp]
    simp only [Option.bind_some, if_true]
    simp

end Go.Proofs.Ytckfkbhikdoelaa.Pure
