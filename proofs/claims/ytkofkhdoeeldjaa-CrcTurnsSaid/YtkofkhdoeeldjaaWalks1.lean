/- The walks of crc's functions that hold an array of moves: 'of', 'twice'. -/
import Derived.Test.YtkofkhdoeeldjaaProg
import Derived.Test.YtkofkhdoeeldjaaMath
import Derived.Test.YtkofkhdoeeldjaaWMore
import Derived.Deep.QuietTactic
import Derived.BigQuiet
import Derived.Laws.BitsAllLaws
namespace Go.Proofs.Ytkofkhdoeeldjaa.Walks
open Go Go.RowKit Go.Proofs.YtkofkhdoeeldjaaW.PrintWords Go.Proofs.Ytkofkhdoeeldjaa.CrcM

/-- the cells of moves -/
def cols (M : Nat → Nat) : Array Value := ((List.range 32).map fun i => Value.int .u32 (M i)).toArray
theorem cols_at (M : Nat → Nat) {k : Nat} (h : k < 32) : (cols M)[k]? = some (.int .u32 (M k)) := by
  simp [cols, h]

theorem and_one (x : Nat) (h : x < 4294967296) : bits .and .u32 (x : Int) 1 = ((x % 2 : Nat) : Int) := by
  have := u32_and_nat x 1 h (by omega)
  rw [nat_mask1] at this
  exact this
theorem and_all (x : Nat) (h : x < 4294967296) : bits .and .u32 (x : Int) 4294967295 = (x : Int) := by
  have := u32_and_nat x 4294967295 h (by omega)
  have e : x &&& 4294967295 = x := by
    have h2 : x &&& (2 ^ 32 - 1) = x % 2 ^ 32 := Nat.and_two_pow_sub_one_eq_mod x 32
    exact h2.trans (Nat.mod_eq_of_lt h)
  rw [e] at this
  exact this
theorem and_none (x : Nat) (h : x < 4294967296) : bits .and .u32 (x : Int) 0 = 0 := by
  have := u32_and_nat x 0 h (by omega)
  simpa using this
theorem ofN_lt (M : Nat → Nat) (hM : ∀ i, i < 32 → M i < 4294967296) (c : Nat) : ∀ k, k ≤ 32 → ofN M k c < 4294967296
  | 0, _ => by simp [ofN]
  | k + 1, h => by
    simp only [ofN]
    have h1 := ofN_lt M hM c k (by omega)
    have h2 := hM k (by omega)
    exact Nat.xor_lt_two_pow (n := 32) h1 (by split; exact h2; omega)
theorem of_term (M : Nat → Nat) (hM : ∀ i, i < 32 → M i < 4294967296) (c k : Nat) (hc : c < 4294967296) (hk : k < 32) :
    bits .xor .u32 (ofN M k c : Nat) (bits .and .u32 (M k : Nat) (-bits .and .u32 ((c : Int) / 2 ^ k) 1 % 4294967296)) = (ofN M (k + 1) c : Nat) := by
  have hm := hM k hk
  have hlt : c / 2 ^ k < 4294967296 := Nat.lt_of_le_of_lt (Nat.div_le_self _ _) hc
  have e : ((c : Int) / 2 ^ k) = ((c / 2 ^ k : Nat) : Int) := by
    rw [Int.natCast_ediv, Int.natCast_pow]; rfl
  have ho := ofN_lt M hM c k (by omega)
  rw [e, and_one _ hlt]
  simp only [ofN]
  rcases Nat.mod_two_eq_zero_or_one (c / 2 ^ k) with h | h
  · rw [h, show (-((0 : Nat) : Int)) % 4294967296 = 0 by decide, and_none _ hm, if_neg (by omega)]
    have := u32_xor_nat (ofN M k c) 0 ho (by omega)
    exact this
  · rw [h, show (-((1 : Nat) : Int)) % 4294967296 = 4294967295 by decide, and_all _ hm, if_pos rfl]
    exact u32_xor_nat _ _ ho hm
theorem cols_set (F : Nat → Nat) (k : Nat) (_h : k < 32) : (cols (fun i => if i < k then F i else 0)).setIfInBounds k (.int .u32 (F k : Nat)) = cols (fun i => if i < k + 1 then F i else 0) := by
  apply Array.ext_getElem?
  intro i
  by_cases hi : i < 32
  · rw [cols_at _ hi, Array.getElem?_setIfInBounds]
    by_cases he : k = i
    · subst he
      rw [if_pos rfl, if_pos (by simp [cols]; omega)]
      simp
    · rw [if_neg he, cols_at _ hi]
      by_cases h1 : i < k
      · simp [h1, show i < k + 1 by omega]
      · simp [h1, show ¬ i < k + 1 by omega]
  · simp [cols, hi]
theorem cols_congr {F G : Nat → Nat} (h : ∀ i, i < 32 → F i = G i) : cols F = cols G := by
  unfold cols
  rw [List.map_congr_left (fun i hi => by rw [h i (List.mem_range.1 hi)])]
theorem cols_start (F : Nat → Nat) : cols (fun i => if i < 0 then F i else 0) = cols (fun _ => 0) := cols_congr (fun i _ => by simp)

set_option maxHeartbeats 1000000 in
theorem of_calls (M : Nat → Nat) (hM : ∀ i, i < 32 → M i < 4294967296) (b c : Nat) (hc : c < 4294967296) (w : World) (HB : w.heap[b]? = some (.cells (cols M) 39 (0, 0))) :
    Calls Try.prog 20 #[.pointer (some ⟨b, 0, none⟩), .int .u32 (c : Int)] w fun e w' => e = .returned (.int .u32 (ofN M 32 c : Nat)) ∧ Drawn0 w w' := by
  have HB' := Aside0.mk HB
  clear HB
  go_enter Try.func20, Try.ntmps20
  go_wp2
  go_loopw [5, 7] (fun o i wr => ∃ k : Nat, k ≤ 32 ∧ i = .int .i64 k ∧ o = .int .u32 (ofN M k c : Nat) ∧ Drawn0 w wr) (fun _ i _ => 32 - (intOf i).toNat)
  case atStart => exact ⟨0, by omega, rfl, rfl, Drawn0.refl _⟩
  case round =>
    obtain ⟨k, hk, rfl, rfl, ⟨n, rfl⟩⟩ := hrel
    by_cases hlt : k < 32
    · have hcell : w.cell? ⟨b, k, none⟩ = some (.int .u32 (M k)) := (blk_cell HB'.out k).trans (cols_at M hlt)
      go_wp2
      go_quiet (fail)
      go_wp2
      go_roundw
      case rel => exact ⟨k + 1, by omega, by go_num, by rw [of_term M hM c k hc hlt], by first | exact Drawn0.refl _ | exact Drawn0.step (Drawn0.refl _) _⟩
      case measure => simp [intOf]; omega
    · go_wp2
      go_ret
      have : k = 32 := by omega
      subst this
      exact ⟨rfl, by first | exact Drawn0.refl _ | exact Drawn0.step (Drawn0.refl _) _⟩

set_option maxRecDepth 100000 in
set_option maxHeartbeats 1000000 in
theorem twice_calls (M : Nat → Nat) (hM : ∀ i, i < 32 → M i < 4294967296) (b : Nat) (w : World) (HB : w.heap[b]? = some (.cells (cols M) 39 (0, 0))) :
    Calls Try.prog 21 #[.pointer (some ⟨b, 0, none⟩)] w fun e w' => ∃ b', e = .returned (.pointer (some ⟨b', 0, none⟩)) ∧ w'.heap[b']? = some (.cells (cols (fun i => ofN M 32 (M i))) 39 (0, 0)) ∧ w.heap.size ≤ b' ∧ Below w.heap.size w w' := by
  have hb := blk_lt HB
  have HB' := Aside0.mk HB
  clear HB
  go_enter Try.func21, Try.ntmps21
  go_wp2
  go_loopw [5] (fun i wr => ∃ k : Nat, k ≤ 32 ∧ i = .int .i64 k ∧ Aside0 (wr.heap[w.heap.size]? = some (.cells (cols (fun i => if i < k then ofN M 32 (M i) else 0)) 39 (0, 0))) ∧ Aside0 (Below w.heap.size w wr)) (fun i _ => 32 - (intOf i).toNat)
  case atStart => exact ⟨0, by omega, rfl, ⟨(blk_new w _).trans (by rw [cols_start]; rfl)⟩, ⟨(Below.refl _ _).alloc (Nat.le_refl _) _⟩⟩
  case round =>
    obtain ⟨k, hk, rfl, HN, HL⟩ := hrel
    by_cases hlt : k < 32
    · have hcell : wr.cell? ⟨b, k, none⟩ = some (.int .u32 (M k)) := (blk_cell ((HL.out.block b hb).trans HB'.out) k).trans (cols_at M hlt)
      have hcell2 : wr.cell? ⟨w.heap.size, k, none⟩ = some (.int .u32 0) := (blk_cell HN.out k).trans ((cols_at _ hlt).trans (by simp))
      have hfr : wr.frozen? ⟨w.heap.size, k, none⟩ = false := blk_frozen HN.out k
      go_wp2_with (go_at_call 20; (with_reducible refine (of_calls M hM b (M k) (hM k hlt) _ ((HL.out.block b hb).trans HB'.out)).mono ?_); rintro e w1 ⟨rfl, ⟨n, rfl⟩⟩)
      go_roundw
      case rel => exact ⟨k + 1, by omega, by go_num, ⟨by rw [← cols_set _ k hlt]; exact blk_set HN.out k _⟩, ⟨by exact (pw_below_drewN HL.out _).setCell (Nat.le_refl _) _⟩⟩
      case measure => simp [intOf]; omega
    · go_wp2
      go_ret
      have : k = 32 := by omega
      subst this
      refine ⟨_, rfl, ?_, Nat.le_refl _, HL.out⟩
      rw [HN.out, cols_congr (G := fun i => ofN M 32 (M i)) (fun i hi => by simp [hi])]
end Go.Proofs.Ytkofkhdoeeldjaa.Walks
