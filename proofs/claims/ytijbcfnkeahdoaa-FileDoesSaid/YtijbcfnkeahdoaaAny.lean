/- Each method of a disk, the program's and the reference's, by one contract for all arguments. -/
import Derived.Test.YtijbcfnkeahdoaaRef
set_option linter.unusedVariables false
set_option linter.unusedSimpArgs false
namespace Go.Proofs.Ytijbcfnkeahdoaa.Disk
open Go Go.RowKit Go.Proofs.YtijbcfnkeahdoaaW.PrintWords

theorem check_01 {x : DSt} {n : Int} (h : x.check n = 0) : n = 0 ∨ n = 1 := by
  unfold DSt.check at h
  by_cases h1 : x.off = true
  · rw [if_pos h1] at h; omega
  · rw [if_neg h1] at h
    by_cases h2 : n < 0 ∨ 2 ≤ n
    · rw [if_pos h2] at h; omega
    · omega
def wres (x : DSt) (n : Int) (ys : List Int) : Int := if x.check n ≠ 0 then x.check n else if (x.file n).length + ys.length > 4194304 then 2 else x.told ys.length
def wst (x : DSt) (n : Int) (ys : List Int) : DSt := if x.check n ≠ 0 then x else if (x.file n).length + ys.length > 4194304 then x else (x.pay ys.length).put n (x.file n ++ ys.take (x.cost ys.length).toNat)
def cres (x : DSt) (n s : Int) : Int := if x.check n ≠ 0 then x.check n else if s < 0 ∨ ((x.file n).length : Int) < s then 1 else x.told 1
def cst (x : DSt) (n s : Int) : DSt := if x.check n ≠ 0 then x else if s < 0 ∨ ((x.file n).length : Int) < s then x else if x.cost 1 = 1 then (x.pay 1).put n ((x.file n).take s.toNat) else x.pay 1
def sres (x : DSt) (n s : Int) (ys : List Int) : Int := if (n < 0 ∨ 2 ≤ n) ∨ s < 0 ∨ ((x.file n).length : Int) < s then 1 else if s.toNat + ys.length > 4194304 then 2 else 0
def sst (x : DSt) (n s : Int) (ys : List Int) : DSt := if (n < 0 ∨ 2 ≤ n) ∨ s < 0 ∨ ((x.file n).length : Int) < s then x else if s.toNat + ys.length > 4194304 then x else x.put n ((x.file n).take s.toNat ++ ys)
def rstr (x : DSt) (n : Int) : ByteArray := if x.check n ≠ 0 then ⟨#[]⟩ else strOfNums (x.file n)

/-- what a call of the program's disk leaves -/
def DPost (W w' : World) (g base : Nat) (y : DSt) : Prop := ∃ v0' v1', Dsk w' g base v0' v1' y ∧ Below base W w' ∧ Only W w' g
theorem DPost.of_below {W w' : World} {g base : Nat} {v0 v1 : Value} {x : DSt} (h : Dsk W g base v0 v1 x) (hb : Below W.heap.size W w') : DPost W w' g base x := ⟨v0, v1, h.below hb, hb.mono h.size, Only.of_below hb g⟩

theorem write_any {w : World} {g base : Nat} {v0 v1 : Value} {x : DSt} (h : Dsk w g base v0 v1 x) (n : Int) {A : Option Addr} {c : Nat} {ys : List Int} (hC : (Kd.int .u8).C w A ys.length ys) (hc : ys.length ≤ c) (hy : ys.length ≤ 140737488351232) :
    Calls Try.prog 14 #[.pointer (some ⟨g, 0, none⟩), .int .i64 n, .slice A ys.length c] w fun e w' => e = .returned (.int .i64 (wres x n ys)) ∧ DPost w w' g base (wst x n ys) := by
  by_cases hn : x.check n = 0
  · unfold wres wst
    have hn2 : ¬ (x.check n ≠ 0) := by simp [hn]
    rw [if_neg hn2, if_neg hn2]
    clear hn2
    rcases check_01 hn with rfl | rfl
    · exact (write_ok0 h hn hC hc hy).mono fun e w' h => h
    · exact (write_ok1 h hn hC hc hy).mono fun e w' h => h
  · unfold wres wst
    rw [if_pos hn, if_pos hn]
    exact (write_bad h n hn A ys.length c).mono fun e w' hw => ⟨hw.1, DPost.of_below h hw.2⟩
theorem rwrite_any {w : World} {h base : Nat} {x : DSt} (r : RD w h base x) (n : Int) (ys : List Int) (hy : ys.length ≤ 140737488351232) :
    Calls Try.prog 21 #[.pointer (some ⟨h, 0, none⟩), .int .i64 n, .string (strOfNums ys)] w fun e w' => e = .returned (.int .i64 (wres x n ys)) ∧ RPost w w' h base (wst x n ys) := by
  by_cases hn : x.check n = 0
  · unfold wres wst
    have hn2 : ¬ (x.check n ≠ 0) := by simp [hn]
    rw [if_neg hn2, if_neg hn2]
    clear hn2
    rcases check_01 hn with rfl | rfl
    · exact (rwrite_ok0 r hn ys hy).mono fun e w' h => h
    · exact (rwrite_ok1 r hn ys hy).mono fun e w' h => h
  · unfold wres wst
    rw [if_pos hn, if_pos hn]
    exact (rwrite_bad r n hn _).mono fun e w' hw => ⟨hw.1, hw.2 ▸ RPost.refl r⟩
theorem cut_any {w : World} {g base : Nat} {v0 v1 : Value} {x : DSt} (h : Dsk w g base v0 v1 x) (n s : Int) :
    Calls Try.prog 19 #[.pointer (some ⟨g, 0, none⟩), .int .i64 n, .int .i64 s] w fun e w' => e = .returned (.int .i64 (cres x n s)) ∧ DPost w w' g base (cst x n s) := by
  by_cases hn : x.check n = 0
  · unfold cres cst
    have hn2 : ¬ (x.check n ≠ 0) := by simp [hn]
    rw [if_neg hn2, if_neg hn2]
    clear hn2
    by_cases hs : s < 0 ∨ ((x.file n).length : Int) < s
    · rw [if_pos hs, if_pos hs]
      rcases check_01 hn with rfl | rfl
      · exact (cut_arg0 h hn s hs).mono fun e w' hw => ⟨hw.1, DPost.of_below h hw.2⟩
      · exact (cut_arg1 h hn s hs).mono fun e w' hw => ⟨hw.1, DPost.of_below h hw.2⟩
    · rw [if_neg hs, if_neg hs]
      obtain ⟨m, rfl⟩ : ∃ m : Nat, s = (m : Int) := ⟨s.toNat, by omega⟩
      rw [Int.toNat_natCast]
      rcases check_01 hn with rfl | rfl
      · exact (cut_ok0 h hn m (by have : (x.file 0) = x.f0 := rfl; rw [this] at hs; omega)).mono fun e w' h => h
      · exact (cut_ok1 h hn m (by have : (x.file 1) = x.f1 := rfl; rw [this] at hs; omega)).mono fun e w' h => h
  · unfold cres cst
    rw [if_pos hn, if_pos hn]
    exact (cut_bad h n s hn).mono fun e w' hw => ⟨hw.1, DPost.of_below h hw.2⟩
theorem rcut_any {w : World} {h base : Nat} {x : DSt} (r : RD w h base x) (n s : Int) :
    Calls Try.prog 23 #[.pointer (some ⟨h, 0, none⟩), .int .i64 n, .int .i64 s] w fun e w' => e = .returned (.int .i64 (cres x n s)) ∧ RPost w w' h base (cst x n s) := by
  by_cases hn : x.check n = 0
  · unfold cres cst
    have hn2 : ¬ (x.check n ≠ 0) := by simp [hn]
    rw [if_neg hn2, if_neg hn2]
    clear hn2
    by_cases hs : s < 0 ∨ ((x.file n).length : Int) < s
    · rw [if_pos hs, if_pos hs]
      rcases check_01 hn with rfl | rfl
      · exact (rcut_arg0 r hn s hs).mono fun e w' hw => ⟨hw.1, hw.2 ▸ RPost.refl r⟩
      · exact (rcut_arg1 r hn s hs).mono fun e w' hw => ⟨hw.1, hw.2 ▸ RPost.refl r⟩
    · rw [if_neg hs, if_neg hs]
      obtain ⟨m, rfl⟩ : ∃ m : Nat, s = (m : Int) := ⟨s.toNat, by omega⟩
      rw [Int.toNat_natCast]
      rcases check_01 hn with rfl | rfl
      · exact (rcut_ok0 r hn m (by have : (x.file 0) = x.f0 := rfl; rw [this] at hs; omega)).mono fun e w' h => h
      · exact (rcut_ok1 r hn m (by have : (x.file 1) = x.f1 := rfl; rw [this] at hs; omega)).mono fun e w' h => h
  · unfold cres cst
    rw [if_pos hn, if_pos hn]
    exact (rcut_bad r n s hn).mono fun e w' hw => ⟨hw.1, hw.2 ▸ RPost.refl r⟩
theorem clear_any {w : World} {g base : Nat} {v0 v1 : Value} {x : DSt} (h : Dsk w g base v0 v1 x) (n : Int) :
    Calls Try.prog 18 #[.pointer (some ⟨g, 0, none⟩), .int .i64 n] w fun e w' => e = .returned (.int .i64 (cres x n 0)) ∧ DPost w w' g base (cst x n 0) :=
  clear_said ((cut_any h n 0).mono fun e w' hw => ⟨⟨_, hw.1⟩, hw⟩)
theorem rclear_any {w : World} {h base : Nat} {x : DSt} (r : RD w h base x) (n : Int) :
    Calls Try.prog 22 #[.pointer (some ⟨h, 0, none⟩), .int .i64 n] w fun e w' => e = .returned (.int .i64 (cres x n 0)) ∧ RPost w w' h base (cst x n 0) :=
  rclear_said ((rcut_any r n 0).mono fun e w' hw => ⟨⟨_, hw.1⟩, hw⟩)
theorem spoil_any {w : World} {g base : Nat} {v0 v1 : Value} {x : DSt} (h : Dsk w g base v0 v1 x) (n s : Int) {A : Option Addr} {c : Nat} {ys : List Int} (hC : (Kd.int .u8).C w A ys.length ys) (hy : ys.length ≤ 140737488351232) :
    Calls Try.prog 17 #[.pointer (some ⟨g, 0, none⟩), .int .i64 n, .int .i64 s, .slice A ys.length c] w fun e w' => e = .returned (.int .i64 (sres x n s ys)) ∧ DPost w w' g base (sst x n s ys) := by
  unfold sres sst
  by_cases hb : (n < 0 ∨ 2 ≤ n) ∨ s < 0 ∨ ((x.file n).length : Int) < s
  · rw [if_pos hb, if_pos hb]
    by_cases hn : n < 0 ∨ 2 ≤ n
    · exact (spoil_num h n hn s _).mono fun e w' hw => ⟨hw.1, hw.2 ▸ DPost.of_below h (Below.refl _ _)⟩
    · have hs : s < 0 ∨ ((x.file n).length : Int) < s := by rcases hb with h | h; exact absurd h hn; exact h
      have h01 : n = 0 ∨ n = 1 := by omega
      rcases h01 with rfl | rfl
      · exact (spoil_arg0 h s hs _).mono fun e w' hw => ⟨hw.1, hw.2 ▸ DPost.of_below h (Below.refl _ _)⟩
      · exact (spoil_arg1 h s hs _).mono fun e w' hw => ⟨hw.1, hw.2 ▸ DPost.of_below h (Below.refl _ _)⟩
  · rw [if_neg hb, if_neg hb]
    obtain ⟨m, rfl⟩ : ∃ m : Nat, s = (m : Int) := ⟨s.toNat, by omega⟩
    rw [Int.toNat_natCast]
    have h01 : n = 0 ∨ n = 1 := by omega
    by_cases hl : m + ys.length > 4194304
    · rw [if_pos hl, if_pos hl]
      rcases h01 with rfl | rfl
      · exact (spoil_full0 h m (by have : (x.file 0) = x.f0 := rfl; rw [this] at hb; omega) A ys.length c hl hy).mono fun e w' hw => ⟨hw.1, hw.2 ▸ DPost.of_below h (Below.refl _ _)⟩
      · exact (spoil_full1 h m (by have : (x.file 1) = x.f1 := rfl; rw [this] at hb; omega) A ys.length c hl hy).mono fun e w' hw => ⟨hw.1, hw.2 ▸ DPost.of_below h (Below.refl _ _)⟩
    · rw [if_neg hl, if_neg hl]
      rcases h01 with rfl | rfl
      · exact (spoil_ok0 h m (by have : (x.file 0) = x.f0 := rfl; rw [this] at hb; omega) hC (by omega)).mono fun e w' ⟨he, a, b, h1, h2, h3, _⟩ => ⟨he, a, b, h1, h2, h3⟩
      · exact (spoil_ok1 h m (by have : (x.file 1) = x.f1 := rfl; rw [this] at hb; omega) hC (by omega)).mono fun e w' ⟨he, a, b, h1, h2, h3, _⟩ => ⟨he, a, b, h1, h2, h3⟩
theorem rspoil_any {w : World} {h base : Nat} {x : DSt} (r : RD w h base x) (n s : Int) (ys : List Int) (hy : ys.length ≤ 140737488351232) :
    Calls Try.prog 27 #[.pointer (some ⟨h, 0, none⟩), .int .i64 n, .int .i64 s, .string (strOfNums ys)] w fun e w' => e = .returned (.int .i64 (sres x n s ys)) ∧ RPost w w' h base (sst x n s ys) := by
  unfold sres sst
  by_cases hb : (n < 0 ∨ 2 ≤ n) ∨ s < 0 ∨ ((x.file n).length : Int) < s
  · rw [if_pos hb, if_pos hb]
    by_cases hn : n < 0 ∨ 2 ≤ n
    · exact (rspoil_num h n hn s _ _).mono fun e w' hw => ⟨hw.1, hw.2 ▸ RPost.refl r⟩
    · have hs : s < 0 ∨ ((x.file n).length : Int) < s := by rcases hb with h | h; exact absurd h hn; exact h
      have h01 : n = 0 ∨ n = 1 := by omega
      rcases h01 with rfl | rfl
      · exact (rspoil_arg0 r s hs _).mono fun e w' hw => ⟨hw.1, hw.2 ▸ RPost.refl r⟩
      · exact (rspoil_arg1 r s hs _).mono fun e w' hw => ⟨hw.1, hw.2 ▸ RPost.refl r⟩
  · rw [if_neg hb, if_neg hb]
    obtain ⟨m, rfl⟩ : ∃ m : Nat, s = (m : Int) := ⟨s.toNat, by omega⟩
    rw [Int.toNat_natCast]
    have h01 : n = 0 ∨ n = 1 := by omega
    rcases h01 with rfl | rfl
    · exact (rspoil_ok0 r m (by have : (x.file 0) = x.f0 := rfl; rw [this] at hb; omega) ys hy).mono fun e w' h => h
    · exact (rspoil_ok1 r m (by have : (x.file 1) = x.f1 := rfl; rw [this] at hb; omega) ys hy).mono fun e w' h => h
/-- what is read, as a string, in every world behind -/
def Said (v : Value) (w : World) (s : ByteArray) : Prop := ∀ w', Below w.heap.size w w' → (convert 30 9 v).run Try.prog w' = .ok (.string s) w'
theorem read_any {w : World} {g base : Nat} {v0 v1 : Value} {x : DSt} (h : Dsk w g base v0 v1 x) (n : Int) :
    Calls Try.prog 16 #[.pointer (some ⟨g, 0, none⟩), .int .i64 n] w fun e w' => (∃ v, e = .returned (.tuple #[v, .int .i64 (x.check n)]) ∧ Said v w' (rstr x n)) ∧ Below w.heap.size w w' := by
  unfold rstr
  by_cases hn : x.check n = 0
  · have hn2 : ¬ (x.check n ≠ 0) := by simp [hn]
    rw [if_neg hn2, hn]
    clear hn2
    rcases check_01 hn with rfl | rfl
    · refine (read_ok0 h hn).mono ?_
      rintro e w' ⟨⟨v, rfl, hr⟩, hb⟩
      exact ⟨⟨v, rfl, fun w2 h2 => own_string (P := Try.prog) Try.underlying30 Try.underlying5 Try.underlying9 (Kd.own_of_R (Kd.R_below hr h2))⟩, hb⟩
    · refine (read_ok1 h hn).mono ?_
      rintro e w' ⟨⟨v, rfl, hr⟩, hb⟩
      exact ⟨⟨v, rfl, fun w2 h2 => own_string (P := Try.prog) Try.underlying30 Try.underlying5 Try.underlying9 (Kd.own_of_R (Kd.R_below hr h2))⟩, hb⟩
  · rw [if_pos hn]
    refine (read_bad h n hn).mono ?_
    rintro e w' ⟨rfl, rfl⟩
    exact ⟨⟨_, rfl, fun w2 h2 => Kd.C_string (P := Try.prog) (A := none) (c := 0) (xs := []) Try.underlying30 Try.underlying5 Try.underlying9 (Kd.C_nil _ _)⟩, Below.refl _ _⟩
theorem rread_any {w : World} {h base : Nat} {x : DSt} (r : RD w h base x) (n : Int) :
    Calls Try.prog 24 #[.pointer (some ⟨h, 0, none⟩), .int .i64 n] w fun e w' => e = .returned (.tuple #[.string (rstr x n), .int .i64 (x.check n)]) ∧ w = w' := by
  unfold rstr
  by_cases hn : x.check n = 0
  · have hn2 : ¬ (x.check n ≠ 0) := by simp [hn]
    rw [if_neg hn2, hn]
    clear hn2
    rcases check_01 hn with rfl | rfl
    · exact rread_ok0 r hn
    · exact rread_ok1 r hn
  · rw [if_pos hn]
    exact rread_bad r n hn
theorem arm_any {w : World} {g base : Nat} {v0 v1 : Value} {x : DSt} (h : Dsk w g base v0 v1 x) (k : Int) (hk : k < 9223372036854775808) :
    Calls Try.prog 13 #[.pointer (some ⟨g, 0, none⟩), .int .i64 k] w fun e w' => e = .returned (.tuple #[]) ∧ DPost w w' g base { x with armed := true, left := max k 0 } :=
  (arm_calls h k hk).mono fun e w' ⟨he, h1, h2, h3⟩ => ⟨he, _, _, h1, h2, h3⟩
theorem wake_any {w : World} {g base : Nat} {v0 v1 : Value} {x : DSt} (h : Dsk w g base v0 v1 x) :
    Calls Try.prog 15 #[.pointer (some ⟨g, 0, none⟩)] w fun e w' => e = .returned (.tuple #[]) ∧ DPost w w' g base { x with armed := false, off := false } :=
  (wake_calls h).mono fun e w' ⟨he, h1, h2, h3⟩ => ⟨he, _, _, h1, h2, h3⟩
end Go.Proofs.Ytijbcfnkeahdoaa.Disk
