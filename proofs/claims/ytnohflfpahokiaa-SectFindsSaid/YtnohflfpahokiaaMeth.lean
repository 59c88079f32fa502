
/- A reader's methods: what each tells, and what the reader is behind it, by plain functions; a nil reader's. -/
import Derived.Test.YtnohflfpahokiaaAsk
set_option linter.unusedVariables false
set_option linter.unusedSimpArgs false
namespace Go.Proofs.Ytnohflfpahokiaa.Rd
open Go Go.RowKit Go.Proofs.YtnohflfpahokiaaW.PrintWords Go.Proofs.YtnohflfpahokiaaW.PrintLast Go.Proofs.Ytnohflfpahokiaa.LebM Go.Proofs.Ytnohflfpahokiaa.Leb
def getM (bs : List Int) (p : Nat) : Int × Int × Int := getS (bs.drop p) 0 1 0
def uM (bs : List Int) (p : Nat) (er : Int) : Int × Nat × Int :=
  if er ≠ 0 then (0, p, er) else if (getM bs p).2.2 ≠ 0 then (0, p, (getM bs p).2.2) else ((getM bs p).1, p + (getM bs p).2.1.toNat, 0)
def iM (bs : List Int) (p : Nat) (er : Int) : Int × Nat × Int :=
  if er ≠ 0 then (0, p, er) else if (getM bs p).2.2 ≠ 0 then (0, p, (getM bs p).2.2) else (zagS (getM bs p).1, p + (getM bs p).2.1.toNat, 0)
def byteM (bs : List Int) (p : Nat) (er : Int) : Int × Nat × Int :=
  if er ≠ 0 then (0, p, er) else if p < bs.length then (bs.getD p 0, p + 1, 0) else (0, p, 10)
def wordM (bs : List Int) (p : Nat) (er : Int) : Int × Nat × Int :=
  if er ≠ 0 then (0, p, er) else if p + 4 ≤ bs.length then (leJ (fun i => bs.getD (p + i) 0) 4, p + 4, 0) else (0, p, 10)
def countM (bs : List Int) (p : Nat) (er most : Int) : Int × Nat × Int :=
  if er ≠ 0 then (0, p, er) else if (getM bs p).2.2 ≠ 0 then (0, p, (getM bs p).2.2) else if most < 0 ∨ most < (getM bs p).1 then (0, p, 3) else ((getM bs p).1, p + (getM bs p).2.1.toNat, 0)
def textM (bs : List Int) (p : Nat) (er most : Int) : ByteArray × Nat × Int :=
  if er ≠ 0 then (⟨#[]⟩, p, er) else if (getM bs p).2.2 ≠ 0 then (⟨#[]⟩, p, (getM bs p).2.2) else if most < 0 ∨ most < (getM bs p).1 then (⟨#[]⟩, p, 3)
  else if (bs.length : Int) - (p + (getM bs p).2.1.toNat : Nat) < (getM bs p).1 then (⟨#[]⟩, p, 10)
  else (strOfNums ((bs.take (p + (getM bs p).2.1.toNat + (getM bs p).1.toNat)).drop (p + (getM bs p).2.1.toNat)), p + (getM bs p).2.1.toNat + (getM bs p).1.toNat, 0)
section
variable {base g : Nat} {w : World} {bs : List Int} {p : Nat} {er : Int}
/-- where it failed before: the reader stays -/
theorem shut_post {T : Nat} {e : Ending} {w' : World} {v : Value} (r : Rdr T base w g bs p er) (h : e = .returned v ∧ Below w.heap.size w w') : e = .returned v ∧ Rdr T base w' g bs p er ∧ Kp base w w' g := ⟨h.1, r.below h.2, Kp.of_below h.2 r.size g⟩
theorem getM_eq (bs : List Int) (p : Nat) {n k x : Int} (h : getM bs p = (n, k, x)) : getS (bs.drop p) 0 1 0 = (n, k, x) := h


theorem ask_byte_any (r : Rdr 76 base w g bs p er) :
    Calls Try.prog 64 #[.pointer (some ⟨g, 0, none⟩), .func (.func 65) #[] #[]] w fun e w' => e = .returned (.int .i64 (byteM bs p er).1) ∧ Rdr 76 base w' g bs (byteM bs p er).2.1 (byteM bs p er).2.2 ∧ Kp base w w' g := by
  unfold byteM
  by_cases he : er = 0
  · subst he
    rw [if_neg (fun h => h rfl)]
    by_cases hp : p < bs.length
    · rw [if_pos hp]
      exact ask_byte1_ok r fun w1 hb r1 => byte1_ok r1 hp
    · rw [if_neg hp]
      exact ask_byte1_bad r fun w1 hb r1 => byte1_bad r1 (by omega)
  · rw [if_pos he]
    exact (askInt_shut r he _).mono fun e w' h => shut_post r h
set_option maxHeartbeats 1000000 in
theorem byte_calls (r : Rdr 76 base w g bs p er) :
    Calls Try.prog 51 #[.pointer (some ⟨g, 0, none⟩)] w fun e w' => e = .returned (.int .i64 (byteM bs p er).1) ∧ Rdr 76 base w' g bs (byteM bs p er).2.1 (byteM bs p er).2.2 ∧ Kp base w w' g := by
  have R := Aside0.mk r
  clear r
  go_enter Try.func51, Try.ntmps51
  go_wp2_with (go_at_call 64; (with_reducible refine (ask_byte_any R.out).mono ?_); rintro e w1 ⟨rfl, h1, h2⟩; have R1 := Aside0.mk h1; have K1 := Aside0.mk h2; clear h1 h2)
  go_ret
  exact ⟨rfl, R1.out, K1.out⟩
set_option maxHeartbeats 1000000 in
theorem byte_nil (w : World) :
    Calls Try.prog 51 #[.pointer none] w fun e w' => e = .returned (.int .i64 0) ∧ Below w.heap.size w w' := by
  go_enter Try.func51, Try.ntmps51
  go_wp2_with (go_at_call 64; (with_reducible refine (askInt_nil _ _).mono ?_); rintro e w1 ⟨rfl, h1⟩; have B1 := Aside0.mk h1; clear h1)
  go_ret
  exact ⟨rfl, B1.out⟩


theorem ask_word_any (r : Rdr 76 base w g bs p er) :
    Calls Try.prog 70 #[.pointer (some ⟨g, 0, none⟩), .func (.func 71) #[] #[]] w fun e w' => e = .returned (.int .u32 (wordM bs p er).1) ∧ Rdr 76 base w' g bs (wordM bs p er).2.1 (wordM bs p er).2.2 ∧ Kp base w w' g := by
  unfold wordM
  by_cases he : er = 0
  · subst he
    rw [if_neg (fun h => h rfl)]
    by_cases hp : p + 4 ≤ bs.length
    · rw [if_pos hp]
      exact ask_word_ok r fun w1 hb r1 => word_ok r1 hp
    · rw [if_neg hp]
      exact ask_word_bad r fun w1 hb r1 => word_bad r1 (by omega)
  · rw [if_pos he]
    exact (askW_shut r he _).mono fun e w' h => shut_post r h
set_option maxHeartbeats 1000000 in
theorem word_calls (r : Rdr 76 base w g bs p er) :
    Calls Try.prog 53 #[.pointer (some ⟨g, 0, none⟩)] w fun e w' => e = .returned (.int .u32 (wordM bs p er).1) ∧ Rdr 76 base w' g bs (wordM bs p er).2.1 (wordM bs p er).2.2 ∧ Kp base w w' g := by
  have R := Aside0.mk r
  clear r
  go_enter Try.func53, Try.ntmps53
  go_wp2_with (go_at_call 70; (with_reducible refine (ask_word_any R.out).mono ?_); rintro e w1 ⟨rfl, h1, h2⟩; have R1 := Aside0.mk h1; have K1 := Aside0.mk h2; clear h1 h2)
  go_ret
  exact ⟨rfl, R1.out, K1.out⟩
set_option maxHeartbeats 1000000 in
theorem word_nil (w : World) :
    Calls Try.prog 53 #[.pointer none] w fun e w' => e = .returned (.int .u32 0) ∧ Below w.heap.size w w' := by
  go_enter Try.func53, Try.ntmps53
  go_wp2_with (go_at_call 70; (with_reducible refine (askW_nil _ _).mono ?_); rintro e w1 ⟨rfl, h1⟩; have B1 := Aside0.mk h1; clear h1)
  go_ret
  exact ⟨rfl, B1.out⟩


theorem ask_text_any (r : Rdr 76 base w g bs p er) (most : Int) (hm : most < 9223372036854775808) (q : Nat) (hc : w.cell? ⟨q, 0, none⟩ = some (.int .i64 most)) :
    Calls Try.prog 67 #[.pointer (some ⟨g, 0, none⟩), .func (.func 68) #[] #[.pointer (some ⟨q, 0, none⟩)]] w fun e w' => e = .returned (.string (textM bs p er most).1) ∧ Rdr 76 base w' g bs (textM bs p er most).2.1 (textM bs p er most).2.2 ∧ Kp base w w' g := by
  have hcc : ∀ w1, Below w.heap.size w w1 → w1.cell? ⟨q, 0, none⟩ = some (.int .i64 most) := fun w1 hb => (hb.cell (World.block_lt_of_cell? w _ hc)).trans hc
  unfold textM
  by_cases he : er = 0
  · subst he
    rw [if_neg (fun h => h rfl)]
    obtain ⟨n, k, x, hq⟩ : ∃ n k x, getM bs p = (n, k, x) := ⟨_, _, _, rfl⟩
    rw [hq]
    by_cases hx : x = 0
    · subst hx
      rw [if_neg (fun h => h rfl)]
      by_cases hl : most < 0 ∨ most < n
      · rw [if_pos hl]
        exact ask_text1_bad r q fun w1 hb r1 => text1_long r1 hq most hm hl q (hcc w1 hb)
      · rw [if_neg hl]
        by_cases hs : (bs.length : Int) - (p + k.toNat : Nat) < n
        · rw [if_pos hs]
          exact ask_text1_bad r q fun w1 hb r1 => text1_short r1 hq most hm (by omega) hs q (hcc w1 hb)
        · rw [if_neg hs]
          exact ask_text1_ok r q fun w1 hb r1 => text1_ok r1 hq most hm (by omega) (by omega) q (hcc w1 hb)
    · rw [if_pos hx]
      exact ask_text1_bad r q fun w1 hb r1 => text1_bad r1 hq hx most q (hcc w1 hb)
  · rw [if_pos he]
    exact (askS_shut r he _).mono fun e w' h => shut_post r h
set_option maxHeartbeats 1000000 in
theorem text_calls (r : Rdr 76 base w g bs p er) (most : Int) (hm : most < 9223372036854775808) :
    Calls Try.prog 52 #[.pointer (some ⟨g, 0, none⟩), .int .i64 most] w fun e w' => e = .returned (.string (textM bs p er most).1) ∧ Rdr 76 base w' g bs (textM bs p er most).2.1 (textM bs p er most).2.2 ∧ Kp base w w' g := by
  have hmf : ∀ (fn : Fn) (first cap : Array Value) (w : World), (Instr.makeFunc fn first cap).run Try.prog w = .ok (.func fn first cap) w := fun _ _ _ _ => rfl
  have HM := Aside0.mk hm
  have BA := Aside0.mk (below_alloc (Below.refl w.heap.size w) (.cells #[.int .i64 most] 3))
  have HQ := Aside0.mk (show (w.alloc (.cells #[.int .i64 most] 3)).cell? ⟨w.heap.size, 0, none⟩ = some (.int .i64 most) from (blk_cell (blk_new w _) 0).trans rfl)
  have RS := Aside0.mk r.size
  have R := Aside0.mk (r.below BA.out)
  clear r hm
  go_enter Try.func52, Try.ntmps52
  go_wp2_with (go_at_call 67; (with_reducible refine (ask_text_any R.out most HM.out w.heap.size HQ.out).mono ?_); rintro e w1 ⟨rfl, h1, h2⟩; have R1 := Aside0.mk h1; have K1 := Aside0.mk h2; clear h1 h2)
  go_ret
  exact ⟨rfl, R1.out, (Kp.of_below BA.out RS.out g).trans K1.out⟩
set_option maxHeartbeats 1000000 in
theorem text_nil (most : Int) (w : World) :
    Calls Try.prog 52 #[.pointer none, .int .i64 most] w fun e w' => e = .returned (.string ⟨#[]⟩) ∧ Below w.heap.size w w' := by
  have hmf : ∀ (fn : Fn) (first cap : Array Value) (w : World), (Instr.makeFunc fn first cap).run Try.prog w = .ok (.func fn first cap) w := fun _ _ _ _ => rfl
  have BA := Aside0.mk (below_alloc (Below.refl w.heap.size w) (.cells #[.int .i64 most] 3))
  go_enter Try.func52, Try.ntmps52
  go_wp2_with (go_at_call 67; (with_reducible refine (askS_nil _ _).mono ?_); rintro e w1 ⟨rfl, h1⟩; have B1 := Aside0.mk (below_then BA.out BA.out.size h1); clear h1)
  go_ret
  exact ⟨rfl, B1.out⟩

end
set_option maxHeartbeats 1000000 in
theorem left_nil (w : World) : Calls Try.prog 27 #[.pointer none] w fun e w' => e = .returned (.int .i64 0) ∧ w = w' := by
  go_enter Try.func27, Try.ntmps27
  go_wp2
  go_ret
  exact ⟨rfl, rfl⟩
set_option maxHeartbeats 1000000 in
theorem at_nil (w : World) : Calls Try.prog 28 #[.pointer none] w fun e w' => e = .returned (.int .i64 0) ∧ w = w' := by
  go_enter Try.func28, Try.ntmps28
  go_wp2
  go_ret
  exact ⟨rfl, rfl⟩
set_option maxHeartbeats 1000000 in
theorem err_nil (w : World) : Calls Try.prog 54 #[.pointer none] w fun e w' => e = .returned (.int .i64 6) ∧ w = w' := by
  go_enter Try.func54, Try.ntmps54
  go_wp2
  go_ret
  exact ⟨rfl, rfl⟩

end Go.Proofs.Ytnohflfpahokiaa.Rd
