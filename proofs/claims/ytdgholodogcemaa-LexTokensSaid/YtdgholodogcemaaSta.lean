/- The states of a lexer, walked: what each does with a rune. -/
import Derived.Test.YtdgholodogcemaaLxr
set_option linter.unusedVariables false
set_option linter.unusedSimpArgs false
set_option maxRecDepth 20000
namespace Go.Proofs.Ytdgholodogcemaa.Lex
open Go Go.RowKit Go.Proofs.YtdgholodogcemaaW.PrintWords Go.Proofs.YtdgholodogcemaaW.PrintLast
open Go.Proofs.Ytdgholodogcemaa.PAll (S36 k36)

def plainB (c : Nat) : Bool := decide (32 ≤ c) && decide (c ≤ 126)
def wordB (c : Nat) : Bool := plainB c && (decide (c ≠ 32) && decide (c ≠ 34))
theorem plain_is {c : Nat} {r : Bool} (h : plainB c = r) (w : World) : Calls Try.prog 27 #[.int .i32 (c : Int)] w fun e w' => e = .returned (.bool r) ∧ w = w' := by
  subst h
  unfold plainB
  by_cases h1 : 32 ≤ c
  · have d1 : decide ((32 : Int) ≤ (c : Int)) = true := decide_eq_true (by omega)
    have d1n : decide (32 ≤ c) = true := decide_eq_true h1
    have e2 : decide ((c : Int) ≤ 126) = decide (c ≤ 126) := by simp only [decide_eq_decide]; omega
    rw [d1n, Bool.true_and]
    clear h1
    by_cases h2 : c ≤ 126
    · have d2n : decide (c ≤ 126) = true := decide_eq_true h2
      rw [d2n] at e2 ⊢
      clear h2
      go_enter Try.func27, Try.ntmps27
      go_wp2
      go_ret
      exact ⟨by first | rfl | simp, rfl⟩
    · have d2n : decide (c ≤ 126) = false := decide_eq_false h2
      rw [d2n] at e2 ⊢
      clear h2
      go_enter Try.func27, Try.ntmps27
      go_wp2
      go_ret
      exact ⟨by first | rfl | simp, rfl⟩
  · have d1 : decide ((32 : Int) ≤ (c : Int)) = false := decide_eq_false (by omega)
    have d1n : decide (32 ≤ c) = false := decide_eq_false h1
    rw [d1n, Bool.false_and]
    clear h1
    go_enter Try.func27, Try.ntmps27
    go_wp2
    go_ret
    exact ⟨by first | rfl | simp, rfl⟩
theorem word_is {c : Nat} {r : Bool} (h : wordB c = r) (w : World) : Calls Try.prog 29 #[.int .i32 (c : Int)] w fun e w' => e = .returned (.bool r) ∧ w = w' := by
  subst h
  unfold wordB
  cases hp : plainB c with
  | false =>
    have HP := Aside0.mk hp
    rw [Bool.false_and]
    clear hp
    go_enter Try.func29, Try.ntmps29
    go_wp2_with (go_at_call 27; (with_reducible refine (plain_is HP.out _).mono ?_); rintro e w1 ⟨rfl, rfl⟩)
    go_ret
    exact ⟨by first | rfl | simp, rfl⟩
  | true =>
    have HP := Aside0.mk hp
    rw [Bool.true_and]
    clear hp
    by_cases h2 : c = 32
    · have b2 : ((c : Int) != 32) = false := by rw [h2]; rfl
      rw [decide_eq_false (show ¬ c ≠ 32 from fun h => h h2), Bool.false_and]
      clear h2
      go_enter Try.func29, Try.ntmps29
      go_wp2_with (go_at_call 27; (with_reducible refine (plain_is HP.out _).mono ?_); rintro e w1 ⟨rfl, rfl⟩)
      go_ret
      exact ⟨by first | rfl | simp, rfl⟩
    · have b2 : ((c : Int) != 32) = true := bne_iff_ne.mpr (by omega)
      rw [decide_eq_true (show c ≠ 32 from h2), Bool.true_and]
      clear h2
      by_cases h3 : c = 34
      · have b3 : ((c : Int) != 34) = false := by rw [h3]; rfl
        rw [decide_eq_false (show ¬ c ≠ 34 from fun h => h h3)]
        clear h3
        go_enter Try.func29, Try.ntmps29
        go_wp2_with (go_at_call 27; (with_reducible refine (plain_is HP.out _).mono ?_); rintro e w1 ⟨rfl, rfl⟩)
        go_ret
        exact ⟨by first | rfl | simp, rfl⟩
      · have b3 : ((c : Int) != 34) = true := bne_iff_ne.mpr (by omega)
        rw [decide_eq_true (show c ≠ 34 from h3)]
        clear h3
        go_enter Try.func29, Try.ntmps29
        go_wp2_with (go_at_call 27; (with_reducible refine (plain_is HP.out _).mono ?_); rintro e w1 ⟨rfl, rfl⟩)
        go_ret
        exact ⟨by first | rfl | simp, rfl⟩
/-- a rune is written -/
theorem rune_calls {w : World} {g base : Nat} {out : List S36} {li co tk tl tc : Int} {xs : List Int} (h : LDo w g base out li co tk tl tc xs) {c : Nat} (hc : c < 128) (hl : xs.length + 1 ≤ 140737488355328) :
    Calls Try.prog 37 #[.pointer (some ⟨g, 7, none⟩), .int .i32 (c : Int)] w fun e w' => (∃ n, e = .returned (.tuple #[.int .i64 n, .nilIface])) ∧ LDo w' g base out li co tk tl tc (xs ++ [(c : Int)]) ∧ IterStay w w' ∧ Below base w w' := by
  obtain ⟨vo, tx, p, v, L, W⟩ := h
  refine (wrX_calls (Wr.bld L W) hc hl).mono ?_
  rintro e w' ⟨h1, v', ⟨p', hp', hB⟩, hk, hb⟩
  refine ⟨h1, ⟨vo, tx, p', v', ⟨hB.blk, ?_, L.low, hB.size⟩, hp', hB.row⟩, IterStay.of_keep hk L.blk (own_cells W.2), hb⟩
  refine Kd.R_mono (Kd.R_move (Kd.R_bound L.row) (fun k hk2 => hk.2 k hk2.2.2.1 hk2.1 ?_)) (fun _ hk => hk.1)
  obtain ⟨_, _, _, q, hq, cells, hc⟩ := hk2
  have hq36 := types36 hq
  subst hq36
  exact Kd.R_ne W.2 hc (by decide)
theorem word32 (w : World) : Calls Try.prog 29 #[.int .i32 32] w fun e w' => e = .returned (.bool false) ∧ w = w' := word_is (c := 32) rfl w
theorem word10 (w : World) : Calls Try.prog 29 #[.int .i32 10] w fun e w' => e = .returned (.bool false) ∧ w = w' := word_is (c := 10) rfl w
theorem rune34 {w : World} {g base : Nat} {out : List S36} {li co tk tl tc : Int} {xs : List Int} (h : LDo w g base out li co tk tl tc xs) (hl : xs.length + 1 ≤ 140737488355328) :
    Calls Try.prog 37 #[.pointer (some ⟨g, 7, none⟩), .int .i32 34] w fun e w' => (∃ n, e = .returned (.tuple #[.int .i64 n, .nilIface])) ∧ LDo w' g base out li co tk tl tc (xs ++ [34]) ∧ IterStay w w' ∧ Below base w w' := rune_calls (c := 34) h (by decide) hl
theorem rune92 {w : World} {g base : Nat} {out : List S36} {li co tk tl tc : Int} {xs : List Int} (h : LDo w g base out li co tk tl tc xs) (hl : xs.length + 1 ≤ 140737488355328) :
    Calls Try.prog 37 #[.pointer (some ⟨g, 7, none⟩), .int .i32 92] w fun e w' => (∃ n, e = .returned (.tuple #[.int .i64 n, .nilIface])) ∧ LDo w' g base out li co tk tl tc (xs ++ [92]) ∧ IterStay w w' ∧ Below base w w' := rune_calls (c := 92) h (by decide) hl
set_option maxHeartbeats 4000000 in
theorem fresh_q {w : World} {g base : Nat} {out : List S36} {li co : Int} (h : LDc w g base out li co)  :
    Calls Try.prog 31 #[.pointer (some ⟨g, 0, none⟩), .int .i32 34] w fun e w' => e = .returned (.func (.func 36) #[] #[]) ∧ LDo w' g base out li co 2 li co [] ∧ IterStay w w' ∧ Below base w w' := by
  have X0 := Aside0.mk h
  clear h
  go_enter Try.func31, Try.ntmps31
  go_wp2_with (first
    | (go_at_call 35; (with_reducible refine (begin_calls X0.out 2).mono ?_); rintro e w1 ⟨rfl, h1, h2, h3⟩; have Xw1 := Aside0.mk h1; have Iw1 := Aside0.mk (h2); have Bw1 := Aside0.mk (h3); clear h1 h2 h3))
  go_ret
  exact ⟨rfl, Xw1.out, Iw1.out, Bw1.out⟩
set_option maxHeartbeats 4000000 in
theorem fresh_w {w : World} {g base : Nat} {out : List S36} {li co : Int} (h : LDc w g base out li co) {c : Nat} (hc : c < 128) (hw : wordB c = true) (h34 : c ≠ 34) :
    Calls Try.prog 31 #[.pointer (some ⟨g, 0, none⟩), .int .i32 (c : Int)] w fun e w' => e = .returned (.func (.func 38) #[] #[]) ∧ LDo w' g base out li co 1 li co [(c : Int)] ∧ IterStay w w' ∧ Below base w w' := by
  have X0 := Aside0.mk h
  have HWD := Aside0.mk hw
  have HC := Aside0.mk hc
  have b1 : ((c : Int) == 34) = false := beq_eq_false_iff_ne.mpr (by omega)
  clear h hc hw h34
  go_enter Try.func31, Try.ntmps31
  go_wp2_with (first
    | (go_at_call 29; (with_reducible refine (word_is HWD.out _).mono ?_); rintro e w_ ⟨rfl, rfl⟩)
    | (go_at_call 35; (with_reducible refine (begin_calls X0.out 1).mono ?_); rintro e w1 ⟨rfl, h1, h2, h3⟩; have Xw1 := Aside0.mk h1; have Iw1 := Aside0.mk (h2); have Bw1 := Aside0.mk (h3); clear h1 h2 h3)
    | (go_at_call 37; (with_reducible refine (rune_calls Xw1.out HC.out (by decide)).mono ?_); rintro e w2 ⟨⟨n2, rfl⟩, h1, h2, h3⟩; have Xw2 := Aside0.mk h1; have Iw2 := Aside0.mk (Iw1.out.trans h2); have Bw2 := Aside0.mk (Bw1.out.trans h3); clear h1 h2 h3))
  go_ret
  exact ⟨rfl, Xw2.out, Iw2.out, Bw2.out⟩
set_option maxHeartbeats 4000000 in
theorem fresh_n {w : World} {g : Nat} {c : Nat} (hw : wordB c = false) (h34 : c ≠ 34) :
    Calls Try.prog 31 #[.pointer (some ⟨g, 0, none⟩), .int .i32 (c : Int)] w fun e w' => e = .returned .nilFunc ∧ w = w' := by
  have HWD := Aside0.mk hw
  have b1 : ((c : Int) == 34) = false := beq_eq_false_iff_ne.mpr (by omega)
  clear hw h34
  go_enter Try.func31, Try.ntmps31
  go_wp2_with (first
    | (go_at_call 29; (with_reducible refine (word_is HWD.out _).mono ?_); rintro e w_ ⟨rfl, rfl⟩))
  go_ret
  exact ⟨rfl, rfl⟩
set_option maxHeartbeats 4000000 in
theorem start_q {w : World} {g base : Nat} {out : List S36} {li co : Int} (h : LDc w g base out li co)  :
    Calls Try.prog 19 #[.pointer (some ⟨g, 0, none⟩), .int .i32 34] w fun e w' => e = .returned (.func (.func 36) #[] #[]) ∧ LDo w' g base out li co 2 li co [] ∧ IterStay w w' ∧ Below base w w' := by
  have X0 := Aside0.mk h
  clear h
  go_enter Try.func19, Try.ntmps19
  go_wp2_with (first
    | (go_at_call 31; (with_reducible refine (fresh_q X0.out).mono ?_); rintro e w1 ⟨rfl, h1, h2, h3⟩; have Xw1 := Aside0.mk h1; have Iw1 := Aside0.mk (h2); have Bw1 := Aside0.mk (h3); clear h1 h2 h3))
  go_ret
  exact ⟨rfl, Xw1.out, Iw1.out, Bw1.out⟩
set_option maxHeartbeats 4000000 in
theorem start_w {w : World} {g base : Nat} {out : List S36} {li co : Int} (h : LDc w g base out li co) {c : Nat} (hc : c < 128) (hw : wordB c = true) (h34 : c ≠ 34) :
    Calls Try.prog 19 #[.pointer (some ⟨g, 0, none⟩), .int .i32 (c : Int)] w fun e w' => e = .returned (.func (.func 38) #[] #[]) ∧ LDo w' g base out li co 1 li co [(c : Int)] ∧ IterStay w w' ∧ Below base w w' := by
  have X0 := Aside0.mk h
  have HWD := Aside0.mk hw
  have HC := Aside0.mk hc
  have H34 := Aside0.mk h34
  clear h hc hw h34
  go_enter Try.func19, Try.ntmps19
  go_wp2_with (first
    | (go_at_call 31; (with_reducible refine (fresh_w X0.out HC.out HWD.out H34.out).mono ?_); rintro e w1 ⟨rfl, h1, h2, h3⟩; have Xw1 := Aside0.mk h1; have Iw1 := Aside0.mk (h2); have Bw1 := Aside0.mk (h3); clear h1 h2 h3))
  go_ret
  exact ⟨rfl, Xw1.out, Iw1.out, Bw1.out⟩
set_option maxHeartbeats 4000000 in
theorem start_n {w : World} {g : Nat} {c : Nat} (hw : wordB c = false) (h34 : c ≠ 34) :
    Calls Try.prog 19 #[.pointer (some ⟨g, 0, none⟩), .int .i32 (c : Int)] w fun e w' => e = .returned .nilFunc ∧ w = w' := by
  have HWD := Aside0.mk hw
  have H34 := Aside0.mk h34
  clear hw h34
  go_enter Try.func19, Try.ntmps19
  go_wp2_with (first
    | (go_at_call 31; (with_reducible refine (fresh_n HWD.out H34.out).mono ?_); rintro e w_ ⟨rfl, rfl⟩))
  go_ret
  exact ⟨rfl, rfl⟩
set_option maxHeartbeats 4000000 in
theorem behind_b {w : World} {g base : Nat} {out : List S36} {li co : Int} (h : LDc w g base out li co)  :
    Calls Try.prog 43 #[.pointer (some ⟨g, 0, none⟩), .int .i32 32] w fun e w' => e = .returned (.func (.func 31) #[] #[]) ∧ LDc w' g base out li co ∧ IterStay w w' ∧ Below base w w' := by
  have X0 := Aside0.mk h
  clear h
  go_enter Try.func43, Try.ntmps43
  go_wp2
  go_ret
  exact ⟨rfl, X0.out, IterStay.refl _, Below.refl _ _⟩
set_option maxHeartbeats 4000000 in
theorem behind_f {w : World} {g base : Nat} {out : List S36} {li co : Int} (h : LDc w g base out li co) (hl : (out.length + 1) * 40 ≤ 140737488355328) {li1 : Int} (hli : wrap64 (li + 1) = li1) :
    Calls Try.prog 43 #[.pointer (some ⟨g, 0, none⟩), .int .i32 10] w fun e w' => e = .returned (.func (.func 19) #[] #[]) ∧ LDc w' g base (out ++ [⟨3, li, co, ⟨#[]⟩⟩]) li1 0 ∧ IterStay w w' ∧ Below base w w' := by
  have X0 := Aside0.mk h
  clear h
  go_enter Try.func43, Try.ntmps43
  go_wp2_with (first
    | (go_at_call 35; (with_reducible refine (begin_calls X0.out 3).mono ?_); rintro e w1 ⟨rfl, h1, h2, h3⟩; have Xw1 := Aside0.mk h1; have Iw1 := Aside0.mk (h2); have Bw1 := Aside0.mk (h3); clear h1 h2 h3)
    | (go_at_call 42; (with_reducible refine (end_calls Xw1.out ⟨#[]⟩ rfl hl).mono ?_); rintro e w2 ⟨rfl, h1, h2, h3⟩; obtain ⟨vo, tk, tl, tc, tx, p, v, hL⟩ := h1; have L := Aside0.mk hL; have q1 := hL.c 1 rfl; have q2 := hL.c 2 rfl; have f1 := hL.f 1; have f2 := hL.f 2; have Iw2 := Aside0.mk (Iw1.out.trans h2); have Bw2 := Aside0.mk (Bw1.out.trans h3); clear hL h2 h3))
  go_ret
  refine ⟨rfl, ⟨vo, tk, tl, tc, tx, p, v, ?_, ?_, L.out.low, by simpa using L.out.size⟩, ?_, ?_⟩
  · exact blk_set (blk_set L.out.blk 1 _) 2 _
  · exact row_set (cs := #[]) (row_set (cs := #[]) L.out.row _) _
  · exact (Iw2.out.trans (IterStay.set _ L.out.blk)).trans (IterStay.set _ (blk_set L.out.blk 1 _))
  · exact (Bw2.out.setCell L.out.low _).setCell L.out.low _
set_option maxHeartbeats 4000000 in
theorem behind_n {w : World} {g : Nat} {c : Nat} (h32 : c ≠ 32) (h10 : c ≠ 10) :
    Calls Try.prog 43 #[.pointer (some ⟨g, 0, none⟩), .int .i32 (c : Int)] w fun e w' => e = .returned .nilFunc ∧ w = w' := by
  have b1 : ((c : Int) == 32) = false := beq_eq_false_iff_ne.mpr (by omega)
  have b2 : ((c : Int) == 10) = false := beq_eq_false_iff_ne.mpr (by omega)
  clear h32 h10
  go_enter Try.func43, Try.ntmps43
  go_wp2
  go_ret
  exact ⟨rfl, rfl⟩
set_option maxHeartbeats 4000000 in
theorem goes_w {w : World} {g base : Nat} {out : List S36} {li co tk tl tc : Int} {xs : List Int} (h : LDo w g base out li co tk tl tc xs) {c : Nat} (hc : c < 128) (hw : wordB c = true) (hl : xs.length + 1 ≤ 140737488355328) :
    Calls Try.prog 38 #[.pointer (some ⟨g, 0, none⟩), .int .i32 (c : Int)] w fun e w' => e = .returned (.func (.func 38) #[] #[]) ∧ LDo w' g base out li co tk tl tc (xs ++ [(c : Int)]) ∧ IterStay w w' ∧ Below base w w' := by
  have X0 := Aside0.mk h
  have HWD := Aside0.mk hw
  have HC := Aside0.mk hc
  clear h hc hw
  go_enter Try.func38, Try.ntmps38
  go_wp2_with (first
    | (go_at_call 29; (with_reducible refine (word_is HWD.out _).mono ?_); rintro e w_ ⟨rfl, rfl⟩)
    | (go_at_call 37; (with_reducible refine (rune_calls X0.out HC.out hl).mono ?_); rintro e w1 ⟨⟨n1, rfl⟩, h1, h2, h3⟩; have Xw1 := Aside0.mk h1; have Iw1 := Aside0.mk (h2); have Bw1 := Aside0.mk (h3); clear h1 h2 h3))
  go_ret
  exact ⟨rfl, Xw1.out, Iw1.out, Bw1.out⟩
set_option maxHeartbeats 4000000 in
theorem goes_b {w : World} {g base : Nat} {out : List S36} {li co tk tl tc : Int} {xs : List Int} (h : LDo w g base out li co tk tl tc xs) (s : ByteArray) (hs : xs = bytesOf s) (hl : (out.length + 1) * 40 ≤ 140737488355328) :
    Calls Try.prog 38 #[.pointer (some ⟨g, 0, none⟩), .int .i32 32] w fun e w' => e = .returned (.func (.func 31) #[] #[]) ∧ LDc w' g base (out ++ [⟨tk, tl, tc, s⟩]) li co ∧ IterStay w w' ∧ Below base w w' := by
  have X0 := Aside0.mk h
  have HS := Aside0.mk hs
  clear h hs
  go_enter Try.func38, Try.ntmps38
  go_wp2_with (first
    | (go_at_call 29; (with_reducible refine (word32 _).mono ?_); rintro e w_ ⟨rfl, rfl⟩)
    | (go_at_call 42; (with_reducible refine (end_calls X0.out s HS.out hl).mono ?_); rintro e w1 ⟨rfl, h1, h2, h3⟩; have Xw1 := Aside0.mk h1; have Iw1 := Aside0.mk h2; have Bw1 := Aside0.mk h3; clear h1 h2 h3)
    | (go_at_call 43; (with_reducible refine (behind_b Xw1.out).mono ?_); rintro e w2 ⟨rfl, h1, h2, h3⟩; have Xw2 := Aside0.mk h1; have Iw2 := Aside0.mk (Iw1.out.trans h2); have Bw2 := Aside0.mk (Bw1.out.trans h3); clear h1 h2 h3))
  go_ret
  exact ⟨rfl, Xw2.out, Iw2.out, Bw2.out⟩
set_option maxHeartbeats 4000000 in
theorem goes_f {w : World} {g base : Nat} {out : List S36} {li co tk tl tc : Int} {xs : List Int} (h : LDo w g base out li co tk tl tc xs) (s : ByteArray) (hs : xs = bytesOf s) (hl : (out.length + 1) * 40 ≤ 140737488355328) (hl2 : ((out ++ [(⟨tk, tl, tc, s⟩ : S36)]).length + 1) * 40 ≤ 140737488355328) {li1 : Int} (hli : wrap64 (li + 1) = li1) :
    Calls Try.prog 38 #[.pointer (some ⟨g, 0, none⟩), .int .i32 10] w fun e w' => e = .returned (.func (.func 19) #[] #[]) ∧ LDc w' g base (out ++ [⟨tk, tl, tc, s⟩] ++ [⟨3, li, co, ⟨#[]⟩⟩]) li1 0 ∧ IterStay w w' ∧ Below base w w' := by
  have X0 := Aside0.mk h
  have HS := Aside0.mk hs
  have HLI := Aside0.mk hli
  have HL2 := Aside0.mk hl2
  clear h hs hli hl2
  go_enter Try.func38, Try.ntmps38
  go_wp2_with (first
    | (go_at_call 29; (with_reducible refine (word10 _).mono ?_); rintro e w_ ⟨rfl, rfl⟩)
    | (go_at_call 42; (with_reducible refine (end_calls X0.out s HS.out hl).mono ?_); rintro e w1 ⟨rfl, h1, h2, h3⟩; have Xw1 := Aside0.mk h1; have Iw1 := Aside0.mk h2; have Bw1 := Aside0.mk h3; clear h1 h2 h3)
    | (go_at_call 43; (with_reducible refine (behind_f Xw1.out HL2.out HLI.out).mono ?_); rintro e w2 ⟨rfl, h1, h2, h3⟩; have Xw2 := Aside0.mk h1; have Iw2 := Aside0.mk (Iw1.out.trans h2); have Bw2 := Aside0.mk (Bw1.out.trans h3); clear h1 h2 h3))
  go_ret
  exact ⟨rfl, Xw2.out, Iw2.out, Bw2.out⟩
set_option maxHeartbeats 4000000 in
theorem goes_n {w : World} {g : Nat} {c : Nat} (hw : wordB c = false) (h32 : c ≠ 32) (h10 : c ≠ 10) :
    Calls Try.prog 38 #[.pointer (some ⟨g, 0, none⟩), .int .i32 (c : Int)] w fun e w' => e = .returned .nilFunc ∧ w = w' := by
  have HWD := Aside0.mk hw
  have b1 : ((c : Int) != 32) = true := bne_iff_ne.mpr (by omega)
  have b2 : ((c : Int) != 10) = true := bne_iff_ne.mpr (by omega)
  clear hw h32 h10
  go_enter Try.func38, Try.ntmps38
  go_wp2_with (first
    | (go_at_call 29; (with_reducible refine (word_is HWD.out _).mono ?_); rintro e w_ ⟨rfl, rfl⟩))
  go_ret
  exact ⟨rfl, rfl⟩
set_option maxHeartbeats 4000000 in
theorem within_q {w : World} {g base : Nat} {out : List S36} {li co tk tl tc : Int} {xs : List Int} (h : LDo w g base out li co tk tl tc xs) (s : ByteArray) (hs : xs = bytesOf s) (hl : (out.length + 1) * 40 ≤ 140737488355328) :
    Calls Try.prog 36 #[.pointer (some ⟨g, 0, none⟩), .int .i32 34] w fun e w' => e = .returned (.func (.func 43) #[] #[]) ∧ LDc w' g base (out ++ [⟨tk, tl, tc, s⟩]) li co ∧ IterStay w w' ∧ Below base w w' := by
  have X0 := Aside0.mk h
  have HS := Aside0.mk hs
  clear h hs
  go_enter Try.func36, Try.ntmps36
  go_wp2_with (first
    | (go_at_call 42; (with_reducible refine (end_calls X0.out s HS.out hl).mono ?_); rintro e w1 ⟨rfl, h1, h2, h3⟩; have Xw1 := Aside0.mk h1; have Iw1 := Aside0.mk h2; have Bw1 := Aside0.mk h3; clear h1 h2 h3))
  go_ret
  exact ⟨rfl, Xw1.out, Iw1.out, Bw1.out⟩
set_option maxHeartbeats 4000000 in
theorem within_s {w : World} {g base : Nat} {out : List S36} {li co tk tl tc : Int} {xs : List Int} (h : LDo w g base out li co tk tl tc xs)  :
    Calls Try.prog 36 #[.pointer (some ⟨g, 0, none⟩), .int .i32 92] w fun e w' => e = .returned (.func (.func 44) #[] #[]) ∧ LDo w' g base out li co tk tl tc xs ∧ IterStay w w' ∧ Below base w w' := by
  have X0 := Aside0.mk h
  clear h
  go_enter Try.func36, Try.ntmps36
  go_wp2
  go_ret
  exact ⟨rfl, X0.out, IterStay.refl _, Below.refl _ _⟩
set_option maxHeartbeats 4000000 in
theorem within_p {w : World} {g base : Nat} {out : List S36} {li co tk tl tc : Int} {xs : List Int} (h : LDo w g base out li co tk tl tc xs) {c : Nat} (hc : c < 128) (hp : plainB c = true) (h34 : c ≠ 34) (h92 : c ≠ 92) (hl : xs.length + 1 ≤ 140737488355328) :
    Calls Try.prog 36 #[.pointer (some ⟨g, 0, none⟩), .int .i32 (c : Int)] w fun e w' => e = .returned (.func (.func 36) #[] #[]) ∧ LDo w' g base out li co tk tl tc (xs ++ [(c : Int)]) ∧ IterStay w w' ∧ Below base w w' := by
  have X0 := Aside0.mk h
  have HPL := Aside0.mk hp
  have HC := Aside0.mk hc
  have b1 : ((c : Int) == 34) = false := beq_eq_false_iff_ne.mpr (by omega)
  have b2 : ((c : Int) == 92) = false := beq_eq_false_iff_ne.mpr (by omega)
  clear h hc hp h34 h92
  go_enter Try.func36, Try.ntmps36
  go_wp2_with (first
    | (go_at_call 27; (with_reducible refine (plain_is HPL.out _).mono ?_); rintro e w_ ⟨rfl, rfl⟩)
    | (go_at_call 37; (with_reducible refine (rune_calls X0.out HC.out hl).mono ?_); rintro e w1 ⟨⟨n1, rfl⟩, h1, h2, h3⟩; have Xw1 := Aside0.mk h1; have Iw1 := Aside0.mk (h2); have Bw1 := Aside0.mk (h3); clear h1 h2 h3))
  go_ret
  exact ⟨rfl, Xw1.out, Iw1.out, Bw1.out⟩
set_option maxHeartbeats 4000000 in
theorem within_n {w : World} {g : Nat} {c : Nat} (hp : plainB c = false) (h34 : c ≠ 34) (h92 : c ≠ 92) :
    Calls Try.prog 36 #[.pointer (some ⟨g, 0, none⟩), .int .i32 (c : Int)] w fun e w' => e = .returned .nilFunc ∧ w = w' := by
  have HPL := Aside0.mk hp
  have b1 : ((c : Int) == 34) = false := beq_eq_false_iff_ne.mpr (by omega)
  have b2 : ((c : Int) == 92) = false := beq_eq_false_iff_ne.mpr (by omega)
  clear hp h34 h92
  go_enter Try.func36, Try.ntmps36
  go_wp2_with (first
    | (go_at_call 27; (with_reducible refine (plain_is HPL.out _).mono ?_); rintro e w_ ⟨rfl, rfl⟩))
  go_ret
  exact ⟨rfl, rfl⟩
set_option maxHeartbeats 4000000 in
theorem escaped_q {w : World} {g base : Nat} {out : List S36} {li co tk tl tc : Int} {xs : List Int} (h : LDo w g base out li co tk tl tc xs) (hl : xs.length + 1 ≤ 140737488355328) :
    Calls Try.prog 44 #[.pointer (some ⟨g, 0, none⟩), .int .i32 34] w fun e w' => e = .returned (.func (.func 36) #[] #[]) ∧ LDo w' g base out li co tk tl tc (xs ++ [34]) ∧ IterStay w w' ∧ Below base w w' := by
  have X0 := Aside0.mk h
  clear h
  go_enter Try.func44, Try.ntmps44
  go_wp2_with (first
    | (go_at_call 37; (with_reducible refine (rune34 X0.out hl).mono ?_); rintro e w1 ⟨⟨n1, rfl⟩, h1, h2, h3⟩; have Xw1 := Aside0.mk h1; have Iw1 := Aside0.mk h2; have Bw1 := Aside0.mk h3; clear h1 h2 h3))
  go_ret
  exact ⟨rfl, Xw1.out, Iw1.out, Bw1.out⟩
set_option maxHeartbeats 4000000 in
theorem escaped_s {w : World} {g base : Nat} {out : List S36} {li co tk tl tc : Int} {xs : List Int} (h : LDo w g base out li co tk tl tc xs) (hl : xs.length + 1 ≤ 140737488355328) :
    Calls Try.prog 44 #[.pointer (some ⟨g, 0, none⟩), .int .i32 92] w fun e w' => e = .returned (.func (.func 36) #[] #[]) ∧ LDo w' g base out li co tk tl tc (xs ++ [92]) ∧ IterStay w w' ∧ Below base w w' := by
  have X0 := Aside0.mk h
  clear h
  go_enter Try.func44, Try.ntmps44
  go_wp2_with (first
    | (go_at_call 37; (with_reducible refine (rune92 X0.out hl).mono ?_); rintro e w1 ⟨⟨n1, rfl⟩, h1, h2, h3⟩; have Xw1 := Aside0.mk h1; have Iw1 := Aside0.mk h2; have Bw1 := Aside0.mk h3; clear h1 h2 h3))
  go_ret
  exact ⟨rfl, Xw1.out, Iw1.out, Bw1.out⟩
set_option maxHeartbeats 4000000 in
theorem escaped_n {w : World} {g : Nat} {c : Nat} (h34 : c ≠ 34) (h92 : c ≠ 92) :
    Calls Try.prog 44 #[.pointer (some ⟨g, 0, none⟩), .int .i32 (c : Int)] w fun e w' => e = .returned .nilFunc ∧ w = w' := by
  have b1 : ((c : Int) != 34) = true := bne_iff_ne.mpr (by omega)
  have b2 : ((c : Int) != 92) = true := bne_iff_ne.mpr (by omega)
  clear h34 h92
  go_enter Try.func44, Try.ntmps44
  go_wp2
  go_ret
  exact ⟨rfl, rfl⟩
end Go.Proofs.Ytdgholodogcemaa.Lex
