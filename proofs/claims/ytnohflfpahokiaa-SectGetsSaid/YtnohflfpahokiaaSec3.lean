/- Sections: the closures that look at one, IndexFunc, ContainsFunc, long, odd. -/
import Derived.Test.YtnohflfpahokiaaRdr2
import Derived.Test.YtnohflfpahokiaaCrc
set_option linter.unusedVariables false
set_option linter.unusedSimpArgs false
set_option maxRecDepth 20000
namespace Go.Proofs.Ytnohflfpahokiaa.Sec
open Go Go.RowKit Go.Proofs.YtnohflfpahokiaaW.PrintWords Go.Proofs.YtnohflfpahokiaaW.PrintLast Go.Proofs.Ytnohflfpahokiaa.LebM Go.Proofs.Ytnohflfpahokiaa.Leb
open Go.Proofs.Ytnohflfpahokiaa.PAll (S39 k39 z39 rd_T39 at_T39)
open Go.Proofs.Ytnohflfpahokiaa.Rd (Kp)

/-- a section of a row, in its cells -/
theorem at_sec {w : World} {A : Option Addr} {xs : List S39} (h : Kd.C k39 w A xs.length xs) (j : Nat) (hj : j < xs.length) : ∃ ad x A1 c1, A = some ad ∧ xs[j]? = some x ∧ w.cell? (ad.add (j * 2)) = some (.int .i64 x.f0) ∧
    w.cell? ⟨(ad.add (j * 2)).block, (ad.add (j * 2)).off + 1, none⟩ = some (.slice A1 x.f1.length c1) ∧ x.f1.length ≤ c1 ∧ (Kd.int .u8).C w A1 x.f1.length x.f1 := by
  obtain ⟨ad, A1, c1, h1, h2, h3, h4, h5⟩ := at_T39 h (j : Int) (by omega) (by omega)
  have e : rd_T39 xs (j : Int) = xs[j] := by unfold rd_T39; rw [Int.toNat_natCast, List.getD_eq_getElem?_getD, List.getElem?_eq_getElem hj]; rfl
  rw [e, Int.toNat_natCast] at h2
  rw [e, Int.toNat_natCast] at h3
  rw [e] at h4 h5
  exact ⟨ad, xs[j], A1, c1, h1, List.getElem?_eq_getElem hj, h2, h3, h4, h5⟩
/-- the box of a section -/
structure SBox (w : World) (b : Nat) (t : Int) (A : Option Addr) (n c : Nat) : Prop where
  blk : w.heap[b]? = some (.cells #[.int .i64 t, .slice A n c] 39 (0, 0))
theorem SBox.c0 {w : World} {b : Nat} {t : Int} {A : Option Addr} {n c : Nat} (o : SBox w b t A n c) : w.cell? ⟨b, 0, none⟩ = some (.int .i64 t) := (blk_cell o.blk 0).trans rfl
theorem SBox.c1 {w : World} {b : Nat} {t : Int} {A : Option Addr} {n c : Nat} (o : SBox w b t A n c) : w.cell? ⟨b, 1, none⟩ = some (.slice A n c) := (blk_cell o.blk 1).trans rfl
theorem SBox.below {w w' : World} {b : Nat} {t : Int} {A : Option Addr} {n c : Nat} (o : SBox w b t A n c) (h : Below w.heap.size w w') : SBox w' b t A n c := ⟨blk_below o.blk h⟩
set_option maxHeartbeats 1000000 in
theorem long1_calls (t : Int) (A : Option Addr) (n c : Nat) (w : World) : Calls Try.prog 43 #[.agg #[.int .i64 t, .slice A n c]] w fun e w' => e = .returned (.bool (decide (1048576 < n))) ∧ Below w.heap.size w w' := by
  have O := Aside0.mk (show SBox (w.alloc (.cells #[.int .i64 t, .slice A n c] 39)) w.heap.size t A n c from ⟨blk_new w _⟩)
  have q1 := O.out.c1
  have e : decide ((1048576 : Int) < (n : Int)) = decide (1048576 < n) := by simp only [decide_eq_decide]; omega
  go_enter Try.func43, Try.ntmps43
  go_wp2
  go_ret
  exact ⟨by first | rfl | rw [e] | simp [e], below_alloc (Below.refl _ _) _⟩
set_option maxHeartbeats 1000000 in
theorem find1_calls (t : Int) (A : Option Addr) (n c : Nat) (q : Nat) (tag : Int) (w : World) (hq : w.cell? ⟨q, 0, none⟩ = some (.int .i64 tag)) : Calls Try.prog 36 #[.agg #[.int .i64 t, .slice A n c], .pointer (some ⟨q, 0, none⟩)] w fun e w' => e = .returned (.bool (t == tag)) ∧ Below w.heap.size w w' := by
  have O := Aside0.mk (show SBox (w.alloc (.cells #[.int .i64 t, .slice A n c] 39)) w.heap.size t A n c from ⟨blk_new w _⟩)
  have q0 := O.out.c0
  have BA := below_alloc (Below.refl w.heap.size w) (.cells #[.int .i64 t, .slice A n c] 39)
  have q2 := (BA.cell (World.block_lt_of_cell? w _ hq)).trans hq
  have BB := Aside0.mk BA
  clear BA hq
  go_enter Try.func36, Try.ntmps36
  go_wp2
  go_ret
  exact ⟨by first | rfl | simp, BB.out⟩
/-- a variable of the call's own: what was the last tag -/
structure Var (w : World) (b base : Nat) (last : Int) : Prop where
  blk : w.heap[b]? = some (.cells #[.int .i64 last] 3 (0, 0))
  low : base ≤ b
  size : base ≤ w.heap.size
theorem Var.c0 {w : World} {b base : Nat} {last : Int} (o : Var w b base last) : w.cell? ⟨b, 0, none⟩ = some (.int .i64 last) := (blk_cell o.blk 0).trans rfl
theorem Var.below {w w' : World} {b base : Nat} {last : Int} (o : Var w b base last) (h : Below w.heap.size w w') : Var w' b base last := ⟨blk_below o.blk h, o.low, Nat.le_trans o.size h.size⟩
theorem Var.set {w : World} {b base : Nat} {last : Int} (o : Var w b base last) (t : Int) : Var (w.setCell ⟨b, 0, none⟩ (.int .i64 t)) b base t := ⟨blk_set o.blk 0 _, o.low, by simpa using o.size⟩
def oddB (last t : Int) : Bool := decide (t ≤ last) || decide (255 < t)
set_option maxHeartbeats 1000000 in
theorem odd1_calls (t : Int) (A : Option Addr) (n c : Nat) (b base : Nat) (last : Int) (w : World) (hv : Var w b base last) : Calls Try.prog 44 #[.agg #[.int .i64 t, .slice A n c], .pointer (some ⟨b, 0, none⟩)] w fun e w' => e = .returned (.bool (oddB last t)) ∧ Var w' b base t ∧ Below base w w' := by
  have O := Aside0.mk (show SBox (w.alloc (.cells #[.int .i64 t, .slice A n c] 39)) w.heap.size t A n c from ⟨blk_new w _⟩)
  have q0 := O.out.c0
  have BA := Aside0.mk (below_alloc (Below.refl w.heap.size w) (.cells #[.int .i64 t, .slice A n c] 39))
  have V := Aside0.mk (hv.below BA.out)
  have q2 := V.out.c0
  have f2 := blk_frozen V.out.blk 0
  have RS := Aside0.mk hv.size
  clear hv
  unfold oddB
  by_cases h1 : t ≤ last
  · have b1 : decide (t ≤ last) = true := decide_eq_true h1
    rw [b1]
    clear h1
    go_enter Try.func44, Try.ntmps44
    go_wp2
    go_ret
    exact ⟨by first | rfl | simp, V.out.set t, (BA.out.mono RS.out).setCell V.out.low _⟩
  · have b1 : decide (t ≤ last) = false := decide_eq_false h1
    rw [b1]
    clear h1
    go_enter Try.func44, Try.ntmps44
    go_wp2
    go_ret
    exact ⟨by first | rfl | simp, V.out.set t, (BA.out.mono RS.out).setCell V.out.low _⟩

def longB (x : S39) : Bool := decide (1048576 < x.f1.length)
def tagB (tag : Int) (x : S39) : Bool := x.f0 == tag


set_option maxHeartbeats 2000000 in
theorem index_long {L : Option Addr} {k : Nat} {l : List S39} {w : World} (hL : Kd.C k39 w L l.length l) (hk : l.length ≤ k) (hl : l.length ≤ 9223372036854775806) :
    Calls Try.prog 35 #[.slice L l.length k, .func (.func 43) #[] #[]] w fun e w' => (∃ j : Nat, (j < l.length ∧ e = .returned (.int .i64 (j : Int)) ∧ (∀ x, l[j]? = some x → longB x = true) ∨ j = l.length ∧ e = .returned (.int .i64 (-1))) ∧ ∀ i x, i < j → l[i]? = some x → longB x = false) ∧ Below w.heap.size w w' := by
  have HL := Aside0.mk hL
  have HN := Aside0.mk hl
  skip
  clear hL hk hl
  go_enter Try.func35, Try.ntmps35
  go_wp2
  go_loopg [8] l.length (fun gk v8 w' => ∃ j : Nat, v8 = .int .i64 (j : Int) ∧ Aside0 (j + gk = l.length) ∧ Aside0 (∀ i x, i < j → l[i]? = some x → longB x = false) ∧ Aside0 (Below w.heap.size w w'))
  case atStart => exact ⟨0, rfl, ⟨by omega⟩, ⟨fun i x hi => by omega⟩, ⟨Below.refl _ _⟩⟩
  case round =>
    obtain ⟨j, rfl, HJ, HZ, HBl⟩ := hrel
    by_cases hj : j < l.length
    · obtain ⟨ad, x, A1, c1, hAd, hx, q0, q1, h4, h5⟩ := at_sec HL.out j hj
      have HXX := Aside0.mk hx
      obtain ⟨t, ys⟩ := x
      have Q0 : wr.cell? (ad.add (j * 2)) = some (.int .i64 t) := ((HBl.out).cell (World.block_lt_of_cell? w _ q0)).trans q0
      have Q1 : wr.cell? ⟨(ad.add (j * 2)).block, (ad.add (j * 2)).off + 1, none⟩ = some (.slice A1 ys.length c1) := ((HBl.out).cell (World.block_lt_of_cell? w _ q1)).trans q1
      have HJ2 := Aside0.mk hj
      have d1 : decide ((j : Int) < (l.length : Int)) = true := decide_eq_true (by omega)
      have d1n : decide (j < l.length) = true := decide_eq_true hj
      have p1 : 0 ≤ (j : Int) := by omega
      have hw : wrap64 ((j : Int) + 1) = ((j + 1 : Nat) : Int) := by unfold wrap64; have := HN.out; omega
      have HW := Aside0.mk hw
      have hu39 := Try.underlying39
      subst hAd
      clear q0 q1 hx h4 h5
      obtain ⟨r, hr⟩ : ∃ r, longB ⟨t, ys⟩ = r := ⟨_, rfl⟩
      have HR := Aside0.mk hr
      clear hr
      cases r with
      | true =>
        go_wp2_with (go_at_call 43; (with_reducible refine (long1_calls t A1 ys.length c1 _).mono ?_); rintro e w1 ⟨rfl, h1⟩; rw [show (decide (1048576 < ys.length)) = true from HR.out]; have B1 := Aside0.mk (below_then HBl.out HBl.out.size h1); clear h1)
        go_ret
        exact ⟨⟨j, .inl ⟨HJ2.out, rfl, fun x hx => by rw [HXX.out] at hx; injection hx with hx; subst hx; exact HR.out⟩, HZ.out⟩, B1.out⟩
      | false =>
        go_wp2_with (go_at_call 43; (with_reducible refine (long1_calls t A1 ys.length c1 _).mono ?_); rintro e w1 ⟨rfl, h1⟩; rw [show (decide (1048576 < ys.length)) = false from HR.out]; have B1 := Aside0.mk (below_then HBl.out HBl.out.size h1); clear h1)
        go_roundg (gk - 1)
        case measure => have := HJ.out; have := HJ2.out; omega
        case rel =>
          refine ⟨j + 1, by first | rw [HW.out] | go_num, ⟨by have := HJ.out; have := HJ2.out; omega⟩, ⟨fun i x hi hx => ?_⟩, B1⟩
          by_cases he : i = j
          · subst he
            rw [HXX.out] at hx
            injection hx with hx
            subst hx
            exact HR.out
          · exact HZ.out i x (by omega) hx
    · have d1 : decide ((j : Int) < (l.length : Int)) = false := decide_eq_false (by omega)
      have d1n : decide (j < l.length) = false := decide_eq_false hj
      have hjl : j = l.length := by have := HJ.out; omega
      subst hjl
      clear hj
      go_wp2
      go_ret
      exact ⟨⟨_, .inr ⟨rfl, rfl⟩, HZ.out⟩, HBl.out⟩


set_option maxHeartbeats 2000000 in
theorem index_tag {L : Option Addr} {k : Nat} {l : List S39} {w : World} (hL : Kd.C k39 w L l.length l) (hk : l.length ≤ k) (hl : l.length ≤ 9223372036854775806) (q : Nat) (tag : Int) (hq : w.cell? ⟨q, 0, none⟩ = some (.int .i64 tag)) :
    Calls Try.prog 35 #[.slice L l.length k, .func (.func 36) #[] #[.pointer (some ⟨q, 0, none⟩)]] w fun e w' => (∃ j : Nat, (j < l.length ∧ e = .returned (.int .i64 (j : Int)) ∧ (∀ x, l[j]? = some x → tagB tag x = true) ∨ j = l.length ∧ e = .returned (.int .i64 (-1))) ∧ ∀ i x, i < j → l[i]? = some x → tagB tag x = false) ∧ Below w.heap.size w w' := by
  have HL := Aside0.mk hL
  have HN := Aside0.mk hl
  have HQ := Aside0.mk hq
  clear hL hk hl
  go_enter Try.func35, Try.ntmps35
  go_wp2
  go_loopg [8] l.length (fun gk v8 w' => ∃ j : Nat, v8 = .int .i64 (j : Int) ∧ Aside0 (j + gk = l.length) ∧ Aside0 (∀ i x, i < j → l[i]? = some x → tagB tag x = false) ∧ Aside0 (Below w.heap.size w w'))
  case atStart => exact ⟨0, rfl, ⟨by omega⟩, ⟨fun i x hi => by omega⟩, ⟨Below.refl _ _⟩⟩
  case round =>
    obtain ⟨j, rfl, HJ, HZ, HBl⟩ := hrel
    by_cases hj : j < l.length
    · obtain ⟨ad, x, A1, c1, hAd, hx, q0, q1, h4, h5⟩ := at_sec HL.out j hj
      have HXX := Aside0.mk hx
      obtain ⟨t, ys⟩ := x
      have Q0 : wr.cell? (ad.add (j * 2)) = some (.int .i64 t) := ((HBl.out).cell (World.block_lt_of_cell? w _ q0)).trans q0
      have Q1 : wr.cell? ⟨(ad.add (j * 2)).block, (ad.add (j * 2)).off + 1, none⟩ = some (.slice A1 ys.length c1) := ((HBl.out).cell (World.block_lt_of_cell? w _ q1)).trans q1
      have HJ2 := Aside0.mk hj
      have d1 : decide ((j : Int) < (l.length : Int)) = true := decide_eq_true (by omega)
      have d1n : decide (j < l.length) = true := decide_eq_true hj
      have p1 : 0 ≤ (j : Int) := by omega
      have hw : wrap64 ((j : Int) + 1) = ((j + 1 : Nat) : Int) := by unfold wrap64; have := HN.out; omega
      have HW := Aside0.mk hw
      have hu39 := Try.underlying39
      subst hAd
      clear q0 q1 hx h4 h5
      obtain ⟨r, hr⟩ : ∃ r, tagB tag ⟨t, ys⟩ = r := ⟨_, rfl⟩
      have HR := Aside0.mk hr
      clear hr
      cases r with
      | true =>
        go_wp2_with (go_at_call 36; (with_reducible refine (find1_calls t A1 ys.length c1 q tag _ (((HBl.out).cell (World.block_lt_of_cell? w _ HQ.out)).trans HQ.out)).mono ?_); rintro e w1 ⟨rfl, h1⟩; rw [show (t == tag) = true from HR.out]; have B1 := Aside0.mk (below_then HBl.out HBl.out.size h1); clear h1)
        go_ret
        exact ⟨⟨j, .inl ⟨HJ2.out, rfl, fun x hx => by rw [HXX.out] at hx; injection hx with hx; subst hx; exact HR.out⟩, HZ.out⟩, B1.out⟩
      | false =>
        go_wp2_with (go_at_call 36; (with_reducible refine (find1_calls t A1 ys.length c1 q tag _ (((HBl.out).cell (World.block_lt_of_cell? w _ HQ.out)).trans HQ.out)).mono ?_); rintro e w1 ⟨rfl, h1⟩; rw [show (t == tag) = false from HR.out]; have B1 := Aside0.mk (below_then HBl.out HBl.out.size h1); clear h1)
        go_roundg (gk - 1)
        case measure => have := HJ.out; have := HJ2.out; omega
        case rel =>
          refine ⟨j + 1, by first | rw [HW.out] | go_num, ⟨by have := HJ.out; have := HJ2.out; omega⟩, ⟨fun i x hi hx => ?_⟩, B1⟩
          by_cases he : i = j
          · subst he
            rw [HXX.out] at hx
            injection hx with hx
            subst hx
            exact HR.out
          · exact HZ.out i x (by omega) hx
    · have d1 : decide ((j : Int) < (l.length : Int)) = false := decide_eq_false (by omega)
      have d1n : decide (j < l.length) = false := decide_eq_false hj
      have hjl : j = l.length := by have := HJ.out; omega
      subst hjl
      clear hj
      go_wp2
      go_ret
      exact ⟨⟨_, .inr ⟨rfl, rfl⟩, HZ.out⟩, HBl.out⟩

end Go.Proofs.Ytnohflfpahokiaa.Sec
set_option linter.unusedVariables false
set_option linter.unusedSimpArgs false
set_option maxRecDepth 20000
namespace Go.Proofs.Ytnohflfpahokiaa.Sec
open Go Go.RowKit Go.Proofs.YtnohflfpahokiaaW.PrintWords Go.Proofs.YtnohflfpahokiaaW.PrintLast Go.Proofs.Ytnohflfpahokiaa.LebM Go.Proofs.Ytnohflfpahokiaa.Leb
open Go.Proofs.Ytnohflfpahokiaa.PAll (S39 k39 z39 rd_T39 at_T39)
open Go.Proofs.Ytnohflfpahokiaa.Rd (Kp)

theorem any_of {l : List S39} {p : S39 → Bool} {j : Nat} (h : (j < l.length ∧ (∀ x, l[j]? = some x → p x = true)) ∨ j = l.length) (hz : ∀ i x, i < j → l[i]? = some x → p x = false) : l.any p = decide (j < l.length) := by
  rcases h with ⟨h1, h2⟩ | h1
  · rw [decide_eq_true h1, List.any_eq_true]
    exact ⟨l[j], List.getElem_mem h1, h2 _ (List.getElem?_eq_getElem h1)⟩
  · subst h1
    rw [decide_eq_false (by omega), List.any_eq_false]
    intro x hx
    obtain ⟨i, hi, e⟩ := List.getElem_of_mem hx
    rw [hz i x hi (by rw [← e]; exact List.getElem?_eq_getElem hi)]
    decide
/-- what IndexFunc tells, as a number -/
theorem index_long' {L : Option Addr} {k : Nat} {l : List S39} {w : World} (hL : Kd.C k39 w L l.length l) (hk : l.length ≤ k) (hl : l.length ≤ 9223372036854775806) :
    Calls Try.prog 35 #[.slice L l.length k, .func (.func 43) #[] #[]] w fun e w' => (∃ n : Int, e = .returned (.int .i64 n) ∧ decide (0 ≤ n) = l.any longB) ∧ Below w.heap.size w w' := by
  refine (index_long hL hk hl).mono fun e w' h => ?_
  obtain ⟨⟨j, h1, h2⟩, h3⟩ := h
  refine ⟨?_, h3⟩
  rcases h1 with ⟨h4, h5, h6⟩ | ⟨h4, h5⟩
  · exact ⟨_, h5, by rw [any_of (.inl ⟨h4, h6⟩) h2, decide_eq_true h4]; exact decide_eq_true (by omega)⟩
  · exact ⟨_, h5, (by decide : decide ((0 : Int) ≤ -1) = false).trans (by rw [any_of (.inr h4) h2]; exact (decide_eq_false (by omega)).symm)⟩
set_option maxHeartbeats 1000000 in
theorem contains_long {L : Option Addr} {k : Nat} {l : List S39} {w : World} (hL : Kd.C k39 w L l.length l) (hk : l.length ≤ k) (hl : l.length ≤ 9223372036854775806) :
    Calls Try.prog 42 #[.slice L l.length k, .func (.func 43) #[] #[]] w fun e w' => e = .returned (.bool (l.any longB)) ∧ Below w.heap.size w w' := by
  have HI := Aside0.mk (index_long' hL hk hl)
  clear hL hk hl
  go_enter Try.func42, Try.ntmps42
  go_wp2_with (go_at_call 35; (with_reducible refine (HI.out).mono ?_); rintro e w1 ⟨⟨n, rfl, hn⟩, h1⟩; have B1 := Aside0.mk h1; have HNN := Aside0.mk hn; clear h1 hn)
  go_ret
  exact ⟨by rw [← HNN.out]; first | rfl | simp, B1.out⟩
def longM (l : List S39) : Bool := decide (16 < l.length) || l.any longB
set_option maxHeartbeats 1000000 in
theorem long_calls {L : Option Addr} {k : Nat} {l : List S39} {w : World} (hL : Kd.C k39 w L l.length l) (hk : l.length ≤ k) (hl : l.length ≤ 9223372036854775806) :
    Calls Try.prog 21 #[.slice L l.length k] w fun e w' => e = .returned (.bool (longM l)) ∧ Below w.heap.size w w' := by
  have HI := Aside0.mk (contains_long hL hk hl)
  unfold longM
  clear hL hk hl
  by_cases h : 16 < l.length
  · have d1 : decide ((16 : Int) < (l.length : Int)) = true := decide_eq_true (by omega)
    have d1n : decide (16 < l.length) = true := decide_eq_true h
    rw [d1n, Bool.true_or]
    clear h
    go_enter Try.func21, Try.ntmps21
    go_wp2
    go_ret
    exact ⟨rfl, Below.refl _ _⟩
  · have d1 : decide ((16 : Int) < (l.length : Int)) = false := decide_eq_false (by omega)
    have d1n : decide (16 < l.length) = false := decide_eq_false h
    rw [d1n, Bool.false_or]
    clear h
    go_enter Try.func21, Try.ntmps21
    go_wp2_with (go_at_call 42; (with_reducible refine (HI.out).mono ?_); rintro e w1 ⟨rfl, h1⟩; have B1 := Aside0.mk h1; clear h1)
    go_ret
    exact ⟨by first | rfl | simp, B1.out⟩
/-- tags that do not rise, or are none -/
def oddM : Int → List S39 → Bool
  | _, [] => false
  | last, s :: r => oddB last s.f0 || oddM s.f0 r
set_option maxHeartbeats 2000000 in
theorem index_odd {L : Option Addr} {k : Nat} {l : List S39} {w : World} (hL : Kd.C k39 w L l.length l) (hk : l.length ≤ k) (hl : l.length ≤ 9223372036854775806) {w0 : World} (hB : Below w0.heap.size w0 w) (hL0 : Kd.C k39 w0 L l.length l) (b : Nat) (last : Int) (hv : Var w b w0.heap.size last) :
    Calls Try.prog 35 #[.slice L l.length k, .func (.func 44) #[] #[.pointer (some ⟨b, 0, none⟩)]] w fun e w' => (∃ n : Int, e = .returned (.int .i64 n) ∧ decide (0 ≤ n) = oddM last l) ∧ Below w0.heap.size w0 w' := by
  have HL := Aside0.mk hL0
  have HN := Aside0.mk hl
  have HV := Aside0.mk hv
  have HB := Aside0.mk hB
  clear hL hk hl hB hL0 hv
  go_enter Try.func35, Try.ntmps35
  go_wp2
  go_loopg [8] l.length (fun gk v8 w' => ∃ j : Nat, v8 = .int .i64 (j : Int) ∧ Aside0 (j + gk = l.length) ∧ Aside0 (∃ t, Var w' b w0.heap.size t ∧ oddM last l = oddM t (l.drop j)) ∧ Aside0 (Below w0.heap.size w0 w'))
  case atStart => exact ⟨0, rfl, ⟨by omega⟩, ⟨last, HV.out, rfl⟩, HB⟩
  case round =>
    obtain ⟨j, rfl, HJ, HZ, HBl⟩ := hrel
    obtain ⟨lt, hv, hz⟩ := HZ.out
    have HVV := Aside0.mk hv
    have HZZ := Aside0.mk hz
    clear hv hz
    by_cases hj : j < l.length
    · obtain ⟨ad, x, A1, c1, hAd, hx, q0, q1, h4, h5⟩ := at_sec HL.out j hj
      have hdr : l.drop j = x :: l.drop (j + 1) := by
        rw [List.drop_eq_getElem_cons hj]
        rw [List.getElem?_eq_getElem hj] at hx
        injection hx with hx
        rw [hx]
      obtain ⟨t, ys⟩ := x
      have HDR := Aside0.mk (HZZ.out.trans (by rw [hdr]; rfl : oddM lt (l.drop j) = (oddB lt t || oddM t (l.drop (j + 1)))))
      have Q0 : wr.cell? (ad.add (j * 2)) = some (.int .i64 t) := ((HBl.out).cell (World.block_lt_of_cell? w0 _ q0)).trans q0
      have Q1 : wr.cell? ⟨(ad.add (j * 2)).block, (ad.add (j * 2)).off + 1, none⟩ = some (.slice A1 ys.length c1) := ((HBl.out).cell (World.block_lt_of_cell? w0 _ q1)).trans q1
      have HJ2 := Aside0.mk hj
      have d1 : decide ((j : Int) < (l.length : Int)) = true := decide_eq_true (by omega)
      have d1n : decide (j < l.length) = true := decide_eq_true hj
      have p1 : 0 ≤ (j : Int) := by omega
      have hw : wrap64 ((j : Int) + 1) = ((j + 1 : Nat) : Int) := by unfold wrap64; have := HN.out; omega
      have HW := Aside0.mk hw
      have hu39 := Try.underlying39
      subst hAd
      clear q0 q1 hx h4 h5 hdr
      obtain ⟨r, hr⟩ : ∃ r, oddB lt t = r := ⟨_, rfl⟩
      have HR := Aside0.mk hr
      clear hr
      cases r with
      | true =>
        go_wp2_with (go_at_call 44; (with_reducible refine (odd1_calls t A1 ys.length c1 b w0.heap.size lt _ HVV.out).mono ?_); rintro e w1 ⟨rfl, h1, h2⟩; rw [show oddB lt t = true from HR.out]; have B1 := Aside0.mk (HBl.out.trans h2); clear h1 h2)
        go_ret
        refine ⟨⟨_, rfl, ?_⟩, B1.out⟩
        rw [HDR.out, HR.out, Bool.true_or]
        exact decide_eq_true (by omega)
      | false =>
        go_wp2_with (go_at_call 44; (with_reducible refine (odd1_calls t A1 ys.length c1 b w0.heap.size lt _ HVV.out).mono ?_); rintro e w1 ⟨rfl, h1, h2⟩; rw [show oddB lt t = false from HR.out]; have B1 := Aside0.mk (HBl.out.trans h2); have V1 := Aside0.mk h1; clear h1 h2)
        go_roundg (gk - 1)
        case measure => have := HJ.out; have := HJ2.out; omega
        case rel => exact ⟨j + 1, by first | rw [HW.out] | go_num, ⟨by have := HJ.out; have := HJ2.out; omega⟩, ⟨t, V1.out, by rw [HDR.out, HR.out, Bool.false_or]⟩, B1⟩
    · have d1 : decide ((j : Int) < (l.length : Int)) = false := decide_eq_false (by omega)
      have d1n : decide (j < l.length) = false := decide_eq_false hj
      have hjl : j = l.length := by have := HJ.out; omega
      subst hjl
      clear hj
      go_wp2
      go_ret
      refine ⟨⟨_, rfl, ?_⟩, HBl.out⟩
      rw [HZZ.out, List.drop_length]
      rfl
set_option maxHeartbeats 1000000 in
theorem contains_odd {L : Option Addr} {k : Nat} {l : List S39} {w : World} (hk : l.length ≤ k) (hl : l.length ≤ 9223372036854775806) {w0 : World} (hB : Below w0.heap.size w0 w) (hL0 : Kd.C k39 w0 L l.length l) (b : Nat) (last : Int) (hv : Var w b w0.heap.size last) :
    Calls Try.prog 42 #[.slice L l.length k, .func (.func 44) #[] #[.pointer (some ⟨b, 0, none⟩)]] w fun e w' => e = .returned (.bool (oddM last l)) ∧ Below w0.heap.size w0 w' := by
  have HI := Aside0.mk (index_odd (Kd.C_below hL0 hB) hk hl hB hL0 b last hv)
  clear hL0 hk hl hv
  go_enter Try.func42, Try.ntmps42
  go_wp2_with (go_at_call 35; (with_reducible refine (HI.out).mono ?_); rintro e w1 ⟨⟨n, rfl, hn⟩, h1⟩; have B1 := Aside0.mk h1; have HNN := Aside0.mk hn; clear h1 hn)
  go_ret
  exact ⟨by rw [← HNN.out]; first | rfl | simp, B1.out⟩
set_option maxHeartbeats 1000000 in
theorem odd_calls {L : Option Addr} {k : Nat} {l : List S39} {w : World} (hL : Kd.C k39 w L l.length l) (hk : l.length ≤ k) (hl : l.length ≤ 9223372036854775806) :
    Calls Try.prog 22 #[.slice L l.length k] w fun e w' => e = .returned (.bool (oddM 0 l)) ∧ Below w.heap.size w w' := by
  have hmf : ∀ (fn : Fn) (first cap : Array Value) (w : World), (Instr.makeFunc fn first cap).run Try.prog w = .ok (.func fn first cap) w := fun _ _ _ _ => rfl
  have HL := Aside0.mk hL
  have Hk := Aside0.mk hk
  have HN := Aside0.mk hl
  have BA := Aside0.mk (below_alloc (Below.refl w.heap.size w) (.cells #[.int .i64 0] 3))
  have BS := Aside0.mk (BA.out.setCell (Nat.le_refl w.heap.size) (p := ⟨w.heap.size, 0, none⟩) (.int .i64 0))
  have V := Aside0.mk (show Var (w.alloc (.cells #[.int .i64 0] 3)) w.heap.size w.heap.size 0 from ⟨blk_new w _, Nat.le_refl _, by simp⟩)
  have q0 := V.out.c0
  have f0 := blk_frozen V.out.blk 0
  clear hL hk hl
  go_enter Try.func22, Try.ntmps22
  go_wp2_with (go_at_call 42; (with_reducible refine (contains_odd Hk.out HN.out BA.out HL.out w.heap.size 0 V.out).mono ?_); rintro e w1 ⟨rfl, h1⟩; have B1 := Aside0.mk h1; clear h1)
  go_ret
  exact ⟨by first | rfl | simp, B1.out⟩
/-- the body of a tag -/
def findM (tag : Int) (l : List S39) : Option (List Int) := (l.find? (tagB tag)).map (·.f1)
theorem find_at {tag : Int} {l : List S39} {j : Nat} {x : S39} (h0 : l[j]? = some x) (h : tagB tag x = true) (hz : ∀ i x, i < j → l[i]? = some x → tagB tag x = false) : findM tag l = some x.f1 := by
  have : l.find? (tagB tag) = some x := by
    rw [List.find?_eq_some_iff_getElem]
    obtain ⟨hj, e⟩ := List.getElem?_eq_some_iff.1 h0
    refine ⟨h, j, hj, e, fun i hi => ?_⟩
    rw [hz i l[i] hi (List.getElem?_eq_getElem (by omega))]
    rfl
  unfold findM
  rw [this]
  rfl
theorem find_none {tag : Int} {l : List S39} (hz : ∀ i x, i < l.length → l[i]? = some x → tagB tag x = false) : findM tag l = none := by
  have : l.find? (tagB tag) = none := by
    rw [List.find?_eq_none]
    intro x hx
    obtain ⟨i, hi, e⟩ := List.getElem_of_mem hx
    rw [hz i x hi (by rw [← e]; exact List.getElem?_eq_getElem hi)]
    decide
  unfold findM
  rw [this]
  rfl
theorem index_none {L : Option Addr} {k : Nat} {l : List S39} {w : World} (hL : Kd.C k39 w L l.length l) (hk : l.length ≤ k) (hl : l.length ≤ 9223372036854775806) (q : Nat) (tag : Int) (hq : w.cell? ⟨q, 0, none⟩ = some (.int .i64 tag)) (hf : findM tag l = none) :
    Calls Try.prog 35 #[.slice L l.length k, .func (.func 36) #[] #[.pointer (some ⟨q, 0, none⟩)]] w fun e w' => e = .returned (.int .i64 (-1)) ∧ Below w.heap.size w w' := by
  refine (index_tag hL hk hl q tag hq).mono fun e w' h => ?_
  obtain ⟨⟨j, h1, h2⟩, h3⟩ := h
  refine ⟨?_, h3⟩
  rcases h1 with ⟨h4, h5, h6⟩ | ⟨h4, h5⟩
  · rw [find_at (List.getElem?_eq_getElem h4) (h6 _ (List.getElem?_eq_getElem h4)) h2] at hf
    cases hf
  · exact h5
theorem index_some {L : Option Addr} {k : Nat} {l : List S39} {w : World} (hL : Kd.C k39 w L l.length l) (hk : l.length ≤ k) (hl : l.length ≤ 9223372036854775806) (q : Nat) (tag : Int) (hq : w.cell? ⟨q, 0, none⟩ = some (.int .i64 tag)) {ys : List Int} (hf : findM tag l = some ys) :
    Calls Try.prog 35 #[.slice L l.length k, .func (.func 36) #[] #[.pointer (some ⟨q, 0, none⟩)]] w fun e w' => (∃ j : Nat, e = .returned (.int .i64 (j : Int)) ∧ ∃ x, l[j]? = some x ∧ x.f1 = ys) ∧ Below w.heap.size w w' := by
  refine (index_tag hL hk hl q tag hq).mono fun e w' h => ?_
  obtain ⟨⟨j, h1, h2⟩, h3⟩ := h
  refine ⟨?_, h3⟩
  rcases h1 with ⟨h4, h5, h6⟩ | ⟨h4, h5⟩
  · rw [find_at (List.getElem?_eq_getElem h4) (h6 _ (List.getElem?_eq_getElem h4)) h2] at hf
    injection hf with hf
    exact ⟨j, h5, _, List.getElem?_eq_getElem h4, hf⟩
  · rw [find_none (fun i x hi => h2 i x (by omega))] at hf
    cases hf
set_option maxHeartbeats 2000000 in
theorem find_no {L : Option Addr} {k : Nat} {l : List S39} {w : World} (hL : Kd.C k39 w L l.length l) (hk : l.length ≤ k) (hl : l.length ≤ 9223372036854775806) (tag : Int) (hf : findM tag l = none) :
    Calls Try.prog 16 #[.slice L l.length k, .int .i64 tag] w fun e w' => e = .returned (.tuple #[.slice none 0 0, .bool false]) ∧ Below w.heap.size w w' := by
  have hmf : ∀ (fn : Fn) (first cap : Array Value) (w : World), (Instr.makeFunc fn first cap).run Try.prog w = .ok (.func fn first cap) w := fun _ _ _ _ => rfl
  have HF := Aside0.mk hf
  have Hk := Aside0.mk hk
  have HN := Aside0.mk hl
  have BA := Aside0.mk (below_alloc (Below.refl w.heap.size w) (.cells #[.int .i64 tag] 3))
  have V := Aside0.mk (show Var (w.alloc (.cells #[.int .i64 tag] 3)) w.heap.size w.heap.size tag from ⟨blk_new w _, Nat.le_refl _, by simp⟩)
  have HLA := Aside0.mk (Kd.C_below hL BA.out)
  clear hL hk hl hf
  go_enter Try.func16, Try.ntmps16
  go_wp2_with (go_at_call 35; (with_reducible refine (index_none HLA.out Hk.out HN.out w.heap.size tag V.out.c0 HF.out).mono ?_); rintro e w1 ⟨rfl, h2⟩; have B1 := Aside0.mk (below_then BA.out BA.out.size h2); clear h2)
  go_ret2
  exact ⟨rfl, B1.out⟩
set_option maxHeartbeats 2000000 in
theorem find_yes {L : Option Addr} {k : Nat} {l : List S39} {w : World} (hL : Kd.C k39 w L l.length l) (hk : l.length ≤ k) (hl : l.length ≤ 9223372036854775806) (tag : Int) {ys : List Int} (hf : findM tag l = some ys) (hy : ys.length ≤ 140737488355328) :
    Calls Try.prog 16 #[.slice L l.length k, .int .i64 tag] w fun e w' => (∃ v, e = .returned (.tuple #[v, .bool true]) ∧ (Kd.int .u8).R 5 w' w.heap.size (fun _ => True) v ys) ∧ Below w.heap.size w w' := by
  have hmf : ∀ (fn : Fn) (first cap : Array Value) (w : World), (Instr.makeFunc fn first cap).run Try.prog w = .ok (.func fn first cap) w := fun _ _ _ _ => rfl
  have HF := Aside0.mk hf
  have Hk := Aside0.mk hk
  have HN := Aside0.mk hl
  have HL := Aside0.mk hL
  have HY := Aside0.mk hy
  have BA := Aside0.mk (below_alloc (Below.refl w.heap.size w) (.cells #[.int .i64 tag] 3))
  have V := Aside0.mk (show Var (w.alloc (.cells #[.int .i64 tag] 3)) w.heap.size w.heap.size tag from ⟨blk_new w _, Nat.le_refl _, by simp⟩)
  have HLA := Aside0.mk (Kd.C_below hL BA.out)
  have hu39 := Try.underlying39
  clear hL hk hl hf hy
  go_enter Try.func16, Try.ntmps16
  go_wp2_with (first
    | (go_at_call 35; (with_reducible refine (index_some HLA.out Hk.out HN.out w.heap.size tag V.out.c0 HF.out).mono ?_); rintro e w1 ⟨⟨j, rfl, x, hx, hxy⟩, h2⟩; have B1 := Aside0.mk (below_then BA.out BA.out.size h2); have hj := (List.getElem?_eq_some_iff.1 hx).1; obtain ⟨ad, x2, A1, c1, hAd, hx2, q0, q1, h4, h5⟩ := at_sec HL.out j hj; rw [hx] at hx2; injection hx2 with hx2; subst hx2; rw [hxy] at q1 h4 h5; have Q1 := ((B1.out).cell (World.block_lt_of_cell? w _ q1)).trans q1; have H4 := Aside0.mk h4; have H5 := Aside0.mk (Kd.C_below h5 B1.out); have d1 : decide ((j : Int) < 0) = false := decide_eq_false (by omega); have p1 : 0 ≤ (j : Int) := (by omega); subst hAd; clear q0 q1 h4 h5 h2 hx)
    | (go_at_call 37; (with_reducible refine (Pen.clone_calls H5.out H4.out HY.out).mono ?_); rintro e w2 ⟨v, rfl, h1, h2⟩; have R2 := Aside0.mk (Kd.R_lower h1 B1.out.size); have B2 := Aside0.mk (below_then B1.out B1.out.size h2); clear h1 h2))
  go_ret2
  exact ⟨⟨_, rfl, R2.out⟩, B2.out⟩
end Go.Proofs.Ytnohflfpahokiaa.Sec
set_option linter.unusedVariables false
set_option linter.unusedSimpArgs false
set_option maxRecDepth 20000
namespace Go.Proofs.Ytnohflfpahokiaa.Sec
open Go Go.RowKit Go.Proofs.YtnohflfpahokiaaW.PrintWords Go.Proofs.YtnohflfpahokiaaW.PrintLast Go.Proofs.Ytnohflfpahokiaa.LebM Go.Proofs.Ytnohflfpahokiaa.Leb
open Go.Proofs.Ytnohflfpahokiaa.PAll (S39 k39 z39 rd_T39 at_T39)
open Go.Proofs.Ytnohflfpahokiaa.Rd (Kp)

theorem eq_of_getD {xs ys : List Int} (hl : xs.length = ys.length) (h : ∀ i, i < xs.length → xs.getD i 0 = ys.getD i 0) : xs = ys := by
  apply List.ext_getElem hl
  intro i h1 h2
  have := h i h1
  rwa [List.getD_eq_getElem?_getD, List.getD_eq_getElem?_getD, List.getElem?_eq_getElem h1, List.getElem?_eq_getElem h2] at this
set_option maxHeartbeats 2000000 in
theorem equal_calls {A B : Option Addr} {c d : Nat} {xs ys : List Int} {w : World} (hA : (Kd.int .u8).C w A xs.length xs) (hB : (Kd.int .u8).C w B ys.length ys) (hl : xs.length ≤ 9223372036854775806) :
    Calls Try.prog 40 #[.slice A xs.length c, .slice B ys.length d] w fun e w' => e = .returned (.bool (decide (xs = ys))) ∧ Below w.heap.size w w' := by
  by_cases hxy : xs.length = ys.length
  · have n1 : ((xs.length : Int) != (ys.length : Int)) = false := by rw [hxy]; simp
    have HA := Aside0.mk hA
    have HBB := Aside0.mk hB
    have HN := Aside0.mk hl
    have HXY := Aside0.mk hxy
    have hu25 := Try.underlying25
    clear hA hB hl
    rw [hxy] at n1
    go_enter Try.func40, Try.ntmps40
    go_wp2
    go_loopg [13] xs.length (fun gk v13 w' => ∃ j : Nat, v13 = .int .i64 (j : Int) ∧ Aside0 (j + gk = xs.length) ∧ Aside0 (∀ i, i < j → xs.getD i 0 = ys.getD i 0) ∧ Aside0 (Below w.heap.size w w'))
    case atStart => exact ⟨0, rfl, ⟨by omega⟩, ⟨fun i hi => by omega⟩, ⟨Below.refl _ _⟩⟩
    case round =>
      obtain ⟨j, rfl, HJ, HZ, HBl⟩ := hrel
      by_cases hj : j < xs.length
      · obtain ⟨ad, hAd, q0⟩ := Rd.C_at HA.out j hj
        obtain ⟨bd, hBd, q1⟩ := Rd.C_at HBB.out j (by omega)
        have hj2 : j < ys.length := by omega
        obtain ⟨x, hx⟩ : ∃ x, xs.getD j 0 = x := ⟨_, rfl⟩
        obtain ⟨y, hy⟩ : ∃ y, ys.getD j 0 = y := ⟨_, rfl⟩
        rw [hx] at q0
        rw [hy] at q1
        have HX := Aside0.mk hx
        have HY := Aside0.mk hy
        have Q0 : wr.drew.cell? (ad.add j) = some (.int .u8 x) := ((HBl.out.drew).cell (World.block_lt_of_cell? w _ q0)).trans q0
        have Q1 : wr.drew.cell? (bd.add j) = some (.int .u8 y) := ((HBl.out.drew).cell (World.block_lt_of_cell? w _ q1)).trans q1
        have HJ2 := Aside0.mk hj
        have d1 : decide ((j : Int) < (xs.length : Int)) = true := decide_eq_true (by omega)
        have d1n : decide (j < xs.length) = true := decide_eq_true hj
        have d2 : decide ((j : Int) < (ys.length : Int)) = true := decide_eq_true (by omega)
        have d2n : decide (j < ys.length) = true := decide_eq_true hj2
        have p1 : 0 ≤ (j : Int) := by omega
        have hw : wrap64 ((j : Int) + 1) = ((j + 1 : Nat) : Int) := by unfold wrap64; have := HN.out; omega
        have HW := Aside0.mk hw
        have HBD := Aside0.mk HBl.out.drew
        subst hAd
        subst hBd
        clear q0 q1 hx hy
        by_cases hxy2 : x = y
        · have e1 : (x != y) = false := by rw [hxy2]; simp
          have HE := Aside0.mk hxy2
          clear hxy2
          go_wp2
          refine start_ (n := 9) (S := fun w' => w'.cell? (ad.add j) = some (.int .u8 x) ∧ w'.cell? (bd.add j) = some (.int .u8 y)) (ds := []) #[false, false, false, false, false, false, false, false, false] (by kernel_rfl) rfl rfl ⟨Q0, Q1⟩ (fun hHeld => ?_)
          refine pure_ (i := 0) (N := some 16) (v := ?_) (a' := ?_) #[true, false, false, false, false, false, false, false, false] rfl rfl (by kernel_rfl) (fun _ _ _ h => h) (Or.inl ⟨by rfl, ?_⟩) ?_ ?_
          rotate_left
          · intro w'
            go_simp
            with_reducible rfl
          rotate_left
          · simp only [Act.put, List.setIfInBounds_toArray, List.set_cons_zero, List.set_cons_succ, i64_w, i32_w]
            rfl
          refine pure_ (i := 1) (N := some 17) (v := ?_) (a' := ?_) #[true, true, false, false, false, false, false, false, false] rfl rfl (by kernel_rfl) (fun _ _ _ h => h) (Or.inl ⟨by rfl, ?_⟩) ?_ ?_
          rotate_left
          · intro w'
            go_simp
            with_reducible rfl
          rotate_left
          · simp only [Act.put, List.setIfInBounds_toArray, List.set_cons_zero, List.set_cons_succ, i64_w, i32_w]
            rfl
          refine pure_ (i := 2) (N := some 18) (v := ?_) (a' := ?_) #[true, true, true, false, false, false, false, false, false] rfl rfl (by kernel_rfl) (fun _ _ _ h => h) (Or.inl ⟨by rfl, ?_⟩) ?_ ?_
          rotate_left
          · intro w'
            go_simp
            with_reducible rfl
          rotate_left
          · simp only [Act.put, List.setIfInBounds_toArray, List.set_cons_zero, List.set_cons_succ, i64_w, i32_w]
            rfl
          refine pure_ (i := 4) (N := some 20) (v := ?_) (a' := ?_) #[true, true, true, false, true, false, false, false, false] rfl rfl (by kernel_rfl) (fun _ _ _ h => h) (Or.inl ⟨by rfl, ?_⟩) ?_ ?_
          rotate_left
          · intro w'
            go_simp
            with_reducible rfl
          rotate_left
          · simp only [Act.put, List.setIfInBounds_toArray, List.set_cons_zero, List.set_cons_succ, i64_w, i32_w]
            rfl
          refine pure_ (i := 5) (N := some 21) (v := ?_) (a' := ?_) #[true, true, true, false, true, true, false, false, false] rfl rfl (by kernel_rfl) (fun _ _ _ h => h) (Or.inl ⟨by rfl, ?_⟩) ?_ ?_
          rotate_left
          · intro w'
            go_simp
            with_reducible rfl
          rotate_left
          · simp only [Act.put, List.setIfInBounds_toArray, List.set_cons_zero, List.set_cons_succ, i64_w, i32_w]
            rfl
          refine pure_ (i := 6) (N := some 22) (v := ?_) (a' := ?_) #[true, true, true, false, true, true, true, false, false] rfl rfl (by kernel_rfl) (fun _ _ _ h => h) (Or.inl ⟨by rfl, ?_⟩) ?_ ?_
          rotate_left
          · intro w'
            go_simp
            with_reducible rfl
          rotate_left
          · simp only [Act.put, List.setIfInBounds_toArray, List.set_cons_zero, List.set_cons_succ, i64_w, i32_w]
            rfl
          refine take_ (i := 3) (N := some 19) (v := ?_) (a' := ?_) #[true, true, true, true, true, true, true, false, false] rfl rfl (by kernel_rfl) (fun _ _ _ h => h) (Or.inl ⟨by rfl, ?_⟩) hHeld ?_ ?_
          rotate_left
          · rintro w' ⟨s0, s1⟩
            go_simp
            with_reducible rfl
          rotate_left
          · simp only [Act.put, List.setIfInBounds_toArray, List.set_cons_zero, List.set_cons_succ, i64_w, i32_w]
            rfl
          refine take_ (i := 7) (N := some 23) (v := ?_) (a' := ?_) #[true, true, true, true, true, true, true, true, false] rfl rfl (by kernel_rfl) (fun _ _ _ h => h) (Or.inl ⟨by rfl, ?_⟩) hHeld ?_ ?_
          rotate_left
          · rintro w' ⟨s0, s1⟩
            go_simp
            with_reducible rfl
          rotate_left
          · simp only [Act.put, List.setIfInBounds_toArray, List.set_cons_zero, List.set_cons_succ, i64_w, i32_w]
            rfl
          refine pure_ (i := 8) (N := some 24) (v := ?_) (a' := ?_) #[true, true, true, true, true, true, true, true, true] rfl rfl (by kernel_rfl) (fun _ _ _ h => h) (Or.inl ⟨by rfl, ?_⟩) ?_ ?_
          rotate_left
          · intro w'
            go_simp
            with_reducible rfl
          rotate_left
          · simp only [Act.put, List.setIfInBounds_toArray, List.set_cons_zero, List.set_cons_succ, i64_w, i32_w]
            rfl
          refine done_ (by kernel_rfl) ?_
          go_wp2
          go_roundg (gk - 1)
          case measure => have := HJ.out; have := HJ2.out; omega
          case rel =>
            refine ⟨j + 1, by first | rw [HW.out] | go_num, ⟨by have := HJ.out; have := HJ2.out; omega⟩, ⟨fun i hi => ?_⟩, HBD⟩
            by_cases he : i = j
            · subst he
              rw [HX.out, HY.out, HE.out]
            · exact HZ.out i (by omega)
        · have e1 : (x != y) = true := bne_iff_ne.mpr hxy2
          have HE := Aside0.mk hxy2
          clear hxy2
          go_wp2
          refine start_ (n := 9) (S := fun w' => w'.cell? (ad.add j) = some (.int .u8 x) ∧ w'.cell? (bd.add j) = some (.int .u8 y)) (ds := []) #[false, false, false, false, false, false, false, false, false] (by kernel_rfl) rfl rfl ⟨Q0, Q1⟩ (fun hHeld => ?_)
          refine pure_ (i := 0) (N := some 16) (v := ?_) (a' := ?_) #[true, false, false, false, false, false, false, false, false] rfl rfl (by kernel_rfl) (fun _ _ _ h => h) (Or.inl ⟨by rfl, ?_⟩) ?_ ?_
          rotate_left
          · intro w'
            go_simp
            with_reducible rfl
          rotate_left
          · simp only [Act.put, List.setIfInBounds_toArray, List.set_cons_zero, List.set_cons_succ, i64_w, i32_w]
            rfl
          refine pure_ (i := 1) (N := some 17) (v := ?_) (a' := ?_) #[true, true, false, false, false, false, false, false, false] rfl rfl (by kernel_rfl) (fun _ _ _ h => h) (Or.inl ⟨by rfl, ?_⟩) ?_ ?_
          rotate_left
          · intro w'
            go_simp
            with_reducible rfl
          rotate_left
          · simp only [Act.put, List.setIfInBounds_toArray, List.set_cons_zero, List.set_cons_succ, i64_w, i32_w]
            rfl
          refine pure_ (i := 2) (N := some 18) (v := ?_) (a' := ?_) #[true, true, true, false, false, false, false, false, false] rfl rfl (by kernel_rfl) (fun _ _ _ h => h) (Or.inl ⟨by rfl, ?_⟩) ?_ ?_
          rotate_left
          · intro w'
            go_simp
            with_reducible rfl
          rotate_left
          · simp only [Act.put, List.setIfInBounds_toArray, List.set_cons_zero, List.set_cons_succ, i64_w, i32_w]
            rfl
          refine pure_ (i := 4) (N := some 20) (v := ?_) (a' := ?_) #[true, true, true, false, true, false, false, false, false] rfl rfl (by kernel_rfl) (fun _ _ _ h => h) (Or.inl ⟨by rfl, ?_⟩) ?_ ?_
          rotate_left
          · intro w'
            go_simp
            with_reducible rfl
          rotate_left
          · simp only [Act.put, List.setIfInBounds_toArray, List.set_cons_zero, List.set_cons_succ, i64_w, i32_w]
            rfl
          refine pure_ (i := 5) (N := some 21) (v := ?_) (a' := ?_) #[true, true, true, false, true, true, false, false, false] rfl rfl (by kernel_rfl) (fun _ _ _ h => h) (Or.inl ⟨by rfl, ?_⟩) ?_ ?_
          rotate_left
          · intro w'
            go_simp
            with_reducible rfl
          rotate_left
          · simp only [Act.put, List.setIfInBounds_toArray, List.set_cons_zero, List.set_cons_succ, i64_w, i32_w]
            rfl
          refine pure_ (i := 6) (N := some 22) (v := ?_) (a' := ?_) #[true, true, true, false, true, true, true, false, false] rfl rfl (by kernel_rfl) (fun _ _ _ h => h) (Or.inl ⟨by rfl, ?_⟩) ?_ ?_
          rotate_left
          · intro w'
            go_simp
            with_reducible rfl
          rotate_left
          · simp only [Act.put, List.setIfInBounds_toArray, List.set_cons_zero, List.set_cons_succ, i64_w, i32_w]
            rfl
          refine take_ (i := 3) (N := some 19) (v := ?_) (a' := ?_) #[true, true, true, true, true, true, true, false, false] rfl rfl (by kernel_rfl) (fun _ _ _ h => h) (Or.inl ⟨by rfl, ?_⟩) hHeld ?_ ?_
          rotate_left
          · rintro w' ⟨s0, s1⟩
            go_simp
            with_reducible rfl
          rotate_left
          · simp only [Act.put, List.setIfInBounds_toArray, List.set_cons_zero, List.set_cons_succ, i64_w, i32_w]
            rfl
          refine take_ (i := 7) (N := some 23) (v := ?_) (a' := ?_) #[true, true, true, true, true, true, true, true, false] rfl rfl (by kernel_rfl) (fun _ _ _ h => h) (Or.inl ⟨by rfl, ?_⟩) hHeld ?_ ?_
          rotate_left
          · rintro w' ⟨s0, s1⟩
            go_simp
            with_reducible rfl
          rotate_left
          · simp only [Act.put, List.setIfInBounds_toArray, List.set_cons_zero, List.set_cons_succ, i64_w, i32_w]
            rfl
          refine pure_ (i := 8) (N := some 24) (v := ?_) (a' := ?_) #[true, true, true, true, true, true, true, true, true] rfl rfl (by kernel_rfl) (fun _ _ _ h => h) (Or.inl ⟨by rfl, ?_⟩) ?_ ?_
          rotate_left
          · intro w'
            go_simp
            with_reducible rfl
          rotate_left
          · simp only [Act.put, List.setIfInBounds_toArray, List.set_cons_zero, List.set_cons_succ, i64_w, i32_w]
            rfl
          refine done_ (by kernel_rfl) ?_
          go_wp2
          go_ret
          refine ⟨?_, HBD.out⟩
          rw [decide_eq_false (fun h => HE.out (by rw [← HX.out, ← HY.out, h]))]
          rfl
      · have d1 : decide ((j : Int) < (xs.length : Int)) = false := decide_eq_false (by omega)
        have d1n : decide (j < xs.length) = false := decide_eq_false hj
        have hjl : j = xs.length := by have := HJ.out; omega
        subst hjl
        clear hj
        go_wp2
        go_ret
        refine ⟨?_, HBl.out⟩
        rw [decide_eq_true (eq_of_getD HXY.out HZ.out)]
        rfl
  · have n1 : ((xs.length : Int) != (ys.length : Int)) = true := bne_iff_ne.mpr (by omega)
    rw [decide_eq_false (fun h => hxy (by rw [h]))]
    clear hxy hA hB hl
    go_enter Try.func40, Try.ntmps40
    go_wp2
    go_ret
    exact ⟨rfl, Below.refl _ _⟩
/-- a section as a pair -/
def pr (s : S39) : Int × List Int := (s.f0, s.f1)
theorem pr_inj {a b : S39} (h : pr a = pr b) : a = b := by
  cases a; cases b
  simp only [pr, Prod.mk.injEq] at h
  rw [h.1, h.2]
set_option maxHeartbeats 2000000 in
theorem same1_calls (t u : Int) {A B : Option Addr} {c d : Nat} {xs ys : List Int} {w : World} (hA : (Kd.int .u8).C w A xs.length xs) (hB : (Kd.int .u8).C w B ys.length ys) (hl : xs.length ≤ 9223372036854775806) :
    Calls Try.prog 39 #[.agg #[.int .i64 t, .slice A xs.length c], .agg #[.int .i64 u, .slice B ys.length d]] w fun e w' => e = .returned (.bool (decide (pr ⟨t, xs⟩ = pr ⟨u, ys⟩))) ∧ Below w.heap.size w w' := by
  obtain ⟨V, hV⟩ : ∃ V, (w.alloc (.cells #[.int .i64 t, .slice A xs.length c] 39)).alloc (.cells #[.int .i64 u, .slice B ys.length d] 39) = V := ⟨_, rfl⟩
  have BV := Aside0.mk (show Below w.heap.size w V by rw [← hV]; exact below_alloc (below_alloc (Below.refl _ _) _) _)
  have O1 := Aside0.mk (show SBox V w.heap.size t A xs.length c by rw [← hV]; exact ⟨blk_below (blk_new w _) (below_alloc (Below.refl _ _) _)⟩)
  have O2 := Aside0.mk (show SBox V (w.heap.size + 1) u B ys.length d by
    rw [← hV]
    have h := blk_new (w.alloc (.cells #[.int .i64 t, .slice A xs.length c] 39)) (.cells #[.int .i64 u, .slice B ys.length d] 39)
    have e : (w.alloc (.cells #[.int .i64 t, .slice A xs.length c] 39)).heap.size = w.heap.size + 1 := by simp
    rw [e] at h
    exact ⟨h⟩)
  have a0 := O1.out.c0
  have a1 := O1.out.c1
  have b0 := O2.out.c0
  have b1 := O2.out.c1
  have HA := Aside0.mk (Kd.C_below hA BV.out)
  have HB := Aside0.mk (Kd.C_below hB BV.out)
  have HN := Aside0.mk hl
  clear hA hB hl
  by_cases h : t = u
  · have e1 : (t == u) = true := by rw [h]; simp
    rw [show decide (pr ⟨t, xs⟩ = pr ⟨u, ys⟩) = decide (xs = ys) by simp [pr, h]]
    clear h
    go_enter Try.func39, Try.ntmps39
    go_wp2_with (go_at_call 40; (with_reducible refine (equal_calls HA.out HB.out HN.out).mono ?_); rintro e w1 ⟨rfl, h1⟩; have B1 := Aside0.mk (below_then BV.out BV.out.size h1); clear h1)
    go_ret
    exact ⟨by first | rfl | simp, B1.out⟩
  · have e1 : (t == u) = false := beq_eq_false_iff_ne.mpr h
    rw [show decide (pr ⟨t, xs⟩ = pr ⟨u, ys⟩) = false by simp [pr, h]]
    clear h
    go_enter Try.func39, Try.ntmps39
    go_wp2
    go_ret
    exact ⟨by first | rfl | simp, BV.out⟩
/-- two lists of sections are the same -/
def sameB (l m : List S39) : Bool := decide (l.map pr = m.map pr)
theorem map_pr_inj : ∀ {l m : List S39}, l.map pr = m.map pr → l = m
  | [], [], _ => rfl
  | [], _ :: _, h => by simp at h
  | _ :: _, [], h => by simp at h
  | a :: r, b :: s, h => by
    simp only [List.map_cons, List.cons.injEq] at h
    rw [pr_inj h.1, map_pr_inj h.2]
theorem sameB_iff {l m : List S39} : sameB l m = true ↔ l = m := by
  unfold sameB
  rw [decide_eq_true_eq]
  exact ⟨map_pr_inj, fun h => by rw [h]⟩
theorem map_pr_of {l m : List S39} (hl : l.length = m.length) (h : ∀ i x y, i < l.length → l[i]? = some x → m[i]? = some y → pr x = pr y) : l.map pr = m.map pr := by
  apply List.ext_getElem (by simpa using hl)
  intro i h1 h2
  simp only [List.getElem_map]
  simp only [List.length_map] at h1 h2
  exact h i _ _ h1 (List.getElem?_eq_getElem h1) (List.getElem?_eq_getElem h2)
set_option maxHeartbeats 4000000 in
theorem equalfunc_calls {A B : Option Addr} {c d : Nat} {l m : List S39} {w : World} (hA : Kd.C k39 w A l.length l) (hB : Kd.C k39 w B m.length m) (hl : l.length ≤ 9223372036854775806) (hb : ∀ s ∈ l, s.f1.length ≤ 9223372036854775806) :
    Calls Try.prog 38 #[.slice A l.length c, .slice B m.length d, .func (.func 39) #[] #[]] w fun e w' => e = .returned (.bool (sameB l m)) ∧ Below w.heap.size w w' := by
  by_cases hxy : l.length = m.length
  · have n1 : ((l.length : Int) != (m.length : Int)) = false := by rw [hxy]; simp
    have HA := Aside0.mk hA
    have HBB := Aside0.mk hB
    have HN := Aside0.mk hl
    have HXY := Aside0.mk hxy
    have HG := Aside0.mk hb
    have hu22 := Try.underlying22
    clear hA hB hl hb hxy
    go_enter Try.func38, Try.ntmps38
    go_wp2
    go_loopg [17] l.length (fun gk v17 w' => ∃ j : Nat, v17 = .int .i64 (j : Int) ∧ Aside0 (j + gk = l.length) ∧ Aside0 (∀ i x y, i < j → l[i]? = some x → m[i]? = some y → pr x = pr y) ∧ Aside0 (Below w.heap.size w w'))
    case atStart => exact ⟨0, rfl, ⟨by omega⟩, ⟨fun i x y hi => by omega⟩, ⟨Below.refl _ _⟩⟩
    case round =>
      obtain ⟨j, rfl, HJ, HZ, HBl⟩ := hrel
      by_cases hj : j < l.length
      · have hj2 : j < m.length := by have := HXY.out; omega
        obtain ⟨ad, x, A1, c1, hAd, hx, q0, q1, h4, h5⟩ := at_sec HA.out j hj
        obtain ⟨bd, y, B1, d1, hBd, hy, r0, r1, h6, h7⟩ := at_sec HBB.out j hj2
        have HX := Aside0.mk hx
        have HY := Aside0.mk hy
        have HXl := Aside0.mk (HG.out x (List.mem_of_getElem? hx))
        obtain ⟨t, xs⟩ := x
        obtain ⟨u, ys⟩ := y
        have Q0 : wr.cell? (ad.add (j * 2)) = some (.int .i64 t) := ((HBl.out).cell (World.block_lt_of_cell? w _ q0)).trans q0
        have Q1 : wr.cell? ⟨(ad.add (j * 2)).block, (ad.add (j * 2)).off + 1, none⟩ = some (.slice A1 xs.length c1) := ((HBl.out).cell (World.block_lt_of_cell? w _ q1)).trans q1
        obtain ⟨V, hV⟩ : ∃ V, wr.alloc (.cells #[.int .i64 t, .slice A1 xs.length c1] 39) = V := ⟨_, rfl⟩
        obtain ⟨V2, hV2⟩ : ∃ V2, V.alloc (.cells #[.int .i64 u, .slice B1 ys.length d1] 39) = V2 := ⟨_, rfl⟩
        have BV := Aside0.mk (show Below w.heap.size w V by rw [← hV]; exact below_alloc HBl.out _)
        have BV2 := Aside0.mk (show Below w.heap.size w V2 by rw [← hV2]; exact below_alloc BV.out _)
        have R0 : V.cell? (bd.add (j * 2)) = some (.int .i64 u) := ((BV.out).cell (World.block_lt_of_cell? w _ r0)).trans r0
        have R1 : V.cell? ⟨(bd.add (j * 2)).block, (bd.add (j * 2)).off + 1, none⟩ = some (.slice B1 ys.length d1) := ((BV.out).cell (World.block_lt_of_cell? w _ r1)).trans r1
        have HC1 := Aside0.mk (Kd.C_below h5 BV2.out)
        have HC2 := Aside0.mk (Kd.C_below h7 BV2.out)
        have O1 := Aside0.mk (show SBox V2 wr.heap.size t A1 xs.length c1 by rw [← hV2, ← hV]; exact ⟨blk_below (blk_new wr _) (below_alloc (Below.refl _ _) _)⟩)
        have e2 : V.heap.size = wr.heap.size + 1 := by rw [← hV]; simp
        have O2 := Aside0.mk (show SBox V2 (wr.heap.size + 1) u B1 ys.length d1 by rw [← hV2, ← e2]; exact ⟨blk_new V _⟩)
        have a0 := O1.out.c0
        have a1 := O1.out.c1
        have b0 := O2.out.c0
        have b1 := O2.out.c1
        have HJ2 := Aside0.mk hj
        have g1 : decide ((j : Int) < (l.length : Int)) = true := decide_eq_true (by omega)
        have g1n : decide (j < l.length) = true := decide_eq_true hj
        have g2 : decide ((j : Int) < (m.length : Int)) = true := decide_eq_true (by have := HXY.out; omega)
        have g2n : decide (j < m.length) = true := decide_eq_true hj2
        have p1 : 0 ≤ (j : Int) := by omega
        have hw : wrap64 ((j : Int) + 1) = ((j + 1 : Nat) : Int) := by unfold wrap64; have := HN.out; omega
        have HW := Aside0.mk hw
        have hu39 := Try.underlying39
        subst hAd
        subst hBd
        clear q0 q1 r0 r1 hx hy h4 h5 h6 h7
        by_cases hp : pr ⟨t, xs⟩ = pr ⟨u, ys⟩
        · have HP := Aside0.mk hp
          clear hp
          go_wp2_with (go_at_call 39; (with_reducible refine (same1_calls t u HC1.out HC2.out HXl.out).mono ?_); rintro e w1 ⟨rfl, h1⟩; rw [decide_eq_true HP.out]; have B1 := Aside0.mk (below_then BV2.out BV2.out.size h1); clear h1)
          go_roundg (gk - 1)
          case measure => have := HJ.out; have := HJ2.out; omega
          case rel =>
            refine ⟨j + 1, by first | rw [HW.out] | go_num, ⟨by have := HJ.out; have := HJ2.out; omega⟩, ⟨fun i x y hi hx hy => ?_⟩, B1⟩
            by_cases he : i = j
            · subst he
              rw [HX.out] at hx
              rw [HY.out] at hy
              injection hx with hx
              injection hy with hy
              rw [← hx, ← hy]
              exact HP.out
            · exact HZ.out i x y (by omega) hx hy
        · have HP := Aside0.mk hp
          clear hp
          go_wp2_with (go_at_call 39; (with_reducible refine (same1_calls t u HC1.out HC2.out HXl.out).mono ?_); rintro e w1 ⟨rfl, h1⟩; rw [decide_eq_false HP.out]; have B1 := Aside0.mk (below_then BV2.out BV2.out.size h1); clear h1)
          go_ret
          refine ⟨?_, B1.out⟩
          rw [show sameB l m = false from decide_eq_false (fun h => HP.out (by
            have e := map_pr_inj h
            have h1 := HX.out
            rw [e, HY.out] at h1
            injection h1 with h1
            rw [← h1]))]
          rfl
      · have d1 : decide ((j : Int) < (l.length : Int)) = false := decide_eq_false (by omega)
        have d1n : decide (j < l.length) = false := decide_eq_false hj
        have d2 : decide ((j : Int) < (m.length : Int)) = false := decide_eq_false (by have := HXY.out; omega)
        have d2n : decide (j < m.length) = false := decide_eq_false (by have := HXY.out; omega)
        have hjl : j = l.length := by have := HJ.out; omega
        subst hjl
        clear hj
        go_wp2
        go_ret
        refine ⟨?_, HBl.out⟩
        rw [show sameB l m = true from decide_eq_true (map_pr_of HXY.out HZ.out)]
        rfl
  · have n1 : ((l.length : Int) != (m.length : Int)) = true := bne_iff_ne.mpr (by omega)
    rw [show sameB l m = false from decide_eq_false (fun h => hxy (by rw [map_pr_inj h]))]
    clear hxy hA hB hl hb
    go_enter Try.func38, Try.ntmps38
    go_wp2
    go_ret
    exact ⟨rfl, Below.refl _ _⟩
set_option maxHeartbeats 1000000 in
theorem same_calls {A B : Option Addr} {c d : Nat} {l m : List S39} {w : World} (hA : Kd.C k39 w A l.length l) (hB : Kd.C k39 w B m.length m) (hl : l.length ≤ 9223372036854775806) (hb : ∀ s ∈ l, s.f1.length ≤ 9223372036854775806) :
    Calls Try.prog 17 #[.slice A l.length c, .slice B m.length d] w fun e w' => e = .returned (.bool (sameB l m)) ∧ Below w.heap.size w w' := by
  have HI := Aside0.mk (equalfunc_calls (c := c) (d := d) hA hB hl hb)
  clear hA hB hl hb
  go_enter Try.func17, Try.ntmps17
  go_wp2_with (go_at_call 38; (with_reducible refine (HI.out).mono ?_); rintro e w1 ⟨rfl, h1⟩; have B1 := Aside0.mk h1; clear h1)
  go_ret
  exact ⟨by first | rfl | simp, B1.out⟩
end Go.Proofs.Ytnohflfpahokiaa.Sec
