/- The walks of the reference's disk: what it holds is told by the same state as the program's. -/
import Derived.Test.YtijbcfnkeahdoaaCuts
set_option linter.unusedVariables false
set_option linter.unusedSimpArgs false
namespace Go.Proofs.Ytijbcfnkeahdoaa.Disk
open Go Go.RowKit Go.Proofs.YtijbcfnkeahdoaaW.PrintWords

def DSt.armv (x : DSt) : Int := if x.armed = true then x.left else -1
structure RD (w : World) (h base : Nat) (x : DSt) : Prop where
  blk : w.heap[h]? = some (.cells #[.string (strOfNums x.f0), .string (strOfNums x.f1), .int .i64 x.armv, .bool x.off] 50 (0, 0))
  low : base ≤ h
  left0 : 0 ≤ x.left
  left1 : x.left < 9223372036854775808
  len0 : x.f0.length ≤ 4194304
  len1 : x.f1.length ≤ 4194304
theorem RD.c0 {w : World} {h base : Nat} {x : DSt} (r : RD w h base x) : w.cell? ⟨h, 0, none⟩ = some (.string (strOfNums x.f0)) := (blk_cell r.blk 0).trans rfl
theorem RD.c1 {w : World} {h base : Nat} {x : DSt} (r : RD w h base x) : w.cell? ⟨h, 1, none⟩ = some (.string (strOfNums x.f1)) := (blk_cell r.blk 1).trans rfl
theorem RD.c2 {w : World} {h base : Nat} {x : DSt} (r : RD w h base x) : w.cell? ⟨h, 2, none⟩ = some (.int .i64 x.armv) := (blk_cell r.blk 2).trans rfl
theorem RD.c3 {w : World} {h base : Nat} {x : DSt} (r : RD w h base x) : w.cell? ⟨h, 3, none⟩ = some (.bool x.off) := (blk_cell r.blk 3).trans rfl
theorem RD.fz {w : World} {h base : Nat} {x : DSt} (r : RD w h base x) (i : Nat) : w.frozen? ⟨h, i, none⟩ = false := blk_frozen r.blk i
theorem RD.below {w w' : World} {h base : Nat} {x : DSt} (r : RD w h base x) (hb : Below w.heap.size w w') : RD w' h base x := ⟨blk_below r.blk hb, r.low, r.left0, r.left1, r.len0, r.len1⟩
theorem RD.drew {w : World} {h base : Nat} {x : DSt} (r : RD w h base x) : RD w.drew h base x := r.below (Below.refl _ _).drew
theorem RD.only {w w' : World} {h g base : Nat} {x : DSt} (r : RD w h base x) (ho : Only w w' g) (hg : h ≠ g) : RD w' h base x :=
  ⟨(ho.2 h (blk_lt r.blk) hg (fun cur e => by rw [r.blk] at e; injection e with e; injection e with _ e; cases e)).trans r.blk, r.low, r.left0, r.left1, r.len0, r.len1⟩
/-- what a call of the reference's disk leaves -/
structure RPost (w w' : World) (h base : Nat) (y : DSt) : Prop where
  rd : RD w' h base y
  rest : ∀ k, k ≠ h → w'.heap[k]? = w.heap[k]?
  size : w'.heap.size = w.heap.size
  below : Below base w w'
theorem RPost.refl {w : World} {h base : Nat} {x : DSt} (r : RD w h base x) : RPost w w h base x := ⟨r, fun _ _ => rfl, rfl, Below.refl _ _⟩
theorem RPost.drew {w w' : World} {h base : Nat} {x : DSt} (p : RPost w w' h base x) : RPost w w'.drew h base x := ⟨p.rd.drew, p.rest, p.size, p.below.drew⟩
theorem RPost.trans {w w' w'' : World} {h base : Nat} {x y : DSt} (p : RPost w w' h base x) (q : RPost w' w'' h base y) : RPost w w'' h base y := ⟨q.rd, fun k hk => (q.rest k hk).trans (p.rest k hk), q.size.trans p.size, p.below.trans q.below⟩
theorem RPost.set {w w1 : World} {h base : Nat} {x : DSt} (p : RPost w w1 h base x) (i : Nat) (u : Value) (y : DSt) (hc : (#[.string (strOfNums x.f0), .string (strOfNums x.f1), .int .i64 x.armv, .bool x.off] : Array Value).setIfInBounds i u = #[.string (strOfNums y.f0), .string (strOfNums y.f1), .int .i64 y.armv, .bool y.off])
    (hl0 : 0 ≤ y.left) (hl1 : y.left < 9223372036854775808) (h0 : y.f0.length ≤ 4194304) (h1 : y.f1.length ≤ 4194304) : RPost w (w1.setCell ⟨h, i, none⟩ u) h base y :=
  ⟨⟨by rw [← hc]; exact blk_set p.rd.blk i u, p.rd.low, hl0, hl1, h0, h1⟩, fun k hk => (Below.heap_setCell w1 ⟨h, i, none⟩ u k hk).trans (p.rest k hk), by simpa using p.size, p.below.setCell p.rd.low _⟩
theorem RPost.dsk {w w' : World} {h g base b2 : Nat} {y x z : DSt} {v0 v1 : Value} (p : RPost w w' h base y) (r : RD w h base z) (d : Dsk w g b2 v0 v1 x) : Dsk w' g b2 v0 v1 x := by
  have hne : g ≠ h := fun e => blk_ne d.blk r.blk (by decide) e
  have hm : ∀ (v : Value) (xs : List Int), FRow w b2 v xs → FRow w' b2 v xs := fun v xs hr => hr.move fun k hk => p.rest k (fun e => by
    obtain ⟨cur, hc⟩ := hr.typed k hk
    rw [e, r.blk] at hc
    injection hc with hc
    injection hc with _ hc
    cases hc)
  exact ⟨(p.rest g hne).trans d.blk, hm _ _ d.r0, hm _ _ d.r1, d.apart, d.low, by rw [p.size]; exact d.size, d.left0, d.left1, d.len0, d.len1⟩

set_option maxHeartbeats 1000000 in
theorem rnew_calls (w : World) (base : Nat) (hb : base ≤ w.heap.size) : Calls Try.prog 10 #[] w fun e w' => ∃ h, e = .returned (.pointer (some ⟨h, 0, none⟩)) ∧ RD w' h base ⟨[], [], false, 0, false⟩ ∧ w.heap.size ≤ h ∧ Below w.heap.size w w' := by
  go_enter Try.func10, Try.ntmps10
  go_wp2
  go_ret
  exact ⟨_, rfl, ⟨blk_new w _, hb, by decide, by decide, by simp, by simp⟩, Nat.le_refl _, (Below.refl _ _).alloc (Nat.le_refl _) _⟩

set_option maxHeartbeats 1000000 in
theorem rcheck_calls {w : World} {h base : Nat} {x : DSt} (r : RD w h base x) (n : Int) :
    Calls Try.prog 33 #[.pointer (some ⟨h, 0, none⟩), .int .i64 n] w fun e w' => e = .returned (.int .i64 (x.check n)) ∧ w = w' := by
  have h3 := r.c3
  clear r
  unfold DSt.check
  generalize x.off = o at h3 ⊢
  cases o
  · by_cases h0 : n = 0
    · subst h0
      rw [if_neg (by simp), if_neg (by omega)]
      go_enter Try.func33, Try.ntmps33
      go_wp2
      go_ret
      exact ⟨rfl, rfl⟩
    · have b1 : (n != 0) = true := bne_iff_ne.mpr h0
      by_cases h2 : n = 1
      · subst h2
        rw [if_neg (by simp), if_neg (by omega)]
        clear h0 b1
        go_enter Try.func33, Try.ntmps33
        go_wp2
        go_ret
        exact ⟨rfl, rfl⟩
      · have b2 : (n != 1) = true := bne_iff_ne.mpr h2
        rw [if_neg (by simp), if_pos (by omega)]
        clear h0 h2
        go_enter Try.func33, Try.ntmps33
        go_wp2
        go_ret
        exact ⟨rfl, rfl⟩
  · rw [if_pos rfl]
    go_enter Try.func33, Try.ntmps33
    go_wp2
    go_ret
    exact ⟨rfl, rfl⟩
set_option maxHeartbeats 1000000 in
theorem rpay_calls {w : World} {h base : Nat} {x : DSt} (r : RD w h base x) (c : Nat) (hc : c < 9223372036854775808) :
    Calls Try.prog 34 #[.pointer (some ⟨h, 0, none⟩), .int .i64 (c : Int)] w fun e w' => e = .returned (.tuple #[.int .i64 (x.cost c), .bool (!decide (x.cost c < c))]) ∧ RPost w w' h base (x.pay c) := by
  have c2 := r.c2
  have c3 := r.c3
  have f2 := r.fz 2
  have f3 := r.fz 3
  have R := Aside0.mk r
  cases ha : x.armed with
  | false =>
    have ea : x.armv = -1 := by unfold DSt.armv; rw [ha]; rfl
    have e1 : x.cost c = c := by unfold DSt.cost; rw [ha]; rfl
    have e2 : x.pay c = x := by unfold DSt.pay; rw [ha]; rfl
    have e3 : (!decide (x.cost c < c)) = true := by rw [e1]; simp
    rw [e3, e1, e2]
    rw [ea] at c2
    clear r ha ea e1 e2 e3 hc
    go_enter Try.func34, Try.ntmps34
    go_wp2
    go_ret2
    exact ⟨rfl, RPost.refl R.out⟩
  | true =>
    have ea : x.armv = x.left := by unfold DSt.armv; rw [ha]; rfl
    rw [ea] at c2
    have hl0 := R.out.left0
    have hl1 := R.out.left1
    have b1 : decide (x.left < 0) = false := decide_eq_false (by omega)
    by_cases hle : (c : Int) ≤ x.left
    · have b2 : decide ((c : Int) ≤ x.left) = true := decide_eq_true hle
      have e1 : x.cost c = c := by unfold DSt.cost; rw [ha, if_pos rfl]; omega
      have e2 : x.pay c = { x with left := x.left - c } := by
        unfold DSt.pay
        rw [ha, if_pos rfl, if_neg (by omega)]
        have : min (c : Int) x.left = c := by omega
        rw [this]
      have e3 : (!decide (x.cost c < c)) = true := by rw [e1]; simp
      have hw : wrap64 (x.left - c) = x.left - c := by unfold wrap64; omega
      have e4 : ({ x with left := x.left - c } : DSt).armv = x.left - c := by unfold DSt.armv; exact if_pos ha
      rw [e3, e1, e2]
      have P := Aside0.mk ((RPost.refl R.out).set 2 (.int .i64 (x.left - c)) { x with left := x.left - c } (by rw [e4]; rfl) (by show 0 ≤ x.left - c; omega) (by show x.left - c < _; omega) R.out.len0 R.out.len1)
      clear r ha ea e1 e2 e3 e4 hc hle hl0 hl1
      go_enter Try.func34, Try.ntmps34
      go_wp2
      go_ret2
      exact ⟨rfl, P.out⟩
    · have b2 : decide ((c : Int) ≤ x.left) = false := decide_eq_false hle
      have e1 : x.cost c = x.left := by unfold DSt.cost; rw [ha, if_pos rfl]; omega
      have e2 : x.pay c = { x with left := 0, armed := false, off := true } := by
        unfold DSt.pay
        rw [ha, if_pos rfl, if_pos (by omega)]
        have : x.left - min (c : Int) x.left = 0 := by omega
        rw [this]
      have e3 : (!decide (x.cost c < c)) = false := by rw [e1]; simp; omega
      rw [e3, e1, e2]
      have f32 : (w.setCell ⟨h, 2, none⟩ (.int .i64 (-1))).frozen? ⟨h, 3, none⟩ = false := blk_frozen (blk_set r.blk 2 _) 3
      have P1 := (RPost.refl R.out).set 2 (.int .i64 (-1)) { x with left := 0, armed := false } rfl (Int.le_refl 0) (by show (0 : Int) < _; decide) R.out.len0 R.out.len1
      have P := Aside0.mk (P1.set 3 (.bool true) { x with left := 0, armed := false, off := true } rfl (Int.le_refl 0) (by show (0 : Int) < _; decide) R.out.len0 R.out.len1)
      clear r ha ea e1 e2 e3 hc hle hl0 hl1 P1
      go_enter Try.func34, Try.ntmps34
      go_wp2
      go_ret2
      exact ⟨rfl, P.out⟩
set_option maxHeartbeats 1000000 in
theorem rarms_calls {w : World} {h base : Nat} {x : DSt} (r : RD w h base x) (k : Int) (hk : k < 9223372036854775808) :
    Calls Try.prog 25 #[.pointer (some ⟨h, 0, none⟩), .int .i64 k] w fun e w' => e = .returned (.tuple #[]) ∧ RPost w w' h base { x with armed := true, left := max k 0 } := by
  have c2 := r.c2
  have c3 := r.c3
  have f2 := r.fz 2
  have R := Aside0.mk r
  by_cases h0 : k < 0
  · have b1 : decide (k < 0) = true := decide_eq_true h0
    have P := Aside0.mk ((RPost.refl R.out).set 2 (.int .i64 0) { x with armed := true, left := max k 0 } (by rw [show max k 0 = 0 from by omega]; rfl) (by show 0 ≤ max k 0; omega) (by show max k 0 < _; omega) R.out.len0 R.out.len1)
    clear r h0 hk
    go_enter Try.func25, Try.ntmps25
    go_wp2
    go_end0
    exact ⟨rfl, P.out⟩
  · have b1 : decide (k < 0) = false := decide_eq_false h0
    have P := Aside0.mk ((RPost.refl R.out).set 2 (.int .i64 k) { x with armed := true, left := max k 0 } (by rw [show max k 0 = k from by omega]; rfl) (by show 0 ≤ max k 0; omega) (by show max k 0 < _; omega) R.out.len0 R.out.len1)
    clear r h0 hk
    go_enter Try.func25, Try.ntmps25
    go_wp2
    go_end0
    exact ⟨rfl, P.out⟩
set_option maxHeartbeats 1000000 in
theorem rwake_calls {w : World} {h base : Nat} {x : DSt} (r : RD w h base x) :
    Calls Try.prog 26 #[.pointer (some ⟨h, 0, none⟩)] w fun e w' => e = .returned (.tuple #[]) ∧ RPost w w' h base { x with armed := false, off := false } := by
  have c2 := r.c2
  have c3 := r.c3
  have f2 := r.fz 2
  have f3 := r.fz 3
  have f32 : (w.setCell ⟨h, 2, none⟩ (.int .i64 (-1))).frozen? ⟨h, 3, none⟩ = false := blk_frozen (blk_set r.blk 2 _) 3
  have P1 := (RPost.refl r).set 2 (.int .i64 (-1)) { x with armed := false } rfl r.left0 r.left1 r.len0 r.len1
  have P := Aside0.mk (P1.set 3 (.bool false) { x with armed := false, off := false } rfl r.left0 r.left1 r.len0 r.len1)
  clear r P1
  go_enter Try.func26, Try.ntmps26
  go_wp2
  go_end0
  exact ⟨rfl, P.out⟩
set_option maxHeartbeats 1000000 in
theorem rread_bad {w : World} {h base : Nat} {x : DSt} (r : RD w h base x) (n : Int) (hn : x.check n ≠ 0) :
    Calls Try.prog 24 #[.pointer (some ⟨h, 0, none⟩), .int .i64 n] w fun e w' => e = .returned (.tuple #[.string ⟨#[]⟩, .int .i64 (x.check n)]) ∧ w = w' := by
  have b1 : (x.check n != 0) = true := bne_iff_ne.mpr hn
  have R := Aside0.mk r
  clear r hn
  go_enter Try.func24, Try.ntmps24
  go_wp2_with (go_at_call 33; (with_reducible refine (rcheck_calls R.out n).mono ?_); rintro e w1 ⟨rfl, rfl⟩)
  go_ret2
  exact ⟨rfl, rfl⟩
set_option maxHeartbeats 1000000 in
theorem rwrite_bad {w : World} {h base : Nat} {x : DSt} (r : RD w h base x) (n : Int) (hn : x.check n ≠ 0) (s : ByteArray) :
    Calls Try.prog 21 #[.pointer (some ⟨h, 0, none⟩), .int .i64 n, .string s] w fun e w' => e = .returned (.int .i64 (x.check n)) ∧ w = w' := by
  have b1 : (x.check n != 0) = true := bne_iff_ne.mpr hn
  have R := Aside0.mk r
  clear r hn
  go_enter Try.func21, Try.ntmps21
  go_wp2_with (go_at_call 33; (with_reducible refine (rcheck_calls R.out n).mono ?_); rintro e w1 ⟨rfl, rfl⟩)
  go_ret
  exact ⟨rfl, rfl⟩
set_option maxHeartbeats 1000000 in
theorem rcut_bad {w : World} {h base : Nat} {x : DSt} (r : RD w h base x) (n s : Int) (hn : x.check n ≠ 0) :
    Calls Try.prog 23 #[.pointer (some ⟨h, 0, none⟩), .int .i64 n, .int .i64 s] w fun e w' => e = .returned (.int .i64 (x.check n)) ∧ w = w' := by
  have b1 : (x.check n != 0) = true := bne_iff_ne.mpr hn
  have R := Aside0.mk r
  clear r hn
  go_enter Try.func23, Try.ntmps23
  go_wp2_with (go_at_call 33; (with_reducible refine (rcheck_calls R.out n).mono ?_); rintro e w1 ⟨rfl, rfl⟩)
  go_ret
  exact ⟨rfl, rfl⟩
set_option maxHeartbeats 1000000 in
theorem rclear_said {n : Int} {Q : Ending → World → Prop} {u : Value} {w : World} (h : Calls Try.prog 23 #[u, .int .i64 n, .int .i64 0] w fun e w' => (∃ k, e = .returned (.int .i64 k)) ∧ Q e w') :
    Calls Try.prog 22 #[u, .int .i64 n] w Q := by
  have H := Aside0.mk h
  clear h
  go_enter Try.func22, Try.ntmps22
  go_wp2_with (go_at_call 23; (with_reducible refine H.out.mono ?_); rintro e w1 ⟨⟨k, rfl⟩, hq⟩; have HQ := Aside0.mk hq; clear hq)
  exact HQ.out

theorem DSt.pay_left (x : DSt) (c : Int) (hc : 0 ≤ c) (h0 : 0 ≤ x.left) (h1 : x.left < 9223372036854775808) : 0 ≤ (x.pay c).left ∧ (x.pay c).left < 9223372036854775808 := by
  unfold DSt.pay
  split
  · split
    · constructor
      · show 0 ≤ x.left - min c x.left; omega
      · show x.left - min c x.left < _; omega
    · constructor
      · show 0 ≤ x.left - min c x.left; omega
      · show x.left - min c x.left < _; omega
  · exact ⟨h0, h1⟩

set_option maxHeartbeats 2000000 in
theorem rwrite_ok0 {w : World} {h base : Nat} {x : DSt} (r : RD w h base x) (hn : x.check 0 = 0) (ys : List Int) (hy : ys.length ≤ 140737488351232) :
    Calls Try.prog 21 #[.pointer (some ⟨h, 0, none⟩), .int .i64 0, .string (strOfNums ys)] w fun e w' => e = .returned (.int .i64 (if x.f0.length + ys.length > 4194304 then 2 else x.told ys.length)) ∧ RPost w w' h base (if x.f0.length + ys.length > 4194304 then x else { x.pay ys.length with f0 := x.f0 ++ ys.take (x.cost ys.length).toNat }) := by
  have R := Aside0.mk r
  have HY := Aside0.mk hy
  have hl0 := R.out.left0
  have hlen := R.out.len0
  have c0 := r.c0
  have hw : wrap64 (((strOfNums x.f0).size : Int) + ((strOfNums ys).size : Int)) = ((strOfNums x.f0).size : Int) + ((strOfNums ys).size : Int) := by rw [strOf_size, strOf_size]; unfold wrap64; omega
  by_cases hbig : x.f0.length + ys.length > 4194304
  · have b2 : decide ((4194304 : Int) < ((strOfNums x.f0).size : Int) + ((strOfNums ys).size : Int)) = true := decide_eq_true (by rw [strOf_size, strOf_size]; omega)
    have b2n : decide (4194304 < (strOfNums x.f0).size + (strOfNums ys).size) = true := decide_eq_true (by rw [strOf_size, strOf_size]; omega)
    rw [if_pos hbig, if_pos hbig]
    clear hbig r hy hl0 hlen
    go_enter Try.func21, Try.ntmps21
    go_wp2_with (go_at_call 33; (with_reducible refine (rcheck_calls R.out 0).mono ?_); rintro e w1 ⟨rfl, rfl⟩; rw [hn])
    go_ret
    exact ⟨rfl, RPost.refl R.out⟩
  have b2 : decide ((4194304 : Int) < ((strOfNums x.f0).size : Int) + ((strOfNums ys).size : Int)) = false := decide_eq_false (by rw [strOf_size, strOf_size]; omega)
  have b2n : decide (4194304 < (strOfNums x.f0).size + (strOfNums ys).size) = false := decide_eq_false (by rw [strOf_size, strOf_size]; omega)
  rw [if_neg hbig, if_neg hbig]
  have hcl := DSt.cost_le (x := x) (c := (ys.length : Int)) (by omega) hl0
  obtain ⟨m, hm⟩ : ∃ m : Nat, x.cost (ys.length : Int) = (m : Int) := ⟨(x.cost (ys.length : Int)).toNat, by omega⟩
  have hml : m ≤ ys.length := by omega
  have HM := Aside0.mk (show x.cost ((strOfNums ys).size : Int) = (m : Int) by rw [strOf_size]; exact hm)
  have hp1 := DSt.pay_left x (ys.length : Int) (by omega) hl0 R.out.left1
  have PL0 := Aside0.mk (show 0 ≤ ({ x.pay ys.length with f0 := x.f0 ++ ys.take m } : DSt).left from hp1.1)
  have PL1 := Aside0.mk (show ({ x.pay ys.length with f0 := x.f0 ++ ys.take m } : DSt).left < 9223372036854775808 from hp1.2)
  have hnew : (x.f0 ++ ys.take m).length ≤ 4194304 := by rw [List.length_append, List.length_take]; omega
  have PF0 := Aside0.mk (show ({ x.pay ys.length with f0 := x.f0 ++ ys.take m } : DSt).f0.length ≤ 4194304 from hnew)
  have PF1 := Aside0.mk (show ({ x.pay ys.length with f0 := x.f0 ++ ys.take m } : DSt).f1.length ≤ 4194304 from by rw [show ({ x.pay ys.length with f0 := x.f0 ++ ys.take m } : DSt).f1 = x.f1 from x.pay_f1 _]; exact R.out.len1)
  have SET := Aside0.mk (show (#[.string (strOfNums (x.pay ((strOfNums ys).size : Int)).f0), .string (strOfNums (x.pay ((strOfNums ys).size : Int)).f1), .int .i64 (x.pay ((strOfNums ys).size : Int)).armv, .bool (x.pay ((strOfNums ys).size : Int)).off] : Array Value).setIfInBounds 0 (.string (strOfNums x.f0 ++ (strOfNums ys).extract 0 m)) = #[.string (strOfNums ({ x.pay ys.length with f0 := x.f0 ++ ys.take m } : DSt).f0), .string (strOfNums ({ x.pay ys.length with f0 := x.f0 ++ ys.take m } : DSt).f1), .int .i64 ({ x.pay ys.length with f0 := x.f0 ++ ys.take m } : DSt).armv, .bool ({ x.pay ys.length with f0 := x.f0 ++ ys.take m } : DSt).off] by rw [strOf_size, strOf_take, strOf_append]; rfl)
  have c20 : ((m : Int) ≤ (strOfNums ys).size) = True := eq_true (by rw [strOf_size]; omega)
  have c20n : (m ≤ (strOfNums ys).size) = True := eq_true (by rw [strOf_size]; omega)
  have c21 : ((0 : Int) ≤ (m : Int)) = True := eq_true (by omega)
  have hcat : (9223372036854775807 < (strOfNums x.f0).size + ((strOfNums ys).extract 0 m).size) = False := eq_false (by rw [strOf_take, strOf_size, strOf_size, List.length_take]; omega)
  have hcat2 : (9223372036854775807 < (strOfNums x.f0).size + m) = False := eq_false (by rw [strOf_size]; omega)
  have hcat3 : (9223372036854775807 < (strOfNums x.f0).size + min m (strOfNums ys).size) = False := eq_false (by rw [strOf_size, strOf_size]; omega)
  rw [hm, Int.toNat_natCast]
  by_cases hp : x.cost (ys.length : Int) < ys.length
  · clear hbig r hy hl0 hlen hcl hm hml hp1 hnew
    have hb : (!decide (x.cost ((strOfNums ys).size : Int) < ((strOfNums ys).size : Int))) = false := by rw [strOf_size]; simp; omega
    have HB := Aside0.mk hb
    have ht : x.told ys.length = 280 := by unfold DSt.told; first | exact if_pos hp | exact if_neg hp
    rw [ht]
    clear hb ht hp
    go_enter Try.func21, Try.ntmps21
    go_wp2_with (first
      | (go_at_call 33; (with_reducible refine (rcheck_calls R.out 0).mono ?_); rintro e w1 ⟨rfl, rfl⟩; rw [hn])
      | (go_at_call 34; (with_reducible refine (rpay_calls R.out (strOfNums ys).size (by rw [strOf_size]; have := HY.out; omega)).mono ?_); rintro e w2 ⟨rfl, h1⟩; rw [HB.out, HM.out]; have P1 := Aside0.mk h1; have cc := h1.rd.c0; rw [DSt.pay_f0] at cc; have cd : w2.drew.cell? ⟨h, 0, none⟩ = some (.string (strOfNums x.f0)) := cc; have cf : w2.frozen? ⟨h, 0, none⟩ = false := h1.rd.fz 0; have cfd : w2.drew.frozen? ⟨h, 0, none⟩ = false := h1.rd.drew.fz 0; clear h1))
    go_region
    all_goals (go_wp2; go_ret; refine ⟨rfl, P1.out.drew.set 0 _ { x.pay ys.length with f0 := x.f0 ++ ys.take m } ?_ ?_ ?_ ?_ ?_⟩)
    all_goals first | exact SET.out | exact PL0.out | exact PL1.out | exact PF0.out | exact PF1.out
  · clear hbig r hy hl0 hlen hcl hm hml hp1 hnew
    have hb : (!decide (x.cost ((strOfNums ys).size : Int) < ((strOfNums ys).size : Int))) = true := by rw [strOf_size]; simp; omega
    have HB := Aside0.mk hb
    have ht : x.told ys.length = 0 := by unfold DSt.told; first | exact if_pos hp | exact if_neg hp
    rw [ht]
    clear hb ht hp
    go_enter Try.func21, Try.ntmps21
    go_wp2_with (first
      | (go_at_call 33; (with_reducible refine (rcheck_calls R.out 0).mono ?_); rintro e w1 ⟨rfl, rfl⟩; rw [hn])
      | (go_at_call 34; (with_reducible refine (rpay_calls R.out (strOfNums ys).size (by rw [strOf_size]; have := HY.out; omega)).mono ?_); rintro e w2 ⟨rfl, h1⟩; rw [HB.out, HM.out]; have P1 := Aside0.mk h1; have cc := h1.rd.c0; rw [DSt.pay_f0] at cc; have cd : w2.drew.cell? ⟨h, 0, none⟩ = some (.string (strOfNums x.f0)) := cc; have cf : w2.frozen? ⟨h, 0, none⟩ = false := h1.rd.fz 0; have cfd : w2.drew.frozen? ⟨h, 0, none⟩ = false := h1.rd.drew.fz 0; clear h1))
    go_region
    all_goals (go_wp2; go_ret; refine ⟨rfl, P1.out.drew.set 0 _ { x.pay ys.length with f0 := x.f0 ++ ys.take m } ?_ ?_ ?_ ?_ ?_⟩)
    all_goals first | exact SET.out | exact PL0.out | exact PL1.out | exact PF0.out | exact PF1.out

set_option maxHeartbeats 2000000 in
theorem rwrite_ok1 {w : World} {h base : Nat} {x : DSt} (r : RD w h base x) (hn : x.check 1 = 0) (ys : List Int) (hy : ys.length ≤ 140737488351232) :
    Calls Try.prog 21 #[.pointer (some ⟨h, 0, none⟩), .int .i64 1, .string (strOfNums ys)] w fun e w' => e = .returned (.int .i64 (if x.f1.length + ys.length > 4194304 then 2 else x.told ys.length)) ∧ RPost w w' h base (if x.f1.length + ys.length > 4194304 then x else { x.pay ys.length with f1 := x.f1 ++ ys.take (x.cost ys.length).toNat }) := by
  have R := Aside0.mk r
  have HY := Aside0.mk hy
  have hl0 := R.out.left0
  have hlen := R.out.len1
  have c0 := r.c1
  have hw : wrap64 (((strOfNums x.f1).size : Int) + ((strOfNums ys).size : Int)) = ((strOfNums x.f1).size : Int) + ((strOfNums ys).size : Int) := by rw [strOf_size, strOf_size]; unfold wrap64; omega
  by_cases hbig : x.f1.length + ys.length > 4194304
  · have b2 : decide ((4194304 : Int) < ((strOfNums x.f1).size : Int) + ((strOfNums ys).size : Int)) = true := decide_eq_true (by rw [strOf_size, strOf_size]; omega)
    have b2n : decide (4194304 < (strOfNums x.f1).size + (strOfNums ys).size) = true := decide_eq_true (by rw [strOf_size, strOf_size]; omega)
    rw [if_pos hbig, if_pos hbig]
    clear hbig r hy hl0 hlen
    go_enter Try.func21, Try.ntmps21
    go_wp2_with (go_at_call 33; (with_reducible refine (rcheck_calls R.out 1).mono ?_); rintro e w1 ⟨rfl, rfl⟩; rw [hn])
    go_ret
    exact ⟨rfl, RPost.refl R.out⟩
  have b2 : decide ((4194304 : Int) < ((strOfNums x.f1).size : Int) + ((strOfNums ys).size : Int)) = false := decide_eq_false (by rw [strOf_size, strOf_size]; omega)
  have b2n : decide (4194304 < (strOfNums x.f1).size + (strOfNums ys).size) = false := decide_eq_false (by rw [strOf_size, strOf_size]; omega)
  rw [if_neg hbig, if_neg hbig]
  have hcl := DSt.cost_le (x := x) (c := (ys.length : Int)) (by omega) hl0
  obtain ⟨m, hm⟩ : ∃ m : Nat, x.cost (ys.length : Int) = (m : Int) := ⟨(x.cost (ys.length : Int)).toNat, by omega⟩
  have hml : m ≤ ys.length := by omega
  have HM := Aside0.mk (show x.cost ((strOfNums ys).size : Int) = (m : Int) by rw [strOf_size]; exact hm)
  have hp1 := DSt.pay_left x (ys.length : Int) (by omega) hl0 R.out.left1
  have PL0 := Aside0.mk (show 0 ≤ ({ x.pay ys.length with f1 := x.f1 ++ ys.take m } : DSt).left from hp1.1)
  have PL1 := Aside0.mk (show ({ x.pay ys.length with f1 := x.f1 ++ ys.take m } : DSt).left < 9223372036854775808 from hp1.2)
  have hnew : (x.f1 ++ ys.take m).length ≤ 4194304 := by rw [List.length_append, List.length_take]; omega
  have PF0 := Aside0.mk (show ({ x.pay ys.length with f1 := x.f1 ++ ys.take m } : DSt).f0.length ≤ 4194304 from by rw [show ({ x.pay ys.length with f1 := x.f1 ++ ys.take m } : DSt).f0 = x.f0 from x.pay_f0 _]; exact R.out.len0)
  have PF1 := Aside0.mk (show ({ x.pay ys.length with f1 := x.f1 ++ ys.take m } : DSt).f1.length ≤ 4194304 from hnew)
  have SET := Aside0.mk (show (#[.string (strOfNums (x.pay ((strOfNums ys).size : Int)).f0), .string (strOfNums (x.pay ((strOfNums ys).size : Int)).f1), .int .i64 (x.pay ((strOfNums ys).size : Int)).armv, .bool (x.pay ((strOfNums ys).size : Int)).off] : Array Value).setIfInBounds 1 (.string (strOfNums x.f1 ++ (strOfNums ys).extract 0 m)) = #[.string (strOfNums ({ x.pay ys.length with f1 := x.f1 ++ ys.take m } : DSt).f0), .string (strOfNums ({ x.pay ys.length with f1 := x.f1 ++ ys.take m } : DSt).f1), .int .i64 ({ x.pay ys.length with f1 := x.f1 ++ ys.take m } : DSt).armv, .bool ({ x.pay ys.length with f1 := x.f1 ++ ys.take m } : DSt).off] by rw [strOf_size, strOf_take, strOf_append]; rfl)
  have c20 : ((m : Int) ≤ (strOfNums ys).size) = True := eq_true (by rw [strOf_size]; omega)
  have c20n : (m ≤ (strOfNums ys).size) = True := eq_true (by rw [strOf_size]; omega)
  have c21 : ((0 : Int) ≤ (m : Int)) = True := eq_true (by omega)
  have hcat : (9223372036854775807 < (strOfNums x.f1).size + ((strOfNums ys).extract 0 m).size) = False := eq_false (by rw [strOf_take, strOf_size, strOf_size, List.length_take]; omega)
  have hcat2 : (9223372036854775807 < (strOfNums x.f1).size + m) = False := eq_false (by rw [strOf_size]; omega)
  have hcat3 : (9223372036854775807 < (strOfNums x.f1).size + min m (strOfNums ys).size) = False := eq_false (by rw [strOf_size, strOf_size]; omega)
  rw [hm, Int.toNat_natCast]
  by_cases hp : x.cost (ys.length : Int) < ys.length
  · clear hbig r hy hl0 hlen hcl hm hml hp1 hnew
    have hb : (!decide (x.cost ((strOfNums ys).size : Int) < ((strOfNums ys).size : Int))) = false := by rw [strOf_size]; simp; omega
    have HB := Aside0.mk hb
    have ht : x.told ys.length = 280 := by unfold DSt.told; first | exact if_pos hp | exact if_neg hp
    rw [ht]
    clear hb ht hp
    go_enter Try.func21, Try.ntmps21
    go_wp2_with (first
      | (go_at_call 33; (with_reducible refine (rcheck_calls R.out 1).mono ?_); rintro e w1 ⟨rfl, rfl⟩; rw [hn])
      | (go_at_call 34; (with_reducible refine (rpay_calls R.out (strOfNums ys).size (by rw [strOf_size]; have := HY.out; omega)).mono ?_); rintro e w2 ⟨rfl, h1⟩; rw [HB.out, HM.out]; have P1 := Aside0.mk h1; have cc := h1.rd.c1; rw [DSt.pay_f1] at cc; have cd : w2.drew.cell? ⟨h, 1, none⟩ = some (.string (strOfNums x.f1)) := cc; have cf : w2.frozen? ⟨h, 1, none⟩ = false := h1.rd.fz 1; have cfd : w2.drew.frozen? ⟨h, 1, none⟩ = false := h1.rd.drew.fz 1; clear h1))
    go_region
    all_goals (go_wp2; go_ret; refine ⟨rfl, P1.out.drew.set 1 _ { x.pay ys.length with f1 := x.f1 ++ ys.take m } ?_ ?_ ?_ ?_ ?_⟩)
    all_goals first | exact SET.out | exact PL0.out | exact PL1.out | exact PF0.out | exact PF1.out
  · clear hbig r hy hl0 hlen hcl hm hml hp1 hnew
    have hb : (!decide (x.cost ((strOfNums ys).size : Int) < ((strOfNums ys).size : Int))) = true := by rw [strOf_size]; simp; omega
    have HB := Aside0.mk hb
    have ht : x.told ys.length = 0 := by unfold DSt.told; first | exact if_pos hp | exact if_neg hp
    rw [ht]
    clear hb ht hp
    go_enter Try.func21, Try.ntmps21
    go_wp2_with (first
      | (go_at_call 33; (with_reducible refine (rcheck_calls R.out 1).mono ?_); rintro e w1 ⟨rfl, rfl⟩; rw [hn])
      | (go_at_call 34; (with_reducible refine (rpay_calls R.out (strOfNums ys).size (by rw [strOf_size]; have := HY.out; omega)).mono ?_); rintro e w2 ⟨rfl, h1⟩; rw [HB.out, HM.out]; have P1 := Aside0.mk h1; have cc := h1.rd.c1; rw [DSt.pay_f1] at cc; have cd : w2.drew.cell? ⟨h, 1, none⟩ = some (.string (strOfNums x.f1)) := cc; have cf : w2.frozen? ⟨h, 1, none⟩ = false := h1.rd.fz 1; have cfd : w2.drew.frozen? ⟨h, 1, none⟩ = false := h1.rd.drew.fz 1; clear h1))
    go_region
    all_goals (go_wp2; go_ret; refine ⟨rfl, P1.out.drew.set 1 _ { x.pay ys.length with f1 := x.f1 ++ ys.take m } ?_ ?_ ?_ ?_ ?_⟩)
    all_goals first | exact SET.out | exact PL0.out | exact PL1.out | exact PF0.out | exact PF1.out

set_option maxHeartbeats 1000000 in
theorem rread_ok0 {w : World} {h base : Nat} {x : DSt} (r : RD w h base x) (hn : x.check 0 = 0) :
    Calls Try.prog 24 #[.pointer (some ⟨h, 0, none⟩), .int .i64 0] w fun e w' => e = .returned (.tuple #[.string (strOfNums x.f0), .int .i64 0]) ∧ w = w' := by
  have R := Aside0.mk r
  have c0 := r.c0
  clear r
  go_enter Try.func24, Try.ntmps24
  go_wp2_with (go_at_call 33; (with_reducible refine (rcheck_calls R.out 0).mono ?_); rintro e w1 ⟨rfl, rfl⟩; rw [hn])
  go_ret2
  exact ⟨rfl, rfl⟩
set_option maxHeartbeats 1000000 in
theorem rcut_arg0 {w : World} {h base : Nat} {x : DSt} (r : RD w h base x) (hn : x.check 0 = 0) (s : Int) (hs : s < 0 ∨ (x.f0.length : Int) < s) :
    Calls Try.prog 23 #[.pointer (some ⟨h, 0, none⟩), .int .i64 0, .int .i64 s] w fun e w' => e = .returned (.int .i64 1) ∧ w = w' := by
  have R := Aside0.mk r
  have c0 := r.c0
  by_cases h0 : s < 0
  · have b1 : decide (s < 0) = true := decide_eq_true h0
    clear r hs h0
    go_enter Try.func23, Try.ntmps23
    go_wp2_with (go_at_call 33; (with_reducible refine (rcheck_calls R.out 0).mono ?_); rintro e w1 ⟨rfl, rfl⟩; rw [hn])
    go_ret
    exact ⟨rfl, rfl⟩
  · have b1 : decide (s < 0) = false := decide_eq_false h0
    have b2 : decide (((strOfNums x.f0).size : Int) < s) = true := decide_eq_true (by rw [strOf_size]; omega)
    clear r hs h0
    go_enter Try.func23, Try.ntmps23
    go_wp2_with (go_at_call 33; (with_reducible refine (rcheck_calls R.out 0).mono ?_); rintro e w1 ⟨rfl, rfl⟩; rw [hn])
    go_ret
    exact ⟨rfl, rfl⟩
set_option maxHeartbeats 2000000 in
theorem rcut_ok0 {w : World} {h base : Nat} {x : DSt} (r : RD w h base x) (hn : x.check 0 = 0) (m : Nat) (hm : m ≤ x.f0.length) :
    Calls Try.prog 23 #[.pointer (some ⟨h, 0, none⟩), .int .i64 0, .int .i64 (m : Int)] w fun e w' => e = .returned (.int .i64 (x.told 1)) ∧ RPost w w' h base (if x.cost 1 = 1 then { x.pay 1 with f0 := x.f0.take m } else x.pay 1) := by
  obtain ⟨s, hs⟩ : ∃ s : Int, (m : Int) = s := ⟨_, rfl⟩
  have R := Aside0.mk r
  have c0 := r.c0
  have hcl := DSt.cost_le (x := x) (c := 1) (by omega) r.left0
  have b1 : decide (s < 0) = false := decide_eq_false (by omega)
  have b2 : decide (((strOfNums x.f0).size : Int) < s) = false := decide_eq_false (by rw [strOf_size]; omega)
  rw [hs]
  have c20 : (s ≤ (strOfNums x.f0).size) = True := eq_true (by rw [strOf_size]; omega)
  have c21 : ((0 : Int) ≤ s) = True := eq_true (by omega)
  have HE := Aside0.mk (show s.toNat = m by omega)
  have hp1 := DSt.pay_left x 1 (by omega) r.left0 r.left1
  have PL0 := Aside0.mk (show 0 ≤ ({ x.pay 1 with f0 := x.f0.take m } : DSt).left from hp1.1)
  have PL1 := Aside0.mk (show ({ x.pay 1 with f0 := x.f0.take m } : DSt).left < 9223372036854775808 from hp1.2)
  have hnew : (x.f0.take m).length ≤ 4194304 := by have := r.len0; rw [List.length_take]; omega
  have PF0 := Aside0.mk (show ({ x.pay 1 with f0 := x.f0.take m } : DSt).f0.length ≤ 4194304 from hnew)
  have PF1 := Aside0.mk (show ({ x.pay 1 with f0 := x.f0.take m } : DSt).f1.length ≤ 4194304 from by rw [show ({ x.pay 1 with f0 := x.f0.take m } : DSt).f1 = x.f1 from x.pay_f1 _]; exact R.out.len1)
  have SET := Aside0.mk (show (#[.string (strOfNums (x.pay 1).f0), .string (strOfNums (x.pay 1).f1), .int .i64 (x.pay 1).armv, .bool (x.pay 1).off] : Array Value).setIfInBounds 0 (.string ((strOfNums x.f0).extract 0 s.toNat)) = #[.string (strOfNums ({ x.pay 1 with f0 := x.f0.take m } : DSt).f0), .string (strOfNums ({ x.pay 1 with f0 := x.f0.take m } : DSt).f1), .int .i64 ({ x.pay 1 with f0 := x.f0.take m } : DSt).armv, .bool ({ x.pay 1 with f0 := x.f0.take m } : DSt).off] by rw [HE.out, strOf_take]; rfl)
  have hcast : ((1 : Nat) : Int) = 1 := rfl
  by_cases hp : x.cost 1 = 1
  · have ht : x.told 1 = 0 := by unfold DSt.told; rw [if_neg (by omega)]
    have hb : (!decide (x.cost ((1 : Nat) : Int) < ((1 : Nat) : Int))) = true := by rw [hcast]; simp; omega
    have HB := Aside0.mk hb
    rw [ht, if_pos hp]
    clear r hcl hs hm hp ht hb hp1 hnew
    go_enter Try.func23, Try.ntmps23
    go_wp2_with (first
      | (go_at_call 33; (with_reducible refine (rcheck_calls R.out 0).mono ?_); rintro e w1 ⟨rfl, rfl⟩; rw [hn])
      | (go_at_call 34; refine (rpay_calls R.out 1 (by omega)).mono ?_; rintro e w2 ⟨rfl, h1⟩; rw [HB.out]; have P1 := Aside0.mk h1; have cc := h1.rd.c0; rw [DSt.pay_f0] at cc; have cd : w2.drew.cell? ⟨h, 0, none⟩ = some (.string (strOfNums x.f0)) := cc; have cf : w2.frozen? ⟨h, 0, none⟩ = false := h1.rd.fz 0; have cfd : w2.drew.frozen? ⟨h, 0, none⟩ = false := h1.rd.drew.fz 0; clear h1))
    go_region
    all_goals (go_wp2; go_ret; refine ⟨rfl, P1.out.drew.set 0 _ { x.pay 1 with f0 := x.f0.take m } ?_ ?_ ?_ ?_ ?_⟩)
    all_goals first | exact SET.out | exact PL0.out | exact PL1.out | exact PF0.out | exact PF1.out
  · have ht : x.told 1 = 280 := by unfold DSt.told; rw [if_pos (by omega)]
    have hb : (!decide (x.cost ((1 : Nat) : Int) < ((1 : Nat) : Int))) = false := by rw [hcast]; simp; omega
    have HB := Aside0.mk hb
    rw [ht, if_neg hp]
    clear r hcl hs hm hp ht hb hp1 hnew
    go_enter Try.func23, Try.ntmps23
    go_wp2_with (first
      | (go_at_call 33; (with_reducible refine (rcheck_calls R.out 0).mono ?_); rintro e w1 ⟨rfl, rfl⟩; rw [hn])
      | (go_at_call 34; refine (rpay_calls R.out 1 (by omega)).mono ?_; rintro e w2 ⟨rfl, h1⟩; rw [HB.out]; have P1 := Aside0.mk h1; clear h1))
    go_ret
    exact ⟨rfl, P1.out⟩
set_option maxHeartbeats 1000000 in
theorem rspoil_arg0 {w : World} {h base : Nat} {x : DSt} (r : RD w h base x) (s : Int) (hs : s < 0 ∨ (x.f0.length : Int) < s) (b : ByteArray) :
    Calls Try.prog 27 #[.pointer (some ⟨h, 0, none⟩), .int .i64 0, .int .i64 s, .string b] w fun e w' => e = .returned (.int .i64 1) ∧ w = w' := by
  have c0 := r.c0
  by_cases h0 : s < 0
  · have b1 : decide (s < 0) = true := decide_eq_true h0
    clear r hs h0
    go_enter Try.func27, Try.ntmps27
    go_wp2
    go_ret
    exact ⟨rfl, rfl⟩
  · have b1 : decide (s < 0) = false := decide_eq_false h0
    have b2 : decide (((strOfNums x.f0).size : Int) < s) = true := decide_eq_true (by rw [strOf_size]; omega)
    clear r hs h0
    go_enter Try.func27, Try.ntmps27
    go_wp2
    go_ret
    exact ⟨rfl, rfl⟩
set_option maxHeartbeats 2000000 in
theorem rspoil_ok0 {w : World} {h base : Nat} {x : DSt} (r : RD w h base x) (m : Nat) (hm : m ≤ x.f0.length) (ys : List Int) (hy : ys.length ≤ 140737488351232) :
    Calls Try.prog 27 #[.pointer (some ⟨h, 0, none⟩), .int .i64 0, .int .i64 (m : Int), .string (strOfNums ys)] w fun e w' => e = .returned (.int .i64 (if m + ys.length > 4194304 then 2 else 0)) ∧ RPost w w' h base (if m + ys.length > 4194304 then x else { x with f0 := x.f0.take m ++ ys }) := by
  obtain ⟨s, hs⟩ : ∃ s : Int, (m : Int) = s := ⟨_, rfl⟩
  have R := Aside0.mk r
  have c0 := r.c0
  have hx := r.len0
  have b1 : decide (s < 0) = false := decide_eq_false (by omega)
  have b2 : decide (((strOfNums x.f0).size : Int) < s) = false := decide_eq_false (by rw [strOf_size]; omega)
  have hw : wrap64 (s + ((strOfNums ys).size : Int)) = s + ((strOfNums ys).size : Int) := by rw [strOf_size]; unfold wrap64; omega
  rw [hs]
  by_cases hbig : m + ys.length > 4194304
  · have b3 : decide ((4194304 : Int) < s + ((strOfNums ys).size : Int)) = true := decide_eq_true (by rw [strOf_size]; omega)
    rw [if_pos hbig, if_pos hbig]
    clear r hs hm hbig hy hx
    go_enter Try.func27, Try.ntmps27
    go_wp2
    go_ret
    exact ⟨rfl, RPost.refl R.out⟩
  · have b3 : decide ((4194304 : Int) < s + ((strOfNums ys).size : Int)) = false := decide_eq_false (by rw [strOf_size]; omega)
    rw [if_neg hbig, if_neg hbig]
    have c20 : (s ≤ (strOfNums x.f0).size) = True := eq_true (by rw [strOf_size]; omega)
    have c21 : ((0 : Int) ≤ s) = True := eq_true (by omega)
    have HE := Aside0.mk (show s.toNat = m by omega)
    have hnew : (x.f0.take m ++ ys).length ≤ 4194304 := by rw [List.length_append, List.length_take]; omega
    have hcat : (9223372036854775807 < ((strOfNums x.f0).extract 0 s.toNat).size + (strOfNums ys).size) = False := eq_false (by rw [HE.out, strOf_take, strOf_size, strOf_size, List.length_take]; omega)
    have hcat2 : (9223372036854775807 < s.toNat + (strOfNums ys).size) = False := eq_false (by rw [HE.out, strOf_size]; omega)
    have hcat3 : (9223372036854775807 < min s.toNat (strOfNums x.f0).size + (strOfNums ys).size) = False := eq_false (by rw [HE.out, strOf_size, strOf_size]; omega)
    have SET := Aside0.mk (show (#[.string (strOfNums x.f0), .string (strOfNums x.f1), .int .i64 x.armv, .bool x.off] : Array Value).setIfInBounds 0 (.string ((strOfNums x.f0).extract 0 s.toNat ++ strOfNums ys)) = #[.string (strOfNums ({ x with f0 := x.f0.take m ++ ys } : DSt).f0), .string (strOfNums ({ x with f0 := x.f0.take m ++ ys } : DSt).f1), .int .i64 ({ x with f0 := x.f0.take m ++ ys } : DSt).armv, .bool ({ x with f0 := x.f0.take m ++ ys } : DSt).off] by rw [HE.out, strOf_take, strOf_append]; rfl)
    have PF0 := Aside0.mk (show ({ x with f0 := x.f0.take m ++ ys } : DSt).f0.length ≤ 4194304 from hnew)
    have PF1 := Aside0.mk (show ({ x with f0 := x.f0.take m ++ ys } : DSt).f1.length ≤ 4194304 from R.out.len1)
    have cd : w.drew.cell? ⟨h, 0, none⟩ = some (.string (strOfNums x.f0)) := c0
    have cf : w.frozen? ⟨h, 0, none⟩ = false := r.fz 0
    have cfd : w.drew.frozen? ⟨h, 0, none⟩ = false := r.drew.fz 0
    clear r hs hm hbig hy hx hnew
    go_enter Try.func27, Try.ntmps27
    go_wp2
    go_region
    all_goals (go_wp2; go_ret; refine ⟨rfl, (RPost.refl R.out).drew.set 0 _ { x with f0 := x.f0.take m ++ ys } ?_ ?_ ?_ ?_ ?_⟩)
    all_goals first | exact SET.out | exact R.out.left0 | exact R.out.left1 | exact PF0.out | exact PF1.out

set_option maxHeartbeats 1000000 in
theorem rread_ok1 {w : World} {h base : Nat} {x : DSt} (r : RD w h base x) (hn : x.check 1 = 0) :
    Calls Try.prog 24 #[.pointer (some ⟨h, 0, none⟩), .int .i64 1] w fun e w' => e = .returned (.tuple #[.string (strOfNums x.f1), .int .i64 0]) ∧ w = w' := by
  have R := Aside0.mk r
  have c0 := r.c1
  clear r
  go_enter Try.func24, Try.ntmps24
  go_wp2_with (go_at_call 33; (with_reducible refine (rcheck_calls R.out 1).mono ?_); rintro e w1 ⟨rfl, rfl⟩; rw [hn])
  go_ret2
  exact ⟨rfl, rfl⟩
set_option maxHeartbeats 1000000 in
theorem rcut_arg1 {w : World} {h base : Nat} {x : DSt} (r : RD w h base x) (hn : x.check 1 = 0) (s : Int) (hs : s < 0 ∨ (x.f1.length : Int) < s) :
    Calls Try.prog 23 #[.pointer (some ⟨h, 0, none⟩), .int .i64 1, .int .i64 s] w fun e w' => e = .returned (.int .i64 1) ∧ w = w' := by
  have R := Aside0.mk r
  have c0 := r.c1
  by_cases h0 : s < 0
  · have b1 : decide (s < 0) = true := decide_eq_true h0
    clear r hs h0
    go_enter Try.func23, Try.ntmps23
    go_wp2_with (go_at_call 33; (with_reducible refine (rcheck_calls R.out 1).mono ?_); rintro e w1 ⟨rfl, rfl⟩; rw [hn])
    go_ret
    exact ⟨rfl, rfl⟩
  · have b1 : decide (s < 0) = false := decide_eq_false h0
    have b2 : decide (((strOfNums x.f1).size : Int) < s) = true := decide_eq_true (by rw [strOf_size]; omega)
    clear r hs h0
    go_enter Try.func23, Try.ntmps23
    go_wp2_with (go_at_call 33; (with_reducible refine (rcheck_calls R.out 1).mono ?_); rintro e w1 ⟨rfl, rfl⟩; rw [hn])
    go_ret
    exact ⟨rfl, rfl⟩
set_option maxHeartbeats 2000000 in
theorem rcut_ok1 {w : World} {h base : Nat} {x : DSt} (r : RD w h base x) (hn : x.check 1 = 0) (m : Nat) (hm : m ≤ x.f1.length) :
    Calls Try.prog 23 #[.pointer (some ⟨h, 0, none⟩), .int .i64 1, .int .i64 (m : Int)] w fun e w' => e = .returned (.int .i64 (x.told 1)) ∧ RPost w w' h base (if x.cost 1 = 1 then { x.pay 1 with f1 := x.f1.take m } else x.pay 1) := by
  obtain ⟨s, hs⟩ : ∃ s : Int, (m : Int) = s := ⟨_, rfl⟩
  have R := Aside0.mk r
  have c0 := r.c1
  have hcl := DSt.cost_le (x := x) (c := 1) (by omega) r.left0
  have b1 : decide (s < 0) = false := decide_eq_false (by omega)
  have b2 : decide (((strOfNums x.f1).size : Int) < s) = false := decide_eq_false (by rw [strOf_size]; omega)
  rw [hs]
  have c20 : (s ≤ (strOfNums x.f1).size) = True := eq_true (by rw [strOf_size]; omega)
  have c21 : ((0 : Int) ≤ s) = True := eq_true (by omega)
  have HE := Aside0.mk (show s.toNat = m by omega)
  have hp1 := DSt.pay_left x 1 (by omega) r.left0 r.left1
  have PL0 := Aside0.mk (show 0 ≤ ({ x.pay 1 with f1 := x.f1.take m } : DSt).left from hp1.1)
  have PL1 := Aside0.mk (show ({ x.pay 1 with f1 := x.f1.take m } : DSt).left < 9223372036854775808 from hp1.2)
  have hnew : (x.f1.take m).length ≤ 4194304 := by have := r.len1; rw [List.length_take]; omega
  have PF0 := Aside0.mk (show ({ x.pay 1 with f1 := x.f1.take m } : DSt).f0.length ≤ 4194304 from by rw [show ({ x.pay 1 with f1 := x.f1.take m } : DSt).f0 = x.f0 from x.pay_f0 _]; exact R.out.len0)
  have PF1 := Aside0.mk (show ({ x.pay 1 with f1 := x.f1.take m } : DSt).f1.length ≤ 4194304 from hnew)
  have SET := Aside0.mk (show (#[.string (strOfNums (x.pay 1).f0), .string (strOfNums (x.pay 1).f1), .int .i64 (x.pay 1).armv, .bool (x.pay 1).off] : Array Value).setIfInBounds 1 (.string ((strOfNums x.f1).extract 0 s.toNat)) = #[.string (strOfNums ({ x.pay 1 with f1 := x.f1.take m } : DSt).f0), .string (strOfNums ({ x.pay 1 with f1 := x.f1.take m } : DSt).f1), .int .i64 ({ x.pay 1 with f1 := x.f1.take m } : DSt).armv, .bool ({ x.pay 1 with f1 := x.f1.take m } : DSt).off] by rw [HE.out, strOf_take]; rfl)
  have hcast : ((1 : Nat) : Int) = 1 := rfl
  by_cases hp : x.cost 1 = 1
  · have ht : x.told 1 = 0 := by unfold DSt.told; rw [if_neg (by omega)]
    have hb : (!decide (x.cost ((1 : Nat) : Int) < ((1 : Nat) : Int))) = true := by rw [hcast]; simp; omega
    have HB := Aside0.mk hb
    rw [ht, if_pos hp]
    clear r hcl hs hm hp ht hb hp1 hnew
    go_enter Try.func23, Try.ntmps23
    go_wp2_with (first
      | (go_at_call 33; (with_reducible refine (rcheck_calls R.out 1).mono ?_); rintro e w1 ⟨rfl, rfl⟩; rw [hn])
      | (go_at_call 34; refine (rpay_calls R.out 1 (by omega)).mono ?_; rintro e w2 ⟨rfl, h1⟩; rw [HB.out]; have P1 := Aside0.mk h1; have cc := h1.rd.c1; rw [DSt.pay_f1] at cc; have cd : w2.drew.cell? ⟨h, 1, none⟩ = some (.string (strOfNums x.f1)) := cc; have cf : w2.frozen? ⟨h, 1, none⟩ = false := h1.rd.fz 1; have cfd : w2.drew.frozen? ⟨h, 1, none⟩ = false := h1.rd.drew.fz 1; clear h1))
    go_region
    all_goals (go_wp2; go_ret; refine ⟨rfl, P1.out.drew.set 1 _ { x.pay 1 with f1 := x.f1.take m } ?_ ?_ ?_ ?_ ?_⟩)
    all_goals first | exact SET.out | exact PL0.out | exact PL1.out | exact PF0.out | exact PF1.out
  · have ht : x.told 1 = 280 := by unfold DSt.told; rw [if_pos (by omega)]
    have hb : (!decide (x.cost ((1 : Nat) : Int) < ((1 : Nat) : Int))) = false := by rw [hcast]; simp; omega
    have HB := Aside0.mk hb
    rw [ht, if_neg hp]
    clear r hcl hs hm hp ht hb hp1 hnew
    go_enter Try.func23, Try.ntmps23
    go_wp2_with (first
      | (go_at_call 33; (with_reducible refine (rcheck_calls R.out 1).mono ?_); rintro e w1 ⟨rfl, rfl⟩; rw [hn])
      | (go_at_call 34; refine (rpay_calls R.out 1 (by omega)).mono ?_; rintro e w2 ⟨rfl, h1⟩; rw [HB.out]; have P1 := Aside0.mk h1; clear h1))
    go_ret
    exact ⟨rfl, P1.out⟩
set_option maxHeartbeats 1000000 in
theorem rspoil_arg1 {w : World} {h base : Nat} {x : DSt} (r : RD w h base x) (s : Int) (hs : s < 0 ∨ (x.f1.length : Int) < s) (b : ByteArray) :
    Calls Try.prog 27 #[.pointer (some ⟨h, 0, none⟩), .int .i64 1, .int .i64 s, .string b] w fun e w' => e = .returned (.int .i64 1) ∧ w = w' := by
  have c0 := r.c1
  by_cases h0 : s < 0
  · have b1 : decide (s < 0) = true := decide_eq_true h0
    clear r hs h0
    go_enter Try.func27, Try.ntmps27
    go_wp2
    go_ret
    exact ⟨rfl, rfl⟩
  · have b1 : decide (s < 0) = false := decide_eq_false h0
    have b2 : decide (((strOfNums x.f1).size : Int) < s) = true := decide_eq_true (by rw [strOf_size]; omega)
    clear r hs h0
    go_enter Try.func27, Try.ntmps27
    go_wp2
    go_ret
    exact ⟨rfl, rfl⟩
set_option maxHeartbeats 2000000 in
theorem rspoil_ok1 {w : World} {h base : Nat} {x : DSt} (r : RD w h base x) (m : Nat) (hm : m ≤ x.f1.length) (ys : List Int) (hy : ys.length ≤ 140737488351232) :
    Calls Try.prog 27 #[.pointer (some ⟨h, 0, none⟩), .int .i64 1, .int .i64 (m : Int), .string (strOfNums ys)] w fun e w' => e = .returned (.int .i64 (if m + ys.length > 4194304 then 2 else 0)) ∧ RPost w w' h base (if m + ys.length > 4194304 then x else { x with f1 := x.f1.take m ++ ys }) := by
  obtain ⟨s, hs⟩ : ∃ s : Int, (m : Int) = s := ⟨_, rfl⟩
  have R := Aside0.mk r
  have c0 := r.c1
  have hx := r.len1
  have b1 : decide (s < 0) = false := decide_eq_false (by omega)
  have b2 : decide (((strOfNums x.f1).size : Int) < s) = false := decide_eq_false (by rw [strOf_size]; omega)
  have hw : wrap64 (s + ((strOfNums ys).size : Int)) = s + ((strOfNums ys).size : Int) := by rw [strOf_size]; unfold wrap64; omega
  rw [hs]
  by_cases hbig : m + ys.length > 4194304
  · have b3 : decide ((4194304 : Int) < s + ((strOfNums ys).size : Int)) = true := decide_eq_true (by rw [strOf_size]; omega)
    rw [if_pos hbig, if_pos hbig]
    clear r hs hm hbig hy hx
    go_enter Try.func27, Try.ntmps27
    go_wp2
    go_ret
    exact ⟨rfl, RPost.refl R.out⟩
  · have b3 : decide ((4194304 : Int) < s + ((strOfNums ys).size : Int)) = false := decide_eq_false (by rw [strOf_size]; omega)
    rw [if_neg hbig, if_neg hbig]
    have c20 : (s ≤ (strOfNums x.f1).size) = True := eq_true (by rw [strOf_size]; omega)
    have c21 : ((0 : Int) ≤ s) = True := eq_true (by omega)
    have HE := Aside0.mk (show s.toNat = m by omega)
    have hnew : (x.f1.take m ++ ys).length ≤ 4194304 := by rw [List.length_append, List.length_take]; omega
    have hcat : (9223372036854775807 < ((strOfNums x.f1).extract 0 s.toNat).size + (strOfNums ys).size) = False := eq_false (by rw [HE.out, strOf_take, strOf_size, strOf_size, List.length_take]; omega)
    have hcat2 : (9223372036854775807 < s.toNat + (strOfNums ys).size) = False := eq_false (by rw [HE.out, strOf_size]; omega)
    have hcat3 : (9223372036854775807 < min s.toNat (strOfNums x.f1).size + (strOfNums ys).size) = False := eq_false (by rw [HE.out, strOf_size, strOf_size]; omega)
    have SET := Aside0.mk (show (#[.string (strOfNums x.f0), .string (strOfNums x.f1), .int .i64 x.armv, .bool x.off] : Array Value).setIfInBounds 1 (.string ((strOfNums x.f1).extract 0 s.toNat ++ strOfNums ys)) = #[.string (strOfNums ({ x with f1 := x.f1.take m ++ ys } : DSt).f0), .string (strOfNums ({ x with f1 := x.f1.take m ++ ys } : DSt).f1), .int .i64 ({ x with f1 := x.f1.take m ++ ys } : DSt).armv, .bool ({ x with f1 := x.f1.take m ++ ys } : DSt).off] by rw [HE.out, strOf_take, strOf_append]; rfl)
    have PF0 := Aside0.mk (show ({ x with f1 := x.f1.take m ++ ys } : DSt).f0.length ≤ 4194304 from R.out.len0)
    have PF1 := Aside0.mk (show ({ x with f1 := x.f1.take m ++ ys } : DSt).f1.length ≤ 4194304 from hnew)
    have cd : w.drew.cell? ⟨h, 1, none⟩ = some (.string (strOfNums x.f1)) := c0
    have cf : w.frozen? ⟨h, 1, none⟩ = false := r.fz 1
    have cfd : w.drew.frozen? ⟨h, 1, none⟩ = false := r.drew.fz 1
    clear r hs hm hbig hy hx hnew
    go_enter Try.func27, Try.ntmps27
    go_wp2
    go_region
    all_goals (go_wp2; go_ret; refine ⟨rfl, (RPost.refl R.out).drew.set 1 _ { x with f1 := x.f1.take m ++ ys } ?_ ?_ ?_ ?_ ?_⟩)
    all_goals first | exact SET.out | exact R.out.left0 | exact R.out.left1 | exact PF0.out | exact PF1.out

set_option maxHeartbeats 1000000 in
theorem rspoil_num (h : Nat) (n : Int) (hn : n < 0 ∨ 2 ≤ n) (s : Int) (b : ByteArray) (w : World) :
    Calls Try.prog 27 #[.pointer (some ⟨h, 0, none⟩), .int .i64 n, .int .i64 s, .string b] w fun e w' => e = .returned (.int .i64 1) ∧ w = w' := by
  have b1 : (n != 0) = true := bne_iff_ne.mpr (by omega)
  have b2 : (n != 1) = true := bne_iff_ne.mpr (by omega)
  clear hn
  go_enter Try.func27, Try.ntmps27
  go_wp2
  go_ret
  exact ⟨rfl, rfl⟩
end Go.Proofs.Ytijbcfnkeahdoaa.Disk
