/- The walk of a disk's pay, for each of the two closures that it defers. -/
import Derived.Test.YtijbcfnkeahdoaaClos
set_option linter.unusedVariables false
set_option linter.unusedSimpArgs false
namespace Go.Proofs.Ytijbcfnkeahdoaa.Disk
open Go Go.RowKit Go.Proofs.YtijbcfnkeahdoaaW.PrintWords

def DSt.cost (x : DSt) (c : Int) : Int := if x.armed = true then min c x.left else c
/-- what a disk holds behind a payment -/
def DSt.pay (x : DSt) (c : Int) : DSt := if x.armed = true then (if min c x.left < c then { x with left := x.left - min c x.left, armed := false, off := true } else { x with left := x.left - min c x.left }) else x
def DSt.told (x : DSt) (c : Int) : Int := if x.cost c < c then 280 else 0
theorem DSt.pay_f0 (x : DSt) (c : Int) : (x.pay c).f0 = x.f0 := by unfold DSt.pay; split <;> (try split) <;> rfl
theorem DSt.pay_f1 (x : DSt) (c : Int) : (x.pay c).f1 = x.f1 := by unfold DSt.pay; split <;> (try split) <;> rfl

/-- what stands behind a payment: the disk's fields are others, nothing else is -/
structure Paid (w w1 : World) (g base : Nat) (v0 v1 : Value) (y : DSt) : Prop where
  dsk : Dsk w1 g base v0 v1 y
  rest : ∀ k, k ≠ g → w1.heap[k]? = w.heap[k]?
  size : w1.heap.size = w.heap.size
  below : Below base w w1
  only : Only w w1 g
theorem Paid.refl {w : World} {g base : Nat} {v0 v1 : Value} {x : DSt} (h : Dsk w g base v0 v1 x) : Paid w w g base v0 v1 x := ⟨h, fun _ _ => rfl, rfl, Below.refl _ _, Only.refl _ _⟩
theorem Paid.set {w w1 : World} {g base : Nat} {v0 v1 : Value} {x : DSt} (h : Paid w w1 g base v0 v1 x) (i : Nat) (u : Value) (y : DSt) (hc : (#[v0, v1, .bool x.armed, .int .i64 x.left, .bool x.off] : Array Value).setIfInBounds i u = #[v0, v1, .bool y.armed, .int .i64 y.left, .bool y.off]) (h0 : y.f0 = x.f0) (h1 : y.f1 = x.f1) (hl0 : 0 ≤ y.left) (hl1 : y.left < 9223372036854775808) :
    Paid w (w1.setCell ⟨g, i, none⟩ u) g base v0 v1 y :=
  ⟨h.dsk.set i u y hc h0 h1 hl0 hl1, fun k hk => (Below.heap_setCell w1 ⟨g, i, none⟩ u k hk).trans (h.rest k hk), by simpa using h.size, h.below.setCell h.dsk.low _, h.only.set i u⟩
theorem Paid.box {w w1 : World} {g base p3 p4 p5 T : Nat} {v0 v1 u : Value} {x y : DSt} {n : Int} (h : Paid w w1 g base v0 v1 y) (hx : Dsk w g base v0 v1 x) (hb : Box w g p3 p4 p5 n u T) (hT : T ≠ 47) : Box w1 g p3 p4 p5 n u T :=
  ⟨(h.rest p3 (fun e => blk_ne hb.b3 hx.blk (by decide) e)).trans hb.b3, (h.rest p4 (fun e => blk_ne hb.b4 hx.blk (by decide) e)).trans hb.b4, (h.rest p5 (fun e => blk_ne hb.b5 hx.blk hT e)).trans hb.b5⟩

set_option maxHeartbeats 2000000 in
theorem pay30_calls {Post : World → Prop} {w : World} {g base p3 p4 p5 : Nat} {v0 v1 : Value} {x : DSt} (h : Dsk w g base v0 v1 x) (c : Int) (hc0 : 0 ≤ c) (hc1 : c < 9223372036854775808)
    (hD : ∀ w1, Paid w w1 g base v0 v1 (x.pay c) → CallsD Try.prog 30 #[.int .i64 (x.cost c), .pointer (some ⟨p3, 0, none⟩), .pointer (some ⟨p4, 0, none⟩), .pointer (some ⟨p5, 0, none⟩)] .returning w1 fun e u w' => u = .returning ∧ e = .returned (.tuple #[]) ∧ Post w') :
    Calls Try.prog 29 #[.pointer (some ⟨g, 0, none⟩), .int .i64 c, .func (.func 30) #[] #[.pointer (some ⟨p3, 0, none⟩), .pointer (some ⟨p4, 0, none⟩), .pointer (some ⟨p5, 0, none⟩)]] w fun e w' => e = .returned (.int .i64 (x.told c)) ∧ Post w' := by
  have c2 := h.c2
  have c3 := h.c3
  have c4 := h.c4
  have f2 := h.fz 2
  have f3 := h.fz 3
  have f4 := h.fz 4
  have H := Aside0.mk h
  have HD := Aside0.mk hD
  cases ha : x.armed with
  | false =>
    rw [ha] at c2
    have e1 : x.cost c = c := by unfold DSt.cost; rw [ha]; rfl
    have e2 : x.pay c = x := by unfold DSt.pay; rw [ha]; rfl
    have e3 : x.told c = 0 := by unfold DSt.told; rw [e1, if_neg (by omega)]
    rw [e3]
    have hD2 := HD.out w (by rw [e2]; exact Paid.refl H.out)
    rw [e1] at hD2
    have HD2 := Aside0.mk hD2
    clear h hD ha e1 e2 e3 hD2 hc0 hc1
    go_enter_defers Try.func29, Try.ntmps29
    go_wp2
    refine leaves_cons (f := 30) (args := #[.int .i64 c, .pointer (some ⟨p3, 0, none⟩), .pointer (some ⟨p4, 0, none⟩), .pointer (some ⟨p5, 0, none⟩)]) (by simp) (by simp [go_sem]) ?_
    refine HD2.out.mono ?_
    rintro e u' w'' ⟨rfl, rfl, hP⟩
    exact ⟨_, results_tmp rfl _ _ _, rfl, hP⟩
  | true =>
    rw [ha] at c2
    obtain ⟨m, hm⟩ : ∃ m, min c x.left = m := ⟨_, rfl⟩
    have hl0 := H.out.left0
    have hl1 := H.out.left1
    have hmn : (if x.left < c then x.left else c) = m := by split <;> omega
    have e1 : x.cost c = m := by unfold DSt.cost; rw [ha, if_pos rfl, hm]
    have hw : wrap64 (x.left - m) = x.left - m := by unfold wrap64; omega
    by_cases hlt : m < c
    · have b1 : decide (m < c) = true := decide_eq_true hlt
      have e2 : x.pay c = { x with left := x.left - m, armed := false, off := true } := by unfold DSt.pay; rw [ha, if_pos rfl, hm, if_pos hlt]
      have e3 : x.told c = 280 := by unfold DSt.told; rw [e1, if_pos hlt]
      rw [e3]
      have P1 := (Paid.refl H.out).set 3 (.int .i64 (wrap64 (x.left - m))) { x with left := x.left - m } (by rw [hw]; rfl) rfl rfl (by show 0 ≤ x.left - m; omega) (by show x.left - m < _; omega)
      have P2 := P1.set 2 (.bool false) { x with left := x.left - m, armed := false } rfl rfl rfl (by show 0 ≤ x.left - m; omega) (by show x.left - m < _; omega)
      have P3 := P2.set 4 (.bool true) { x with left := x.left - m, armed := false, off := true } rfl rfl rfl (by show 0 ≤ x.left - m; omega) (by show x.left - m < _; omega)
      have g2 := P1.dsk.fz 2
      have g4 := P2.dsk.fz 4
      have d2 := P1.dsk.c2
      have d4 := P2.dsk.c4
      have hD2 := HD.out _ (by rw [e2]; exact P3)
      rw [e1] at hD2
      have HD2 := Aside0.mk hD2
      clear h hD ha e1 e2 e3 hD2 hc0 hc1 hlt hm hl0 hl1 hw P1 P2 P3
      go_enter_defers Try.func29, Try.ntmps29
      go_wp2
      refine leaves_cons (f := 30) (args := #[.int .i64 m, .pointer (some ⟨p3, 0, none⟩), .pointer (some ⟨p4, 0, none⟩), .pointer (some ⟨p5, 0, none⟩)]) (by simp) (by simp [go_sem]) ?_
      refine HD2.out.mono ?_
      rintro e u' w'' ⟨rfl, rfl, hP⟩
      exact ⟨_, results_tmp rfl _ _ _, rfl, hP⟩
    · have b1 : decide (m < c) = false := decide_eq_false hlt
      have e2 : x.pay c = { x with left := x.left - m } := by unfold DSt.pay; rw [ha, if_pos rfl, hm, if_neg hlt]
      have e3 : x.told c = 0 := by unfold DSt.told; rw [e1, if_neg hlt]
      rw [e3]
      have P1 := (Paid.refl H.out).set 3 (.int .i64 (wrap64 (x.left - m))) { x with left := x.left - m } (by rw [hw]; rfl) rfl rfl (by show 0 ≤ x.left - m; omega) (by show x.left - m < _; omega)
      have hD2 := HD.out _ (by rw [e2]; exact P1)
      rw [e1] at hD2
      have HD2 := Aside0.mk hD2
      clear h hD ha e1 e2 e3 hD2 hc0 hc1 hlt hm hl0 hl1 hw P1
      go_enter_defers Try.func29, Try.ntmps29
      go_wp2
      refine leaves_cons (f := 30) (args := #[.int .i64 m, .pointer (some ⟨p3, 0, none⟩), .pointer (some ⟨p4, 0, none⟩), .pointer (some ⟨p5, 0, none⟩)]) (by simp) (by simp [go_sem]) ?_
      refine HD2.out.mono ?_
      rintro e u' w'' ⟨rfl, rfl, hP⟩
      exact ⟨_, results_tmp rfl _ _ _, rfl, hP⟩

set_option maxHeartbeats 2000000 in
theorem pay32_calls {Post : World → Prop} {w : World} {g base p3 p4 p5 : Nat} {v0 v1 : Value} {x : DSt} (h : Dsk w g base v0 v1 x) (c : Int) (hc0 : 0 ≤ c) (hc1 : c < 9223372036854775808)
    (hD : ∀ w1, Paid w w1 g base v0 v1 (x.pay c) → CallsD Try.prog 32 #[.int .i64 (x.cost c), .pointer (some ⟨p3, 0, none⟩), .pointer (some ⟨p4, 0, none⟩), .pointer (some ⟨p5, 0, none⟩)] .returning w1 fun e u w' => u = .returning ∧ e = .returned (.tuple #[]) ∧ Post w') :
    Calls Try.prog 29 #[.pointer (some ⟨g, 0, none⟩), .int .i64 c, .func (.func 32) #[] #[.pointer (some ⟨p3, 0, none⟩), .pointer (some ⟨p4, 0, none⟩), .pointer (some ⟨p5, 0, none⟩)]] w fun e w' => e = .returned (.int .i64 (x.told c)) ∧ Post w' := by
  have c2 := h.c2
  have c3 := h.c3
  have c4 := h.c4
  have f2 := h.fz 2
  have f3 := h.fz 3
  have f4 := h.fz 4
  have H := Aside0.mk h
  have HD := Aside0.mk hD
  cases ha : x.armed with
  | false =>
    rw [ha] at c2
    have e1 : x.cost c = c := by unfold DSt.cost; rw [ha]; rfl
    have e2 : x.pay c = x := by unfold DSt.pay; rw [ha]; rfl
    have e3 : x.told c = 0 := by unfold DSt.told; rw [e1, if_neg (by omega)]
    rw [e3]
    have hD2 := HD.out w (by rw [e2]; exact Paid.refl H.out)
    rw [e1] at hD2
    have HD2 := Aside0.mk hD2
    clear h hD ha e1 e2 e3 hD2 hc0 hc1
    go_enter_defers Try.func29, Try.ntmps29
    go_wp2
    refine leaves_cons (f := 32) (args := #[.int .i64 c, .pointer (some ⟨p3, 0, none⟩), .pointer (some ⟨p4, 0, none⟩), .pointer (some ⟨p5, 0, none⟩)]) (by simp) (by simp [go_sem]) ?_
    refine HD2.out.mono ?_
    rintro e u' w'' ⟨rfl, rfl, hP⟩
    exact ⟨_, results_tmp rfl _ _ _, rfl, hP⟩
  | true =>
    rw [ha] at c2
    obtain ⟨m, hm⟩ : ∃ m, min c x.left = m := ⟨_, rfl⟩
    have hl0 := H.out.left0
    have hl1 := H.out.left1
    have hmn : (if x.left < c then x.left else c) = m := by split <;> omega
    have e1 : x.cost c = m := by unfold DSt.cost; rw [ha, if_pos rfl, hm]
    have hw : wrap64 (x.left - m) = x.left - m := by unfold wrap64; omega
    by_cases hlt : m < c
    · have b1 : decide (m < c) = true := decide_eq_true hlt
      have e2 : x.pay c = { x with left := x.left - m, armed := false, off := true } := by unfold DSt.pay; rw [ha, if_pos rfl, hm, if_pos hlt]
      have e3 : x.told c = 280 := by unfold DSt.told; rw [e1, if_pos hlt]
      rw [e3]
      have P1 := (Paid.refl H.out).set 3 (.int .i64 (wrap64 (x.left - m))) { x with left := x.left - m } (by rw [hw]; rfl) rfl rfl (by show 0 ≤ x.left - m; omega) (by show x.left - m < _; omega)
      have P2 := P1.set 2 (.bool false) { x with left := x.left - m, armed := false } rfl rfl rfl (by show 0 ≤ x.left - m; omega) (by show x.left - m < _; omega)
      have P3 := P2.set 4 (.bool true) { x with left := x.left - m, armed := false, off := true } rfl rfl rfl (by show 0 ≤ x.left - m; omega) (by show x.left - m < _; omega)
      have g2 := P1.dsk.fz 2
      have g4 := P2.dsk.fz 4
      have d2 := P1.dsk.c2
      have d4 := P2.dsk.c4
      have hD2 := HD.out _ (by rw [e2]; exact P3)
      rw [e1] at hD2
      have HD2 := Aside0.mk hD2
      clear h hD ha e1 e2 e3 hD2 hc0 hc1 hlt hm hl0 hl1 hw P1 P2 P3
      go_enter_defers Try.func29, Try.ntmps29
      go_wp2
      refine leaves_cons (f := 32) (args := #[.int .i64 m, .pointer (some ⟨p3, 0, none⟩), .pointer (some ⟨p4, 0, none⟩), .pointer (some ⟨p5, 0, none⟩)]) (by simp) (by simp [go_sem]) ?_
      refine HD2.out.mono ?_
      rintro e u' w'' ⟨rfl, rfl, hP⟩
      exact ⟨_, results_tmp rfl _ _ _, rfl, hP⟩
    · have b1 : decide (m < c) = false := decide_eq_false hlt
      have e2 : x.pay c = { x with left := x.left - m } := by unfold DSt.pay; rw [ha, if_pos rfl, hm, if_neg hlt]
      have e3 : x.told c = 0 := by unfold DSt.told; rw [e1, if_neg hlt]
      rw [e3]
      have P1 := (Paid.refl H.out).set 3 (.int .i64 (wrap64 (x.left - m))) { x with left := x.left - m } (by rw [hw]; rfl) rfl rfl (by show 0 ≤ x.left - m; omega) (by show x.left - m < _; omega)
      have hD2 := HD.out _ (by rw [e2]; exact P1)
      rw [e1] at hD2
      have HD2 := Aside0.mk hD2
      clear h hD ha e1 e2 e3 hD2 hc0 hc1 hlt hm hl0 hl1 hw P1
      go_enter_defers Try.func29, Try.ntmps29
      go_wp2
      refine leaves_cons (f := 32) (args := #[.int .i64 m, .pointer (some ⟨p3, 0, none⟩), .pointer (some ⟨p4, 0, none⟩), .pointer (some ⟨p5, 0, none⟩)]) (by simp) (by simp [go_sem]) ?_
      refine HD2.out.mono ?_
      rintro e u' w'' ⟨rfl, rfl, hP⟩
      exact ⟨_, results_tmp rfl _ _ _, rfl, hP⟩
end Go.Proofs.Ytijbcfnkeahdoaa.Disk
