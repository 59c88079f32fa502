/- The walks of a disk's Cut and Clear. -/
import Derived.Test.YtijbcfnkeahdoaaWrite
set_option linter.unusedVariables false
set_option linter.unusedSimpArgs false
namespace Go.Proofs.Ytijbcfnkeahdoaa.Disk
open Go Go.RowKit Go.Proofs.YtijbcfnkeahdoaaW.PrintWords

set_option maxHeartbeats 2000000 in
theorem cut_bad {w : World} {g base : Nat} {v0 v1 : Value} {x : DSt} (h : Dsk w g base v0 v1 x) (n s : Int) (hn : x.check n ≠ 0) :
    Calls Try.prog 19 #[.pointer (some ⟨g, 0, none⟩), .int .i64 n, .int .i64 s] w fun e w' => e = .returned (.int .i64 (x.check n)) ∧ Below w.heap.size w w' := by
  have b1 : (x.check n != 0) = true := bne_iff_ne.mpr hn
  have BB := Aside0.mk (boxes_below w (.cells #[.pointer (some ⟨g, 0, none⟩)] 25) (.cells #[.int .i64 n] 3) (.cells #[.int .i64 s] 3))
  have H := Aside0.mk (h.below BB.out)
  clear h hn
  go_enter Try.func19, Try.ntmps19
  go_wp2_with (go_at_call 28; (with_reducible refine (check_calls H.out n).mono ?_); rintro e w1 ⟨rfl, rfl⟩)
  go_ret
  exact ⟨rfl, BB.out⟩

set_option maxHeartbeats 2000000 in
theorem cut_arg0 {w : World} {g base : Nat} {v0 v1 : Value} {x : DSt} (h : Dsk w g base v0 v1 x) (hn : x.check 0 = 0) (s : Int) (hs : s < 0 ∨ (x.f0.length : Int) < s) :
    Calls Try.prog 19 #[.pointer (some ⟨g, 0, none⟩), .int .i64 0, .int .i64 s] w fun e w' => e = .returned (.int .i64 1) ∧ Below w.heap.size w w' := by
  have B := Aside0.mk (boxes w g 0 (.int .i64 s) 3)
  have BB := Aside0.mk (boxes_below w (.cells #[.pointer (some ⟨g, 0, none⟩)] 25) (.cells #[.int .i64 0] 3) (.cells #[.int .i64 s] 3))
  have H := Aside0.mk (h.below BB.out)
  obtain ⟨A0, c0, hv0⟩ := h.r0.slice
  subst hv0
  by_cases h0 : s < 0
  · have b1 : decide (s < 0) = true := decide_eq_true h0
    clear h hs h0
    go_enter Try.func19, Try.ntmps19
    go_wp2_with (go_at_call 28; (with_reducible refine (check_calls H.out 0).mono ?_); rintro e w1 ⟨rfl, rfl⟩; rw [hn]; obtain ⟨W, hW⟩ : ∃ W, (((w.alloc (.cells #[.pointer (some ⟨g, 0, none⟩)] 25)).alloc (.cells #[.int .i64 0] 3)).alloc (.cells #[.int .i64 s] 3)) = W := ⟨_, rfl⟩; rw [hW] at H B BB ⊢; clear hW; have d3 : W.cell? ⟨w.heap.size, 0, none⟩ = some (.pointer (some ⟨g, 0, none⟩)) := (blk_cell B.out.b3 0).trans rfl; have d4 : W.cell? ⟨w.heap.size + 1, 0, none⟩ = some (.int .i64 0) := (blk_cell B.out.b4 0).trans rfl; have d5 : W.cell? ⟨w.heap.size + 1 + 1, 0, none⟩ = some (.int .i64 s) := (blk_cell B.out.b5 0).trans rfl; have dg := H.out.c0; have e3 : W.drew.cell? ⟨w.heap.size, 0, none⟩ = some (.pointer (some ⟨g, 0, none⟩)) := d3; have e4 : W.drew.cell? ⟨w.heap.size + 1, 0, none⟩ = some (.int .i64 0) := d4; have e5 : W.drew.cell? ⟨w.heap.size + 1 + 1, 0, none⟩ = some (.int .i64 s) := d5; have eg : W.drew.cell? ⟨g, 0, none⟩ = _ := dg)
    go_region
    all_goals (go_wp2; go_ret; exact ⟨rfl, BB.out.drew⟩)
  · have b1 : decide (s < 0) = false := decide_eq_false h0
    have b2 : decide ((x.f0.length : Int) < s) = true := decide_eq_true (by omega)
    clear h hs h0
    go_enter Try.func19, Try.ntmps19
    go_wp2_with (go_at_call 28; (with_reducible refine (check_calls H.out 0).mono ?_); rintro e w1 ⟨rfl, rfl⟩; rw [hn]; obtain ⟨W, hW⟩ : ∃ W, (((w.alloc (.cells #[.pointer (some ⟨g, 0, none⟩)] 25)).alloc (.cells #[.int .i64 0] 3)).alloc (.cells #[.int .i64 s] 3)) = W := ⟨_, rfl⟩; rw [hW] at H B BB ⊢; clear hW; have d3 : W.cell? ⟨w.heap.size, 0, none⟩ = some (.pointer (some ⟨g, 0, none⟩)) := (blk_cell B.out.b3 0).trans rfl; have d4 : W.cell? ⟨w.heap.size + 1, 0, none⟩ = some (.int .i64 0) := (blk_cell B.out.b4 0).trans rfl; have d5 : W.cell? ⟨w.heap.size + 1 + 1, 0, none⟩ = some (.int .i64 s) := (blk_cell B.out.b5 0).trans rfl; have dg := H.out.c0; have e3 : W.drew.cell? ⟨w.heap.size, 0, none⟩ = some (.pointer (some ⟨g, 0, none⟩)) := d3; have e4 : W.drew.cell? ⟨w.heap.size + 1, 0, none⟩ = some (.int .i64 0) := d4; have e5 : W.drew.cell? ⟨w.heap.size + 1 + 1, 0, none⟩ = some (.int .i64 s) := d5; have eg : W.drew.cell? ⟨g, 0, none⟩ = _ := dg)
    go_region
    all_goals (go_wp2; go_ret; exact ⟨rfl, BB.out.drew⟩)

set_option maxHeartbeats 2000000 in
theorem cut_ok0 {w : World} {g base : Nat} {v0 v1 : Value} {x : DSt} (h : Dsk w g base v0 v1 x) (hn : x.check 0 = 0) (m : Nat) (hm : m ≤ x.f0.length) :
    Calls Try.prog 19 #[.pointer (some ⟨g, 0, none⟩), .int .i64 0, .int .i64 (m : Int)] w fun e w' => e = .returned (.int .i64 (x.told 1)) ∧ ∃ v0' v1', Dsk w' g base v0' v1' (if x.cost 1 = 1 then { x.pay 1 with f0 := x.f0.take m } else x.pay 1) ∧ Below base w w' ∧ Only w w' g := by
  obtain ⟨s, hs⟩ : ∃ s : Int, (m : Int) = s := ⟨_, rfl⟩
  have hmf : ∀ (fn : Fn) (first cap : Array Value) (w : World), (Instr.makeFunc fn first cap).run Try.prog w = .ok (.func fn first cap) w := fun _ _ _ _ => rfl
  have B := Aside0.mk (boxes w g 0 (.int .i64 s) 3)
  have BB := Aside0.mk (boxes_below w (.cells #[.pointer (some ⟨g, 0, none⟩)] 25) (.cells #[.int .i64 0] 3) (.cells #[.int .i64 s] 3))
  have H := Aside0.mk (h.below BB.out)
  have HS := Aside0.mk h.size
  have HM := Aside0.mk hm
  have HE := Aside0.mk hs
  obtain ⟨A0, c0, hv0⟩ := h.r0.slice
  subst hv0
  have b1 : decide (s < 0) = false := decide_eq_false (by omega)
  have b2 : decide ((x.f0.length : Int) < s) = false := decide_eq_false (by omega)
  have hcl := DSt.cost_le (x := x) (c := 1) (by omega) h.left0
  have HCL := Aside0.mk hcl
  rw [hs]
  obtain ⟨y, hy⟩ : ∃ y, (if x.cost 1 = 1 then { x.pay 1 with f0 := x.f0.take m } else x.pay 1) = y := ⟨_, rfl⟩
  rw [hy]
  have HYY := Aside0.mk hy
  clear h hm hcl hs hy
  go_enter Try.func19, Try.ntmps19
  go_wp2_with (go_at_call 28; (with_reducible refine (check_calls H.out 0).mono ?_); rintro e w1 ⟨rfl, rfl⟩; rw [hn]; obtain ⟨W, hW⟩ : ∃ W, (((w.alloc (.cells #[.pointer (some ⟨g, 0, none⟩)] 25)).alloc (.cells #[.int .i64 0] 3)).alloc (.cells #[.int .i64 s] 3)) = W := ⟨_, rfl⟩; rw [hW] at H B BB ⊢; clear hW; have d3 : W.cell? ⟨w.heap.size, 0, none⟩ = some (.pointer (some ⟨g, 0, none⟩)) := (blk_cell B.out.b3 0).trans rfl; have d4 : W.cell? ⟨w.heap.size + 1, 0, none⟩ = some (.int .i64 0) := (blk_cell B.out.b4 0).trans rfl; have d5 : W.cell? ⟨w.heap.size + 1 + 1, 0, none⟩ = some (.int .i64 s) := (blk_cell B.out.b5 0).trans rfl; have dg := H.out.c0; have e3 : W.drew.cell? ⟨w.heap.size, 0, none⟩ = some (.pointer (some ⟨g, 0, none⟩)) := d3; have e4 : W.drew.cell? ⟨w.heap.size + 1, 0, none⟩ = some (.int .i64 0) := d4; have e5 : W.drew.cell? ⟨w.heap.size + 1 + 1, 0, none⟩ = some (.int .i64 s) := d5; have eg : W.drew.cell? ⟨g, 0, none⟩ = _ := dg)
  go_region
  go_wp2_with (go_at_call 29; (with_reducible refine (pay32_calls (Post := fun w' => ∃ v0' v1', Dsk w' g base v0' v1' y ∧ Below base W.drew w' ∧ Only W.drew w' g) (H.out.below (Below.refl _ _).drew) 1 (by omega) (by omega) (p3 := w.heap.size) (p4 := w.heap.size + 1) (p5 := w.heap.size + 1 + 1) ?hD).mono ?_); (case hD => intro w1 hp; have hd := H.out.below (Below.refl _ _).drew; have hbx : Box W.drew g w.heap.size (w.heap.size + 1) (w.heap.size + 1 + 1) 0 (.int .i64 (m : Int)) 3 := ⟨B.out.b3, B.out.b4, by rw [HE.out]; exact B.out.b5⟩; have hf := x.pay_f0 1; rw [← HYY.out]; by_cases h1c : x.cost 1 = 1; (rw [if_pos h1c, h1c]; refine (cclos0 hp.dsk m (by rw [hf]; exact HM.out) (hp.box hd hbx (by decide))).mono ?_; rintro e u w' ⟨hu, he, v, h1, h2, h3⟩; rw [hf] at h1; exact ⟨hu, he, _, _, h1, hp.below.trans h2, hp.only.trans h3⟩); (rw [if_neg h1c]; refine (cclos_no _ _ _ _ h1c _).mono ?_; rintro e u w' ⟨hu, he, hw⟩; subst hw; exact ⟨hu, he, _, _, hp.dsk, hp.below, hp.only⟩)); rintro e w2 ⟨rfl, h1⟩; have P1 := Aside0.mk h1; clear h1)
  go_ret
  obtain ⟨v0', v1', h1, h2, h3⟩ := P1.out
  exact ⟨rfl, v0', v1', h1, ((BB.out.mono HS.out).drew).trans h2, (Only.of_below BB.out.drew g).trans h3⟩

set_option maxHeartbeats 2000000 in
theorem cut_arg1 {w : World} {g base : Nat} {v0 v1 : Value} {x : DSt} (h : Dsk w g base v0 v1 x) (hn : x.check 1 = 0) (s : Int) (hs : s < 0 ∨ (x.f1.length : Int) < s) :
    Calls Try.prog 19 #[.pointer (some ⟨g, 0, none⟩), .int .i64 1, .int .i64 s] w fun e w' => e = .returned (.int .i64 1) ∧ Below w.heap.size w w' := by
  have B := Aside0.mk (boxes w g 1 (.int .i64 s) 3)
  have BB := Aside0.mk (boxes_below w (.cells #[.pointer (some ⟨g, 0, none⟩)] 25) (.cells #[.int .i64 1] 3) (.cells #[.int .i64 s] 3))
  have H := Aside0.mk (h.below BB.out)
  obtain ⟨A1, c1, hv1⟩ := h.r1.slice
  subst hv1
  by_cases h0 : s < 0
  · have b1 : decide (s < 0) = true := decide_eq_true h0
    clear h hs h0
    go_enter Try.func19, Try.ntmps19
    go_wp2_with (go_at_call 28; (with_reducible refine (check_calls H.out 1).mono ?_); rintro e w1 ⟨rfl, rfl⟩; rw [hn]; obtain ⟨W, hW⟩ : ∃ W, (((w.alloc (.cells #[.pointer (some ⟨g, 0, none⟩)] 25)).alloc (.cells #[.int .i64 1] 3)).alloc (.cells #[.int .i64 s] 3)) = W := ⟨_, rfl⟩; rw [hW] at H B BB ⊢; clear hW; have d3 : W.cell? ⟨w.heap.size, 0, none⟩ = some (.pointer (some ⟨g, 0, none⟩)) := (blk_cell B.out.b3 0).trans rfl; have d4 : W.cell? ⟨w.heap.size + 1, 0, none⟩ = some (.int .i64 1) := (blk_cell B.out.b4 0).trans rfl; have d5 : W.cell? ⟨w.heap.size + 1 + 1, 0, none⟩ = some (.int .i64 s) := (blk_cell B.out.b5 0).trans rfl; have dg := H.out.c1; have e3 : W.drew.cell? ⟨w.heap.size, 0, none⟩ = some (.pointer (some ⟨g, 0, none⟩)) := d3; have e4 : W.drew.cell? ⟨w.heap.size + 1, 0, none⟩ = some (.int .i64 1) := d4; have e5 : W.drew.cell? ⟨w.heap.size + 1 + 1, 0, none⟩ = some (.int .i64 s) := d5; have eg : W.drew.cell? ⟨g, 1, none⟩ = _ := dg)
    go_region
    all_goals (go_wp2; go_ret; exact ⟨rfl, BB.out.drew⟩)
  · have b1 : decide (s < 0) = false := decide_eq_false h0
    have b2 : decide ((x.f1.length : Int) < s) = true := decide_eq_true (by omega)
    clear h hs h0
    go_enter Try.func19, Try.ntmps19
    go_wp2_with (go_at_call 28; (with_reducible refine (check_calls H.out 1).mono ?_); rintro e w1 ⟨rfl, rfl⟩; rw [hn]; obtain ⟨W, hW⟩ : ∃ W, (((w.alloc (.cells #[.pointer (some ⟨g, 0, none⟩)] 25)).alloc (.cells #[.int .i64 1] 3)).alloc (.cells #[.int .i64 s] 3)) = W := ⟨_, rfl⟩; rw [hW] at H B BB ⊢; clear hW; have d3 : W.cell? ⟨w.heap.size, 0, none⟩ = some (.pointer (some ⟨g, 0, none⟩)) := (blk_cell B.out.b3 0).trans rfl; have d4 : W.cell? ⟨w.heap.size + 1, 0, none⟩ = some (.int .i64 1) := (blk_cell B.out.b4 0).trans rfl; have d5 : W.cell? ⟨w.heap.size + 1 + 1, 0, none⟩ = some (.int .i64 s) := (blk_cell B.out.b5 0).trans rfl; have dg := H.out.c1; have e3 : W.drew.cell? ⟨w.heap.size, 0, none⟩ = some (.pointer (some ⟨g, 0, none⟩)) := d3; have e4 : W.drew.cell? ⟨w.heap.size + 1, 0, none⟩ = some (.int .i64 1) := d4; have e5 : W.drew.cell? ⟨w.heap.size + 1 + 1, 0, none⟩ = some (.int .i64 s) := d5; have eg : W.drew.cell? ⟨g, 1, none⟩ = _ := dg)
    go_region
    all_goals (go_wp2; go_ret; exact ⟨rfl, BB.out.drew⟩)

set_option maxHeartbeats 2000000 in
theorem cut_ok1 {w : World} {g base : Nat} {v0 v1 : Value} {x : DSt} (h : Dsk w g base v0 v1 x) (hn : x.check 1 = 0) (m : Nat) (hm : m ≤ x.f1.length) :
    Calls Try.prog 19 #[.pointer (some ⟨g, 0, none⟩), .int .i64 1, .int .i64 (m : Int)] w fun e w' => e = .returned (.int .i64 (x.told 1)) ∧ ∃ v0' v1', Dsk w' g base v0' v1' (if x.cost 1 = 1 then { x.pay 1 with f1 := x.f1.take m } else x.pay 1) ∧ Below base w w' ∧ Only w w' g := by
  obtain ⟨s, hs⟩ : ∃ s : Int, (m : Int) = s := ⟨_, rfl⟩
  have hmf : ∀ (fn : Fn) (first cap : Array Value) (w : World), (Instr.makeFunc fn first cap).run Try.prog w = .ok (.func fn first cap) w := fun _ _ _ _ => rfl
  have B := Aside0.mk (boxes w g 1 (.int .i64 s) 3)
  have BB := Aside0.mk (boxes_below w (.cells #[.pointer (some ⟨g, 0, none⟩)] 25) (.cells #[.int .i64 1] 3) (.cells #[.int .i64 s] 3))
  have H := Aside0.mk (h.below BB.out)
  have HS := Aside0.mk h.size
  have HM := Aside0.mk hm
  have HE := Aside0.mk hs
  obtain ⟨A1, c1, hv1⟩ := h.r1.slice
  subst hv1
  have b1 : decide (s < 0) = false := decide_eq_false (by omega)
  have b2 : decide ((x.f1.length : Int) < s) = false := decide_eq_false (by omega)
  have hcl := DSt.cost_le (x := x) (c := 1) (by omega) h.left0
  have HCL := Aside0.mk hcl
  rw [hs]
  obtain ⟨y, hy⟩ : ∃ y, (if x.cost 1 = 1 then { x.pay 1 with f1 := x.f1.take m } else x.pay 1) = y := ⟨_, rfl⟩
  rw [hy]
  have HYY := Aside0.mk hy
  clear h hm hcl hs hy
  go_enter Try.func19, Try.ntmps19
  go_wp2_with (go_at_call 28; (with_reducible refine (check_calls H.out 1).mono ?_); rintro e w1 ⟨rfl, rfl⟩; rw [hn]; obtain ⟨W, hW⟩ : ∃ W, (((w.alloc (.cells #[.pointer (some ⟨g, 0, none⟩)] 25)).alloc (.cells #[.int .i64 1] 3)).alloc (.cells #[.int .i64 s] 3)) = W := ⟨_, rfl⟩; rw [hW] at H B BB ⊢; clear hW; have d3 : W.cell? ⟨w.heap.size, 0, none⟩ = some (.pointer (some ⟨g, 0, none⟩)) := (blk_cell B.out.b3 0).trans rfl; have d4 : W.cell? ⟨w.heap.size + 1, 0, none⟩ = some (.int .i64 1) := (blk_cell B.out.b4 0).trans rfl; have d5 : W.cell? ⟨w.heap.size + 1 + 1, 0, none⟩ = some (.int .i64 s) := (blk_cell B.out.b5 0).trans rfl; have dg := H.out.c1; have e3 : W.drew.cell? ⟨w.heap.size, 0, none⟩ = some (.pointer (some ⟨g, 0, none⟩)) := d3; have e4 : W.drew.cell? ⟨w.heap.size + 1, 0, none⟩ = some (.int .i64 1) := d4; have e5 : W.drew.cell? ⟨w.heap.size + 1 + 1, 0, none⟩ = some (.int .i64 s) := d5; have eg : W.drew.cell? ⟨g, 1, none⟩ = _ := dg)
  go_region
  go_wp2_with (go_at_call 29; (with_reducible refine (pay32_calls (Post := fun w' => ∃ v0' v1', Dsk w' g base v0' v1' y ∧ Below base W.drew w' ∧ Only W.drew w' g) (H.out.below (Below.refl _ _).drew) 1 (by omega) (by omega) (p3 := w.heap.size) (p4 := w.heap.size + 1) (p5 := w.heap.size + 1 + 1) ?hD).mono ?_); (case hD => intro w1 hp; have hd := H.out.below (Below.refl _ _).drew; have hbx : Box W.drew g w.heap.size (w.heap.size + 1) (w.heap.size + 1 + 1) 1 (.int .i64 (m : Int)) 3 := ⟨B.out.b3, B.out.b4, by rw [HE.out]; exact B.out.b5⟩; have hf := x.pay_f1 1; rw [← HYY.out]; by_cases h1c : x.cost 1 = 1; (rw [if_pos h1c, h1c]; refine (cclos1 hp.dsk m (by rw [hf]; exact HM.out) (hp.box hd hbx (by decide))).mono ?_; rintro e u w' ⟨hu, he, v, h1, h2, h3⟩; rw [hf] at h1; exact ⟨hu, he, _, _, h1, hp.below.trans h2, hp.only.trans h3⟩); (rw [if_neg h1c]; refine (cclos_no _ _ _ _ h1c _).mono ?_; rintro e u w' ⟨hu, he, hw⟩; subst hw; exact ⟨hu, he, _, _, hp.dsk, hp.below, hp.only⟩)); rintro e w2 ⟨rfl, h1⟩; have P1 := Aside0.mk h1; clear h1)
  go_ret
  obtain ⟨v0', v1', h1, h2, h3⟩ := P1.out
  exact ⟨rfl, v0', v1', h1, ((BB.out.mono HS.out).drew).trans h2, (Only.of_below BB.out.drew g).trans h3⟩
end Go.Proofs.Ytijbcfnkeahdoaa.Disk
