/- Functions of the translation as plain Lean functions, and for each the proof that the machine's call does what that function says (laid by wip/tools/myprint.py of this session, by way of the print). -/
import Derived.Test.YtgecigndgkcpkaaPAllx0
import Derived.Test.YtgecigndgkcpkaaPAllx1
import Derived.Test.YtgecigndgkcpkaaPAllx2
import Derived.Test.YtgecigndgkcpkaaPAllx3
namespace Go.Proofs.Ytgecigndgkcpkaa.PAll
open Go.RowKit Go.Proofs.YtgecigndgkcpkaaW.PrintWords Go.Proofs.YtgecigndgkcpkaaW.PrintLast Go.Proofs.YtgecigndgkcpkaaW.PrintMore
attribute [local go_sem] max2_int min2_int max_two min_two max_three min_three max_four min_four   -- for this text's walks alone
set_option linter.unusedVariables false
set_option linter.unusedSimpArgs false

/-! ### warrantorlaw18_NormTells: function 3 -/
def warrantorlaw18_NormTells.j0 : Nat → ByteArray → ByteArray → Bool → Option (Bool)
  | 0, _, _, _ => none
  | k + 1, x0, x1, x15 => if x15 = true then ((warrantorlaw18_lives.f k).bind fun t166 => (some t166)) else ((norm_Norm.f x0).bind fun t167 => ((norm_Norm.f x1).bind fun t168 => ((warrantorref18_Parts.f k x0).bind fun t169 => ((warrantorref18_Parts.f k x1).bind fun t172 => ((warrantorref05_Same.f k t169 t172).bind fun t175 => ((warrantorlaw18_lives.f k).bind fun t176 => (if t176 = true then ((norm_Parts.f x0).bind fun t177 => ((warrantorref18_Parts.f k x0).bind fun t180 => ((warrantorref05_Same.f k t177 t180).bind fun t183 => (if t183 = true then ((warrantorref18_Norm.f k x0).bind fun t184 => (if t167.toList = t184.toList then ((norm_Same.f k x0 x1).bind fun t185 => (if (t185 == t175) = true then (some ((t167.toList == t168.toList) == t175)) else (none))) else (none))) else (none))))) else (none))))))))
def warrantorlaw18_NormTells.f (k : Nat) (a0 : ByteArray) (a1 : ByteArray) : Option (Bool) := if (a0.size : Int) > 1000 then (warrantorlaw18_NormTells.j0 k a0 a1 true) else (warrantorlaw18_NormTells.j0 k a0 a1 (decide ((a1.size : Int) > 1000)))
theorem warrantorlaw18_NormTells.mono_l : ∀ k, (∀ y0 y1 y2, LeO (warrantorlaw18_NormTells.j0 k y0 y1 y2) (warrantorlaw18_NormTells.j0 (k + 1) y0 y1 y2))
  | 0 => fun _ _ _ r h => by simp [warrantorlaw18_NormTells.j0] at h
  | k + 1 => by
    have ih0 := warrantorlaw18_NormTells.mono_l k
    · intro y0 y1 y2
      unfold warrantorlaw18_NormTells.j0
      repeat' first
      | (with_reducible exact ih0 _ _ _)
      | (with_reducible exact norm_Same.mono _ _ _)
      | (with_reducible exact warrantorlaw18_lives.mono _)
      | (with_reducible exact warrantorref05_Same.mono _ _ _)
      | (with_reducible exact warrantorref18_Norm.mono _ _)
      | (with_reducible exact warrantorref18_Parts.mono _ _)
      | (with_reducible exact LeO.refl _)
      | (with_reducible exact LeO.none _)
      | (with_reducible refine LeO.ite ?_ ?_)
      | (with_reducible refine LeO.bind ?_ (fun _ => ?_))
      | exact ih0 _ _ _
      | exact norm_Same.mono _ _ _
      | exact warrantorlaw18_lives.mono _
      | exact warrantorref05_Same.mono _ _ _
      | exact warrantorref18_Norm.mono _ _
      | exact warrantorref18_Parts.mono _ _
      | exact LeO.none _
      | refine LeO.ite ?_ ?_
      | refine LeO.bind ?_ (fun _ => ?_)
theorem warrantorlaw18_NormTells.mono : ∀ a0 a1 k, LeO (warrantorlaw18_NormTells.f k a0 a1) (warrantorlaw18_NormTells.f (k + 1) a0 a1) := by
  intro a0 a1 k
  have ih0 := warrantorlaw18_NormTells.mono_l k
  unfold warrantorlaw18_NormTells.f
  repeat' first
      | (with_reducible exact ih0 _ _ _)
      | (with_reducible exact norm_Same.mono _ _ _)
      | (with_reducible exact warrantorlaw18_lives.mono _)
      | (with_reducible exact warrantorref05_Same.mono _ _ _)
      | (with_reducible exact warrantorref18_Norm.mono _ _)
      | (with_reducible exact warrantorref18_Parts.mono _ _)
      | (with_reducible exact LeO.refl _)
      | (with_reducible exact LeO.none _)
      | (with_reducible refine LeO.ite ?_ ?_)
      | (with_reducible refine LeO.bind ?_ (fun _ => ?_))
      | exact ih0 _ _ _
      | exact norm_Same.mono _ _ _
      | exact warrantorlaw18_lives.mono _
      | exact warrantorref05_Same.mono _ _ _
      | exact warrantorref18_Norm.mono _ _
      | exact warrantorref18_Parts.mono _ _
      | exact LeO.none _
      | refine LeO.ite ?_ ?_
      | refine LeO.bind ?_ (fun _ => ?_)
set_option maxHeartbeats 8000000 in
set_option maxRecDepth 100000 in
theorem warrantorlaw18_NormTells.calls (k : Nat) (a0 : ByteArray) (a1 : ByteArray) (r : Bool) (w : World) (h : warrantorlaw18_NormTells.f k a0 a1 = some r) :
    Calls Try.prog 3 #[.string a0, .string a1] w fun e w' => e = .returned (.bool r) ∧ Below w.heap.size w w' := by
  have HB := Aside0.mk (Below.refl w.heap.size w)
  have H : (if (a0.size : Int) > 1000 then (warrantorlaw18_NormTells.j0 k a0 a1 true) else (warrantorlaw18_NormTells.j0 k a0 a1 (decide ((a1.size : Int) > 1000)))) = some r := h
  clear h
  have HC3 := Aside0.mk H
  clear H
  go_enter Try.func3, Try.ntmps3
  go_upto_region 1 with (fail)
  go_cut [15] (fun v15 wc => ∃ (kq : Nat) (x15_2 : Bool), v15 = .bool x15_2 ∧ Aside0 (warrantorlaw18_NormTells.j0 kq a0 a1 x15_2 = some r) ∧ Aside0 (kq ≤ k) ∧ Aside0 (Below w.heap.size w wc))
  case first =>
    have H := HC3.out
    clear HC3
    by_cases c4 : (a0.size : Int) > 1000
    · rw [if_pos c4] at H
      have c4b0 : decide (1000 < (a0.size : Int)) = true := decide_eq_true c4
      have c4b1 : decide (1000 < a0.size) = true := decide_eq_true (by omega)
      clear c4
      (first | rw [c4b0] | (simp only [i64_w, i32_w]; rw [c4b0]) | skip)
      have H' := Aside0.mk H
      clear H
      go_wp2
      go_meet
      case rel => exact ⟨_, (true), (by first | rfl | (simp; done) | (simp [*]; done)), H', ⟨by first | omega | exact Nat.le_refl _⟩, ⟨by repeat (first | (with_reducible first | exact HB.out | apply below_alloc | apply pw_below_drewN | apply below_drew1) | exact HB.out)⟩⟩
    · rw [if_neg c4] at H
      have c4b0 : decide (1000 < (a0.size : Int)) = false := decide_eq_false c4
      have c4b1 : decide (1000 < a0.size) = false := decide_eq_false (by omega)
      clear c4
      (first | rw [c4b0] | (simp only [i64_w, i32_w]; rw [c4b0]) | skip)
      have H' := Aside0.mk H
      clear H
      go_wp2
      go_meet
      case rel => exact ⟨_, (decide ((a1.size : Int) > 1000)), (by first | rfl | (simp; done) | (simp [*]; done)), H', ⟨by first | omega | exact Nat.le_refl _⟩, ⟨by repeat (first | (with_reducible first | exact HB.out | apply below_alloc | apply pw_below_drewN | apply below_drew1) | exact HB.out)⟩⟩
  case rest =>
    clear HC3
    try clear p2
    try clear c3
    try clear c4
    try clear c4b0
    try clear c4b1
    obtain ⟨kq, x15_2, rfl, HA, HJ2, HB⟩ := hcut
    cases kq with
    | zero => exact absurd HA.out (by simp [warrantorlaw18_NormTells.j0])
    | succ kj2 =>
      have H := HA.out
      clear HA
      simp only [warrantorlaw18_NormTells.j0] at H
      by_cases c5 : x15_2 = true
      · subst c5
        have H1 : ((warrantorlaw18_lives.f kj2).bind fun t166 => (some t166)) = some r := by rw [if_pos rfl] at H; exact H
        clear H
        have H := H1
        clear H1
        replace H := Option.bind_eq_some_iff.mp H
        obtain ⟨t166, A60, H⟩ := H
        replace H : (some t166) = some r := H
        have A6 := Aside0.mk A60
        clear A60
        obtain rfl := Option.some.inj H
        go_wp2_with (first | ((with_reducible refine gate_callee (f := 7) rfl ?_); refine goesL_ (some 16) rfl rfl Try.func7 (by kernel_rfl) rfl #[] rfl (by (try simp only [List.map_toArray, List.map_cons, List.map_nil]); first | done | rfl | (simp only [List.length_drop, List.length_take]; rfl)) ?_; (with_reducible refine (warrantorlaw18_lives.calls kj2  t166 _ A6.out).mono ?_); rintro e w7 ⟨rfl, hb⟩; refine ⟨_, rfl, ?_⟩; have n0_ := Aside0.mk (below_step (by repeat (first | (with_reducible first | exact HB.out | apply below_alloc | apply pw_below_drewN | apply below_drew1) | exact HB.out)) hb); clear HB; have HB := n0_; clear n0_; (try clear hb); (try clear hb2); (try clear hk); (try clear hi)))
        go_ret
        exact ⟨by first | rfl | (simp [errW_none, errW_some] <;> rfl) | (simp [*, errW_none, errW_some] <;> rfl), by repeat (first | (with_reducible first | exact HB.out | apply below_alloc | apply pw_below_drewN | apply below_drew1) | exact HB.out)⟩
      · replace c5 := Bool.eq_false_iff.mpr c5
        subst c5
        have H1 : ((norm_Norm.f a0).bind fun t167 => ((norm_Norm.f a1).bind fun t168 => ((warrantorref18_Parts.f kj2 a0).bind fun t169 => ((warrantorref18_Parts.f kj2 a1).bind fun t172 => ((warrantorref05_Same.f kj2 t169 t172).bind fun t175 => ((warrantorlaw18_lives.f kj2).bind fun t176 => (if t176 = true then ((norm_Parts.f a0).bind fun t177 => ((warrantorref18_Parts.f kj2 a0).bind fun t180 => ((warrantorref05_Same.f kj2 t177 t180).bind fun t183 => (if t183 = true then ((warrantorref18_Norm.f kj2 a0).bind fun t184 => (if t167.toList = t184.toList then ((norm_Same.f kj2 a0 a1).bind fun t185 => (if (t185 == t175) = true then (some ((t167.toList == t168.toList) == t175)) else (none))) else (none))) else (none))))) else (none)))))))) = some r := by rw [if_neg (show ¬ (false = true) by decide)] at H; exact H
        clear H
        have H := H1
        clear H1
        replace H := Option.bind_eq_some_iff.mp H
        obtain ⟨t167, A80, H⟩ := H
        replace H : ((norm_Norm.f a1).bind fun t168 => ((warrantorref18_Parts.f kj2 a0).bind fun t169 => ((warrantorref18_Parts.f kj2 a1).bind fun t172 => ((warrantorref05_Same.f kj2 t169 t172).bind fun t175 => ((warrantorlaw18_lives.f kj2).bind fun t176 => (if t176 = true then ((norm_Parts.f a0).bind fun t177 => ((warrantorref18_Parts.f kj2 a0).bind fun t180 => ((warrantorref05_Same.f kj2 t177 t180).bind fun t183 => (if t183 = true then ((warrantorref18_Norm.f kj2 a0).bind fun t184 => (if t167.toList = t184.toList then ((norm_Same.f kj2 a0 a1).bind fun t185 => (if (t185 == t175) = true then (some ((t167.toList == t168.toList) == t175)) else (none))) else (none))) else (none))))) else (none))))))) = some r := H
        have A8 := Aside0.mk A80
        clear A80
        replace H := Option.bind_eq_some_iff.mp H
        obtain ⟨t168, A90, H⟩ := H
        replace H : ((warrantorref18_Parts.f kj2 a0).bind fun t169 => ((warrantorref18_Parts.f kj2 a1).bind fun t172 => ((warrantorref05_Same.f kj2 t169 t172).bind fun t175 => ((warrantorlaw18_lives.f kj2).bind fun t176 => (if t176 = true then ((norm_Parts.f a0).bind fun t177 => ((warrantorref18_Parts.f kj2 a0).bind fun t180 => ((warrantorref05_Same.f kj2 t177 t180).bind fun t183 => (if t183 = true then ((warrantorref18_Norm.f kj2 a0).bind fun t184 => (if t167.toList = t184.toList then ((norm_Same.f kj2 a0 a1).bind fun t185 => (if (t185 == t175) = true then (some ((t167.toList == t168.toList) == t175)) else (none))) else (none))) else (none))))) else (none)))))) = some r := H
        have A9 := Aside0.mk A90
        clear A90
        replace H := Option.bind_eq_some_iff.mp H
        obtain ⟨t169, A100, H⟩ := H
        replace H : ((warrantorref18_Parts.f kj2 a1).bind fun t172 => ((warrantorref05_Same.f kj2 t169 t172).bind fun t175 => ((warrantorlaw18_lives.f kj2).bind fun t176 => (if t176 = true then ((norm_Parts.f a0).bind fun t177 => ((warrantorref18_Parts.f kj2 a0).bind fun t180 => ((warrantorref05_Same.f kj2 t177 t180).bind fun t183 => (if t183 = true then ((warrantorref18_Norm.f kj2 a0).bind fun t184 => (if t167.toList = t184.toList then ((norm_Same.f kj2 a0 a1).bind fun t185 => (if (t185 == t175) = true then (some ((t167.toList == t168.toList) == t175)) else (none))) else (none))) else (none))))) else (none))))) = some r := H
        have A10 := Aside0.mk A100
        clear A100
        replace H := Option.bind_eq_some_iff.mp H
        obtain ⟨t172, A110, H⟩ := H
        replace H : ((warrantorref05_Same.f kj2 t169 t172).bind fun t175 => ((warrantorlaw18_lives.f kj2).bind fun t176 => (if t176 = true then ((norm_Parts.f a0).bind fun t177 => ((warrantorref18_Parts.f kj2 a0).bind fun t180 => ((warrantorref05_Same.f kj2 t177 t180).bind fun t183 => (if t183 = true then ((warrantorref18_Norm.f kj2 a0).bind fun t184 => (if t167.toList = t184.toList then ((norm_Same.f kj2 a0 a1).bind fun t185 => (if (t185 == t175) = true then (some ((t167.toList == t168.toList) == t175)) else (none))) else (none))) else (none))))) else (none)))) = some r := H
        have A11 := Aside0.mk A110
        clear A110
        replace H := Option.bind_eq_some_iff.mp H
        obtain ⟨t175, A120, H⟩ := H
        replace H : ((warrantorlaw18_lives.f kj2).bind fun t176 => (if t176 = true then ((norm_Parts.f a0).bind fun t177 => ((warrantorref18_Parts.f kj2 a0).bind fun t180 => ((warrantorref05_Same.f kj2 t177 t180).bind fun t183 => (if t183 = true then ((warrantorref18_Norm.f kj2 a0).bind fun t184 => (if t167.toList = t184.toList then ((norm_Same.f kj2 a0 a1).bind fun t185 => (if (t185 == t175) = true then (some ((t167.toList == t168.toList) == t175)) else (none))) else (none))) else (none))))) else (none))) = some r := H
        have A12 := Aside0.mk A120
        clear A120
        replace H := Option.bind_eq_some_iff.mp H
        obtain ⟨t176, A130, H⟩ := H
        replace H : (if t176 = true then ((norm_Parts.f a0).bind fun t177 => ((warrantorref18_Parts.f kj2 a0).bind fun t180 => ((warrantorref05_Same.f kj2 t177 t180).bind fun t183 => (if t183 = true then ((warrantorref18_Norm.f kj2 a0).bind fun t184 => (if t167.toList = t184.toList then ((norm_Same.f kj2 a0 a1).bind fun t185 => (if (t185 == t175) = true then (some ((t167.toList == t168.toList) == t175)) else (none))) else (none))) else (none))))) else (none)) = some r := H
        have A13 := Aside0.mk A130
        clear A130
        by_cases c14 : t176 = true
        · subst c14
          have H1 : ((norm_Parts.f a0).bind fun t177 => ((warrantorref18_Parts.f kj2 a0).bind fun t180 => ((warrantorref05_Same.f kj2 t177 t180).bind fun t183 => (if t183 = true then ((warrantorref18_Norm.f kj2 a0).bind fun t184 => (if t167.toList = t184.toList then ((norm_Same.f kj2 a0 a1).bind fun t185 => (if (t185 == t175) = true then (some ((t167.toList == t168.toList) == t175)) else (none))) else (none))) else (none))))) = some r := by rw [if_pos rfl] at H; exact H
          clear H
          have H := H1
          clear H1
          replace H := Option.bind_eq_some_iff.mp H
          obtain ⟨t177, A150, H⟩ := H
          replace H : ((warrantorref18_Parts.f kj2 a0).bind fun t180 => ((warrantorref05_Same.f kj2 t177 t180).bind fun t183 => (if t183 = true then ((warrantorref18_Norm.f kj2 a0).bind fun t184 => (if t167.toList = t184.toList then ((norm_Same.f kj2 a0 a1).bind fun t185 => (if (t185 == t175) = true then (some ((t167.toList == t168.toList) == t175)) else (none))) else (none))) else (none)))) = some r := H
          have A15 := Aside0.mk A150
          clear A150
          replace H := Option.bind_eq_some_iff.mp H
          obtain ⟨t180, A160, H⟩ := H
          replace H : ((warrantorref05_Same.f kj2 t177 t180).bind fun t183 => (if t183 = true then ((warrantorref18_Norm.f kj2 a0).bind fun t184 => (if t167.toList = t184.toList then ((norm_Same.f kj2 a0 a1).bind fun t185 => (if (t185 == t175) = true then (some ((t167.toList == t168.toList) == t175)) else (none))) else (none))) else (none))) = some r := H
          have A16 := Aside0.mk A160
          clear A160
          replace H := Option.bind_eq_some_iff.mp H
          obtain ⟨t183, A170, H⟩ := H
          replace H : (if t183 = true then ((warrantorref18_Norm.f kj2 a0).bind fun t184 => (if t167.toList = t184.toList then ((norm_Same.f kj2 a0 a1).bind fun t185 => (if (t185 == t175) = true then (some ((t167.toList == t168.toList) == t175)) else (none))) else (none))) else (none)) = some r := H
          have A17 := Aside0.mk A170
          clear A170
          by_cases c18 : t183 = true
          · subst c18
            have H1 : ((warrantorref18_Norm.f kj2 a0).bind fun t184 => (if t167.toList = t184.toList then ((norm_Same.f kj2 a0 a1).bind fun t185 => (if (t185 == t175) = true then (some ((t167.toList == t168.toList) == t175)) else (none))) else (none))) = some r := by rw [if_pos rfl] at H; exact H
            clear H
            have H := H1
            clear H1
            replace H := Option.bind_eq_some_iff.mp H
            obtain ⟨t184, A190, H⟩ := H
            replace H : (if t167.toList = t184.toList then ((norm_Same.f kj2 a0 a1).bind fun t185 => (if (t185 == t175) = true then (some ((t167.toList == t168.toList) == t175)) else (none))) else (none)) = some r := H
            have A19 := Aside0.mk A190
            clear A190
            by_cases c20 : t167.toList = t184.toList
            · rw [if_pos c20] at H
              have c20b0 : (t167.toList == t184.toList) = true := beq_iff_eq.mpr c20
              have c20b1 : (t167.toList != t184.toList) = false := bne_eq_false_iff_eq.mpr c20
              clear c20
              replace H := Option.bind_eq_some_iff.mp H
              obtain ⟨t185, A210, H⟩ := H
              replace H : (if (t185 == t175) = true then (some ((t167.toList == t168.toList) == t175)) else (none)) = some r := H
              have A21 := Aside0.mk A210
              clear A210
              by_cases c22 : (t185 == t175) = true
              · rw [if_pos c22] at H
                have c22b0 : (t185 == t175) = true := c22
                (try (have c22b1 : decide (t185 = t175) = true := by simpa using c22))
                (try (have c22b2 : (t185 == t175) = true := by simpa using c22))
                clear c22
                obtain rfl := Option.some.inj H
                go_wp2_with (first | ((with_reducible refine gate_callee (f := 8) rfl ?_); refine goesL_ (some 18) rfl rfl Try.func8 (by kernel_rfl) rfl #[.string a0] rfl (by (try simp only [List.map_toArray, List.map_cons, List.map_nil]); first | done | rfl | (simp only [List.length_drop, List.length_take]; rfl)) ?_; (with_reducible refine (norm_Norm.calls a0 t167 _ A8.out).mono ?_); rintro e w23 ⟨rfl, hb⟩; refine ⟨_, rfl, ?_⟩; have n0_ := Aside0.mk (below_step (by repeat (first | (with_reducible first | exact HB.out | apply below_alloc | apply pw_below_drewN | apply below_drew1) | exact HB.out)) hb); clear HB; have HB := n0_; clear n0_; (try clear hb); (try clear hb2); (try clear hk); (try clear hi)) | ((with_reducible refine gate_callee (f := 8) rfl ?_); refine goesL_ (some 20) rfl rfl Try.func8 (by kernel_rfl) rfl #[.string a1] rfl (by (try simp only [List.map_toArray, List.map_cons, List.map_nil]); first | done | rfl | (simp only [List.length_drop, List.length_take]; rfl)) ?_; (with_reducible refine (norm_Norm.calls a1 t168 _ A9.out).mono ?_); rintro e w24 ⟨rfl, hb⟩; refine ⟨_, rfl, ?_⟩; have n0_ := Aside0.mk (below_step (by repeat (first | (with_reducible first | exact HB.out | apply below_alloc | apply pw_below_drewN | apply below_drew1) | exact HB.out)) hb); clear HB; have HB := n0_; clear n0_; (try clear hb); (try clear hb2); (try clear hk); (try clear hi)) | ((with_reducible refine gate_callee (f := 10) rfl ?_); refine goesL_ (some 22) rfl rfl Try.func10 (by kernel_rfl) rfl #[.string a0] rfl (by (try simp only [List.map_toArray, List.map_cons, List.map_nil]); first | done | rfl | (simp only [List.length_drop, List.length_take]; rfl)) ?_; (with_reducible refine (warrantorref18_Parts.calls kj2 a0 t169 _ A10.out).mono ?_); rintro e w25 ⟨v170, rfl, ho0, hb⟩; refine ⟨_, rfl, ?_⟩; have n0_ := Aside0.mk (Kd.R_lower ho0 (below_size (by repeat (first | (with_reducible first | exact HB.out | apply below_alloc | apply pw_below_drewN | apply below_drew1) | exact HB.out)))); have n1_ := Aside0.mk (below_step (by repeat (first | (with_reducible first | exact HB.out | apply below_alloc | apply pw_below_drewN | apply below_drew1) | exact HB.out)) hb); clear HB; have HO171 := n0_; have HB := n1_; clear n0_ n1_; (try clear hb); (try clear hb2); (try clear hk); (try clear hi); (try clear ho0)) | ((with_reducible refine gate_callee (f := 10) rfl ?_); refine goesL_ (some 24) rfl rfl Try.func10 (by kernel_rfl) rfl #[.string a1] rfl (by (try simp only [List.map_toArray, List.map_cons, List.map_nil]); first | done | rfl | (simp only [List.length_drop, List.length_take]; rfl)) ?_; (with_reducible refine (warrantorref18_Parts.calls kj2 a1 t172 _ A11.out).mono ?_); rintro e w26 ⟨v173, rfl, ho0, hb⟩; refine ⟨_, rfl, ?_⟩; have n0_ := Aside0.mk (Kd.R_elder' (by (with_reducible repeat (first | apply Kd.R_alloc | apply Kd.R_drewN | apply Kd.R_drew)); exact HO171.out) (Kd.R_base ho0) hb); have n1_ := Aside0.mk (Kd.R_lower (Kd.R_new' ho0 (Kd.R_lt (by (with_reducible repeat (first | apply Kd.R_alloc | apply Kd.R_drewN | apply Kd.R_drew)); exact HO171.out))) (below_size (by repeat (first | (with_reducible first | exact HB.out | apply below_alloc | apply pw_below_drewN | apply below_drew1) | exact HB.out)))); have n2_ := Aside0.mk (below_step (by repeat (first | (with_reducible first | exact HB.out | apply below_alloc | apply pw_below_drewN | apply below_drew1) | exact HB.out)) hb); clear HO171; clear HB; have HO171 := n0_; have HO174 := n1_; have HB := n2_; clear n0_ n1_ n2_; (try clear hb); (try clear hb2); (try clear hk); (try clear hi); (try clear ho0); obtain ⟨Ao27, co27, eo27⟩ := Kd.R_slice HO171.out; subst eo27; obtain ⟨Ao28, co28, eo28⟩ := Kd.R_slice HO174.out; subst eo28) | ((with_reducible refine gate_callee (f := 9) rfl ?_); refine goesL_ (some 25) rfl rfl Try.func9 (by kernel_rfl) rfl #[.slice Ao27 t169.length co27, .slice Ao28 t172.length co28] rfl (by (try simp only [List.map_toArray, List.map_cons, List.map_nil]); first | done | rfl | (simp only [List.length_drop, List.length_take]; rfl)) ?_; (with_reducible refine (warrantorref05_Same.calls kj2 _ _ t169 _ _ t172 t175 _ ?side1 ?side2 ?side3 ?side4 A12.out).mono ?_); (case side1 => repeat (first | exact (Kd.R_reads' HO171.out).2.2 | (with_reducible refine Kd.C_alloc ?_ _) | (with_reducible refine Kd.C_drewN ?_ _) | (with_reducible refine Kd.C_drew ?_))); (case side2 => exact (Kd.R_reads' HO171.out).2.1); (case side3 => repeat (first | exact (Kd.R_reads' HO174.out).2.2 | (with_reducible refine Kd.C_alloc ?_ _) | (with_reducible refine Kd.C_drewN ?_ _) | (with_reducible refine Kd.C_drew ?_))); (case side4 => exact (Kd.R_reads' HO174.out).2.1); rintro e w' ⟨rfl, ⟨nd, rfl⟩⟩; refine ⟨_, rfl, ?_⟩) | ((with_reducible refine gate_callee (f := 7) rfl ?_); refine goesL_ (some 26) rfl rfl Try.func7 (by kernel_rfl) rfl #[] rfl (by (try simp only [List.map_toArray, List.map_cons, List.map_nil]); first | done | rfl | (simp only [List.length_drop, List.length_take]; rfl)) ?_; (with_reducible refine (warrantorlaw18_lives.calls kj2  true _ A13.out).mono ?_); rintro e w29 ⟨rfl, hb⟩; refine ⟨_, rfl, ?_⟩; have n0_ := Aside0.mk (Kd.R_below (by (with_reducible repeat (first | apply Kd.R_alloc | apply Kd.R_drewN | apply Kd.R_drew)); exact HO171.out) hb); have n1_ := Aside0.mk (Kd.R_below (by (with_reducible repeat (first | apply Kd.R_alloc | apply Kd.R_drewN | apply Kd.R_drew)); exact HO174.out) hb); have n2_ := Aside0.mk (below_step (by repeat (first | (with_reducible first | exact HB.out | apply below_alloc | apply pw_below_drewN | apply below_drew1) | exact HB.out)) hb); clear HO171; clear HO174; clear HB; have HO171 := n0_; have HO174 := n1_; have HB := n2_; clear n0_ n1_ n2_; (try clear hb); (try clear hb2); (try clear hk); (try clear hi)) | (go_at_call 11; (with_reducible refine (norm_Parts.calls a0 t177 _ A15.out).mono ?_); rintro e w30 ⟨v178, rfl, ho0, hb⟩; have n0_ := Aside0.mk (Kd.R_elder' (by (with_reducible repeat (first | apply Kd.R_alloc | apply Kd.R_drewN | apply Kd.R_drew)); exact HO171.out) (Kd.R_base ho0) hb); have n1_ := Aside0.mk (Kd.R_elder' (by (with_reducible repeat (first | apply Kd.R_alloc | apply Kd.R_drewN | apply Kd.R_drew)); exact HO174.out) (Kd.R_base ho0) hb); have n2_ := Aside0.mk (Kd.R_lower (Kd.R_new' (Kd.R_new' ho0 (Kd.R_lt (by (with_reducible repeat (first | apply Kd.R_alloc | apply Kd.R_drewN | apply Kd.R_drew)); exact HO171.out))) (Kd.R_lt (by (with_reducible repeat (first | apply Kd.R_alloc | apply Kd.R_drewN | apply Kd.R_drew)); exact HO174.out))) (below_size (by repeat (first | (with_reducible first | exact HB.out | apply below_alloc | apply pw_below_drewN | apply below_drew1) | exact HB.out)))); have n3_ := Aside0.mk (below_step (by repeat (first | (with_reducible first | exact HB.out | apply below_alloc | apply pw_below_drewN | apply below_drew1) | exact HB.out)) hb); clear HO171; clear HO174; clear HB; have HO171 := n0_; have HO174 := n1_; have HO179 := n2_; have HB := n3_; clear n0_ n1_ n2_ n3_; (try clear hb); (try clear hb2); (try clear hk); (try clear hi); (try clear ho0)) | (go_at_call 10; (with_reducible refine (warrantorref18_Parts.calls kj2 a0 t180 _ A16.out).mono ?_); rintro e w31 ⟨v181, rfl, ho0, hb⟩; have n0_ := Aside0.mk (Kd.R_elder' (by (with_reducible repeat (first | apply Kd.R_alloc | apply Kd.R_drewN | apply Kd.R_drew)); exact HO171.out) (Kd.R_base ho0) hb); have n1_ := Aside0.mk (Kd.R_elder' (by (with_reducible repeat (first | apply Kd.R_alloc | apply Kd.R_drewN | apply Kd.R_drew)); exact HO174.out) (Kd.R_base ho0) hb); have n2_ := Aside0.mk (Kd.R_elder' (by (with_reducible repeat (first | apply Kd.R_alloc | apply Kd.R_drewN | apply Kd.R_drew)); exact HO179.out) (Kd.R_base ho0) hb); have n3_ := Aside0.mk (Kd.R_lower (Kd.R_new' (Kd.R_new' (Kd.R_new' ho0 (Kd.R_lt (by (with_reducible repeat (first | apply Kd.R_alloc | apply Kd.R_drewN | apply Kd.R_drew)); exact HO171.out))) (Kd.R_lt (by (with_reducible repeat (first | apply Kd.R_alloc | apply Kd.R_drewN | apply Kd.R_drew)); exact HO174.out))) (Kd.R_lt (by (with_reducible repeat (first | apply Kd.R_alloc | apply Kd.R_drewN | apply Kd.R_drew)); exact HO179.out))) (below_size (by repeat (first | (with_reducible first | exact HB.out | apply below_alloc | apply pw_below_drewN | apply below_drew1) | exact HB.out)))); have n4_ := Aside0.mk (below_step (by repeat (first | (with_reducible first | exact HB.out | apply below_alloc | apply pw_below_drewN | apply below_drew1) | exact HB.out)) hb); clear HO171; clear HO174; clear HO179; clear HB; have HO171 := n0_; have HO174 := n1_; have HO179 := n2_; have HO182 := n3_; have HB := n4_; clear n0_ n1_ n2_ n3_ n4_; (try clear hb); (try clear hb2); (try clear hk); (try clear hi); (try clear ho0); obtain ⟨Ao32, co32, eo32⟩ := Kd.R_slice HO179.out; subst eo32; obtain ⟨Ao33, co33, eo33⟩ := Kd.R_slice HO182.out; subst eo33) | (go_at_call 9; (with_reducible refine (warrantorref05_Same.calls kj2 _ _ t177 _ _ t180 true _ ?side1 ?side2 ?side3 ?side4 A17.out).mono ?_); (case side1 => repeat (first | exact (Kd.R_reads' HO179.out).2.2 | (with_reducible refine Kd.C_alloc ?_ _) | (with_reducible refine Kd.C_drewN ?_ _) | (with_reducible refine Kd.C_drew ?_))); (case side2 => exact (Kd.R_reads' HO179.out).2.1); (case side3 => repeat (first | exact (Kd.R_reads' HO182.out).2.2 | (with_reducible refine Kd.C_alloc ?_ _) | (with_reducible refine Kd.C_drewN ?_ _) | (with_reducible refine Kd.C_drew ?_))); (case side4 => exact (Kd.R_reads' HO182.out).2.1); rintro e w' ⟨rfl, ⟨nd, rfl⟩⟩) | (go_at_call 12; (with_reducible refine (warrantorref18_Norm.calls kj2 a0 t184 _ A19.out).mono ?_); rintro e w34 ⟨rfl, hb⟩; have n0_ := Aside0.mk (Kd.R_below (by (with_reducible repeat (first | apply Kd.R_alloc | apply Kd.R_drewN | apply Kd.R_drew)); exact HO171.out) hb); have n1_ := Aside0.mk (Kd.R_below (by (with_reducible repeat (first | apply Kd.R_alloc | apply Kd.R_drewN | apply Kd.R_drew)); exact HO174.out) hb); have n2_ := Aside0.mk (Kd.R_below (by (with_reducible repeat (first | apply Kd.R_alloc | apply Kd.R_drewN | apply Kd.R_drew)); exact HO179.out) hb); have n3_ := Aside0.mk (Kd.R_below (by (with_reducible repeat (first | apply Kd.R_alloc | apply Kd.R_drewN | apply Kd.R_drew)); exact HO182.out) hb); have n4_ := Aside0.mk (below_step (by repeat (first | (with_reducible first | exact HB.out | apply below_alloc | apply pw_below_drewN | apply below_drew1) | exact HB.out)) hb); clear HO171; clear HO174; clear HO179; clear HO182; clear HB; have HO171 := n0_; have HO174 := n1_; have HO179 := n2_; have HO182 := n3_; have HB := n4_; clear n0_ n1_ n2_ n3_ n4_; (try clear hb); (try clear hb2); (try clear hk); (try clear hi)) | (go_at_call 13; (with_reducible refine (norm_Same.calls kj2 a0 a1 t185 _ A21.out).mono ?_); rintro e w35 ⟨rfl, hb⟩; have n0_ := Aside0.mk (Kd.R_below (by (with_reducible repeat (first | apply Kd.R_alloc | apply Kd.R_drewN | apply Kd.R_drew)); exact HO171.out) hb); have n1_ := Aside0.mk (Kd.R_below (by (with_reducible repeat (first | apply Kd.R_alloc | apply Kd.R_drewN | apply Kd.R_drew)); exact HO174.out) hb); have n2_ := Aside0.mk (Kd.R_below (by (with_reducible repeat (first | apply Kd.R_alloc | apply Kd.R_drewN | apply Kd.R_drew)); exact HO179.out) hb); have n3_ := Aside0.mk (Kd.R_below (by (with_reducible repeat (first | apply Kd.R_alloc | apply Kd.R_drewN | apply Kd.R_drew)); exact HO182.out) hb); have n4_ := Aside0.mk (below_step (by repeat (first | (with_reducible first | exact HB.out | apply below_alloc | apply pw_below_drewN | apply below_drew1) | exact HB.out)) hb); clear HO171; clear HO174; clear HO179; clear HO182; clear HB; have HO171 := n0_; have HO174 := n1_; have HO179 := n2_; have HO182 := n3_; have HB := n4_; clear n0_ n1_ n2_ n3_ n4_; (try clear hb); (try clear hb2); (try clear hk); (try clear hi)))
                go_ret
                exact ⟨by first | rfl | (simp [errW_none, errW_some] <;> rfl) | (simp [*, errW_none, errW_some] <;> rfl), by repeat (first | (with_reducible first | exact HB.out | apply below_alloc | apply pw_below_drewN | apply below_drew1) | exact HB.out)⟩
              · rw [if_neg c22] at H
                exact absurd H (by simp)
            · rw [if_neg c20] at H
              exact absurd H (by simp)
          · replace c18 := Bool.eq_false_iff.mpr c18
            subst c18
            have H1 : (none) = some r := by rw [if_neg (show ¬ (false = true) by decide)] at H; exact H
            clear H
            have H := H1
            clear H1
            exact absurd H (by simp)
        · replace c14 := Bool.eq_false_iff.mpr c14
          subst c14
          have H1 : (none) = some r := by rw [if_neg (show ¬ (false = true) by decide)] at H; exact H
          clear H
          have H := H1
          clear H1
          exact absurd H (by simp)

/-- THE ONE PURE STATEMENT of warrantorlaw18_NormTells: yours. -/
def warrantorlaw18_NormTells.Pure : Prop := ∀ (a0 : ByteArray) (a1 : ByteArray), a0.size ≤ 140737488351232 → a1.size ≤ 140737488351232 → ∃ k, warrantorlaw18_NormTells.f k a0 a1 = some true
theorem warrantorlaw18_NormTells.walk (P : warrantorlaw18_NormTells.Pure) (a0 : ByteArray) (a1 : ByteArray) (w : World) (w0 : a0.size ≤ 140737488351232) (w1 : a1.size ≤ 140737488351232) :
    Calls Try.prog 3 #[.string a0, .string a1] w fun e w' => e = .returned (.bool true) ∧ Below w.heap.size w w' := by
  obtain ⟨k, h⟩ := P a0 a1 w0 w1
  refine (warrantorlaw18_NormTells.calls k a0 a1 true w h).mono ?_
  rintro e w' ⟨rfl, hd⟩
  exact ⟨rfl, hd⟩

/-! ### warrantorlaw18_NormAgain: function 4 -/
mutual
def warrantorlaw18_NormAgain.j0 : Nat → ByteArray → Bool → Option (Bool)
  | 0, _, _ => none
  | k + 1, x3, x31 => if x31 = true then (none) else (warrantorlaw18_NormAgain.l0 k x3 0)
def warrantorlaw18_NormAgain.l0 : Nat → ByteArray → Int → Option (Bool)
  | 0, _, _ => none
  | k + 1, x3, x4 => if x4 < (x3.size : Int) then (if 0 ≤ x4 then (if (bt x3 x4) = 32 then (if x4 = 0 then (none) else (if x4 = (wrap64 ((x3.size : Int) - 1)) then (none) else (if 0 ≤ (wrap64 (x4 + 1)) then (if (wrap64 (x4 + 1)) < (x3.size : Int) then (if (bt x3 (wrap64 (x4 + 1))) = 32 then (none) else (warrantorlaw18_NormAgain.l0 k x3 (wrap64 (x4 + 1)))) else (none)) else (none)))) else (warrantorlaw18_NormAgain.l0 k x3 (wrap64 (x4 + 1)))) else (none)) else (some true)
end
def warrantorlaw18_NormAgain.f (k : Nat) (a0 : ByteArray) : Option (Bool) := if (a0.size : Int) > 1000 then ((warrantorlaw18_lives.f k).bind fun t186 => (some t186)) else ((norm_Norm.f a0).bind fun t187 => ((warrantorlaw18_lives.f k).bind fun t188 => (if t188 = true then ((norm_Norm.f t187).bind fun t189 => (if t189.toList = t187.toList then (if (t187.size : Int) > (a0.size : Int) then (warrantorlaw18_NormAgain.j0 k t187 true) else ((norm_Same.f k t187 a0).bind fun t190 => (warrantorlaw18_NormAgain.j0 k t187 (!t190)))) else (warrantorlaw18_NormAgain.j0 k t187 true))) else (warrantorlaw18_NormAgain.j0 k t187 true))))
theorem warrantorlaw18_NormAgain.mono_l : ∀ k, (∀ y0 y1, LeO (warrantorlaw18_NormAgain.j0 k y0 y1) (warrantorlaw18_NormAgain.j0 (k + 1) y0 y1)) ∧ (∀ y0 y1, LeO (warrantorlaw18_NormAgain.l0 k y0 y1) (warrantorlaw18_NormAgain.l0 (k + 1) y0 y1))
  | 0 => ⟨fun _ _ r h => by simp [warrantorlaw18_NormAgain.j0] at h, fun _ _ r h => by simp [warrantorlaw18_NormAgain.l0] at h⟩
  | k + 1 => by
    obtain ⟨ih0, ih1⟩ := warrantorlaw18_NormAgain.mono_l k
    refine ⟨?_, ?_⟩
    · intro y0 y1
      unfold warrantorlaw18_NormAgain.j0
      repeat' first
      | (with_reducible exact ih0 _ _)
      | (with_reducible exact ih1 _ _)
      | (with_reducible exact norm_Same.mono _ _ _)
      | (with_reducible exact warrantorlaw18_lives.mono _)
      | (with_reducible exact LeO.refl _)
      | (with_reducible exact LeO.none _)
      | (with_reducible refine LeO.ite ?_ ?_)
      | (with_reducible refine LeO.bind ?_ (fun _ => ?_))
      | exact ih0 _ _
      | exact ih1 _ _
      | exact norm_Same.mono _ _ _
      | exact warrantorlaw18_lives.mono _
      | exact LeO.none _
      | refine LeO.ite ?_ ?_
      | refine LeO.bind ?_ (fun _ => ?_)
    · intro y0 y1
      unfold warrantorlaw18_NormAgain.l0
      repeat' first
      | (with_reducible exact ih0 _ _)
      | (with_reducible exact ih1 _ _)
      | (with_reducible exact norm_Same.mono _ _ _)
      | (with_reducible exact warrantorlaw18_lives.mono _)
      | (with_reducible exact LeO.refl _)
      | (with_reducible exact LeO.none _)
      | (with_reducible refine LeO.ite ?_ ?_)
      | (with_reducible refine LeO.bind ?_ (fun _ => ?_))
      | exact ih0 _ _
      | exact ih1 _ _
      | exact norm_Same.mono _ _ _
      | exact warrantorlaw18_lives.mono _
      | exact LeO.none _
      | refine LeO.ite ?_ ?_
      | refine LeO.bind ?_ (fun _ => ?_)
theorem warrantorlaw18_NormAgain.mono : ∀ a0 k, LeO (warrantorlaw18_NormAgain.f k a0) (warrantorlaw18_NormAgain.f (k + 1) a0) := by
  intro a0 k
  obtain ⟨ih0, ih1⟩ := warrantorlaw18_NormAgain.mono_l k
  unfold warrantorlaw18_NormAgain.f
  repeat' first
      | (with_reducible exact ih0 _ _)
      | (with_reducible exact ih1 _ _)
      | (with_reducible exact norm_Same.mono _ _ _)
      | (with_reducible exact warrantorlaw18_lives.mono _)
      | (with_reducible exact LeO.refl _)
      | (with_reducible exact LeO.none _)
      | (with_reducible refine LeO.ite ?_ ?_)
      | (with_reducible refine LeO.bind ?_ (fun _ => ?_))
      | exact ih0 _ _
      | exact ih1 _ _
      | exact norm_Same.mono _ _ _
      | exact warrantorlaw18_lives.mono _
      | exact LeO.none _
      | refine LeO.ite ?_ ?_
      | refine LeO.bind ?_ (fun _ => ?_)
set_option maxHeartbeats 8000000 in
set_option maxRecDepth 100000 in
theorem warrantorlaw18_NormAgain.calls (k : Nat) (a0 : ByteArray) (r : Bool) (w : World) (h : warrantorlaw18_NormAgain.f k a0 = some r) :
    Calls Try.prog 4 #[.string a0] w fun e w' => e = .returned (.bool r) ∧ Below w.heap.size w w' := by
  have HB := Aside0.mk (Below.refl w.heap.size w)
  have H : (if (a0.size : Int) > 1000 then ((warrantorlaw18_lives.f k).bind fun t186 => (some t186)) else ((norm_Norm.f a0).bind fun t187 => ((warrantorlaw18_lives.f k).bind fun t188 => (if t188 = true then ((norm_Norm.f t187).bind fun t189 => (if t189.toList = t187.toList then (if (t187.size : Int) > (a0.size : Int) then (warrantorlaw18_NormAgain.j0 k t187 true) else ((norm_Same.f k t187 a0).bind fun t190 => (warrantorlaw18_NormAgain.j0 k t187 (!t190)))) else (warrantorlaw18_NormAgain.j0 k t187 true))) else (warrantorlaw18_NormAgain.j0 k t187 true))))) = some r := h
  clear h
  by_cases c2 : (a0.size : Int) > 1000
  · rw [if_pos c2] at H
    have c2b0 : decide (1000 < (a0.size : Int)) = true := decide_eq_true c2
    have c2b1 : decide (1000 < a0.size) = true := decide_eq_true (by omega)
    clear c2
    replace H := Option.bind_eq_some_iff.mp H
    obtain ⟨t186, A30, H⟩ := H
    replace H : (some t186) = some r := H
    have A3 := Aside0.mk A30
    clear A30
    obtain rfl := Option.some.inj H
    go_enter Try.func4, Try.ntmps4
    go_wp2_with (first | ((with_reducible refine gate_callee (f := 7) rfl ?_); refine goesL_ (some 8) rfl rfl Try.func7 (by kernel_rfl) rfl #[] rfl (by (try simp only [List.map_toArray, List.map_cons, List.map_nil]); first | done | rfl | (simp only [List.length_drop, List.length_take]; rfl)) ?_; (with_reducible refine (warrantorlaw18_lives.calls k  t186 _ A3.out).mono ?_); rintro e w4 ⟨rfl, hb⟩; refine ⟨_, rfl, ?_⟩; have n0_ := Aside0.mk (below_step (by repeat (first | (with_reducible first | exact HB.out | apply below_alloc | apply pw_below_drewN | apply below_drew1) | exact HB.out)) hb); clear HB; have HB := n0_; clear n0_; (try clear hb); (try clear hb2); (try clear hk); (try clear hi)))
    go_ret
    exact ⟨by first | rfl | (simp [errW_none, errW_some] <;> rfl) | (simp [*, errW_none, errW_some] <;> rfl), by repeat (first | (with_reducible first | exact HB.out | apply below_alloc | apply pw_below_drewN | apply below_drew1) | exact HB.out)⟩
  · rw [if_neg c2] at H
    have c2b0 : decide (1000 < (a0.size : Int)) = false := decide_eq_false c2
    have c2b1 : decide (1000 < a0.size) = false := decide_eq_false (by omega)
    clear c2
    replace H := Option.bind_eq_some_iff.mp H
    obtain ⟨t187, A50, H⟩ := H
    replace H : ((warrantorlaw18_lives.f k).bind fun t188 => (if t188 = true then ((norm_Norm.f t187).bind fun t189 => (if t189.toList = t187.toList then (if (t187.size : Int) > (a0.size : Int) then (warrantorlaw18_NormAgain.j0 k t187 true) else ((norm_Same.f k t187 a0).bind fun t190 => (warrantorlaw18_NormAgain.j0 k t187 (!t190)))) else (warrantorlaw18_NormAgain.j0 k t187 true))) else (warrantorlaw18_NormAgain.j0 k t187 true))) = some r := H
    have A5 := Aside0.mk A50
    clear A50
    have HC6 := Aside0.mk H
    clear H
    go_enter Try.func4, Try.ntmps4
    go_upto_region 4 with (first | ((with_reducible refine gate_callee (f := 8) rfl ?_); refine goesL_ (some 10) rfl rfl Try.func8 (by kernel_rfl) rfl #[.string a0] rfl (by (try simp only [List.map_toArray, List.map_cons, List.map_nil]); first | done | rfl | (simp only [List.length_drop, List.length_take]; rfl)) ?_; (with_reducible refine (norm_Norm.calls a0 t187 _ A5.out).mono ?_); rintro e w7 ⟨rfl, hb⟩; refine ⟨_, rfl, ?_⟩; have n0_ := Aside0.mk (below_step (by repeat (first | (with_reducible first | exact HB.out | apply below_alloc | apply pw_below_drewN | apply below_drew1) | exact HB.out)) hb); clear HB; have HB := n0_; clear n0_; (try clear hb); (try clear hb2); (try clear hk); (try clear hi)))
    (try simp only [Act.put, List.setIfInBounds_toArray, List.set_cons_zero, List.set_cons_succ])
    go_cut [31] (fun v31 wc => ∃ (kq : Nat) (x31_5 : Bool), v31 = .bool x31_5 ∧ Aside0 (warrantorlaw18_NormAgain.j0 kq t187 x31_5 = some r) ∧ Aside0 (kq ≤ k) ∧ Aside0 (Below w.heap.size w wc))
    case first =>
      have H := HC6.out
      clear HC6
      replace H := Option.bind_eq_some_iff.mp H
      obtain ⟨t188, A80, H⟩ := H
      replace H : (if t188 = true then ((norm_Norm.f t187).bind fun t189 => (if t189.toList = t187.toList then (if (t187.size : Int) > (a0.size : Int) then (warrantorlaw18_NormAgain.j0 k t187 true) else ((norm_Same.f k t187 a0).bind fun t190 => (warrantorlaw18_NormAgain.j0 k t187 (!t190)))) else (warrantorlaw18_NormAgain.j0 k t187 true))) else (warrantorlaw18_NormAgain.j0 k t187 true)) = some r := H
      have A8 := Aside0.mk A80
      clear A80
      by_cases c9 : t188 = true
      · subst c9
        have H1 : ((norm_Norm.f t187).bind fun t189 => (if t189.toList = t187.toList then (if (t187.size : Int) > (a0.size : Int) then (warrantorlaw18_NormAgain.j0 k t187 true) else ((norm_Same.f k t187 a0).bind fun t190 => (warrantorlaw18_NormAgain.j0 k t187 (!t190)))) else (warrantorlaw18_NormAgain.j0 k t187 true))) = some r := by rw [if_pos rfl] at H; exact H
        clear H
        have H := H1
        clear H1
        replace H := Option.bind_eq_some_iff.mp H
        obtain ⟨t189, A100, H⟩ := H
        replace H : (if t189.toList = t187.toList then (if (t187.size : Int) > (a0.size : Int) then (warrantorlaw18_NormAgain.j0 k t187 true) else ((norm_Same.f k t187 a0).bind fun t190 => (warrantorlaw18_NormAgain.j0 k t187 (!t190)))) else (warrantorlaw18_NormAgain.j0 k t187 true)) = some r := H
        have A10 := Aside0.mk A100
        clear A100
        by_cases c11 : t189.toList = t187.toList
        · rw [if_pos c11] at H
          have c11b0 : (t189.toList == t187.toList) = true := beq_iff_eq.mpr c11
          have c11b1 : (t189.toList != t187.toList) = false := bne_eq_false_iff_eq.mpr c11
          clear c11
          (first | rw [c11b0] | (simp only [i64_w, i32_w]; rw [c11b0]) | skip)
          by_cases c12 : (t187.size : Int) > (a0.size : Int)
          · rw [if_pos c12] at H
            have c12b0 : decide ((a0.size : Int) < (t187.size : Int)) = true := decide_eq_true c12
            have c12b1 : decide (a0.size < t187.size) = true := decide_eq_true (Int.ofNat_lt.mp c12)
            clear c12
            have H' := Aside0.mk H
            clear H
            go_wp2_with (first | ((with_reducible refine gate_callee (f := 7) rfl ?_); refine goesL_ (some 11) rfl rfl Try.func7 (by kernel_rfl) rfl #[] rfl (by (try simp only [List.map_toArray, List.map_cons, List.map_nil]); first | done | rfl | (simp only [List.length_drop, List.length_take]; rfl)) ?_; (with_reducible refine (warrantorlaw18_lives.calls k  true _ A8.out).mono ?_); rintro e w13 ⟨rfl, hb⟩; refine ⟨_, rfl, ?_⟩; have n0_ := Aside0.mk (below_step (by repeat (first | (with_reducible first | exact HB.out | apply below_alloc | apply pw_below_drewN | apply below_drew1) | exact HB.out)) hb); clear HB; have HB := n0_; clear n0_; (try clear hb); (try clear hb2); (try clear hk); (try clear hi)) | (go_at_call 8; (with_reducible refine (norm_Norm.calls t187 t189 _ A10.out).mono ?_); rintro e w14 ⟨rfl, hb⟩; have n0_ := Aside0.mk (below_step (by repeat (first | (with_reducible first | exact HB.out | apply below_alloc | apply pw_below_drewN | apply below_drew1) | exact HB.out)) hb); clear HB; have HB := n0_; clear n0_; (try clear hb); (try clear hb2); (try clear hk); (try clear hi)))
            go_meet
            case rel => exact ⟨_, (true), (by first | rfl | (simp; done) | (simp [*]; done)), H', ⟨by first | omega | exact Nat.le_refl _⟩, ⟨by repeat (first | (with_reducible first | exact HB.out | apply below_alloc | apply pw_below_drewN | apply below_drew1) | exact HB.out)⟩⟩
          · rw [if_neg c12] at H
            have c12b0 : decide ((a0.size : Int) < (t187.size : Int)) = false := decide_eq_false c12
            have c12b1 : decide (a0.size < t187.size) = false := decide_eq_false (fun h => c12 (Int.ofNat_lt.mpr h))
            clear c12
            replace H := Option.bind_eq_some_iff.mp H
            obtain ⟨t190, A150, H⟩ := H
            replace H : (warrantorlaw18_NormAgain.j0 k t187 (!t190)) = some r := H
            have A15 := Aside0.mk A150
            clear A150
            have H' := Aside0.mk H
            clear H
            go_wp2_with (first | ((with_reducible refine gate_callee (f := 7) rfl ?_); refine goesL_ (some 11) rfl rfl Try.func7 (by kernel_rfl) rfl #[] rfl (by (try simp only [List.map_toArray, List.map_cons, List.map_nil]); first | done | rfl | (simp only [List.length_drop, List.length_take]; rfl)) ?_; (with_reducible refine (warrantorlaw18_lives.calls k  true _ A8.out).mono ?_); rintro e w16 ⟨rfl, hb⟩; refine ⟨_, rfl, ?_⟩; have n0_ := Aside0.mk (below_step (by repeat (first | (with_reducible first | exact HB.out | apply below_alloc | apply pw_below_drewN | apply below_drew1) | exact HB.out)) hb); clear HB; have HB := n0_; clear n0_; (try clear hb); (try clear hb2); (try clear hk); (try clear hi)) | (go_at_call 8; (with_reducible refine (norm_Norm.calls t187 t189 _ A10.out).mono ?_); rintro e w17 ⟨rfl, hb⟩; have n0_ := Aside0.mk (below_step (by repeat (first | (with_reducible first | exact HB.out | apply below_alloc | apply pw_below_drewN | apply below_drew1) | exact HB.out)) hb); clear HB; have HB := n0_; clear n0_; (try clear hb); (try clear hb2); (try clear hk); (try clear hi)) | (go_at_call 13; (with_reducible refine (norm_Same.calls k t187 a0 t190 _ A15.out).mono ?_); rintro e w18 ⟨rfl, hb⟩; have n0_ := Aside0.mk (below_step (by repeat (first | (with_reducible first | exact HB.out | apply below_alloc | apply pw_below_drewN | apply below_drew1) | exact HB.out)) hb); clear HB; have HB := n0_; clear n0_; (try clear hb); (try clear hb2); (try clear hk); (try clear hi)))
            go_meet
            case rel => exact ⟨_, (!t190), (by first | rfl | (simp; done) | (simp [*]; done)), H', ⟨by first | omega | exact Nat.le_refl _⟩, ⟨by repeat (first | (with_reducible first | exact HB.out | apply below_alloc | apply pw_below_drewN | apply below_drew1) | exact HB.out)⟩⟩
        · rw [if_neg c11] at H
          have c11b0 : (t189.toList == t187.toList) = false := beq_eq_false_iff_ne.mpr c11
          have c11b1 : (t189.toList != t187.toList) = true := bne_iff_ne.mpr c11
          (first | rw [c11b0] | (simp only [i64_w, i32_w]; rw [c11b0]) | skip)
          have H' := Aside0.mk H
          clear H
          go_wp2_with (first | ((with_reducible refine gate_callee (f := 7) rfl ?_); refine goesL_ (some 11) rfl rfl Try.func7 (by kernel_rfl) rfl #[] rfl (by (try simp only [List.map_toArray, List.map_cons, List.map_nil]); first | done | rfl | (simp only [List.length_drop, List.length_take]; rfl)) ?_; (with_reducible refine (warrantorlaw18_lives.calls k  true _ A8.out).mono ?_); rintro e w19 ⟨rfl, hb⟩; refine ⟨_, rfl, ?_⟩; have n0_ := Aside0.mk (below_step (by repeat (first | (with_reducible first | exact HB.out | apply below_alloc | apply pw_below_drewN | apply below_drew1) | exact HB.out)) hb); clear HB; have HB := n0_; clear n0_; (try clear hb); (try clear hb2); (try clear hk); (try clear hi)) | (go_at_call 8; (with_reducible refine (norm_Norm.calls t187 t189 _ A10.out).mono ?_); rintro e w20 ⟨rfl, hb⟩; have n0_ := Aside0.mk (below_step (by repeat (first | (with_reducible first | exact HB.out | apply below_alloc | apply pw_below_drewN | apply below_drew1) | exact HB.out)) hb); clear HB; have HB := n0_; clear n0_; (try clear hb); (try clear hb2); (try clear hk); (try clear hi)))
          go_meet
          case rel => exact ⟨_, (true), (by first | rfl | (simp; done) | (simp [*]; done)), H', ⟨by first | omega | exact Nat.le_refl _⟩, ⟨by repeat (first | (with_reducible first | exact HB.out | apply below_alloc | apply pw_below_drewN | apply below_drew1) | exact HB.out)⟩⟩
      · replace c9 := Bool.eq_false_iff.mpr c9
        subst c9
        have H1 : (warrantorlaw18_NormAgain.j0 k t187 true) = some r := by rw [if_neg (show ¬ (false = true) by decide)] at H; exact H
        clear H
        have H := H1
        clear H1
        have H' := Aside0.mk H
        clear H
        go_wp2_with (first | ((with_reducible refine gate_callee (f := 7) rfl ?_); refine goesL_ (some 11) rfl rfl Try.func7 (by kernel_rfl) rfl #[] rfl (by (try simp only [List.map_toArray, List.map_cons, List.map_nil]); first | done | rfl | (simp only [List.length_drop, List.length_take]; rfl)) ?_; (with_reducible refine (warrantorlaw18_lives.calls k  false _ A8.out).mono ?_); rintro e w21 ⟨rfl, hb⟩; refine ⟨_, rfl, ?_⟩; have n0_ := Aside0.mk (below_step (by repeat (first | (with_reducible first | exact HB.out | apply below_alloc | apply pw_below_drewN | apply below_drew1) | exact HB.out)) hb); clear HB; have HB := n0_; clear n0_; (try clear hb); (try clear hb2); (try clear hk); (try clear hi)))
        go_meet
        case rel => exact ⟨_, (true), (by first | rfl | (simp; done) | (simp [*]; done)), H', ⟨by first | omega | exact Nat.le_refl _⟩, ⟨by repeat (first | (with_reducible first | exact HB.out | apply below_alloc | apply pw_below_drewN | apply below_drew1) | exact HB.out)⟩⟩
    case rest =>
      clear HC6
      try clear c1
      try clear c2
      try clear c2b0
      try clear c2b1
      try clear p2
      try clear c4
      try clear c7
      try clear c8
      try clear c9
      try clear c11
      try clear c11b0
      try clear c11b1
      try clear c12
      try clear c12b0
      try clear c12b1
      obtain ⟨kq, x31_5, rfl, HA, HJ5, HB⟩ := hcut
      cases kq with
      | zero => exact absurd HA.out (by simp [warrantorlaw18_NormAgain.j0])
      | succ kj5 =>
        have H := HA.out
        clear HA
        simp only [warrantorlaw18_NormAgain.j0] at H
        by_cases c22 : x31_5 = true
        · subst c22
          have H1 : (none) = some r := by rw [if_pos rfl] at H; exact H
          clear H
          have H := H1
          clear H1
          exact absurd H (by simp)
        · replace c22 := Bool.eq_false_iff.mpr c22
          subst c22
          have H1 : (warrantorlaw18_NormAgain.l0 kj5 t187 0) = some r := by rw [if_neg (show ¬ (false = true) by decide)] at H; exact H
          clear H
          have H := H1
          clear H1
          have H' := Aside0.mk H
          clear H
          go_wp2
          go_loopg [4] kj5 (fun kq v4 w' => ∃ (x4_2 : Int), v4 = .int .i64 x4_2 ∧ Aside0 (warrantorlaw18_NormAgain.l0 kq t187 x4_2 = some r) ∧ Aside0 (kq ≤ kj5) ∧ Aside0 (Below w.heap.size w w'))
          case atStart => exact ⟨(0), (by first | rfl | (simp; done) | (simp [*]; done)), H', ⟨Nat.le_refl _⟩, ⟨by repeat (first | (with_reducible first | exact HB.out | apply below_alloc | apply pw_below_drewN | apply below_drew1) | exact HB.out)⟩⟩
          case round =>
            clear H'
            try clear c1
            try clear c2
            try clear c2b0
            try clear c2b1
            try clear p2
            try clear c4
            try clear c7
            try clear c8
            try clear c9
            try clear c11
            try clear c11b0
            try clear c11b1
            try clear c12
            try clear c12b0
            try clear c12b1
            try clear c22
            try clear p2
            obtain ⟨x4_2, rfl, HA, HK2, HB⟩ := hrel
            cases gk with
            | zero => exact absurd HA.out (by simp [warrantorlaw18_NormAgain.l0])
            | succ k2 =>
              have H := HA.out
              clear HA
              simp only [warrantorlaw18_NormAgain.l0] at H
              by_cases c23 : x4_2 < (t187.size : Int)
              · rw [if_pos c23] at H
                have c23b0 : decide (x4_2 < (t187.size : Int)) = true := decide_eq_true c23
                clear c23
                by_cases c24 : 0 ≤ x4_2
                · rw [if_pos c24] at H
                  have c24b0 : decide (0 ≤ x4_2) = true := decide_eq_true c24
                  clear c24
                  by_cases c26 : (bt t187 x4_2) = 32
                  · rw [if_pos c26] at H
                    have c26b0 : ((bt t187 x4_2) == 32) = true := beq_iff_eq.mpr c26
                    have c26b1 : ((bt t187 x4_2) != 32) = false := bne_eq_false_iff_eq.mpr c26
                    clear c26
                    by_cases c27 : x4_2 = 0
                    · rw [if_pos c27] at H
                      exact absurd H (by simp)
                    · rw [if_neg c27] at H
                      have c27b0 : (x4_2 == 0) = false := beq_eq_false_iff_ne.mpr c27
                      have c27b1 : (x4_2 != 0) = true := bne_iff_ne.mpr c27
                      by_cases c28 : x4_2 = (wrap64 ((t187.size : Int) - 1))
                      · rw [if_pos c28] at H
                        exact absurd H (by simp)
                      · rw [if_neg c28] at H
                        have c28b0 : (x4_2 == (wrap64 ((t187.size : Int) - 1))) = false := beq_eq_false_iff_ne.mpr c28
                        have c28b1 : (x4_2 != (wrap64 ((t187.size : Int) - 1))) = true := bne_iff_ne.mpr c28
                        obtain ⟨ji29, hji29⟩ : ∃ j_ : Int, (wrap64 (x4_2 + 1)) = j_ := ⟨_, rfl⟩
                        replace H : (if 0 ≤ (ji29) then (if (ji29) < (t187.size : Int) then (if (bt t187 (ji29)) = 32 then (none) else (warrantorlaw18_NormAgain.l0 k2 t187 ji29)) else (none)) else (none)) = some r := by first | (rw [hji29] at H; exact H) | (simp only [hji29] at H ⊢; exact H)
                        have hji29w : (IntKind.i64.wrap (x4_2 + 1)) = ji29 := (i64_w _).trans hji29
                        by_cases c30 : 0 ≤ (ji29)
                        · rw [if_pos c30] at H
                          have c30b0 : decide (0 ≤ (ji29)) = true := decide_eq_true c30
                          clear c30
                          by_cases c31 : (ji29) < (t187.size : Int)
                          · rw [if_pos c31] at H
                            have c31b0 : decide ((ji29) < (t187.size : Int)) = true := decide_eq_true c31
                            clear c31
                            by_cases c33 : (bt t187 (ji29)) = 32
                            · rw [if_pos c33] at H
                              exact absurd H (by simp)
                            · rw [if_neg c33] at H
                              have c33b0 : ((bt t187 (ji29)) == 32) = false := beq_eq_false_iff_ne.mpr c33
                              have c33b1 : ((bt t187 (ji29)) != 32) = true := bne_iff_ne.mpr c33
                              have H' := Aside0.mk H
                              clear H
                              have p25 : 0 ≤ (x4_2 : Int) := of_decide_eq_true (by first | (with_reducible assumption) | assumption)
                              have q25 : x4_2 < (t187.size : Int) := of_decide_eq_true (by first | (with_reducible assumption) | assumption)
                              have hx25 := bt_at t187 x4_2
                              replace p25 := eq_true p25
                              replace q25 := eq_true q25
                              have p32 : 0 ≤ ((ji29) : Int) := of_decide_eq_true (by first | (with_reducible assumption) | assumption)
                              have q32 : (ji29) < (t187.size : Int) := of_decide_eq_true (by first | (with_reducible assumption) | assumption)
                              have hx32 := bt_at t187 (ji29)
                              replace p32 := eq_true p32
                              replace q32 := eq_true q32
                              go_wp2
                              go_roundg k2
                              case measure => have := HJ5.out; have := HK2.out; omega
                              case rel => exact ⟨(ji29), (by first | rfl | (simp; done) | (simp only [← hji29] <;> (first | rfl | simp)) | (simp [*]; done)), H', ⟨by have := HJ5.out; have := HK2.out; omega⟩, ⟨by repeat (first | (with_reducible first | exact HB.out | apply below_alloc | apply pw_below_drewN | apply below_drew1) | exact HB.out)⟩⟩
                          · rw [if_neg c31] at H
                            exact absurd H (by simp)
                        · rw [if_neg c30] at H
                          exact absurd H (by simp)
                  · rw [if_neg c26] at H
                    have c26b0 : ((bt t187 x4_2) == 32) = false := beq_eq_false_iff_ne.mpr c26
                    have c26b1 : ((bt t187 x4_2) != 32) = true := bne_iff_ne.mpr c26
                    have H' := Aside0.mk H
                    clear H
                    have p25 : 0 ≤ (x4_2 : Int) := of_decide_eq_true (by first | (with_reducible assumption) | assumption)
                    have q25 : x4_2 < (t187.size : Int) := of_decide_eq_true (by first | (with_reducible assumption) | assumption)
                    have hx25 := bt_at t187 x4_2
                    replace p25 := eq_true p25
                    replace q25 := eq_true q25
                    go_wp2
                    go_roundg k2
                    case measure => have := HJ5.out; have := HK2.out; omega
                    case rel => exact ⟨(wrap64 (x4_2 + 1)), (by first | rfl | (simp; done) | (simp [*]; done)), H', ⟨by have := HJ5.out; have := HK2.out; omega⟩, ⟨by repeat (first | (with_reducible first | exact HB.out | apply below_alloc | apply pw_below_drewN | apply below_drew1) | exact HB.out)⟩⟩
                · rw [if_neg c24] at H
                  exact absurd H (by simp)
              · rw [if_neg c23] at H
                have c23b0 : decide (x4_2 < (t187.size : Int)) = false := decide_eq_false c23
                clear c23
                obtain rfl := Option.some.inj H
                go_wp2
                go_ret
                exact ⟨by first | rfl | (simp [errW_none, errW_some] <;> rfl) | (simp [*, errW_none, errW_some] <;> rfl), by repeat (first | (with_reducible first | exact HB.out | apply below_alloc | apply pw_below_drewN | apply below_drew1) | exact HB.out)⟩

/-- THE ONE PURE STATEMENT of warrantorlaw18_NormAgain: yours. -/
def warrantorlaw18_NormAgain.Pure : Prop := ∀ (a0 : ByteArray), a0.size ≤ 140737488351232 → ∃ k, warrantorlaw18_NormAgain.f k a0 = some true
theorem warrantorlaw18_NormAgain.walk (P : warrantorlaw18_NormAgain.Pure) (a0 : ByteArray) (w : World) (w0 : a0.size ≤ 140737488351232) :
    Calls Try.prog 4 #[.string a0] w fun e w' => e = .returned (.bool true) ∧ Below w.heap.size w w' := by
  obtain ⟨k, h⟩ := P a0 w0
  refine (warrantorlaw18_NormAgain.calls k a0 true w h).mono ?_
  rintro e w' ⟨rfl, hd⟩
  exact ⟨rfl, hd⟩

end Go.Proofs.Ytgecigndgkcpkaa.PAll
