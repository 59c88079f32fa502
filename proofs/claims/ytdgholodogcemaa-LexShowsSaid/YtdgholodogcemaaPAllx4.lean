/- Functions of the translation as plain Lean functions, and for each the proof that the machine's call does what that function says (laid by wip/tools/myprint.py of this session, by way of the print). -/
import Derived.Test.YtdgholodogcemaaPAllx0
import Derived.Test.YtdgholodogcemaaPAllx1
import Derived.Test.YtdgholodogcemaaPAllx3
namespace Go.Proofs.Ytdgholodogcemaa.PAll
open Go.RowKit Go.Proofs.YtdgholodogcemaaW.PrintWords Go.Proofs.YtdgholodogcemaaW.PrintLast Go.Proofs.YtdgholodogcemaaW.PrintMore
attribute [local go_sem] max2_int min2_int max_two min_two max_three min_three max_four min_four   -- for this text's walks alone
set_option linter.unusedVariables false
set_option linter.unusedSimpArgs false

/-! ### warrantorlaw23_LexShows: function 4 -/
def warrantorlaw23_LexShows.f (k : Nat) (l0 : List (S36)) : Option (Bool) := (warrantorref23_Large.f k l0).bind fun t139 => (if t139 = true then ((warrantorlaw23_lives.f).bind fun t140 => (some t140)) else ((lex_Show.f l0).bind fun bt141 => ((warrantorref23_Show.f k l0).bind fun bt143 => ((warrantorlaw23_lives.f).bind fun t145 => (if t145 = true then (if bt143.2 = true then ((lex_Tokens.f bt141.1).bind fun bt146 => (if bt141.2 = 0 then (if bt141.1.toList = bt143.1.toList then (if bt146.2.2.2 = 0 then ((warrantorref23_Same.f bt146.1 l0 false).bind fun t152 => (some t152)) else (none)) else (none)) else (none))) else (if bt141.2 = 1 then (some (bt141.1.toList == ([] : List UInt8))) else (none))) else (none))))))
theorem warrantorlaw23_LexShows.mono : ∀ a0 k, LeO (warrantorlaw23_LexShows.f k a0) (warrantorlaw23_LexShows.f (k + 1) a0) := by
  intro a0 k
  unfold warrantorlaw23_LexShows.f
  repeat' first
      | (with_reducible exact warrantorref23_Large.mono _ _)
      | (with_reducible exact warrantorref23_Show.mono _ _)
      | (with_reducible exact LeO.refl _)
      | (with_reducible exact LeO.none _)
      | (with_reducible refine LeO.ite ?_ ?_)
      | (with_reducible refine LeO.bind ?_ (fun _ => ?_))
      | exact warrantorref23_Large.mono _ _
      | exact warrantorref23_Show.mono _ _
      | exact LeO.none _
      | refine LeO.ite ?_ ?_
      | refine LeO.bind ?_ (fun _ => ?_)
set_option maxHeartbeats 8000000 in
set_option maxRecDepth 100000 in
theorem warrantorlaw23_LexShows.calls (k : Nat) (A0 : Option Addr) (c0 : Nat) (l0 : List (S36)) (r : Bool) (w : World) (hr0 : Kd.C k36 w A0 l0.length l0) (hc0 : l0.length ≤ c0) (h : warrantorlaw23_LexShows.f k l0 = some r) :
    Calls Try.prog 4 #[.slice A0 l0.length c0] w fun e w' => e = .returned (.bool r) ∧ Below w.heap.size w w' := by
  have HR0 := Aside0.mk hr0
  have HC0 := Aside0.mk hc0
  clear hr0 hc0
  have HB := Aside0.mk (Below.refl w.heap.size w)
  have H : ((warrantorref23_Large.f k l0).bind fun t139 => (if t139 = true then ((warrantorlaw23_lives.f).bind fun t140 => (some t140)) else ((lex_Show.f l0).bind fun bt141 => ((warrantorref23_Show.f k l0).bind fun bt143 => ((warrantorlaw23_lives.f).bind fun t145 => (if t145 = true then (if bt143.2 = true then ((lex_Tokens.f bt141.1).bind fun bt146 => (if bt141.2 = 0 then (if bt141.1.toList = bt143.1.toList then (if bt146.2.2.2 = 0 then ((warrantorref23_Same.f bt146.1 l0 false).bind fun t152 => (some t152)) else (none)) else (none)) else (none))) else (if bt141.2 = 1 then (some (bt141.1.toList == ([] : List UInt8))) else (none))) else (none))))))) = some r := h
  clear h
  replace H := Option.bind_eq_some_iff.mp H
  obtain ⟨t139, A20, H⟩ := H
  replace H : (if t139 = true then ((warrantorlaw23_lives.f).bind fun t140 => (some t140)) else ((lex_Show.f l0).bind fun bt141 => ((warrantorref23_Show.f k l0).bind fun bt143 => ((warrantorlaw23_lives.f).bind fun t145 => (if t145 = true then (if bt143.2 = true then ((lex_Tokens.f bt141.1).bind fun bt146 => (if bt141.2 = 0 then (if bt141.1.toList = bt143.1.toList then (if bt146.2.2.2 = 0 then ((warrantorref23_Same.f bt146.1 l0 false).bind fun t152 => (some t152)) else (none)) else (none)) else (none))) else (if bt141.2 = 1 then (some (bt141.1.toList == ([] : List UInt8))) else (none))) else (none)))))) = some r := H
  have A2 := Aside0.mk A20
  clear A20
  by_cases c3 : t139 = true
  · subst c3
    have H1 : ((warrantorlaw23_lives.f).bind fun t140 => (some t140)) = some r := by rw [if_pos rfl] at H; exact H
    clear H
    have H := H1
    clear H1
    replace H := Option.bind_eq_some_iff.mp H
    obtain ⟨t140, A40, H⟩ := H
    replace H : (some t140) = some r := H
    have A4 := Aside0.mk A40
    clear A40
    obtain rfl := Option.some.inj H
    go_enter Try.func4, Try.ntmps4
    go_wp2_with (first | ((with_reducible refine gate_callee (f := 13) rfl ?_); refine goesL_ (some 12) rfl rfl Try.func13 (by kernel_rfl) rfl #[.slice A0 l0.length c0] rfl (by (try simp only [List.map_toArray, List.map_cons, List.map_nil]); first | done | rfl | (simp only [List.length_drop, List.length_take]; rfl)) ?_; (with_reducible refine (warrantorref23_Large.calls k _ _ l0 true _ ?side1 ?side2 A2.out).mono ?_); (case side1 => repeat (first | exact HR0.out | (with_reducible refine Kd.C_alloc ?_ _) | (with_reducible refine Kd.C_drewN ?_ _) | (with_reducible refine Kd.C_drew ?_))); (case side2 => exact HC0.out); rintro e w' ⟨rfl, ⟨nd, rfl⟩⟩; refine ⟨_, rfl, ?_⟩) | ((with_reducible refine gate_callee (f := 8) rfl ?_); refine goesL_ (some 13) rfl rfl Try.func8 (by kernel_rfl) rfl #[] rfl (by (try simp only [List.map_toArray, List.map_cons, List.map_nil]); first | done | rfl | (simp only [List.length_drop, List.length_take]; rfl)) ?_; (with_reducible refine (warrantorlaw23_lives.calls  t140 _ A4.out).mono ?_); rintro e w5 ⟨rfl, hb⟩; refine ⟨_, rfl, ?_⟩; have n0_ := Aside0.mk (below_step (by repeat (first | (with_reducible first | exact HB.out | apply below_alloc | apply pw_below_drewN | apply below_drew1) | exact HB.out)) hb); clear HB; have HB := n0_; clear n0_; (try clear hb); (try clear hb2); (try clear hk); (try clear hi)))
    go_ret
    exact ⟨by first | rfl | (simp [errW_none, errW_some] <;> rfl) | (simp [*, errW_none, errW_some] <;> rfl), by repeat (first | (with_reducible first | exact HB.out | apply below_alloc | apply pw_below_drewN | apply below_drew1) | exact HB.out)⟩
  · replace c3 := Bool.eq_false_iff.mpr c3
    subst c3
    have H1 : ((lex_Show.f l0).bind fun bt141 => ((warrantorref23_Show.f k l0).bind fun bt143 => ((warrantorlaw23_lives.f).bind fun t145 => (if t145 = true then (if bt143.2 = true then ((lex_Tokens.f bt141.1).bind fun bt146 => (if bt141.2 = 0 then (if bt141.1.toList = bt143.1.toList then (if bt146.2.2.2 = 0 then ((warrantorref23_Same.f bt146.1 l0 false).bind fun t152 => (some t152)) else (none)) else (none)) else (none))) else (if bt141.2 = 1 then (some (bt141.1.toList == ([] : List UInt8))) else (none))) else (none))))) = some r := by rw [if_neg (show ¬ (false = true) by decide)] at H; exact H
    clear H
    have H := H1
    clear H1
    replace H := Option.bind_eq_some_iff.mp H
    obtain ⟨⟨t141, t142⟩, A60, H⟩ := H
    replace H : ((warrantorref23_Show.f k l0).bind fun bt143 => ((warrantorlaw23_lives.f).bind fun t145 => (if t145 = true then (if bt143.2 = true then ((lex_Tokens.f t141).bind fun bt146 => (if t142 = 0 then (if t141.toList = bt143.1.toList then (if bt146.2.2.2 = 0 then ((warrantorref23_Same.f bt146.1 l0 false).bind fun t152 => (some t152)) else (none)) else (none)) else (none))) else (if t142 = 1 then (some (t141.toList == ([] : List UInt8))) else (none))) else (none)))) = some r := H
    have A6 := Aside0.mk A60
    clear A60
    replace H := Option.bind_eq_some_iff.mp H
    obtain ⟨⟨t143, t144⟩, A70, H⟩ := H
    replace H : ((warrantorlaw23_lives.f).bind fun t145 => (if t145 = true then (if t144 = true then ((lex_Tokens.f t141).bind fun bt146 => (if t142 = 0 then (if t141.toList = t143.toList then (if bt146.2.2.2 = 0 then ((warrantorref23_Same.f bt146.1 l0 false).bind fun t152 => (some t152)) else (none)) else (none)) else (none))) else (if t142 = 1 then (some (t141.toList == ([] : List UInt8))) else (none))) else (none))) = some r := H
    have A7 := Aside0.mk A70
    clear A70
    replace H := Option.bind_eq_some_iff.mp H
    obtain ⟨t145, A80, H⟩ := H
    replace H : (if t145 = true then (if t144 = true then ((lex_Tokens.f t141).bind fun bt146 => (if t142 = 0 then (if t141.toList = t143.toList then (if bt146.2.2.2 = 0 then ((warrantorref23_Same.f bt146.1 l0 false).bind fun t152 => (some t152)) else (none)) else (none)) else (none))) else (if t142 = 1 then (some (t141.toList == ([] : List UInt8))) else (none))) else (none)) = some r := H
    have A8 := Aside0.mk A80
    clear A80
    by_cases c9 : t145 = true
    · subst c9
      have H1 : (if t144 = true then ((lex_Tokens.f t141).bind fun bt146 => (if t142 = 0 then (if t141.toList = t143.toList then (if bt146.2.2.2 = 0 then ((warrantorref23_Same.f bt146.1 l0 false).bind fun t152 => (some t152)) else (none)) else (none)) else (none))) else (if t142 = 1 then (some (t141.toList == ([] : List UInt8))) else (none))) = some r := by rw [if_pos rfl] at H; exact H
      clear H
      have H := H1
      clear H1
      by_cases c10 : t144 = true
      · subst c10
        have H1 : ((lex_Tokens.f t141).bind fun bt146 => (if t142 = 0 then (if t141.toList = t143.toList then (if bt146.2.2.2 = 0 then ((warrantorref23_Same.f bt146.1 l0 false).bind fun t152 => (some t152)) else (none)) else (none)) else (none))) = some r := by rw [if_pos rfl] at H; exact H
        clear H
        have H := H1
        clear H1
        replace H := Option.bind_eq_some_iff.mp H
        obtain ⟨⟨t146, t147, t148, t149⟩, A110, H⟩ := H
        replace H : (if t142 = 0 then (if t141.toList = t143.toList then (if t149 = 0 then ((warrantorref23_Same.f t146 l0 false).bind fun t152 => (some t152)) else (none)) else (none)) else (none)) = some r := H
        have A11 := Aside0.mk A110
        clear A110
        by_cases c12 : t142 = 0
        · rw [if_pos c12] at H
          have c12b0 : (t142 == 0) = true := beq_iff_eq.mpr c12
          have c12b1 : (t142 != 0) = false := bne_eq_false_iff_eq.mpr c12
          clear c12
          by_cases c13 : t141.toList = t143.toList
          · rw [if_pos c13] at H
            have c13b0 : (t141.toList == t143.toList) = true := beq_iff_eq.mpr c13
            have c13b1 : (t141.toList != t143.toList) = false := bne_eq_false_iff_eq.mpr c13
            clear c13
            by_cases c14 : t149 = 0
            · rw [if_pos c14] at H
              have c14b0 : (t149 == 0) = true := beq_iff_eq.mpr c14
              have c14b1 : (t149 != 0) = false := bne_eq_false_iff_eq.mpr c14
              clear c14
              replace H := Option.bind_eq_some_iff.mp H
              obtain ⟨t152, A150, H⟩ := H
              replace H : (some t152) = some r := H
              have A15 := Aside0.mk A150
              clear A150
              obtain rfl := Option.some.inj H
              go_enter Try.func4, Try.ntmps4
              go_wp2_with (first | ((with_reducible refine gate_callee (f := 13) rfl ?_); refine goesL_ (some 12) rfl rfl Try.func13 (by kernel_rfl) rfl #[.slice A0 l0.length c0] rfl (by (try simp only [List.map_toArray, List.map_cons, List.map_nil]); first | done | rfl | (simp only [List.length_drop, List.length_take]; rfl)) ?_; (with_reducible refine (warrantorref23_Large.calls k _ _ l0 false _ ?side1 ?side2 A2.out).mono ?_); (case side1 => repeat (first | exact HR0.out | (with_reducible refine Kd.C_alloc ?_ _) | (with_reducible refine Kd.C_drewN ?_ _) | (with_reducible refine Kd.C_drew ?_))); (case side2 => exact HC0.out); rintro e w' ⟨rfl, ⟨nd, rfl⟩⟩; refine ⟨_, rfl, ?_⟩) | ((with_reducible refine gate_callee (f := 12) rfl ?_); refine goesL_ (some 16) rfl rfl Try.func12 (by kernel_rfl) rfl #[.slice A0 l0.length c0] rfl (by (try simp only [List.map_toArray, List.map_cons, List.map_nil]); first | done | rfl | (simp only [List.length_drop, List.length_take]; rfl)) ?_; (with_reducible refine (lex_Show.calls _ _ l0 t141 t142 _ ?side1 ?side2 A6.out).mono ?_); (case side1 => repeat (first | exact HR0.out | (with_reducible refine Kd.C_alloc ?_ _) | (with_reducible refine Kd.C_drewN ?_ _) | (with_reducible refine Kd.C_drew ?_))); (case side2 => exact HC0.out); rintro e w16 ⟨rfl, hb⟩; refine ⟨_, rfl, ?_⟩; have n0_ := Aside0.mk (below_step (by repeat (first | (with_reducible first | exact HB.out | apply below_alloc | apply pw_below_drewN | apply below_drew1) | exact HB.out)) hb); clear HB; have HB := n0_; clear n0_; (try clear hb); (try clear hb2); (try clear hk); (try clear hi)) | ((with_reducible refine gate_callee (f := 14) rfl ?_); refine goesL_ (some 21) rfl rfl Try.func14 (by kernel_rfl) rfl #[.slice A0 l0.length c0] rfl (by (try simp only [List.map_toArray, List.map_cons, List.map_nil]); first | done | rfl | (simp only [List.length_drop, List.length_take]; rfl)) ?_; (with_reducible refine (warrantorref23_Show.calls k _ _ l0 t143 true _ ?side1 ?side2 A7.out).mono ?_); (case side1 => repeat (first | exact (Kd.C_below HR0.out HB.out) | (with_reducible refine Kd.C_alloc ?_ _) | (with_reducible refine Kd.C_drewN ?_ _) | (with_reducible refine Kd.C_drew ?_))); (case side2 => exact HC0.out); rintro e w17 ⟨rfl, hb⟩; refine ⟨_, rfl, ?_⟩; have n0_ := Aside0.mk (below_step (by repeat (first | (with_reducible first | exact HB.out | apply below_alloc | apply pw_below_drewN | apply below_drew1) | exact HB.out)) hb); clear HB; have HB := n0_; clear n0_; (try clear hb); (try clear hb2); (try clear hk); (try clear hi)) | ((with_reducible refine gate_callee (f := 8) rfl ?_); refine goesL_ (some 24) rfl rfl Try.func8 (by kernel_rfl) rfl #[] rfl (by (try simp only [List.map_toArray, List.map_cons, List.map_nil]); first | done | rfl | (simp only [List.length_drop, List.length_take]; rfl)) ?_; (with_reducible refine (warrantorlaw23_lives.calls  true _ A8.out).mono ?_); rintro e w18 ⟨rfl, hb⟩; refine ⟨_, rfl, ?_⟩; have n0_ := Aside0.mk (below_step (by repeat (first | (with_reducible first | exact HB.out | apply below_alloc | apply pw_below_drewN | apply below_drew1) | exact HB.out)) hb); clear HB; have HB := n0_; clear n0_; (try clear hb); (try clear hb2); (try clear hk); (try clear hi)) | ((with_reducible refine gate_callee (f := 9) rfl ?_); refine goesL_ (some 36) rfl rfl Try.func9 (by kernel_rfl) rfl #[.string t141] rfl (by (try simp only [List.map_toArray, List.map_cons, List.map_nil]); first | done | rfl | (simp only [List.length_drop, List.length_take]; rfl)) ?_; (with_reducible refine (lex_Tokens.calls t141 t146 t147 t148 t149 _ A11.out).mono ?_); rintro e w19 ⟨v150, rfl, ho0, hb⟩; refine ⟨_, rfl, ?_⟩; have n0_ := Aside0.mk (Kd.R_lower ho0 (below_size (by repeat (first | (with_reducible first | exact HB.out | apply below_alloc | apply pw_below_drewN | apply below_drew1) | exact HB.out)))); have n1_ := Aside0.mk (below_step (by repeat (first | (with_reducible first | exact HB.out | apply below_alloc | apply pw_below_drewN | apply below_drew1) | exact HB.out)) hb); clear HB; have HO151 := n0_; have HB := n1_; clear n0_ n1_; (try clear hb); (try clear hb2); (try clear hk); (try clear hi); (try clear ho0); obtain ⟨Ao20, co20, eo20⟩ := Kd.R_slice HO151.out; subst eo20) | (go_at_call 11; (with_reducible refine (warrantorref23_Same.calls _ _ t146 _ _ l0 false t152 _ ?side1 ?side2 ?side3 ?side4 A15.out).mono ?_); (case side1 => repeat (first | exact (Kd.R_reads' HO151.out).2.2 | (with_reducible refine Kd.C_alloc ?_ _) | (with_reducible refine Kd.C_drewN ?_ _) | (with_reducible refine Kd.C_drew ?_))); (case side2 => exact (Kd.R_reads' HO151.out).2.1); (case side3 => repeat (first | exact (Kd.C_below HR0.out HB.out) | (with_reducible refine Kd.C_alloc ?_ _) | (with_reducible refine Kd.C_drewN ?_ _) | (with_reducible refine Kd.C_drew ?_))); (case side4 => exact HC0.out); rintro e w21 ⟨rfl, hb⟩; have n0_ := Aside0.mk (Kd.R_below (by (with_reducible repeat (first | apply Kd.R_alloc | apply Kd.R_drewN | apply Kd.R_drew)); exact HO151.out) hb); have n1_ := Aside0.mk (below_step (by repeat (first | (with_reducible first | exact HB.out | apply below_alloc | apply pw_below_drewN | apply below_drew1) | exact HB.out)) hb); clear HO151; clear HB; have HO151 := n0_; have HB := n1_; clear n0_ n1_; (try clear hb); (try clear hb2); (try clear hk); (try clear hi)))
              go_ret
              exact ⟨by first | rfl | (simp [errW_none, errW_some] <;> rfl) | (simp [*, errW_none, errW_some] <;> rfl), by repeat (first | (with_reducible first | exact HB.out | apply below_alloc | apply pw_below_drewN | apply below_drew1) | exact HB.out)⟩
            · rw [if_neg c14] at H
              exact absurd H (by simp)
          · rw [if_neg c13] at H
            exact absurd H (by simp)
        · rw [if_neg c12] at H
          exact absurd H (by simp)
      · replace c10 := Bool.eq_false_iff.mpr c10
        subst c10
        have H1 : (if t142 = 1 then (some (t141.toList == ([] : List UInt8))) else (none)) = some r := by rw [if_neg (show ¬ (false = true) by decide)] at H; exact H
        clear H
        have H := H1
        clear H1
        by_cases c22 : t142 = 1
        · rw [if_pos c22] at H
          have c22b0 : (t142 == 1) = true := beq_iff_eq.mpr c22
          have c22b1 : (t142 != 1) = false := bne_eq_false_iff_eq.mpr c22
          clear c22
          obtain rfl := Option.some.inj H
          go_enter Try.func4, Try.ntmps4
          go_wp2_with (first | ((with_reducible refine gate_callee (f := 13) rfl ?_); refine goesL_ (some 12) rfl rfl Try.func13 (by kernel_rfl) rfl #[.slice A0 l0.length c0] rfl (by (try simp only [List.map_toArray, List.map_cons, List.map_nil]); first | done | rfl | (simp only [List.length_drop, List.length_take]; rfl)) ?_; (with_reducible refine (warrantorref23_Large.calls k _ _ l0 false _ ?side1 ?side2 A2.out).mono ?_); (case side1 => repeat (first | exact HR0.out | (with_reducible refine Kd.C_alloc ?_ _) | (with_reducible refine Kd.C_drewN ?_ _) | (with_reducible refine Kd.C_drew ?_))); (case side2 => exact HC0.out); rintro e w' ⟨rfl, ⟨nd, rfl⟩⟩; refine ⟨_, rfl, ?_⟩) | ((with_reducible refine gate_callee (f := 12) rfl ?_); refine goesL_ (some 16) rfl rfl Try.func12 (by kernel_rfl) rfl #[.slice A0 l0.length c0] rfl (by (try simp only [List.map_toArray, List.map_cons, List.map_nil]); first | done | rfl | (simp only [List.length_drop, List.length_take]; rfl)) ?_; (with_reducible refine (lex_Show.calls _ _ l0 t141 t142 _ ?side1 ?side2 A6.out).mono ?_); (case side1 => repeat (first | exact HR0.out | (with_reducible refine Kd.C_alloc ?_ _) | (with_reducible refine Kd.C_drewN ?_ _) | (with_reducible refine Kd.C_drew ?_))); (case side2 => exact HC0.out); rintro e w23 ⟨rfl, hb⟩; refine ⟨_, rfl, ?_⟩; have n0_ := Aside0.mk (below_step (by repeat (first | (with_reducible first | exact HB.out | apply below_alloc | apply pw_below_drewN | apply below_drew1) | exact HB.out)) hb); clear HB; have HB := n0_; clear n0_; (try clear hb); (try clear hb2); (try clear hk); (try clear hi)) | ((with_reducible refine gate_callee (f := 14) rfl ?_); refine goesL_ (some 21) rfl rfl Try.func14 (by kernel_rfl) rfl #[.slice A0 l0.length c0] rfl (by (try simp only [List.map_toArray, List.map_cons, List.map_nil]); first | done | rfl | (simp only [List.length_drop, List.length_take]; rfl)) ?_; (with_reducible refine (warrantorref23_Show.calls k _ _ l0 t143 false _ ?side1 ?side2 A7.out).mono ?_); (case side1 => repeat (first | exact (Kd.C_below HR0.out HB.out) | (with_reducible refine Kd.C_alloc ?_ _) | (with_reducible refine Kd.C_drewN ?_ _) | (with_reducible refine Kd.C_drew ?_))); (case side2 => exact HC0.out); rintro e w24 ⟨rfl, hb⟩; refine ⟨_, rfl, ?_⟩; have n0_ := Aside0.mk (below_step (by repeat (first | (with_reducible first | exact HB.out | apply below_alloc | apply pw_below_drewN | apply below_drew1) | exact HB.out)) hb); clear HB; have HB := n0_; clear n0_; (try clear hb); (try clear hb2); (try clear hk); (try clear hi)) | ((with_reducible refine gate_callee (f := 8) rfl ?_); refine goesL_ (some 24) rfl rfl Try.func8 (by kernel_rfl) rfl #[] rfl (by (try simp only [List.map_toArray, List.map_cons, List.map_nil]); first | done | rfl | (simp only [List.length_drop, List.length_take]; rfl)) ?_; (with_reducible refine (warrantorlaw23_lives.calls  true _ A8.out).mono ?_); rintro e w25 ⟨rfl, hb⟩; refine ⟨_, rfl, ?_⟩; have n0_ := Aside0.mk (below_step (by repeat (first | (with_reducible first | exact HB.out | apply below_alloc | apply pw_below_drewN | apply below_drew1) | exact HB.out)) hb); clear HB; have HB := n0_; clear n0_; (try clear hb); (try clear hb2); (try clear hk); (try clear hi)))
          go_ret
          exact ⟨by first | rfl | (simp [errW_none, errW_some] <;> rfl) | (simp [*, errW_none, errW_some] <;> rfl), by repeat (first | (with_reducible first | exact HB.out | apply below_alloc | apply pw_below_drewN | apply below_drew1) | exact HB.out)⟩
        · rw [if_neg c22] at H
          exact absurd H (by simp)
    · replace c9 := Bool.eq_false_iff.mpr c9
      subst c9
      have H1 : (none) = some r := by rw [if_neg (show ¬ (false = true) by decide)] at H; exact H
      clear H
      have H := H1
      clear H1
      exact absurd H (by simp)

/-! ### warrantorlaw23_LexQuotes: function 5 -/
def warrantorlaw23_LexQuotes.f (k : Nat) (a0 : ByteArray) : Option (Bool) := if (a0.size : Int) > 1000 then ((warrantorlaw23_lives.f).bind fun t153 => (some t153)) else ((lex_Quote.f a0).bind fun t154 => (if t154.size + 1 ≤ 9223372036854775807 then ((lex_Tokens.f (t154 ++ (⟨#[10]⟩ : ByteArray))).bind fun bt155 => ((warrantorlaw23_lives.f).bind fun t161 => (if t161 = true then ((lex_Quote.f a0).bind fun t162 => ((warrantorref23_Quote.f k a0).bind fun t163 => (if t162.toList = t163.toList then ((lex_Word.f a0).bind fun t164 => ((warrantorref23_Word.f k a0).bind fun t165 => (if (t164 == t165) = true then (if bt155.2.2.2 = 0 then (if (bt155.1.length : Int) = 2 then (if 0 < (bt155.1.length : Int) then (if ((rd_T36 bt155.1 0).f0) = 2 then (some (decide ((((rd_T36 bt155.1 0).f3).size : Int) ≤ (a0.size : Int)))) else (none)) else (none)) else (none)) else (none)) else (none)))) else (none)))) else (none)))) else (none)))
theorem warrantorlaw23_LexQuotes.mono : ∀ a0 k, LeO (warrantorlaw23_LexQuotes.f k a0) (warrantorlaw23_LexQuotes.f (k + 1) a0) := by
  intro a0 k
  unfold warrantorlaw23_LexQuotes.f
  repeat' first
      | (with_reducible exact warrantorref23_Quote.mono _ _)
      | (with_reducible exact warrantorref23_Word.mono _ _)
      | (with_reducible exact LeO.refl _)
      | (with_reducible exact LeO.none _)
      | (with_reducible refine LeO.ite ?_ ?_)
      | (with_reducible refine LeO.bind ?_ (fun _ => ?_))
      | exact warrantorref23_Quote.mono _ _
      | exact warrantorref23_Word.mono _ _
      | exact LeO.none _
      | refine LeO.ite ?_ ?_
      | refine LeO.bind ?_ (fun _ => ?_)
set_option maxHeartbeats 8000000 in
set_option maxRecDepth 100000 in
theorem warrantorlaw23_LexQuotes.calls (k : Nat) (a0 : ByteArray) (r : Bool) (w : World) (h : warrantorlaw23_LexQuotes.f k a0 = some r) :
    Calls Try.prog 5 #[.string a0] w fun e w' => e = .returned (.bool r) ∧ Below w.heap.size w w' := by
  have HB := Aside0.mk (Below.refl w.heap.size w)
  have H : (if (a0.size : Int) > 1000 then ((warrantorlaw23_lives.f).bind fun t153 => (some t153)) else ((lex_Quote.f a0).bind fun t154 => (if t154.size + 1 ≤ 9223372036854775807 then ((lex_Tokens.f (t154 ++ (⟨#[10]⟩ : ByteArray))).bind fun bt155 => ((warrantorlaw23_lives.f).bind fun t161 => (if t161 = true then ((lex_Quote.f a0).bind fun t162 => ((warrantorref23_Quote.f k a0).bind fun t163 => (if t162.toList = t163.toList then ((lex_Word.f a0).bind fun t164 => ((warrantorref23_Word.f k a0).bind fun t165 => (if (t164 == t165) = true then (if bt155.2.2.2 = 0 then (if (bt155.1.length : Int) = 2 then (if 0 < (bt155.1.length : Int) then (if ((rd_T36 bt155.1 0).f0) = 2 then (some (decide ((((rd_T36 bt155.1 0).f3).size : Int) ≤ (a0.size : Int)))) else (none)) else (none)) else (none)) else (none)) else (none)))) else (none)))) else (none)))) else (none)))) = some r := h
  clear h
  by_cases c2 : (a0.size : Int) > 1000
  · rw [if_pos c2] at H
    have c2b0 : decide (1000 < (a0.size : Int)) = true := decide_eq_true c2
    have c2b1 : decide (1000 < a0.size) = true := decide_eq_true (by omega)
    clear c2
    replace H := Option.bind_eq_some_iff.mp H
    obtain ⟨t153, A30, H⟩ := H
    replace H : (some t153) = some r := H
    have A3 := Aside0.mk A30
    clear A30
    obtain rfl := Option.some.inj H
    go_enter Try.func5, Try.ntmps5
    go_wp2_with (first | ((with_reducible refine gate_callee (f := 8) rfl ?_); refine goesL_ (some 10) rfl rfl Try.func8 (by kernel_rfl) rfl #[] rfl (by (try simp only [List.map_toArray, List.map_cons, List.map_nil]); first | done | rfl | (simp only [List.length_drop, List.length_take]; rfl)) ?_; (with_reducible refine (warrantorlaw23_lives.calls  t153 _ A3.out).mono ?_); rintro e w4 ⟨rfl, hb⟩; refine ⟨_, rfl, ?_⟩; have n0_ := Aside0.mk (below_step (by repeat (first | (with_reducible first | exact HB.out | apply below_alloc | apply pw_below_drewN | apply below_drew1) | exact HB.out)) hb); clear HB; have HB := n0_; clear n0_; (try clear hb); (try clear hb2); (try clear hk); (try clear hi)))
    go_ret
    exact ⟨by first | rfl | (simp [errW_none, errW_some] <;> rfl) | (simp [*, errW_none, errW_some] <;> rfl), by repeat (first | (with_reducible first | exact HB.out | apply below_alloc | apply pw_below_drewN | apply below_drew1) | exact HB.out)⟩
  · rw [if_neg c2] at H
    have c2b0 : decide (1000 < (a0.size : Int)) = false := decide_eq_false c2
    have c2b1 : decide (1000 < a0.size) = false := decide_eq_false (by omega)
    clear c2
    replace H := Option.bind_eq_some_iff.mp H
    obtain ⟨t154, A50, H⟩ := H
    replace H : (if t154.size + 1 ≤ 9223372036854775807 then ((lex_Tokens.f (t154 ++ (⟨#[10]⟩ : ByteArray))).bind fun bt155 => ((warrantorlaw23_lives.f).bind fun t161 => (if t161 = true then ((lex_Quote.f a0).bind fun t162 => ((warrantorref23_Quote.f k a0).bind fun t163 => (if t162.toList = t163.toList then ((lex_Word.f a0).bind fun t164 => ((warrantorref23_Word.f k a0).bind fun t165 => (if (t164 == t165) = true then (if bt155.2.2.2 = 0 then (if (bt155.1.length : Int) = 2 then (if 0 < (bt155.1.length : Int) then (if ((rd_T36 bt155.1 0).f0) = 2 then (some (decide ((((rd_T36 bt155.1 0).f3).size : Int) ≤ (a0.size : Int)))) else (none)) else (none)) else (none)) else (none)) else (none)))) else (none)))) else (none)))) else (none)) = some r := H
    have A5 := Aside0.mk A50
    clear A50
    by_cases c6 : t154.size + 1 ≤ 9223372036854775807
    · rw [if_pos c6] at H
      have c6b0 := eq_true c6
      have c6b1 : decide (t154.size + 1 ≤ 9223372036854775807) = true := decide_eq_true c6
      try have c6b2 : (9223372036854775807 < t154.size + 1) = False := eq_false (Nat.not_lt.2 c6)
      replace H := Option.bind_eq_some_iff.mp H
      obtain ⟨⟨t155, t156, t157, t158⟩, A70, H⟩ := H
      replace H : ((warrantorlaw23_lives.f).bind fun t161 => (if t161 = true then ((lex_Quote.f a0).bind fun t162 => ((warrantorref23_Quote.f k a0).bind fun t163 => (if t162.toList = t163.toList then ((lex_Word.f a0).bind fun t164 => ((warrantorref23_Word.f k a0).bind fun t165 => (if (t164 == t165) = true then (if t158 = 0 then (if (t155.length : Int) = 2 then (if 0 < (t155.length : Int) then (if ((rd_T36 t155 0).f0) = 2 then (some (decide ((((rd_T36 t155 0).f3).size : Int) ≤ (a0.size : Int)))) else (none)) else (none)) else (none)) else (none)) else (none)))) else (none)))) else (none))) = some r := H
      have A7 := Aside0.mk A70
      clear A70
      replace H := Option.bind_eq_some_iff.mp H
      obtain ⟨t161, A80, H⟩ := H
      replace H : (if t161 = true then ((lex_Quote.f a0).bind fun t162 => ((warrantorref23_Quote.f k a0).bind fun t163 => (if t162.toList = t163.toList then ((lex_Word.f a0).bind fun t164 => ((warrantorref23_Word.f k a0).bind fun t165 => (if (t164 == t165) = true then (if t158 = 0 then (if (t155.length : Int) = 2 then (if 0 < (t155.length : Int) then (if ((rd_T36 t155 0).f0) = 2 then (some (decide ((((rd_T36 t155 0).f3).size : Int) ≤ (a0.size : Int)))) else (none)) else (none)) else (none)) else (none)) else (none)))) else (none)))) else (none)) = some r := H
      have A8 := Aside0.mk A80
      clear A80
      by_cases c9 : t161 = true
      · subst c9
        have H1 : ((lex_Quote.f a0).bind fun t162 => ((warrantorref23_Quote.f k a0).bind fun t163 => (if t162.toList = t163.toList then ((lex_Word.f a0).bind fun t164 => ((warrantorref23_Word.f k a0).bind fun t165 => (if (t164 == t165) = true then (if t158 = 0 then (if (t155.length : Int) = 2 then (if 0 < (t155.length : Int) then (if ((rd_T36 t155 0).f0) = 2 then (some (decide ((((rd_T36 t155 0).f3).size : Int) ≤ (a0.size : Int)))) else (none)) else (none)) else (none)) else (none)) else (none)))) else (none)))) = some r := by rw [if_pos rfl] at H; exact H
        clear H
        have H := H1
        clear H1
        replace H := Option.bind_eq_some_iff.mp H
        obtain ⟨t162, A100, H⟩ := H
        replace H : ((warrantorref23_Quote.f k a0).bind fun t163 => (if t162.toList = t163.toList then ((lex_Word.f a0).bind fun t164 => ((warrantorref23_Word.f k a0).bind fun t165 => (if (t164 == t165) = true then (if t158 = 0 then (if (t155.length : Int) = 2 then (if 0 < (t155.length : Int) then (if ((rd_T36 t155 0).f0) = 2 then (some (decide ((((rd_T36 t155 0).f3).size : Int) ≤ (a0.size : Int)))) else (none)) else (none)) else (none)) else (none)) else (none)))) else (none))) = some r := H
        have A10 := Aside0.mk A100
        clear A100
        replace H := Option.bind_eq_some_iff.mp H
        obtain ⟨t163, A110, H⟩ := H
        replace H : (if t162.toList = t163.toList then ((lex_Word.f a0).bind fun t164 => ((warrantorref23_Word.f k a0).bind fun t165 => (if (t164 == t165) = true then (if t158 = 0 then (if (t155.length : Int) = 2 then (if 0 < (t155.length : Int) then (if ((rd_T36 t155 0).f0) = 2 then (some (decide ((((rd_T36 t155 0).f3).size : Int) ≤ (a0.size : Int)))) else (none)) else (none)) else (none)) else (none)) else (none)))) else (none)) = some r := H
        have A11 := Aside0.mk A110
        clear A110
        by_cases c12 : t162.toList = t163.toList
        · rw [if_pos c12] at H
          have c12b0 : (t162.toList == t163.toList) = true := beq_iff_eq.mpr c12
          have c12b1 : (t162.toList != t163.toList) = false := bne_eq_false_iff_eq.mpr c12
          clear c12
          replace H := Option.bind_eq_some_iff.mp H
          obtain ⟨t164, A130, H⟩ := H
          replace H : ((warrantorref23_Word.f k a0).bind fun t165 => (if (t164 == t165) = true then (if t158 = 0 then (if (t155.length : Int) = 2 then (if 0 < (t155.length : Int) then (if ((rd_T36 t155 0).f0) = 2 then (some (decide ((((rd_T36 t155 0).f3).size : Int) ≤ (a0.size : Int)))) else (none)) else (none)) else (none)) else (none)) else (none))) = some r := H
          have A13 := Aside0.mk A130
          clear A130
          replace H := Option.bind_eq_some_iff.mp H
          obtain ⟨t165, A140, H⟩ := H
          replace H : (if (t164 == t165) = true then (if t158 = 0 then (if (t155.length : Int) = 2 then (if 0 < (t155.length : Int) then (if ((rd_T36 t155 0).f0) = 2 then (some (decide ((((rd_T36 t155 0).f3).size : Int) ≤ (a0.size : Int)))) else (none)) else (none)) else (none)) else (none)) else (none)) = some r := H
          have A14 := Aside0.mk A140
          clear A140
          by_cases c15 : (t164 == t165) = true
          · rw [if_pos c15] at H
            have c15b0 : (t164 == t165) = true := c15
            (try (have c15b1 : decide (t164 = t165) = true := by simpa using c15))
            (try (have c15b2 : (t164 == t165) = true := by simpa using c15))
            clear c15
            by_cases c16 : t158 = 0
            · rw [if_pos c16] at H
              have c16b0 : (t158 == 0) = true := beq_iff_eq.mpr c16
              have c16b1 : (t158 != 0) = false := bne_eq_false_iff_eq.mpr c16
              clear c16
              by_cases c17 : (t155.length : Int) = 2
              · rw [if_pos c17] at H
                have c17b0 : ((t155.length : Int) == 2) = true := beq_iff_eq.mpr c17
                have c17b1 : ((t155.length : Int) != 2) = false := bne_eq_false_iff_eq.mpr c17
                clear c17
                by_cases c18 : 0 < (t155.length : Int)
                · rw [if_pos c18] at H
                  have c18b0 : decide (0 < (t155.length : Int)) = true := decide_eq_true c18
                  have c18b1 : decide (0 < t155.length) = true := decide_eq_true (by omega)
                  clear c18
                  by_cases c19 : ((rd_T36 t155 0).f0) = 2
                  · rw [if_pos c19] at H
                    have c19b0 : (((rd_T36 t155 0).f0) == 2) = true := beq_iff_eq.mpr c19
                    have c19b1 : (((rd_T36 t155 0).f0) != 2) = false := bne_eq_false_iff_eq.mpr c19
                    clear c19
                    obtain rfl := Option.some.inj H
                    go_enter Try.func5, Try.ntmps5
                    go_wp2_with (first | ((with_reducible refine gate_callee (f := 15) rfl ?_); refine goesL_ (some 13) rfl rfl Try.func15 (by kernel_rfl) rfl #[.string a0] rfl (by (try simp only [List.map_toArray, List.map_cons, List.map_nil]); first | done | rfl | (simp only [List.length_drop, List.length_take]; rfl)) ?_; (with_reducible refine (lex_Quote.calls a0 t154 _ A5.out).mono ?_); rintro e w20 ⟨rfl, hb⟩; refine ⟨_, rfl, ?_⟩; have n0_ := Aside0.mk (below_step (by repeat (first | (with_reducible first | exact HB.out | apply below_alloc | apply pw_below_drewN | apply below_drew1) | exact HB.out)) hb); clear HB; have HB := n0_; clear n0_; (try clear hb); (try clear hb2); (try clear hk); (try clear hi)) | ((with_reducible refine gate_callee (f := 9) rfl ?_); refine goesL_ (some 15) rfl rfl Try.func9 (by kernel_rfl) rfl #[.string (t154 ++ (⟨#[10]⟩ : ByteArray))] rfl (by (try simp only [List.map_toArray, List.map_cons, List.map_nil]); first | done | rfl | (simp only [List.length_drop, List.length_take]; rfl)) ?_; (with_reducible refine (lex_Tokens.calls (t154 ++ (⟨#[10]⟩ : ByteArray)) t155 t156 t157 t158 _ A7.out).mono ?_); rintro e w21 ⟨v159, rfl, ho0, hb⟩; refine ⟨_, rfl, ?_⟩; have n0_ := Aside0.mk (Kd.R_lower ho0 (below_size (by repeat (first | (with_reducible first | exact HB.out | apply below_alloc | apply pw_below_drewN | apply below_drew1) | exact HB.out)))); have n1_ := Aside0.mk (below_step (by repeat (first | (with_reducible first | exact HB.out | apply below_alloc | apply pw_below_drewN | apply below_drew1) | exact HB.out)) hb); clear HB; have HO160 := n0_; have HB := n1_; clear n0_ n1_; (try clear hb); (try clear hb2); (try clear hk); (try clear hi); (try clear ho0)) | ((with_reducible refine gate_callee (f := 8) rfl ?_); refine goesL_ (some 20) rfl rfl Try.func8 (by kernel_rfl) rfl #[] rfl (by (try simp only [List.map_toArray, List.map_cons, List.map_nil]); first | done | rfl | (simp only [List.length_drop, List.length_take]; rfl)) ?_; (with_reducible refine (warrantorlaw23_lives.calls  true _ A8.out).mono ?_); rintro e w22 ⟨rfl, hb⟩; refine ⟨_, rfl, ?_⟩; have n0_ := Aside0.mk (Kd.R_below (by (with_reducible repeat (first | apply Kd.R_alloc | apply Kd.R_drewN | apply Kd.R_drew)); exact HO160.out) hb); have n1_ := Aside0.mk (below_step (by repeat (first | (with_reducible first | exact HB.out | apply below_alloc | apply pw_below_drewN | apply below_drew1) | exact HB.out)) hb); clear HO160; clear HB; have HO160 := n0_; have HB := n1_; clear n0_ n1_; (try clear hb); (try clear hb2); (try clear hk); (try clear hi)) | (go_at_call 15; (with_reducible refine (lex_Quote.calls a0 t162 _ A10.out).mono ?_); rintro e w23 ⟨rfl, hb⟩; have n0_ := Aside0.mk (Kd.R_below (by (with_reducible repeat (first | apply Kd.R_alloc | apply Kd.R_drewN | apply Kd.R_drew)); exact HO160.out) hb); have n1_ := Aside0.mk (below_step (by repeat (first | (with_reducible first | exact HB.out | apply below_alloc | apply pw_below_drewN | apply below_drew1) | exact HB.out)) hb); clear HO160; clear HB; have HO160 := n0_; have HB := n1_; clear n0_ n1_; (try clear hb); (try clear hb2); (try clear hk); (try clear hi)) | (go_at_call 16; (with_reducible refine (warrantorref23_Quote.calls k a0 t163 _ A11.out).mono ?_); rintro e w' ⟨rfl, ⟨nd, rfl⟩⟩) | (go_at_call 17; (with_reducible refine (lex_Word.calls a0 t164 _ A13.out).mono ?_); rintro e w24 ⟨rfl, hb⟩; have n0_ := Aside0.mk (Kd.R_below (by (with_reducible repeat (first | apply Kd.R_alloc | apply Kd.R_drewN | apply Kd.R_drew)); exact HO160.out) hb); have n1_ := Aside0.mk (below_step (by repeat (first | (with_reducible first | exact HB.out | apply below_alloc | apply pw_below_drewN | apply below_drew1) | exact HB.out)) hb); clear HO160; clear HB; have HO160 := n0_; have HB := n1_; clear n0_ n1_; (try clear hb); (try clear hb2); (try clear hk); (try clear hi)) | (go_at_call 18; (with_reducible refine (warrantorref23_Word.calls k a0 t165 _ A14.out).mono ?_); rintro e w' ⟨rfl, ⟨nd, rfl⟩⟩; obtain ⟨Ao25, co25, eo25⟩ := Kd.R_slice HO160.out; subst eo25; have p166 : 0 ≤ (0 : Int) := (by omega); have q166 : 0 < (t155.length : Int) := of_decide_eq_true (by first | (with_reducible assumption) | assumption); obtain ⟨ad166, e166, hx166_0, hx166_1, hx166_2, hx166_3⟩ := at_T36 (Kd.R_reads' HO160.out).2.2 0 p166 q166; cases e166; have qi166 : (0 < t155.length) = True := eq_true (by omega); (try rw [show ((0 : Int)).toNat = 0 from rfl] at hx166_0); (try rw [show 0 * 4 = 0 from rfl] at hx166_0); (try rw [Addr.add_zero'] at hx166_0); (try rw [show ((0 : Int)).toNat = 0 from rfl] at hx166_1); (try rw [show 0 * 4 = 0 from rfl] at hx166_1); (try rw [Addr.add_zero'] at hx166_1); (try rw [show ((0 : Int)).toNat = 0 from rfl] at hx166_2); (try rw [show 0 * 4 = 0 from rfl] at hx166_2); (try rw [Addr.add_zero'] at hx166_2); (try rw [show ((0 : Int)).toNat = 0 from rfl] at hx166_3); (try rw [show 0 * 4 = 0 from rfl] at hx166_3); (try rw [Addr.add_zero'] at hx166_3); replace p166 := eq_true p166; replace q166 := eq_true q166; have p167 : 0 ≤ (0 : Int) := (by omega); have q167 : 0 < (t155.length : Int) := of_decide_eq_true (by first | (with_reducible assumption) | assumption); obtain ⟨ad167, e167, hx167_0, hx167_1, hx167_2, hx167_3⟩ := at_T36 (Kd.R_reads' HO160.out).2.2 0 p167 q167; obtain rfl : ad166 = ad167 := (by injection e167); have qi167 : (0 < t155.length) = True := eq_true (by omega); (try rw [show ((0 : Int)).toNat = 0 from rfl] at hx167_0); (try rw [show 0 * 4 = 0 from rfl] at hx167_0); (try rw [Addr.add_zero'] at hx167_0); (try rw [show ((0 : Int)).toNat = 0 from rfl] at hx167_1); (try rw [show 0 * 4 = 0 from rfl] at hx167_1); (try rw [Addr.add_zero'] at hx167_1); (try rw [show ((0 : Int)).toNat = 0 from rfl] at hx167_2); (try rw [show 0 * 4 = 0 from rfl] at hx167_2); (try rw [Addr.add_zero'] at hx167_2); (try rw [show ((0 : Int)).toNat = 0 from rfl] at hx167_3); (try rw [show 0 * 4 = 0 from rfl] at hx167_3); (try rw [Addr.add_zero'] at hx167_3); replace p167 := eq_true p167; replace q167 := eq_true q167))
                    go_ret
                    exact ⟨by first | rfl | (simp [errW_none, errW_some] <;> rfl) | (simp [*, errW_none, errW_some] <;> rfl), by repeat (first | (with_reducible first | exact HB.out | apply below_alloc | apply pw_below_drewN | apply below_drew1) | exact HB.out)⟩
                  · rw [if_neg c19] at H
                    exact absurd H (by simp)
                · rw [if_neg c18] at H
                  exact absurd H (by simp)
              · rw [if_neg c17] at H
                exact absurd H (by simp)
            · rw [if_neg c16] at H
              exact absurd H (by simp)
          · rw [if_neg c15] at H
            exact absurd H (by simp)
        · rw [if_neg c12] at H
          exact absurd H (by simp)
      · replace c9 := Bool.eq_false_iff.mpr c9
        subst c9
        have H1 : (none) = some r := by rw [if_neg (show ¬ (false = true) by decide)] at H; exact H
        clear H
        have H := H1
        clear H1
        exact absurd H (by simp)
    · rw [if_neg c6] at H
      exact absurd H (by simp)

/-- THE ONE PURE STATEMENT of warrantorlaw23_LexQuotes: yours. -/
def warrantorlaw23_LexQuotes.Pure : Prop := ∀ (a0 : ByteArray), a0.size ≤ 140737488351232 → ∃ k, warrantorlaw23_LexQuotes.f k a0 = some true
theorem warrantorlaw23_LexQuotes.walk (P : warrantorlaw23_LexQuotes.Pure) (a0 : ByteArray) (w : World) (w0 : a0.size ≤ 140737488351232) :
    Calls Try.prog 5 #[.string a0] w fun e w' => e = .returned (.bool true) ∧ Below w.heap.size w w' := by
  obtain ⟨k, h⟩ := P a0 w0
  refine (warrantorlaw23_LexQuotes.calls k a0 true w h).mono ?_
  rintro e w' ⟨rfl, hd⟩
  exact ⟨rfl, hd⟩

/-! ### warrantorlaw23_LexLong: function 7 -/
mutual
def warrantorlaw23_LexLong.j0 : Nat → Int → Bool → Option (Bool)
  | 0, _, _ => none
  | k + 1, x0, x16 => if x16 = true then ((warrantorlaw23_lives.f).bind fun t168 => (some t168)) else (if 0 ≤ x0 then (if (x0 : Int).toNat ≤ 281474976710656 then (warrantorlaw23_LexLong.l0 k x0 (List.replicate (x0 : Int).toNat 0) 0) else (none)) else (none))
def warrantorlaw23_LexLong.l0 : Nat → Int → List Int → Int → Option (Bool)
  | 0, _, _, _ => none
  | k + 1, x0, x3, x4 => if x4 < x0 then (if 0 ≤ x4 then (if x4 < (x3.length : Int) then (warrantorlaw23_LexLong.l0 k x0 (x3.set (x4 : Int).toNat 120) (wrap64 (x4 + 1))) else (none)) else (none)) else (if 0 ≤ (wrap64 (x0 - 1)) then (if (wrap64 (x0 - 1)) < (x3.length : Int) then ((some (x3.set ((wrap64 (x0 - 1)) : Int).toNat 10 : List Int)).bind fun y173 => ((lex_Tokens.f (strOfNums y173)).bind fun bt174 => (if (wrap64 (x0 - 1)) ≤ (x3.length : Int) then ((lex_Show.f (([(⟨1, 0, 0, strOfNums (y173.take ((wrap64 (x0 - 1)) : Int).toNat)⟩ : S36), (⟨3, 0, 0, (⟨#[]⟩ : ByteArray)⟩ : S36)] : List (S36)))).bind fun bt187 => (if x0 > 1048576 then ((warrantorlaw23_lives.f).bind fun t189 => (if t189 = true then (if bt174.2.2.2 = 3 then (if (bt174.1.length : Int) = 0 then (if bt187.2 = 3 then (some (bt187.1.toList == ([] : List UInt8))) else (none)) else (none)) else (none)) else (none))) else ((warrantorlaw23_lives.f).bind fun t190 => (if t190 = true then (if bt174.2.2.2 = 0 then (if (bt174.1.length : Int) = 2 then (if bt187.2 = 0 then (some (bt187.1.toList == (strOfNums y173).toList)) else (none)) else (none)) else (none)) else (none))))) else (none)))) else (none)) else (none))
end
def warrantorlaw23_LexLong.f (k : Nat) (a0 : Int) : Option (Bool) := if a0 < 1048566 then (warrantorlaw23_LexLong.j0 k a0 true) else (warrantorlaw23_LexLong.j0 k a0 (decide (a0 > 1048586)))
theorem warrantorlaw23_LexLong.mono_l : ∀ k, (∀ y0 y1, LeO (warrantorlaw23_LexLong.j0 k y0 y1) (warrantorlaw23_LexLong.j0 (k + 1) y0 y1)) ∧ (∀ y0 y1 y2, LeO (warrantorlaw23_LexLong.l0 k y0 y1 y2) (warrantorlaw23_LexLong.l0 (k + 1) y0 y1 y2))
  | 0 => ⟨fun _ _ r h => by simp [warrantorlaw23_LexLong.j0] at h, fun _ _ _ r h => by simp [warrantorlaw23_LexLong.l0] at h⟩
  | k + 1 => by
    obtain ⟨ih0, ih1⟩ := warrantorlaw23_LexLong.mono_l k
    refine ⟨?_, ?_⟩
    · intro y0 y1
      unfold warrantorlaw23_LexLong.j0
      repeat' first
      | (with_reducible exact ih0 _ _)
      | (with_reducible exact ih1 _ _ _)
      | (with_reducible exact LeO.refl _)
      | (with_reducible exact LeO.none _)
      | (with_reducible refine LeO.ite ?_ ?_)
      | (with_reducible refine LeO.bind ?_ (fun _ => ?_))
      | exact ih0 _ _
      | exact ih1 _ _ _
      | exact LeO.none _
      | refine LeO.ite ?_ ?_
      | refine LeO.bind ?_ (fun _ => ?_)
    · intro y0 y1 y2
      unfold warrantorlaw23_LexLong.l0
      repeat' first
      | (with_reducible exact ih0 _ _)
      | (with_reducible exact ih1 _ _ _)
      | (with_reducible exact LeO.refl _)
      | (with_reducible exact LeO.none _)
      | (with_reducible refine LeO.ite ?_ ?_)
      | (with_reducible refine LeO.bind ?_ (fun _ => ?_))
      | exact ih0 _ _
      | exact ih1 _ _ _
      | exact LeO.none _
      | refine LeO.ite ?_ ?_
      | refine LeO.bind ?_ (fun _ => ?_)
theorem warrantorlaw23_LexLong.mono : ∀ a0 k, LeO (warrantorlaw23_LexLong.f k a0) (warrantorlaw23_LexLong.f (k + 1) a0) := by
  intro a0 k
  obtain ⟨ih0, ih1⟩ := warrantorlaw23_LexLong.mono_l k
  unfold warrantorlaw23_LexLong.f
  repeat' first
      | (with_reducible exact ih0 _ _)
      | (with_reducible exact ih1 _ _ _)
      | (with_reducible exact LeO.refl _)
      | (with_reducible exact LeO.none _)
      | (with_reducible refine LeO.ite ?_ ?_)
      | (with_reducible refine LeO.bind ?_ (fun _ => ?_))
      | exact ih0 _ _
      | exact ih1 _ _ _
      | exact LeO.none _
      | refine LeO.ite ?_ ?_
      | refine LeO.bind ?_ (fun _ => ?_)
set_option maxHeartbeats 8000000 in
set_option maxRecDepth 100000 in
theorem warrantorlaw23_LexLong.calls (k : Nat) (a0 : Int) (r : Bool) (w : World) (h : warrantorlaw23_LexLong.f k a0 = some r) :
    Calls Try.prog 7 #[.int .i64 a0] w fun e w' => e = .returned (.bool r) ∧ Below w.heap.size w w' := by
  have hu36 := Try.underlying36
  have HB := Aside0.mk (Below.refl w.heap.size w)
  have H : (if a0 < 1048566 then (warrantorlaw23_LexLong.j0 k a0 true) else (warrantorlaw23_LexLong.j0 k a0 (decide (a0 > 1048586)))) = some r := h
  clear h
  have HC2 := Aside0.mk H
  clear H
  go_enter Try.func7, Try.ntmps7
  go_upto_region 1 with (fail)
  go_cut [16] (fun v16 wc => ∃ (kq : Nat) (x16_1 : Bool), v16 = .bool x16_1 ∧ Aside0 (warrantorlaw23_LexLong.j0 kq a0 x16_1 = some r) ∧ Aside0 (kq ≤ k) ∧ Aside0 (Below w.heap.size w wc))
  case first =>
    have H := HC2.out
    clear HC2
    by_cases c3 : a0 < 1048566
    · rw [if_pos c3] at H
      have c3b0 : decide (a0 < 1048566) = true := decide_eq_true c3
      clear c3
      (first | rw [c3b0] | (simp only [i64_w, i32_w]; rw [c3b0]) | skip)
      have H' := Aside0.mk H
      clear H
      go_wp2
      go_meet
      case rel => exact ⟨_, (true), (by first | rfl | (simp; done) | (simp [*]; done)), H', ⟨by first | omega | exact Nat.le_refl _⟩, ⟨by repeat (first | (with_reducible first | exact HB.out | apply below_alloc | apply pw_below_drewN | apply below_drew1) | exact HB.out)⟩⟩
    · rw [if_neg c3] at H
      have c3b0 : decide (a0 < 1048566) = false := decide_eq_false c3
      clear c3
      (first | rw [c3b0] | (simp only [i64_w, i32_w]; rw [c3b0]) | skip)
      have H' := Aside0.mk H
      clear H
      go_wp2
      go_meet
      case rel => exact ⟨_, (decide (a0 > 1048586)), (by first | rfl | (simp; done) | (simp [*]; done)), H', ⟨by first | omega | exact Nat.le_refl _⟩, ⟨by repeat (first | (with_reducible first | exact HB.out | apply below_alloc | apply pw_below_drewN | apply below_drew1) | exact HB.out)⟩⟩
  case rest =>
    clear HC2
    try clear p2
    try clear c3
    try clear c3b0
    obtain ⟨kq, x16_1, rfl, HA, HJ1, HB⟩ := hcut
    cases kq with
    | zero => exact absurd HA.out (by simp [warrantorlaw23_LexLong.j0])
    | succ kj1 =>
      have H := HA.out
      clear HA
      simp only [warrantorlaw23_LexLong.j0] at H
      by_cases c4 : x16_1 = true
      · subst c4
        have H1 : ((warrantorlaw23_lives.f).bind fun t168 => (some t168)) = some r := by rw [if_pos rfl] at H; exact H
        clear H
        have H := H1
        clear H1
        replace H := Option.bind_eq_some_iff.mp H
        obtain ⟨t168, A50, H⟩ := H
        replace H : (some t168) = some r := H
        have A5 := Aside0.mk A50
        clear A50
        obtain rfl := Option.some.inj H
        go_wp2_with (first | ((with_reducible refine gate_callee (f := 8) rfl ?_); refine goesL_ (some 17) rfl rfl Try.func8 (by kernel_rfl) rfl #[] rfl (by (try simp only [List.map_toArray, List.map_cons, List.map_nil]); first | done | rfl | (simp only [List.length_drop, List.length_take]; rfl)) ?_; (with_reducible refine (warrantorlaw23_lives.calls  t168 _ A5.out).mono ?_); rintro e w6 ⟨rfl, hb⟩; refine ⟨_, rfl, ?_⟩; have n0_ := Aside0.mk (below_step (by repeat (first | (with_reducible first | exact HB.out | apply below_alloc | apply pw_below_drewN | apply below_drew1) | exact HB.out)) hb); clear HB; have HB := n0_; clear n0_; (try clear hb); (try clear hb2); (try clear hk); (try clear hi)))
        go_ret
        exact ⟨by first | rfl | (simp [errW_none, errW_some] <;> rfl) | (simp [*, errW_none, errW_some] <;> rfl), by repeat (first | (with_reducible first | exact HB.out | apply below_alloc | apply pw_below_drewN | apply below_drew1) | exact HB.out)⟩
      · replace c4 := Bool.eq_false_iff.mpr c4
        subst c4
        have H1 : (if 0 ≤ a0 then (if (a0 : Int).toNat ≤ 281474976710656 then (warrantorlaw23_LexLong.l0 kj1 a0 (List.replicate (a0 : Int).toNat 0) 0) else (none)) else (none)) = some r := by rw [if_neg (show ¬ (false = true) by decide)] at H; exact H
        clear H
        have H := H1
        clear H1
        by_cases c7 : 0 ≤ a0
        · rw [if_pos c7] at H
          have c7b0 := eq_true c7
          have c7b1 : decide (0 ≤ a0) = true := decide_eq_true c7
          clear c7
          by_cases c8 : (a0 : Int).toNat ≤ 281474976710656
          · rw [if_pos c8] at H
            have c8b0 := eq_true c8
            have c8b1 : decide ((a0 : Int).toNat ≤ 281474976710656) = true := decide_eq_true c8
            clear c8
            obtain ⟨y169, hy169⟩ : ∃ y_ : List Int, y_ = (List.replicate (a0 : Int).toNat 0) := ⟨_, rfl⟩
            replace H : (warrantorlaw23_LexLong.l0 kj1 a0 y169 0) = some r := by first | (rw [hy169]; with_reducible exact H) | (have H2_ := (Option.bind_some _ _).symm.trans H; rw [hy169]; with_reducible exact H2_) | (have H2_ := (Option.bind_some _ _).symm.trans H; with_reducible exact H2_) | with_reducible exact H | (rw [hy169]; exact H) | exact H
            have Ny169 := Aside0.mk hy169
            clear hy169
            have H' := Aside0.mk H
            clear H
            go_wp2_with (first | ((with_reducible refine gate_dst (N := 19) rfl ?_); (try (refine gate_guard (by rfl) ?_; dsimp only)); refine Kd.R_make (Kd.int .u8) _ 5 rfl (N := 19) rfl 38 _ _ rfl a0 rfl rfl Try.underlying38 (.int .u8 0) 1 info5 rfl (by decide) (by omega) 0 (ok := fun _ => True) (okp := fun _ => True) rfl (fun _ hk => hk) trivial (of_decide_eq_true (by first | (with_reducible assumption) | assumption)) (Nat.le_trans (Nat.mul_le_mul_right _ (of_decide_eq_true (by first | (with_reducible assumption) | assumption) : a0.toNat ≤ 281474976710656)) (by omega)) (Below.refl _ _) (Nat.le_refl _) ?_; intro v170 w9 ho10 hb hg_ hnew_; clear hg_ hnew_; (first | rw [← Ny169.out] at ho10 | (simp only [Int.reduceToNat] at ho10; rw [← Ny169.out] at ho10)); have n0_ := Aside0.mk (Kd.R_lower ho10 (below_size (by repeat (first | (with_reducible first | exact HB.out | apply below_alloc | apply pw_below_drewN | apply below_drew1) | exact HB.out)))); have n1_ := Aside0.mk (below_step (by repeat (first | (with_reducible first | exact HB.out | apply below_alloc | apply pw_below_drewN | apply below_drew1) | exact HB.out)) hb); clear HB; have HO171 := n0_; have HB := n1_; clear n0_ n1_; clear hb ho10))
            go_loopg [4] kj1 (fun kq v4 w' => ∃ (x3_2 : List Int) (x4_2 : Int), v4 = .int .i64 x4_2 ∧ Aside0 (warrantorlaw23_LexLong.l0 kq a0 x3_2 x4_2 = some r) ∧ Aside0 (kq ≤ kj1) ∧ Aside0 (Kd.R (Kd.int .u8) 5 w' w.heap.size (fun _ => True) v170 x3_2) ∧ Aside0 (Below w.heap.size w w'))
            case atStart => exact ⟨(y169), (0), (by first | rfl | (simp; done) | (simp [*]; done)), H', ⟨Nat.le_refl _⟩, ⟨by (with_reducible repeat (first | apply Kd.R_alloc | apply Kd.R_drewN | apply Kd.R_drew)); exact HO171.out⟩, ⟨by repeat (first | (with_reducible first | exact HB.out | apply below_alloc | apply pw_below_drewN | apply below_drew1) | exact HB.out)⟩⟩
            case round =>
              clear H'
              try clear p2
              try clear c3
              try clear c3b0
              try clear c4
              try clear c7
              try clear c7b0
              try clear c7b1
              try clear c8
              try clear c8b0
              try clear c8b1
              try clear p2
              obtain ⟨x3_2, x4_2, rfl, HA, HK2, HO_3, HB⟩ := hrel
              cases gk with
              | zero => exact absurd HA.out (by simp [warrantorlaw23_LexLong.l0])
              | succ k2 =>
                have H := HA.out
                clear HA
                simp only [warrantorlaw23_LexLong.l0] at H
                by_cases c11 : x4_2 < a0
                · rw [if_pos c11] at H
                  have c11b0 : decide (x4_2 < a0) = true := decide_eq_true c11
                  clear c11
                  by_cases c12 : 0 ≤ x4_2
                  · rw [if_pos c12] at H
                    have c12b0 : decide (0 ≤ x4_2) = true := decide_eq_true c12
                    clear c12
                    by_cases c13 : x4_2 < (x3_2.length : Int)
                    · rw [if_pos c13] at H
                      have c13b0 : decide (x4_2 < (x3_2.length : Int)) = true := decide_eq_true c13
                      clear c13
                      obtain ⟨y172, hy172⟩ : ∃ y_ : List Int, y_ = (x3_2.set (x4_2 : Int).toNat 120) := ⟨_, rfl⟩
                      replace H : (warrantorlaw23_LexLong.l0 k2 a0 y172 (wrap64 (x4_2 + 1))) = some r := by first | (rw [hy172]; with_reducible exact H) | (have H2_ := (Option.bind_some _ _).symm.trans H; rw [hy172]; with_reducible exact H2_) | (have H2_ := (Option.bind_some _ _).symm.trans H; with_reducible exact H2_) | with_reducible exact H | (rw [hy172]; exact H) | exact H
                      have Ny172 := Aside0.mk hy172
                      clear hy172
                      have H' := Aside0.mk H
                      clear H
                      have p14 : 0 ≤ (x4_2 : Int) := of_decide_eq_true (by first | (with_reducible assumption) | assumption)
                      have q14 : (x4_2 : Int) < ((x3_2.length : Int) : Int) := of_decide_eq_true (by first | (with_reducible assumption) | assumption)
                      obtain ⟨go14, co14, eo14, gb14, gl14, cl14, HG14⟩ := Kd.R_form HO_3.out (by omega)
                      (first | cases eo14 | (injection eo14 with ea_ en_ ec_; (first | subst ea_ | (injection ea_ with ea_; subst ea_)); subst ec_; clear en_))
                      have GB14 := Aside0.mk gb14
                      have GG14 := Aside0.mk HG14
                      clear gb14 gl14 HG14
                      obtain ⟨hx14_0, hf14_0⟩ := Kd.R_celln 0 HO_3.out (x4_2 : Int) p14 q14
                      replace p14 := eq_true p14
                      replace q14 := eq_true q14
                      have HP15 := Kd.R_putg HO_3.out (x4_2 : Int) 120
                      go_wp2_with (first | ((with_reducible refine gate_store (t := 5) (p := 27) rfl ?_); refine store_event (t := 5) (p := 27) (v := ?vo_w16) (w1 := (wr.setCell ⟨go14, (x4_2 : Int).toNat, none⟩ (.int .u8 120))) ?hg ?ho ?hn ?hr ?_; (case ho => rfl); (case hg => rfl); (case hn => rfl); (case hr => first | (go_simp; done) | (go_simp; rfl)); intro w16 hw; have hg : wr.grownBy w16 (some go14) := (by rw [hw]; exact HP15.2); have hp_ : Kd.R (Kd.int .u8) 5 w16 w.heap.size (fun _ => True) (.slice (some ⟨go14, 0, none⟩) x3_2.length co14) y172 := (by rw [hw, Ny172.out]; exact HP15.1); clear HP15; have n0_ := Aside0.mk (hp_); have n1_ := Aside0.mk ((by rw [hw]; exact below_set (HB.out) GB14.out : Below w.heap.size w w16)); clear HO_3; clear HB; have HO_3 := n0_; have HB := n1_; clear n0_ n1_; clear hg hw hp_))
                      go_roundg k2
                      case measure => have := HJ1.out; have := HK2.out; omega
                      case rel => exact ⟨(y172), (wrap64 (x4_2 + 1)), (by first | rfl | (simp; done) | (simp [*]; done)), H', ⟨by have := HJ1.out; have := HK2.out; omega⟩, ⟨by (with_reducible repeat (first | apply Kd.R_alloc | apply Kd.R_drewN | apply Kd.R_drew)); exact HO_3.out⟩, ⟨by repeat (first | (with_reducible first | exact HB.out | apply below_alloc | apply pw_below_drewN | apply below_drew1) | exact HB.out)⟩⟩
                    · rw [if_neg c13] at H
                      exact absurd H (by simp)
                  · rw [if_neg c12] at H
                    exact absurd H (by simp)
                · rw [if_neg c11] at H
                  have c11b0 : decide (x4_2 < a0) = false := decide_eq_false c11
                  clear c11
                  obtain ⟨ji17, hji17⟩ : ∃ j_ : Int, (wrap64 (a0 - 1)) = j_ := ⟨_, rfl⟩
                  replace H : (if 0 ≤ (ji17) then (if (ji17) < (x3_2.length : Int) then ((some (x3_2.set ((ji17) : Int).toNat 10 : List Int)).bind fun y173 => ((lex_Tokens.f (strOfNums y173)).bind fun bt174 => (if (ji17) ≤ (x3_2.length : Int) then ((lex_Show.f (([(⟨1, 0, 0, strOfNums (y173.take ((ji17) : Int).toNat)⟩ : S36), (⟨3, 0, 0, (⟨#[]⟩ : ByteArray)⟩ : S36)] : List (S36)))).bind fun bt187 => (if a0 > 1048576 then ((warrantorlaw23_lives.f).bind fun t189 => (if t189 = true then (if bt174.2.2.2 = 3 then (if (bt174.1.length : Int) = 0 then (if bt187.2 = 3 then (some (bt187.1.toList == ([] : List UInt8))) else (none)) else (none)) else (none)) else (none))) else ((warrantorlaw23_lives.f).bind fun t190 => (if t190 = true then (if bt174.2.2.2 = 0 then (if (bt174.1.length : Int) = 2 then (if bt187.2 = 0 then (some (bt187.1.toList == (strOfNums y173).toList)) else (none)) else (none)) else (none)) else (none))))) else (none)))) else (none)) else (none)) = some r := by first | (rw [hji17] at H; exact H) | (simp only [hji17] at H ⊢; exact H)
                  have hji17w : (IntKind.i64.wrap (a0 - 1)) = ji17 := (i64_w _).trans hji17
                  by_cases c18 : 0 ≤ (ji17)
                  · rw [if_pos c18] at H
                    have c18b0 : decide (0 ≤ (ji17)) = true := decide_eq_true c18
                    clear c18
                    by_cases c19 : (ji17) < (x3_2.length : Int)
                    · rw [if_pos c19] at H
                      have c19b0 : decide ((ji17) < (x3_2.length : Int)) = true := decide_eq_true c19
                      clear c19
                      obtain ⟨y173, hy173⟩ : ∃ y_ : List Int, y_ = (x3_2.set ((ji17) : Int).toNat 10) := ⟨_, rfl⟩
                      replace H : ((lex_Tokens.f (strOfNums y173)).bind fun bt174 => (if (ji17) ≤ (x3_2.length : Int) then ((lex_Show.f (([(⟨1, 0, 0, strOfNums (y173.take ((ji17) : Int).toNat)⟩ : S36), (⟨3, 0, 0, (⟨#[]⟩ : ByteArray)⟩ : S36)] : List (S36)))).bind fun bt187 => (if a0 > 1048576 then ((warrantorlaw23_lives.f).bind fun t189 => (if t189 = true then (if bt174.2.2.2 = 3 then (if (bt174.1.length : Int) = 0 then (if bt187.2 = 3 then (some (bt187.1.toList == ([] : List UInt8))) else (none)) else (none)) else (none)) else (none))) else ((warrantorlaw23_lives.f).bind fun t190 => (if t190 = true then (if bt174.2.2.2 = 0 then (if (bt174.1.length : Int) = 2 then (if bt187.2 = 0 then (some (bt187.1.toList == (strOfNums y173).toList)) else (none)) else (none)) else (none)) else (none))))) else (none))) = some r := by first | (rw [hy173]; with_reducible exact H) | (have H2_ := (Option.bind_some _ _).symm.trans H; rw [hy173]; with_reducible exact H2_) | (have H2_ := (Option.bind_some _ _).symm.trans H; with_reducible exact H2_) | with_reducible exact H | (rw [hy173]; exact H) | exact H
                      have Ny173 := Aside0.mk hy173
                      clear hy173
                      replace H := Option.bind_eq_some_iff.mp H
                      obtain ⟨⟨t174, t175, t176, t177⟩, A210, H⟩ := H
                      replace H : (if (ji17) ≤ (x3_2.length : Int) then ((lex_Show.f (([(⟨1, 0, 0, strOfNums (y173.take ((ji17) : Int).toNat)⟩ : S36), (⟨3, 0, 0, (⟨#[]⟩ : ByteArray)⟩ : S36)] : List (S36)))).bind fun bt187 => (if a0 > 1048576 then ((warrantorlaw23_lives.f).bind fun t189 => (if t189 = true then (if t177 = 3 then (if (t174.length : Int) = 0 then (if bt187.2 = 3 then (some (bt187.1.toList == ([] : List UInt8))) else (none)) else (none)) else (none)) else (none))) else ((warrantorlaw23_lives.f).bind fun t190 => (if t190 = true then (if t177 = 0 then (if (t174.length : Int) = 2 then (if bt187.2 = 0 then (some (bt187.1.toList == (strOfNums y173).toList)) else (none)) else (none)) else (none)) else (none))))) else (none)) = some r := H
                      have A21 := Aside0.mk A210
                      clear A210
                      have c22b0 := eq_true (of_decide_eq_true (by first | (with_reducible assumption) | assumption) : 0 ≤ (ji17))
                      by_cases c23 : (ji17) ≤ (x3_2.length : Int)
                      · rw [if_pos c23] at H
                        have c23b0 := eq_true c23
                        have c23b1 : decide ((ji17) ≤ (x3_2.length : Int)) = true := decide_eq_true c23
                        clear c23
                        obtain ⟨y180, hy180⟩ : ∃ y_ : List Int, y_ = (y173.take ((ji17) : Int).toNat) := ⟨_, rfl⟩
                        replace H : ((lex_Show.f (([(⟨1, 0, 0, strOfNums y180⟩ : S36), (⟨3, 0, 0, (⟨#[]⟩ : ByteArray)⟩ : S36)] : List (S36)))).bind fun bt187 => (if a0 > 1048576 then ((warrantorlaw23_lives.f).bind fun t189 => (if t189 = true then (if t177 = 3 then (if (t174.length : Int) = 0 then (if bt187.2 = 3 then (some (bt187.1.toList == ([] : List UInt8))) else (none)) else (none)) else (none)) else (none))) else ((warrantorlaw23_lives.f).bind fun t190 => (if t190 = true then (if t177 = 0 then (if (t174.length : Int) = 2 then (if bt187.2 = 0 then (some (bt187.1.toList == (strOfNums y173).toList)) else (none)) else (none)) else (none)) else (none))))) = some r := by first | (rw [hy180]; with_reducible exact H) | (have H2_ := (Option.bind_some _ _).symm.trans H; rw [hy180]; with_reducible exact H2_) | (have H2_ := (Option.bind_some _ _).symm.trans H; with_reducible exact H2_) | with_reducible exact H | (rw [hy180]; exact H) | exact H
                        have Ny180 := Aside0.mk hy180
                        clear hy180
                        obtain ⟨y184, hy184⟩ : ∃ y_ : List (S36), y_ = (([(⟨1, 0, 0, strOfNums y180⟩ : S36), (⟨3, 0, 0, (⟨#[]⟩ : ByteArray)⟩ : S36)] : List (S36))) := ⟨_, rfl⟩
                        replace H : ((lex_Show.f y184).bind fun bt187 => (if a0 > 1048576 then ((warrantorlaw23_lives.f).bind fun t189 => (if t189 = true then (if t177 = 3 then (if (t174.length : Int) = 0 then (if bt187.2 = 3 then (some (bt187.1.toList == ([] : List UInt8))) else (none)) else (none)) else (none)) else (none))) else ((warrantorlaw23_lives.f).bind fun t190 => (if t190 = true then (if t177 = 0 then (if (t174.length : Int) = 2 then (if bt187.2 = 0 then (some (bt187.1.toList == (strOfNums y173).toList)) else (none)) else (none)) else (none)) else (none))))) = some r := by first | (rw [hy184]; with_reducible exact H) | (have H2_ := (Option.bind_some _ _).symm.trans H; rw [hy184]; with_reducible exact H2_) | (have H2_ := (Option.bind_some _ _).symm.trans H; with_reducible exact H2_) | with_reducible exact H | (rw [hy184]; exact H) | exact H
                        have Ny184 := Aside0.mk hy184
                        clear hy184
                        replace H := Option.bind_eq_some_iff.mp H
                        obtain ⟨⟨t187, t188⟩, A240, H⟩ := H
                        replace H : (if a0 > 1048576 then ((warrantorlaw23_lives.f).bind fun t189 => (if t189 = true then (if t177 = 3 then (if (t174.length : Int) = 0 then (if t188 = 3 then (some (t187.toList == ([] : List UInt8))) else (none)) else (none)) else (none)) else (none))) else ((warrantorlaw23_lives.f).bind fun t190 => (if t190 = true then (if t177 = 0 then (if (t174.length : Int) = 2 then (if t188 = 0 then (some (t187.toList == (strOfNums y173).toList)) else (none)) else (none)) else (none)) else (none)))) = some r := H
                        have A24 := Aside0.mk A240
                        clear A240
                        by_cases c25 : a0 > 1048576
                        · rw [if_pos c25] at H
                          have c25b0 : decide (1048576 < a0) = true := decide_eq_true c25
                          clear c25
                          replace H := Option.bind_eq_some_iff.mp H
                          obtain ⟨t189, A260, H⟩ := H
                          replace H : (if t189 = true then (if t177 = 3 then (if (t174.length : Int) = 0 then (if t188 = 3 then (some (t187.toList == ([] : List UInt8))) else (none)) else (none)) else (none)) else (none)) = some r := H
                          have A26 := Aside0.mk A260
                          clear A260
                          by_cases c27 : t189 = true
                          · subst c27
                            have H1 : (if t177 = 3 then (if (t174.length : Int) = 0 then (if t188 = 3 then (some (t187.toList == ([] : List UInt8))) else (none)) else (none)) else (none)) = some r := by rw [if_pos rfl] at H; exact H
                            clear H
                            have H := H1
                            clear H1
                            by_cases c28 : t177 = 3
                            · rw [if_pos c28] at H
                              have c28b0 : (t177 == 3) = true := beq_iff_eq.mpr c28
                              have c28b1 : (t177 != 3) = false := bne_eq_false_iff_eq.mpr c28
                              clear c28
                              by_cases c29 : (t174.length : Int) = 0
                              · rw [if_pos c29] at H
                                have c29b0 : ((t174.length : Int) == 0) = true := beq_iff_eq.mpr c29
                                have c29b1 : ((t174.length : Int) != 0) = false := bne_eq_false_iff_eq.mpr c29
                                clear c29
                                by_cases c30 : t188 = 3
                                · rw [if_pos c30] at H
                                  have c30b0 : (t188 == 3) = true := beq_iff_eq.mpr c30
                                  have c30b1 : (t188 != 3) = false := bne_eq_false_iff_eq.mpr c30
                                  clear c30
                                  obtain rfl := Option.some.inj H
                                  have p20 : 0 ≤ ((ji17) : Int) := of_decide_eq_true (by first | (with_reducible assumption) | assumption)
                                  have q20 : ((ji17) : Int) < ((x3_2.length : Int) : Int) := of_decide_eq_true (by first | (with_reducible assumption) | assumption)
                                  obtain ⟨go20, co20, eo20, gb20, gl20, cl20, HG20⟩ := Kd.R_form HO_3.out (by omega)
                                  (first | cases eo20 | (injection eo20 with ea_ en_ ec_; (first | subst ea_ | (injection ea_ with ea_; subst ea_)); subst ec_; clear en_))
                                  have GB20 := Aside0.mk gb20
                                  have GG20 := Aside0.mk HG20
                                  clear gb20 gl20 HG20
                                  obtain ⟨hx20_0, hf20_0⟩ := Kd.R_celln 0 HO_3.out ((ji17) : Int) p20 q20
                                  replace p20 := eq_true p20
                                  replace q20 := eq_true q20
                                  have HP31 := Kd.R_putg HO_3.out ((ji17) : Int) 10
                                  go_wp2_with (first | ((with_reducible refine gate_store (t := 5) (p := 31) rfl ?_); refine store_event (t := 5) (p := 31) (v := ?vo_w32) (w1 := (wr.setCell ⟨go20, ((ji17) : Int).toNat, none⟩ (.int .u8 10))) ?hg ?ho ?hn ?hr ?_; (case ho => rfl); (case hg => rfl); (case hn => rfl); (case hr => first | (go_simp; done) | (go_simp; rfl)); intro w32 hw; have hg : wr.grownBy w32 (some go20) := (by rw [hw]; exact HP31.2); have hp_ : Kd.R (Kd.int .u8) 5 w32 w.heap.size (fun _ => True) (.slice (some ⟨go20, 0, none⟩) x3_2.length co20) y173 := (by rw [hw, Ny173.out]; exact HP31.1); clear HP31; have n0_ := Aside0.mk (hp_); have n1_ := Aside0.mk ((by rw [hw]; exact below_set (HB.out) GB20.out : Below w.heap.size w w32)); clear HO_3; clear HB; have HO_3 := n0_; have HB := n1_; clear n0_ n1_; clear hg hw hp_; have hcv33 := own_string (P := Try.prog) Try.underlying38 Try.underlying5 Try.underlying9 (Kd.own_of_R HO_3.out); have hcw34 := fun n_ : Nat => own_string (P := Try.prog) Try.underlying38 Try.underlying5 Try.underlying9 (Kd.own_of_R (Kd.R_drewN HO_3.out n_))) | ((with_reducible refine gate_callee (f := 9) rfl ?_); refine goesL_ (some 35) rfl rfl Try.func9 (by kernel_rfl) rfl #[.string (strOfNums y173)] rfl (by (try simp only [List.map_toArray, List.map_cons, List.map_nil]); first | done | rfl | (simp only [List.length_drop, List.length_take]; rfl)) ?_; (with_reducible refine (lex_Tokens.calls (strOfNums y173) t174 t175 t176 t177 _ A21.out).mono ?_); rintro e w35 ⟨v178, rfl, ho0, hb⟩; refine ⟨_, rfl, ?_⟩; have n0_ := Aside0.mk (Kd.R_below (by (with_reducible repeat (first | apply Kd.R_alloc | apply Kd.R_drewN | apply Kd.R_drew)); exact HO_3.out) hb); have n1_ := Aside0.mk (Kd.R_lower ho0 (below_size (by repeat (first | (with_reducible first | exact HB.out | apply below_alloc | apply pw_below_drewN | apply below_drew1) | exact HB.out)))); have n2_ := Aside0.mk (below_step (by repeat (first | (with_reducible first | exact HB.out | apply below_alloc | apply pw_below_drewN | apply below_drew1) | exact HB.out)) hb); clear HO_3; clear HB; have HO_3 := n0_; have HO179 := n1_; have HB := n2_; clear n0_ n1_ n2_; (try clear hb); (try clear hb2); (try clear hk); (try clear hi); (try clear ho0); have hlx36 := (Kd.R_reads' HO_3.out).1; have q36 : ((ji17) : Int) ≤ ((x3_2.length : Int) : Int) := of_decide_eq_true (by first | (with_reducible assumption) | assumption); obtain ⟨i036, hi036, _, hsz36, _⟩ := info_parts info5; have hroom36 : x3_2.length ≤ co20 := (Kd.R_reads' HO_3.out).2.1; have hroomc36 : y173.length ≤ co20 := (by rw [← hlx36]; exact hroom36); have hC36 : Kd.C (Kd.int .u8) _ (some ⟨go20, 0, none⟩) y173.length y173 := (Kd.R_reads' HO_3.out).2.2; have hcut36 := cut_to (P := Try.prog) 38 5 .i64 Try.underlying38 hi036 (some ⟨go20, 0, none⟩) x3_2.length co20 (ji17) (of_decide_eq_true (by first | (with_reducible assumption) | assumption)) q36 hroom36; have hr36 := Kd.C_take (m := ((ji17) : Int).toNat) hC36 (by omega); have hy36 : y180.length = ((ji17) : Int).toNat := (by rw [Ny180.out, List.length_take]; omega); rw [← Ny180.out] at hr36; rw [← hy36] at hcut36; have HR183 := Aside0.mk hr36; have HC183 := Aside0.mk (show y180.length ≤ co20 from by omega); clear hr36 hC36 hroom36 hi036 hsz36 hroomc36; have KY36 := Aside0.mk hy36; clear hy36; have KE36 := Aside0.mk hlx36; have KL36 := Aside0.mk (show ((ji17) : Int).toNat ≤ y173.length from by omega); clear hlx36; replace q36 := eq_true q36; have hcv37 := Kd.C_string (P := Try.prog) (A := (some ⟨go20, 0, none⟩)) (c := co20) Try.underlying38 Try.underlying5 Try.underlying9 (by repeat (first | (with_reducible exact HR183.out) | (with_reducible refine Kd.C_alloc ?_ _) | (with_reducible refine Kd.C_drewN ?_ _) | (with_reducible refine Kd.C_drew ?_) | exact HR183.out)); have hcw38 := fun n_ : Nat => Kd.C_string (P := Try.prog) (A := (some ⟨go20, 0, none⟩)) (c := co20) Try.underlying38 Try.underlying5 Try.underlying9 (Kd.C_drewN (by repeat (first | (with_reducible exact HR183.out) | (with_reducible refine Kd.C_alloc ?_ _) | (with_reducible refine Kd.C_drewN ?_ _) | (with_reducible refine Kd.C_drew ?_) | exact HR183.out)) n_)) | ((with_reducible refine gate_dst (N := 48) rfl ?_); (try (refine gate_guard (by rfl) ?_; dsimp only)); refine Kd.R_lit k36 _ 36 ?hg (N := 48) ?hd (xs := ([(⟨1, 0, 0, strOfNums y180⟩ : S36), (⟨3, 0, 0, (⟨#[]⟩ : ByteArray)⟩ : S36)] : List (S36))) (inner := [.int .i64 1, .int .i64 0, .int .i64 0, .string (strOfNums y180), .int .i64 3, .int .i64 0, .int .i64 0, .string (⟨#[]⟩ : ByteArray)]) (ok := fun _ => True) (okp := fun _ => True) ?hr ?hp (fun _ hk => hk) trivial (Below.refl _ _) (Nat.le_refl _) (by simp) ?_; (case hd => rfl); (case hg => rfl); (case hr => first | (go_simp; done) | (go_simp; rfl)); (case hp => exact (Reps.c4 (show Kd.M k36 _ _ _ (⟨1, 0, 0, strOfNums y180⟩ : S36) [.int .i64 1, .int .i64 0, .int .i64 0, .string (strOfNums y180)] from (k36_mkM _ _ _ (⟨1, 0, 0, strOfNums y180⟩ : S36) )) (Reps.c4 (show Kd.M k36 _ _ _ (⟨3, 0, 0, (⟨#[]⟩ : ByteArray)⟩ : S36) [.int .i64 3, .int .i64 0, .int .i64 0, .string (⟨#[]⟩ : ByteArray)] from (k36_mkM _ _ _ (⟨3, 0, 0, (⟨#[]⟩ : ByteArray)⟩ : S36) )) (Reps.none _ _)))); intro v185 w39 ho40 hb hg_ hnew_; clear hg_ hnew_; (first | rw [← Ny184.out] at ho40 | (simp only [Int.reduceToNat] at ho40; rw [← Ny184.out] at ho40)); have n0_ := Aside0.mk (Kd.R_below (by (with_reducible repeat (first | apply Kd.R_alloc | apply Kd.R_drewN | apply Kd.R_drew)); exact HO_3.out) hb); have n1_ := Aside0.mk (Kd.R_elder' (by (with_reducible repeat (first | apply Kd.R_alloc | apply Kd.R_drewN | apply Kd.R_drew)); exact HO179.out) (Kd.R_base ho40) hb); have n2_ := Aside0.mk (Kd.R_lower (Kd.R_new' ho40 (Kd.R_lt (by (with_reducible repeat (first | apply Kd.R_alloc | apply Kd.R_drewN | apply Kd.R_drew)); exact HO179.out))) (below_size (by repeat (first | (with_reducible first | exact HB.out | apply below_alloc | apply pw_below_drewN | apply below_drew1) | exact HB.out)))); have n3_ := Aside0.mk (Kd.C_below (by repeat (first | (with_reducible exact HR183.out) | (with_reducible refine Kd.C_alloc ?_ _) | (with_reducible refine Kd.C_drewN ?_ _) | (with_reducible refine Kd.C_drew ?_) | exact HR183.out)) hb); have n4_ := Aside0.mk (below_step (by repeat (first | (with_reducible first | exact HB.out | apply below_alloc | apply pw_below_drewN | apply below_drew1) | exact HB.out)) hb); clear HO_3; clear HO179; clear HR183; clear HB; have HO_3 := n0_; have HO179 := n1_; have HO186 := n2_; have HR183 := n3_; have HB := n4_; clear n0_ n1_ n2_ n3_ n4_; clear hb ho40; obtain ⟨Ao41, co41, eo41⟩ := Kd.R_slice HO186.out; subst eo41) | ((with_reducible refine gate_callee (f := 12) rfl ?_); refine goesL_ (some 49) rfl rfl Try.func12 (by kernel_rfl) rfl #[.slice Ao41 y184.length co41] rfl (by (try simp only [List.map_toArray, List.map_cons, List.map_nil]); first | done | rfl | (simp only [List.length_drop, List.length_take]; rfl)) ?_; (with_reducible refine (lex_Show.calls _ _ y184 t187 t188 _ ?side1 ?side2 A24.out).mono ?_); (case side1 => repeat (first | exact (Kd.R_reads' HO186.out).2.2 | (with_reducible refine Kd.C_alloc ?_ _) | (with_reducible refine Kd.C_drewN ?_ _) | (with_reducible refine Kd.C_drew ?_))); (case side2 => exact (Kd.R_reads' HO186.out).2.1); rintro e w42 ⟨rfl, hb⟩; refine ⟨_, rfl, ?_⟩; have n0_ := Aside0.mk (Kd.R_below (by (with_reducible repeat (first | apply Kd.R_alloc | apply Kd.R_drewN | apply Kd.R_drew)); exact HO_3.out) hb); have n1_ := Aside0.mk (Kd.R_below (by (with_reducible repeat (first | apply Kd.R_alloc | apply Kd.R_drewN | apply Kd.R_drew)); exact HO179.out) hb); have n2_ := Aside0.mk (Kd.R_below (by (with_reducible repeat (first | apply Kd.R_alloc | apply Kd.R_drewN | apply Kd.R_drew)); exact HO186.out) hb); have n3_ := Aside0.mk (Kd.C_below (by repeat (first | (with_reducible exact HR183.out) | (with_reducible refine Kd.C_alloc ?_ _) | (with_reducible refine Kd.C_drewN ?_ _) | (with_reducible refine Kd.C_drew ?_) | exact HR183.out)) hb); have n4_ := Aside0.mk (below_step (by repeat (first | (with_reducible first | exact HB.out | apply below_alloc | apply pw_below_drewN | apply below_drew1) | exact HB.out)) hb); clear HO_3; clear HO179; clear HO186; clear HR183; clear HB; have HO_3 := n0_; have HO179 := n1_; have HO186 := n2_; have HR183 := n3_; have HB := n4_; clear n0_ n1_ n2_ n3_ n4_; (try clear hb); (try clear hb2); (try clear hk); (try clear hi)) | ((with_reducible refine gate_callee (f := 8) rfl ?_); refine goesL_ (some 54) rfl rfl Try.func8 (by kernel_rfl) rfl #[] rfl (by (try simp only [List.map_toArray, List.map_cons, List.map_nil]); first | done | rfl | (simp only [List.length_drop, List.length_take]; rfl)) ?_; (with_reducible refine (warrantorlaw23_lives.calls  true _ A26.out).mono ?_); rintro e w43 ⟨rfl, hb⟩; refine ⟨_, rfl, ?_⟩; have n0_ := Aside0.mk (Kd.R_below (by (with_reducible repeat (first | apply Kd.R_alloc | apply Kd.R_drewN | apply Kd.R_drew)); exact HO_3.out) hb); have n1_ := Aside0.mk (Kd.R_below (by (with_reducible repeat (first | apply Kd.R_alloc | apply Kd.R_drewN | apply Kd.R_drew)); exact HO179.out) hb); have n2_ := Aside0.mk (Kd.R_below (by (with_reducible repeat (first | apply Kd.R_alloc | apply Kd.R_drewN | apply Kd.R_drew)); exact HO186.out) hb); have n3_ := Aside0.mk (Kd.C_below (by repeat (first | (with_reducible exact HR183.out) | (with_reducible refine Kd.C_alloc ?_ _) | (with_reducible refine Kd.C_drewN ?_ _) | (with_reducible refine Kd.C_drew ?_) | exact HR183.out)) hb); have n4_ := Aside0.mk (below_step (by repeat (first | (with_reducible first | exact HB.out | apply below_alloc | apply pw_below_drewN | apply below_drew1) | exact HB.out)) hb); clear HO_3; clear HO179; clear HO186; clear HR183; clear HB; have HO_3 := n0_; have HO179 := n1_; have HO186 := n2_; have HR183 := n3_; have HB := n4_; clear n0_ n1_ n2_ n3_ n4_; (try clear hb); (try clear hb2); (try clear hk); (try clear hi); obtain ⟨Ao44, co44, eo44⟩ := Kd.R_slice HO179.out; subst eo44))
                                  go_ret
                                  exact ⟨by first | rfl | (simp [errW_none, errW_some] <;> rfl) | (simp only [← hji17]; first | rfl | (simp [errW_none, errW_some] <;> rfl)) | (simp [*, errW_none, errW_some] <;> rfl), by repeat (first | (with_reducible first | exact HB.out | apply below_alloc | apply pw_below_drewN | apply below_drew1) | exact HB.out)⟩
                                · rw [if_neg c30] at H
                                  exact absurd H (by simp)
                              · rw [if_neg c29] at H
                                exact absurd H (by simp)
                            · rw [if_neg c28] at H
                              exact absurd H (by simp)
                          · replace c27 := Bool.eq_false_iff.mpr c27
                            subst c27
                            have H1 : (none) = some r := by rw [if_neg (show ¬ (false = true) by decide)] at H; exact H
                            clear H
                            have H := H1
                            clear H1
                            exact absurd H (by simp)
                        · rw [if_neg c25] at H
                          have c25b0 : decide (1048576 < a0) = false := decide_eq_false c25
                          clear c25
                          replace H := Option.bind_eq_some_iff.mp H
                          obtain ⟨t190, A450, H⟩ := H
                          replace H : (if t190 = true then (if t177 = 0 then (if (t174.length : Int) = 2 then (if t188 = 0 then (some (t187.toList == (strOfNums y173).toList)) else (none)) else (none)) else (none)) else (none)) = some r := H
                          have A45 := Aside0.mk A450
                          clear A450
                          by_cases c46 : t190 = true
                          · subst c46
                            have H1 : (if t177 = 0 then (if (t174.length : Int) = 2 then (if t188 = 0 then (some (t187.toList == (strOfNums y173).toList)) else (none)) else (none)) else (none)) = some r := by rw [if_pos rfl] at H; exact H
                            clear H
                            have H := H1
                            clear H1
                            by_cases c47 : t177 = 0
                            · rw [if_pos c47] at H
                              have c47b0 : (t177 == 0) = true := beq_iff_eq.mpr c47
                              have c47b1 : (t177 != 0) = false := bne_eq_false_iff_eq.mpr c47
                              clear c47
                              by_cases c48 : (t174.length : Int) = 2
                              · rw [if_pos c48] at H
                                have c48b0 : ((t174.length : Int) == 2) = true := beq_iff_eq.mpr c48
                                have c48b1 : ((t174.length : Int) != 2) = false := bne_eq_false_iff_eq.mpr c48
                                clear c48
                                by_cases c49 : t188 = 0
                                · rw [if_pos c49] at H
                                  have c49b0 : (t188 == 0) = true := beq_iff_eq.mpr c49
                                  have c49b1 : (t188 != 0) = false := bne_eq_false_iff_eq.mpr c49
                                  clear c49
                                  obtain rfl := Option.some.inj H
                                  have p20 : 0 ≤ ((ji17) : Int) := of_decide_eq_true (by first | (with_reducible assumption) | assumption)
                                  have q20 : ((ji17) : Int) < ((x3_2.length : Int) : Int) := of_decide_eq_true (by first | (with_reducible assumption) | assumption)
                                  obtain ⟨go20, co20, eo20, gb20, gl20, cl20, HG20⟩ := Kd.R_form HO_3.out (by omega)
                                  (first | cases eo20 | (injection eo20 with ea_ en_ ec_; (first | subst ea_ | (injection ea_ with ea_; subst ea_)); subst ec_; clear en_))
                                  have GB20 := Aside0.mk gb20
                                  have GG20 := Aside0.mk HG20
                                  clear gb20 gl20 HG20
                                  obtain ⟨hx20_0, hf20_0⟩ := Kd.R_celln 0 HO_3.out ((ji17) : Int) p20 q20
                                  replace p20 := eq_true p20
                                  replace q20 := eq_true q20
                                  have HP50 := Kd.R_putg HO_3.out ((ji17) : Int) 10
                                  go_wp2_with (first | ((with_reducible refine gate_store (t := 5) (p := 31) rfl ?_); refine store_event (t := 5) (p := 31) (v := ?vo_w51) (w1 := (wr.setCell ⟨go20, ((ji17) : Int).toNat, none⟩ (.int .u8 10))) ?hg ?ho ?hn ?hr ?_; (case ho => rfl); (case hg => rfl); (case hn => rfl); (case hr => first | (go_simp; done) | (go_simp; rfl)); intro w51 hw; have hg : wr.grownBy w51 (some go20) := (by rw [hw]; exact HP50.2); have hp_ : Kd.R (Kd.int .u8) 5 w51 w.heap.size (fun _ => True) (.slice (some ⟨go20, 0, none⟩) x3_2.length co20) y173 := (by rw [hw, Ny173.out]; exact HP50.1); clear HP50; have n0_ := Aside0.mk (hp_); have n1_ := Aside0.mk ((by rw [hw]; exact below_set (HB.out) GB20.out : Below w.heap.size w w51)); clear HO_3; clear HB; have HO_3 := n0_; have HB := n1_; clear n0_ n1_; clear hg hw hp_; have hcv52 := own_string (P := Try.prog) Try.underlying38 Try.underlying5 Try.underlying9 (Kd.own_of_R HO_3.out); have hcw53 := fun n_ : Nat => own_string (P := Try.prog) Try.underlying38 Try.underlying5 Try.underlying9 (Kd.own_of_R (Kd.R_drewN HO_3.out n_))) | ((with_reducible refine gate_callee (f := 9) rfl ?_); refine goesL_ (some 35) rfl rfl Try.func9 (by kernel_rfl) rfl #[.string (strOfNums y173)] rfl (by (try simp only [List.map_toArray, List.map_cons, List.map_nil]); first | done | rfl | (simp only [List.length_drop, List.length_take]; rfl)) ?_; (with_reducible refine (lex_Tokens.calls (strOfNums y173) t174 t175 t176 t177 _ A21.out).mono ?_); rintro e w54 ⟨v178, rfl, ho0, hb⟩; refine ⟨_, rfl, ?_⟩; have n0_ := Aside0.mk (Kd.R_below (by (with_reducible repeat (first | apply Kd.R_alloc | apply Kd.R_drewN | apply Kd.R_drew)); exact HO_3.out) hb); have n1_ := Aside0.mk (Kd.R_lower ho0 (below_size (by repeat (first | (with_reducible first | exact HB.out | apply below_alloc | apply pw_below_drewN | apply below_drew1) | exact HB.out)))); have n2_ := Aside0.mk (below_step (by repeat (first | (with_reducible first | exact HB.out | apply below_alloc | apply pw_below_drewN | apply below_drew1) | exact HB.out)) hb); clear HO_3; clear HB; have HO_3 := n0_; have HO179 := n1_; have HB := n2_; clear n0_ n1_ n2_; (try clear hb); (try clear hb2); (try clear hk); (try clear hi); (try clear ho0); have hlx55 := (Kd.R_reads' HO_3.out).1; have q55 : ((ji17) : Int) ≤ ((x3_2.length : Int) : Int) := of_decide_eq_true (by first | (with_reducible assumption) | assumption); obtain ⟨i055, hi055, _, hsz55, _⟩ := info_parts info5; have hroom55 : x3_2.length ≤ co20 := (Kd.R_reads' HO_3.out).2.1; have hroomc55 : y173.length ≤ co20 := (by rw [← hlx55]; exact hroom55); have hC55 : Kd.C (Kd.int .u8) _ (some ⟨go20, 0, none⟩) y173.length y173 := (Kd.R_reads' HO_3.out).2.2; have hcut55 := cut_to (P := Try.prog) 38 5 .i64 Try.underlying38 hi055 (some ⟨go20, 0, none⟩) x3_2.length co20 (ji17) (of_decide_eq_true (by first | (with_reducible assumption) | assumption)) q55 hroom55; have hr55 := Kd.C_take (m := ((ji17) : Int).toNat) hC55 (by omega); have hy55 : y180.length = ((ji17) : Int).toNat := (by rw [Ny180.out, List.length_take]; omega); rw [← Ny180.out] at hr55; rw [← hy55] at hcut55; have HR183 := Aside0.mk hr55; have HC183 := Aside0.mk (show y180.length ≤ co20 from by omega); clear hr55 hC55 hroom55 hi055 hsz55 hroomc55; have KY55 := Aside0.mk hy55; clear hy55; have KE55 := Aside0.mk hlx55; have KL55 := Aside0.mk (show ((ji17) : Int).toNat ≤ y173.length from by omega); clear hlx55; replace q55 := eq_true q55; have hcv56 := Kd.C_string (P := Try.prog) (A := (some ⟨go20, 0, none⟩)) (c := co20) Try.underlying38 Try.underlying5 Try.underlying9 (by repeat (first | (with_reducible exact HR183.out) | (with_reducible refine Kd.C_alloc ?_ _) | (with_reducible refine Kd.C_drewN ?_ _) | (with_reducible refine Kd.C_drew ?_) | exact HR183.out)); have hcw57 := fun n_ : Nat => Kd.C_string (P := Try.prog) (A := (some ⟨go20, 0, none⟩)) (c := co20) Try.underlying38 Try.underlying5 Try.underlying9 (Kd.C_drewN (by repeat (first | (with_reducible exact HR183.out) | (with_reducible refine Kd.C_alloc ?_ _) | (with_reducible refine Kd.C_drewN ?_ _) | (with_reducible refine Kd.C_drew ?_) | exact HR183.out)) n_)) | ((with_reducible refine gate_dst (N := 48) rfl ?_); (try (refine gate_guard (by rfl) ?_; dsimp only)); refine Kd.R_lit k36 _ 36 ?hg (N := 48) ?hd (xs := ([(⟨1, 0, 0, strOfNums y180⟩ : S36), (⟨3, 0, 0, (⟨#[]⟩ : ByteArray)⟩ : S36)] : List (S36))) (inner := [.int .i64 1, .int .i64 0, .int .i64 0, .string (strOfNums y180), .int .i64 3, .int .i64 0, .int .i64 0, .string (⟨#[]⟩ : ByteArray)]) (ok := fun _ => True) (okp := fun _ => True) ?hr ?hp (fun _ hk => hk) trivial (Below.refl _ _) (Nat.le_refl _) (by simp) ?_; (case hd => rfl); (case hg => rfl); (case hr => first | (go_simp; done) | (go_simp; rfl)); (case hp => exact (Reps.c4 (show Kd.M k36 _ _ _ (⟨1, 0, 0, strOfNums y180⟩ : S36) [.int .i64 1, .int .i64 0, .int .i64 0, .string (strOfNums y180)] from (k36_mkM _ _ _ (⟨1, 0, 0, strOfNums y180⟩ : S36) )) (Reps.c4 (show Kd.M k36 _ _ _ (⟨3, 0, 0, (⟨#[]⟩ : ByteArray)⟩ : S36) [.int .i64 3, .int .i64 0, .int .i64 0, .string (⟨#[]⟩ : ByteArray)] from (k36_mkM _ _ _ (⟨3, 0, 0, (⟨#[]⟩ : ByteArray)⟩ : S36) )) (Reps.none _ _)))); intro v185 w58 ho59 hb hg_ hnew_; clear hg_ hnew_; (first | rw [← Ny184.out] at ho59 | (simp only [Int.reduceToNat] at ho59; rw [← Ny184.out] at ho59)); have n0_ := Aside0.mk (Kd.R_below (by (with_reducible repeat (first | apply Kd.R_alloc | apply Kd.R_drewN | apply Kd.R_drew)); exact HO_3.out) hb); have n1_ := Aside0.mk (Kd.R_elder' (by (with_reducible repeat (first | apply Kd.R_alloc | apply Kd.R_drewN | apply Kd.R_drew)); exact HO179.out) (Kd.R_base ho59) hb); have n2_ := Aside0.mk (Kd.R_lower (Kd.R_new' ho59 (Kd.R_lt (by (with_reducible repeat (first | apply Kd.R_alloc | apply Kd.R_drewN | apply Kd.R_drew)); exact HO179.out))) (below_size (by repeat (first | (with_reducible first | exact HB.out | apply below_alloc | apply pw_below_drewN | apply below_drew1) | exact HB.out)))); have n3_ := Aside0.mk (Kd.C_below (by repeat (first | (with_reducible exact HR183.out) | (with_reducible refine Kd.C_alloc ?_ _) | (with_reducible refine Kd.C_drewN ?_ _) | (with_reducible refine Kd.C_drew ?_) | exact HR183.out)) hb); have n4_ := Aside0.mk (below_step (by repeat (first | (with_reducible first | exact HB.out | apply below_alloc | apply pw_below_drewN | apply below_drew1) | exact HB.out)) hb); clear HO_3; clear HO179; clear HR183; clear HB; have HO_3 := n0_; have HO179 := n1_; have HO186 := n2_; have HR183 := n3_; have HB := n4_; clear n0_ n1_ n2_ n3_ n4_; clear hb ho59; obtain ⟨Ao60, co60, eo60⟩ := Kd.R_slice HO186.out; subst eo60) | ((with_reducible refine gate_callee (f := 12) rfl ?_); refine goesL_ (some 49) rfl rfl Try.func12 (by kernel_rfl) rfl #[.slice Ao60 y184.length co60] rfl (by (try simp only [List.map_toArray, List.map_cons, List.map_nil]); first | done | rfl | (simp only [List.length_drop, List.length_take]; rfl)) ?_; (with_reducible refine (lex_Show.calls _ _ y184 t187 t188 _ ?side1 ?side2 A24.out).mono ?_); (case side1 => repeat (first | exact (Kd.R_reads' HO186.out).2.2 | (with_reducible refine Kd.C_alloc ?_ _) | (with_reducible refine Kd.C_drewN ?_ _) | (with_reducible refine Kd.C_drew ?_))); (case side2 => exact (Kd.R_reads' HO186.out).2.1); rintro e w61 ⟨rfl, hb⟩; refine ⟨_, rfl, ?_⟩; have n0_ := Aside0.mk (Kd.R_below (by (with_reducible repeat (first | apply Kd.R_alloc | apply Kd.R_drewN | apply Kd.R_drew)); exact HO_3.out) hb); have n1_ := Aside0.mk (Kd.R_below (by (with_reducible repeat (first | apply Kd.R_alloc | apply Kd.R_drewN | apply Kd.R_drew)); exact HO179.out) hb); have n2_ := Aside0.mk (Kd.R_below (by (with_reducible repeat (first | apply Kd.R_alloc | apply Kd.R_drewN | apply Kd.R_drew)); exact HO186.out) hb); have n3_ := Aside0.mk (Kd.C_below (by repeat (first | (with_reducible exact HR183.out) | (with_reducible refine Kd.C_alloc ?_ _) | (with_reducible refine Kd.C_drewN ?_ _) | (with_reducible refine Kd.C_drew ?_) | exact HR183.out)) hb); have n4_ := Aside0.mk (below_step (by repeat (first | (with_reducible first | exact HB.out | apply below_alloc | apply pw_below_drewN | apply below_drew1) | exact HB.out)) hb); clear HO_3; clear HO179; clear HO186; clear HR183; clear HB; have HO_3 := n0_; have HO179 := n1_; have HO186 := n2_; have HR183 := n3_; have HB := n4_; clear n0_ n1_ n2_ n3_ n4_; (try clear hb); (try clear hb2); (try clear hk); (try clear hi)) | ((with_reducible refine gate_callee (f := 8) rfl ?_); refine goesL_ (some 72) rfl rfl Try.func8 (by kernel_rfl) rfl #[] rfl (by (try simp only [List.map_toArray, List.map_cons, List.map_nil]); first | done | rfl | (simp only [List.length_drop, List.length_take]; rfl)) ?_; (with_reducible refine (warrantorlaw23_lives.calls  true _ A45.out).mono ?_); rintro e w62 ⟨rfl, hb⟩; refine ⟨_, rfl, ?_⟩; have n0_ := Aside0.mk (Kd.R_below (by (with_reducible repeat (first | apply Kd.R_alloc | apply Kd.R_drewN | apply Kd.R_drew)); exact HO_3.out) hb); have n1_ := Aside0.mk (Kd.R_below (by (with_reducible repeat (first | apply Kd.R_alloc | apply Kd.R_drewN | apply Kd.R_drew)); exact HO179.out) hb); have n2_ := Aside0.mk (Kd.R_below (by (with_reducible repeat (first | apply Kd.R_alloc | apply Kd.R_drewN | apply Kd.R_drew)); exact HO186.out) hb); have n3_ := Aside0.mk (Kd.C_below (by repeat (first | (with_reducible exact HR183.out) | (with_reducible refine Kd.C_alloc ?_ _) | (with_reducible refine Kd.C_drewN ?_ _) | (with_reducible refine Kd.C_drew ?_) | exact HR183.out)) hb); have n4_ := Aside0.mk (below_step (by repeat (first | (with_reducible first | exact HB.out | apply below_alloc | apply pw_below_drewN | apply below_drew1) | exact HB.out)) hb); clear HO_3; clear HO179; clear HO186; clear HR183; clear HB; have HO_3 := n0_; have HO179 := n1_; have HO186 := n2_; have HR183 := n3_; have HB := n4_; clear n0_ n1_ n2_ n3_ n4_; (try clear hb); (try clear hb2); (try clear hk); (try clear hi); obtain ⟨Ao63, co63, eo63⟩ := Kd.R_slice HO179.out; subst eo63; have hcv64 := own_string (P := Try.prog) Try.underlying38 Try.underlying5 Try.underlying9 (Kd.own_of_R HO_3.out); have hcw65 := fun n_ : Nat => own_string (P := Try.prog) Try.underlying38 Try.underlying5 Try.underlying9 (Kd.own_of_R (Kd.R_drewN HO_3.out n_))))
                                  go_ret
                                  exact ⟨by first | rfl | (simp [errW_none, errW_some] <;> rfl) | (simp only [← hji17]; first | rfl | (simp [errW_none, errW_some] <;> rfl)) | (simp [*, errW_none, errW_some] <;> rfl), by repeat (first | (with_reducible first | exact HB.out | apply below_alloc | apply pw_below_drewN | apply below_drew1) | exact HB.out)⟩
                                · rw [if_neg c49] at H
                                  exact absurd H (by simp)
                              · rw [if_neg c48] at H
                                exact absurd H (by simp)
                            · rw [if_neg c47] at H
                              exact absurd H (by simp)
                          · replace c46 := Bool.eq_false_iff.mpr c46
                            subst c46
                            have H1 : (none) = some r := by rw [if_neg (show ¬ (false = true) by decide)] at H; exact H
                            clear H
                            have H := H1
                            clear H1
                            exact absurd H (by simp)
                      · rw [if_neg c23] at H
                        exact absurd H (by simp)
                    · rw [if_neg c19] at H
                      exact absurd H (by simp)
                  · rw [if_neg c18] at H
                    exact absurd H (by simp)
          · rw [if_neg c8] at H
            exact absurd H (by simp)
        · rw [if_neg c7] at H
          exact absurd H (by simp)

/-- THE ONE PURE STATEMENT of warrantorlaw23_LexLong: yours. -/
def warrantorlaw23_LexLong.Pure : Prop := ∀ (a0 : Int), (Lit.int .i64 a0).wf = true → ∃ k, warrantorlaw23_LexLong.f k a0 = some true
theorem warrantorlaw23_LexLong.walk (P : warrantorlaw23_LexLong.Pure) (a0 : Int) (w : World) (w0 : (Lit.int .i64 a0).wf = true) :
    Calls Try.prog 7 #[.int .i64 a0] w fun e w' => e = .returned (.bool true) ∧ Below w.heap.size w w' := by
  obtain ⟨k, h⟩ := P a0 w0
  refine (warrantorlaw23_LexLong.calls k a0 true w h).mono ?_
  rintro e w' ⟨rfl, hd⟩
  exact ⟨rfl, hd⟩

end Go.Proofs.Ytdgholodogcemaa.PAll
