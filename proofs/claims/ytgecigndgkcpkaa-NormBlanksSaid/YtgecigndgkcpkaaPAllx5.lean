/- Functions of the translation as plain Lean functions, and for each the proof that the machine's call does what that function says (laid by wip/tools/myprint.py of this session, by way of the print). -/
import Derived.Test.YtgecigndgkcpkaaPAllx0
import Derived.Test.YtgecigndgkcpkaaPAllx1
import Derived.Test.YtgecigndgkcpkaaPAllx2
import Derived.Test.YtgecigndgkcpkaaPAllx3
namespace Go.Proofs.Ytgecigndgkcpkaa.PAll
open Go.RowKit Go.Proofs.YtgecigndgkcpkaaW.PrintWords Go.Proofs.YtgecigndgkcpkaaW.PrintLast Go.Proofs.YtgecigndgkcpkaaW.PrintMore
attribute [local go_sem] max2_int min2_int max_two min_two max_three min_three max_four min_four   -- for this text's walks alone
set_option linter.unusedVariables false
set_option linter.unusedSimpArgs false

/-! ### warrantorlaw18_NormBlanks: function 5 -/
mutual
def warrantorlaw18_NormBlanks.j0 : Nat → ByteArray → Int → Int → Bool → Option (Bool)
  | 0, _, _, _, _ => none
  | k + 1, x0, x1, x2, x30 => if x30 = true then ((warrantorlaw18_lives.f k).bind fun t191 => (some t191)) else (if 0 ≤ x1 then (if x1 ≤ (x0.size : Int) then (warrantorlaw18_NormBlanks.l0 k x0 x1 x2 (x0.extract 0 (x1 : Int).toNat) 0) else (none)) else (none))
def warrantorlaw18_NormBlanks.l0 : Nat → ByteArray → Int → Int → ByteArray → Int → Option (Bool)
  | 0, _, _, _, _, _ => none
  | k + 1, x0, x1, x2, x7, x8 => if x8 < x2 then (if x7.size + 1 ≤ 9223372036854775807 then (warrantorlaw18_NormBlanks.l0 k x0 x1 x2 (x7 ++ (⟨#[32]⟩ : ByteArray)) (wrap64 (x8 + 1))) else (none)) else (if 0 ≤ x1 then (if x1 ≤ (x0.size : Int) then (if x7.size + (x0.extract (x1 : Int).toNat x0.size).size ≤ 9223372036854775807 then (if x1 > 0 then (if x1 < (x0.size : Int) then (if 0 ≤ (wrap64 (x1 - 1)) then (if (wrap64 (x1 - 1)) ≤ (wrap64 (x1 + 1)) then (if (wrap64 (x1 + 1)) ≤ (x0.size : Int) then ((warrantorref18_Parts.f k (x0.extract ((wrap64 (x1 - 1)) : Int).toNat ((wrap64 (x1 + 1)) : Int).toNat)).bind fun t192 => (if (t192.length : Int) = 1 then (if (wrap64 (x1 - 1)) < (x0.size : Int) then (if (bt x0 (wrap64 (x1 - 1))) = 32 then ((warrantorlaw18_lives.f k).bind fun t195 => (if t195 = true then ((norm_Same.f k x0 (x7 ++ (x0.extract (x1 : Int).toNat x0.size))).bind fun t196 => (some (false == (!t196)))) else (none))) else ((warrantorlaw18_lives.f k).bind fun t197 => (if t197 = true then (if (bt x0 x1) = 32 then ((norm_Same.f k x0 (x7 ++ (x0.extract (x1 : Int).toNat x0.size))).bind fun t198 => (some (false == (!t198)))) else ((norm_Same.f k x0 (x7 ++ (x0.extract (x1 : Int).toNat x0.size))).bind fun t199 => (some ((decide (x2 > 0)) == (!t199))))) else (none)))) else (none)) else ((warrantorlaw18_lives.f k).bind fun t200 => (if t200 = true then ((norm_Same.f k x0 (x7 ++ (x0.extract (x1 : Int).toNat x0.size))).bind fun t201 => (some (false == (!t201)))) else (none))))) else (none)) else (none)) else (none)) else ((warrantorlaw18_lives.f k).bind fun t202 => (if t202 = true then ((norm_Same.f k x0 (x7 ++ (x0.extract (x1 : Int).toNat x0.size))).bind fun t203 => (some (false == (!t203)))) else (none)))) else ((warrantorlaw18_lives.f k).bind fun t204 => (if t204 = true then ((norm_Same.f k x0 (x7 ++ (x0.extract (x1 : Int).toNat x0.size))).bind fun t205 => (some (false == (!t205)))) else (none)))) else (none)) else (none)) else (none))
end
def warrantorlaw18_NormBlanks.f (k : Nat) (a0 : ByteArray) (a1 : Int) (a2 : Int) : Option (Bool) := if (a0.size : Int) > 1000 then (warrantorlaw18_NormBlanks.j0 k a0 a1 a2 true) else (if a1 < 0 then (warrantorlaw18_NormBlanks.j0 k a0 a1 a2 true) else (if a1 > (a0.size : Int) then (warrantorlaw18_NormBlanks.j0 k a0 a1 a2 true) else (if a2 < 0 then (warrantorlaw18_NormBlanks.j0 k a0 a1 a2 true) else (warrantorlaw18_NormBlanks.j0 k a0 a1 a2 (decide (a2 > 100))))))
theorem warrantorlaw18_NormBlanks.mono_l : ∀ k, (∀ y0 y1 y2 y3, LeO (warrantorlaw18_NormBlanks.j0 k y0 y1 y2 y3) (warrantorlaw18_NormBlanks.j0 (k + 1) y0 y1 y2 y3)) ∧ (∀ y0 y1 y2 y3 y4, LeO (warrantorlaw18_NormBlanks.l0 k y0 y1 y2 y3 y4) (warrantorlaw18_NormBlanks.l0 (k + 1) y0 y1 y2 y3 y4))
  | 0 => ⟨fun _ _ _ _ r h => by simp [warrantorlaw18_NormBlanks.j0] at h, fun _ _ _ _ _ r h => by simp [warrantorlaw18_NormBlanks.l0] at h⟩
  | k + 1 => by
    obtain ⟨ih0, ih1⟩ := warrantorlaw18_NormBlanks.mono_l k
    refine ⟨?_, ?_⟩
    · intro y0 y1 y2 y3
      unfold warrantorlaw18_NormBlanks.j0
      repeat' first
      | (with_reducible exact ih0 _ _ _ _)
      | (with_reducible exact ih1 _ _ _ _ _)
      | (with_reducible exact norm_Same.mono _ _ _)
      | (with_reducible exact warrantorlaw18_lives.mono _)
      | (with_reducible exact warrantorref18_Parts.mono _ _)
      | (with_reducible exact LeO.refl _)
      | (with_reducible exact LeO.none _)
      | (with_reducible refine LeO.ite ?_ ?_)
      | (with_reducible refine LeO.bind ?_ (fun _ => ?_))
      | exact ih0 _ _ _ _
      | exact ih1 _ _ _ _ _
      | exact norm_Same.mono _ _ _
      | exact warrantorlaw18_lives.mono _
      | exact warrantorref18_Parts.mono _ _
      | exact LeO.none _
      | refine LeO.ite ?_ ?_
      | refine LeO.bind ?_ (fun _ => ?_)
    · intro y0 y1 y2 y3 y4
      unfold warrantorlaw18_NormBlanks.l0
      repeat' first
      | (with_reducible exact ih0 _ _ _ _)
      | (with_reducible exact ih1 _ _ _ _ _)
      | (with_reducible exact norm_Same.mono _ _ _)
      | (with_reducible exact warrantorlaw18_lives.mono _)
      | (with_reducible exact warrantorref18_Parts.mono _ _)
      | (with_reducible exact LeO.refl _)
      | (with_reducible exact LeO.none _)
      | (with_reducible refine LeO.ite ?_ ?_)
      | (with_reducible refine LeO.bind ?_ (fun _ => ?_))
      | exact ih0 _ _ _ _
      | exact ih1 _ _ _ _ _
      | exact norm_Same.mono _ _ _
      | exact warrantorlaw18_lives.mono _
      | exact warrantorref18_Parts.mono _ _
      | exact LeO.none _
      | refine LeO.ite ?_ ?_
      | refine LeO.bind ?_ (fun _ => ?_)
theorem warrantorlaw18_NormBlanks.mono : ∀ a0 a1 a2 k, LeO (warrantorlaw18_NormBlanks.f k a0 a1 a2) (warrantorlaw18_NormBlanks.f (k + 1) a0 a1 a2) := by
  intro a0 a1 a2 k
  obtain ⟨ih0, ih1⟩ := warrantorlaw18_NormBlanks.mono_l k
  unfold warrantorlaw18_NormBlanks.f
  repeat' first
      | (with_reducible exact ih0 _ _ _ _)
      | (with_reducible exact ih1 _ _ _ _ _)
      | (with_reducible exact norm_Same.mono _ _ _)
      | (with_reducible exact warrantorlaw18_lives.mono _)
      | (with_reducible exact warrantorref18_Parts.mono _ _)
      | (with_reducible exact LeO.refl _)
      | (with_reducible exact LeO.none _)
      | (with_reducible refine LeO.ite ?_ ?_)
      | (with_reducible refine LeO.bind ?_ (fun _ => ?_))
      | exact ih0 _ _ _ _
      | exact ih1 _ _ _ _ _
      | exact norm_Same.mono _ _ _
      | exact warrantorlaw18_lives.mono _
      | exact warrantorref18_Parts.mono _ _
      | exact LeO.none _
      | refine LeO.ite ?_ ?_
      | refine LeO.bind ?_ (fun _ => ?_)
set_option maxHeartbeats 8000000 in
set_option maxRecDepth 100000 in
theorem warrantorlaw18_NormBlanks.calls (k : Nat) (a0 : ByteArray) (a1 : Int) (a2 : Int) (r : Bool) (w : World) (h : warrantorlaw18_NormBlanks.f k a0 a1 a2 = some r) :
    Calls Try.prog 5 #[.string a0, .int .i64 a1, .int .i64 a2] w fun e w' => e = .returned (.bool r) ∧ Below w.heap.size w w' := by
  have HB := Aside0.mk (Below.refl w.heap.size w)
  have H : (if (a0.size : Int) > 1000 then (warrantorlaw18_NormBlanks.j0 k a0 a1 a2 true) else (if a1 < 0 then (warrantorlaw18_NormBlanks.j0 k a0 a1 a2 true) else (if a1 > (a0.size : Int) then (warrantorlaw18_NormBlanks.j0 k a0 a1 a2 true) else (if a2 < 0 then (warrantorlaw18_NormBlanks.j0 k a0 a1 a2 true) else (warrantorlaw18_NormBlanks.j0 k a0 a1 a2 (decide (a2 > 100))))))) = some r := h
  clear h
  have HC4 := Aside0.mk H
  clear H
  go_enter Try.func5, Try.ntmps5
  go_upto_region 1 with (fail)
  go_cut [30] (fun v30 wc => ∃ (kq : Nat) (x30_3 : Bool), v30 = .bool x30_3 ∧ Aside0 (warrantorlaw18_NormBlanks.j0 kq a0 a1 a2 x30_3 = some r) ∧ Aside0 (kq ≤ k) ∧ Aside0 (Below w.heap.size w wc))
  case first =>
    have H := HC4.out
    clear HC4
    by_cases c5 : (a0.size : Int) > 1000
    · rw [if_pos c5] at H
      have c5b0 : decide (1000 < (a0.size : Int)) = true := decide_eq_true c5
      have c5b1 : decide (1000 < a0.size) = true := decide_eq_true (by omega)
      clear c5
      (first | rw [c5b0] | (simp only [i64_w, i32_w]; rw [c5b0]) | skip)
      have H' := Aside0.mk H
      clear H
      go_wp2
      go_meet
      case rel => exact ⟨_, (true), (by first | rfl | (simp; done) | (simp [*]; done)), H', ⟨by first | omega | exact Nat.le_refl _⟩, ⟨by repeat (first | (with_reducible first | exact HB.out | apply below_alloc | apply pw_below_drewN | apply below_drew1) | exact HB.out)⟩⟩
    · rw [if_neg c5] at H
      have c5b0 : decide (1000 < (a0.size : Int)) = false := decide_eq_false c5
      have c5b1 : decide (1000 < a0.size) = false := decide_eq_false (by omega)
      clear c5
      (first | rw [c5b0] | (simp only [i64_w, i32_w]; rw [c5b0]) | skip)
      by_cases c6 : a1 < 0
      · rw [if_pos c6] at H
        have c6b0 : decide (a1 < 0) = true := decide_eq_true c6
        clear c6
        have H' := Aside0.mk H
        clear H
        go_wp2
        go_meet
        case rel => exact ⟨_, (true), (by first | rfl | (simp; done) | (simp [*]; done)), H', ⟨by first | omega | exact Nat.le_refl _⟩, ⟨by repeat (first | (with_reducible first | exact HB.out | apply below_alloc | apply pw_below_drewN | apply below_drew1) | exact HB.out)⟩⟩
      · rw [if_neg c6] at H
        have c6b0 : decide (a1 < 0) = false := decide_eq_false c6
        clear c6
        by_cases c7 : a1 > (a0.size : Int)
        · rw [if_pos c7] at H
          have c7b0 : decide ((a0.size : Int) < a1) = true := decide_eq_true c7
          clear c7
          have H' := Aside0.mk H
          clear H
          go_wp2
          go_meet
          case rel => exact ⟨_, (true), (by first | rfl | (simp; done) | (simp [*]; done)), H', ⟨by first | omega | exact Nat.le_refl _⟩, ⟨by repeat (first | (with_reducible first | exact HB.out | apply below_alloc | apply pw_below_drewN | apply below_drew1) | exact HB.out)⟩⟩
        · rw [if_neg c7] at H
          have c7b0 : decide ((a0.size : Int) < a1) = false := decide_eq_false c7
          clear c7
          by_cases c8 : a2 < 0
          · rw [if_pos c8] at H
            have c8b0 : decide (a2 < 0) = true := decide_eq_true c8
            clear c8
            have H' := Aside0.mk H
            clear H
            go_wp2
            go_meet
            case rel => exact ⟨_, (true), (by first | rfl | (simp; done) | (simp [*]; done)), H', ⟨by first | omega | exact Nat.le_refl _⟩, ⟨by repeat (first | (with_reducible first | exact HB.out | apply below_alloc | apply pw_below_drewN | apply below_drew1) | exact HB.out)⟩⟩
          · rw [if_neg c8] at H
            have c8b0 : decide (a2 < 0) = false := decide_eq_false c8
            clear c8
            have H' := Aside0.mk H
            clear H
            go_wp2
            go_meet
            case rel => exact ⟨_, (decide (a2 > 100)), (by first | rfl | (simp; done) | (simp [*]; done)), H', ⟨by first | omega | exact Nat.le_refl _⟩, ⟨by repeat (first | (with_reducible first | exact HB.out | apply below_alloc | apply pw_below_drewN | apply below_drew1) | exact HB.out)⟩⟩
  case rest =>
    clear HC4
    try clear p2
    try clear c5
    try clear c5b0
    try clear c5b1
    try clear c6
    try clear c6b0
    try clear c7
    try clear c7b0
    try clear c8
    try clear c8b0
    obtain ⟨kq, x30_3, rfl, HA, HJ3, HB⟩ := hcut
    cases kq with
    | zero => exact absurd HA.out (by simp [warrantorlaw18_NormBlanks.j0])
    | succ kj3 =>
      have H := HA.out
      clear HA
      simp only [warrantorlaw18_NormBlanks.j0] at H
      by_cases c9 : x30_3 = true
      · subst c9
        have H1 : ((warrantorlaw18_lives.f kj3).bind fun t191 => (some t191)) = some r := by rw [if_pos rfl] at H; exact H
        clear H
        have H := H1
        clear H1
        replace H := Option.bind_eq_some_iff.mp H
        obtain ⟨t191, A100, H⟩ := H
        replace H : (some t191) = some r := H
        have A10 := Aside0.mk A100
        clear A100
        obtain rfl := Option.some.inj H
        go_wp2_with (first | ((with_reducible refine gate_callee (f := 7) rfl ?_); refine goesL_ (some 31) rfl rfl Try.func7 (by kernel_rfl) rfl #[] rfl (by (try simp only [List.map_toArray, List.map_cons, List.map_nil]); first | done | rfl | (simp only [List.length_drop, List.length_take]; rfl)) ?_; (with_reducible refine (warrantorlaw18_lives.calls kj3  t191 _ A10.out).mono ?_); rintro e w11 ⟨rfl, hb⟩; refine ⟨_, rfl, ?_⟩; have n0_ := Aside0.mk (below_step (by repeat (first | (with_reducible first | exact HB.out | apply below_alloc | apply pw_below_drewN | apply below_drew1) | exact HB.out)) hb); clear HB; have HB := n0_; clear n0_; (try clear hb); (try clear hb2); (try clear hk); (try clear hi)))
        go_ret
        exact ⟨by first | rfl | (simp [errW_none, errW_some] <;> rfl) | (simp [*, errW_none, errW_some] <;> rfl), by repeat (first | (with_reducible first | exact HB.out | apply below_alloc | apply pw_below_drewN | apply below_drew1) | exact HB.out)⟩
      · replace c9 := Bool.eq_false_iff.mpr c9
        subst c9
        have H1 : (if 0 ≤ a1 then (if a1 ≤ (a0.size : Int) then (warrantorlaw18_NormBlanks.l0 kj3 a0 a1 a2 (a0.extract 0 (a1 : Int).toNat) 0) else (none)) else (none)) = some r := by rw [if_neg (show ¬ (false = true) by decide)] at H; exact H
        clear H
        have H := H1
        clear H1
        by_cases c12 : 0 ≤ a1
        · rw [if_pos c12] at H
          have c12b0 := eq_true c12
          have c12b1 : decide (0 ≤ a1) = true := decide_eq_true c12
          clear c12
          by_cases c13 : a1 ≤ (a0.size : Int)
          · rw [if_pos c13] at H
            have c13b0 := eq_true c13
            have c13b1 : decide (a1 ≤ (a0.size : Int)) = true := decide_eq_true c13
            clear c13
            have H' := Aside0.mk H
            clear H
            go_wp2
            go_loopg [7, 8] kj3 (fun kq v7 v8 w' => ∃ (x7_2 : ByteArray) (x8_2 : Int), v7 = .string x7_2 ∧ v8 = .int .i64 x8_2 ∧ Aside0 (warrantorlaw18_NormBlanks.l0 kq a0 a1 a2 x7_2 x8_2 = some r) ∧ Aside0 (kq ≤ kj3) ∧ Aside0 (Below w.heap.size w w'))
            case atStart => exact ⟨(a0.extract 0 (a1 : Int).toNat), (0), (by first | rfl | (simp; done) | (simp [*]; done)), (by first | rfl | (simp; done) | (simp [*]; done)), H', ⟨Nat.le_refl _⟩, ⟨by repeat (first | (with_reducible first | exact HB.out | apply below_alloc | apply pw_below_drewN | apply below_drew1) | exact HB.out)⟩⟩
            case round =>
              clear H'
              try clear c1
              try clear p2
              try clear c5
              try clear c5b0
              try clear c5b1
              try clear c6
              try clear c6b0
              try clear c7
              try clear c7b0
              try clear c8
              try clear c8b0
              try clear c9
              try clear c12
              try clear c12b0
              try clear c12b1
              try clear c13
              try clear c13b0
              try clear c13b1
              try clear p2
              obtain ⟨x7_2, x8_2, rfl, rfl, HA, HK2, HB⟩ := hrel
              cases gk with
              | zero => exact absurd HA.out (by simp [warrantorlaw18_NormBlanks.l0])
              | succ k2 =>
                have H := HA.out
                clear HA
                simp only [warrantorlaw18_NormBlanks.l0] at H
                by_cases c14 : x8_2 < a2
                · rw [if_pos c14] at H
                  have c14b0 : decide (x8_2 < a2) = true := decide_eq_true c14
                  clear c14
                  by_cases c15 : x7_2.size + 1 ≤ 9223372036854775807
                  · rw [if_pos c15] at H
                    have c15b0 := eq_true c15
                    have c15b1 : decide (x7_2.size + 1 ≤ 9223372036854775807) = true := decide_eq_true c15
                    try have c15b2 : (9223372036854775807 < x7_2.size + 1) = False := eq_false (Nat.not_lt.2 c15)
                    have H' := Aside0.mk H
                    clear H
                    go_wp2
                    go_roundg k2
                    case measure => have := HJ3.out; have := HK2.out; omega
                    case rel => exact ⟨(x7_2 ++ (⟨#[32]⟩ : ByteArray)), (wrap64 (x8_2 + 1)), (by first | rfl | (simp; done) | (simp [*]; done)), (by first | rfl | (simp; done) | (simp [*]; done)), H', ⟨by have := HJ3.out; have := HK2.out; omega⟩, ⟨by repeat (first | (with_reducible first | exact HB.out | apply below_alloc | apply pw_below_drewN | apply below_drew1) | exact HB.out)⟩⟩
                  · rw [if_neg c15] at H
                    exact absurd H (by simp)
                · rw [if_neg c14] at H
                  have c14b0 : decide (x8_2 < a2) = false := decide_eq_false c14
                  clear c14
                  by_cases c16 : 0 ≤ a1
                  · rw [if_pos c16] at H
                    have c16b0 := eq_true c16
                    have c16b1 : decide (0 ≤ a1) = true := decide_eq_true c16
                    clear c16
                    by_cases c17 : a1 ≤ (a0.size : Int)
                    · rw [if_pos c17] at H
                      have c17b0 := eq_true c17
                      have c17b1 : decide (a1 ≤ (a0.size : Int)) = true := decide_eq_true c17
                      clear c17
                      by_cases c18 : x7_2.size + (a0.extract (a1 : Int).toNat a0.size).size ≤ 9223372036854775807
                      · rw [if_pos c18] at H
                        have c18b0 := eq_true c18
                        have c18b1 : decide (x7_2.size + (a0.extract (a1 : Int).toNat a0.size).size ≤ 9223372036854775807) = true := decide_eq_true c18
                        try have c18b2 : (9223372036854775807 < x7_2.size + (a0.extract (a1 : Int).toNat a0.size).size) = False := eq_false (Nat.not_lt.2 c18)
                        by_cases c19 : a1 > 0
                        · rw [if_pos c19] at H
                          have c19b0 : decide (0 < a1) = true := decide_eq_true c19
                          clear c19
                          by_cases c20 : a1 < (a0.size : Int)
                          · rw [if_pos c20] at H
                            have c20b0 : decide (a1 < (a0.size : Int)) = true := decide_eq_true c20
                            clear c20
                            obtain ⟨ji21, hji21⟩ : ∃ j_ : Int, (wrap64 (a1 - 1)) = j_ := ⟨_, rfl⟩
                            replace H : (if 0 ≤ (ji21) then (if (ji21) ≤ (wrap64 (a1 + 1)) then (if (wrap64 (a1 + 1)) ≤ (a0.size : Int) then ((warrantorref18_Parts.f k2 (a0.extract ((ji21) : Int).toNat ((wrap64 (a1 + 1)) : Int).toNat)).bind fun t192 => (if (t192.length : Int) = 1 then (if (ji21) < (a0.size : Int) then (if (bt a0 (ji21)) = 32 then ((warrantorlaw18_lives.f k2).bind fun t195 => (if t195 = true then ((norm_Same.f k2 a0 (x7_2 ++ (a0.extract (a1 : Int).toNat a0.size))).bind fun t196 => (some (false == (!t196)))) else (none))) else ((warrantorlaw18_lives.f k2).bind fun t197 => (if t197 = true then (if (bt a0 a1) = 32 then ((norm_Same.f k2 a0 (x7_2 ++ (a0.extract (a1 : Int).toNat a0.size))).bind fun t198 => (some (false == (!t198)))) else ((norm_Same.f k2 a0 (x7_2 ++ (a0.extract (a1 : Int).toNat a0.size))).bind fun t199 => (some ((decide (a2 > 0)) == (!t199))))) else (none)))) else (none)) else ((warrantorlaw18_lives.f k2).bind fun t200 => (if t200 = true then ((norm_Same.f k2 a0 (x7_2 ++ (a0.extract (a1 : Int).toNat a0.size))).bind fun t201 => (some (false == (!t201)))) else (none))))) else (none)) else (none)) else (none)) = some r := by first | (rw [hji21] at H; exact H) | (simp only [hji21] at H ⊢; exact H)
                            have hji21w : (IntKind.i64.wrap (a1 - 1)) = ji21 := (i64_w _).trans hji21
                            by_cases c22 : 0 ≤ (ji21)
                            · rw [if_pos c22] at H
                              have c22b0 := eq_true c22
                              have c22b1 : decide (0 ≤ (ji21)) = true := decide_eq_true c22
                              clear c22
                              by_cases c23 : (ji21) ≤ (wrap64 (a1 + 1))
                              · rw [if_pos c23] at H
                                have c23b0 := eq_true c23
                                have c23b1 : decide ((ji21) ≤ (wrap64 (a1 + 1))) = true := decide_eq_true c23
                                by_cases c24 : (wrap64 (a1 + 1)) ≤ (a0.size : Int)
                                · rw [if_pos c24] at H
                                  have c24b0 := eq_true c24
                                  have c24b1 : decide ((wrap64 (a1 + 1)) ≤ (a0.size : Int)) = true := decide_eq_true c24
                                  replace H := Option.bind_eq_some_iff.mp H
                                  obtain ⟨t192, A250, H⟩ := H
                                  replace H : (if (t192.length : Int) = 1 then (if (ji21) < (a0.size : Int) then (if (bt a0 (ji21)) = 32 then ((warrantorlaw18_lives.f k2).bind fun t195 => (if t195 = true then ((norm_Same.f k2 a0 (x7_2 ++ (a0.extract (a1 : Int).toNat a0.size))).bind fun t196 => (some (false == (!t196)))) else (none))) else ((warrantorlaw18_lives.f k2).bind fun t197 => (if t197 = true then (if (bt a0 a1) = 32 then ((norm_Same.f k2 a0 (x7_2 ++ (a0.extract (a1 : Int).toNat a0.size))).bind fun t198 => (some (false == (!t198)))) else ((norm_Same.f k2 a0 (x7_2 ++ (a0.extract (a1 : Int).toNat a0.size))).bind fun t199 => (some ((decide (a2 > 0)) == (!t199))))) else (none)))) else (none)) else ((warrantorlaw18_lives.f k2).bind fun t200 => (if t200 = true then ((norm_Same.f k2 a0 (x7_2 ++ (a0.extract (a1 : Int).toNat a0.size))).bind fun t201 => (some (false == (!t201)))) else (none)))) = some r := H
                                  have A25 := Aside0.mk A250
                                  clear A250
                                  by_cases c26 : (t192.length : Int) = 1
                                  · rw [if_pos c26] at H
                                    have c26b0 : ((t192.length : Int) == 1) = true := beq_iff_eq.mpr c26
                                    have c26b1 : ((t192.length : Int) != 1) = false := bne_eq_false_iff_eq.mpr c26
                                    clear c26
                                    by_cases c27 : (ji21) < (a0.size : Int)
                                    · rw [if_pos c27] at H
                                      have c27b0 : decide ((ji21) < (a0.size : Int)) = true := decide_eq_true c27
                                      clear c27
                                      by_cases c29 : (bt a0 (ji21)) = 32
                                      · rw [if_pos c29] at H
                                        have c29b0 : ((bt a0 (ji21)) == 32) = true := beq_iff_eq.mpr c29
                                        have c29b1 : ((bt a0 (ji21)) != 32) = false := bne_eq_false_iff_eq.mpr c29
                                        clear c29
                                        replace H := Option.bind_eq_some_iff.mp H
                                        obtain ⟨t195, A300, H⟩ := H
                                        replace H : (if t195 = true then ((norm_Same.f k2 a0 (x7_2 ++ (a0.extract (a1 : Int).toNat a0.size))).bind fun t196 => (some (false == (!t196)))) else (none)) = some r := H
                                        have A30 := Aside0.mk A300
                                        clear A300
                                        by_cases c31 : t195 = true
                                        · subst c31
                                          have H1 : ((norm_Same.f k2 a0 (x7_2 ++ (a0.extract (a1 : Int).toNat a0.size))).bind fun t196 => (some (false == (!t196)))) = some r := by rw [if_pos rfl] at H; exact H
                                          clear H
                                          have H := H1
                                          clear H1
                                          replace H := Option.bind_eq_some_iff.mp H
                                          obtain ⟨t196, A320, H⟩ := H
                                          replace H : (some (false == (!t196))) = some r := H
                                          have A32 := Aside0.mk A320
                                          clear A320
                                          obtain rfl := Option.some.inj H
                                          go_wp2_with (first | (go_at_call 10; (with_reducible refine (warrantorref18_Parts.calls k2 (a0.extract ((ji21) : Int).toNat ((wrap64 (a1 + 1)) : Int).toNat) t192 _ A25.out).mono ?_); rintro e w33 ⟨v193, rfl, ho0, hb⟩; have n0_ := Aside0.mk (Kd.R_lower ho0 (below_size (by repeat (first | (with_reducible first | exact HB.out | apply below_alloc | apply pw_below_drewN | apply below_drew1) | exact HB.out)))); have n1_ := Aside0.mk (below_step (by repeat (first | (with_reducible first | exact HB.out | apply below_alloc | apply pw_below_drewN | apply below_drew1) | exact HB.out)) hb); clear HB; have HO194 := n0_; have HB := n1_; clear n0_ n1_; (try clear hb); (try clear hb2); (try clear hk); (try clear hi); (try clear ho0); obtain ⟨Ao34, co34, eo34⟩ := Kd.R_slice HO194.out; subst eo34; have p28 : 0 ≤ ((ji21) : Int) := of_decide_eq_true (by first | (with_reducible assumption) | assumption); have q28 : (ji21) < (a0.size : Int) := of_decide_eq_true (by first | (with_reducible assumption) | assumption); have hx28 := bt_at a0 (ji21); replace p28 := eq_true p28; replace q28 := eq_true q28) | ((with_reducible refine gate_callee (f := 7) rfl ?_); refine goesL_ (some 79) rfl rfl Try.func7 (by kernel_rfl) rfl #[] rfl (by (try simp only [List.map_toArray, List.map_cons, List.map_nil]); first | done | rfl | (simp only [List.length_drop, List.length_take]; rfl)) ?_; (with_reducible refine (warrantorlaw18_lives.calls k2  true _ A30.out).mono ?_); rintro e w35 ⟨rfl, hb⟩; refine ⟨_, rfl, ?_⟩; have n0_ := Aside0.mk (Kd.R_below (by (with_reducible repeat (first | apply Kd.R_alloc | apply Kd.R_drewN | apply Kd.R_drew)); exact HO194.out) hb); have n1_ := Aside0.mk (below_step (by repeat (first | (with_reducible first | exact HB.out | apply below_alloc | apply pw_below_drewN | apply below_drew1) | exact HB.out)) hb); clear HO194; clear HB; have HO194 := n0_; have HB := n1_; clear n0_ n1_; (try clear hb); (try clear hb2); (try clear hk); (try clear hi)) | (go_at_call 13; (with_reducible refine (norm_Same.calls k2 a0 (x7_2 ++ (a0.extract (a1 : Int).toNat a0.size)) t196 _ A32.out).mono ?_); rintro e w36 ⟨rfl, hb⟩; have n0_ := Aside0.mk (Kd.R_below (by (with_reducible repeat (first | apply Kd.R_alloc | apply Kd.R_drewN | apply Kd.R_drew)); exact HO194.out) hb); have n1_ := Aside0.mk (below_step (by repeat (first | (with_reducible first | exact HB.out | apply below_alloc | apply pw_below_drewN | apply below_drew1) | exact HB.out)) hb); clear HO194; clear HB; have HO194 := n0_; have HB := n1_; clear n0_ n1_; (try clear hb); (try clear hb2); (try clear hk); (try clear hi)))
                                          go_ret
                                          exact ⟨by first | rfl | (simp [errW_none, errW_some] <;> rfl) | (simp only [← hji21]; first | rfl | (simp [errW_none, errW_some] <;> rfl)) | (simp [*, errW_none, errW_some] <;> rfl), by repeat (first | (with_reducible first | exact HB.out | apply below_alloc | apply pw_below_drewN | apply below_drew1) | exact HB.out)⟩
                                        · replace c31 := Bool.eq_false_iff.mpr c31
                                          subst c31
                                          have H1 : (none) = some r := by rw [if_neg (show ¬ (false = true) by decide)] at H; exact H
                                          clear H
                                          have H := H1
                                          clear H1
                                          exact absurd H (by simp)
                                      · rw [if_neg c29] at H
                                        have c29b0 : ((bt a0 (ji21)) == 32) = false := beq_eq_false_iff_ne.mpr c29
                                        have c29b1 : ((bt a0 (ji21)) != 32) = true := bne_iff_ne.mpr c29
                                        replace H := Option.bind_eq_some_iff.mp H
                                        obtain ⟨t197, A380, H⟩ := H
                                        replace H : (if t197 = true then (if (bt a0 a1) = 32 then ((norm_Same.f k2 a0 (x7_2 ++ (a0.extract (a1 : Int).toNat a0.size))).bind fun t198 => (some (false == (!t198)))) else ((norm_Same.f k2 a0 (x7_2 ++ (a0.extract (a1 : Int).toNat a0.size))).bind fun t199 => (some ((decide (a2 > 0)) == (!t199))))) else (none)) = some r := H
                                        have A38 := Aside0.mk A380
                                        clear A380
                                        by_cases c39 : t197 = true
                                        · subst c39
                                          have H1 : (if (bt a0 a1) = 32 then ((norm_Same.f k2 a0 (x7_2 ++ (a0.extract (a1 : Int).toNat a0.size))).bind fun t198 => (some (false == (!t198)))) else ((norm_Same.f k2 a0 (x7_2 ++ (a0.extract (a1 : Int).toNat a0.size))).bind fun t199 => (some ((decide (a2 > 0)) == (!t199))))) = some r := by rw [if_pos rfl] at H; exact H
                                          clear H
                                          have H := H1
                                          clear H1
                                          by_cases c40 : (bt a0 a1) = 32
                                          · rw [if_pos c40] at H
                                            have c40b0 : ((bt a0 a1) == 32) = true := beq_iff_eq.mpr c40
                                            have c40b1 : ((bt a0 a1) != 32) = false := bne_eq_false_iff_eq.mpr c40
                                            clear c40
                                            replace H := Option.bind_eq_some_iff.mp H
                                            obtain ⟨t198, A410, H⟩ := H
                                            replace H : (some (false == (!t198))) = some r := H
                                            have A41 := Aside0.mk A410
                                            clear A410
                                            obtain rfl := Option.some.inj H
                                            go_wp2_with (first | (go_at_call 10; (with_reducible refine (warrantorref18_Parts.calls k2 (a0.extract ((ji21) : Int).toNat ((wrap64 (a1 + 1)) : Int).toNat) t192 _ A25.out).mono ?_); rintro e w42 ⟨v193, rfl, ho0, hb⟩; have n0_ := Aside0.mk (Kd.R_lower ho0 (below_size (by repeat (first | (with_reducible first | exact HB.out | apply below_alloc | apply pw_below_drewN | apply below_drew1) | exact HB.out)))); have n1_ := Aside0.mk (below_step (by repeat (first | (with_reducible first | exact HB.out | apply below_alloc | apply pw_below_drewN | apply below_drew1) | exact HB.out)) hb); clear HB; have HO194 := n0_; have HB := n1_; clear n0_ n1_; (try clear hb); (try clear hb2); (try clear hk); (try clear hi); (try clear ho0); obtain ⟨Ao43, co43, eo43⟩ := Kd.R_slice HO194.out; subst eo43; have p28 : 0 ≤ ((ji21) : Int) := of_decide_eq_true (by first | (with_reducible assumption) | assumption); have q28 : (ji21) < (a0.size : Int) := of_decide_eq_true (by first | (with_reducible assumption) | assumption); have hx28 := bt_at a0 (ji21); replace p28 := eq_true p28; replace q28 := eq_true q28; have p37 : 0 ≤ (a1 : Int) := of_decide_eq_true (by first | (with_reducible assumption) | assumption); have q37 : a1 < (a0.size : Int) := of_decide_eq_true (by first | (with_reducible assumption) | assumption); have hx37 := bt_at a0 a1; replace p37 := eq_true p37; replace q37 := eq_true q37) | ((with_reducible refine gate_callee (f := 7) rfl ?_); refine goesL_ (some 79) rfl rfl Try.func7 (by kernel_rfl) rfl #[] rfl (by (try simp only [List.map_toArray, List.map_cons, List.map_nil]); first | done | rfl | (simp only [List.length_drop, List.length_take]; rfl)) ?_; (with_reducible refine (warrantorlaw18_lives.calls k2  true _ A38.out).mono ?_); rintro e w44 ⟨rfl, hb⟩; refine ⟨_, rfl, ?_⟩; have n0_ := Aside0.mk (Kd.R_below (by (with_reducible repeat (first | apply Kd.R_alloc | apply Kd.R_drewN | apply Kd.R_drew)); exact HO194.out) hb); have n1_ := Aside0.mk (below_step (by repeat (first | (with_reducible first | exact HB.out | apply below_alloc | apply pw_below_drewN | apply below_drew1) | exact HB.out)) hb); clear HO194; clear HB; have HO194 := n0_; have HB := n1_; clear n0_ n1_; (try clear hb); (try clear hb2); (try clear hk); (try clear hi)) | (go_at_call 13; (with_reducible refine (norm_Same.calls k2 a0 (x7_2 ++ (a0.extract (a1 : Int).toNat a0.size)) t198 _ A41.out).mono ?_); rintro e w45 ⟨rfl, hb⟩; have n0_ := Aside0.mk (Kd.R_below (by (with_reducible repeat (first | apply Kd.R_alloc | apply Kd.R_drewN | apply Kd.R_drew)); exact HO194.out) hb); have n1_ := Aside0.mk (below_step (by repeat (first | (with_reducible first | exact HB.out | apply below_alloc | apply pw_below_drewN | apply below_drew1) | exact HB.out)) hb); clear HO194; clear HB; have HO194 := n0_; have HB := n1_; clear n0_ n1_; (try clear hb); (try clear hb2); (try clear hk); (try clear hi)))
                                            go_ret
                                            exact ⟨by first | rfl | (simp [errW_none, errW_some] <;> rfl) | (simp only [← hji21]; first | rfl | (simp [errW_none, errW_some] <;> rfl)) | (simp [*, errW_none, errW_some] <;> rfl), by repeat (first | (with_reducible first | exact HB.out | apply below_alloc | apply pw_below_drewN | apply below_drew1) | exact HB.out)⟩
                                          · rw [if_neg c40] at H
                                            have c40b0 : ((bt a0 a1) == 32) = false := beq_eq_false_iff_ne.mpr c40
                                            have c40b1 : ((bt a0 a1) != 32) = true := bne_iff_ne.mpr c40
                                            replace H := Option.bind_eq_some_iff.mp H
                                            obtain ⟨t199, A460, H⟩ := H
                                            replace H : (some ((decide (a2 > 0)) == (!t199))) = some r := H
                                            have A46 := Aside0.mk A460
                                            clear A460
                                            obtain rfl := Option.some.inj H
                                            go_wp2_with (first | (go_at_call 10; (with_reducible refine (warrantorref18_Parts.calls k2 (a0.extract ((ji21) : Int).toNat ((wrap64 (a1 + 1)) : Int).toNat) t192 _ A25.out).mono ?_); rintro e w47 ⟨v193, rfl, ho0, hb⟩; have n0_ := Aside0.mk (Kd.R_lower ho0 (below_size (by repeat (first | (with_reducible first | exact HB.out | apply below_alloc | apply pw_below_drewN | apply below_drew1) | exact HB.out)))); have n1_ := Aside0.mk (below_step (by repeat (first | (with_reducible first | exact HB.out | apply below_alloc | apply pw_below_drewN | apply below_drew1) | exact HB.out)) hb); clear HB; have HO194 := n0_; have HB := n1_; clear n0_ n1_; (try clear hb); (try clear hb2); (try clear hk); (try clear hi); (try clear ho0); obtain ⟨Ao48, co48, eo48⟩ := Kd.R_slice HO194.out; subst eo48; have p28 : 0 ≤ ((ji21) : Int) := of_decide_eq_true (by first | (with_reducible assumption) | assumption); have q28 : (ji21) < (a0.size : Int) := of_decide_eq_true (by first | (with_reducible assumption) | assumption); have hx28 := bt_at a0 (ji21); replace p28 := eq_true p28; replace q28 := eq_true q28; have p37 : 0 ≤ (a1 : Int) := of_decide_eq_true (by first | (with_reducible assumption) | assumption); have q37 : a1 < (a0.size : Int) := of_decide_eq_true (by first | (with_reducible assumption) | assumption); have hx37 := bt_at a0 a1; replace p37 := eq_true p37; replace q37 := eq_true q37) | ((with_reducible refine gate_callee (f := 7) rfl ?_); refine goesL_ (some 79) rfl rfl Try.func7 (by kernel_rfl) rfl #[] rfl (by (try simp only [List.map_toArray, List.map_cons, List.map_nil]); first | done | rfl | (simp only [List.length_drop, List.length_take]; rfl)) ?_; (with_reducible refine (warrantorlaw18_lives.calls k2  true _ A38.out).mono ?_); rintro e w49 ⟨rfl, hb⟩; refine ⟨_, rfl, ?_⟩; have n0_ := Aside0.mk (Kd.R_below (by (with_reducible repeat (first | apply Kd.R_alloc | apply Kd.R_drewN | apply Kd.R_drew)); exact HO194.out) hb); have n1_ := Aside0.mk (below_step (by repeat (first | (with_reducible first | exact HB.out | apply below_alloc | apply pw_below_drewN | apply below_drew1) | exact HB.out)) hb); clear HO194; clear HB; have HO194 := n0_; have HB := n1_; clear n0_ n1_; (try clear hb); (try clear hb2); (try clear hk); (try clear hi)) | (go_at_call 13; (with_reducible refine (norm_Same.calls k2 a0 (x7_2 ++ (a0.extract (a1 : Int).toNat a0.size)) t199 _ A46.out).mono ?_); rintro e w50 ⟨rfl, hb⟩; have n0_ := Aside0.mk (Kd.R_below (by (with_reducible repeat (first | apply Kd.R_alloc | apply Kd.R_drewN | apply Kd.R_drew)); exact HO194.out) hb); have n1_ := Aside0.mk (below_step (by repeat (first | (with_reducible first | exact HB.out | apply below_alloc | apply pw_below_drewN | apply below_drew1) | exact HB.out)) hb); clear HO194; clear HB; have HO194 := n0_; have HB := n1_; clear n0_ n1_; (try clear hb); (try clear hb2); (try clear hk); (try clear hi)))
                                            go_ret
                                            exact ⟨by first | rfl | (simp [errW_none, errW_some] <;> rfl) | (simp only [← hji21]; first | rfl | (simp [errW_none, errW_some] <;> rfl)) | (simp [*, errW_none, errW_some] <;> rfl), by repeat (first | (with_reducible first | exact HB.out | apply below_alloc | apply pw_below_drewN | apply below_drew1) | exact HB.out)⟩
                                        · replace c39 := Bool.eq_false_iff.mpr c39
                                          subst c39
                                          have H1 : (none) = some r := by rw [if_neg (show ¬ (false = true) by decide)] at H; exact H
                                          clear H
                                          have H := H1
                                          clear H1
                                          exact absurd H (by simp)
                                    · rw [if_neg c27] at H
                                      exact absurd H (by simp)
                                  · rw [if_neg c26] at H
                                    have c26b0 : ((t192.length : Int) == 1) = false := beq_eq_false_iff_ne.mpr c26
                                    have c26b1 : ((t192.length : Int) != 1) = true := bne_iff_ne.mpr c26
                                    replace H := Option.bind_eq_some_iff.mp H
                                    obtain ⟨t200, A510, H⟩ := H
                                    replace H : (if t200 = true then ((norm_Same.f k2 a0 (x7_2 ++ (a0.extract (a1 : Int).toNat a0.size))).bind fun t201 => (some (false == (!t201)))) else (none)) = some r := H
                                    have A51 := Aside0.mk A510
                                    clear A510
                                    by_cases c52 : t200 = true
                                    · subst c52
                                      have H1 : ((norm_Same.f k2 a0 (x7_2 ++ (a0.extract (a1 : Int).toNat a0.size))).bind fun t201 => (some (false == (!t201)))) = some r := by rw [if_pos rfl] at H; exact H
                                      clear H
                                      have H := H1
                                      clear H1
                                      replace H := Option.bind_eq_some_iff.mp H
                                      obtain ⟨t201, A530, H⟩ := H
                                      replace H : (some (false == (!t201))) = some r := H
                                      have A53 := Aside0.mk A530
                                      clear A530
                                      obtain rfl := Option.some.inj H
                                      go_wp2_with (first | (go_at_call 10; (with_reducible refine (warrantorref18_Parts.calls k2 (a0.extract ((ji21) : Int).toNat ((wrap64 (a1 + 1)) : Int).toNat) t192 _ A25.out).mono ?_); rintro e w54 ⟨v193, rfl, ho0, hb⟩; have n0_ := Aside0.mk (Kd.R_lower ho0 (below_size (by repeat (first | (with_reducible first | exact HB.out | apply below_alloc | apply pw_below_drewN | apply below_drew1) | exact HB.out)))); have n1_ := Aside0.mk (below_step (by repeat (first | (with_reducible first | exact HB.out | apply below_alloc | apply pw_below_drewN | apply below_drew1) | exact HB.out)) hb); clear HB; have HO194 := n0_; have HB := n1_; clear n0_ n1_; (try clear hb); (try clear hb2); (try clear hk); (try clear hi); (try clear ho0); obtain ⟨Ao55, co55, eo55⟩ := Kd.R_slice HO194.out; subst eo55) | ((with_reducible refine gate_callee (f := 7) rfl ?_); refine goesL_ (some 79) rfl rfl Try.func7 (by kernel_rfl) rfl #[] rfl (by (try simp only [List.map_toArray, List.map_cons, List.map_nil]); first | done | rfl | (simp only [List.length_drop, List.length_take]; rfl)) ?_; (with_reducible refine (warrantorlaw18_lives.calls k2  true _ A51.out).mono ?_); rintro e w56 ⟨rfl, hb⟩; refine ⟨_, rfl, ?_⟩; have n0_ := Aside0.mk (Kd.R_below (by (with_reducible repeat (first | apply Kd.R_alloc | apply Kd.R_drewN | apply Kd.R_drew)); exact HO194.out) hb); have n1_ := Aside0.mk (below_step (by repeat (first | (with_reducible first | exact HB.out | apply below_alloc | apply pw_below_drewN | apply below_drew1) | exact HB.out)) hb); clear HO194; clear HB; have HO194 := n0_; have HB := n1_; clear n0_ n1_; (try clear hb); (try clear hb2); (try clear hk); (try clear hi)) | (go_at_call 13; (with_reducible refine (norm_Same.calls k2 a0 (x7_2 ++ (a0.extract (a1 : Int).toNat a0.size)) t201 _ A53.out).mono ?_); rintro e w57 ⟨rfl, hb⟩; have n0_ := Aside0.mk (Kd.R_below (by (with_reducible repeat (first | apply Kd.R_alloc | apply Kd.R_drewN | apply Kd.R_drew)); exact HO194.out) hb); have n1_ := Aside0.mk (below_step (by repeat (first | (with_reducible first | exact HB.out | apply below_alloc | apply pw_below_drewN | apply below_drew1) | exact HB.out)) hb); clear HO194; clear HB; have HO194 := n0_; have HB := n1_; clear n0_ n1_; (try clear hb); (try clear hb2); (try clear hk); (try clear hi)))
                                      go_ret
                                      exact ⟨by first | rfl | (simp [errW_none, errW_some] <;> rfl) | (simp only [← hji21]; first | rfl | (simp [errW_none, errW_some] <;> rfl)) | (simp [*, errW_none, errW_some] <;> rfl), by repeat (first | (with_reducible first | exact HB.out | apply below_alloc | apply pw_below_drewN | apply below_drew1) | exact HB.out)⟩
                                    · replace c52 := Bool.eq_false_iff.mpr c52
                                      subst c52
                                      have H1 : (none) = some r := by rw [if_neg (show ¬ (false = true) by decide)] at H; exact H
                                      clear H
                                      have H := H1
                                      clear H1
                                      exact absurd H (by simp)
                                · rw [if_neg c24] at H
                                  exact absurd H (by simp)
                              · rw [if_neg c23] at H
                                exact absurd H (by simp)
                            · rw [if_neg c22] at H
                              exact absurd H (by simp)
                          · rw [if_neg c20] at H
                            have c20b0 : decide (a1 < (a0.size : Int)) = false := decide_eq_false c20
                            clear c20
                            replace H := Option.bind_eq_some_iff.mp H
                            obtain ⟨t202, A580, H⟩ := H
                            replace H : (if t202 = true then ((norm_Same.f k2 a0 (x7_2 ++ (a0.extract (a1 : Int).toNat a0.size))).bind fun t203 => (some (false == (!t203)))) else (none)) = some r := H
                            have A58 := Aside0.mk A580
                            clear A580
                            by_cases c59 : t202 = true
                            · subst c59
                              have H1 : ((norm_Same.f k2 a0 (x7_2 ++ (a0.extract (a1 : Int).toNat a0.size))).bind fun t203 => (some (false == (!t203)))) = some r := by rw [if_pos rfl] at H; exact H
                              clear H
                              have H := H1
                              clear H1
                              replace H := Option.bind_eq_some_iff.mp H
                              obtain ⟨t203, A600, H⟩ := H
                              replace H : (some (false == (!t203))) = some r := H
                              have A60 := Aside0.mk A600
                              clear A600
                              obtain rfl := Option.some.inj H
                              go_wp2_with (first | ((with_reducible refine gate_callee (f := 7) rfl ?_); refine goesL_ (some 79) rfl rfl Try.func7 (by kernel_rfl) rfl #[] rfl (by (try simp only [List.map_toArray, List.map_cons, List.map_nil]); first | done | rfl | (simp only [List.length_drop, List.length_take]; rfl)) ?_; (with_reducible refine (warrantorlaw18_lives.calls k2  true _ A58.out).mono ?_); rintro e w61 ⟨rfl, hb⟩; refine ⟨_, rfl, ?_⟩; have n0_ := Aside0.mk (below_step (by repeat (first | (with_reducible first | exact HB.out | apply below_alloc | apply pw_below_drewN | apply below_drew1) | exact HB.out)) hb); clear HB; have HB := n0_; clear n0_; (try clear hb); (try clear hb2); (try clear hk); (try clear hi)) | (go_at_call 13; (with_reducible refine (norm_Same.calls k2 a0 (x7_2 ++ (a0.extract (a1 : Int).toNat a0.size)) t203 _ A60.out).mono ?_); rintro e w62 ⟨rfl, hb⟩; have n0_ := Aside0.mk (below_step (by repeat (first | (with_reducible first | exact HB.out | apply below_alloc | apply pw_below_drewN | apply below_drew1) | exact HB.out)) hb); clear HB; have HB := n0_; clear n0_; (try clear hb); (try clear hb2); (try clear hk); (try clear hi)))
                              go_ret
                              exact ⟨by first | rfl | (simp [errW_none, errW_some] <;> rfl) | (simp [*, errW_none, errW_some] <;> rfl), by repeat (first | (with_reducible first | exact HB.out | apply below_alloc | apply pw_below_drewN | apply below_drew1) | exact HB.out)⟩
                            · replace c59 := Bool.eq_false_iff.mpr c59
                              subst c59
                              have H1 : (none) = some r := by rw [if_neg (show ¬ (false = true) by decide)] at H; exact H
                              clear H
                              have H := H1
                              clear H1
                              exact absurd H (by simp)
                        · rw [if_neg c19] at H
                          have c19b0 : decide (0 < a1) = false := decide_eq_false c19
                          clear c19
                          replace H := Option.bind_eq_some_iff.mp H
                          obtain ⟨t204, A630, H⟩ := H
                          replace H : (if t204 = true then ((norm_Same.f k2 a0 (x7_2 ++ (a0.extract (a1 : Int).toNat a0.size))).bind fun t205 => (some (false == (!t205)))) else (none)) = some r := H
                          have A63 := Aside0.mk A630
                          clear A630
                          by_cases c64 : t204 = true
                          · subst c64
                            have H1 : ((norm_Same.f k2 a0 (x7_2 ++ (a0.extract (a1 : Int).toNat a0.size))).bind fun t205 => (some (false == (!t205)))) = some r := by rw [if_pos rfl] at H; exact H
                            clear H
                            have H := H1
                            clear H1
                            replace H := Option.bind_eq_some_iff.mp H
                            obtain ⟨t205, A650, H⟩ := H
                            replace H : (some (false == (!t205))) = some r := H
                            have A65 := Aside0.mk A650
                            clear A650
                            obtain rfl := Option.some.inj H
                            go_wp2_with (first | ((with_reducible refine gate_callee (f := 7) rfl ?_); refine goesL_ (some 79) rfl rfl Try.func7 (by kernel_rfl) rfl #[] rfl (by (try simp only [List.map_toArray, List.map_cons, List.map_nil]); first | done | rfl | (simp only [List.length_drop, List.length_take]; rfl)) ?_; (with_reducible refine (warrantorlaw18_lives.calls k2  true _ A63.out).mono ?_); rintro e w66 ⟨rfl, hb⟩; refine ⟨_, rfl, ?_⟩; have n0_ := Aside0.mk (below_step (by repeat (first | (with_reducible first | exact HB.out | apply below_alloc | apply pw_below_drewN | apply below_drew1) | exact HB.out)) hb); clear HB; have HB := n0_; clear n0_; (try clear hb); (try clear hb2); (try clear hk); (try clear hi)) | (go_at_call 13; (with_reducible refine (norm_Same.calls k2 a0 (x7_2 ++ (a0.extract (a1 : Int).toNat a0.size)) t205 _ A65.out).mono ?_); rintro e w67 ⟨rfl, hb⟩; have n0_ := Aside0.mk (below_step (by repeat (first | (with_reducible first | exact HB.out | apply below_alloc | apply pw_below_drewN | apply below_drew1) | exact HB.out)) hb); clear HB; have HB := n0_; clear n0_; (try clear hb); (try clear hb2); (try clear hk); (try clear hi)))
                            go_ret
                            exact ⟨by first | rfl | (simp [errW_none, errW_some] <;> rfl) | (simp [*, errW_none, errW_some] <;> rfl), by repeat (first | (with_reducible first | exact HB.out | apply below_alloc | apply pw_below_drewN | apply below_drew1) | exact HB.out)⟩
                          · replace c64 := Bool.eq_false_iff.mpr c64
                            subst c64
                            have H1 : (none) = some r := by rw [if_neg (show ¬ (false = true) by decide)] at H; exact H
                            clear H
                            have H := H1
                            clear H1
                            exact absurd H (by simp)
                      · rw [if_neg c18] at H
                        exact absurd H (by simp)
                    · rw [if_neg c17] at H
                      exact absurd H (by simp)
                  · rw [if_neg c16] at H
                    exact absurd H (by simp)
          · rw [if_neg c13] at H
            exact absurd H (by simp)
        · rw [if_neg c12] at H
          exact absurd H (by simp)

/-- THE ONE PURE STATEMENT of warrantorlaw18_NormBlanks: yours. -/
def warrantorlaw18_NormBlanks.Pure : Prop := ∀ (a0 : ByteArray) (a1 : Int) (a2 : Int), a0.size ≤ 140737488351232 → (Lit.int .i64 a1).wf = true → (Lit.int .i64 a2).wf = true → ∃ k, warrantorlaw18_NormBlanks.f k a0 a1 a2 = some true
theorem warrantorlaw18_NormBlanks.walk (P : warrantorlaw18_NormBlanks.Pure) (a0 : ByteArray) (a1 : Int) (a2 : Int) (w : World) (w0 : a0.size ≤ 140737488351232) (w1 : (Lit.int .i64 a1).wf = true) (w2 : (Lit.int .i64 a2).wf = true) :
    Calls Try.prog 5 #[.string a0, .int .i64 a1, .int .i64 a2] w fun e w' => e = .returned (.bool true) ∧ Below w.heap.size w w' := by
  obtain ⟨k, h⟩ := P a0 a1 a2 w0 w1 w2
  refine (warrantorlaw18_NormBlanks.calls k a0 a1 a2 true w h).mono ?_
  rintro e w' ⟨rfl, hd⟩
  exact ⟨rfl, hd⟩

/-! ### warrantorref01_Put: function 33 -/
def warrantorref01_Put.l0 : Nat → Int → List Int → Option (List Int)
  | 0, _, _ => none
  | k + 1, x0, x3 => if x0 ≥ 128 then (if x3.length < 140737488355328 then (warrantorref01_Put.l0 k (IntKind.u64.wrap (Int.tdiv x0 128)) (x3 ++ [(IntKind.u64.wrap ((Int.tmod x0 128) + 128)) % 256])) else (none)) else (if x3.length < 140737488355328 then (some (x3 ++ [(x0) % 256])) else (none))
def warrantorref01_Put.f (k : Nat) (a0 : Int) : Option (List Int) := warrantorref01_Put.l0 k a0 ([] : List Int)
theorem warrantorref01_Put.mono_l : ∀ k, (∀ y0 y1, LeO (warrantorref01_Put.l0 k y0 y1) (warrantorref01_Put.l0 (k + 1) y0 y1))
  | 0 => fun _ _ r h => by simp [warrantorref01_Put.l0] at h
  | k + 1 => by
    have ih0 := warrantorref01_Put.mono_l k
    · intro y0 y1
      unfold warrantorref01_Put.l0
      repeat' first
      | (with_reducible exact ih0 _ _)
      | (with_reducible exact LeO.refl _)
      | (with_reducible exact LeO.none _)
      | (with_reducible refine LeO.ite ?_ ?_)
      | (with_reducible refine LeO.bind ?_ (fun _ => ?_))
      | exact ih0 _ _
      | exact LeO.none _
      | refine LeO.ite ?_ ?_
      | refine LeO.bind ?_ (fun _ => ?_)
theorem warrantorref01_Put.mono : ∀ a0 k, LeO (warrantorref01_Put.f k a0) (warrantorref01_Put.f (k + 1) a0) := by
  intro a0 k
  have ih0 := warrantorref01_Put.mono_l k
  unfold warrantorref01_Put.f
  repeat' first
      | (with_reducible exact ih0 _ _)
      | (with_reducible exact LeO.refl _)
      | (with_reducible exact LeO.none _)
      | (with_reducible refine LeO.ite ?_ ?_)
      | (with_reducible refine LeO.bind ?_ (fun _ => ?_))
      | exact ih0 _ _
      | exact LeO.none _
      | refine LeO.ite ?_ ?_
      | refine LeO.bind ?_ (fun _ => ?_)
set_option maxHeartbeats 8000000 in
set_option maxRecDepth 100000 in
theorem warrantorref01_Put.calls (k : Nat) (a0 : Int) (r : List Int) (w : World) (h : warrantorref01_Put.f k a0 = some r) :
    Calls Try.prog 33 #[.int .u64 a0] w fun e w' => ∃ v0_ : Value, e = .returned (v0_) ∧ Kd.R (Kd.int .u8) 5 w' w.heap.size (fun _ => True) v0_ r ∧ Below w.heap.size w w' := by
  have HB := Aside0.mk (Below.refl w.heap.size w)
  have H : (warrantorref01_Put.l0 k a0 ([] : List Int)) = some r := h
  clear h
  have H' := Aside0.mk H
  clear H
  go_enter Try.func33, Try.ntmps33
  go_wp2
  go_loopg [0, 3] k (fun kq v0 v3 w' => ∃ (x0_1 : Int) (x3_1 : List Int), v0 = .int .u64 x0_1 ∧ Aside0 (warrantorref01_Put.l0 kq x0_1 x3_1 = some r) ∧ Aside0 (kq ≤ k) ∧ Aside0 (Kd.R (Kd.int .u8) 5 w' w.heap.size (fun _ => True) v3 x3_1) ∧ Aside0 (Below w.heap.size w w'))
  case atStart => exact ⟨(a0), (([] : List Int)), (by first | rfl | (simp; done) | (simp [*]; done)), H', ⟨Nat.le_refl _⟩, ⟨by first | exact Kd.R_nil _ _ _ _ _ | exact Kd.N_nil _ _ _ _ _ | exact Kd.V_nil _ _ _ _ _ | exact Kd.Q_nil _ _ _ _ _ | exact Kd.S_nil _ _ _ _ _⟩, ⟨by repeat (first | (with_reducible first | exact HB.out | apply below_alloc | apply pw_below_drewN | apply below_drew1) | exact HB.out)⟩⟩
  case round =>
    clear H'
    obtain ⟨x0_1, x3_1, rfl, HA, HK1, HO_3, HB⟩ := hrel
    cases gk with
    | zero => exact absurd HA.out (by simp [warrantorref01_Put.l0])
    | succ k1 =>
      have H := HA.out
      clear HA
      simp only [warrantorref01_Put.l0] at H
      by_cases c2 : x0_1 ≥ 128
      · rw [if_pos c2] at H
        have c2b0 : decide (128 ≤ x0_1) = true := decide_eq_true c2
        clear c2
        by_cases c3 : x3_1.length < 140737488355328
        · rw [if_pos c3] at H
          have LMc3 := Aside0.mk c3
          clear c3
          obtain ⟨y206, hy206⟩ : ∃ y_ : List Int, y_ = (x3_1 ++ [(IntKind.u64.wrap ((Int.tmod x0_1 128) + 128)) % 256]) := ⟨_, rfl⟩
          replace H : (warrantorref01_Put.l0 k1 (IntKind.u64.wrap (Int.tdiv x0_1 128)) y206) = some r := by first | (rw [hy206]; with_reducible exact H) | (have H2_ := (Option.bind_some _ _).symm.trans H; rw [hy206]; with_reducible exact H2_) | (have H2_ := (Option.bind_some _ _).symm.trans H; with_reducible exact H2_) | with_reducible exact H | (rw [hy206]; exact H) | exact H
          have Ny206 := Aside0.mk hy206
          clear hy206
          have H' := Aside0.mk H
          clear H
          go_wp2_with (first | ((with_reducible refine gate_builtin (b := .append) (xs := #[.tmp 6, .tmp 11]) rfl ?_); at_builtin; refine Kd.R_append (Kd.int .u8) (w0 := w) w.heap.size rfl (.tmp 6) (.tmp 11) 30 5 (.int .u8 0) 1 rfl Try.underlying30 info5 rfl (by decide) (by omega) u3 x3_1 ((IntKind.u64.wrap ((Int.tmod x0_1 128) + 128)) % 256) [.int .u8 ((IntKind.u64.wrap ((Int.tmod x0_1 128) + 128)) % 256)] (fun _ => True) (fun _ => False) rfl rfl ?aP (fun _ hk => hk.elim) ?aF ?aO ?aB ?aS ?aL ?_; (case aP => exact rfl); (case aB => exact (by repeat (first | (with_reducible first | exact HB.out | apply below_alloc | apply pw_below_drewN | apply below_drew1) | exact HB.out))); (case aF => exact (fun _ _ => trivial)); (case aO => exact (by (with_reducible repeat (first | apply Kd.R_alloc | apply Kd.R_drewN | apply Kd.R_drew)); exact HO_3.out)); (case aS => exact (below_size (by repeat (first | (with_reducible first | exact HB.out | apply below_alloc | apply pw_below_drewN | apply below_drew1) | exact HB.out)))); (case aL => have := LMc3.out; omega); intro v207 w4 ho hb hg hat; rw [← Ny206.out] at ho; have n0_ := Aside0.mk (hb); have n1_ := Aside0.mk (ho); clear HB; clear HO_3; have HB := n0_; have HO208 := n1_; clear n0_ n1_; clear ho hb hg hat))
          go_roundg k1
          case measure => have := HK1.out; omega
          case rel => exact ⟨(IntKind.u64.wrap (Int.tdiv x0_1 128)), (y206), (by first | rfl | (simp; done) | (simp [*]; done)), H', ⟨by have := HK1.out; omega⟩, ⟨by (with_reducible repeat (first | apply Kd.R_alloc | apply Kd.R_drewN | apply Kd.R_drew)); exact HO208.out⟩, ⟨by repeat (first | (with_reducible first | exact HB.out | apply below_alloc | apply pw_below_drewN | apply below_drew1) | exact HB.out)⟩⟩
        · rw [if_neg c3] at H
          exact absurd H (by simp)
      · rw [if_neg c2] at H
        have c2b0 : decide (128 ≤ x0_1) = false := decide_eq_false c2
        clear c2
        by_cases c5 : x3_1.length < 140737488355328
        · rw [if_pos c5] at H
          have LMc5 := Aside0.mk c5
          clear c5
          obtain ⟨y209, hy209⟩ : ∃ y_ : List Int, y_ = (x3_1 ++ [(x0_1) % 256]) := ⟨_, rfl⟩
          replace H : (some y209) = some r := by first | (rw [hy209]; with_reducible exact H) | (have H2_ := (Option.bind_some _ _).symm.trans H; rw [hy209]; with_reducible exact H2_) | (have H2_ := (Option.bind_some _ _).symm.trans H; with_reducible exact H2_) | with_reducible exact H | (rw [hy209]; exact H) | exact H
          have Ny209 := Aside0.mk hy209
          clear hy209
          obtain rfl := Option.some.inj H
          go_wp2_with (first | ((with_reducible refine gate_builtin (b := .append) (xs := #[.tmp 15, .tmp 18]) rfl ?_); at_builtin; refine Kd.R_append (Kd.int .u8) (w0 := w) w.heap.size rfl (.tmp 15) (.tmp 18) 30 5 (.int .u8 0) 1 rfl Try.underlying30 info5 rfl (by decide) (by omega) u3 x3_1 ((x0_1) % 256) [.int .u8 ((x0_1) % 256)] (fun _ => True) (fun _ => False) rfl rfl ?aP (fun _ hk => hk.elim) ?aF ?aO ?aB ?aS ?aL ?_; (case aP => exact rfl); (case aB => exact (by repeat (first | (with_reducible first | exact HB.out | apply below_alloc | apply pw_below_drewN | apply below_drew1) | exact HB.out))); (case aF => exact (fun _ _ => trivial)); (case aO => exact (by (with_reducible repeat (first | apply Kd.R_alloc | apply Kd.R_drewN | apply Kd.R_drew)); exact HO_3.out)); (case aS => exact (below_size (by repeat (first | (with_reducible first | exact HB.out | apply below_alloc | apply pw_below_drewN | apply below_drew1) | exact HB.out)))); (case aL => have := LMc5.out; omega); intro v210 w6 ho hb hg hat; rw [← Ny209.out] at ho; have n0_ := Aside0.mk (hb); have n1_ := Aside0.mk (ho); clear HB; clear HO_3; have HB := n0_; have HO211 := n1_; clear n0_ n1_; clear ho hb hg hat))
          go_ret
          exact ⟨_, by first | rfl | (simp [errW_none, errW_some] <;> rfl) | (simp [*, errW_none, errW_some] <;> rfl), by (with_reducible repeat (first | apply Kd.R_alloc | apply Kd.R_drewN | apply Kd.R_drew)); exact HO211.out, by repeat (first | (with_reducible first | exact HB.out | apply below_alloc | apply pw_below_drewN | apply below_drew1) | exact HB.out)⟩
        · rw [if_neg c5] at H
          exact absurd H (by simp)

/-! ### warrantorref02_Num: function 26 -/
def warrantorref02_Num.f (k : Nat) (a0 : Int) : Option (List Int) := (warrantorref01_Put.f k (IntKind.u64.wrap (a0))).bind fun t212 => (some t212)
theorem warrantorref02_Num.mono : ∀ a0 k, LeO (warrantorref02_Num.f k a0) (warrantorref02_Num.f (k + 1) a0) := by
  intro a0 k
  unfold warrantorref02_Num.f
  repeat' first
      | (with_reducible exact warrantorref01_Put.mono _ _)
      | (with_reducible exact LeO.refl _)
      | (with_reducible exact LeO.none _)
      | (with_reducible refine LeO.ite ?_ ?_)
      | (with_reducible refine LeO.bind ?_ (fun _ => ?_))
      | exact warrantorref01_Put.mono _ _
      | exact LeO.none _
      | refine LeO.ite ?_ ?_
      | refine LeO.bind ?_ (fun _ => ?_)
set_option maxHeartbeats 8000000 in
set_option maxRecDepth 100000 in
theorem warrantorref02_Num.calls (k : Nat) (a0 : Int) (r : List Int) (w : World) (h : warrantorref02_Num.f k a0 = some r) :
    Calls Try.prog 26 #[.int .i64 a0] w fun e w' => ∃ v0_ : Value, e = .returned (v0_) ∧ Kd.R (Kd.int .u8) 5 w' w.heap.size (fun _ => True) v0_ r ∧ Below w.heap.size w w' := by
  have HB := Aside0.mk (Below.refl w.heap.size w)
  have H : ((warrantorref01_Put.f k (IntKind.u64.wrap (a0))).bind fun t212 => (some t212)) = some r := h
  clear h
  replace H := Option.bind_eq_some_iff.mp H
  obtain ⟨t212, A20, H⟩ := H
  replace H : (some t212) = some r := H
  have A2 := Aside0.mk A20
  clear A20
  obtain rfl := Option.some.inj H
  go_enter Try.func26, Try.ntmps26
  go_wp2_with (first | ((with_reducible refine gate_callee (f := 33) rfl ?_); refine goesL_ (some 5) rfl rfl Try.func33 (by kernel_rfl) rfl #[.int .u64 (IntKind.u64.wrap (a0))] rfl (by (try simp only [List.map_toArray, List.map_cons, List.map_nil]); first | done | rfl | (simp only [List.length_drop, List.length_take]; rfl)) ?_; (with_reducible refine (warrantorref01_Put.calls k (IntKind.u64.wrap (a0)) t212 _ A2.out).mono ?_); rintro e w3 ⟨v213, rfl, ho0, hb⟩; refine ⟨_, rfl, ?_⟩; have n0_ := Aside0.mk (Kd.R_lower ho0 (below_size (by repeat (first | (with_reducible first | exact HB.out | apply below_alloc | apply pw_below_drewN | apply below_drew1) | exact HB.out)))); have n1_ := Aside0.mk (below_step (by repeat (first | (with_reducible first | exact HB.out | apply below_alloc | apply pw_below_drewN | apply below_drew1) | exact HB.out)) hb); clear HB; have HO214 := n0_; have HB := n1_; clear n0_ n1_; (try clear hb); (try clear hb2); (try clear hk); (try clear hi); (try clear ho0)))
  go_ret
  exact ⟨_, by first | rfl | (simp [errW_none, errW_some] <;> rfl) | (simp [*, errW_none, errW_some] <;> rfl), by (with_reducible repeat (first | apply Kd.R_alloc | apply Kd.R_drewN | apply Kd.R_drew)); exact HO214.out, by repeat (first | (with_reducible first | exact HB.out | apply below_alloc | apply pw_below_drewN | apply below_drew1) | exact HB.out)⟩


/-! ### warrantorref02_Text: function 27 -/
open Go.Proofs.Ytgecigndgkcpkaa.LebM Go.Proofs.Ytgecigndgkcpkaa.Pen in
theorem rput_loop : ∀ (d k : Nat) (n : Int) (acc : List Int), 0 ≤ n → n < 128 ^ (d + 1) → n < 18446744073709551616 → d < k → acc.length + d < 1000 → warrantorref01_Put.l0 k n acc = some (acc ++ putN d n)
  | 0, k, n, acc, h0, h1, h2, hk, ha => by
    obtain ⟨k, rfl⟩ : ∃ m, k = m + 1 := ⟨k - 1, by omega⟩
    have h1' : n < 128 := by simpa using h1
    simp only [warrantorref01_Put.l0, putN]
    rw [if_neg (by omega), if_pos (by omega), show n % 256 = n by omega]
  | d + 1, k, n, acc, h0, h1, h2, hk, ha => by
    obtain ⟨k, rfl⟩ : ∃ m, k = m + 1 := ⟨k - 1, by omega⟩
    simp only [warrantorref01_Put.l0]
    conv => rhs; unfold putN
    by_cases hn : n ≥ 128
    · have e1 : (IntKind.u64.wrap (Int.tdiv n 128)) = n / 128 := by rw [Int.tdiv_eq_ediv_of_nonneg h0, IntKind.wrap_u64]; omega
      have e2 : (IntKind.u64.wrap (Int.tmod n 128 + 128)) % 256 = n % 128 + 128 := by rw [Int.tmod_eq_emod_of_nonneg h0, IntKind.wrap_u64]; omega
      rw [if_pos hn, if_pos hn, if_pos (by omega), e1, e2, rput_loop d k (n / 128) _ (by omega) (by rw [Int.pow_succ] at h1; omega) (by omega) (by omega) (by simp; omega)]
      simp
    · rw [if_neg hn, if_neg hn, if_pos (by omega), show n % 256 = n by omega]

open Go.Proofs.Ytgecigndgkcpkaa.LebM Go.Proofs.Ytgecigndgkcpkaa.Pen in
theorem rput_ev {n : Int} (h0 : 0 ≤ n) (h1 : n < 18446744073709551616) : Ev (fun k => warrantorref01_Put.f k n) (putN 9 n) :=
  ⟨11, fun k hk => by show warrantorref01_Put.f k n = _; unfold warrantorref01_Put.f; rw [rput_loop 9 k n _ h0 (by omega) h1 (by omega) (by simp)]; simp⟩

def warrantorref02_Text.f (a0 : ByteArray) : Option (List Int) := if a0.size ≤ 1099511627776 then some (Go.Proofs.Ytgecigndgkcpkaa.Pen.textL (Go.Proofs.Ytgecigndgkcpkaa.LebM.putN 9) a0) else none
theorem warrantorref02_Text.calls (a0 : ByteArray) (r : List Int) (w : World) (h : warrantorref02_Text.f a0 = some r) :
    Calls Try.prog 27 #[.string a0] w fun e w' => ∃ v0_ : Value, e = .returned (v0_) ∧ (Kd.int .u8).R 5 w' w.heap.size (fun _ => True) v0_ r ∧ Below w.heap.size w w' := by
  unfold warrantorref02_Text.f at h
  split at h
  · rename_i hb
    obtain rfl := Option.some.inj h
    exact Go.Proofs.Ytgecigndgkcpkaa.Pen.rtext_calls (fun n w h0 h1 => by obtain ⟨k, hk⟩ := (rput_ev h0 h1).rounds; exact warrantorref01_Put.calls k n _ w hk) (fun n => by have := putN_le 9 n; omega) a0 hb w
  · cases h

/-! ### warrantorref18_Key: function 15 -/
def warrantorref18_Key.j0 : Nat → Int → ByteArray → ByteArray → Option (List Int)
  | 0, _, _, _ => none
  | k + 1, x0, x1, x2 => (warrantorref02_Num.f k x0).bind fun t215 => ((warrantorref02_Text.f x1).bind fun t218 => (if t215.length + t218.length < 140737488355328 then ((some (t215 ++ t218 : List Int)).bind fun y221 => ((warrantorref18_Norm.f k x2).bind fun t224 => ((warrantorref02_Text.f t224).bind fun t225 => (if y221.length + t225.length < 140737488355328 then (some (y221 ++ t225)) else (none))))) else (none)))
def warrantorref18_Key.f (k : Nat) (a0 : Int) (a1 : ByteArray) (a2 : ByteArray) : Option (List Int) := if a0 < 0 then (warrantorref18_Key.j0 k 0 a1 a2) else (warrantorref18_Key.j0 k a0 a1 a2)
theorem warrantorref18_Key.mono_l : ∀ k, (∀ y0 y1 y2, LeO (warrantorref18_Key.j0 k y0 y1 y2) (warrantorref18_Key.j0 (k + 1) y0 y1 y2))
  | 0 => fun _ _ _ r h => by simp [warrantorref18_Key.j0] at h
  | k + 1 => by
    have ih0 := warrantorref18_Key.mono_l k
    · intro y0 y1 y2
      unfold warrantorref18_Key.j0
      repeat' first
      | (with_reducible exact ih0 _ _ _)
      | (with_reducible exact warrantorref02_Num.mono _ _)
      | (with_reducible exact warrantorref18_Norm.mono _ _)
      | (with_reducible exact LeO.refl _)
      | (with_reducible exact LeO.none _)
      | (with_reducible refine LeO.ite ?_ ?_)
      | (with_reducible refine LeO.bind ?_ (fun _ => ?_))
      | exact ih0 _ _ _
      | exact warrantorref02_Num.mono _ _
      | exact warrantorref18_Norm.mono _ _
      | exact LeO.none _
      | refine LeO.ite ?_ ?_
      | refine LeO.bind ?_ (fun _ => ?_)
theorem warrantorref18_Key.mono : ∀ a0 a1 a2 k, LeO (warrantorref18_Key.f k a0 a1 a2) (warrantorref18_Key.f (k + 1) a0 a1 a2) := by
  intro a0 a1 a2 k
  have ih0 := warrantorref18_Key.mono_l k
  unfold warrantorref18_Key.f
  repeat' first
      | (with_reducible exact ih0 _ _ _)
      | (with_reducible exact warrantorref02_Num.mono _ _)
      | (with_reducible exact warrantorref18_Norm.mono _ _)
      | (with_reducible exact LeO.refl _)
      | (with_reducible exact LeO.none _)
      | (with_reducible refine LeO.ite ?_ ?_)
      | (with_reducible refine LeO.bind ?_ (fun _ => ?_))
      | exact ih0 _ _ _
      | exact warrantorref02_Num.mono _ _
      | exact warrantorref18_Norm.mono _ _
      | exact LeO.none _
      | refine LeO.ite ?_ ?_
      | refine LeO.bind ?_ (fun _ => ?_)
set_option maxHeartbeats 8000000 in
set_option maxRecDepth 100000 in
theorem warrantorref18_Key.calls (k : Nat) (a0 : Int) (a1 : ByteArray) (a2 : ByteArray) (r : List Int) (w : World) (h : warrantorref18_Key.f k a0 a1 a2 = some r) :
    Calls Try.prog 15 #[.int .i64 a0, .string a1, .string a2] w fun e w' => ∃ v0_ : Value, e = .returned (v0_) ∧ Kd.R (Kd.int .u8) 5 w' w.heap.size (fun _ => True) v0_ r ∧ Below w.heap.size w w' := by
  have HB := Aside0.mk (Below.refl w.heap.size w)
  have H : (if a0 < 0 then (warrantorref18_Key.j0 k 0 a1 a2) else (warrantorref18_Key.j0 k a0 a1 a2)) = some r := h
  clear h
  have HC4 := Aside0.mk H
  clear H
  go_enter Try.func15, Try.ntmps15
  go_upto_if 8 with (fail)
  go_cut [0] (fun v0 wc => ∃ (kq : Nat) (x0_3 : Int), v0 = .int .i64 x0_3 ∧ Aside0 (warrantorref18_Key.j0 kq x0_3 a1 a2 = some r) ∧ Aside0 (kq ≤ k) ∧ Aside0 (Below w.heap.size w wc))
  case first =>
    have H := HC4.out
    clear HC4
    by_cases c5 : a0 < 0
    · rw [if_pos c5] at H
      have c5b0 : decide (a0 < 0) = true := decide_eq_true c5
      clear c5
      (first | rw [c5b0] | (simp only [i64_w, i32_w]; rw [c5b0]) | skip)
      have H' := Aside0.mk H
      clear H
      go_wp2
      go_meet
      case rel => exact ⟨_, (0), (by first | rfl | (simp; done) | (simp [*]; done)), H', ⟨by first | omega | exact Nat.le_refl _⟩, ⟨by repeat (first | (with_reducible first | exact HB.out | apply below_alloc | apply pw_below_drewN | apply below_drew1) | exact HB.out)⟩⟩
    · rw [if_neg c5] at H
      have c5b0 : decide (a0 < 0) = false := decide_eq_false c5
      clear c5
      (first | rw [c5b0] | (simp only [i64_w, i32_w]; rw [c5b0]) | skip)
      have H' := Aside0.mk H
      clear H
      go_wp2
      go_meet
      case rel => exact ⟨_, (a0), (by first | rfl | (simp; done) | (simp [*]; done)), H', ⟨by first | omega | exact Nat.le_refl _⟩, ⟨by repeat (first | (with_reducible first | exact HB.out | apply below_alloc | apply pw_below_drewN | apply below_drew1) | exact HB.out)⟩⟩
  case rest =>
    clear HC4
    try clear c1
    try clear p2
    try clear c5
    try clear c5b0
    obtain ⟨kq, x0_3, rfl, HA, HJ3, HB⟩ := hcut
    cases kq with
    | zero => exact absurd HA.out (by simp [warrantorref18_Key.j0])
    | succ kj3 =>
      have H := HA.out
      clear HA
      simp only [warrantorref18_Key.j0] at H
      replace H := Option.bind_eq_some_iff.mp H
      obtain ⟨t215, A60, H⟩ := H
      replace H : ((warrantorref02_Text.f a1).bind fun t218 => (if t215.length + t218.length < 140737488355328 then ((some (t215 ++ t218 : List Int)).bind fun y221 => ((warrantorref18_Norm.f kj3 a2).bind fun t224 => ((warrantorref02_Text.f t224).bind fun t225 => (if y221.length + t225.length < 140737488355328 then (some (y221 ++ t225)) else (none))))) else (none))) = some r := H
      have A6 := Aside0.mk A60
      clear A60
      replace H := Option.bind_eq_some_iff.mp H
      obtain ⟨t218, A70, H⟩ := H
      replace H : (if t215.length + t218.length < 140737488355328 then ((some (t215 ++ t218 : List Int)).bind fun y221 => ((warrantorref18_Norm.f kj3 a2).bind fun t224 => ((warrantorref02_Text.f t224).bind fun t225 => (if y221.length + t225.length < 140737488355328 then (some (y221 ++ t225)) else (none))))) else (none)) = some r := H
      have A7 := Aside0.mk A70
      clear A70
      by_cases c8 : t215.length + t218.length < 140737488355328
      · rw [if_pos c8] at H
        have LMc8 := Aside0.mk c8
        clear c8
        obtain ⟨y221, hy221⟩ : ∃ y_ : List Int, y_ = (t215 ++ t218) := ⟨_, rfl⟩
        replace H : ((warrantorref18_Norm.f kj3 a2).bind fun t224 => ((warrantorref02_Text.f t224).bind fun t225 => (if y221.length + t225.length < 140737488355328 then (some (y221 ++ t225)) else (none)))) = some r := by first | (rw [hy221]; with_reducible exact H) | (have H2_ := (Option.bind_some _ _).symm.trans H; rw [hy221]; with_reducible exact H2_) | (have H2_ := (Option.bind_some _ _).symm.trans H; with_reducible exact H2_) | with_reducible exact H | (rw [hy221]; exact H) | exact H
        have Ny221 := Aside0.mk hy221
        clear hy221
        replace H := Option.bind_eq_some_iff.mp H
        obtain ⟨t224, A90, H⟩ := H
        replace H : ((warrantorref02_Text.f t224).bind fun t225 => (if y221.length + t225.length < 140737488355328 then (some (y221 ++ t225)) else (none))) = some r := H
        have A9 := Aside0.mk A90
        clear A90
        replace H := Option.bind_eq_some_iff.mp H
        obtain ⟨t225, A100, H⟩ := H
        replace H : (if y221.length + t225.length < 140737488355328 then (some (y221 ++ t225)) else (none)) = some r := H
        have A10 := Aside0.mk A100
        clear A100
        by_cases c11 : y221.length + t225.length < 140737488355328
        · rw [if_pos c11] at H
          have LMc11 := Aside0.mk c11
          clear c11
          obtain ⟨y228, hy228⟩ : ∃ y_ : List Int, y_ = (y221 ++ t225) := ⟨_, rfl⟩
          replace H : (some y228) = some r := by first | (rw [hy228]; with_reducible exact H) | (have H2_ := (Option.bind_some _ _).symm.trans H; rw [hy228]; with_reducible exact H2_) | (have H2_ := (Option.bind_some _ _).symm.trans H; with_reducible exact H2_) | with_reducible exact H | (rw [hy228]; exact H) | exact H
          have Ny228 := Aside0.mk hy228
          clear hy228
          obtain rfl := Option.some.inj H
          go_wp2_with (first | ((with_reducible refine gate_callee (f := 26) rfl ?_); refine goesL_ (some 10) rfl rfl Try.func26 (by kernel_rfl) rfl #[.int .i64 x0_3] rfl (by (try simp only [List.map_toArray, List.map_cons, List.map_nil]); first | done | rfl | (simp only [List.length_drop, List.length_take]; rfl)) ?_; (with_reducible refine (warrantorref02_Num.calls kj3 x0_3 t215 _ A6.out).mono ?_); rintro e w12 ⟨v216, rfl, ho0, hb⟩; refine ⟨_, rfl, ?_⟩; have n0_ := Aside0.mk (Kd.R_lower ho0 (below_size (by repeat (first | (with_reducible first | exact HB.out | apply below_alloc | apply pw_below_drewN | apply below_drew1) | exact HB.out)))); have n1_ := Aside0.mk (below_step (by repeat (first | (with_reducible first | exact HB.out | apply below_alloc | apply pw_below_drewN | apply below_drew1) | exact HB.out)) hb); clear HB; have HO217 := n0_; have HB := n1_; clear n0_ n1_; (try clear hb); (try clear hb2); (try clear hk); (try clear hi); (try clear ho0)) | ((with_reducible refine gate_callee (f := 27) rfl ?_); refine goesL_ (some 12) rfl rfl Try.func27 (by kernel_rfl) rfl #[.string a1] rfl (by (try simp only [List.map_toArray, List.map_cons, List.map_nil]); first | done | rfl | (simp only [List.length_drop, List.length_take]; rfl)) ?_; (with_reducible refine (warrantorref02_Text.calls a1 t218 _ A7.out).mono ?_); rintro e w13 ⟨v219, rfl, ho0, hb⟩; refine ⟨_, rfl, ?_⟩; have n0_ := Aside0.mk (Kd.R_elder' (by (with_reducible repeat (first | apply Kd.R_alloc | apply Kd.R_drewN | apply Kd.R_drew)); exact HO217.out) (Kd.R_base ho0) hb); have n1_ := Aside0.mk (Kd.R_lower (Kd.R_new' ho0 (Kd.R_lt (by (with_reducible repeat (first | apply Kd.R_alloc | apply Kd.R_drewN | apply Kd.R_drew)); exact HO217.out))) (below_size (by repeat (first | (with_reducible first | exact HB.out | apply below_alloc | apply pw_below_drewN | apply below_drew1) | exact HB.out)))); have n2_ := Aside0.mk (below_step (by repeat (first | (with_reducible first | exact HB.out | apply below_alloc | apply pw_below_drewN | apply below_drew1) | exact HB.out)) hb); clear HO217; clear HB; have HO217 := n0_; have HO220 := n1_; have HB := n2_; clear n0_ n1_ n2_; (try clear hb); (try clear hb2); (try clear hk); (try clear hi); (try clear ho0); obtain ⟨Ao15, co15, eo15⟩ := Kd.R_slice HO220.out; subst eo15) | ((with_reducible refine gate_builtin (b := .append) (xs := #[.tmp 10, .tmp 12]) rfl ?_); at_builtin; refine Kd.R_append_rows (Kd.int .u8) (w0 := w) w.heap.size rfl (.tmp 10) (.tmp 12) 30 5 (.int .u8 0) 1 rfl Try.underlying30 info5 rfl (by decide) (by omega) v216 t215 t218 _ _ _ (fun k_ => some k_ ≠ (.slice Ao15 t218.length co15 : Value).ownBlock) (fun _ => False) rfl rfl ?aO ?aR (fun _ _ h => h) (fun _ h => h.elim) ?aF ?aB ?aS ?aL ?_; (case aR => repeat (first | exact (Kd.R_reads' HO220.out).2.2 | (with_reducible refine Kd.C_alloc ?_ _) | (with_reducible refine Kd.C_drewN ?_ _) | (with_reducible refine Kd.C_drew ?_))); (case aB => exact (by repeat (first | (with_reducible first | exact HB.out | apply below_alloc | apply pw_below_drewN | apply below_drew1) | exact HB.out))); (case aF => exact (fun k_ hk => Kd.fresh' (Kd.R_lt (by (with_reducible repeat (first | apply Kd.R_alloc | apply Kd.R_drewN | apply Kd.R_drew)); exact HO220.out)) k_ hk)); (case aO => exact (by (with_reducible repeat (first | apply Kd.R_alloc | apply Kd.R_drewN | apply Kd.R_drew)); exact Kd.R_mono HO217.out (fun _ hk => hk.2))); (case aS => exact (below_size (by repeat (first | (with_reducible first | exact HB.out | apply below_alloc | apply pw_below_drewN | apply below_drew1) | exact HB.out)))); (case aL => have := LMc8.out; omega); intro v222 w14 ho hb hg hat; rw [← Ny221.out] at ho; have n0_ := Aside0.mk (Kd.R_after (ok := (fun _ => True)) (by (with_reducible repeat (first | apply Kd.R_alloc | apply Kd.R_drewN | apply Kd.R_drew)); exact HO220.out) hg hat); have n1_ := Aside0.mk (hb); have n2_ := Aside0.mk (ho); clear HO220; clear HB; clear HO217; have HO220 := n0_; have HB := n1_; have HO223 := n2_; clear n0_ n1_ n2_; clear ho hb hg hat) | ((with_reducible refine gate_callee (f := 12) rfl ?_); refine goesL_ (some 15) rfl rfl Try.func12 (by kernel_rfl) rfl #[.string a2] rfl (by (try simp only [List.map_toArray, List.map_cons, List.map_nil]); first | done | rfl | (simp only [List.length_drop, List.length_take]; rfl)) ?_; (with_reducible refine (warrantorref18_Norm.calls kj3 a2 t224 _ A9.out).mono ?_); rintro e w16 ⟨rfl, hb⟩; refine ⟨_, rfl, ?_⟩; have n0_ := Aside0.mk (Kd.R_below (by (with_reducible repeat (first | apply Kd.R_alloc | apply Kd.R_drewN | apply Kd.R_drew)); exact HO220.out) hb); have n1_ := Aside0.mk (Kd.R_below (by (with_reducible repeat (first | apply Kd.R_alloc | apply Kd.R_drewN | apply Kd.R_drew)); exact HO223.out) hb); have n2_ := Aside0.mk (below_step (by repeat (first | (with_reducible first | exact HB.out | apply below_alloc | apply pw_below_drewN | apply below_drew1) | exact HB.out)) hb); clear HO220; clear HO223; clear HB; have HO220 := n0_; have HO223 := n1_; have HB := n2_; clear n0_ n1_ n2_; (try clear hb); (try clear hb2); (try clear hk); (try clear hi)) | ((with_reducible refine gate_callee (f := 27) rfl ?_); refine goesL_ (some 16) rfl rfl Try.func27 (by kernel_rfl) rfl #[.string t224] rfl (by (try simp only [List.map_toArray, List.map_cons, List.map_nil]); first | done | rfl | (simp only [List.length_drop, List.length_take]; rfl)) ?_; (with_reducible refine (warrantorref02_Text.calls t224 t225 _ A10.out).mono ?_); rintro e w17 ⟨v226, rfl, ho0, hb⟩; refine ⟨_, rfl, ?_⟩; have n0_ := Aside0.mk (Kd.R_elder' (by (with_reducible repeat (first | apply Kd.R_alloc | apply Kd.R_drewN | apply Kd.R_drew)); exact HO220.out) (Kd.R_base ho0) hb); have n1_ := Aside0.mk (Kd.R_elder' (by (with_reducible repeat (first | apply Kd.R_alloc | apply Kd.R_drewN | apply Kd.R_drew)); exact HO223.out) (Kd.R_base ho0) hb); have n2_ := Aside0.mk (Kd.R_lower (Kd.R_new' (Kd.R_new' ho0 (Kd.R_lt (by (with_reducible repeat (first | apply Kd.R_alloc | apply Kd.R_drewN | apply Kd.R_drew)); exact HO220.out))) (Kd.R_lt (by (with_reducible repeat (first | apply Kd.R_alloc | apply Kd.R_drewN | apply Kd.R_drew)); exact HO223.out))) (below_size (by repeat (first | (with_reducible first | exact HB.out | apply below_alloc | apply pw_below_drewN | apply below_drew1) | exact HB.out)))); have n3_ := Aside0.mk (below_step (by repeat (first | (with_reducible first | exact HB.out | apply below_alloc | apply pw_below_drewN | apply below_drew1) | exact HB.out)) hb); clear HO220; clear HO223; clear HB; have HO220 := n0_; have HO223 := n1_; have HO227 := n2_; have HB := n3_; clear n0_ n1_ n2_ n3_; (try clear hb); (try clear hb2); (try clear hk); (try clear hi); (try clear ho0); obtain ⟨Ao19, co19, eo19⟩ := Kd.R_slice HO227.out; subst eo19) | ((with_reducible refine gate_builtin (b := .append) (xs := #[.tmp 13, .tmp 16]) rfl ?_); at_builtin; refine Kd.R_append_rows (Kd.int .u8) (w0 := w) w.heap.size rfl (.tmp 13) (.tmp 16) 30 5 (.int .u8 0) 1 rfl Try.underlying30 info5 rfl (by decide) (by omega) v222 y221 t225 _ _ _ (fun k_ => some k_ ≠ (.slice Ao15 t218.length co15 : Value).ownBlock ∧ some k_ ≠ (.slice Ao19 t225.length co19 : Value).ownBlock) (fun _ => False) rfl rfl ?aO ?aR (fun _ _ h => h) (fun _ h => h.elim) ?aF ?aB ?aS ?aL ?_; (case aR => repeat (first | exact (Kd.R_reads' HO227.out).2.2 | (with_reducible refine Kd.C_alloc ?_ _) | (with_reducible refine Kd.C_drewN ?_ _) | (with_reducible refine Kd.C_drew ?_))); (case aB => exact (by repeat (first | (with_reducible first | exact HB.out | apply below_alloc | apply pw_below_drewN | apply below_drew1) | exact HB.out))); (case aF => exact (fun k_ hk => ⟨Kd.fresh' (Kd.R_lt (by (with_reducible repeat (first | apply Kd.R_alloc | apply Kd.R_drewN | apply Kd.R_drew)); exact HO220.out)) k_ hk, Kd.fresh' (Kd.R_lt (by (with_reducible repeat (first | apply Kd.R_alloc | apply Kd.R_drewN | apply Kd.R_drew)); exact HO227.out)) k_ hk⟩)); (case aO => exact (by (with_reducible repeat (first | apply Kd.R_alloc | apply Kd.R_drewN | apply Kd.R_drew)); exact HO223.out)); (case aS => exact (below_size (by repeat (first | (with_reducible first | exact HB.out | apply below_alloc | apply pw_below_drewN | apply below_drew1) | exact HB.out)))); (case aL => have := LMc11.out; omega); intro v229 w18 ho hb hg hat; rw [← Ny228.out] at ho; have n0_ := Aside0.mk (Kd.R_after (ok := (fun k_ => some k_ ≠ (.slice Ao19 t225.length co19 : Value).ownBlock)) (by (with_reducible repeat (first | apply Kd.R_alloc | apply Kd.R_drewN | apply Kd.R_drew)); exact Kd.R_mono HO220.out (fun _ hk => ⟨hk.2, hk.1.2⟩)) hg hat); have n1_ := Aside0.mk (Kd.R_after (ok := (fun k_ => some k_ ≠ (.slice Ao15 t218.length co15 : Value).ownBlock)) (by (with_reducible repeat (first | apply Kd.R_alloc | apply Kd.R_drewN | apply Kd.R_drew)); exact Kd.R_mono HO227.out (fun _ hk => ⟨hk.1.2, hk.2⟩)) hg hat); have n2_ := Aside0.mk (hb); have n3_ := Aside0.mk (ho); clear HO220; clear HO227; clear HB; clear HO223; have HO220 := n0_; have HO227 := n1_; have HB := n2_; have HO230 := n3_; clear n0_ n1_ n2_ n3_; clear ho hb hg hat))
          go_ret
          exact ⟨_, by first | rfl | (simp [errW_none, errW_some] <;> rfl) | (simp [*, errW_none, errW_some] <;> rfl), by (with_reducible repeat (first | apply Kd.R_alloc | apply Kd.R_drewN | apply Kd.R_drew)); exact Kd.R_mono HO230.out (fun _ hk => trivial), by repeat (first | (with_reducible first | exact HB.out | apply below_alloc | apply pw_below_drewN | apply below_drew1) | exact HB.out)⟩
        · rw [if_neg c11] at H
          exact absurd H (by simp)
      · rw [if_neg c8] at H
        exact absurd H (by simp)

end Go.Proofs.Ytgecigndgkcpkaa.PAll
