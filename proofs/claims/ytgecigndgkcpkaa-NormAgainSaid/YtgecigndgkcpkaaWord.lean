/- The walk of norm.word. -/
import Derived.Test.YtgecigndgkcpkaaBld
import Derived.Test.YtgecigndgkcpkaaMath
import Derived.Deep.LoopGhost
set_option linter.unusedVariables false
set_option linter.unusedSimpArgs false
namespace Go.Proofs.Ytgecigndgkcpkaa.Pen
open Go Go.RowKit Go.Proofs.YtgecigndgkcpkaaW.PrintWords NormM

theorem info9 : (Try.prog.info? 9).map (fun i => (i.zero, i.size, i.bytes)) = some (some (.string ⟨#[]⟩), 1, 16) := by kernel_rfl

set_option maxHeartbeats 1000000 in
theorem word_calls (c : Nat) (w : World) : Calls Try.prog 16 #[.int .u8 (c : Int)] w fun e w' => e = .returned (.bool (wordN c)) ∧ w' = w := by
  have e1 : decide ((97 : Int) ≤ (c : Int)) = decide (97 ≤ c) := by simp only [decide_eq_decide]; omega
  have e2 : decide ((c : Int) ≤ 122) = decide (c ≤ 122) := by simp only [decide_eq_decide]; omega
  have e3 : decide ((65 : Int) ≤ (c : Int)) = decide (65 ≤ c) := by simp only [decide_eq_decide]; omega
  have e4 : decide ((c : Int) ≤ 90) = decide (c ≤ 90) := by simp only [decide_eq_decide]; omega
  have e5 : decide ((48 : Int) ≤ (c : Int)) = decide (48 ≤ c) := by simp only [decide_eq_decide]; omega
  have e6 : decide ((c : Int) ≤ 57) = decide (c ≤ 57) := by simp only [decide_eq_decide]; omega
  have e7 : ((c : Int) == 95) = decide (c = 95) := by rw [Bool.eq_iff_iff]; simp; omega
  have e8 : ((c : Int) == 46) = decide (c = 46) := by rw [Bool.eq_iff_iff]; simp; omega
  have hw : wordN c = (decide (97 ≤ c) && decide (c ≤ 122) || decide (65 ≤ c) && decide (c ≤ 90) || decide (48 ≤ c) && decide (c ≤ 57) || decide (c = 95) || decide (c = 46)) := by simp [wordN]
  rw [hw]
  clear hw
  generalize decide (97 ≤ c) = b1 at *
  generalize decide (c ≤ 122) = b2 at *
  generalize decide (65 ≤ c) = b3 at *
  generalize decide (c ≤ 90) = b4 at *
  generalize decide (48 ≤ c) = b5 at *
  generalize decide (c ≤ 57) = b6 at *
  generalize decide (c = 95) = b7 at *
  generalize decide (c = 46) = b8 at *
  cases b1
  · cases b3
    · cases b5
      · cases b7
        · go_enter Try.func16, Try.ntmps16; go_wp2; go_ret; exact ⟨by simp, rfl⟩
        · go_enter Try.func16, Try.ntmps16; go_wp2; go_ret; exact ⟨by simp, rfl⟩
      · cases b6 <;> cases b7 <;> (go_enter Try.func16, Try.ntmps16; go_wp2; go_ret; exact ⟨by simp, rfl⟩)
    · cases b4 <;> cases b5 <;> cases b6 <;> cases b7 <;> (go_enter Try.func16, Try.ntmps16; go_wp2; go_ret; exact ⟨by simp, rfl⟩)
  · cases b2 <;> cases b3 <;> cases b4 <;> cases b5 <;> cases b6 <;> cases b7 <;> (go_enter Try.func16, Try.ntmps16; go_wp2; go_ret; exact ⟨by simp, rfl⟩)

theorem word_calls' (c : Int) (h : 0 ≤ c) (w : World) : Calls Try.prog 16 #[.int .u8 c] w fun e w' => e = .returned (.bool (wordN c.toNat)) ∧ w = w' := by
  have := word_calls c.toNat w
  rw [Int.toNat_of_nonneg h] at this
  exact this.mono fun _ _ h => ⟨h.1, h.2.symm⟩
end Go.Proofs.Ytgecigndgkcpkaa.Pen
