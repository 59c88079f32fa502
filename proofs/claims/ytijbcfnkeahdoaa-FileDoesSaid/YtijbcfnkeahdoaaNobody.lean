/- The walk of FileNobody: a nil disk. -/
import Derived.Test.YtijbcfnkeahdoaaLives
set_option linter.unusedVariables false
set_option linter.unusedSimpArgs false
namespace Go.Proofs.Ytijbcfnkeahdoaa.Disk
open Go Go.RowKit Go.Proofs.YtijbcfnkeahdoaaW.PrintWords

theorem clear_nil (n : Int) (w : World) :
    Calls Try.prog 18 #[.pointer none, .int .i64 n] w fun e w' => e = .returned (.int .i64 6) ∧ Below w.heap.size w w' := by
  refine clear_said ((cut_nil n 0 w).mono ?_)
  rintro e w' ⟨rfl, h⟩
  exact ⟨⟨_, rfl⟩, rfl, h⟩

set_option maxHeartbeats 1000000 in
theorem nobody_calls (n k : Int) (w : World) : Calls Try.prog 6 #[.int .i64 n, .int .i64 k] w fun e w' => e = .returned (.bool true) ∧ Below w.heap.size w w' := by
  have B0 := Aside0.mk (Below.refl w.heap.size w)
  go_enter Try.func6, Try.ntmps6
  go_wp2_with (first
    | (go_at_call 13; (with_reducible refine (arm_nil k _).mono ?_); rintro e w1 ⟨rfl, rfl⟩)
    | (go_at_call 15; (with_reducible refine (wake_nil _).mono ?_); rintro e w2 ⟨rfl, rfl⟩)
    | (go_at_call 16; (with_reducible refine (read_nil n _).mono ?_); rintro e w3 ⟨rfl, rfl⟩)
    | (go_at_call 8; (with_reducible refine (lives_calls _).mono ?_); rintro e w4 ⟨rfl, h1⟩; have B4 := Aside0.mk (below_then B0.out (Nat.le_refl _) h1); clear h1)
    | (go_at_call 14; (with_reducible refine (write_nil n none 0 0 _).mono ?_); rintro e w5 ⟨rfl, h1⟩; have B5 := Aside0.mk (below_then B4.out B4.out.size h1); clear h1)
    | (go_at_call 18; (with_reducible refine (clear_nil n _).mono ?_); rintro e w6 ⟨rfl, h1⟩; have B6 := Aside0.mk (below_then B5.out B5.out.size h1); clear h1)
    | (go_at_call 19; (with_reducible refine (cut_nil n k _).mono ?_); rintro e w7 ⟨rfl, h1⟩; have B7 := Aside0.mk (below_then B6.out B6.out.size h1); clear h1)
    | (go_at_call 17; (with_reducible refine (spoil_nil n k _ _).mono ?_); rintro e w8 ⟨rfl, rfl⟩)
    | (go_at_call 20; (with_reducible refine (off_nil _).mono ?_); rintro e w9 ⟨rfl, rfl⟩))
  go_ret
  exact ⟨by first | rfl | simp, B7.out⟩
end Go.Proofs.Ytijbcfnkeahdoaa.Disk
