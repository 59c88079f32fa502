/- The walk of CurNobody. -/
import Derived.Test.YtjanjpchdjagjaaPut8
set_option linter.unusedVariables false
set_option linter.unusedSimpArgs false
namespace Go.Proofs.Ytjanjpchdjagjaa.Rd
open Go Go.RowKit Go.Proofs.YtjanjpchdjagjaaW.PrintWords Go.Proofs.YtjanjpchdjagjaaW.PrintLast Go.Proofs.Ytjanjpchdjagjaa.LebM Go.Proofs.Ytjanjpchdjagjaa.Leb
set_option maxHeartbeats 4000000 in
theorem nobody_calls (K n : Int) (hn : -9223372036854775808 ≤ n ∧ n < 9223372036854775808) (s : ByteArray) (hs : s.size ≤ 140737488351232) (w : World) :
    Calls Try.prog 5 #[.agg #[.int .i64 K, .int .i64 n, .string s]] w fun e w' => e = .returned (.bool true) ∧ Below w.heap.size w w' := by
  have B0 := Aside0.mk (below_alloc (Below.refl w.heap.size w) (.cells #[.int .i64 K, .int .i64 n, .string s] 28))
  have O0 := Aside0.mk (show OBox (w.alloc (.cells #[.int .i64 K, .int .i64 n, .string s] 28)) w.heap.size K n s from ⟨blk_new w _⟩)
  have HN := Aside0.mk hn
  have HS := Aside0.mk hs
  have q0 := O0.out.c0
  have q1 := O0.out.c1
  have q2 := O0.out.c2
  have hu28 := Try.underlying28
  clear hn hs
  go_enter Try.func5, Try.ntmps5
  go_wp2_with (first
    | (go_at_call 8; (with_reducible refine (put8_nil K n HN.out s HS.out _).mono ?_); rintro e w1 ⟨⟨u8, rfl⟩, h1⟩; have O1 := Aside0.mk (O0.out.below h1); have r1 := O1.out.c1; have B1 := Aside0.mk (below_then B0.out B0.out.size h1); clear h1)
    | (go_at_call 22; (with_reducible refine (fail_nil n _).mono ?_); rintro e w_ ⟨rfl, rfl⟩)
    | (go_at_call 16; (with_reducible refine (end_nil _).mono ?_); rintro e w_ ⟨rfl, rfl⟩)
    | (go_at_call 6; (with_reducible refine (lives_calls _).mono ?_); rintro e w2 ⟨rfl, h1⟩; have O2 := Aside0.mk (O1.out.below h1); have r2 := O2.out.c1; have B2 := Aside0.mk (below_then B1.out B1.out.size h1); clear h1)
    | (go_at_call 9; (with_reducible refine (pbytes_nil _).mono ?_); rintro e w_ ⟨rfl, rfl⟩)
    | (go_at_call 11; (with_reducible refine (u_nil _).mono ?_); rintro e w3 ⟨rfl, h1⟩; have O3 := Aside0.mk (O2.out.below h1); have r3 := O3.out.c1; have B3 := Aside0.mk (below_then B2.out B2.out.size h1); clear h1)
    | (go_at_call 12; (with_reducible refine (i_nil _).mono ?_); rintro e w4 ⟨rfl, h1⟩; have O4 := Aside0.mk (O3.out.below h1); have r4 := O4.out.c1; have B4 := Aside0.mk (below_then B3.out B3.out.size h1); clear h1)
    | (go_at_call 13; (with_reducible refine (byte_nil _).mono ?_); rintro e w5 ⟨rfl, h1⟩; have O5 := Aside0.mk (O4.out.below h1); have r5 := O5.out.c1; have B5 := Aside0.mk (below_then B4.out B4.out.size h1); clear h1)
    | (go_at_call 14; (with_reducible refine (word_nil _).mono ?_); rintro e w6 ⟨rfl, h1⟩; have O6 := Aside0.mk (O5.out.below h1); have r6 := O6.out.c1; have B6 := Aside0.mk (below_then B5.out B5.out.size h1); clear h1)
    | (go_at_call 23; (with_reducible refine (count_nil n _).mono ?_); rintro e w7 ⟨rfl, h1⟩; have O7 := Aside0.mk (O6.out.below h1); have r7 := O7.out.c1; have B7 := Aside0.mk (below_then B6.out B6.out.size h1); clear h1)
    | (go_at_call 15; (with_reducible refine (text_nil n _).mono ?_); rintro e w8 ⟨rfl, h1⟩; have O8 := Aside0.mk (O7.out.below h1); have r8 := O8.out.c1; have B8 := Aside0.mk (below_then B7.out B7.out.size h1); clear h1)
    | (go_at_call 18; (with_reducible refine (at_nil _).mono ?_); rintro e w_ ⟨rfl, rfl⟩)
    | (go_at_call 19; (with_reducible refine (left_nil _).mono ?_); rintro e w_ ⟨rfl, rfl⟩)
    | (go_at_call 17; (with_reducible refine (err_nil _).mono ?_); rintro e w_ ⟨rfl, rfl⟩))
  go_ret
  exact ⟨by first | rfl | simp, B8.out⟩
end Go.Proofs.Ytjanjpchdjagjaa.Rd
