/- The walk of FileFull. -/
import Derived.Test.YtijbcfnkeahdoaaNobody
set_option linter.unusedVariables false
set_option linter.unusedSimpArgs false
namespace Go.Proofs.Ytijbcfnkeahdoaa.Disk
open Go Go.RowKit Go.Proofs.YtijbcfnkeahdoaaW.PrintWords

theorem fw_ok {W : World} {g base : Nat} {v0 v1 : Value} {l ys : List Int} (h : Dsk W g base v0 v1 ⟨l, [], false, 0, false⟩) {A : Option Addr} {c : Nat} (hC : (Kd.int .u8).C W A ys.length ys) (hc : ys.length ≤ c) (hl : l.length + ys.length ≤ 4194304) :
    Calls Try.prog 14 #[.pointer (some ⟨g, 0, none⟩), .int .i64 0, .slice A ys.length c] W fun e w' => e = .returned (.int .i64 0) ∧ ∃ v0' v1', Dsk w' g base v0' v1' ⟨l ++ ys, [], false, 0, false⟩ ∧ Below base W w' ∧ Only W w' g := by
  refine (write_ok0 h rfl hC hc (by omega)).mono ?_
  rintro e w' ⟨rfl, v0', v1', h1, h2, h3⟩
  have hn : ¬ (l.length + ys.length > 4194304) := by omega
  rw [if_neg hn] at h1
  have e1 : DSt.cost ⟨l, [], false, 0, false⟩ (ys.length : Int) = (ys.length : Int) := rfl
  have e2 : DSt.pay ⟨l, [], false, 0, false⟩ (ys.length : Int) = ⟨l, [], false, 0, false⟩ := rfl
  rw [e1, e2, Int.toNat_natCast, List.take_length] at h1
  refine ⟨?_, v0', v1', h1, h2, h3⟩
  show Ending.returned (.int .i64 (if l.length + ys.length > 4194304 then 2 else DSt.told ⟨l, [], false, 0, false⟩ (ys.length : Int))) = _
  rw [if_neg hn]
  unfold DSt.told
  rw [e1, if_neg (by omega)]
theorem fw_full {W : World} {g base : Nat} {v0 v1 : Value} {l ys : List Int} (h : Dsk W g base v0 v1 ⟨l, [], false, 0, false⟩) {A : Option Addr} {c : Nat} (hC : (Kd.int .u8).C W A ys.length ys) (hc : ys.length ≤ c) (hy : ys.length ≤ 140737488351232) (hl : 4194304 < l.length + ys.length) :
    Calls Try.prog 14 #[.pointer (some ⟨g, 0, none⟩), .int .i64 0, .slice A ys.length c] W fun e w' => e = .returned (.int .i64 2) ∧ ∃ v0' v1', Dsk w' g base v0' v1' ⟨l, [], false, 0, false⟩ ∧ Below base W w' ∧ Only W w' g := by
  refine (write_ok0 h rfl hC hc hy).mono ?_
  rintro e w' ⟨rfl, v0', v1', h1, h2, h3⟩
  have hn : l.length + ys.length > 4194304 := hl
  rw [if_pos hn] at h1
  refine ⟨?_, v0', v1', h1, h2, h3⟩
  show Ending.returned (.int .i64 (if l.length + ys.length > 4194304 then 2 else DSt.told ⟨l, [], false, 0, false⟩ (ys.length : Int))) = _
  rw [if_pos hn]

set_option maxHeartbeats 1000000 in
theorem full_out (n m : Int) (h : n < 4194294 ∨ 4194314 < n ∨ m < 0 ∨ 20 < m) (w : World) : Calls Try.prog 5 #[.int .i64 n, .int .i64 m] w fun e w' => e = .returned (.bool true) ∧ Below w.heap.size w w' := by
  by_cases h1 : n < 4194294
  · have b1 : decide (n < 4194294) = true := decide_eq_true h1
    clear h h1
    go_enter Try.func5, Try.ntmps5
    go_wp2_with (go_at_call 8; (with_reducible refine (lives_calls _).mono ?_); rintro e w1 ⟨rfl, h1⟩; have B1 := Aside0.mk h1; clear h1)
    go_ret
    exact ⟨rfl, B1.out⟩
  · have b1 : decide (n < 4194294) = false := decide_eq_false h1
    by_cases h2 : 4194314 < n
    · have b2 : decide (4194314 < n) = true := decide_eq_true h2
      clear h h1 h2
      go_enter Try.func5, Try.ntmps5
      go_wp2_with (go_at_call 8; (with_reducible refine (lives_calls _).mono ?_); rintro e w1 ⟨rfl, h1⟩; have B1 := Aside0.mk h1; clear h1)
      go_ret
      exact ⟨rfl, B1.out⟩
    · have b2 : decide (4194314 < n) = false := decide_eq_false h2
      by_cases h3 : m < 0
      · have b3 : decide (m < 0) = true := decide_eq_true h3
        clear h h1 h2 h3
        go_enter Try.func5, Try.ntmps5
        go_wp2_with (go_at_call 8; (with_reducible refine (lives_calls _).mono ?_); rintro e w1 ⟨rfl, h1⟩; have B1 := Aside0.mk h1; clear h1)
        go_ret
        exact ⟨rfl, B1.out⟩
      · have b3 : decide (m < 0) = false := decide_eq_false h3
        have b4 : decide (20 < m) = true := decide_eq_true (by omega)
        clear h h1 h2 h3
        go_enter Try.func5, Try.ntmps5
        go_wp2_with (go_at_call 8; (with_reducible refine (lives_calls _).mono ?_); rintro e w1 ⟨rfl, h1⟩; have B1 := Aside0.mk h1; clear h1)
        go_ret
        exact ⟨rfl, B1.out⟩

theorem below_of_grown {W W1 : World} (h : W.grownBy W1 none) : Below W.heap.size W W1 := ⟨h.os, h.tape, h.output, h.size, fun i hi => h.block i hi (by simp)⟩
theorem fw_full' {W : World} {g base : Nat} {v0 v1 : Value} {l ys : List Int} (h : Dsk W g base v0 v1 ⟨l, [], false, 0, false⟩) {A : Option Addr} {c q : Nat} (hq : ys.length = q) (hC : (Kd.int .u8).C W A ys.length ys) (hc : ys.length ≤ c) (hy : q ≤ 140737488351232) (hl : 4194304 < l.length + q) :
    Calls Try.prog 14 #[.pointer (some ⟨g, 0, none⟩), .int .i64 0, .slice A q c] W fun e w' => e = .returned (.int .i64 2) ∧ ∃ v0' v1', Dsk w' g base v0' v1' ⟨l, [], false, 0, false⟩ ∧ Below base W w' ∧ Only W w' g := by
  subst hq
  exact fw_full h hC hc hy hl

set_option maxHeartbeats 1000000 in
theorem full_big (n m : Int) (h : 4194304 < n ∧ n ≤ 4194314 ∧ 0 ≤ m ∧ m ≤ 20) (w : World) : Calls Try.prog 5 #[.int .i64 n, .int .i64 m] w fun e w' => e = .returned (.bool true) ∧ Below w.heap.size w w' := by
  have b1 : decide (n < 4194294) = false := decide_eq_false (by omega)
  have b2 : decide (4194314 < n) = false := decide_eq_false (by omega)
  have b3 : decide (m < 0) = false := decide_eq_false (by omega)
  have b4 : decide (20 < m) = false := decide_eq_false (by omega)
  have b5 : decide (4194304 < n) = true := decide_eq_true (by omega)
  have HN0 := Aside0.mk h
  clear h
  go_enter Try.func5, Try.ntmps5
  go_wp2_with (first
    | (go_at_call 9; (with_reducible refine (new_calls _).mono ?_); rintro e w1 ⟨g, rfl, h1, h2⟩; have D1 := Aside0.mk h1; have B1 := Aside0.mk h2; clear h1 h2)
    | (go_at_call 8; (with_reducible refine (lives_calls _).mono ?_); rintro e w2 ⟨rfl, h1⟩; have D2 := Aside0.mk (D1.out.below h1); have B2 := Aside0.mk (below_then B1.out B1.out.size h1); clear h1)
    | ((with_reducible refine gate_dst (N := 35) rfl ?_); refine Kd.R_make (Kd.int .u8) (w0 := w) w.heap.size 5 rfl (N := 35) rfl 30 _ _ rfl n rfl rfl Try.underlying30 (.int .u8 0) 1 info5 rfl (by decide) (by omega) (0 : Int) (okp := fun _ => True) (ok := fun _ => True) rfl (fun _ _ => trivial) trivial (by first | decide | (have := HN0.out; omega)) (by first | decide | (have := HN0.out; omega)) B2.out B2.out.size ?_; intro v1 u1 h1 h2 h3 h4; obtain ⟨A1, c1, e1, hc1, hC1⟩ := Kd.R_reads h1; subst e1; have MC1 := Aside0.mk hC1; have Mc1 := Aside0.mk hc1; have MB1 := Aside0.mk h2; have MG1 := Aside0.mk h3; have D3 := Aside0.mk (D2.out.below (below_of_grown h3)); clear h1 h2 h3 h4 hc1 hC1)
    | (go_at_call 14; (with_reducible refine (fw_full' (l := []) D3.out (ys := List.replicate n.toNat 0) (List.length_replicate ..) MC1.out Mc1.out (by have := HN0.out; omega) (by have := HN0.out; simp; omega)).mono ?_); rintro e w4 ⟨rfl, v0', v1', h1, h2, h3⟩; have B4 := Aside0.mk (MB1.out.trans h2); clear h1 h2 h3))
  go_ret
  exact ⟨by first | rfl | simp, B4.out⟩
theorem fw_ok' {W : World} {g base : Nat} {v0 v1 : Value} {l ys : List Int} (h : Dsk W g base v0 v1 ⟨l, [], false, 0, false⟩) {A : Option Addr} {c q : Nat} (hq : ys.length = q) (hC : (Kd.int .u8).C W A ys.length ys) (hc : ys.length ≤ c) (hl : l.length + q ≤ 4194304) :
    Calls Try.prog 14 #[.pointer (some ⟨g, 0, none⟩), .int .i64 0, .slice A q c] W fun e w' => e = .returned (.int .i64 0) ∧ ∃ v0' v1', Dsk w' g base v0' v1' ⟨l ++ ys, [], false, 0, false⟩ ∧ Below base W w' ∧ Only W w' g := by
  subst hq
  exact fw_ok h hC hc hl
theorem fs_full {W : World} {g base : Nat} {v0 v1 : Value} {l : List Int} (h : Dsk W g base v0 v1 ⟨l, [], false, 0, false⟩) (n : Int) (hn : n = (l.length : Int)) (A : Option Addr) (q c : Nat) (hl : 4194304 < l.length + q) (hq : q ≤ 140737488351232) :
    Calls Try.prog 17 #[.pointer (some ⟨g, 0, none⟩), .int .i64 0, .int .i64 n, .slice A q c] W fun e w' => e = .returned (.int .i64 2) ∧ W = w' := by
  subst hn
  exact spoil_full0 h l.length (Nat.le_refl _) A q c hl hq

theorem fs_fullI {W : World} {g base : Nat} {v0 v1 : Value} {x : DSt} (h : Dsk W g base v0 v1 x) (n : Int) (h0 : 0 ≤ n) (hn : n.toNat ≤ x.f0.length) (A : Option Addr) (q c : Nat) (hl : 4194304 < n.toNat + q ∧ q ≤ 140737488351232) :
    Calls Try.prog 17 #[.pointer (some ⟨g, 0, none⟩), .int .i64 0, .int .i64 n, .slice A q c] W fun e w' => e = .returned (.int .i64 2) ∧ W = w' := by
  have := spoil_full0 h n.toNat hn A q c hl.1 hl.2
  rwa [Int.toNat_of_nonneg h0] at this

set_option maxHeartbeats 2000000 in
theorem full_mid (n m : Int) (h : 4194294 ≤ n ∧ n ≤ 4194304 ∧ 0 ≤ m ∧ m ≤ 20 ∧ 4194304 < n + m) (w : World) : Calls Try.prog 5 #[.int .i64 n, .int .i64 m] w fun e w' => e = .returned (.bool true) ∧ Below w.heap.size w w' := by
  have b1 : decide (n < 4194294) = false := decide_eq_false (by omega)
  have b2 : decide (4194314 < n) = false := decide_eq_false (by omega)
  have b3 : decide (m < 0) = false := decide_eq_false (by omega)
  have b4 : decide (20 < m) = false := decide_eq_false (by omega)
  have b5 : decide (4194304 < n) = false := decide_eq_false (by omega)
  have hw1 : wrap64 (n + m) = n + m := by unfold wrap64; omega
  have hw2 : wrap64 (n + 21) = n + 21 := by unfold wrap64; omega
  have b6 : decide (4194304 < n + m) = true := decide_eq_true (by omega)
  have HN0 := Aside0.mk h
  clear h
  go_enter Try.func5, Try.ntmps5
  go_wp2_with (first
    | (go_at_call 9; (with_reducible refine (new_calls _).mono ?_); rintro e w1 ⟨g, rfl, h1, h2⟩; have D1 := Aside0.mk h1; have B1 := Aside0.mk h2; clear h1 h2)
    | (go_at_call 8; (with_reducible refine (lives_calls _).mono ?_); rintro e w2 ⟨rfl, h1⟩; have D2 := Aside0.mk (D1.out.below h1); have B2 := Aside0.mk (below_then B1.out B1.out.size h1); clear h1)
    | ((with_reducible refine gate_dst (N := 35) rfl ?_); refine Kd.R_make (Kd.int .u8) (w0 := w) w.heap.size 5 rfl (N := 35) rfl 30 _ _ rfl n rfl rfl Try.underlying30 (.int .u8 0) 1 info5 rfl (by decide) (by omega) (0 : Int) (okp := fun _ => True) (ok := fun _ => True) rfl (fun _ _ => trivial) trivial (by first | decide | (have := HN0.out; omega)) (by first | decide | (have := HN0.out; omega)) B2.out B2.out.size ?_; intro v1 u1 h1 h2 h3 h4; obtain ⟨A1, c1, e1, hc1, hC1⟩ := Kd.R_reads h1; subst e1; have MC1 := Aside0.mk hC1; have Mc1 := Aside0.mk hc1; have MB1 := Aside0.mk h2; have MD1 := Aside0.mk (D2.out.below (below_of_grown h3)); clear h1 h2 h3 h4 hc1 hC1)
    | (go_at_call 14; (with_reducible refine (fw_ok' (l := []) MD1.out (ys := List.replicate n.toNat 0) (List.length_replicate ..) MC1.out Mc1.out (by have := HN0.out; simp; omega)).mono ?_); rintro e w4 ⟨rfl, v0', v1', h1, h2, h3⟩; have D4 := Aside0.mk h1; have B4 := Aside0.mk (MB1.out.trans h2); clear h1 h2 h3)
    | ((with_reducible refine gate_dst (N := 43) rfl ?_); refine Kd.R_make (Kd.int .u8) (w0 := w) w.heap.size 5 rfl (N := 43) rfl 30 _ _ rfl m rfl rfl Try.underlying30 (.int .u8 0) 1 info5 rfl (by decide) (by omega) (0 : Int) (okp := fun _ => True) (ok := fun _ => True) rfl (fun _ _ => trivial) trivial (by first | decide | (have := HN0.out; omega)) (by first | decide | (have := HN0.out; omega)) B4.out B4.out.size ?_; intro v2 u2 h1 h2 h3 h4; obtain ⟨A2, c2, e2, hc2, hC2⟩ := Kd.R_reads h1; subst e2; have MC2 := Aside0.mk hC2; have Mc2 := Aside0.mk hc2; have MB2 := Aside0.mk h2; have MD2 := Aside0.mk (D4.out.below (below_of_grown h3)); clear h1 h2 h3 h4 hc2 hC2)
    | (go_at_call 14; (with_reducible refine (fw_full' MD2.out (ys := List.replicate m.toNat 0) (List.length_replicate ..) MC2.out Mc2.out (by have := HN0.out; omega) (by have := HN0.out; simp; omega)).mono ?_); rintro e w5 ⟨rfl, v0'', v1'', h1, h2, h3⟩; have D5 := Aside0.mk h1; have B5 := Aside0.mk (MB2.out.trans h2); clear h1 h2 h3)
    | ((with_reducible refine gate_dst (N := 47) rfl ?_); refine Kd.R_make (Kd.int .u8) (w0 := w) w.heap.size 5 rfl (N := 47) rfl 30 _ _ rfl 21 rfl rfl Try.underlying30 (.int .u8 0) 1 info5 rfl (by decide) (by omega) (0 : Int) (okp := fun _ => True) (ok := fun _ => True) rfl (fun _ _ => trivial) trivial (by first | decide | (have := HN0.out; omega)) (by first | decide | (have := HN0.out; omega)) B5.out B5.out.size ?_; intro v3 u3 h1 h2 h3 h4; obtain ⟨A3, c3, e3, hc3, hC3⟩ := Kd.R_reads h1; subst e3; have MC3 := Aside0.mk hC3; have Mc3 := Aside0.mk hc3; have MB3 := Aside0.mk h2; have MD3 := Aside0.mk (D5.out.below (below_of_grown h3)); clear h1 h2 h3 h4 hc3 hC3)
    | (go_at_call 17; (with_reducible refine (fs_full MD3.out n (by have := HN0.out; simp; omega) A3 21 c3 (by have := HN0.out; simp; omega) (by omega)).mono ?_); rintro e w6 ⟨rfl, rfl⟩)
    | (go_at_call 16; (with_reducible refine (read_ok0 MD3.out rfl).mono ?_); rintro e w7 ⟨⟨u7, rfl, h1⟩, h2⟩; obtain ⟨A7, c7, rfl⟩ := Kd.R_slice h1; have B6 := Aside0.mk (below_then MB3.out MB3.out.size h2); have hlen : ((([] ++ List.replicate n.toNat 0 : List Int).length : Int) == n) = true := beq_iff_eq.2 (by have := HN0.out; rw [List.nil_append, List.length_replicate]; omega); have hlen2 : (((n.toNat : Nat) : Int) == n) = true := beq_iff_eq.2 (by have := HN0.out; omega); have hlen3 : (max n 0 == n) = true := beq_iff_eq.2 (by have := HN0.out; omega); clear h1 h2))
  go_ret
  exact ⟨by first | rfl | simp, B6.out⟩
set_option maxHeartbeats 2000000 in
theorem full_low1 (n m : Int) (h : 4194294 ≤ n ∧ n ≤ 4194304 ∧ 0 ≤ m ∧ m ≤ 20 ∧ n + m ≤ 4194304 ∧ 4194304 < n + 21) (w : World) : Calls Try.prog 5 #[.int .i64 n, .int .i64 m] w fun e w' => e = .returned (.bool true) ∧ Below w.heap.size w w' := by
  have b1 : decide (n < 4194294) = false := decide_eq_false (by omega)
  have b2 : decide (4194314 < n) = false := decide_eq_false (by omega)
  have b3 : decide (m < 0) = false := decide_eq_false (by omega)
  have b4 : decide (20 < m) = false := decide_eq_false (by omega)
  have b5 : decide (4194304 < n) = false := decide_eq_false (by omega)
  have hw1 : wrap64 (n + m) = n + m := by unfold wrap64; omega
  have hw2 : wrap64 (n + 21) = n + 21 := by unfold wrap64; omega
  have b6 : decide (4194304 < n + m) = false := decide_eq_false (by omega)
  have b7 : decide (n + 21 ≤ 4194304) = false := decide_eq_false (by omega)
  have HN0 := Aside0.mk h
  clear h
  go_enter Try.func5, Try.ntmps5
  go_wp2_with (first
    | (go_at_call 9; (with_reducible refine (new_calls _).mono ?_); rintro e w1 ⟨g, rfl, h1, h2⟩; have D1 := Aside0.mk h1; have B1 := Aside0.mk h2; clear h1 h2)
    | (go_at_call 8; (with_reducible refine (lives_calls _).mono ?_); rintro e w2 ⟨rfl, h1⟩; have D2 := Aside0.mk (D1.out.below h1); have B2 := Aside0.mk (below_then B1.out B1.out.size h1); clear h1)
    | ((with_reducible refine gate_dst (N := 35) rfl ?_); refine Kd.R_make (Kd.int .u8) (w0 := w) w.heap.size 5 rfl (N := 35) rfl 30 _ _ rfl n rfl rfl Try.underlying30 (.int .u8 0) 1 info5 rfl (by decide) (by omega) (0 : Int) (okp := fun _ => True) (ok := fun _ => True) rfl (fun _ _ => trivial) trivial (by first | decide | (have := HN0.out; omega)) (by first | decide | (have := HN0.out; omega)) B2.out B2.out.size ?_; intro v1 u1 h1 h2 h3 h4; obtain ⟨A1, c1, e1, hc1, hC1⟩ := Kd.R_reads h1; subst e1; have MC1 := Aside0.mk hC1; have Mc1 := Aside0.mk hc1; have MB1 := Aside0.mk h2; have MD1 := Aside0.mk (D2.out.below (below_of_grown h3)); clear h1 h2 h3 h4 hc1 hC1)
    | (go_at_call 14; (with_reducible refine (fw_ok' (l := []) MD1.out (ys := List.replicate n.toNat 0) (List.length_replicate ..) MC1.out Mc1.out (by have := HN0.out; simp; omega)).mono ?_); rintro e w4 ⟨rfl, v0', v1', h1, h2, h3⟩; have D4 := Aside0.mk h1; have B4 := Aside0.mk (MB1.out.trans h2); clear h1 h2 h3)
    | ((with_reducible refine gate_dst (N := 43) rfl ?_); refine Kd.R_make (Kd.int .u8) (w0 := w) w.heap.size 5 rfl (N := 43) rfl 30 _ _ rfl m rfl rfl Try.underlying30 (.int .u8 0) 1 info5 rfl (by decide) (by omega) (0 : Int) (okp := fun _ => True) (ok := fun _ => True) rfl (fun _ _ => trivial) trivial (by first | decide | (have := HN0.out; omega)) (by first | decide | (have := HN0.out; omega)) B4.out B4.out.size ?_; intro v2 u2 h1 h2 h3 h4; obtain ⟨A2, c2, e2, hc2, hC2⟩ := Kd.R_reads h1; subst e2; have MC2 := Aside0.mk hC2; have Mc2 := Aside0.mk hc2; have MB2 := Aside0.mk h2; have MD2 := Aside0.mk (D4.out.below (below_of_grown h3)); clear h1 h2 h3 h4 hc2 hC2)
    | (go_at_call 14; (with_reducible refine (fw_ok' MD2.out (ys := List.replicate m.toNat 0) (List.length_replicate ..) MC2.out Mc2.out (by have := HN0.out; simp; omega)).mono ?_); rintro e w5 ⟨rfl, v0'', v1'', h1, h2, h3⟩; have D5 := Aside0.mk h1; have B5 := Aside0.mk (MB2.out.trans h2); clear h1 h2 h3)
    | ((with_reducible refine gate_dst (N := 47) rfl ?_); refine Kd.R_make (Kd.int .u8) (w0 := w) w.heap.size 5 rfl (N := 47) rfl 30 _ _ rfl 21 rfl rfl Try.underlying30 (.int .u8 0) 1 info5 rfl (by decide) (by omega) (0 : Int) (okp := fun _ => True) (ok := fun _ => True) rfl (fun _ _ => trivial) trivial (by first | decide | (have := HN0.out; omega)) (by first | decide | (have := HN0.out; omega)) B5.out B5.out.size ?_; intro v3 u3 h1 h2 h3 h4; obtain ⟨A3, c3, e3, hc3, hC3⟩ := Kd.R_reads h1; subst e3; have MC3 := Aside0.mk hC3; have Mc3 := Aside0.mk hc3; have MB3 := Aside0.mk h2; have MD3 := Aside0.mk (D5.out.below (below_of_grown h3)); clear h1 h2 h3 h4 hc3 hC3)
    | (go_at_call 17; (with_reducible refine (fs_fullI MD3.out n (by have := HN0.out; omega) (by show n.toNat ≤ (([] ++ List.replicate n.toNat 0) ++ List.replicate m.toNat 0 : List Int).length; rw [List.length_append, List.nil_append, List.length_replicate]; omega) A3 21 c3 (by have := HN0.out; omega)).mono ?_); rintro e w6 ⟨rfl, rfl⟩)
    | (go_at_call 16; (with_reducible refine (read_ok0 MD3.out rfl).mono ?_); rintro e w7 ⟨⟨u7, rfl, h1⟩, h2⟩; have B6 := Aside0.mk (below_then MB3.out MB3.out.size h2); clear h1 h2))
  go_ret
  exact ⟨by first | rfl | simp, B6.out⟩
theorem fs_okI {W : World} {g base : Nat} {v0 v1 : Value} {x : DSt} (h : Dsk W g base v0 v1 x) (n : Int) (h0 : 0 ≤ n) (hn : n.toNat ≤ x.f0.length) {A : Option Addr} {q c : Nat} {ys : List Int} (hq : ys.length = q) (hC : (Kd.int .u8).C W A ys.length ys) (hl : n.toNat + q ≤ 4194304) :
    Calls Try.prog 17 #[.pointer (some ⟨g, 0, none⟩), .int .i64 0, .int .i64 n, .slice A q c] W fun e w' => e = .returned (.int .i64 0) ∧ ∃ v0' v1', Dsk w' g base v0' v1' { x with f0 := x.f0.take n.toNat ++ ys } ∧ Below base W w' := by
  subst hq
  have := spoil_ok0 (c := c) h n.toNat hn hC hl
  rw [Int.toNat_of_nonneg h0] at this
  exact this.mono fun _ _ ⟨he, a, b, h1, h2, _⟩ => ⟨he, a, b, h1, h2⟩

set_option maxHeartbeats 2000000 in
theorem full_low2 (n m : Int) (h : 4194294 ≤ n ∧ n ≤ 4194304 ∧ 0 ≤ m ∧ m ≤ 20 ∧ n + m ≤ 4194304 ∧ n + 21 ≤ 4194304) (w : World) : Calls Try.prog 5 #[.int .i64 n, .int .i64 m] w fun e w' => e = .returned (.bool true) ∧ Below w.heap.size w w' := by
  have b1 : decide (n < 4194294) = false := decide_eq_false (by omega)
  have b2 : decide (4194314 < n) = false := decide_eq_false (by omega)
  have b3 : decide (m < 0) = false := decide_eq_false (by omega)
  have b4 : decide (20 < m) = false := decide_eq_false (by omega)
  have b5 : decide (4194304 < n) = false := decide_eq_false (by omega)
  have hw1 : wrap64 (n + m) = n + m := by unfold wrap64; omega
  have hw2 : wrap64 (n + 21) = n + 21 := by unfold wrap64; omega
  have b6 : decide (4194304 < n + m) = false := decide_eq_false (by omega)
  have b7 : decide (n + 21 ≤ 4194304) = true := decide_eq_true (by omega)
  have HN0 := Aside0.mk h
  clear h
  go_enter Try.func5, Try.ntmps5
  go_wp2_with (first
    | (go_at_call 9; (with_reducible refine (new_calls _).mono ?_); rintro e w1 ⟨g, rfl, h1, h2⟩; have D1 := Aside0.mk h1; have B1 := Aside0.mk h2; clear h1 h2)
    | (go_at_call 8; (with_reducible refine (lives_calls _).mono ?_); rintro e w2 ⟨rfl, h1⟩; have D2 := Aside0.mk (D1.out.below h1); have B2 := Aside0.mk (below_then B1.out B1.out.size h1); clear h1)
    | ((with_reducible refine gate_dst (N := 35) rfl ?_); refine Kd.R_make (Kd.int .u8) (w0 := w) w.heap.size 5 rfl (N := 35) rfl 30 _ _ rfl n rfl rfl Try.underlying30 (.int .u8 0) 1 info5 rfl (by decide) (by omega) (0 : Int) (okp := fun _ => True) (ok := fun _ => True) rfl (fun _ _ => trivial) trivial (by first | decide | (have := HN0.out; omega)) (by first | decide | (have := HN0.out; omega)) B2.out B2.out.size ?_; intro v1 u1 h1 h2 h3 h4; obtain ⟨A1, c1, e1, hc1, hC1⟩ := Kd.R_reads h1; subst e1; have MC1 := Aside0.mk hC1; have Mc1 := Aside0.mk hc1; have MB1 := Aside0.mk h2; have MD1 := Aside0.mk (D2.out.below (below_of_grown h3)); clear h1 h2 h3 h4 hc1 hC1)
    | (go_at_call 14; (with_reducible refine (fw_ok' (l := []) MD1.out (ys := List.replicate n.toNat 0) (List.length_replicate ..) MC1.out Mc1.out (by have := HN0.out; simp; omega)).mono ?_); rintro e w4 ⟨rfl, v0', v1', h1, h2, h3⟩; have D4 := Aside0.mk h1; have B4 := Aside0.mk (MB1.out.trans h2); clear h1 h2 h3)
    | ((with_reducible refine gate_dst (N := 43) rfl ?_); refine Kd.R_make (Kd.int .u8) (w0 := w) w.heap.size 5 rfl (N := 43) rfl 30 _ _ rfl m rfl rfl Try.underlying30 (.int .u8 0) 1 info5 rfl (by decide) (by omega) (0 : Int) (okp := fun _ => True) (ok := fun _ => True) rfl (fun _ _ => trivial) trivial (by first | decide | (have := HN0.out; omega)) (by first | decide | (have := HN0.out; omega)) B4.out B4.out.size ?_; intro v2 u2 h1 h2 h3 h4; obtain ⟨A2, c2, e2, hc2, hC2⟩ := Kd.R_reads h1; subst e2; have MC2 := Aside0.mk hC2; have Mc2 := Aside0.mk hc2; have MB2 := Aside0.mk h2; have MD2 := Aside0.mk (D4.out.below (below_of_grown h3)); clear h1 h2 h3 h4 hc2 hC2)
    | (go_at_call 14; (with_reducible refine (fw_ok' MD2.out (ys := List.replicate m.toNat 0) (List.length_replicate ..) MC2.out Mc2.out (by have := HN0.out; simp; omega)).mono ?_); rintro e w5 ⟨rfl, v0'', v1'', h1, h2, h3⟩; have D5 := Aside0.mk h1; have B5 := Aside0.mk (MB2.out.trans h2); clear h1 h2 h3)
    | ((with_reducible refine gate_dst (N := 47) rfl ?_); refine Kd.R_make (Kd.int .u8) (w0 := w) w.heap.size 5 rfl (N := 47) rfl 30 _ _ rfl 21 rfl rfl Try.underlying30 (.int .u8 0) 1 info5 rfl (by decide) (by omega) (0 : Int) (okp := fun _ => True) (ok := fun _ => True) rfl (fun _ _ => trivial) trivial (by first | decide | (have := HN0.out; omega)) (by first | decide | (have := HN0.out; omega)) B5.out B5.out.size ?_; intro v3 u3 h1 h2 h3 h4; obtain ⟨A3, c3, e3, hc3, hC3⟩ := Kd.R_reads h1; subst e3; have MC3 := Aside0.mk hC3; have Mc3 := Aside0.mk hc3; have MB3 := Aside0.mk h2; have MD3 := Aside0.mk (D5.out.below (below_of_grown h3)); clear h1 h2 h3 h4 hc3 hC3)
    | (go_at_call 17; (with_reducible refine (fs_okI MD3.out n (by have := HN0.out; omega) (by show n.toNat ≤ (([] ++ List.replicate n.toNat 0) ++ List.replicate m.toNat 0 : List Int).length; rw [List.length_append, List.nil_append, List.length_replicate]; omega) (ys := List.replicate (Int.toNat 21) 0) (q := 21) (List.length_replicate ..) MC3.out (by have := HN0.out; omega)).mono ?_); rintro e w6 ⟨rfl, v0s, v1s, h1, h2⟩; have D6 := Aside0.mk h1; have BS := Aside0.mk (MB3.out.trans h2); clear h1 h2)
    | (go_at_call 16; (with_reducible refine (read_ok0 D6.out rfl).mono ?_); rintro e w7 ⟨⟨u7, rfl, h1⟩, h2⟩; have B6 := Aside0.mk (below_then BS.out BS.out.size h2); clear h1 h2))
  go_ret
  exact ⟨by first | rfl | simp, B6.out⟩
theorem full_calls (n m : Int) (w : World) : Calls Try.prog 5 #[.int .i64 n, .int .i64 m] w fun e w' => e = .returned (.bool true) ∧ Below w.heap.size w w' := by
  by_cases h : n < 4194294 ∨ 4194314 < n ∨ m < 0 ∨ 20 < m
  · exact full_out n m h w
  · by_cases h1 : 4194304 < n
    · exact full_big n m ⟨h1, by omega, by omega, by omega⟩ w
    · by_cases h2 : 4194304 < n + m
      · exact full_mid n m ⟨by omega, by omega, by omega, by omega, h2⟩ w
      · by_cases h3 : 4194304 < n + 21
        · exact full_low1 n m ⟨by omega, by omega, by omega, by omega, by omega, h3⟩ w
        · exact full_low2 n m ⟨by omega, by omega, by omega, by omega, by omega, by omega⟩ w
end Go.Proofs.Ytijbcfnkeahdoaa.Disk
