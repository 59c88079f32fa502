/- The walks of a nil pen's methods, of the law's put, and of CurNobody. -/
import Derived.Test.YtjanjpchdjagjaaLives
set_option linter.unusedVariables false
set_option linter.unusedSimpArgs false
namespace Go.Proofs.Ytjanjpchdjagjaa.Rd
open Go Go.RowKit Go.Proofs.YtjanjpchdjagjaaW.PrintWords Go.Proofs.YtjanjpchdjagjaaW.PrintLast Go.Proofs.Ytjanjpchdjagjaa.LebM Go.Proofs.Ytjanjpchdjagjaa.Leb
open Go.Proofs.Ytjanjpchdjagjaa.Pen (Buf Moved)

set_option maxHeartbeats 1000000 in
theorem pput_nil (u : Value) (w : World) : Calls Try.prog 55 #[.pointer none, u] w fun e w' => e = .returned (.tuple #[]) ∧ w = w' := by
  go_enter Try.func55, Try.ntmps55
  go_wp2
  go_end0
  exact ⟨rfl, rfl⟩
set_option maxHeartbeats 1000000 in
theorem pu_nil (n : Int) (h : 0 ≤ n ∧ n < 18446744073709551616) (w : World) : Calls Try.prog 24 #[.pointer none, .int .u64 n] w fun e w' => e = .returned (.tuple #[]) ∧ Below w.heap.size w w' := by
  have H := Aside0.mk h
  clear h
  go_enter Try.func24, Try.ntmps24
  go_wp2_with (first
    | (go_at_call 56; refine (Leb.put_calls n _ H.out.1 H.out.2).mono ?_; rintro e w1 ⟨v, rfl, h1, h2⟩; have B1 := Aside0.mk h2; clear h1 h2)
    | (go_at_call 55; (with_reducible refine (pput_nil _ _).mono ?_); rintro e w2 ⟨rfl, rfl⟩))
  go_end0
  exact ⟨rfl, B1.out⟩
set_option maxHeartbeats 1000000 in
theorem pi_nil (n : Int) (h : -9223372036854775808 ≤ n ∧ n < 9223372036854775808) (w : World) : Calls Try.prog 25 #[.pointer none, .int .i64 n] w fun e w' => e = .returned (.tuple #[]) ∧ Below w.heap.size w w' := by
  have H := Aside0.mk h
  clear h
  go_enter Try.func25, Try.ntmps25
  go_wp2_with (first
    | (go_at_call 57; refine (Leb.putint_calls n _ H.out).mono ?_; rintro e w1 ⟨v, rfl, h1, h2⟩; have B1 := Aside0.mk h2; clear h1 h2)
    | (go_at_call 55; (with_reducible refine (pput_nil _ _).mono ?_); rintro e w2 ⟨rfl, rfl⟩))
  go_end0
  exact ⟨rfl, B1.out⟩
set_option maxHeartbeats 1000000 in
theorem pbyte_nil (n : Int) (w : World) : Calls Try.prog 28 #[.pointer none, .int .i64 n] w fun e w' => e = .returned (.tuple #[]) ∧ Below w.heap.size w w' := by
  go_enter Try.func28, Try.ntmps28
  go_wp2_with (go_at_call 55; (with_reducible refine (pput_nil _ _).mono ?_); rintro e w2 ⟨rfl, rfl⟩)
  go_end0
  exact ⟨rfl, below_alloc (Below.refl _ _) _⟩
set_option maxHeartbeats 1000000 in
theorem pword_nil (n : Int) (w : World) : Calls Try.prog 27 #[.pointer none, .int .u32 n] w fun e w' => e = .returned (.tuple #[]) ∧ Below w.heap.size w w' := by
  go_enter Try.func27, Try.ntmps27
  go_wp2_with (go_at_call 55; (with_reducible refine (pput_nil _ _).mono ?_); rintro e w2 ⟨rfl, rfl⟩)
  go_end0
  exact ⟨rfl, below_alloc (Below.refl _ _) _⟩
set_option maxHeartbeats 1000000 in
theorem ptext_nil (s : ByteArray) (hs : s.size ≤ 140737488351232) (w : World) : Calls Try.prog 26 #[.pointer none, .string s] w fun e w' => e = .returned (.tuple #[]) ∧ Below w.heap.size w w' := by
  have HS := Aside0.mk hs
  have hw : IntKind.u64.wrap ((s.size : Nat) : Int) = ((s.size : Nat) : Int) := by simp [IntKind.wrap, IntKind.bits, IntKind.signed]; omega
  clear hs
  go_enter Try.func26, Try.ntmps26
  go_wp2_with (first
    | (go_at_call 24; (with_reducible refine (pu_nil (s.size : Int) (by have := HS.out; omega) _).mono ?_); rintro e w1 ⟨rfl, h1⟩; have B1 := Aside0.mk h1; clear h1)
    | ((with_reducible refine gate_dst (N := 11) rfl ?_); refine Pen.bytes_event (N := 11) rfl rfl 9 26 5 _ s rfl rfl Try.underlying9 Try.underlying26 Try.underlying5 (by have := HS.out; omega) ?_; intro A c w2 hc hC hb; have B2 := Aside0.mk (below_then B1.out B1.out.size hb); clear hc hC hb)
    | (go_at_call 55; (with_reducible refine (pput_nil _ _).mono ?_); rintro e w3 ⟨rfl, rfl⟩))
  go_end0
  exact ⟨rfl, B2.out⟩
set_option maxHeartbeats 1000000 in
theorem pbytes_nil (w : World) : Calls Try.prog 9 #[.pointer none] w fun e w' => e = .returned (.slice none 0 0) ∧ w = w' := by
  go_enter Try.func9, Try.ntmps9
  go_wp2
  go_ret
  exact ⟨rfl, rfl⟩
/-- what one call of a pen writes -/
def opM (K n : Int) (s : ByteArray) : List Int :=
  if K = 1 then putN 9 (n % 18446744073709551616) else if K = 2 then putN 9 (zigS n) else if K = 3 then [n % 256] else if K = 4 then wordN (n % 4294967296) else if K = 5 then putN 9 s.size ++ bytesOf s else []
set_option maxHeartbeats 1000000 in
/-- the reference's Text -/
theorem reftext_calls (s : ByteArray) (hs : s.size ≤ 140737488351232) (w : World) :
    Calls Try.prog 32 #[.string s] w fun e w' => ∃ v, e = .returned v ∧ (Kd.int .u8).R 5 w' w.heap.size (fun _ => True) v (putN 9 s.size ++ bytesOf s) ∧ Below w.heap.size w w' := by
  have HS := Aside0.mk hs
  have L1 := Aside0.mk (putN_le 9 (s.size : Int))
  have hw : IntKind.u64.wrap ((s.size : Nat) : Int) = ((s.size : Nat) : Int) := by simp [IntKind.wrap, IntKind.bits, IntKind.signed]; omega
  clear hs
  go_enter Try.func32, Try.ntmps32
  go_wp2_with (first
    | (go_at_call 29; refine (Leb.rput_calls (s.size : Int) _ (by omega) (by have := HS.out; omega)).mono ?_; rintro e w1 ⟨v1, rfl, h1, h2⟩; have H1 := Aside0.mk h1; have B1 := Aside0.mk h2; clear h1 h2)
    | ((with_reducible refine gate_dst (N := 8) rfl ?_); refine Pen.bytes_event (N := 8) rfl rfl 9 26 5 _ s rfl rfl Try.underlying9 Try.underlying26 Try.underlying5 (by have := HS.out; omega) ?_; intro A c w2 hc hC hb; have Hc := Aside0.mk hc; have HC := Aside0.mk hC; have H2 := Aside0.mk (Kd.R_below H1.out hb); have B2 := Aside0.mk (below_then B1.out (by have := B1.out.size; omega) hb); clear hc hC hb)
    | (at_builtin; refine Kd.R_append_rows (Kd.int .u8) (w0 := w) w.heap.size rfl (.tmp 6) (.tmp 8) 26 5 (.int .u8 0) 1 rfl Try.underlying26 info5 rfl (by decide) (by omega) _ _ (bytesOf s) _ _ _ (fun _ => True) (fun _ => False) rfl rfl H2.out HC.out (fun _ _ h => h) (fun _ h => h.elim) (fun _ _ => trivial) B2.out B2.out.size (by have := L1.out; have := HS.out; simp [bytesOf_length]; omega) ?_; intro v3 w3 h1 h2 h3 h4; have H3 := Aside0.mk h1; have B3 := Aside0.mk h2; clear h1 h2 h3 h4))
  go_ret
  exact ⟨_, rfl, H3.out, B3.out⟩
/-- the box of a call -/
structure OBox (w : World) (b : Nat) (K n : Int) (s : ByteArray) : Prop where
  blk : w.heap[b]? = some (.cells #[.int .i64 K, .int .i64 n, .string s] 28 (0, 0))
theorem OBox.c0 {w : World} {b : Nat} {K n : Int} {s : ByteArray} (o : OBox w b K n s) : w.cell? ⟨b, 0, none⟩ = some (.int .i64 K) := (blk_cell o.blk 0).trans rfl
theorem OBox.c1 {w : World} {b : Nat} {K n : Int} {s : ByteArray} (o : OBox w b K n s) : w.cell? ⟨b, 1, none⟩ = some (.int .i64 n) := (blk_cell o.blk 1).trans rfl
theorem OBox.c2 {w : World} {b : Nat} {K n : Int} {s : ByteArray} (o : OBox w b K n s) : w.cell? ⟨b, 2, none⟩ = some (.string s) := (blk_cell o.blk 2).trans rfl
theorem OBox.below {w w' : World} {b : Nat} {K n : Int} {s : ByteArray} (o : OBox w b K n s) (h : Below w.heap.size w w') : OBox w' b K n s := ⟨blk_below o.blk h⟩
theorem OBox.keep {w w' : World} {b g : Nat} {K n : Int} {s : ByteArray} {base : Nat} {v : Value} {xs : List Int} (o : OBox w b K n s) (h : Buf w 57 #[v] g base v xs) (k : KeepBut w w' g v.ownBlock) : OBox w' b K n s :=
  ⟨(k.2 b (blk_lt o.blk) (fun e => blk_ne o.blk h.blk (by decide) e) (fun e => by
    obtain ⟨cells, hc⟩ := own_typed (Kd.own_of_R h.row) b e.symm
    rw [o.blk] at hc
    injection hc with hc
    injection hc with _ hc
    cases hc)).trans o.blk⟩
theorem bytesOf_range (s : ByteArray) : ∀ x ∈ bytesOf s, 0 ≤ x ∧ x < 256 := by
  intro x hx
  unfold bytesOf at hx
  obtain ⟨b, _, rfl⟩ := List.mem_map.1 hx
  have := b.toNat_lt
  omega
theorem word_lit (n : Int) (h : 0 ≤ n ∧ n < 4294967296) : [n % 256, n / 256 % 256, n / 65536 % 256, n / 16777216] = wordN n := by
  have : n / 16777216 % 256 = n / 16777216 := by omega
  unfold wordN
  rw [this]
theorem opM_bytes (K n : Int) (s : ByteArray) (hs : s.size ≤ 1000) (hn : -9223372036854775808 ≤ n ∧ n < 9223372036854775808) : (∀ x ∈ opM K n s, 0 ≤ x ∧ x < 256) ∧ (opM K n s).length ≤ 1010 := by
  have hz := zigS_range hn
  unfold opM
  split
  · exact ⟨putN_byte 9 _ (by omega) (by omega), by have := putN_le 9 (n % 18446744073709551616); omega⟩
  · split
    · exact ⟨putN_byte 9 _ hz.1 (by omega), by have := putN_le 9 (zigS n); omega⟩
    · split
      · exact ⟨by intro x hx; simp at hx; omega, by simp⟩
      · split
        · exact ⟨by intro x hx; simp [wordN] at hx; omega, by simp [wordN]⟩
        · split
          · refine ⟨fun x hx => ?_, ?_⟩
            · rcases List.mem_append.1 hx with hx | hx
              · exact putN_byte 9 _ (by omega) (by omega) x hx
              · exact bytesOf_range s x hx
            · rw [List.length_append, bytesOf_length]
              have := putN_le 9 (s.size : Int)
              omega
          · exact ⟨by simp, by simp⟩


set_option maxHeartbeats 2000000 in
theorem put8_nil1 (n : Int) (hn : -9223372036854775808 ≤ n ∧ n < 9223372036854775808) (s : ByteArray) (hs : s.size ≤ 140737488351232) (w : World) :
    Calls Try.prog 8 #[.pointer none, .agg #[.int .i64 1, .int .i64 n, .string s]] w fun e w' => (∃ u, e = .returned u) ∧ Below w.heap.size w w' := by
  have BA := Aside0.mk (below_alloc (Below.refl w.heap.size w) (.cells #[.int .i64 1, .int .i64 n, .string s] 28))
  have O := Aside0.mk (show OBox (w.alloc (.cells #[.int .i64 1, .int .i64 n, .string s] 28)) w.heap.size 1 n s from ⟨blk_new w _⟩)
  have HN := Aside0.mk hn
  have HS := Aside0.mk hs
  have q0 := O.out.c0
  have q1 := O.out.c1
  have q2 := O.out.c2
  obtain ⟨m, hm⟩ : ∃ m, IntKind.u64.wrap n = m := ⟨_, rfl⟩
  have HMM := Aside0.mk (show m = n % 18446744073709551616 by rw [← hm, IntKind.wrap_u64])
  clear hn hs
  go_enter Try.func8, Try.ntmps8
  go_wp2_with (first
    | (go_at_call 24; (with_reducible refine (pu_nil m (by have := HMM.out; omega) _).mono ?_); rintro e w1 ⟨rfl, h1⟩; have O1 := Aside0.mk (O.out.below h1); have r1 := O1.out.c1; have r2 := O1.out.c2; have B1 := Aside0.mk (below_then BA.out BA.out.size h1); clear h1)
    | (go_at_call 29; refine (Leb.rput_calls m _ (by have := HMM.out; omega) (by have := HMM.out; omega)).mono ?_; rintro e w2 ⟨v2, rfl, h1, h2⟩; have B2 := Aside0.mk (below_then B1.out B1.out.size h2); clear h1 h2))
  go_ret
  exact ⟨⟨_, rfl⟩, B2.out⟩


set_option maxHeartbeats 2000000 in
theorem put8_nil2 (n : Int) (hn : -9223372036854775808 ≤ n ∧ n < 9223372036854775808) (s : ByteArray) (hs : s.size ≤ 140737488351232) (w : World) :
    Calls Try.prog 8 #[.pointer none, .agg #[.int .i64 2, .int .i64 n, .string s]] w fun e w' => (∃ u, e = .returned u) ∧ Below w.heap.size w w' := by
  have BA := Aside0.mk (below_alloc (Below.refl w.heap.size w) (.cells #[.int .i64 2, .int .i64 n, .string s] 28))
  have O := Aside0.mk (show OBox (w.alloc (.cells #[.int .i64 2, .int .i64 n, .string s] 28)) w.heap.size 2 n s from ⟨blk_new w _⟩)
  have HN := Aside0.mk hn
  have HS := Aside0.mk hs
  have q0 := O.out.c0
  have q1 := O.out.c1
  have q2 := O.out.c2
  clear hn hs
  go_enter Try.func8, Try.ntmps8
  go_wp2_with (first
    | (go_at_call 25; (with_reducible refine (pi_nil n HN.out _).mono ?_); rintro e w1 ⟨rfl, h1⟩; have O1 := Aside0.mk (O.out.below h1); have r1 := O1.out.c1; have r2 := O1.out.c2; have B1 := Aside0.mk (below_then BA.out BA.out.size h1); clear h1)
    | (go_at_call 30; refine (Leb.rputint_calls n _ HN.out).mono ?_; rintro e w2 ⟨v2, rfl, h1, h2⟩; have B2 := Aside0.mk (below_then B1.out B1.out.size h2); clear h1 h2))
  go_ret
  exact ⟨⟨_, rfl⟩, B2.out⟩


set_option maxHeartbeats 2000000 in
theorem put8_nil3 (n : Int) (hn : -9223372036854775808 ≤ n ∧ n < 9223372036854775808) (s : ByteArray) (hs : s.size ≤ 140737488351232) (w : World) :
    Calls Try.prog 8 #[.pointer none, .agg #[.int .i64 3, .int .i64 n, .string s]] w fun e w' => (∃ u, e = .returned u) ∧ Below w.heap.size w w' := by
  have BA := Aside0.mk (below_alloc (Below.refl w.heap.size w) (.cells #[.int .i64 3, .int .i64 n, .string s] 28))
  have O := Aside0.mk (show OBox (w.alloc (.cells #[.int .i64 3, .int .i64 n, .string s] 28)) w.heap.size 3 n s from ⟨blk_new w _⟩)
  have HN := Aside0.mk hn
  have HS := Aside0.mk hs
  have q0 := O.out.c0
  have q1 := O.out.c1
  have q2 := O.out.c2
  clear hn hs
  go_enter Try.func8, Try.ntmps8
  go_wp2_with (first
    | (go_at_call 28; (with_reducible refine (pbyte_nil n _).mono ?_); rintro e w1 ⟨rfl, h1⟩; have O1 := Aside0.mk (O.out.below h1); have r1 := O1.out.c1; have r2 := O1.out.c2; have B1 := Aside0.mk (below_then BA.out BA.out.size h1); clear h1)
    | fail)
  go_ret
  exact ⟨⟨_, rfl⟩, below_alloc B1.out _⟩


set_option maxHeartbeats 2000000 in
theorem put8_nil4 (n : Int) (hn : -9223372036854775808 ≤ n ∧ n < 9223372036854775808) (s : ByteArray) (hs : s.size ≤ 140737488351232) (w : World) :
    Calls Try.prog 8 #[.pointer none, .agg #[.int .i64 4, .int .i64 n, .string s]] w fun e w' => (∃ u, e = .returned u) ∧ Below w.heap.size w w' := by
  have BA := Aside0.mk (below_alloc (Below.refl w.heap.size w) (.cells #[.int .i64 4, .int .i64 n, .string s] 28))
  have O := Aside0.mk (show OBox (w.alloc (.cells #[.int .i64 4, .int .i64 n, .string s] 28)) w.heap.size 4 n s from ⟨blk_new w _⟩)
  have HN := Aside0.mk hn
  have HS := Aside0.mk hs
  have q0 := O.out.c0
  have q1 := O.out.c1
  have q2 := O.out.c2
  clear hn hs
  go_enter Try.func8, Try.ntmps8
  go_wp2_with (first
    | (go_at_call 27; (with_reducible refine (pword_nil (n % 4294967296) _).mono ?_); rintro e w1 ⟨rfl, h1⟩; have O1 := Aside0.mk (O.out.below h1); have r1 := O1.out.c1; have r2 := O1.out.c2; have B1 := Aside0.mk (below_then BA.out BA.out.size h1); clear h1)
    | (go_at_call 31; refine (Leb.rword_calls (n % 4294967296) _ (by omega)).mono ?_; rintro e w2 ⟨v2, rfl, h1, h2⟩; have B2 := Aside0.mk (below_then B1.out B1.out.size h2); clear h1 h2))
  go_ret
  exact ⟨⟨_, rfl⟩, B2.out⟩


set_option maxHeartbeats 2000000 in
theorem put8_nil5 (n : Int) (hn : -9223372036854775808 ≤ n ∧ n < 9223372036854775808) (s : ByteArray) (hs : s.size ≤ 140737488351232) (w : World) :
    Calls Try.prog 8 #[.pointer none, .agg #[.int .i64 5, .int .i64 n, .string s]] w fun e w' => (∃ u, e = .returned u) ∧ Below w.heap.size w w' := by
  have BA := Aside0.mk (below_alloc (Below.refl w.heap.size w) (.cells #[.int .i64 5, .int .i64 n, .string s] 28))
  have O := Aside0.mk (show OBox (w.alloc (.cells #[.int .i64 5, .int .i64 n, .string s] 28)) w.heap.size 5 n s from ⟨blk_new w _⟩)
  have HN := Aside0.mk hn
  have HS := Aside0.mk hs
  have q0 := O.out.c0
  have q1 := O.out.c1
  have q2 := O.out.c2
  clear hn hs
  go_enter Try.func8, Try.ntmps8
  go_wp2_with (first
    | (go_at_call 26; (with_reducible refine (ptext_nil s (by have := HS.out; omega) _).mono ?_); rintro e w1 ⟨rfl, h1⟩; have O1 := Aside0.mk (O.out.below h1); have r1 := O1.out.c1; have r2 := O1.out.c2; have B1 := Aside0.mk (below_then BA.out BA.out.size h1); clear h1)
    | (go_at_call 32; refine (reftext_calls s (by have := HS.out; omega) _).mono ?_; rintro e w2 ⟨v2, rfl, h1, h2⟩; have B2 := Aside0.mk (below_then B1.out B1.out.size h2); clear h1 h2))
  go_ret
  exact ⟨⟨_, rfl⟩, B2.out⟩


set_option maxHeartbeats 2000000 in
theorem put8_nilK (K : Int) (hK : K < 1 ∨ 5 < K) (n : Int) (hn : -9223372036854775808 ≤ n ∧ n < 9223372036854775808) (s : ByteArray) (hs : s.size ≤ 140737488351232) (w : World) :
    Calls Try.prog 8 #[.pointer none, .agg #[.int .i64 K, .int .i64 n, .string s]] w fun e w' => (∃ u, e = .returned u) ∧ Below w.heap.size w w' := by
  have BA := Aside0.mk (below_alloc (Below.refl w.heap.size w) (.cells #[.int .i64 K, .int .i64 n, .string s] 28))
  have O := Aside0.mk (show OBox (w.alloc (.cells #[.int .i64 K, .int .i64 n, .string s] 28)) w.heap.size K n s from ⟨blk_new w _⟩)
  have HN := Aside0.mk hn
  have HS := Aside0.mk hs
  have q0 := O.out.c0
  have q1 := O.out.c1
  have q2 := O.out.c2
  have b1 : (K == 1) = false := beq_eq_false_iff_ne.mpr (by omega)
  have b2 : (K == 2) = false := beq_eq_false_iff_ne.mpr (by omega)
  have b3 : (K == 3) = false := beq_eq_false_iff_ne.mpr (by omega)
  have b4 : (K == 4) = false := beq_eq_false_iff_ne.mpr (by omega)
  have b5 : (K == 5) = false := beq_eq_false_iff_ne.mpr (by omega)
  clear hn hs hK
  go_enter Try.func8, Try.ntmps8
  go_wp2
  go_ret
  exact ⟨⟨_, rfl⟩, BA.out⟩


theorem put8_nil (K n : Int) (hn : -9223372036854775808 ≤ n ∧ n < 9223372036854775808) (s : ByteArray) (hs : s.size ≤ 140737488351232) (w : World) :
    Calls Try.prog 8 #[.pointer none, .agg #[.int .i64 K, .int .i64 n, .string s]] w fun e w' => (∃ u, e = .returned u) ∧ Below w.heap.size w w' := by
  by_cases h : K < 1 ∨ 5 < K
  · exact put8_nilK K h n hn s hs w
  · have : K = 1 ∨ K = 2 ∨ K = 3 ∨ K = 4 ∨ K = 5 := by omega
    rcases this with rfl | rfl | rfl | rfl | rfl
    · exact put8_nil1 n hn s hs w
    · exact put8_nil2 n hn s hs w
    · exact put8_nil3 n hn s hs w
    · exact put8_nil4 n hn s hs w
    · exact put8_nil5 n hn s hs w


theorem put_said : Pen.PutSaid (putN 9) := Leb.put_calls
theorem putint_said : Pen.PutIntSaid (fun n => putN 9 (zigS n)) := Leb.putint_calls
/-- what a call of the pen leaves -/
def PutPost (w w' : World) (g base : Nat) (v : Value) (xs ys : List Int) : Prop := ∃ v', Buf w' 57 #[v'] g base v' (xs ++ ys) ∧ KeepBut w w' g v.ownBlock ∧ Moved w v v' ∧ Below base w w'
theorem PutPost.pre {w W w' : World} {g base : Nat} {v : Value} {xs ys : List Int} (hb : Below w.heap.size w W) (hs : base ≤ w.heap.size) (h : PutPost W w' g base v xs ys) : PutPost w w' g base v xs ys := by
  obtain ⟨v', h1, h2, h3, h4⟩ := h
  refine ⟨v', h1, Pen.keep_then hb h2, ?_, (hb.mono hs).trans h4⟩
  rcases h3 with h3 | ⟨b, h3, h5⟩
  · exact .inl h3
  · exact .inr ⟨b, h3, Nat.le_trans hb.size h5⟩
theorem PutPost.post {w w' w2 : World} {g base : Nat} {v : Value} {xs ys : List Int} (h : PutPost w w' g base v xs ys) (hb : Below w'.heap.size w' w2) : PutPost w w2 g base v xs ys := by
  obtain ⟨v', h1, h2, h3, h4⟩ := h
  exact ⟨v', h1.below hb, h2.trans (KeepBut.of_below hb g v.ownBlock) (.inl rfl), h3, below_then h4 h1.size hb⟩


set_option maxHeartbeats 2000000 in
theorem put8_pen1 {w : World} {g base : Nat} {v : Value} {xs : List Int} (P : Buf w 57 #[v] g base v xs) (hl : xs.length ≤ 1000000) (n : Int) (hn : -9223372036854775808 ≤ n ∧ n < 9223372036854775808) (s : ByteArray) (hs : s.size ≤ 1000) :
    Calls Try.prog 8 #[.pointer (some ⟨g, 0, none⟩), .agg #[.int .i64 1, .int .i64 n, .string s]] w fun e w' => ∃ A c, e = .returned (.slice A (opM 1 n s).length c) ∧ (opM 1 n s).length ≤ c ∧ (Kd.int .u8).C w' A (opM 1 n s).length (opM 1 n s) ∧ PutPost w w' g base v xs (opM 1 n s) := by
  have BA := Aside0.mk (below_alloc (Below.refl w.heap.size w) (.cells #[.int .i64 1, .int .i64 n, .string s] 28))
  have O := Aside0.mk (show OBox (w.alloc (.cells #[.int .i64 1, .int .i64 n, .string s] 28)) w.heap.size 1 n s from ⟨blk_new w _⟩)
  have HN := Aside0.mk hn
  have HS := Aside0.mk hs
  have q0 := O.out.c0
  have q1 := O.out.c1
  have q2 := O.out.c2
  obtain ⟨m, hm⟩ : ∃ m, IntKind.u64.wrap n = m := ⟨_, rfl⟩
  have HMM := Aside0.mk (show m = n % 18446744073709551616 by rw [← hm, IntKind.wrap_u64])
  have eo : opM 1 n s = putN 9 m := by rw [HMM.out]; rfl
  rw [eo]
  have PB := Aside0.mk (P.below BA.out)
  have HL := Aside0.mk hl
  have RS := Aside0.mk P.size
  clear hn hs P hl eo
  go_enter Try.func8, Try.ntmps8
  go_wp2_with (first
    | (go_at_call 24; (with_reducible refine (Pen.u_calls put_said m (by have := HMM.out; omega) (by have := HMM.out; omega) PB.out (by have := HL.out; have := putN_le 9 m; omega)).mono ?_); rintro e w1 ⟨rfl, v1, h1, h2, h3, h4⟩; have O1 := Aside0.mk (O.out.keep PB.out h2); have r1 := O1.out.c1; have r2 := O1.out.c2; have P1 := Aside0.mk (show PutPost _ w1 g base v xs (putN 9 m) from ⟨v1, h1, h2, h3, h4⟩); clear h1 h2 h3 h4)
    | (go_at_call 29; refine (Leb.rput_calls m _ (by have := HMM.out; omega) (by have := HMM.out; omega)).mono ?_; rintro e w2 ⟨v2, rfl, h1, h2⟩; obtain ⟨A2, c2, rfl, hc2, hC2⟩ := Kd.R_reads h1; have MC := Aside0.mk hC2; have Mc := Aside0.mk hc2; have P2 := Aside0.mk (P1.out.post h2); clear h1 h2 hC2 hc2))
  go_ret
  exact ⟨A2, c2, by first | rfl | simp, Mc.out, MC.out, PutPost.pre BA.out RS.out P2.out⟩


set_option maxHeartbeats 2000000 in
theorem put8_pen2 {w : World} {g base : Nat} {v : Value} {xs : List Int} (P : Buf w 57 #[v] g base v xs) (hl : xs.length ≤ 1000000) (n : Int) (hn : -9223372036854775808 ≤ n ∧ n < 9223372036854775808) (s : ByteArray) (hs : s.size ≤ 1000) :
    Calls Try.prog 8 #[.pointer (some ⟨g, 0, none⟩), .agg #[.int .i64 2, .int .i64 n, .string s]] w fun e w' => ∃ A c, e = .returned (.slice A (opM 2 n s).length c) ∧ (opM 2 n s).length ≤ c ∧ (Kd.int .u8).C w' A (opM 2 n s).length (opM 2 n s) ∧ PutPost w w' g base v xs (opM 2 n s) := by
  have BA := Aside0.mk (below_alloc (Below.refl w.heap.size w) (.cells #[.int .i64 2, .int .i64 n, .string s] 28))
  have O := Aside0.mk (show OBox (w.alloc (.cells #[.int .i64 2, .int .i64 n, .string s] 28)) w.heap.size 2 n s from ⟨blk_new w _⟩)
  have HN := Aside0.mk hn
  have HS := Aside0.mk hs
  have q0 := O.out.c0
  have q1 := O.out.c1
  have q2 := O.out.c2
  have eo : opM 2 n s = putN 9 (zigS n) := by rfl
  rw [eo]
  have PB := Aside0.mk (P.below BA.out)
  have HL := Aside0.mk hl
  have RS := Aside0.mk P.size
  clear hn hs P hl eo
  go_enter Try.func8, Try.ntmps8
  go_wp2_with (first
    | (go_at_call 25; (with_reducible refine (Pen.i_calls putint_said n HN.out PB.out (by have := HL.out; have := putN_le 9 (zigS n); show xs.length + (putN 9 (zigS n)).length ≤ _; omega)).mono ?_); rintro e w1 ⟨rfl, v1, h1, h2, h3, h4⟩; have O1 := Aside0.mk (O.out.keep PB.out h2); have r1 := O1.out.c1; have r2 := O1.out.c2; have P1 := Aside0.mk (show PutPost _ w1 g base v xs (putN 9 (zigS n)) from ⟨v1, h1, h2, h3, h4⟩); clear h1 h2 h3 h4)
    | (go_at_call 30; refine (Leb.rputint_calls n _ HN.out).mono ?_; rintro e w2 ⟨v2, rfl, h1, h2⟩; obtain ⟨A2, c2, rfl, hc2, hC2⟩ := Kd.R_reads h1; have MC := Aside0.mk hC2; have Mc := Aside0.mk hc2; have P2 := Aside0.mk (P1.out.post h2); clear h1 h2 hC2 hc2))
  go_ret
  exact ⟨A2, c2, by first | rfl | simp, Mc.out, MC.out, PutPost.pre BA.out RS.out P2.out⟩


set_option maxHeartbeats 2000000 in
theorem put8_pen3 {w : World} {g base : Nat} {v : Value} {xs : List Int} (P : Buf w 57 #[v] g base v xs) (hl : xs.length ≤ 1000000) (n : Int) (hn : -9223372036854775808 ≤ n ∧ n < 9223372036854775808) (s : ByteArray) (hs : s.size ≤ 1000) :
    Calls Try.prog 8 #[.pointer (some ⟨g, 0, none⟩), .agg #[.int .i64 3, .int .i64 n, .string s]] w fun e w' => ∃ A c, e = .returned (.slice A (opM 3 n s).length c) ∧ (opM 3 n s).length ≤ c ∧ (Kd.int .u8).C w' A (opM 3 n s).length (opM 3 n s) ∧ PutPost w w' g base v xs (opM 3 n s) := by
  have BA := Aside0.mk (below_alloc (Below.refl w.heap.size w) (.cells #[.int .i64 3, .int .i64 n, .string s] 28))
  have O := Aside0.mk (show OBox (w.alloc (.cells #[.int .i64 3, .int .i64 n, .string s] 28)) w.heap.size 3 n s from ⟨blk_new w _⟩)
  have HN := Aside0.mk hn
  have HS := Aside0.mk hs
  have q0 := O.out.c0
  have q1 := O.out.c1
  have q2 := O.out.c2
  have eo : opM 3 n s = [n % 256] := by rfl
  rw [eo]
  have PB := Aside0.mk (P.below BA.out)
  have HL := Aside0.mk hl
  have RS := Aside0.mk P.size
  clear hn hs P hl eo
  go_enter Try.func8, Try.ntmps8
  go_wp2_with (first
    | (go_at_call 28; (with_reducible refine (Pen.byte_calls n PB.out (by have := HL.out; omega)).mono ?_); rintro e w1 ⟨rfl, v1, h1, h2, h3, h4⟩; have O1 := Aside0.mk (O.out.keep PB.out h2); have r1 := O1.out.c1; have r2 := O1.out.c2; have P1 := Aside0.mk (show PutPost _ w1 g base v xs ([n % 256]) from ⟨v1, h1, h2, h3, h4⟩); clear h1 h2 h3 h4)
    | ((with_reducible refine gate_dst (N := 36) rfl ?_); refine Kd.R_lit (Kd.int .u8) _ 5 ?hg (N := 36) ?hd (xs := ([n % 256] : List Int)) (inner := [.int .u8 (n % 256)]) (ok := fun _ => True) (okp := fun _ => True) ?hr ?hp (fun _ hk => hk) trivial (Below.refl _ _) (Nat.le_refl _) (by simp) ?_; (case hd => rfl); (case hg => rfl); (case hr => first | (go_simp; done) | (go_simp; rfl)); (case hp => exact (Reps.one (show Kd.M (Kd.int .u8) _ _ _ (n % 256) [.int .u8 (n % 256)] from rfl) (Reps.none _ _))); intro v2 w2 h1 h2 h3 h4; obtain ⟨A2, c2, rfl, hc2, hC2⟩ := Kd.R_reads h1; have MC := Aside0.mk hC2; have Mc := Aside0.mk hc2; have P2 := Aside0.mk (P1.out.post h2); clear h1 h2 h3 h4 hC2 hc2))
  go_ret
  exact ⟨A2, c2, rfl, Mc.out, MC.out, PutPost.pre BA.out RS.out P2.out⟩


set_option maxHeartbeats 2000000 in
theorem put8_pen4 {w : World} {g base : Nat} {v : Value} {xs : List Int} (P : Buf w 57 #[v] g base v xs) (hl : xs.length ≤ 1000000) (n : Int) (hn : -9223372036854775808 ≤ n ∧ n < 9223372036854775808) (s : ByteArray) (hs : s.size ≤ 1000) :
    Calls Try.prog 8 #[.pointer (some ⟨g, 0, none⟩), .agg #[.int .i64 4, .int .i64 n, .string s]] w fun e w' => ∃ A c, e = .returned (.slice A (opM 4 n s).length c) ∧ (opM 4 n s).length ≤ c ∧ (Kd.int .u8).C w' A (opM 4 n s).length (opM 4 n s) ∧ PutPost w w' g base v xs (opM 4 n s) := by
  have BA := Aside0.mk (below_alloc (Below.refl w.heap.size w) (.cells #[.int .i64 4, .int .i64 n, .string s] 28))
  have O := Aside0.mk (show OBox (w.alloc (.cells #[.int .i64 4, .int .i64 n, .string s] 28)) w.heap.size 4 n s from ⟨blk_new w _⟩)
  have HN := Aside0.mk hn
  have HS := Aside0.mk hs
  have q0 := O.out.c0
  have q1 := O.out.c1
  have q2 := O.out.c2
  have eo : opM 4 n s = wordN (n % 4294967296) := by rfl
  rw [eo]
  have PB := Aside0.mk (P.below BA.out)
  have HL := Aside0.mk hl
  have RS := Aside0.mk P.size
  clear hn hs P hl eo
  go_enter Try.func8, Try.ntmps8
  go_wp2_with (first
    | (go_at_call 27; (with_reducible refine (Pen.word_calls (n % 4294967296) (by omega) PB.out (by have := HL.out; omega)).mono ?_); rintro e w1 ⟨rfl, v1, h1, h2, h3, h4⟩; have O1 := Aside0.mk (O.out.keep PB.out h2); have r1 := O1.out.c1; have r2 := O1.out.c2; have P1 := Aside0.mk (show PutPost _ w1 g base v xs (wordN (n % 4294967296)) from ⟨v1, (by rw [word_lit (n % 4294967296) (by omega)] at h1; exact h1), h2, h3, h4⟩); clear h1 h2 h3 h4)
    | (go_at_call 31; refine (Leb.rword_calls (n % 4294967296) _ (by omega)).mono ?_; rintro e w2 ⟨v2, rfl, h1, h2⟩; obtain ⟨A2, c2, rfl, hc2, hC2⟩ := Kd.R_reads h1; have MC := Aside0.mk hC2; have Mc := Aside0.mk hc2; have P2 := Aside0.mk (P1.out.post h2); clear h1 h2 hC2 hc2))
  go_ret
  exact ⟨A2, c2, by first | rfl | simp, Mc.out, MC.out, PutPost.pre BA.out RS.out P2.out⟩


set_option maxHeartbeats 2000000 in
theorem put8_pen5 {w : World} {g base : Nat} {v : Value} {xs : List Int} (P : Buf w 57 #[v] g base v xs) (hl : xs.length ≤ 1000000) (n : Int) (hn : -9223372036854775808 ≤ n ∧ n < 9223372036854775808) (s : ByteArray) (hs : s.size ≤ 1000) :
    Calls Try.prog 8 #[.pointer (some ⟨g, 0, none⟩), .agg #[.int .i64 5, .int .i64 n, .string s]] w fun e w' => ∃ A c, e = .returned (.slice A (opM 5 n s).length c) ∧ (opM 5 n s).length ≤ c ∧ (Kd.int .u8).C w' A (opM 5 n s).length (opM 5 n s) ∧ PutPost w w' g base v xs (opM 5 n s) := by
  have BA := Aside0.mk (below_alloc (Below.refl w.heap.size w) (.cells #[.int .i64 5, .int .i64 n, .string s] 28))
  have O := Aside0.mk (show OBox (w.alloc (.cells #[.int .i64 5, .int .i64 n, .string s] 28)) w.heap.size 5 n s from ⟨blk_new w _⟩)
  have HN := Aside0.mk hn
  have HS := Aside0.mk hs
  have q0 := O.out.c0
  have q1 := O.out.c1
  have q2 := O.out.c2
  have eo : opM 5 n s = putN 9 s.size ++ bytesOf s := by rfl
  rw [eo]
  have PB := Aside0.mk (P.below BA.out)
  have HL := Aside0.mk hl
  have RS := Aside0.mk P.size
  clear hn hs P hl eo
  go_enter Try.func8, Try.ntmps8
  go_wp2_with (first
    | (go_at_call 26; (with_reducible refine (Pen.text_calls put_said s (by have := HS.out; omega) PB.out (by have := HL.out; have := HS.out; have := putN_le 9 (s.size : Int); omega)).mono ?_); rintro e w1 ⟨rfl, v1, h1, h2, h3, h4⟩; have O1 := Aside0.mk (O.out.keep PB.out h2); have r1 := O1.out.c1; have r2 := O1.out.c2; have P1 := Aside0.mk (show PutPost _ w1 g base v xs (putN 9 s.size ++ bytesOf s) from ⟨v1, (by rw [List.append_assoc] at h1; exact h1), h2, h3, h4⟩); clear h1 h2 h3 h4)
    | (go_at_call 32; refine (reftext_calls s (by have := HS.out; omega) _).mono ?_; rintro e w2 ⟨v2, rfl, h1, h2⟩; obtain ⟨A2, c2, rfl, hc2, hC2⟩ := Kd.R_reads h1; have MC := Aside0.mk hC2; have Mc := Aside0.mk hc2; have P2 := Aside0.mk (P1.out.post h2); clear h1 h2 hC2 hc2))
  go_ret
  exact ⟨A2, c2, by first | rfl | simp, Mc.out, MC.out, PutPost.pre BA.out RS.out P2.out⟩


set_option maxHeartbeats 2000000 in
theorem put8_penK (K : Int) (hK : K < 1 ∨ 5 < K) {w : World} {g base : Nat} {v : Value} {xs : List Int} (P : Buf w 57 #[v] g base v xs) (hl : xs.length ≤ 1000000) (n : Int) (hn : -9223372036854775808 ≤ n ∧ n < 9223372036854775808) (s : ByteArray) (hs : s.size ≤ 1000) :
    Calls Try.prog 8 #[.pointer (some ⟨g, 0, none⟩), .agg #[.int .i64 K, .int .i64 n, .string s]] w fun e w' => ∃ A c, e = .returned (.slice A (opM K n s).length c) ∧ (opM K n s).length ≤ c ∧ (Kd.int .u8).C w' A (opM K n s).length (opM K n s) ∧ PutPost w w' g base v xs (opM K n s) := by
  have BA := Aside0.mk (below_alloc (Below.refl w.heap.size w) (.cells #[.int .i64 K, .int .i64 n, .string s] 28))
  have O := Aside0.mk (show OBox (w.alloc (.cells #[.int .i64 K, .int .i64 n, .string s] 28)) w.heap.size K n s from ⟨blk_new w _⟩)
  have HN := Aside0.mk hn
  have HS := Aside0.mk hs
  have q0 := O.out.c0
  have q1 := O.out.c1
  have q2 := O.out.c2
  have b1 : (K == 1) = false := beq_eq_false_iff_ne.mpr (by omega)
  have b2 : (K == 2) = false := beq_eq_false_iff_ne.mpr (by omega)
  have b3 : (K == 3) = false := beq_eq_false_iff_ne.mpr (by omega)
  have b4 : (K == 4) = false := beq_eq_false_iff_ne.mpr (by omega)
  have b5 : (K == 5) = false := beq_eq_false_iff_ne.mpr (by omega)
  have eo : opM K n s = [] := by unfold opM; rw [if_neg (by omega), if_neg (by omega), if_neg (by omega), if_neg (by omega), if_neg (by omega)]
  rw [eo]
  have PB := Aside0.mk (P.below BA.out)
  have RS := Aside0.mk P.size
  clear hn hs hK P hl eo
  go_enter Try.func8, Try.ntmps8
  go_wp2
  go_ret
  exact ⟨none, 0, rfl, Nat.le_refl _, Kd.C_nil _ _, PutPost.pre BA.out RS.out ⟨v, by rw [List.append_nil]; exact PB.out, KeepBut.refl _ g _, .inl rfl, Below.refl _ _⟩⟩


theorem put8_pen {w : World} {g base : Nat} {v : Value} {xs : List Int} (P : Buf w 57 #[v] g base v xs) (hl : xs.length ≤ 1000000) (K n : Int) (hn : -9223372036854775808 ≤ n ∧ n < 9223372036854775808) (s : ByteArray) (hs : s.size ≤ 1000) :
    Calls Try.prog 8 #[.pointer (some ⟨g, 0, none⟩), .agg #[.int .i64 K, .int .i64 n, .string s]] w fun e w' => ∃ A c, e = .returned (.slice A (opM K n s).length c) ∧ (opM K n s).length ≤ c ∧ (Kd.int .u8).C w' A (opM K n s).length (opM K n s) ∧ PutPost w w' g base v xs (opM K n s) := by
  by_cases h : K < 1 ∨ 5 < K
  · exact put8_penK K h P hl n hn s hs
  · have : K = 1 ∨ K = 2 ∨ K = 3 ∨ K = 4 ∨ K = 5 := by omega
    rcases this with rfl | rfl | rfl | rfl | rfl
    · exact put8_pen1 P hl n hn s hs
    · exact put8_pen2 P hl n hn s hs
    · exact put8_pen3 P hl n hn s hs
    · exact put8_pen4 P hl n hn s hs
    · exact put8_pen5 P hl n hn s hs

end Go.Proofs.Ytjanjpchdjagjaa.Rd
