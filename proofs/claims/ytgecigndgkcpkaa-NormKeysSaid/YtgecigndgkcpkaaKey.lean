/- The walks of norm.Key and of the reference's Text. -/
import Derived.Test.YtgecigndgkcpkaaNorm
set_option linter.unusedVariables false
set_option linter.unusedSimpArgs false
namespace Go.Proofs.Ytgecigndgkcpkaa.Pen
open Go Go.RowKit Go.Proofs.YtgecigndgkcpkaaW.PrintWords NormM

def textL (putN : Int → List Int) (s : ByteArray) : List Int := putN s.size ++ bytesOf s
def keyL (putN : Int → List Int) (kind : Int) (fn ex : ByteArray) : List Int := putN (max kind 0) ++ textL putN fn ++ textL putN (normOf ex)

set_option maxHeartbeats 1000000 in
theorem key_calls0 {putN : Int → List Int} (hput : PutSaid putN) (hlen : ∀ n, (putN n).length ≤ 1000) (kind : Int) (h0 : -9223372036854775808 ≤ kind) (h1 : kind < 9223372036854775808) (fn ex nx : ByteArray) (hf : fn.size ≤ 1099511627776) (hn : nx.size ≤ 1099511627776) (hN : ∀ w, Calls Try.prog 8 #[.string ex] w fun e w' => e = .returned (.string nx) ∧ Below w.heap.size w w') (w : World) :
    Calls Try.prog 14 #[.int .i64 kind, .string fn, .string ex] w fun e w' => ∃ v, e = .returned v ∧ (Kd.int .u8).R 5 w' w.heap.size (fun _ => True) v (putN (max kind 0) ++ textL putN fn ++ textL putN nx) ∧ Below w.heap.size w w' := by
  obtain ⟨m, hm⟩ : ∃ m, max kind 0 = m := ⟨_, rfl⟩
  have hm0 : 0 ≤ m := by omega
  have hm1 : m < 9223372036854775808 := by omega
  have hw : IntKind.u64.wrap m = m := by simp [IntKind.wrap, IntKind.bits, IntKind.signed]; omega
  have hmx : (if kind < 0 then (0 : Int) else kind) = m := by split <;> omega
  have HM := Aside0.mk hm
  have M0 := Aside0.mk hm0
  have M1 := Aside0.mk hm1
  have HF := Aside0.mk hf
  have HC := Aside0.mk hN
  have HN := Aside0.mk hn
  have L0 := Aside0.mk (hlen m)
  have L1 := Aside0.mk (hlen fn.size)
  have L2 := Aside0.mk (hlen nx.size)
  clear hm hm0 hm1 hf hn hN h0 h1
  go_enter Try.func14, Try.ntmps14
  go_wp2_with (first
    | (go_at_call 22; (with_reducible refine (new_calls _).mono ?_); rintro e w1 ⟨g, rfl, h1, h2⟩; have H1 := Aside0.mk h1; have B1 := Aside0.mk h2; clear h1 h2)
    | (go_at_call 23; (with_reducible refine (u_calls hput m M0.out (by have := M1.out; omega) H1.out (by have := L0.out; simp; omega)).mono ?_); rintro e w2 ⟨rfl, v2, h1, h2, h3, h4⟩; have H2 := Aside0.mk h1; have B2 := Aside0.mk (B1.out.trans h4); clear h1 h2 h3 h4)
    | (go_at_call 24; first
        | ((with_reducible refine (text_calls hput fn (by have := HF.out; omega) H2.out (by have := L0.out; have := L1.out; have := HF.out; simp; omega)).mono ?_); rintro e w3 ⟨rfl, v3, h1, h2, h3, h4⟩; have H3 := Aside0.mk h1; have B3 := Aside0.mk (B2.out.trans h4); clear h1 h2 h3 h4)
        | ((with_reducible refine (text_calls hput nx (by have := HN.out; omega) H4.out (by have := L0.out; have := L1.out; have := L2.out; have := HF.out; have := HN.out; simp [bytesOf_length]; omega)).mono ?_); rintro e w5 ⟨rfl, v5, h1, h2, h3, h4⟩; have H5 := Aside0.mk h1; have B5 := Aside0.mk (B4.out.trans h4); clear h1 h2 h3 h4))
    | (go_at_call 8; (with_reducible refine (HC.out _).mono ?_); rintro e w4 ⟨rfl, h1⟩; have H4 := Aside0.mk (H3.out.below h1); have B4 := Aside0.mk (below_then B3.out (by have := B3.out.size; omega) h1); clear h1)
    | (go_at_call 25; (with_reducible refine (bytes_calls H5.out (by have := L0.out; have := L1.out; have := L2.out; have := HF.out; have := HN.out; simp [bytesOf_length]; omega)).mono ?_); rintro e w6 ⟨u, rfl, h1, h2⟩; have H6 := Aside0.mk h1; have B6 := Aside0.mk (below_then B5.out (by have := B5.out.size; omega) h2); clear h1 h2))
  go_ret
  refine ⟨_, rfl, ?_, B6.out⟩
  have h := Kd.R_lower H6.out (base' := w.heap.size) (B5.out.size)
  unfold textL
  rw [HM.out]
  simpa [List.append_assoc] using h

theorem key_calls {putN : Int → List Int} (hput : PutSaid putN) (hlen : ∀ n, (putN n).length ≤ 1000) (kind : Int) (h0 : -9223372036854775808 ≤ kind) (h1 : kind < 9223372036854775808) (fn ex : ByteArray) (hf : fn.size ≤ 1099511627776) (he : ex.size ≤ 1099511627776) (w : World) :
    Calls Try.prog 14 #[.int .i64 kind, .string fn, .string ex] w fun e w' => ∃ v, e = .returned v ∧ (Kd.int .u8).R 5 w' w.heap.size (fun _ => True) v (keyL putN kind fn ex) ∧ Below w.heap.size w w' :=
  key_calls0 hput hlen kind h0 h1 fn ex (normOf ex) hf (by have := norm_len ex.data.toList; rw [data_length] at this; show (norm ex.data.toList).length ≤ _; omega) (norm_calls ex he) w

set_option maxHeartbeats 1000000 in
theorem rtext_calls {putN : Int → List Int} (hput : ∀ (n : Int) (w : World), 0 ≤ n → n < 18446744073709551616 → Calls Try.prog 33 #[.int .u64 n] w fun e w' => ∃ v : Value, e = .returned v ∧ (Kd.int .u8).R 5 w' w.heap.size (fun _ => True) v (putN n) ∧ Below w.heap.size w w') (hlen : ∀ n, (putN n).length ≤ 1000) (s : ByteArray) (hs : s.size ≤ 1099511627776) (w : World) :
    Calls Try.prog 27 #[.string s] w fun e w' => ∃ v, e = .returned v ∧ (Kd.int .u8).R 5 w' w.heap.size (fun _ => True) v (textL putN s) ∧ Below w.heap.size w w' := by
  have HS := Aside0.mk hs
  have L1 := Aside0.mk (hlen s.size)
  have hw : IntKind.u64.wrap ((s.size : Nat) : Int) = ((s.size : Nat) : Int) := by simp [IntKind.wrap, IntKind.bits, IntKind.signed]; omega
  clear hs
  go_enter Try.func27, Try.ntmps27
  go_wp2_with (first
    | (go_at_call 33; refine (hput (s.size : Int) _ (by omega) (by have := HS.out; omega)).mono ?_; rintro e w1 ⟨v1, rfl, h1, h2⟩; have H1 := Aside0.mk h1; have B1 := Aside0.mk h2; clear h1 h2)
    | ((with_reducible refine gate_dst (N := 8) rfl ?_); refine bytes_event (N := 8) rfl rfl 9 30 5 _ s rfl rfl Try.underlying9 Try.underlying30 Try.underlying5 (by have := HS.out; omega) ?_; intro A c w2 hc hC hb; have Hc := Aside0.mk hc; have HC := Aside0.mk hC; have H2 := Aside0.mk (Kd.R_below H1.out hb); have B2 := Aside0.mk (below_then B1.out (by have := B1.out.size; omega) hb); clear hc hC hb)
    | (at_builtin; refine Kd.R_append_rows (Kd.int .u8) (w0 := w) w.heap.size rfl (.tmp 6) (.tmp 8) 30 5 (.int .u8 0) 1 rfl Try.underlying30 info5 rfl (by decide) (by omega) _ _ (bytesOf s) _ _ _ (fun _ => True) (fun _ => False) rfl rfl H2.out HC.out (fun _ _ h => h) (fun _ h => h.elim) (fun _ _ => trivial) B2.out B2.out.size (by have := L1.out; have := HS.out; simp [bytesOf_length]; omega) ?_; intro v3 w3 h1 h2 h3 h4; have H3 := Aside0.mk h1; have B3 := Aside0.mk h2; clear h1 h2 h3 h4))
  go_ret
  exact ⟨_, rfl, H3.out, B3.out⟩
end Go.Proofs.Ytgecigndgkcpkaa.Pen
