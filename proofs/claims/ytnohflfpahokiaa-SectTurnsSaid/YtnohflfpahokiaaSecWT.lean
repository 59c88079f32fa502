/- SectTurns, walked: bits of the last body, and its sum, that are turned. -/
import Derived.Test.YtnohflfpahokiaaSecWP
set_option linter.unusedVariables false
set_option linter.unusedSimpArgs false
set_option maxRecDepth 20000
namespace Go.Proofs.Ytnohflfpahokiaa.Sec
open Go Go.RowKit Go.Proofs.YtnohflfpahokiaaW.PrintWords Go.Proofs.YtnohflfpahokiaaW.PrintLast Go.Proofs.Ytnohflfpahokiaa.LebM Go.Proofs.Ytnohflfpahokiaa.Leb
open Go.Proofs.Ytnohflfpahokiaa.PAll (S39 k39 z39 rd_T39 at_T39)
open Go.Proofs.Ytnohflfpahokiaa.Rd (info5)
open Go.Proofs.Ytnohflfpahokiaa.Crc (sumI sumI_range)
open Go.Proofs.Ytnohflfpahokiaa.Head (head5)

theorem tw1 {n l : Nat} (h : l = n + 1) (hl : l ≤ 16) : wrap64 ((l : Int) - 1) = (n : Int) := by rw [Rd.w64 (by omega)]; omega
theorem tw2 {y : Nat} (h : y ≤ 5000) : wrap64 ((y : Int) + 4) = (y : Int) + 4 := Rd.w64 (by omega)
theorem tw3 {y : Nat} {T : Int} (h : y ≤ 5000) (hT : 8 * ((y : Int) + 4) = T) : wrap64 (8 * ((y : Int) + 4)) = T := by rw [hT]; exact Rd.w64 (by omega)
theorem tw4 {y : Nat} {T T2 : Int} (h : y ≤ 5000) (hT : 8 * ((y : Int) + 4) = T) (hT2 : T - 32 = T2) : wrap64 (T - 32) = T2 := by rw [hT2]; exact Rd.w64 (by omega)
theorem tw5 {b : Nat} {X : Int} (h : b ≤ 90000) (hX : 8 * (b : Int) = X) : wrap64 (8 * (b : Int)) = X := by rw [hX]; exact Rd.w64 (by omega)
theorem tw6 {b y : Nat} {X T Y : Int} (h : b ≤ 90000) (hX : 8 * (b : Int) = X) (hy : y ≤ 5000) (hT : 8 * ((y : Int) + 4) = T) (hY : X - T = Y) : wrap64 (X - T) = Y := by rw [hY]; exact Rd.w64 (by omega)
theorem tw7 {b y an Z : Nat} {X T Y : Int} (h : b ≤ 90000 ∧ y + 4 ≤ b) (hX : 8 * (b : Int) = X) (hy : y ≤ 5000) (hT : 8 * ((y : Int) + 4) = T) (hY : X - T = Y) (hZ : 8 * (b - (y + 4)) + an = Z) (ha : ¬ 8 * ((y : Int) + 4) - 32 < (an : Int)) : wrap64 (Y + (an : Int)) = (Z : Int) := by rw [Rd.w64 (by omega)]; omega
theorem secsB_le {M : Nat} {l : List S39} (h : ∀ s ∈ l, (∀ x ∈ s.f1, 0 ≤ x ∧ x < 256) ∧ s.f1.length ≤ M) : (secsB l).length ≤ (M + 15) * l.length := by
  induction l with
  | nil => simp [secsB]
  | cons a r ih =>
    have h1 := ih (fun s hs => h s (List.mem_cons_of_mem _ hs))
    have h2 := (h a List.mem_cons_self).2
    have h3 := secB_length a.f0 a.f1
    rw [secsB_cons, List.length_append, List.length_cons, Nat.mul_add, Nat.mul_one]
    omega
theorem turn_fix {l : List Int} (hb : ∀ x ∈ l, 0 ≤ x ∧ x < 256) (hl : l.length ≤ 100000) (at_ t : Nat) (ht : t < 4294967296) (hat : at_ + 32 ≤ 8 * l.length) :
    ∃ r, (r.length = l.length ∧ (∀ x ∈ r, 0 ≤ x ∧ x < 256) ∧ CrcM.val (Crc.nats r) = CrcM.val (Crc.nats l) ^^^ (2 ^ at_ * t)) ∧ ∀ (A : Option Addr) (c : Nat) (w : World), (Kd.int .u8).C w A l.length l → l.length ≤ c →
      Calls Try.prog 18 #[.slice A l.length c, .int .i64 (at_ : Int), .int .u32 (t : Int)] w fun e w' => (∃ A c, e = .returned (.slice A r.length c) ∧ r.length ≤ c ∧ (Kd.int .u8).C w' A r.length r) ∧ Below w.heap.size w w' := by
  have e32 : (2 : Nat) ^ 32 = 4294967296 := by decide
  obtain ⟨r, hr, h1, h2, h3⟩ := turn_loop 32 1000 t l 0 at_ hb (by omega) (by rw [e32]; exact ht) hat hl (by omega)
  refine ⟨r, ⟨h1, h2, by simpa using h3⟩, fun A c w hL hc => (PAll.warrantorref03_Turn.calls 1000 A c l _ _ r w hL hc ?_).mono ?_⟩
  · unfold PAll.warrantorref03_Turn.f
    simp only [Option.bind_some, List.nil_append, List.length_nil, Nat.zero_add]
    rw [if_pos (by omega)]
    exact hr
  · rintro e w' ⟨v, rfl, h4, h5⟩
    obtain ⟨A, c, rfl, h6, h7⟩ := Kd.R_reads h4
    exact ⟨⟨A, c, rfl, h6, h7⟩, h5⟩
set_option maxHeartbeats 8000000 in
theorem turns_nil {L : Option Addr} {k : Nat} {l : List S39} {w : World} (hL : Kd.C k39 w L l.length l) (hk : l.length ≤ k) (hb : Bytes l) (at_ t : Int) (h0 : l.length = 0) :
    Calls Try.prog 7 #[.slice L l.length k, .int .i64 at_, .int .u32 t] w fun e w' => e = .returned (.bool true) ∧ Below w.heap.size w w' := by
  have HL := Aside0.mk hL
  have Hk := Aside0.mk hk
  have HBY := Aside0.mk hb
  have d0 : ((l.length : Int) == 0) = true := by rw [h0]; rfl
  have d0n : (l.length == 0) = true := by rw [h0]; rfl
  clear hL hk hb h0
  go_enter Try.func7, Try.ntmps7
  go_wp2_with (go_at_call 9; (with_reducible refine (lives_calls _).mono ?_); rintro e w1 ⟨rfl, h3⟩; have B1 := Aside0.mk h3; clear h3)
  go_ret
  exact ⟨rfl, B1.out⟩
set_option maxHeartbeats 8000000 in
theorem turns_large {L : Option Addr} {k : Nat} {l : List S39} {w : World} (hL : Kd.C k39 w L l.length l) (hk : l.length ≤ k) (hb : Bytes l) (at_ t : Int) (h0 : l.length ≠ 0) (hlg : largeB l 5000 = true) :
    Calls Try.prog 7 #[.slice L l.length k, .int .i64 at_, .int .u32 t] w fun e w' => e = .returned (.bool true) ∧ Below w.heap.size w w' := by
  have HL := Aside0.mk hL
  have Hk := Aside0.mk hk
  have HBY := Aside0.mk hb
  have d0 : ((l.length : Int) == 0) = false := beq_eq_false_iff_ne.mpr (by omega)
  have d0n : (l.length == 0) = false := beq_eq_false_iff_ne.mpr (by omega)
  have HLG := Aside0.mk hlg
  clear hL hk hb h0 hlg
  go_enter Try.func7, Try.ntmps7
  go_wp2_with (first
    | (go_at_call 8; (with_reducible refine (large_is HL.out Hk.out (by decide) HLG.out).mono ?_); rintro e w1 ⟨rfl, h3⟩; have B1 := Aside0.mk h3; have L1 := Aside0.mk (Kd.C_below HL.out h3); clear h3)
    | (go_at_call 9; (with_reducible refine (lives_calls _).mono ?_); rintro e w2 ⟨rfl, h3⟩; have B2 := Aside0.mk (below_then B1.out B1.out.size h3); clear h3))
  go_ret
  exact ⟨rfl, B2.out⟩
set_option maxHeartbeats 8000000 in
theorem turns_check {L : Option Addr} {k : Nat} {l : List S39} {w : World} (hL : Kd.C k39 w L l.length l) (hk : l.length ≤ k) (hb : Bytes l) (at_ t : Int) (h0 : l.length ≠ 0) (hlg : largeB l 5000 = false) {ck : Int} (hck : checkM l = ck) (hc0 : ck ≠ 0) :
    Calls Try.prog 7 #[.slice L l.length k, .int .i64 at_, .int .u32 t] w fun e w' => e = .returned (.bool true) ∧ Below w.heap.size w w' := by
  have HL := Aside0.mk hL
  have Hk := Aside0.mk hk
  have HBY := Aside0.mk hb
  have d0 : ((l.length : Int) == 0) = false := beq_eq_false_iff_ne.mpr (by omega)
  have d0n : (l.length == 0) = false := beq_eq_false_iff_ne.mpr (by omega)
  have HLG := Aside0.mk hlg
  have HN := Aside0.mk (large_no hlg)
  have HCK := Aside0.mk hck
  have d1 : (ck != 0) = true := bne_iff_ne.mpr hc0
  clear hL hk hb h0 hlg hck hc0
  go_enter Try.func7, Try.ntmps7
  go_wp2_with (first
    | (go_at_call 8; (with_reducible refine (large_is HL.out Hk.out (by decide) HLG.out).mono ?_); rintro e w1 ⟨rfl, h3⟩; have B1 := Aside0.mk h3; have L1 := Aside0.mk (Kd.C_below HL.out h3); clear h3)
    | (go_at_call 11; (with_reducible refine (check_is L1.out Hk.out (by have := HN.out.1; omega) HCK.out).mono ?_); rintro e w2 ⟨rfl, h3⟩; have B2 := Aside0.mk (below_then B1.out B1.out.size h3); have L2 := Aside0.mk (Kd.C_below L1.out h3); clear h3)
    | (go_at_call 9; (with_reducible refine (lives_calls _).mono ?_); rintro e w3 ⟨rfl, h3⟩; have B3 := Aside0.mk (below_then B2.out B2.out.size h3); clear h3))
  go_ret
  exact ⟨rfl, B3.out⟩
set_option maxHeartbeats 8000000 in
theorem turns_none {L : Option Addr} {k : Nat} {l : List S39} {w : World} (hL : Kd.C k39 w L l.length l) (hk : l.length ≤ k) (hb : Bytes l) (at_ : Int) {t : Int} (h0 : l.length ≠ 0) (hlg : largeB l 5000 = false) (hck : checkM l = 0) (ht : t = 0) :
    Calls Try.prog 7 #[.slice L l.length k, .int .i64 at_, .int .u32 t] w fun e w' => e = .returned (.bool true) ∧ Below w.heap.size w w' := by
  have HL := Aside0.mk hL
  have Hk := Aside0.mk hk
  have HBY := Aside0.mk hb
  have d0 : ((l.length : Int) == 0) = false := beq_eq_false_iff_ne.mpr (by omega)
  have d0n : (l.length == 0) = false := beq_eq_false_iff_ne.mpr (by omega)
  have HLG := Aside0.mk hlg
  have HN := Aside0.mk (large_no hlg)
  have HCK := Aside0.mk hck
  have d2 : (t == 0) = true := by rw [ht]; rfl
  clear hL hk hb h0 hlg hck ht
  go_enter Try.func7, Try.ntmps7
  go_wp2_with (first
    | (go_at_call 8; (with_reducible refine (large_is HL.out Hk.out (by decide) HLG.out).mono ?_); rintro e w1 ⟨rfl, h3⟩; have B1 := Aside0.mk h3; have L1 := Aside0.mk (Kd.C_below HL.out h3); clear h3)
    | (go_at_call 11; (with_reducible refine (check_is L1.out Hk.out (by have := HN.out.1; omega) HCK.out).mono ?_); rintro e w2 ⟨rfl, h3⟩; have B2 := Aside0.mk (below_then B1.out B1.out.size h3); have L2 := Aside0.mk (Kd.C_below L1.out h3); clear h3)
    | (go_at_call 9; (with_reducible refine (lives_calls _).mono ?_); rintro e w3 ⟨rfl, h3⟩; have B3 := Aside0.mk (below_then B2.out B2.out.size h3); clear h3))
  go_ret
  exact ⟨rfl, B3.out⟩
set_option maxHeartbeats 8000000 in
theorem turns_out {L : Option Addr} {k : Nat} {l : List S39} {w : World} (hL : Kd.C k39 w L l.length l) (hk : l.length ≤ k) (hb : Bytes l) {at_ : Int} {t : Int} (hlg : largeB l 5000 = false) (hck : checkM l = 0) (ht0 : t ≠ 0) {b : List Int} (hbb : putM l = b) {init : List S39} {s : S39} (hli : l = init ++ [s]) (hat : at_ < 0 ∨ 8 * ((s.f1.length : Int) + 4) - 32 < at_) :
    Calls Try.prog 7 #[.slice L l.length k, .int .i64 at_, .int .u32 t] w fun e w' => e = .returned (.bool true) ∧ Below w.heap.size w w' := by
  have HL := Aside0.mk hL
  have Hk := Aside0.mk hk
  have HBY := Aside0.mk hb
  have HLG := Aside0.mk hlg
  have HN := Aside0.mk (large_no hlg)
  have HCK := Aside0.mk hck
  have HF := Aside0.mk (check_ok hb hck)
  have HP := Aside0.mk hbb
  have HBR := Aside0.mk (show ∀ x ∈ b, 0 ≤ x ∧ x < 256 by rw [← hbb]; exact putM_range (good_of (check_ok hb hck).1))
  obtain ⟨n1, hn1⟩ : ∃ n, init.length = n := ⟨_, rfl⟩
  have hnl : l.length = n1 + 1 := by rw [hli, ← hn1]; simp
  obtain ⟨ad, x, A1, c1, hAd, hx, q0, q1, h4, h5⟩ := at_sec hL n1 (by omega)
  have hxs : s = x := by
    rw [hli, ← hn1] at hx
    simpa using hx
  subst hxs
  have hsl : s.f1.length ≤ 5000 := by have := (large_no hlg).2 s (by rw [hli]; simp); omega
  obtain ⟨y, hy⟩ : ∃ y, s.f1.length = y := ⟨_, rfl⟩
  rw [hy] at q1 hsl
  have hbl : b.length ≤ 90000 ∧ y + 4 ≤ b.length := by
    have h := secsB_le (M := 5000) (l := l) (fun z hz => ⟨hb z hz, by have := (large_no hlg).2 z hz; omega⟩)
    have hh : b.length = 5 + (secsB l).length := by rw [← hbb]; unfold putM; rw [List.length_append]; rfl
    have h2 := (check_ok hb hck).2
    have h3 : (secsB l).length = (secsB init).length + (secB s.f0 s.f1).length := by rw [hli, secsB_app, secsB_cons, List.length_append]; simp [secsB]
    have h6 := secB_len s.f0 s.f1
    have h7 := preB_length s.f0 s.f1
    rw [hy] at h7
    refine ⟨?_, by omega⟩
    have h8 : (5000 + 15) * l.length ≤ (5000 + 15) * 16 := Nat.mul_le_mul_left _ h2
    omega
  have HBL := Aside0.mk (show b.length ≤ 140737488351232 by omega)
  have d2 : (t == 0) = false := beq_eq_false_iff_ne.mpr ht0
  have d0 : ((l.length : Int) == 0) = false := beq_eq_false_iff_ne.mpr (by omega)
  have d0n : (l.length == 0) = false := beq_eq_false_iff_ne.mpr (by omega)
  obtain ⟨T, hT⟩ : ∃ T : Int, 8 * ((y : Int) + 4) = T := ⟨_, rfl⟩
  obtain ⟨T2, hT2⟩ : ∃ T2 : Int, T - 32 = T2 := ⟨_, rfl⟩
  have i1 : decide ((n1 : Int) < (l.length : Int)) = true := decide_eq_true (by omega)
  have i1n : decide (n1 < l.length) = true := decide_eq_true (by omega)
  have i0 : 0 ≤ (n1 : Int) := by omega
  have i2 : (n1 : Int) < (l.length : Int) := by omega
  have i2n : n1 < l.length := by omega
  have hu39 := Try.underlying39
  have HL := Aside0.mk hL
  have Hk := Aside0.mk hk
  have HQ1 := Aside0.mk q1
  have HAD := Aside0.mk hAd
  have HNL := Aside0.mk hnl
  rw [hy, hT, hT2] at hat
  subst hAd
  have w1_ : wrap64 ((l.length : Int) - 1) = (n1 : Int) := tw1 hnl (check_ok hb hck).2
  have w2_ : wrap64 ((y : Int) + 4) = (y : Int) + 4 := tw2 hsl
  have w3_ : wrap64 (8 * ((y : Int) + 4)) = T := tw3 hsl hT
  have w4_ : wrap64 (T - 32) = T2 := tw4 hsl hT hT2
  by_cases h5 : at_ < 0
  · have d5 : decide (at_ < 0) = true := decide_eq_true h5
    clear hL hk hb hlg hck ht0 hbb hli hat hx q0 q1 h4 h5 hy hsl hbl hnl hn1 hT hT2
    go_enter Try.func7, Try.ntmps7
    go_wp2_with (first
      | (go_at_call 8; (with_reducible refine (large_is HL.out Hk.out (by decide) HLG.out).mono ?_); rintro e w1 ⟨rfl, h3⟩; have B1 := Aside0.mk h3; have L1 := Aside0.mk (Kd.C_below HL.out h3); clear h3)
      | (go_at_call 11; (with_reducible refine (check_is L1.out Hk.out (by have := HN.out.1; omega) HCK.out).mono ?_); rintro e w2 ⟨rfl, h3⟩; have B2 := Aside0.mk (below_then B1.out B1.out.size h3); have L2 := Aside0.mk (Kd.C_below L1.out h3); clear h3)
      | (go_at_call 13; (with_reducible refine (rput_reads L2.out (by have := HF.out.2; omega) (good_of HF.out.1) HP.out).mono ?_); rintro e w3 ⟨⟨A5, c5, rfl, h1, h2⟩, h3⟩; have B3 := Aside0.mk (below_then B2.out B2.out.size h3); have L3 := Aside0.mk (Kd.C_below L2.out h3); have C5 := Aside0.mk h2; have c5l := Aside0.mk h1; clear h1 h2 h3; have q3 := (B3.out.cell (World.block_lt_of_cell? w _ HQ1.out)).trans HQ1.out)
      | (go_at_call 9; (with_reducible refine (lives_calls _).mono ?_); rintro e w4 ⟨rfl, h3⟩; have B4 := Aside0.mk (below_then B3.out B3.out.size h3); clear h3))
    go_ret
    exact ⟨rfl, B4.out⟩
  · have d5 : decide (at_ < 0) = false := decide_eq_false h5
    have d6 : decide (T2 < at_) = true := decide_eq_true (hat.resolve_left h5)
    clear hL hk hb hlg hck ht0 hbb hli hat hx q0 q1 h4 h5 hy hsl hbl hnl hn1 hT hT2
    go_enter Try.func7, Try.ntmps7
    go_wp2_with (first
      | (go_at_call 8; (with_reducible refine (large_is HL.out Hk.out (by decide) HLG.out).mono ?_); rintro e w1 ⟨rfl, h3⟩; have B1 := Aside0.mk h3; have L1 := Aside0.mk (Kd.C_below HL.out h3); clear h3)
      | (go_at_call 11; (with_reducible refine (check_is L1.out Hk.out (by have := HN.out.1; omega) HCK.out).mono ?_); rintro e w2 ⟨rfl, h3⟩; have B2 := Aside0.mk (below_then B1.out B1.out.size h3); have L2 := Aside0.mk (Kd.C_below L1.out h3); clear h3)
      | (go_at_call 13; (with_reducible refine (rput_reads L2.out (by have := HF.out.2; omega) (good_of HF.out.1) HP.out).mono ?_); rintro e w3 ⟨⟨A5, c5, rfl, h1, h2⟩, h3⟩; have B3 := Aside0.mk (below_then B2.out B2.out.size h3); have L3 := Aside0.mk (Kd.C_below L2.out h3); have C5 := Aside0.mk h2; have c5l := Aside0.mk h1; clear h1 h2 h3; have q3 := (B3.out.cell (World.block_lt_of_cell? w _ HQ1.out)).trans HQ1.out)
      | (go_at_call 9; (with_reducible refine (lives_calls _).mono ?_); rintro e w4 ⟨rfl, h3⟩; have B4 := Aside0.mk (below_then B3.out B3.out.size h3); clear h3))
    go_ret
    exact ⟨rfl, B4.out⟩
set_option maxHeartbeats 8000000 in
theorem turns_in {L : Option Addr} {k : Nat} {l : List S39} {w : World} (hL : Kd.C k39 w L l.length l) (hk : l.length ≤ k) (hb : Bytes l) {at_ : Int} {t : Int} (hlg : largeB l 5000 = false) (hck : checkM l = 0) (ht0 : t ≠ 0) {b : List Int} (hbb : putM l = b) {init : List S39} {s : S39} (hli : l = init ++ [s]) (hat : ¬ at_ < 0 ∧ ¬ 8 * ((s.f1.length : Int) + 4) - 32 < at_) (ht : 0 ≤ t ∧ t < 4294967296) :
    Calls Try.prog 7 #[.slice L l.length k, .int .i64 at_, .int .u32 t] w fun e w' => e = .returned (.bool true) ∧ Below w.heap.size w w' := by
  have HL := Aside0.mk hL
  have Hk := Aside0.mk hk
  have HBY := Aside0.mk hb
  have HLG := Aside0.mk hlg
  have HN := Aside0.mk (large_no hlg)
  have HCK := Aside0.mk hck
  have HF := Aside0.mk (check_ok hb hck)
  have HP := Aside0.mk hbb
  have HBR := Aside0.mk (show ∀ x ∈ b, 0 ≤ x ∧ x < 256 by rw [← hbb]; exact putM_range (good_of (check_ok hb hck).1))
  obtain ⟨n1, hn1⟩ : ∃ n, init.length = n := ⟨_, rfl⟩
  have hnl : l.length = n1 + 1 := by rw [hli, ← hn1]; simp
  obtain ⟨ad, x, A1, c1, hAd, hx, q0, q1, h4, h5⟩ := at_sec hL n1 (by omega)
  have hxs : s = x := by
    rw [hli, ← hn1] at hx
    simpa using hx
  subst hxs
  have hsl : s.f1.length ≤ 5000 := by have := (large_no hlg).2 s (by rw [hli]; simp); omega
  obtain ⟨y, hy⟩ : ∃ y, s.f1.length = y := ⟨_, rfl⟩
  rw [hy] at q1 hsl
  have hbl : b.length ≤ 90000 ∧ y + 4 ≤ b.length := by
    have h := secsB_le (M := 5000) (l := l) (fun z hz => ⟨hb z hz, by have := (large_no hlg).2 z hz; omega⟩)
    have hh : b.length = 5 + (secsB l).length := by rw [← hbb]; unfold putM; rw [List.length_append]; rfl
    have h2 := (check_ok hb hck).2
    have h3 : (secsB l).length = (secsB init).length + (secB s.f0 s.f1).length := by rw [hli, secsB_app, secsB_cons, List.length_append]; simp [secsB]
    have h6 := secB_len s.f0 s.f1
    have h7 := preB_length s.f0 s.f1
    rw [hy] at h7
    refine ⟨?_, by omega⟩
    have h8 : (5000 + 15) * l.length ≤ (5000 + 15) * 16 := Nat.mul_le_mul_left _ h2
    omega
  have HBL := Aside0.mk (show b.length ≤ 140737488351232 by omega)
  have d2 : (t == 0) = false := beq_eq_false_iff_ne.mpr ht0
  have d0 : ((l.length : Int) == 0) = false := beq_eq_false_iff_ne.mpr (by omega)
  have d0n : (l.length == 0) = false := beq_eq_false_iff_ne.mpr (by omega)
  obtain ⟨T, hT⟩ : ∃ T : Int, 8 * ((y : Int) + 4) = T := ⟨_, rfl⟩
  obtain ⟨T2, hT2⟩ : ∃ T2 : Int, T - 32 = T2 := ⟨_, rfl⟩
  have i1 : decide ((n1 : Int) < (l.length : Int)) = true := decide_eq_true (by omega)
  have i1n : decide (n1 < l.length) = true := decide_eq_true (by omega)
  have i0 : 0 ≤ (n1 : Int) := by omega
  have i2 : (n1 : Int) < (l.length : Int) := by omega
  have i2n : n1 < l.length := by omega
  have hu39 := Try.underlying39
  have HL := Aside0.mk hL
  have Hk := Aside0.mk hk
  have HQ1 := Aside0.mk q1
  have HAD := Aside0.mk hAd
  have HNL := Aside0.mk hnl
  obtain ⟨an, rfl⟩ : ∃ n : Nat, at_ = (n : Int) := ⟨at_.toNat, by omega⟩
  obtain ⟨tn, rfl⟩ : ∃ n : Nat, t = (n : Int) := ⟨t.toNat, by omega⟩
  rw [hy] at hat
  have d5 : decide ((an : Int) < 0) = false := decide_eq_false hat.1
  have d6 : decide (T2 < (an : Int)) = false := decide_eq_false (by omega)
  obtain ⟨X, hX⟩ : ∃ X : Int, 8 * (b.length : Int) = X := ⟨_, rfl⟩
  obtain ⟨Y, hY⟩ : ∃ Y : Int, X - T = Y := ⟨_, rfl⟩
  obtain ⟨Z, hZ⟩ : ∃ Z : Nat, 8 * (b.length - (y + 4)) + an = Z := ⟨_, rfl⟩
  obtain ⟨r, ⟨hr1, hr2, hr3⟩, hr4⟩ := turn_fix HBR.out (by omega) Z tn (by omega) (by omega)
  obtain ⟨M, kk, e0, hM⟩ : ∃ M k e0, getMM r = (M, k, e0) := ⟨_, _, _, rfl⟩
  have he : e0 = 42 := by
    have hF := check_ok hb hck
    have hbb2 : putM (init ++ [s]) = b := by rw [← hli]; exact hbb
    have h := get_turned (l := init) (s := s) (r := r) (at_ := an) (t := tn) (by rw [← hli]; exact hF.1) (by have h1 := hF.2; omega) hr2 (by rw [hbb2]; exact hr1) (by rw [hy]; omega) (by omega) (by omega) (by rw [hbb2, hy, hZ]; exact hr3)
    rw [hM] at h
    exact h
  subst he
  have HM := Aside0.mk hM
  have HR2 := Aside0.mk hr2
  have HRL := Aside0.mk (show r.length ≤ 140737488351232 by omega)
  have HTF := Aside0.mk hr4
  subst hAd
  have w1_ : wrap64 ((l.length : Int) - 1) = (n1 : Int) := tw1 hnl (check_ok hb hck).2
  have w2_ : wrap64 ((y : Int) + 4) = (y : Int) + 4 := tw2 hsl
  have w3_ : wrap64 (8 * ((y : Int) + 4)) = T := tw3 hsl hT
  have w4_ : wrap64 (T - 32) = T2 := tw4 hsl hT hT2
  have w5_ : wrap64 (8 * (b.length : Int)) = X := tw5 hbl.1 hX
  have w6_ : wrap64 (X - T) = Y := tw6 hbl.1 hX hsl hT hY
  have w7_ : wrap64 (Y + (an : Int)) = (Z : Int) := tw7 hbl hX hsl hT hY hZ hat.2
  clear hL hk hb hlg hck ht0 hbb hli hat hx q0 q1 h4 h5 hy hsl hbl hnl hn1 hT hT2 hX hY hZ hr1 hr2 hr3 hr4 hM ht
  go_enter Try.func7, Try.ntmps7
  go_wp2_with (first
    | (go_at_call 8; (with_reducible refine (large_is HL.out Hk.out (by decide) HLG.out).mono ?_); rintro e w1 ⟨rfl, h3⟩; have B1 := Aside0.mk h3; have L1 := Aside0.mk (Kd.C_below HL.out h3); clear h3)
    | (go_at_call 11; (with_reducible refine (check_is L1.out Hk.out (by have := HN.out.1; omega) HCK.out).mono ?_); rintro e w2 ⟨rfl, h3⟩; have B2 := Aside0.mk (below_then B1.out B1.out.size h3); have L2 := Aside0.mk (Kd.C_below L1.out h3); clear h3)
    | (go_at_call 13; (with_reducible refine (rput_reads L2.out (by have := HF.out.2; omega) (good_of HF.out.1) HP.out).mono ?_); rintro e w3 ⟨⟨A5, c5, rfl, h1, h2⟩, h3⟩; have B3 := Aside0.mk (below_then B2.out B2.out.size h3); have L3 := Aside0.mk (Kd.C_below L2.out h3); have C5 := Aside0.mk h2; have c5l := Aside0.mk h1; clear h1 h2 h3; have q3 := (B3.out.cell (World.block_lt_of_cell? w _ HQ1.out)).trans HQ1.out)
    | (go_at_call 18; (with_reducible refine (HTF.out _ _ _ C5.out c5l.out).mono ?_); rintro e w4 ⟨⟨A8, c8, rfl, h1, h2⟩, h3⟩; have B4 := Aside0.mk (below_then B3.out B3.out.size h3); have C8 := Aside0.mk h2; have c8l := Aside0.mk h1; clear h1 h2 h3)
    | (go_at_call 12; (with_reducible refine (get_reads C8.out c8l.out HR2.out HRL.out HM.out).mono ?_); rintro e w5 ⟨⟨A9, c9, rfl, h1, h2⟩, h3⟩; have B5 := Aside0.mk (below_then B4.out B4.out.size h3); clear h1 h2 h3)
    | (go_at_call 9; (with_reducible refine (lives_calls _).mono ?_); rintro e w6 ⟨rfl, h3⟩; have B6 := Aside0.mk (below_then B5.out B5.out.size h3); clear h3))
  go_ret
  exact ⟨by first | rfl | simp, B6.out⟩
theorem turns_law {L : Option Addr} {k : Nat} {l : List S39} {w : World} (hL : Kd.C k39 w L l.length l) (hk : l.length ≤ k) (hb : Bytes l) (at_ : Int) (hat_ : -9223372036854775808 ≤ at_ ∧ at_ < 9223372036854775808) (t : Int) (ht : (Lit.int .u32 t).wf = true) :
    Calls Try.prog 7 #[.slice L l.length k, .int .i64 at_, .int .u32 t] w fun e w' => e = .returned (.bool true) ∧ Below w.heap.size w w' := by
  have ht : 0 ≤ t ∧ t < 4294967296 := by
    simp only [Lit.wf, Bool.and_eq_true, decide_eq_true_eq] at ht
    have h1 : IntKind.u32.min = 0 := rfl
    have h2 : IntKind.u32.max = 4294967295 := rfl
    omega
  by_cases h0 : l.length = 0
  · exact turns_nil hL hk hb at_ t h0
  cases hlg : largeB l 5000 with
  | true => exact turns_large hL hk hb at_ t h0 hlg
  | false =>
    by_cases hck : checkM l = 0
    · by_cases ht0 : t = 0
      · exact turns_none hL hk hb at_ h0 hlg hck ht0
      · have hli : l = l.dropLast ++ [l.getLast (fun e => h0 (by rw [e]; rfl))] := (List.dropLast_concat_getLast _).symm
        by_cases h5 : at_ < 0 ∨ 8 * (((l.getLast (fun e => h0 (by rw [e]; rfl))).f1.length : Int) + 4) - 32 < at_
        · exact turns_out hL hk hb hlg hck ht0 rfl hli h5
        · exact turns_in hL hk hb hlg hck ht0 rfl hli ⟨fun h => h5 (.inl h), fun h => h5 (.inr h)⟩ ht
    · exact turns_check hL hk hb at_ t h0 hlg rfl hck
end Go.Proofs.Ytnohflfpahokiaa.Sec
