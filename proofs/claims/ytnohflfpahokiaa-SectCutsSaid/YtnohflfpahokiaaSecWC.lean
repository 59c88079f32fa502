/- SectCuts, walked: bytes of sections that are cut off. -/
import Derived.Test.YtnohflfpahokiaaSecWP
set_option linter.unusedVariables false
set_option linter.unusedSimpArgs false
set_option maxRecDepth 20000
namespace Go.Proofs.Ytnohflfpahokiaa.Sec
open Go Go.RowKit Go.Proofs.YtnohflfpahokiaaW.PrintWords Go.Proofs.YtnohflfpahokiaaW.PrintLast Go.Proofs.Ytnohflfpahokiaa.LebM Go.Proofs.Ytnohflfpahokiaa.Leb
open Go.Proofs.Ytnohflfpahokiaa.PAll (S39 k39 z39 rd_T39 at_T39)
open Go.Proofs.Ytnohflfpahokiaa.Rd (info5)
open Go.Proofs.Ytnohflfpahokiaa.Crc (sumI sumI_range)
open Go.Proofs.Ytnohflfpahokiaa.Head (head5)

theorem C_takeB {w : World} {A : Option Addr} {c : Nat} {b : List Int} (hC : (Kd.int .u8).C w A b.length b) (hc : b.length ≤ c) {m : Nat} (hm : m ≤ b.length) : (Kd.int .u8).C w A (b.take m).length (b.take m) := by
  obtain ⟨i0, hi, hzz⟩ := Option.map_eq_some_iff.1 info5
  simp only [Prod.mk.injEq] at hzz
  have h := (print_take_int (P := Try.prog) (k := .u8) 25 5 Try.underlying25 hi hzz.2.1 A c b (m : Int) (by omega) (by omega) hc).2.1 w (Kd.reads_of_C (enc := Value.int .u8) (d := (0 : Int)) (h1 := fun _ => rfl) hC)
  rw [Int.toNat_natCast] at h
  exact Kd.C_of_reads (enc := Value.int .u8) (d := (0 : Int)) (h1 := fun _ => rfl) h
theorem C_take39 {w : World} {A : Option Addr} {l : List S39} (hC : Kd.C k39 w A l.length l) {m : Nat} (hm : m ≤ l.length) : Kd.C k39 w A (l.take m).length (l.take m) := by
  have hl : (l.take m).length = m := by rw [List.length_take]; omega
  refine ⟨rfl, by have := hC.2.1; omega, fun h0 => ?_⟩
  obtain ⟨ad, hA, hx⟩ := hC.2.2 (by omega)
  refine ⟨ad, hA, fun j p hj => hx j p ?_⟩
  rw [List.getElem?_take] at hj
  split at hj
  · exact hj
  · cases hj
theorem get_take {A : Option Addr} {c : Nat} {b : List Int} {w : World} (hC : (Kd.int .u8).C w A b.length b) (hc : b.length ≤ c) (hb : ∀ x ∈ b, 0 ≤ x ∧ x < 256) (hl : b.length ≤ 140737488351232) {m : Nat} (hm : m ≤ b.length) {M : List S39} {k e0 : Int} (h : getMM (b.take m) = (M, k, e0)) :
    Calls Try.prog 12 #[.slice A m c] w fun e w' => (∃ A c, e = .returned (.tuple #[.slice A M.length c, .int .i64 k, .int .i64 e0]) ∧ M.length ≤ c ∧ Kd.C k39 w' A M.length M) ∧ Below w.heap.size w w' := by
  have hlen : (b.take m).length = m := by rw [List.length_take]; omega
  have h2 := get_reads (C_takeB hC hc hm) (c := c) (by omega) (fun x hx => hb x (List.mem_of_mem_take hx)) (by omega) h
  rw [hlen] at h2
  exact h2
theorem rput_take {L : Option Addr} {k : Nat} {l : List S39} {w : World} (hL : Kd.C k39 w L l.length l) (hn : l.length ≤ 1000) (hg : Good l) {m q : Nat} (hm : m ≤ l.length) (hq : (putM (l.take m)).length = q) :
    Calls Try.prog 13 #[.slice L m k] w fun e w' => (∃ A c, e = .returned (.slice A q c)) ∧ Below w.heap.size w w' := by
  have hlen : (l.take m).length = m := by rw [List.length_take]; omega
  have h2 := rput_reads (k := k) (C_take39 hL hm) (by omega) (good_take hg m) rfl
  rw [hlen, hq] at h2
  exact h2.mono fun e w' h => ⟨⟨_, _, h.1.choose_spec.choose_spec.1⟩, h.2⟩
theorem rsame_take {A L : Option Addr} {c k q : Nat} {l M : List S39} {w : World} (hA : Kd.C k39 w A M.length M) (hc : M.length ≤ c) (hL : Kd.C k39 w L l.length l) (hk : l.length ≤ k) (hn : l.length ≤ 20) (hb : Bytes l) {m : Nat} (hm : m ≤ l.length) (hM : M = l.take m) :
    Calls Try.prog 14 #[.slice A M.length c, .slice L m k] w fun e w' => e = .returned (.bool true) ∧ Below w.heap.size w w' := by
  subst hM
  have hlen : (l.take m).length = m := by rw [List.length_take]; omega
  have h2 := rsame_self (l := l.take m) hA hc (C_take39 hL hm) (d := k) (by omega) (by omega) (fun s hs => hb s (List.mem_of_mem_take hs))
  rw [hlen] at h2
  rw [hlen]
  exact h2
theorem len_lt {l : List S39} {j k : Nat} (h : j < k) (hk : k ≤ l.length) : (putM (l.take j)).length < (putM (l.take k)).length := by
  have e : l.take k = l.take j ++ (l.drop j).take (k - j) := by
    rw [← List.take_append_drop j (l.take k), List.take_take, List.drop_take, Nat.min_eq_left (by omega)]
  have hp : ∀ a : List S39, (putM a).length = 5 + (secsB a).length := fun a => by unfold putM; rw [List.length_append]; rfl
  rw [hp, hp, e, secsB_app, List.length_append]
  have h1 : 0 < ((l.drop j).take (k - j)).length := by rw [List.length_take, List.length_drop]; omega
  cases hd : (l.drop j).take (k - j) with
  | nil => rw [hd] at h1; simp at h1
  | cons s r =>
    rw [secsB_cons, List.length_append]
    have := secB_pos s.f0 s.f1
    omega
set_option maxHeartbeats 8000000 in
theorem cuts_large {L : Option Addr} {k : Nat} {l : List S39} {w : World} (hL : Kd.C k39 w L l.length l) (hk : l.length ≤ k) (hb : Bytes l) (n : Int) (hlg : largeB l 5000 = true) :
    Calls Try.prog 6 #[.slice L l.length k, .int .i64 n] w fun e w' => e = .returned (.bool true) ∧ Below w.heap.size w w' := by
  have HL := Aside0.mk hL
  have Hk := Aside0.mk hk
  have HBY := Aside0.mk hb
  have HLG := Aside0.mk hlg
  clear hL hk hb hlg
  go_enter Try.func6, Try.ntmps6
  go_wp2_with (first
    | (go_at_call 8; (with_reducible refine (large_is HL.out Hk.out (by decide) HLG.out).mono ?_); rintro e w1 ⟨rfl, h3⟩; have B1 := Aside0.mk h3; have L1 := Aside0.mk (Kd.C_below HL.out h3); clear h3)
    | (go_at_call 9; (with_reducible refine (lives_calls _).mono ?_); rintro e w2 ⟨rfl, h3⟩; have B2 := Aside0.mk (below_then B1.out B1.out.size h3); clear h3))
  go_ret
  exact ⟨rfl, B2.out⟩
set_option maxHeartbeats 8000000 in
theorem cuts_check {L : Option Addr} {k : Nat} {l : List S39} {w : World} (hL : Kd.C k39 w L l.length l) (hk : l.length ≤ k) (hb : Bytes l) (n : Int) (hlg : largeB l 5000 = false) {ck : Int} (hck : checkM l = ck) (h0 : ck ≠ 0) :
    Calls Try.prog 6 #[.slice L l.length k, .int .i64 n] w fun e w' => e = .returned (.bool true) ∧ Below w.heap.size w w' := by
  have HL := Aside0.mk hL
  have Hk := Aside0.mk hk
  have HBY := Aside0.mk hb
  have HLG := Aside0.mk hlg
  have HN := Aside0.mk (large_no hlg)
  have HCK := Aside0.mk hck
  have d1 : (ck != 0) = true := bne_iff_ne.mpr h0
  clear hL hk hb hlg hck h0
  go_enter Try.func6, Try.ntmps6
  go_wp2_with (first
    | (go_at_call 8; (with_reducible refine (large_is HL.out Hk.out (by decide) HLG.out).mono ?_); rintro e w1 ⟨rfl, h3⟩; have B1 := Aside0.mk h3; have L1 := Aside0.mk (Kd.C_below HL.out h3); clear h3)
    | (go_at_call 11; (with_reducible refine (check_is L1.out Hk.out (by have := HN.out.1; omega) HCK.out).mono ?_); rintro e w2 ⟨rfl, h3⟩; have B2 := Aside0.mk (below_then B1.out B1.out.size h3); have L2 := Aside0.mk (Kd.C_below L1.out h3); clear h3)
    | (go_at_call 9; (with_reducible refine (lives_calls _).mono ?_); rintro e w3 ⟨rfl, h3⟩; have B3 := Aside0.mk (below_then B2.out B2.out.size h3); clear h3))
  go_ret
  exact ⟨rfl, B3.out⟩
set_option maxHeartbeats 8000000 in
theorem cuts_out {L : Option Addr} {k : Nat} {l : List S39} {w : World} (hL : Kd.C k39 w L l.length l) (hk : l.length ≤ k) (hb : Bytes l) (n : Int) (hlg : largeB l 5000 = false) (hck : checkM l = 0) {b : List Int} (hbb : putM l = b) (hn : n < 5 ∨ (b.length : Int) ≤ n) :
    Calls Try.prog 6 #[.slice L l.length k, .int .i64 n] w fun e w' => e = .returned (.bool true) ∧ Below w.heap.size w w' := by
  have HL := Aside0.mk hL
  have Hk := Aside0.mk hk
  have HBY := Aside0.mk hb
  have HLG := Aside0.mk hlg
  have HN := Aside0.mk (large_no hlg)
  have HCK := Aside0.mk hck
  have HF := Aside0.mk (check_ok hb hck)
  have HP := Aside0.mk hbb
  have HBR := Aside0.mk (show ∀ x ∈ b, 0 ≤ x ∧ x < 256 by rw [← hbb]; exact putM_range (good_of (check_ok hb hck).1))
  have HBL := Aside0.mk (show b.length ≤ 140737488351232 by
    have h := putM_length (good_of (check_ok hb hck).1)
    have h2 := (check_ok hb hck).2
    rw [hbb] at h
    omega)
  clear hL hk hb hlg hck hbb
  by_cases h5 : n < 5
  · have d1 : decide (n < 5) = true := decide_eq_true h5
    clear hn h5
    go_enter Try.func6, Try.ntmps6
    go_wp2_with (first
      | (go_at_call 8; (with_reducible refine (large_is HL.out Hk.out (by decide) HLG.out).mono ?_); rintro e w1 ⟨rfl, h3⟩; have B1 := Aside0.mk h3; have L1 := Aside0.mk (Kd.C_below HL.out h3); clear h3)
      | (go_at_call 11; (with_reducible refine (check_is L1.out Hk.out (by have := HN.out.1; omega) HCK.out).mono ?_); rintro e w2 ⟨rfl, h3⟩; have B2 := Aside0.mk (below_then B1.out B1.out.size h3); have L2 := Aside0.mk (Kd.C_below L1.out h3); clear h3)
      | (go_at_call 13; (with_reducible refine (rput_reads L2.out (by have := HF.out.2; omega) (good_of HF.out.1) HP.out).mono ?_); rintro e w3 ⟨⟨A5, c5, rfl, h1, h2⟩, h3⟩; have B3 := Aside0.mk (below_then B2.out B2.out.size h3); have L3 := Aside0.mk (Kd.C_below L2.out h3); have C5 := Aside0.mk h2; have c5l := Aside0.mk h1; clear h1 h2 h3)
      | (go_at_call 9; (with_reducible refine (lives_calls _).mono ?_); rintro e w4 ⟨rfl, h3⟩; have B4 := Aside0.mk (below_then B3.out B3.out.size h3); clear h3))
    go_ret
    exact ⟨rfl, B4.out⟩
  · have d1 : decide (n < 5) = false := decide_eq_false h5
    have d2 : decide ((b.length : Int) ≤ n) = true := decide_eq_true (by rcases hn with h | h; (exact absurd h h5); exact h)
    clear hn h5
    go_enter Try.func6, Try.ntmps6
    go_wp2_with (first
      | (go_at_call 8; (with_reducible refine (large_is HL.out Hk.out (by decide) HLG.out).mono ?_); rintro e w1 ⟨rfl, h3⟩; have B1 := Aside0.mk h3; have L1 := Aside0.mk (Kd.C_below HL.out h3); clear h3)
      | (go_at_call 11; (with_reducible refine (check_is L1.out Hk.out (by have := HN.out.1; omega) HCK.out).mono ?_); rintro e w2 ⟨rfl, h3⟩; have B2 := Aside0.mk (below_then B1.out B1.out.size h3); have L2 := Aside0.mk (Kd.C_below L1.out h3); clear h3)
      | (go_at_call 13; (with_reducible refine (rput_reads L2.out (by have := HF.out.2; omega) (good_of HF.out.1) HP.out).mono ?_); rintro e w3 ⟨⟨A5, c5, rfl, h1, h2⟩, h3⟩; have B3 := Aside0.mk (below_then B2.out B2.out.size h3); have L3 := Aside0.mk (Kd.C_below L2.out h3); have C5 := Aside0.mk h2; have c5l := Aside0.mk h1; clear h1 h2 h3)
      | (go_at_call 9; (with_reducible refine (lives_calls _).mono ?_); rintro e w4 ⟨rfl, h3⟩; have B4 := Aside0.mk (below_then B3.out B3.out.size h3); clear h3))
    go_ret
    exact ⟨rfl, B4.out⟩
set_option maxHeartbeats 8000000 in
theorem cuts_in {L : Option Addr} {k : Nat} {l : List S39} {w : World} (hL : Kd.C k39 w L l.length l) (hk : l.length ≤ k) (hb : Bytes l) (hlg : largeB l 5000 = false) (hck : checkM l = 0) {b : List Int} (hbb : putM l = b) {m : Nat} (h5 : 5 ≤ m) (hmb : m < b.length) {M : List S39} {z : Int} (hgm : getMM (b.take m) = (M, z, 0)) {k0 : Nat} (hk0 : k0 < l.length ∧ (putM (l.take k0)).length = m ∧ M = l.take k0) :
    Calls Try.prog 6 #[.slice L l.length k, .int .i64 ((m : Nat) : Int)] w fun e w' => e = .returned (.bool true) ∧ Below w.heap.size w w' := by
  have HL := Aside0.mk hL
  have Hk := Aside0.mk hk
  have HBY := Aside0.mk hb
  have HLG := Aside0.mk hlg
  have HN := Aside0.mk (large_no hlg)
  have HCK := Aside0.mk hck
  have HF := Aside0.mk (check_ok hb hck)
  have HP := Aside0.mk hbb
  have HBR := Aside0.mk (show ∀ x ∈ b, 0 ≤ x ∧ x < 256 by rw [← hbb]; exact putM_range (good_of (check_ok hb hck).1))
  have HBL := Aside0.mk (show b.length ≤ 140737488351232 by
    have h := putM_length (good_of (check_ok hb hck).1)
    have h2 := (check_ok hb hck).2
    rw [hbb] at h
    omega)
  have HMB := Aside0.mk hmb
  have H5 := Aside0.mk h5
  have HGM := Aside0.mk hgm
  have d1 : decide (((m : Nat) : Int) < 5) = false := decide_eq_false (by omega)
  have d1n : decide (m < 5) = false := decide_eq_false (by omega)
  have d2 : decide ((b.length : Int) ≤ ((m : Nat) : Int)) = false := decide_eq_false (by omega)
  have d2n : decide (b.length ≤ m) = false := decide_eq_false (by omega)
  have p0 : 0 ≤ ((m : Nat) : Int) := by omega
  have HK0 := Aside0.mk hk0
  clear hk0
  clear hL hk hb hlg hck hbb hmb h5 hgm
  go_enter Try.func6, Try.ntmps6
  go_wp2_with (first
    | (go_at_call 8; (with_reducible refine (large_is HL.out Hk.out (by decide) HLG.out).mono ?_); rintro e w1 ⟨rfl, h3⟩; have B1 := Aside0.mk h3; have L1 := Aside0.mk (Kd.C_below HL.out h3); clear h3)
    | (go_at_call 11; (with_reducible refine (check_is L1.out Hk.out (by have := HN.out.1; omega) HCK.out).mono ?_); rintro e w2 ⟨rfl, h3⟩; have B2 := Aside0.mk (below_then B1.out B1.out.size h3); have L2 := Aside0.mk (Kd.C_below L1.out h3); clear h3)
    | (go_at_call 13; (with_reducible refine (rput_reads L2.out (by have := HF.out.2; omega) (good_of HF.out.1) HP.out).mono ?_); rintro e w3 ⟨⟨A5, c5, rfl, h1, h2⟩, h3⟩; have B3 := Aside0.mk (below_then B2.out B2.out.size h3); have L3 := Aside0.mk (Kd.C_below L2.out h3); have C5 := Aside0.mk h2; have c5l := Aside0.mk h1; clear h1 h2 h3; have p3 : ((m : Nat) : Int) ≤ (c5 : Int) := (by have := c5l.out; have := HMB.out; omega); have p3n : m ≤ c5 := (by have := c5l.out; have := HMB.out; omega))
    | (go_at_call 12; (with_reducible refine (get_take C5.out c5l.out HBR.out HBL.out (by have := HMB.out; omega) HGM.out).mono ?_); rintro e w4 ⟨⟨A6, c6, rfl, h1, h2⟩, h3⟩; have B4 := Aside0.mk (below_then B3.out B3.out.size h3); have L4 := Aside0.mk (Kd.C_below L3.out h3); have M4 := Aside0.mk h2; have c6l := Aside0.mk h1; clear h1 h2 h3))
  go_loopg [9] l.length (fun gk v9 w' => ∃ j : Nat, v9 = .int .i64 (j : Int) ∧ Aside0 (j + gk = l.length) ∧ Aside0 (j ≤ k0) ∧ Aside0 (Below w4.heap.size w4 w'))
  case atStart => exact ⟨0, rfl, ⟨by omega⟩, ⟨Nat.zero_le _⟩, ⟨Below.refl _ _⟩⟩
  case round =>
    obtain ⟨j, rfl, HJ, HZ, HBl⟩ := hrel
    have BW := Aside0.mk (below_then B4.out B4.out.size HBl.out)
    have LW := Aside0.mk (Kd.C_below L4.out HBl.out)
    by_cases hj : j < l.length
    · have HJ2 := Aside0.mk hj
      have e1 : decide ((j : Int) < (l.length : Int)) = true := decide_eq_true (by omega)
      have e1n : decide (j < l.length) = true := decide_eq_true hj
      have p1 : 0 ≤ (j : Int) := by omega
      have p2 : (j : Int) ≤ (k : Int) := by have := Hk.out; omega
      have p2n : j ≤ k := by have := Hk.out; omega
      have hw : wrap64 ((j : Int) + 1) = ((j + 1 : Nat) : Int) := by unfold wrap64; have := HN.out.1; omega
      have HW := Aside0.mk hw
      obtain ⟨q, hq⟩ : ∃ q, (putM (l.take j)).length = q := ⟨_, rfl⟩
      have HQ := Aside0.mk hq
      clear hj hq
      by_cases hqm : q = m
      · have HJK := Aside0.mk (show j = k0 by
          have h1 := HZ.out
          rcases Nat.lt_or_ge j k0 with h2 | h2
          · have h3 := len_lt (l := l) h2 (by have := HK0.out.1; omega)
            have h4 := HQ.out
            have h5 := HK0.out.2.1
            omega
          · omega)
        have f5 : ((q : Int) == ((m : Nat) : Int)) = true := by rw [hqm]; simp
        have f5n : (q == m) = true := by rw [hqm]; simp
        clear hqm
        go_wp2_with (first
          | (go_at_call 13; (with_reducible refine (rput_take LW.out (by have := HN.out.1; omega) (good_of HF.out.1) (by have := HJ2.out; omega) HQ.out).mono ?_); rintro e w5 ⟨⟨A7, c7, rfl⟩, h3⟩; have B5 := Aside0.mk (below_then HBl.out HBl.out.size h3); have BB5 := Aside0.mk (below_then BW.out BW.out.size h3); clear h3)
          | (go_at_call 9; (with_reducible refine (lives_calls _).mono ?_); rintro e w6 ⟨rfl, h3⟩; have B6 := Aside0.mk (below_then B5.out B5.out.size h3); have BB6 := Aside0.mk (below_then BB5.out BB5.out.size h3); clear h3)
          | (go_at_call 14; (with_reducible refine (rsame_take (q := 0) (Kd.C_below M4.out B6.out) c6l.out (Kd.C_below L4.out B6.out) Hk.out HN.out.1 HBY.out (by have := HJ2.out; omega) (by rw [HJK.out]; exact HK0.out.2.2)).mono ?_); rintro e w7 ⟨rfl, h3⟩; have BB7 := Aside0.mk (below_then BB6.out BB6.out.size h3); clear h3))
        go_ret
        exact ⟨by first | rfl | simp, BB7.out⟩
      · skip
        have f5 : ((q : Int) == ((m : Nat) : Int)) = false := beq_eq_false_iff_ne.mpr (by omega)
        have f5n : (q == m) = false := beq_eq_false_iff_ne.mpr hqm
        have HQM := Aside0.mk hqm
        clear hqm
        go_wp2_with (go_at_call 13; (with_reducible refine (rput_take LW.out (by have := HN.out.1; omega) (good_of HF.out.1) (by have := HJ2.out; omega) HQ.out).mono ?_); rintro e w5 ⟨⟨A7, c7, rfl⟩, h3⟩; have B5 := Aside0.mk (below_then HBl.out HBl.out.size h3); have BB5 := Aside0.mk (below_then BW.out BW.out.size h3); clear h3)
        go_roundg (gk - 1)
        case measure => have := HJ.out; have := HJ2.out; omega
        case rel => exact ⟨j + 1, by first | rw [HW.out] | go_num, ⟨by have := HJ.out; have := HJ2.out; omega⟩, ⟨by have h1 := HZ.out; have h2 := HQ.out; have h3 := HK0.out.2.1; have h4 := HQM.out; rcases Nat.lt_or_ge j k0 with h5 | h5; (omega); (have : j = k0 := by omega); subst this; omega⟩, B5⟩
    · have e1 : decide ((j : Int) < (l.length : Int)) = false := decide_eq_false (by omega)
      have e1n : decide (j < l.length) = false := decide_eq_false hj
      have hjl : j = l.length := by have := HJ.out; omega
      exact absurd HZ.out (by have := HK0.out.1; omega)
set_option maxHeartbeats 8000000 in
theorem cuts_not {L : Option Addr} {k : Nat} {l : List S39} {w : World} (hL : Kd.C k39 w L l.length l) (hk : l.length ≤ k) (hb : Bytes l) (hlg : largeB l 5000 = false) (hck : checkM l = 0) {b : List Int} (hbb : putM l = b) {m : Nat} (h5 : 5 ≤ m) (hmb : m < b.length) {z : Int} (hgm : getMM (b.take m) = ([], z, 10)) (hnk : ∀ k, k < l.length → (putM (l.take k)).length ≠ m) :
    Calls Try.prog 6 #[.slice L l.length k, .int .i64 ((m : Nat) : Int)] w fun e w' => e = .returned (.bool true) ∧ Below w.heap.size w w' := by
  have HL := Aside0.mk hL
  have Hk := Aside0.mk hk
  have HBY := Aside0.mk hb
  have HLG := Aside0.mk hlg
  have HN := Aside0.mk (large_no hlg)
  have HCK := Aside0.mk hck
  have HF := Aside0.mk (check_ok hb hck)
  have HP := Aside0.mk hbb
  have HBR := Aside0.mk (show ∀ x ∈ b, 0 ≤ x ∧ x < 256 by rw [← hbb]; exact putM_range (good_of (check_ok hb hck).1))
  have HBL := Aside0.mk (show b.length ≤ 140737488351232 by
    have h := putM_length (good_of (check_ok hb hck).1)
    have h2 := (check_ok hb hck).2
    rw [hbb] at h
    omega)
  have HMB := Aside0.mk hmb
  have H5 := Aside0.mk h5
  have HGM := Aside0.mk hgm
  have d1 : decide (((m : Nat) : Int) < 5) = false := decide_eq_false (by omega)
  have d1n : decide (m < 5) = false := decide_eq_false (by omega)
  have d2 : decide ((b.length : Int) ≤ ((m : Nat) : Int)) = false := decide_eq_false (by omega)
  have d2n : decide (b.length ≤ m) = false := decide_eq_false (by omega)
  have p0 : 0 ≤ ((m : Nat) : Int) := by omega
  have HNK := Aside0.mk hnk
  clear hnk
  clear hL hk hb hlg hck hbb hmb h5 hgm
  go_enter Try.func6, Try.ntmps6
  go_wp2_with (first
    | (go_at_call 8; (with_reducible refine (large_is HL.out Hk.out (by decide) HLG.out).mono ?_); rintro e w1 ⟨rfl, h3⟩; have B1 := Aside0.mk h3; have L1 := Aside0.mk (Kd.C_below HL.out h3); clear h3)
    | (go_at_call 11; (with_reducible refine (check_is L1.out Hk.out (by have := HN.out.1; omega) HCK.out).mono ?_); rintro e w2 ⟨rfl, h3⟩; have B2 := Aside0.mk (below_then B1.out B1.out.size h3); have L2 := Aside0.mk (Kd.C_below L1.out h3); clear h3)
    | (go_at_call 13; (with_reducible refine (rput_reads L2.out (by have := HF.out.2; omega) (good_of HF.out.1) HP.out).mono ?_); rintro e w3 ⟨⟨A5, c5, rfl, h1, h2⟩, h3⟩; have B3 := Aside0.mk (below_then B2.out B2.out.size h3); have L3 := Aside0.mk (Kd.C_below L2.out h3); have C5 := Aside0.mk h2; have c5l := Aside0.mk h1; clear h1 h2 h3; have p3 : ((m : Nat) : Int) ≤ (c5 : Int) := (by have := c5l.out; have := HMB.out; omega); have p3n : m ≤ c5 := (by have := c5l.out; have := HMB.out; omega))
    | (go_at_call 12; (with_reducible refine (get_take C5.out c5l.out HBR.out HBL.out (by have := HMB.out; omega) HGM.out).mono ?_); rintro e w4 ⟨⟨A6, c6, rfl, h1, h2⟩, h3⟩; have B4 := Aside0.mk (below_then B3.out B3.out.size h3); have L4 := Aside0.mk (Kd.C_below L3.out h3); have M4 := Aside0.mk h2; have c6l := Aside0.mk h1; clear h1 h2 h3))
  go_loopg [9] l.length (fun gk v9 w' => ∃ j : Nat, v9 = .int .i64 (j : Int) ∧ Aside0 (j + gk = l.length) ∧ Aside0 (True) ∧ Aside0 (Below w4.heap.size w4 w'))
  case atStart => exact ⟨0, rfl, ⟨by omega⟩, ⟨trivial⟩, ⟨Below.refl _ _⟩⟩
  case round =>
    obtain ⟨j, rfl, HJ, HZ, HBl⟩ := hrel
    have BW := Aside0.mk (below_then B4.out B4.out.size HBl.out)
    have LW := Aside0.mk (Kd.C_below L4.out HBl.out)
    by_cases hj : j < l.length
    · have HJ2 := Aside0.mk hj
      have e1 : decide ((j : Int) < (l.length : Int)) = true := decide_eq_true (by omega)
      have e1n : decide (j < l.length) = true := decide_eq_true hj
      have p1 : 0 ≤ (j : Int) := by omega
      have p2 : (j : Int) ≤ (k : Int) := by have := Hk.out; omega
      have p2n : j ≤ k := by have := Hk.out; omega
      have hw : wrap64 ((j : Int) + 1) = ((j + 1 : Nat) : Int) := by unfold wrap64; have := HN.out.1; omega
      have HW := Aside0.mk hw
      obtain ⟨q, hq⟩ : ∃ q, (putM (l.take j)).length = q := ⟨_, rfl⟩
      have HQ := Aside0.mk hq
      clear hj hq
      have hqm : q ≠ m := fun e => HNK.out j HJ2.out (by rw [HQ.out, e])
      have f5 : ((q : Int) == ((m : Nat) : Int)) = false := beq_eq_false_iff_ne.mpr (by omega)
      have f5n : (q == m) = false := beq_eq_false_iff_ne.mpr hqm
      have HQM := Aside0.mk hqm
      clear hqm
      go_wp2_with (go_at_call 13; (with_reducible refine (rput_take LW.out (by have := HN.out.1; omega) (good_of HF.out.1) (by have := HJ2.out; omega) HQ.out).mono ?_); rintro e w5 ⟨⟨A7, c7, rfl⟩, h3⟩; have B5 := Aside0.mk (below_then HBl.out HBl.out.size h3); have BB5 := Aside0.mk (below_then BW.out BW.out.size h3); clear h3)
      go_roundg (gk - 1)
      case measure => have := HJ.out; have := HJ2.out; omega
      case rel => exact ⟨j + 1, by first | rw [HW.out] | go_num, ⟨by have := HJ.out; have := HJ2.out; omega⟩, ⟨trivial⟩, B5⟩
    · have e1 : decide ((j : Int) < (l.length : Int)) = false := decide_eq_false (by omega)
      have e1n : decide (j < l.length) = false := decide_eq_false hj
      have hjl : j = l.length := by have := HJ.out; omega
      subst hjl
      clear hj
      go_wp2_with (go_at_call 9; (with_reducible refine (lives_calls _).mono ?_); rintro e w6 ⟨rfl, h3⟩; have BB6 := Aside0.mk (below_then BW.out BW.out.size h3); clear h3)
      go_ret
      exact ⟨by first | rfl | simp, BB6.out⟩
theorem cuts_law {L : Option Addr} {k : Nat} {l : List S39} {w : World} (hL : Kd.C k39 w L l.length l) (hk : l.length ≤ k) (hb : Bytes l) (n : Int) :
    Calls Try.prog 6 #[.slice L l.length k, .int .i64 n] w fun e w' => e = .returned (.bool true) ∧ Below w.heap.size w w' := by
  cases hlg : largeB l 5000 with
  | true => exact cuts_large hL hk hb n hlg
  | false =>
    by_cases hck : checkM l = 0
    · by_cases hn : n < 5 ∨ ((putM l).length : Int) ≤ n
      · exact cuts_out hL hk hb n hlg hck rfl hn
      · obtain ⟨m, rfl⟩ : ∃ m : Nat, n = (m : Int) := ⟨n.toNat, by omega⟩
        have hF := check_ok hb hck
        rcases get_cut_sec hF.1 hF.2 (n := m) (by omega) (by omega) with ⟨k0, h1, h2, z, h3⟩ | ⟨h1, z, h2⟩
        · exact cuts_in hL hk hb hlg hck rfl (by omega) (by omega) h3 ⟨h1, h2, rfl⟩
        · exact cuts_not hL hk hb hlg hck rfl (by omega) (by omega) h2 h1
    · exact cuts_check hL hk hb n hlg rfl hck
end Go.Proofs.Ytnohflfpahokiaa.Sec
