/- SectGets, walked: what is got of any bytes, and what is put again. -/
import Derived.Test.YtnohflfpahokiaaSecV
set_option linter.unusedVariables false
set_option linter.unusedSimpArgs false
set_option maxRecDepth 20000
namespace Go.Proofs.Ytnohflfpahokiaa.Sec
open Go Go.RowKit Go.Proofs.YtnohflfpahokiaaW.PrintWords Go.Proofs.YtnohflfpahokiaaW.PrintLast Go.Proofs.Ytnohflfpahokiaa.LebM Go.Proofs.Ytnohflfpahokiaa.Leb
open Go.Proofs.Ytnohflfpahokiaa.PAll (S39 k39 z39 rd_T39 at_T39)
open Go.Proofs.Ytnohflfpahokiaa.Rd (info5)
open Go.Proofs.Ytnohflfpahokiaa.Crc (sumI sumI_range)
open Go.Proofs.Ytnohflfpahokiaa.Head (head5)

theorem get_reads {A : Option Addr} {c : Nat} {b : List Int} {w : World} (hC : (Kd.int .u8).C w A b.length b) (hc : b.length ≤ c) (hb : ∀ x ∈ b, 0 ≤ x ∧ x < 256) (hl : b.length ≤ 140737488351232) {M : List S39} {k e0 : Int} (h : getMM b = (M, k, e0)) :
    Calls Try.prog 12 #[.slice A b.length c] w fun e w' => (∃ A c, e = .returned (.tuple #[.slice A M.length c, .int .i64 k, .int .i64 e0]) ∧ M.length ≤ c ∧ Kd.C k39 w' A M.length M) ∧ Below w.heap.size w w' := by
  refine (Get_calls hC hc hb hl).mono ?_
  rintro e w' ⟨h1, h2⟩
  rw [h] at h1
  exact ⟨h1.reads, h2⟩
theorem rget_reads {A : Option Addr} {c : Nat} {b : List Int} {w : World} (hC : (Kd.int .u8).C w A b.length b) (hc : b.length ≤ c) (hb : ∀ x ∈ b, 0 ≤ x ∧ x < 256) (hl : b.length ≤ 140737488351232) {M : List S39} {k e0 : Int} (h : getMM b = (M, k, e0)) :
    Calls Try.prog 15 #[.slice A b.length c] w fun e w' => (∃ A c, e = .returned (.tuple #[.slice A M.length c, .int .i64 k, .int .i64 e0]) ∧ M.length ≤ c ∧ Kd.C k39 w' A M.length M) ∧ Below w.heap.size w w' := by
  refine (RGet_calls hC hc hb hl).mono ?_
  rintro e w' ⟨h1, h2⟩
  rw [h] at h1
  exact ⟨h1.reads, h2⟩
theorem rsame_self {A B : Option Addr} {c d : Nat} {l : List S39} {w : World} (hA : Kd.C k39 w A l.length l) (hc : l.length ≤ c) (hB : Kd.C k39 w B l.length l) (hd : l.length ≤ d) (hn : l.length ≤ 1000000) (hb : Bytes l) :
    Calls Try.prog 14 #[.slice A l.length c, .slice B l.length d] w fun e w' => e = .returned (.bool true) ∧ Below w.heap.size w w' := by
  refine (rsame_calls hA hc hB hd hn hb hb).mono ?_
  rintro e w' ⟨h1, h2⟩
  rw [sameB_iff.2 rfl] at h1
  exact ⟨h1, h2.below⟩
theorem put_reads {L : Option Addr} {k : Nat} {l : List S39} {w : World} (hL : Kd.C k39 w L l.length l) (hk : l.length ≤ k) (hn : l.length ≤ 16) (hF : Fine 0 l) {b : List Int} (hb : putM l = b) :
    Calls Try.prog 10 #[.slice L l.length k] w fun e w' => (∃ A c, e = .returned (.tuple #[.slice A b.length c, .int .i64 0]) ∧ b.length ≤ c ∧ (Kd.int .u8).C w' A b.length b) ∧ Below w.heap.size w w' := by
  have hlong : longM l = false := by
    unfold longM
    rw [decide_eq_false (show ¬ 16 < l.length by omega), Bool.false_or, List.any_eq_false]
    intro s hs h
    have := (hF.2 s hs).2
    have h2 : 1048576 < s.f1.length := of_decide_eq_true h
    omega
  refine (putok_calls hL hk (by omega) (by omega) (good_of hF) hlong hF.1).mono ?_
  rintro e w' ⟨⟨v, rfl, h1⟩, h2⟩
  rw [hb] at h1
  obtain ⟨A, c, rfl, h3, h4⟩ := Kd.R_reads h1
  exact ⟨⟨A, c, rfl, h3, h4⟩, h2⟩
theorem rput_reads {L : Option Addr} {k : Nat} {l : List S39} {w : World} (hL : Kd.C k39 w L l.length l) (hn : l.length ≤ 1000) (hg : Good l) {b : List Int} (hb : putM l = b) :
    Calls Try.prog 13 #[.slice L l.length k] w fun e w' => (∃ A c, e = .returned (.slice A b.length c) ∧ b.length ≤ c ∧ (Kd.int .u8).C w' A b.length b) ∧ Below w.heap.size w w' := by
  refine (rput_calls hL hn hg).mono ?_
  rintro e w' ⟨v, rfl, h1, h2⟩
  rw [hb] at h1
  obtain ⟨A, c, rfl, h3, h4⟩ := Kd.R_reads h1
  exact ⟨⟨A, c, rfl, h3, h4⟩, h2⟩
theorem fine_nil (last : Int) : Fine last [] := ⟨rfl, fun s hs => by cases hs⟩
set_option maxHeartbeats 8000000 in
theorem gets_law {A : Option Addr} {c : Nat} {b : List Int} {w : World} (hC : (Kd.int .u8).C w A b.length b) (hc : b.length ≤ c) (hb : ∀ x ∈ b, 0 ≤ x ∧ x < 256) (hl : b.length ≤ 140737488351232) :
    Calls Try.prog 4 #[.slice A b.length c] w fun e w' => e = .returned (.bool true) ∧ Below w.heap.size w w' := by
  by_cases h1 : 5000 < b.length
  · have c1 : decide ((5000 : Int) < (b.length : Int)) = true := decide_eq_true (by omega)
    have c1n : decide (5000 < b.length) = true := decide_eq_true h1
    clear h1 hC hc hb hl
    go_enter Try.func4, Try.ntmps4
    go_wp2_with (go_at_call 9; (with_reducible refine (lives_calls _).mono ?_); rintro e w1 ⟨rfl, h1⟩; have B1 := Aside0.mk h1; clear h1)
    go_ret
    exact ⟨rfl, B1.out⟩
  have c1 : decide ((5000 : Int) < (b.length : Int)) = false := decide_eq_false (by omega)
  have c1n : decide (5000 < b.length) = false := decide_eq_false h1
  obtain ⟨M, k, e0, hM⟩ : ∃ M k e0, getMM b = (M, k, e0) := ⟨_, _, _, rfl⟩
  have HM := Aside0.mk hM
  have HMB := Aside0.mk (show Bytes M by have h := getMM_bytes b; rw [hM] at h; exact h)
  have HML := Aside0.mk (show M.length ≤ 16 by have h := getMM_len b; rw [hM] at h; exact h)
  have HC := Aside0.mk hC
  have Hc := Aside0.mk hc
  have HB := Aside0.mk hb
  have HL := Aside0.mk hl
  have HST := Aside0.mk (show (e0 = 0 → Fine 0 M ∧ putM M = b) ∧ (e0 ≠ 0 → M = []) from ⟨fun h => by
    have h2 := put_get_sec hb (by rw [hM]; exact h)
    rw [hM] at h2
    exact ⟨h2.2.1, h2.1⟩, fun h => by
    have h2 := getMM_bad (b := b) (by rw [hM]; exact h)
    rw [hM] at h2
    exact h2⟩)
  obtain ⟨p, hp⟩ : ∃ p, putM M = p := ⟨_, rfl⟩
  have HP := Aside0.mk hp
  have HF := Aside0.mk (show Fine 0 M by
    by_cases h0 : e0 = 0
    · exact (HST.out.1 h0).1
    · rw [HST.out.2 h0]; exact fine_nil 0)
  clear h1 hC hc hb hl hM hp
  by_cases h0 : e0 = 0
  · have d1 : (e0 != 0) = false := by rw [h0]; rfl
    have d2 : (e0 == 0) = true := by rw [h0]; rfl
    have HPB := Aside0.mk (show p = b by rw [← HP.out]; exact (HST.out.1 h0).2)
    clear h0
    go_enter Try.func4, Try.ntmps4
    go_wp2_with (first
      | (go_at_call 12; (with_reducible refine (get_reads HC.out Hc.out HB.out HL.out HM.out).mono ?_); rintro e w2 ⟨⟨A3, c3, rfl, h1, h2⟩, h3⟩; have B2 := Aside0.mk h3; have L2 := Aside0.mk h2; have c3l := Aside0.mk h1; have C2 := Aside0.mk (Kd.C_below HC.out h3); clear h1 h2 h3)
      | (go_at_call 15; (with_reducible refine (rget_reads C2.out Hc.out HB.out HL.out HM.out).mono ?_); rintro e w3 ⟨⟨A4, c4, rfl, h1, h2⟩, h3⟩; have B3 := Aside0.mk (below_then B2.out B2.out.size h3); have L3 := Aside0.mk (Kd.C_below L2.out h3); have R3 := Aside0.mk h2; have c4l := Aside0.mk h1; clear h1 h2 h3)
      | (go_at_call 9; (with_reducible refine (lives_calls _).mono ?_); rintro e w4 ⟨rfl, h3⟩; have B4 := Aside0.mk (below_then B3.out B3.out.size h3); have L4 := Aside0.mk (Kd.C_below L3.out h3); have R4 := Aside0.mk (Kd.C_below R3.out h3); clear h3)
      | (go_at_call 14; (with_reducible refine (rsame_self L4.out c3l.out R4.out c4l.out (by have := HML.out; omega) HMB.out).mono ?_); rintro e w5 ⟨rfl, h3⟩; have B5 := Aside0.mk (below_then B4.out B4.out.size h3); have L5 := Aside0.mk (Kd.C_below L4.out h3); clear h3)
      | (go_at_call 10; (with_reducible refine (put_reads L5.out c3l.out HML.out HF.out HP.out).mono ?_); rintro e w6 ⟨⟨A6, c6, rfl, h1, h2⟩, h3⟩; rw [HPB.out] at h2; rw [HPB.out]; have B6 := Aside0.mk (below_then B5.out B5.out.size h3); have k1 := Kd.C_string (P := Try.prog) (A := A6) (c := c6) Try.underlying25 Try.underlying5 Try.underlying9 h2; have k2 := Kd.C_string (P := Try.prog) (A := A) (c := c) Try.underlying25 Try.underlying5 Try.underlying9 (Kd.C_below HC.out B6.out); clear h1 h2 h3))
    go_ret
    exact ⟨by first | rfl | simp, B6.out⟩
  · have d1 : (e0 != 0) = true := bne_iff_ne.mpr h0
    clear h0
    go_enter Try.func4, Try.ntmps4
    go_wp2_with (first
      | (go_at_call 12; (with_reducible refine (get_reads HC.out Hc.out HB.out HL.out HM.out).mono ?_); rintro e w2 ⟨⟨A3, c3, rfl, h1, h2⟩, h3⟩; have B2 := Aside0.mk h3; have L2 := Aside0.mk h2; have c3l := Aside0.mk h1; have C2 := Aside0.mk (Kd.C_below HC.out h3); clear h1 h2 h3)
      | (go_at_call 15; (with_reducible refine (rget_reads C2.out Hc.out HB.out HL.out HM.out).mono ?_); rintro e w3 ⟨⟨A4, c4, rfl, h1, h2⟩, h3⟩; have B3 := Aside0.mk (below_then B2.out B2.out.size h3); have L3 := Aside0.mk (Kd.C_below L2.out h3); have R3 := Aside0.mk h2; have c4l := Aside0.mk h1; clear h1 h2 h3)
      | (go_at_call 9; (with_reducible refine (lives_calls _).mono ?_); rintro e w4 ⟨rfl, h3⟩; have B4 := Aside0.mk (below_then B3.out B3.out.size h3); have L4 := Aside0.mk (Kd.C_below L3.out h3); have R4 := Aside0.mk (Kd.C_below R3.out h3); clear h3)
      | (go_at_call 14; (with_reducible refine (rsame_self L4.out c3l.out R4.out c4l.out (by have := HML.out; omega) HMB.out).mono ?_); rintro e w5 ⟨rfl, h3⟩; have B5 := Aside0.mk (below_then B4.out B4.out.size h3); have L5 := Aside0.mk (Kd.C_below L4.out h3); clear h3)
      | (go_at_call 10; (with_reducible refine (put_reads L5.out c3l.out HML.out HF.out HP.out).mono ?_); rintro e w6 ⟨⟨A6, c6, rfl, h1, h2⟩, h3⟩; have B6 := Aside0.mk (below_then B5.out B5.out.size h3); clear h1 h2 h3))
    go_ret
    exact ⟨by first | rfl | simp, B6.out⟩
end Go.Proofs.Ytnohflfpahokiaa.Sec
