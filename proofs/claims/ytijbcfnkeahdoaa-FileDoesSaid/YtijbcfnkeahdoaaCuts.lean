/- The walk of FileCuts. -/
import Derived.Test.YtijbcfnkeahdoaaNobody
set_option linter.unusedVariables false
set_option linter.unusedSimpArgs false
namespace Go.Proofs.Ytijbcfnkeahdoaa.Disk
open Go Go.RowKit Go.Proofs.YtijbcfnkeahdoaaW.PrintWords

theorem strOf_append (a b : List Int) : strOfNums a ++ strOfNums b = strOfNums (a ++ b) := by
  apply ByteArray.ext
  simp [strOfNums]
theorem strOf_size (a : List Int) : (strOfNums a).size = a.length := by
  show ((a.map fun n => UInt8.ofNat n.toNat).toArray).size = _
  simp
theorem strOf_take (a : List Int) (k : Nat) : (strOfNums a).extract 0 k = strOfNums (a.take k) := by
  apply ByteArray.ext
  simp [strOfNums, ByteArray.data_extract, List.extract_eq_take_drop]

/-- what a disk that was armed with k holds when A was written -/
def cutst (A : List Int) (k : Nat) : DSt := if A.length ≤ k then ⟨A, [], true, (k : Int) - A.length, false⟩ else ⟨A.take k, [], false, 0, true⟩
theorem cutst_f0 (A : List Int) (k : Nat) : (cutst A k).f0 = A.take k := by
  unfold cutst
  split
  · rename_i h; exact (List.take_of_length_le h).symm
  · rfl

theorem cw {W : World} {g base : Nat} {v0 v1 : Value} {A : List Int} {k : Nat} (h : Dsk W g base v0 v1 (cutst A k)) {ad : Option Addr} {c : Nat} {ys : List Int} (hC : (Kd.int .u8).C W ad ys.length ys) (hc : ys.length ≤ c) (hl : A.length + ys.length ≤ 4194304) :
    Calls Try.prog 14 #[.pointer (some ⟨g, 0, none⟩), .int .i64 0, .slice ad ys.length c] W fun e w' => e = .returned (.int .i64 (if (A ++ ys).length ≤ k then 0 else 280)) ∧ ∃ v0' v1', Dsk w' g base v0' v1' (cutst (A ++ ys) k) ∧ Below base W w' ∧ Only W w' g := by
  by_cases h1 : A.length ≤ k
  · have e0 : cutst A k = ⟨A, [], true, (k : Int) - A.length, false⟩ := if_pos h1
    rw [e0] at h
    refine (write_ok0 h rfl hC hc (by omega)).mono ?_
    rintro e w' ⟨rfl, v0', v1', h2, h3, h4⟩
    have hn : ¬ (A.length + ys.length > 4194304) := by omega
    rw [if_neg hn] at h2
    have e1 : DSt.cost ⟨A, [], true, (k : Int) - A.length, false⟩ (ys.length : Int) = min (ys.length : Int) ((k : Int) - A.length) := rfl
    rw [e1] at h2
    refine ⟨?_, v0', v1', ?_, h3, h4⟩
    · show Ending.returned (.int .i64 (if A.length + ys.length > 4194304 then 2 else DSt.told ⟨A, [], true, (k : Int) - A.length, false⟩ (ys.length : Int))) = _
      rw [if_neg hn]
      unfold DSt.told
      rw [e1, List.length_append]
      by_cases h5 : A.length + ys.length ≤ k
      · rw [if_neg (by omega), if_pos h5]
      · rw [if_pos (by omega), if_neg h5]
    · unfold DSt.pay at h2
      simp only [if_true] at h2
      by_cases h5 : A.length + ys.length ≤ k
      · rw [if_neg (by omega)] at h2
        have e2 : cutst (A ++ ys) k = ⟨A ++ ys, [], true, (k : Int) - (A ++ ys).length, false⟩ := if_pos (by rw [List.length_append]; exact h5)
        rw [e2]
        have e3 : min (ys.length : Int) ((k : Int) - A.length) = ys.length := by omega
        rw [e3] at h2
        simp only [Int.toNat_natCast, List.take_length] at h2
        have e4 : (k : Int) - ((A ++ ys).length : Nat) = (k : Int) - A.length - ys.length := by rw [List.length_append]; omega
        rw [e4]
        exact h2
      · rw [if_pos (by omega)] at h2
        have e2 : cutst (A ++ ys) k = ⟨(A ++ ys).take k, [], false, 0, true⟩ := if_neg (by rw [List.length_append]; exact h5)
        rw [e2]
        have e3 : min (ys.length : Int) ((k : Int) - A.length) = (k : Int) - A.length := by omega
        rw [e3] at h2
        have e4 : ((k : Int) - A.length).toNat = k - A.length := by omega
        have e5 : (k : Int) - A.length - ((k : Int) - A.length) = 0 := by omega
        rw [e4] at h2
        simp only [e5] at h2
        have e6 : (A ++ ys).take k = A ++ ys.take (k - A.length) := by rw [List.take_append, List.take_of_length_le h1]
        rw [e6]
        exact h2
  · have e0 : cutst A k = ⟨A.take k, [], false, 0, true⟩ := if_neg h1
    have e2 : cutst (A ++ ys) k = cutst A k := by
      rw [e0]
      have : cutst (A ++ ys) k = ⟨(A ++ ys).take k, [], false, 0, true⟩ := if_neg (by rw [List.length_append]; omega)
      rw [this, List.take_append_of_le_length (by omega)]
    have hch : (cutst A k).check 0 = 280 := by rw [e0]; rfl
    refine (write_bad h 0 (by rw [hch]; decide) ad ys.length c).mono ?_
    rintro e w' ⟨rfl, h2⟩
    rw [hch, if_neg (by rw [List.length_append]; omega), e2]
    exact ⟨rfl, v0, v1, h.below h2, h2.mono h.size, Only.of_below h2 g⟩

/-- the rows of an argument that is a slice of slices of bytes -/
theorem row_at {w : World} {A : Option Addr} {l : List (List Int)} (hC : (Kd.slice 5 (Kd.int .u8)).C w A l.length l) (j : Nat) (hj : j < l.length) :
    ∃ ad B c, A = some ad ∧ w.cell? (ad.add j) = some (.slice B (l.getD j []).length c) ∧ (l.getD j []).length ≤ c ∧ (Kd.int .u8).C w B (l.getD j []).length (l.getD j []) := by
  obtain ⟨ad, cs, hA, hl, ⟨B, c, rfl, hlc, hr⟩, hcell⟩ := Kd.C_get hC [] (j : Int) (by omega) (by omega)
  rw [Int.toNat_natCast] at hlc hr hcell
  have h0 := hcell 0 _ rfl
  have hsz : (Kd.slice 5 (Kd.int .u8)).sz = 1 := rfl
  rw [hsz, Nat.mul_one, Nat.add_zero] at h0
  exact ⟨ad, B, c, hA, h0, hlc, hr⟩
theorem arm_cut {W : World} {g base : Nat} {v0 v1 : Value} (h : Dsk W g base v0 v1 ⟨[], [], false, 0, false⟩) (k : Nat) (hk : k < 9223372036854775808) :
    Calls Try.prog 13 #[.pointer (some ⟨g, 0, none⟩), .int .i64 (k : Int)] W fun e w' => e = .returned (.tuple #[]) ∧ Dsk w' g base v0 v1 (cutst [] k) ∧ Below base W w' := by
  refine (arm_calls h (k : Int) (by omega)).mono ?_
  rintro e w' ⟨rfl, h1, h2, h3⟩
  have e1 : max (k : Int) 0 = (k : Int) - (([] : List Int).length : Nat) := by simp
  have e2 : cutst [] k = ⟨[], [], true, max (k : Int) 0, false⟩ := by rw [e1]; rfl
  exact ⟨rfl, by rw [e2]; exact h1, h2⟩
theorem flat_succ (l : List (List Int)) (j : Nat) (hj : j < l.length) : (l.take (j + 1)).flatten = (l.take j).flatten ++ l.getD j [] := by
  rw [List.take_succ_eq_append_getElem hj, List.flatten_append, List.getD_eq_getElem?_getD, List.getElem?_eq_getElem hj]
  simp

set_option maxHeartbeats 4000000 in
theorem cuts_in {A : Option Addr} {c : Nat} {l : List (List Int)} {w : World} (hC : (Kd.slice 5 (Kd.int .u8)).C w A l.length l) (k : Nat) (hk : k < 9223372036854775808) (hl : l.length ≤ 60) :
    Calls Try.prog 4 #[.slice A l.length c, .int .i64 (k : Int)] w fun e w' => e = .returned (.bool true) ∧ Below w.heap.size w w' := by
  have b1 : decide ((60 : Int) < (l.length : Int)) = false := decide_eq_false (by omega)
  have b1n : decide (60 < l.length) = false := decide_eq_false (by omega)
  have b2 : decide ((k : Int) < 0) = false := decide_eq_false (by omega)
  have HC := Aside0.mk hC
  have HK := Aside0.mk hk
  have HL := Aside0.mk hl
  have HB0 := Aside0.mk (Below.refl w.heap.size w)
  clear hC hk hl
  go_enter Try.func4, Try.ntmps4
  go_wp2_with (first
    | (go_at_call 9; (with_reducible refine (new_calls _).mono ?_); rintro e w1 ⟨g, rfl, h1, h2⟩; have D1 := Aside0.mk h1; have B1 := Aside0.mk h2; clear h1 h2)
    | (go_at_call 8; (with_reducible refine (lives_calls _).mono ?_); rintro e w2 ⟨rfl, h1⟩; have D2 := Aside0.mk (D1.out.below h1); have B2 := Aside0.mk (below_then B1.out B1.out.size h1); clear h1)
    | (go_at_call 13; (with_reducible refine (arm_cut D2.out k HK.out).mono ?_); rintro e w3 ⟨rfl, h1, h2⟩; have D3 := Aside0.mk h1; have B3 := Aside0.mk (B2.out.trans h2); clear h1 h2))
  go_loopg [6, 7] l.length (fun n v6 v7 w' => ∃ j : Nat, v7 = .int .i64 (j : Int) ∧ v6 = .string (strOfNums (l.take j).flatten) ∧ Aside0 (j + n = l.length) ∧ Aside0 ((l.take j).flatten.length ≤ 300 * j) ∧ Aside0 (∃ v0 v1, Dsk w' g w.heap.size v0 v1 (cutst (l.take j).flatten k)) ∧ Aside0 (Below w.heap.size w w'))
  case atStart => exact ⟨0, rfl, rfl, ⟨by omega⟩, ⟨by simp⟩, ⟨_, _, D3.out⟩, B3⟩
  case round =>
    obtain ⟨j, rfl, rfl, HJ, HA, HD, HB⟩ := hrel
    obtain ⟨v0, v1, hD⟩ := HD.out
    have HD := Aside0.mk hD
    clear hD
    by_cases hj : j < l.length
    · obtain ⟨ad, B, cy, hAd, hcell, hlc, hr⟩ := row_at HC.out j hj
      obtain ⟨ys, hys⟩ : ∃ ys, l.getD j [] = ys := ⟨_, rfl⟩
      rw [hys] at hcell hlc hr
      have hfl := flat_succ l j hj
      rw [hys] at hfl
      have HF := Aside0.mk hfl
      have hcell2 : wr.cell? (ad.add j) = some (.slice B ys.length cy) := (HB.out.cell (World.block_lt_of_cell? w _ hcell)).trans hcell
      have HR := Aside0.mk (show (Kd.int .u8).C wr B ys.length ys from Kd.C_below hr HB.out)
      have HR0 := Aside0.mk hr
      have HCL := Aside0.mk hcell
      have HLC := Aside0.mk hlc
      have HJ2 := Aside0.mk hj
      have c1 : decide ((j : Int) < (l.length : Int)) = true := decide_eq_true (by omega)
      have p1 : 0 ≤ (j : Int) := by omega
      have hw : wrap64 ((j : Int) + 1) = ((j + 1 : Nat) : Int) := by have := HL.out; unfold wrap64; omega
      have HW := Aside0.mk hw
      subst hAd
      clear hcell hr hlc hfl hys
      by_cases hbig : 300 < ys.length
      · have d1 : decide ((300 : Int) < (ys.length : Int)) = true := decide_eq_true (by omega)
        have d1n : decide (300 < ys.length) = true := decide_eq_true hbig
        clear hbig
        go_wp2
        go_ret
        exact ⟨rfl, HB.out⟩
      · have d1 : decide ((300 : Int) < (ys.length : Int)) = false := decide_eq_false (by omega)
        have d1n : decide (300 < ys.length) = false := decide_eq_false hbig
        have HG := Aside0.mk hbig
        clear hbig
        have hcat : (9223372036854775807 < (strOfNums (l.take j).flatten).size + (strOfNums ys).size) = False := eq_false (by rw [strOf_size, strOf_size]; have := HA.out; have := HG.out; have := HL.out; have := HJ2.out; omega)
        by_cases hin : ((l.take j).flatten ++ ys).length ≤ k
        · have f1 : decide (((strOfNums (l.take j).flatten).size : Int) + ((strOfNums ys).size : Int) ≤ (k : Int)) = true := decide_eq_true (by rw [strOf_size, strOf_size]; rw [List.length_append] at hin; omega)
          have f1n : decide ((strOfNums (l.take j).flatten).size + (strOfNums ys).size ≤ k) = true := decide_eq_true (by rw [strOf_size, strOf_size]; rw [List.length_append] at hin; omega)
          have HIN := Aside0.mk hin
          clear hin
          go_wp2_with (first
            | (go_at_call 14; (with_reducible refine (cw HD.out HR.out HLC.out (by have := HA.out; have := HG.out; have := HL.out; have := HJ2.out; omega)).mono ?_); rintro e w4 ⟨rfl, v0', v1', h1, h2, h3⟩; rw [if_pos HIN.out]; have D4 := Aside0.mk h1; have B4 := Aside0.mk (HB.out.trans h2); have hcell4 : w4.cell? (ad.add j) = some (.slice B ys.length cy) := (B4.out.cell (World.block_lt_of_cell? w _ HCL.out)).trans HCL.out; have hcv := Kd.C_string (P := Try.prog) (A := B) (c := cy) Try.underlying30 Try.underlying5 Try.underlying9 (Kd.C_below HR0.out B4.out); clear h1 h2 h3))
          go_roundg (gk - 1)
          case measure => have := HJ.out; have := HJ2.out; omega
          case rel =>
            refine ⟨j + 1, by rw [HW.out], by rw [HF.out, strOf_append], ⟨by have := HJ.out; have := HJ2.out; omega⟩, ⟨by rw [HF.out, List.length_append]; have := HA.out; have := HG.out; omega⟩, ⟨_, _, by rw [HF.out]; exact D4.out⟩, B4⟩
        · have f1 : decide (((strOfNums (l.take j).flatten).size : Int) + ((strOfNums ys).size : Int) ≤ (k : Int)) = false := decide_eq_false (by rw [strOf_size, strOf_size]; rw [List.length_append] at hin; omega)
          have f1n : decide ((strOfNums (l.take j).flatten).size + (strOfNums ys).size ≤ k) = false := decide_eq_false (by rw [strOf_size, strOf_size]; rw [List.length_append] at hin; omega)
          have HIN := Aside0.mk hin
          clear hin
          go_wp2_with (first
            | (go_at_call 14; (with_reducible refine (cw HD.out HR.out HLC.out (by have := HA.out; have := HG.out; have := HL.out; have := HJ2.out; omega)).mono ?_); rintro e w4 ⟨rfl, v0', v1', h1, h2, h3⟩; rw [if_neg HIN.out]; have D4 := Aside0.mk h1; have B4 := Aside0.mk (HB.out.trans h2); have hcell4 : w4.cell? (ad.add j) = some (.slice B ys.length cy) := (B4.out.cell (World.block_lt_of_cell? w _ HCL.out)).trans HCL.out; have hcv := Kd.C_string (P := Try.prog) (A := B) (c := cy) Try.underlying30 Try.underlying5 Try.underlying9 (Kd.C_below HR0.out B4.out); clear h1 h2 h3))
          go_roundg (gk - 1)
          case measure => have := HJ.out; have := HJ2.out; omega
          case rel =>
            refine ⟨j + 1, by rw [HW.out], by rw [HF.out, strOf_append], ⟨by have := HJ.out; have := HJ2.out; omega⟩, ⟨by rw [HF.out, List.length_append]; have := HA.out; have := HG.out; omega⟩, ⟨_, _, by rw [HF.out]; exact D4.out⟩, B4⟩
    · have hje : j = l.length := by have := HJ.out; omega
      subst hje
      have c1 : decide ((l.length : Int) < (l.length : Int)) = false := decide_eq_false (by omega)
      have c1n : decide (l.length < l.length) = false := decide_eq_false (by omega)
      clear hj
      obtain ⟨F, hF⟩ : ∃ F, (l.take l.length).flatten = F := ⟨_, rfl⟩
      rw [hF] at HD HA ⊢
      clear hF
      by_cases hin : F.length ≤ k
      · have f1 : decide (((strOfNums F).size : Int) ≤ (k : Int)) = true := decide_eq_true (by rw [strOf_size]; omega)
        have f1n : decide ((strOfNums F).size ≤ k) = true := decide_eq_true (by rw [strOf_size]; omega)
        have HT := Aside0.mk (show (cutst F k).f0 = F by rw [cutst_f0, List.take_of_length_le hin])
        clear hin
        go_wp2_with (first
          | (go_at_call 15; (with_reducible refine (wake_calls HD.out).mono ?_); rintro e w5 ⟨rfl, h1, h2, h3⟩; have D5 := Aside0.mk h1; have B5 := Aside0.mk (HB.out.trans h2); clear h1 h2 h3)
          | (go_at_call 16; (with_reducible refine (read_ok0 D5.out rfl).mono ?_); rintro e w6 ⟨⟨u6, rfl, h1⟩, h2⟩; have q6 : (convert 30 9 u6).run Try.prog w6 = .ok (.string (strOfNums F)) w6 := (own_string (P := Try.prog) Try.underlying30 Try.underlying5 Try.underlying9 (Kd.own_of_R h1)).trans (by rw [HT.out]); have B6 := Aside0.mk (below_then B5.out B5.out.size h2); clear h1 h2))
        go_ret
        exact ⟨by first | rfl | simp, B6.out⟩
      · have f1 : decide (((strOfNums F).size : Int) ≤ (k : Int)) = false := decide_eq_false (by rw [strOf_size]; omega)
        have f1n : decide ((strOfNums F).size ≤ k) = false := decide_eq_false (by rw [strOf_size]; omega)
        have HT := Aside0.mk (cutst_f0 F k)
        have HIN := Aside0.mk hin
        have c20 : ((k : Int) ≤ (strOfNums F).size) = True := eq_true (by rw [strOf_size]; omega)
        have c20n : (k ≤ (strOfNums F).size) = True := eq_true (by rw [strOf_size]; omega)
        have c21 : ((0 : Int) ≤ (k : Int)) = True := eq_true (by omega)
        have HTK := Aside0.mk (strOf_take F k)
        clear hin
        go_wp2_with (first
          | (go_at_call 15; (with_reducible refine (wake_calls HD.out).mono ?_); rintro e w5 ⟨rfl, h1, h2, h3⟩; have D5 := Aside0.mk h1; have B5 := Aside0.mk (HB.out.trans h2); clear h1 h2 h3)
          | (go_at_call 16; (with_reducible refine (read_ok0 D5.out rfl).mono ?_); rintro e w6 ⟨⟨u6, rfl, h1⟩, h2⟩; have q6 : (convert 30 9 u6).run Try.prog w6 = .ok (.string (strOfNums (F.take k))) w6 := (own_string (P := Try.prog) Try.underlying30 Try.underlying5 Try.underlying9 (Kd.own_of_R h1)).trans (by rw [HT.out]); have q6d : (convert 30 9 u6).run Try.prog w6.drew = .ok (.string (strOfNums (F.take k))) w6.drew := (own_string (P := Try.prog) Try.underlying30 Try.underlying5 Try.underlying9 (Kd.own_of_R (Kd.R_drew h1))).trans (by rw [HT.out]); have B6 := Aside0.mk (below_then B5.out B5.out.size h2); clear h1 h2))
        go_region
        all_goals go_wp2
        all_goals go_ret
        all_goals exact ⟨by simp [HTK.out], B6.out.drew⟩
set_option maxHeartbeats 1000000 in
theorem cuts_out (A : Option Addr) (len c : Nat) (k : Int) (w : World) (h : 60 < len ∨ k < 0) :
    Calls Try.prog 4 #[.slice A len c, .int .i64 k] w fun e w' => e = .returned (.bool true) ∧ Below w.heap.size w w' := by
  by_cases h1 : 60 < len
  · have b1 : decide ((60 : Int) < (len : Int)) = true := decide_eq_true (by omega)
    have b1n : decide (60 < len) = true := decide_eq_true h1
    clear h h1
    go_enter Try.func4, Try.ntmps4
    go_wp2_with (go_at_call 8; (with_reducible refine (lives_calls _).mono ?_); rintro e w1 ⟨rfl, h1⟩; have B1 := Aside0.mk h1; clear h1)
    go_ret
    exact ⟨rfl, B1.out⟩
  · have b1 : decide ((60 : Int) < (len : Int)) = false := decide_eq_false (by omega)
    have b1n : decide (60 < len) = false := decide_eq_false h1
    have b2 : decide (k < 0) = true := decide_eq_true (by omega)
    clear h h1
    go_enter Try.func4, Try.ntmps4
    go_wp2_with (go_at_call 8; (with_reducible refine (lives_calls _).mono ?_); rintro e w1 ⟨rfl, h1⟩; have B1 := Aside0.mk h1; clear h1)
    go_ret
    exact ⟨rfl, B1.out⟩
theorem cuts_calls {A : Option Addr} {c : Nat} {l : List (List Int)} {w : World} (hC : (Kd.slice 5 (Kd.int .u8)).C w A l.length l) (k : Int) (hk : k < 9223372036854775808) :
    Calls Try.prog 4 #[.slice A l.length c, .int .i64 k] w fun e w' => e = .returned (.bool true) ∧ Below w.heap.size w w' := by
  by_cases h : 60 < l.length ∨ k < 0
  · exact cuts_out A l.length c k w h
  · obtain ⟨m, rfl⟩ : ∃ m : Nat, k = (m : Int) := ⟨k.toNat, by omega⟩
    exact cuts_in hC m (by omega) (by omega)
end Go.Proofs.Ytijbcfnkeahdoaa.Disk
