/- SectPuts, walked: which sections may be, and their bytes. -/
import Derived.Test.YtnohflfpahokiaaSecWG
set_option linter.unusedVariables false
set_option linter.unusedSimpArgs false
set_option maxRecDepth 20000
namespace Go.Proofs.Ytnohflfpahokiaa.Sec
open Go Go.RowKit Go.Proofs.YtnohflfpahokiaaW.PrintWords Go.Proofs.YtnohflfpahokiaaW.PrintLast Go.Proofs.Ytnohflfpahokiaa.LebM Go.Proofs.Ytnohflfpahokiaa.Leb
open Go.Proofs.Ytnohflfpahokiaa.PAll (S39 k39 z39 rd_T39 at_T39)
open Go.Proofs.Ytnohflfpahokiaa.Rd (info5)
open Go.Proofs.Ytnohflfpahokiaa.Crc (sumI sumI_range)
open Go.Proofs.Ytnohflfpahokiaa.Head (head5)

theorem large_is {A : Option Addr} {c : Nat} {l : List S39} {w : World} (hL : Kd.C k39 w A l.length l) (hc : l.length ≤ c) {most : Int} (hm : 0 ≤ most ∧ most ≤ 10000000) {r : Bool} (h : largeB l most = r) :
    Calls Try.prog 8 #[.slice A l.length c, .int .i64 most] w fun e w' => e = .returned (.bool r) ∧ Below w.heap.size w w' := by
  refine (large_calls hL hc most hm).mono ?_
  rintro e w' ⟨h1, h2⟩
  rw [h] at h1
  exact ⟨h1, h2.below⟩
theorem check_is {A : Option Addr} {c : Nat} {l : List S39} {w : World} (hL : Kd.C k39 w A l.length l) (hc : l.length ≤ c) (hn : l.length ≤ 1000000) {r : Int} (h : checkM l = r) :
    Calls Try.prog 11 #[.slice A l.length c] w fun e w' => e = .returned (.int .i64 r) ∧ Below w.heap.size w w' := by
  refine (check_calls hL hc hn).mono ?_
  rintro e w' ⟨h1, h2⟩
  rw [h] at h1
  exact ⟨h1, h2.below⟩
theorem check_ok {l : List S39} (hb : Bytes l) (h : checkM l = 0) : Fine 0 l ∧ l.length ≤ 16 := by
  unfold checkM at h
  by_cases h1 : longM l = true
  · rw [if_pos h1] at h; exact absurd h (by decide)
  rw [if_neg h1] at h
  by_cases h2 : oddM 0 l = true
  · rw [if_pos h2] at h; exact absurd h (by decide)
  have h3 : longM l = false := by simpa using h1
  have h4 : oddM 0 l = false := by simpa using h2
  unfold longM at h3
  rw [Bool.or_eq_false_iff] at h3
  have h5 := of_decide_eq_false h3.1
  refine ⟨⟨h4, fun s hs => ⟨hb s hs, ?_⟩⟩, by omega⟩
  have h6 := List.any_eq_false.1 h3.2 s hs
  have h7 : ¬ 1048576 < s.f1.length := fun hh => h6 (decide_eq_true hh)
  omega
set_option maxHeartbeats 8000000 in
theorem puts_long {L : Option Addr} {k : Nat} {l : List S39} {w : World} (hL : Kd.C k39 w L l.length l) (hk : l.length ≤ k) (hb : Bytes l) (hlg : largeB l 1100000 = false) (h0 : longM l = true) :
    Calls Try.prog 3 #[.slice L l.length k] w fun e w' => e = .returned (.bool true) ∧ Below w.heap.size w w' := by
  have HN := Aside0.mk (large_no hlg).1
  have HL := Aside0.mk hL
  have Hk := Aside0.mk hk
  have HBY := Aside0.mk hb
  have HLG := Aside0.mk hlg
  have H0 := Aside0.mk h0
  have HCK := Aside0.mk (show checkM l = 3 by unfold checkM; rw [if_pos h0])
  clear h0 hL hk hb hlg
  go_enter Try.func3, Try.ntmps3
  go_wp2_with (first
    | (go_at_call 8; (with_reducible refine (large_is HL.out Hk.out (by decide) HLG.out).mono ?_); rintro e w1 ⟨rfl, h3⟩; have B1 := Aside0.mk h3; have L1 := Aside0.mk (Kd.C_below HL.out h3); clear h3)
    | (go_at_call 10; (with_reducible refine (putlong_calls L1.out Hk.out (by have := HN.out; omega) H0.out).mono ?_); rintro e w2 ⟨rfl, h3⟩; have B2 := Aside0.mk (below_then B1.out B1.out.size h3); have L2 := Aside0.mk (Kd.C_below L1.out h3); clear h3)
    | (go_at_call 11; (with_reducible refine (check_is L2.out Hk.out (by have := HN.out; omega) HCK.out).mono ?_); rintro e w3 ⟨rfl, h3⟩; have B3 := Aside0.mk (below_then B2.out B2.out.size h3); have L3 := Aside0.mk (Kd.C_below L2.out h3); clear h3)
    | (go_at_call 9; (with_reducible refine (lives_calls _).mono ?_); rintro e w4 ⟨rfl, h3⟩; have B4 := Aside0.mk (below_then B3.out B3.out.size h3); have L4 := Aside0.mk (Kd.C_below L3.out h3); clear h3))
  go_ret
  exact ⟨by first | rfl | simp, B4.out⟩
set_option maxHeartbeats 8000000 in
theorem puts_odd {L : Option Addr} {k : Nat} {l : List S39} {w : World} (hL : Kd.C k39 w L l.length l) (hk : l.length ≤ k) (hb : Bytes l) (hlg : largeB l 1100000 = false) (h0 : longM l = false) (h1 : oddM 0 l = true) :
    Calls Try.prog 3 #[.slice L l.length k] w fun e w' => e = .returned (.bool true) ∧ Below w.heap.size w w' := by
  have HN := Aside0.mk (large_no hlg).1
  have HL := Aside0.mk hL
  have Hk := Aside0.mk hk
  have HBY := Aside0.mk hb
  have HLG := Aside0.mk hlg
  have H0 := Aside0.mk h0
  have H1 := Aside0.mk h1
  have HCK := Aside0.mk (show checkM l = 41 by unfold checkM; rw [if_neg (by rw [h0]; decide), if_pos h1])
  clear h0 h1 hL hk hb hlg
  go_enter Try.func3, Try.ntmps3
  go_wp2_with (first
    | (go_at_call 8; (with_reducible refine (large_is HL.out Hk.out (by decide) HLG.out).mono ?_); rintro e w1 ⟨rfl, h3⟩; have B1 := Aside0.mk h3; have L1 := Aside0.mk (Kd.C_below HL.out h3); clear h3)
    | (go_at_call 10; (with_reducible refine (putodd_calls L1.out Hk.out (by have := HN.out; omega) H0.out H1.out).mono ?_); rintro e w2 ⟨rfl, h3⟩; have B2 := Aside0.mk (below_then B1.out B1.out.size h3); have L2 := Aside0.mk (Kd.C_below L1.out h3); clear h3)
    | (go_at_call 11; (with_reducible refine (check_is L2.out Hk.out (by have := HN.out; omega) HCK.out).mono ?_); rintro e w3 ⟨rfl, h3⟩; have B3 := Aside0.mk (below_then B2.out B2.out.size h3); have L3 := Aside0.mk (Kd.C_below L2.out h3); clear h3)
    | (go_at_call 9; (with_reducible refine (lives_calls _).mono ?_); rintro e w4 ⟨rfl, h3⟩; have B4 := Aside0.mk (below_then B3.out B3.out.size h3); have L4 := Aside0.mk (Kd.C_below L3.out h3); clear h3))
  go_ret
  exact ⟨by first | rfl | simp, B4.out⟩
set_option maxHeartbeats 8000000 in
theorem puts_ok {L : Option Addr} {k : Nat} {l : List S39} {w : World} (hL : Kd.C k39 w L l.length l) (hk : l.length ≤ k) (hb : Bytes l) (hlg : largeB l 1100000 = false) (hck : checkM l = 0) :
    Calls Try.prog 3 #[.slice L l.length k] w fun e w' => e = .returned (.bool true) ∧ Below w.heap.size w w' := by
  have HN := Aside0.mk (large_no hlg).1
  have HL := Aside0.mk hL
  have Hk := Aside0.mk hk
  have HBY := Aside0.mk hb
  have HLG := Aside0.mk hlg
  have HF := Aside0.mk (check_ok hb hck)
  have HCK := Aside0.mk hck
  obtain ⟨b, hbb⟩ : ∃ b, putM l = b := ⟨_, rfl⟩
  have HP := Aside0.mk hbb
  have HGB := Aside0.mk (show getMM b = (l, (b.length : Int), 0) by
    have h := get_put_sec (check_ok hb hck).1 (check_ok hb hck).2
    rw [hbb] at h
    exact h)
  have HBR := Aside0.mk (show ∀ x ∈ b, 0 ≤ x ∧ x < 256 by rw [← hbb]; exact putM_range (good_of (check_ok hb hck).1))
  have HBL := Aside0.mk (show b.length ≤ 140737488351232 by
    have h := putM_length (good_of (check_ok hb hck).1)
    have h2 := (check_ok hb hck).2
    rw [hbb] at h
    omega)
  clear hck hbb hL hk hb hlg
  go_enter Try.func3, Try.ntmps3
  go_wp2_with (first
    | (go_at_call 8; (with_reducible refine (large_is HL.out Hk.out (by decide) HLG.out).mono ?_); rintro e w1 ⟨rfl, h3⟩; have B1 := Aside0.mk h3; have L1 := Aside0.mk (Kd.C_below HL.out h3); clear h3)
    | (go_at_call 10; (with_reducible refine (put_reads L1.out Hk.out HF.out.2 HF.out.1 HP.out).mono ?_); rintro e w2 ⟨⟨A2, c2, rfl, h1, h2⟩, h3⟩; have B2 := Aside0.mk (below_then B1.out B1.out.size h3); have L2 := Aside0.mk (Kd.C_below L1.out h3); have C2 := Aside0.mk h2; have c2l := Aside0.mk h1; clear h1 h2; clear h3)
    | (go_at_call 11; (with_reducible refine (check_is L2.out Hk.out (by have := HN.out; omega) HCK.out).mono ?_); rintro e w3 ⟨rfl, h3⟩; have B3 := Aside0.mk (below_then B2.out B2.out.size h3); have L3 := Aside0.mk (Kd.C_below L2.out h3); have C3 := Aside0.mk (Kd.C_below C2.out h3); clear h3)
    | (go_at_call 9; (with_reducible refine (lives_calls _).mono ?_); rintro e w4 ⟨rfl, h3⟩; have B4 := Aside0.mk (below_then B3.out B3.out.size h3); have L4 := Aside0.mk (Kd.C_below L3.out h3); have C4 := Aside0.mk (Kd.C_below C3.out h3); clear h3)
    | (go_at_call 12; (with_reducible refine (get_reads C4.out c2l.out HBR.out HBL.out HGB.out).mono ?_); rintro e w5 ⟨⟨A5, c5, rfl, h1, h2⟩, h3⟩; have B5 := Aside0.mk (below_then B4.out B4.out.size h3); have L5 := Aside0.mk (Kd.C_below L4.out h3); have C5 := Aside0.mk (Kd.C_below C4.out h3); have M5 := Aside0.mk h2; have c5l := Aside0.mk h1; clear h1 h2 h3))
  have FA := Aside0.mk (fun (W : World) (hB : Below w5.heap.size w5 W) => Kd.C_string (P := Try.prog) (A := A2) (c := c2) Try.underlying25 Try.underlying5 Try.underlying9 (Kd.C_below C5.out hB))
  have F0 := FA.out _ (Below.refl w5.heap.size w5).drew
  have BD := Aside0.mk (Below.refl w5.heap.size w5).drew
  refine start_ (n := 22) (S := fun w' => Sem.run Try.prog (convert 25 9 (.slice A2 b.length c2)) w' = .ok (.string (strOfNums b)) w') (ds := []) #[false, false, false, false, false, false, false, false, false, false, false, false, false, false, false, false, false, false, false, false, false, false] (by kernel_rfl) rfl rfl (F0) (fun hHeld => ?_)
  refine pure_ (i := 0) (N := some 37) (v := ?_) (a' := ?_) #[true, false, false, false, false, false, false, false, false, false, false, false, false, false, false, false, false, false, false, false, false, false] rfl rfl (by kernel_rfl) (fun _ _ _ h => h) (Or.inl ⟨by rfl, ?_⟩) ?_ ?_
  rotate_left
  · intro w'
    go_simp
    with_reducible rfl
  rotate_left
  · simp only [Act.put, List.setIfInBounds_toArray, List.set_cons_zero, List.set_cons_succ, i64_w, i32_w]
    rfl
  refine pure_ (i := 2) (N := some 39) (v := ?_) (a' := ?_) #[true, false, true, false, false, false, false, false, false, false, false, false, false, false, false, false, false, false, false, false, false, false] rfl rfl (by kernel_rfl) (fun _ _ _ h => h) (Or.inl ⟨by rfl, ?_⟩) ?_ ?_
  rotate_left
  · intro w'
    go_simp
    with_reducible rfl
  rotate_left
  · simp only [Act.put, List.setIfInBounds_toArray, List.set_cons_zero, List.set_cons_succ, i64_w, i32_w]
    rfl
  refine take_ (i := 1) (N := some 38) (v := ?_) (a' := ?_) #[true, true, true, false, false, false, false, false, false, false, false, false, false, false, false, false, false, false, false, false, false, false] rfl rfl (by kernel_rfl) (fun _ _ _ h => h) (Or.inl ⟨by rfl, ?_⟩) hHeld ?_ ?_
  rotate_left
  · intro w' s0
    go_simp
    with_reducible rfl
  rotate_left
  · simp only [Act.put, List.setIfInBounds_toArray, List.set_cons_zero, List.set_cons_succ, i64_w, i32_w]
    rfl
  refine one_ (i := 3) (N := some 40) #[true, true, true, true, false, false, false, false, false, false, false, false, false, false, false, false, false, false, false, false, false, false] rfl rfl (by kernel_rfl) (by decide) (fun K hK => ?_)
  refine goes_ Try.func13 (by kernel_rfl) rfl #[.slice L l.length k] (by rfl) rfl rfl (by simp only [List.map_toArray, List.map_cons, List.map_nil]; rfl) ?_
  with_reducible refine (rput_reads (Kd.C_below L5.out BD.out) (by have := HN.out; omega) (good_of HF.out.1) HP.out).mono ?_
  rintro e w6 ⟨⟨A6, c6, rfl, h1, h2⟩, h3⟩
  refine ⟨_, rfl, ?_⟩
  have B6 := Aside0.mk (below_then BD.out BD.out.size h3)
  have F1 := FA.out _ B6.out
  have k6 := Kd.C_string (P := Try.prog) (A := A6) (c := c6) Try.underlying25 Try.underlying5 Try.underlying9 h2
  clear h1 h2 h3
  refine hK.out _ _ (F1) (fun hHeld => ?_)
  clear hK K
  refine norm_ (a' := ?_) ?_ ?_
  rotate_left
  · show Act.put _ (some 40) _ = _
    simp only [Act.put, List.setIfInBounds_toArray, List.set_cons_zero, List.set_cons_succ, i64_w, i32_w]
    rfl
  refine one_ (i := 4) (N := some 41) #[true, true, true, true, true, false, false, false, false, false, false, false, false, false, false, false, false, false, false, false, false, false] rfl rfl (by kernel_rfl) (by decide) (fun K hK => ?_)
  refine value_ (w1 := ?_) (v := ?_) (by rfl) rfl ?_ ?_
  rotate_left 2
  · go_simp
    constructor
    · rfl
    · rfl
  refine hK.out _ _ (F1) (fun hHeld => ?_)
  clear hK K
  refine norm_ (a' := ?_) ?_ ?_
  rotate_left
  · show Act.put _ (some 41) _ = _
    simp only [Act.put, List.setIfInBounds_toArray, List.set_cons_zero, List.set_cons_succ, i64_w, i32_w]
    rfl
  refine pure_ (i := 5) (N := some 42) (v := ?_) (a' := ?_) #[true, true, true, true, true, true, false, false, false, false, false, false, false, false, false, false, false, false, false, false, false, false] rfl rfl (by kernel_rfl) (fun _ _ _ h => h) (Or.inl ⟨by rfl, ?_⟩) ?_ ?_
  rotate_left
  · intro w'
    go_simp
    with_reducible rfl
  rotate_left
  · simp only [Act.put, List.setIfInBounds_toArray, List.set_cons_zero, List.set_cons_succ, i64_w, i32_w]
    rfl
  refine pure_ (i := 6) (N := some 43) (v := ?_) (a' := ?_) #[true, true, true, true, true, true, true, false, false, false, false, false, false, false, false, false, false, false, false, false, false, false] rfl rfl (by kernel_rfl) (fun _ _ _ h => h) (Or.inl ⟨by rfl, ?_⟩) ?_ ?_
  rotate_left
  · intro w'
    go_simp
    with_reducible rfl
  rotate_left
  · simp only [Act.put, List.setIfInBounds_toArray, List.set_cons_zero, List.set_cons_succ, i64_w, i32_w]
    rfl
  refine pure_ (i := 7) (N := some 44) (v := ?_) (a' := ?_) #[true, true, true, true, true, true, true, true, false, false, false, false, false, false, false, false, false, false, false, false, false, false] rfl rfl (by kernel_rfl) (fun _ _ _ h => h) (Or.inl ⟨by rfl, ?_⟩) ?_ ?_
  rotate_left
  · intro w'
    go_simp
    with_reducible rfl
  rotate_left
  · simp only [Act.put, List.setIfInBounds_toArray, List.set_cons_zero, List.set_cons_succ, i64_w, i32_w]
    rfl
  refine pure_ (i := 8) (N := some 45) (v := ?_) (a' := ?_) #[true, true, true, true, true, true, true, true, true, false, false, false, false, false, false, false, false, false, false, false, false, false] rfl rfl (by kernel_rfl) (fun _ _ _ h => h) (Or.inl ⟨by rfl, ?_⟩) ?_ ?_
  rotate_left
  · intro w'
    go_simp
    with_reducible rfl
  rotate_left
  · simp only [Act.put, List.setIfInBounds_toArray, List.set_cons_zero, List.set_cons_succ, i64_w, i32_w]
    rfl
  refine pure_ (i := 9) (N := some 46) (v := ?_) (a' := ?_) #[true, true, true, true, true, true, true, true, true, true, false, false, false, false, false, false, false, false, false, false, false, false] rfl rfl (by kernel_rfl) (fun _ _ _ h => h) (Or.inl ⟨by rfl, ?_⟩) ?_ ?_
  rotate_left
  · intro w'
    go_simp
    with_reducible rfl
  rotate_left
  · simp only [Act.put, List.setIfInBounds_toArray, List.set_cons_zero, List.set_cons_succ, i64_w, i32_w]
    rfl
  refine pure_ (i := 10) (N := some 47) (v := ?_) (a' := ?_) #[true, true, true, true, true, true, true, true, true, true, true, false, false, false, false, false, false, false, false, false, false, false] rfl rfl (by kernel_rfl) (fun _ _ _ h => h) (Or.inl ⟨by rfl, ?_⟩) ?_ ?_
  rotate_left
  · intro w'
    go_simp
    with_reducible rfl
  rotate_left
  · simp only [Act.put, List.setIfInBounds_toArray, List.set_cons_zero, List.set_cons_succ, i64_w, i32_w]
    rfl
  refine pure_ (i := 11) (N := some 48) (v := ?_) (a' := ?_) #[true, true, true, true, true, true, true, true, true, true, true, true, false, false, false, false, false, false, false, false, false, false] rfl rfl (by kernel_rfl) (fun _ _ _ h => h) (Or.inl ⟨by rfl, ?_⟩) ?_ ?_
  rotate_left
  · intro w'
    go_simp
    with_reducible rfl
  rotate_left
  · simp only [Act.put, List.setIfInBounds_toArray, List.set_cons_zero, List.set_cons_succ, i64_w, i32_w]
    rfl
  refine pure_ (i := 12) (N := some 49) (v := ?_) (a' := ?_) #[true, true, true, true, true, true, true, true, true, true, true, true, true, false, false, false, false, false, false, false, false, false] rfl rfl (by kernel_rfl) (fun _ _ _ h => h) (Or.inl ⟨by rfl, ?_⟩) ?_ ?_
  rotate_left
  · intro w'
    go_simp
    with_reducible rfl
  rotate_left
  · simp only [Act.put, List.setIfInBounds_toArray, List.set_cons_zero, List.set_cons_succ, i64_w, i32_w]
    rfl
  refine pure_ (i := 13) (N := some 50) (v := ?_) (a' := ?_) #[true, true, true, true, true, true, true, true, true, true, true, true, true, true, false, false, false, false, false, false, false, false] rfl rfl (by kernel_rfl) (fun _ _ _ h => h) (Or.inl ⟨by rfl, ?_⟩) ?_ ?_
  rotate_left
  · intro w'
    go_simp
    with_reducible rfl
  rotate_left
  · simp only [Act.put, List.setIfInBounds_toArray, List.set_cons_zero, List.set_cons_succ, i64_w, i32_w]
    rfl
  refine pure_ (i := 14) (N := some 51) (v := ?_) (a' := ?_) #[true, true, true, true, true, true, true, true, true, true, true, true, true, true, true, false, false, false, false, false, false, false] rfl rfl (by kernel_rfl) (fun _ _ _ h => h) (Or.inl ⟨by rfl, ?_⟩) ?_ ?_
  rotate_left
  · intro w'
    go_simp
    with_reducible rfl
  rotate_left
  · simp only [Act.put, List.setIfInBounds_toArray, List.set_cons_zero, List.set_cons_succ, i64_w, i32_w]
    rfl
  refine pure_ (i := 15) (N := some 52) (v := ?_) (a' := ?_) #[true, true, true, true, true, true, true, true, true, true, true, true, true, true, true, true, false, false, false, false, false, false] rfl rfl (by kernel_rfl) (fun _ _ _ h => h) (Or.inl ⟨by rfl, ?_⟩) ?_ ?_
  rotate_left
  · intro w'
    go_simp
    with_reducible rfl
  rotate_left
  · simp only [Act.put, List.setIfInBounds_toArray, List.set_cons_zero, List.set_cons_succ, i64_w, i32_w]
    rfl
  refine pure_ (i := 16) (N := some 53) (v := ?_) (a' := ?_) #[true, true, true, true, true, true, true, true, true, true, true, true, true, true, true, true, true, false, false, false, false, false] rfl rfl (by kernel_rfl) (fun _ _ _ h => h) (Or.inl ⟨by rfl, ?_⟩) ?_ ?_
  rotate_left
  · intro w'
    go_simp
    with_reducible rfl
  rotate_left
  · simp only [Act.put, List.setIfInBounds_toArray, List.set_cons_zero, List.set_cons_succ, i64_w, i32_w]
    rfl
  refine pure_ (i := 17) (N := some 54) (v := ?_) (a' := ?_) #[true, true, true, true, true, true, true, true, true, true, true, true, true, true, true, true, true, true, false, false, false, false] rfl rfl (by kernel_rfl) (fun _ _ _ h => h) (Or.inl ⟨by rfl, ?_⟩) ?_ ?_
  rotate_left
  · intro w'
    go_simp
    with_reducible rfl
  rotate_left
  · simp only [Act.put, List.setIfInBounds_toArray, List.set_cons_zero, List.set_cons_succ, i64_w, i32_w]
    rfl
  refine pure_ (i := 18) (N := some 55) (v := ?_) (a' := ?_) #[true, true, true, true, true, true, true, true, true, true, true, true, true, true, true, true, true, true, true, false, false, false] rfl rfl (by kernel_rfl) (fun _ _ _ h => h) (Or.inl ⟨by rfl, ?_⟩) ?_ ?_
  rotate_left
  · intro w'
    go_simp
    with_reducible rfl
  rotate_left
  · simp only [Act.put, List.setIfInBounds_toArray, List.set_cons_zero, List.set_cons_succ, i64_w, i32_w]
    rfl
  refine one_ (i := 19) (N := some 56) #[true, true, true, true, true, true, true, true, true, true, true, true, true, true, true, true, true, true, true, true, false, false] rfl rfl (by kernel_rfl) (by decide) (fun K hK => ?_)
  refine goes_ Try.func14 (by kernel_rfl) rfl #[.slice L l.length k, .slice A5 l.length c5] (by rfl) rfl rfl (by simp only [List.map_toArray, List.map_cons, List.map_nil]; rfl) ?_
  with_reducible refine (rsame_self (Kd.C_below L5.out B6.out) Hk.out (Kd.C_below M5.out B6.out) c5l.out (by have := HN.out; omega) HBY.out).mono ?_
  rintro e w7 ⟨rfl, h3⟩
  refine ⟨_, rfl, ?_⟩
  have B7 := Aside0.mk (below_then B6.out B6.out.size h3)
  have F2 := FA.out _ B7.out
  clear h3
  refine hK.out _ _ (F2) (fun hHeld => ?_)
  clear hK K
  refine norm_ (a' := ?_) ?_ ?_
  rotate_left
  · show Act.put _ (some 56) _ = _
    simp only [Act.put, List.setIfInBounds_toArray, List.set_cons_zero, List.set_cons_succ, i64_w, i32_w]
    rfl
  refine pure_ (i := 20) (N := some 57) (v := ?_) (a' := ?_) #[true, true, true, true, true, true, true, true, true, true, true, true, true, true, true, true, true, true, true, true, true, false] rfl rfl (by kernel_rfl) (fun _ _ _ h => h) (Or.inl ⟨by rfl, ?_⟩) ?_ ?_
  rotate_left
  · intro w'
    go_simp
    with_reducible rfl
  rotate_left
  · simp only [Act.put, List.setIfInBounds_toArray, List.set_cons_zero, List.set_cons_succ, i64_w, i32_w]
    rfl
  refine pure_ (i := 21) (N := some 2) (v := ?_) (a' := ?_) #[true, true, true, true, true, true, true, true, true, true, true, true, true, true, true, true, true, true, true, true, true, true] rfl rfl (by kernel_rfl) (fun _ _ _ h => h) (Or.inl ⟨by rfl, ?_⟩) ?_ ?_
  rotate_left
  · intro w'
    go_simp
    with_reducible rfl
  rotate_left
  · simp only [Act.put, List.setIfInBounds_toArray, List.set_cons_zero, List.set_cons_succ, i64_w, i32_w]
    rfl
  refine done_ (by kernel_rfl) ?_
  go_wp2
  go_ret
  exact ⟨by first | rfl | simp, (below_then B5.out B5.out.size B7.out)⟩

theorem puts_law {L : Option Addr} {k : Nat} {l : List S39} {w : World} (hL : Kd.C k39 w L l.length l) (hk : l.length ≤ k) (hb : Bytes l) :
    Calls Try.prog 3 #[.slice L l.length k] w fun e w' => e = .returned (.bool true) ∧ Below w.heap.size w w' := by
  by_cases hlg : largeB l 1100000 = true
  · have HL := Aside0.mk hL
    have Hk := Aside0.mk hk
    have HLG := Aside0.mk hlg
    clear hL hk hb hlg
    go_enter Try.func3, Try.ntmps3
    go_wp2_with (first
      | (go_at_call 8; (with_reducible refine (large_is HL.out Hk.out (by decide) HLG.out).mono ?_); rintro e w1 ⟨rfl, h3⟩; have B1 := Aside0.mk h3; clear h3)
      | (go_at_call 9; (with_reducible refine (lives_calls _).mono ?_); rintro e w2 ⟨rfl, h3⟩; have B2 := Aside0.mk (below_then B1.out B1.out.size h3); clear h3))
    go_ret
    exact ⟨rfl, B2.out⟩
  have hlg : largeB l 1100000 = false := by simpa using hlg
  by_cases h0 : longM l = true
  · exact puts_long hL hk hb hlg h0
  have h0 : longM l = false := by simpa using h0
  by_cases h1 : oddM 0 l = true
  · exact puts_odd hL hk hb hlg h0 h1
  have h1 : oddM 0 l = false := by simpa using h1
  exact puts_ok hL hk hb hlg (by unfold checkM; rw [h0, h1]; rfl)
end Go.Proofs.Ytnohflfpahokiaa.Sec
