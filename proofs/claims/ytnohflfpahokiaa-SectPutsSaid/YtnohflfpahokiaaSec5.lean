/- Sections: Put, the reference's and the program's. -/
import Derived.Test.YtnohflfpahokiaaSec4
import Derived.Laws.EntriesVeiled
set_option linter.unusedVariables false
set_option linter.unusedSimpArgs false
set_option maxRecDepth 20000
namespace Go.Proofs.Ytnohflfpahokiaa.Sec
open Go Go.RowKit Go.Proofs.YtnohflfpahokiaaW.PrintWords Go.Proofs.YtnohflfpahokiaaW.PrintLast Go.Proofs.Ytnohflfpahokiaa.LebM Go.Proofs.Ytnohflfpahokiaa.Leb
open Go.Proofs.Ytnohflfpahokiaa.PAll (S39 k39 z39 rd_T39 at_T39)
open Go.Proofs.Ytnohflfpahokiaa.Rd (Kp info5)
open Go.Proofs.Ytnohflfpahokiaa.Crc (sumI sumI_range)
open Go.Proofs.Ytnohflfpahokiaa.Head (head5)

def secsB (l : List S39) : List Int := l.flatMap fun s => secB s.f0 s.f1
def putM (l : List S39) : List Int := head5 ++ secsB l
theorem secsB_app (a b : List S39) : secsB (a ++ b) = secsB a ++ secsB b := by unfold secsB; rw [List.flatMap_append]
theorem take_succ_of {l : List S39} {j : Nat} {x : S39} (h : l[j]? = some x) : l.take (j + 1) = l.take j ++ [x] := by
  rw [List.take_add_one, h]
  rfl
theorem putM_succ {l : List S39} {j : Nat} {x : S39} (h : l[j]? = some x) : putM (l.take (j + 1)) = putM (l.take j) ++ secB x.f0 x.f1 := by
  unfold putM
  rw [take_succ_of h, secsB_app, ← List.append_assoc]
  simp [secsB]
/-- sections that a machine bears -/
def Good (l : List S39) : Prop := ∀ s ∈ l, (∀ x ∈ s.f1, 0 ≤ x ∧ x < 256) ∧ s.f1.length ≤ 10000000
theorem secsB_length {l : List S39} (h : Good l) : (secsB l).length ≤ 10000015 * l.length := by
  induction l with
  | nil => simp [secsB]
  | cons a r ih =>
    have h1 := ih (fun s hs => h s (List.mem_cons_of_mem _ hs))
    have h2 := (h a List.mem_cons_self).2
    have h3 := secB_length a.f0 a.f1
    have e : secsB (a :: r) = secB a.f0 a.f1 ++ secsB r := by simp [secsB]
    rw [e, List.length_append, List.length_cons]
    omega
theorem secsB_range {l : List S39} (h : Good l) : ∀ x ∈ secsB l, 0 ≤ x ∧ x < 256 := by
  intro x hx
  obtain ⟨s, hs, hx⟩ := List.mem_flatMap.1 hx
  exact secB_range s.f0 (h s hs).1 (h s hs).2 x hx
theorem putM_range {l : List S39} (h : Good l) : ∀ x ∈ putM l, 0 ≤ x ∧ x < 256 := by
  intro x hx
  rcases List.mem_append.1 hx with hx | hx
  · simp [head5] at hx; omega
  · exact secsB_range h x hx
theorem putM_length {l : List S39} (h : Good l) : (putM l).length ≤ 5 + 10000015 * l.length := by
  have := secsB_length h
  unfold putM
  rw [List.length_append]
  simp [head5]
  omega
theorem good_take {l : List S39} (h : Good l) (j : Nat) : Good (l.take j) := fun s hs => h s (List.mem_of_mem_take hs)
set_option maxHeartbeats 4000000 in
theorem rput_calls {L : Option Addr} {k : Nat} {l : List S39} {w : World} (hL : Kd.C k39 w L l.length l) (hn : l.length ≤ 1000) (hg : Good l) :
    Calls Try.prog 13 #[.slice L l.length k] w fun e w' => ∃ v, e = .returned v ∧ (Kd.int .u8).R 5 w' w.heap.size (fun _ => True) v (putM l) ∧ Below w.heap.size w w' := by
  have HL := Aside0.mk hL
  have HN := Aside0.mk hn
  have HG := Aside0.mk hg
  clear hL hn hg
  go_enter Try.func13, Try.ntmps13
  go_wp2_with (go_at_call 30; (with_reducible refine (Head.rhead_calls _).mono ?_); rintro e w1 ⟨v1, rfl, h1, h2⟩; have RH := Aside0.mk h1; have BH := Aside0.mk h2; clear h1 h2)
  go_loopg [3, 4] l.length (fun gk v3 v4 w' => ∃ j : Nat, v4 = .int .i64 (j : Int) ∧ Aside0 (j + gk = l.length) ∧ Aside0 ((Kd.int .u8).R 5 w' w.heap.size (fun _ => True) v3 (putM (l.take j))) ∧ Aside0 (Below w.heap.size w w'))
  case atStart => exact ⟨0, rfl, ⟨by omega⟩, ⟨by simpa [putM, secsB] using RH.out⟩, BH⟩
  case round =>
    obtain ⟨j, rfl, HJ, HR, HBl⟩ := hrel
    have HX := Aside0.mk (putM_length (good_take HG.out j))
    have HXl := Aside0.mk (show (putM (l.take j)).length ≤ 5 + 10000015 * 1000 by
      have h1 := HX.out
      rw [List.length_take] at h1
      have := HN.out
      have h3 : min j l.length ≤ 1000 := by omega
      omega)
    by_cases hj : j < l.length
    · obtain ⟨ad, x, A1, c1, hAd, hx, q0, q1, h4, h5⟩ := at_sec HL.out j hj
      have hg := HG.out x (List.mem_of_getElem? hx)
      have hps := putM_succ hx
      obtain ⟨t, ys⟩ := x
      have Q0 : wr.cell? (ad.add (j * 2)) = some (.int .i64 t) := ((HBl.out).cell (World.block_lt_of_cell? w _ q0)).trans q0
      have Q1 : wr.cell? ⟨(ad.add (j * 2)).block, (ad.add (j * 2)).off + 1, none⟩ = some (.slice A1 ys.length c1) := ((HBl.out).cell (World.block_lt_of_cell? w _ q1)).trans q1
      have H5 := Aside0.mk (Kd.C_below h5 HBl.out)
      have H4 := Aside0.mk h4
      have HGx := Aside0.mk hg
      have HPS := Aside0.mk hps
      have HSL := Aside0.mk (secB_length t ys)
      have HJ2 := Aside0.mk hj
      have d1 : decide ((j : Int) < (l.length : Int)) = true := decide_eq_true (by omega)
      have d1n : decide (j < l.length) = true := decide_eq_true hj
      have p1 : 0 ≤ (j : Int) := by omega
      have hw : wrap64 ((j : Int) + 1) = ((j + 1 : Nat) : Int) := by unfold wrap64; have := HN.out; omega
      have HW := Aside0.mk hw
      have hu39 := Try.underlying39
      subst hAd
      clear q0 q1 hx h4 h5 hg hps
      go_wp2_with (first
        | (go_at_call 31; (with_reducible refine (one_calls t H5.out H4.out HGx.out.1 HGx.out.2).mono ?_); rintro e w5 ⟨v5, rfl, h1, h2⟩; obtain ⟨A5, c5, rfl, hc5, hC5⟩ := Kd.R_reads h1; have C5 := Aside0.mk hC5; have R5 := Aside0.mk (Kd.R_below HR.out h2); have B5 := Aside0.mk (below_then HBl.out (HBl.out).size h2); clear h1 h2 hc5 hC5)
        | (at_builtin; refine Kd.R_append_rows (Kd.int .u8) (w0 := w) w.heap.size rfl (.tmp 12) (.tmp 17) 25 5 (.int .u8 0) 1 rfl Try.underlying25 info5 rfl (by decide) (by omega) _ (putM (l.take j)) (secB t ys) A5 (secB t ys).length c5 (fun _ => True) (fun _ => False) rfl rfl R5.out C5.out (fun _ _ h => h) (fun _ h => h.elim) (fun _ _ => trivial) B5.out B5.out.size (by have := HXl.out; have := HGx.out.2; have := HSL.out; omega) ?_; intro v6 w6 h1 h2 h3 h4; have R6 := Aside0.mk h1; have B6 := Aside0.mk h2; clear h1 h2 h3 h4))
      go_roundg (gk - 1)
      case measure => have := HJ.out; have := HJ2.out; omega
      case rel => exact ⟨j + 1, by first | rw [HW.out] | go_num, ⟨by have := HJ.out; have := HJ2.out; omega⟩, ⟨by rw [HPS.out]; exact R6.out⟩, B6⟩
    · have d1 : decide ((j : Int) < (l.length : Int)) = false := decide_eq_false (by omega)
      have d1n : decide (j < l.length) = false := decide_eq_false hj
      have hjl : j = l.length := by have := HJ.out; omega
      subst hjl
      have HRE := Aside0.mk (show (Kd.int .u8).R 5 wr w.heap.size (fun _ => True) _ (putM l) by have h := HR.out; rw [List.take_length] at h; exact h)
      clear hj HR
      go_wp2
      go_ret
      exact ⟨_, rfl, HRE.out, HBl.out⟩
set_option maxHeartbeats 8000000 in
theorem putlong_calls {L : Option Addr} {k : Nat} {l : List S39} {w : World} (hL : Kd.C k39 w L l.length l) (hk : l.length ≤ k) (hn : l.length ≤ 9223372036854775806) (h0 : longM l = true) :
    Calls Try.prog 10 #[.slice L l.length k] w fun e w' => e = .returned (.tuple #[.slice none 0 0, .int .i64 3]) ∧ Below w.heap.size w w' := by
  obtain ⟨V, hV⟩ : ∃ V, w.alloc (.cells #[.int .i64 3, .func (.func 21) #[] #[], .int .i64 41, .func (.func 22) #[] #[]] 47) = V := ⟨_, rfl⟩
  have BV := Aside0.mk (show Below w.heap.size w V by rw [← hV]; exact below_alloc (Below.refl _ _) _)
  have KB := Aside0.mk (show V.heap[w.heap.size]? = some (.cells #[.int .i64 3, .func (.func 21) #[] #[], .int .i64 41, .func (.func 22) #[] #[]] 47 (0, 0)) by rw [← hV]; exact blk_new w _)
  have HL := Aside0.mk hL
  have HK := Aside0.mk hk
  have HNN := Aside0.mk hn
  have H0 := Aside0.mk h0
  have hu47 := Try.underlying47
  clear hL hk hn h0
  go_enter Try.func10, Try.ntmps10
  go_wp2
  go_loopg [13] 2 (fun gk v13 w' => (v13 = .int .i64 0 ∧ gk = 2) ∧ Aside0 (Below V.heap.size V w'))
  case atStart => exact ⟨⟨rfl, rfl⟩, ⟨Below.refl _ _⟩⟩
  case round =>
    obtain ⟨hj, HB0⟩ := hrel
    have KW := blk_below KB.out HB0.out
    have BW := Aside0.mk (below_then BV.out BV.out.size HB0.out)
    have k0 := (blk_cell KW 0).trans rfl
    have k1 := (blk_cell KW 1).trans rfl
    have k2 := (blk_cell KW 2).trans rfl
    have k3 := (blk_cell KW 3).trans rfl
    rcases hj with ⟨rfl, hgk⟩
    · have HGK := Aside0.mk hgk
      clear hgk KW
      obtain ⟨V2, hV2⟩ : ∃ V2, wr.alloc (.cells #[.int .i64 3, .func (.func 21) #[] #[]] 47) = V2 := ⟨_, rfl⟩
      have B2 := Aside0.mk (show Below V.heap.size V V2 by rw [← hV2]; exact below_then HB0.out HB0.out.size (below_alloc (Below.refl _ _) _))
      have KB2 := Aside0.mk (show V2.heap[wr.heap.size]? = some (.cells #[.int .i64 3, .func (.func 21) #[] #[]] 47 (0, 0)) by rw [← hV2]; exact blk_new wr _)
      have c0 := (blk_cell KB2.out 0).trans rfl
      have c1 := (blk_cell KB2.out 1).trans rfl
      have HLW := Aside0.mk (Kd.C_below HL.out (below_then BV.out BV.out.size B2.out))
      go_wp2_with (go_at_call 21; (with_reducible refine (long_calls HLW.out HK.out HNN.out).mono ?_); rintro e w3 ⟨rfl, h1⟩; rw [H0.out]; have B3 := Aside0.mk (below_then B2.out B2.out.size h1); have KB3 := Aside0.mk (blk_below KB2.out h1); clear h1)
      have KB4 := Aside0.mk (blk_below KB3.out (Below.refl _ _).drew)
      have c3 : w3.drew.cell? ⟨wr.heap.size, 0, none⟩ = some (.int .i64 3) := (blk_cell KB4.out 0).trans rfl
      refine start_ (n := 4) (S := fun w' => w'.cell? ⟨wr.heap.size, 0, none⟩ = some (.int .i64 3)) (ds := []) #[false, false, false, false] (by kernel_rfl) rfl rfl (c3) (fun hHeld => ?_)
      refine pure_ (i := 0) (N := some 21) (v := ?_) (a' := ?_) #[true, false, false, false] rfl rfl (by kernel_rfl) (fun _ _ _ h => h) (Or.inl ⟨by rfl, ?_⟩) ?_ ?_
      rotate_left
      · intro w'
        go_simp
        with_reducible rfl
      rotate_left
      · simp only [Act.put, List.setIfInBounds_toArray, List.set_cons_zero, List.set_cons_succ, i64_w, i32_w]
        rfl
      refine pure_ (i := 2) (N := some 2) (v := ?_) (a' := ?_) #[true, false, true, false] rfl rfl (by kernel_rfl) (fun _ _ _ h => h) (Or.inl ⟨by rfl, ?_⟩) ?_ ?_
      rotate_left
      · intro w'
        go_simp
        with_reducible rfl
      rotate_left
      · simp only [Act.put, List.setIfInBounds_toArray, List.set_cons_zero, List.set_cons_succ, i64_w, i32_w]
        rfl
      refine take_ (i := 1) (N := some 22) (v := ?_) (a' := ?_) #[true, true, true, false] rfl rfl (by kernel_rfl) (fun _ _ _ h => h) (Or.inl ⟨by rfl, ?_⟩) hHeld ?_ ?_
      rotate_left
      · intro w' s0
        go_simp
        with_reducible rfl
      rotate_left
      · simp only [Act.put, List.setIfInBounds_toArray, List.set_cons_zero, List.set_cons_succ, i64_w, i32_w]
        rfl
      refine pure_ (i := 3) (N := some 3) (v := ?_) (a' := ?_) #[true, true, true, true] rfl rfl (by kernel_rfl) (fun _ _ _ h => h) (Or.inl ⟨by rfl, ?_⟩) ?_ ?_
      rotate_left
      · intro w'
        go_simp
        with_reducible rfl
      rotate_left
      · simp only [Act.put, List.setIfInBounds_toArray, List.set_cons_zero, List.set_cons_succ, i64_w, i32_w]
        rfl
      refine done_ (by kernel_rfl) ?_
      go_wp2
      go_ret2
      exact ⟨rfl, (below_then BV.out BV.out.size B3.out).drew⟩
set_option maxHeartbeats 8000000 in
theorem putodd_calls {L : Option Addr} {k : Nat} {l : List S39} {w : World} (hL : Kd.C k39 w L l.length l) (hk : l.length ≤ k) (hn : l.length ≤ 9223372036854775806) (h0 : longM l = false) (h1 : oddM 0 l = true) :
    Calls Try.prog 10 #[.slice L l.length k] w fun e w' => e = .returned (.tuple #[.slice none 0 0, .int .i64 41]) ∧ Below w.heap.size w w' := by
  obtain ⟨V, hV⟩ : ∃ V, w.alloc (.cells #[.int .i64 3, .func (.func 21) #[] #[], .int .i64 41, .func (.func 22) #[] #[]] 47) = V := ⟨_, rfl⟩
  have BV := Aside0.mk (show Below w.heap.size w V by rw [← hV]; exact below_alloc (Below.refl _ _) _)
  have KB := Aside0.mk (show V.heap[w.heap.size]? = some (.cells #[.int .i64 3, .func (.func 21) #[] #[], .int .i64 41, .func (.func 22) #[] #[]] 47 (0, 0)) by rw [← hV]; exact blk_new w _)
  have HL := Aside0.mk hL
  have HK := Aside0.mk hk
  have HNN := Aside0.mk hn
  have H0 := Aside0.mk h0
  have H1 := Aside0.mk h1
  have hu47 := Try.underlying47
  clear hL hk hn h0 h1
  go_enter Try.func10, Try.ntmps10
  go_wp2
  go_loopg [13] 2 (fun gk v13 w' => ((v13 = .int .i64 0 ∧ gk = 2) ∨ (v13 = .int .i64 1 ∧ gk = 1)) ∧ Aside0 (Below V.heap.size V w'))
  case atStart => exact ⟨.inl ⟨rfl, rfl⟩, ⟨Below.refl _ _⟩⟩
  case round =>
    obtain ⟨hj, HB0⟩ := hrel
    have KW := blk_below KB.out HB0.out
    have BW := Aside0.mk (below_then BV.out BV.out.size HB0.out)
    have k0 := (blk_cell KW 0).trans rfl
    have k1 := (blk_cell KW 1).trans rfl
    have k2 := (blk_cell KW 2).trans rfl
    have k3 := (blk_cell KW 3).trans rfl
    rcases hj with ⟨rfl, hgk⟩ | ⟨rfl, hgk⟩
    · have HGK := Aside0.mk hgk
      clear hgk KW
      obtain ⟨V2, hV2⟩ : ∃ V2, wr.alloc (.cells #[.int .i64 3, .func (.func 21) #[] #[]] 47) = V2 := ⟨_, rfl⟩
      have B2 := Aside0.mk (show Below V.heap.size V V2 by rw [← hV2]; exact below_then HB0.out HB0.out.size (below_alloc (Below.refl _ _) _))
      have KB2 := Aside0.mk (show V2.heap[wr.heap.size]? = some (.cells #[.int .i64 3, .func (.func 21) #[] #[]] 47 (0, 0)) by rw [← hV2]; exact blk_new wr _)
      have c0 := (blk_cell KB2.out 0).trans rfl
      have c1 := (blk_cell KB2.out 1).trans rfl
      have HLW := Aside0.mk (Kd.C_below HL.out (below_then BV.out BV.out.size B2.out))
      go_wp2_with (go_at_call 21; (with_reducible refine (long_calls HLW.out HK.out HNN.out).mono ?_); rintro e w3 ⟨rfl, h1⟩; rw [H0.out]; have B3 := Aside0.mk (below_then B2.out B2.out.size h1); have KB3 := Aside0.mk (blk_below KB2.out h1); clear h1)
      go_roundg 1
      case measure => have := HGK.out; omega
      case rel => exact ⟨.inr ⟨rfl, rfl⟩, B3⟩
    · have HGK := Aside0.mk hgk
      clear hgk KW
      obtain ⟨V2, hV2⟩ : ∃ V2, wr.alloc (.cells #[.int .i64 41, .func (.func 22) #[] #[]] 47) = V2 := ⟨_, rfl⟩
      have B2 := Aside0.mk (show Below V.heap.size V V2 by rw [← hV2]; exact below_then HB0.out HB0.out.size (below_alloc (Below.refl _ _) _))
      have KB2 := Aside0.mk (show V2.heap[wr.heap.size]? = some (.cells #[.int .i64 41, .func (.func 22) #[] #[]] 47 (0, 0)) by rw [← hV2]; exact blk_new wr _)
      have c0 := (blk_cell KB2.out 0).trans rfl
      have c1 := (blk_cell KB2.out 1).trans rfl
      have HLW := Aside0.mk (Kd.C_below HL.out (below_then BV.out BV.out.size B2.out))
      go_wp2_with (go_at_call 22; (with_reducible refine (odd_calls HLW.out HK.out HNN.out).mono ?_); rintro e w3 ⟨rfl, h1⟩; rw [H1.out]; have B3 := Aside0.mk (below_then B2.out B2.out.size h1); have KB3 := Aside0.mk (blk_below KB2.out h1); clear h1)
      have KB4 := Aside0.mk (blk_below KB3.out (Below.refl _ _).drew)
      have c3 : w3.drew.cell? ⟨wr.heap.size, 0, none⟩ = some (.int .i64 41) := (blk_cell KB4.out 0).trans rfl
      refine start_ (n := 4) (S := fun w' => w'.cell? ⟨wr.heap.size, 0, none⟩ = some (.int .i64 41)) (ds := []) #[false, false, false, false] (by kernel_rfl) rfl rfl (c3) (fun hHeld => ?_)
      refine pure_ (i := 0) (N := some 21) (v := ?_) (a' := ?_) #[true, false, false, false] rfl rfl (by kernel_rfl) (fun _ _ _ h => h) (Or.inl ⟨by rfl, ?_⟩) ?_ ?_
      rotate_left
      · intro w'
        go_simp
        with_reducible rfl
      rotate_left
      · simp only [Act.put, List.setIfInBounds_toArray, List.set_cons_zero, List.set_cons_succ, i64_w, i32_w]
        rfl
      refine pure_ (i := 2) (N := some 2) (v := ?_) (a' := ?_) #[true, false, true, false] rfl rfl (by kernel_rfl) (fun _ _ _ h => h) (Or.inl ⟨by rfl, ?_⟩) ?_ ?_
      rotate_left
      · intro w'
        go_simp
        with_reducible rfl
      rotate_left
      · simp only [Act.put, List.setIfInBounds_toArray, List.set_cons_zero, List.set_cons_succ, i64_w, i32_w]
        rfl
      refine take_ (i := 1) (N := some 22) (v := ?_) (a' := ?_) #[true, true, true, false] rfl rfl (by kernel_rfl) (fun _ _ _ h => h) (Or.inl ⟨by rfl, ?_⟩) hHeld ?_ ?_
      rotate_left
      · intro w' s0
        go_simp
        with_reducible rfl
      rotate_left
      · simp only [Act.put, List.setIfInBounds_toArray, List.set_cons_zero, List.set_cons_succ, i64_w, i32_w]
        rfl
      refine pure_ (i := 3) (N := some 3) (v := ?_) (a' := ?_) #[true, true, true, true] rfl rfl (by kernel_rfl) (fun _ _ _ h => h) (Or.inl ⟨by rfl, ?_⟩) ?_ ?_
      rotate_left
      · intro w'
        go_simp
        with_reducible rfl
      rotate_left
      · simp only [Act.put, List.setIfInBounds_toArray, List.set_cons_zero, List.set_cons_succ, i64_w, i32_w]
        rfl
      refine done_ (by kernel_rfl) ?_
      go_wp2
      go_ret2
      exact ⟨rfl, (below_then BV.out BV.out.size B3.out).drew⟩
set_option maxHeartbeats 8000000 in
theorem putok_calls {L : Option Addr} {k : Nat} {l : List S39} {w : World} (hL : Kd.C k39 w L l.length l) (hk : l.length ≤ k) (hn : l.length ≤ 9223372036854775806) (hnn : l.length ≤ 1000) (hg : Good l) (h0 : longM l = false) (h1 : oddM 0 l = false) :
    Calls Try.prog 10 #[.slice L l.length k] w fun e w' => (∃ v, e = .returned (.tuple #[v, .int .i64 0]) ∧ (Kd.int .u8).R 5 w' w.heap.size (fun _ => True) v (putM l)) ∧ Below w.heap.size w w' := by
  obtain ⟨V, hV⟩ : ∃ V, w.alloc (.cells #[.int .i64 3, .func (.func 21) #[] #[], .int .i64 41, .func (.func 22) #[] #[]] 47) = V := ⟨_, rfl⟩
  have BV := Aside0.mk (show Below w.heap.size w V by rw [← hV]; exact below_alloc (Below.refl _ _) _)
  have KB := Aside0.mk (show V.heap[w.heap.size]? = some (.cells #[.int .i64 3, .func (.func 21) #[] #[], .int .i64 41, .func (.func 22) #[] #[]] 47 (0, 0)) by rw [← hV]; exact blk_new w _)
  have HL := Aside0.mk hL
  have HK := Aside0.mk hk
  have HNN := Aside0.mk hn
  have H0 := Aside0.mk h0
  have H1 := Aside0.mk h1
  have HN := Aside0.mk hnn
  have HG := Aside0.mk hg
  have hu47 := Try.underlying47
  clear hL hk hn hnn hg h0 h1
  go_enter Try.func10, Try.ntmps10
  go_wp2
  go_loopg [13] 2 (fun gk v13 w' => ((v13 = .int .i64 0 ∧ gk = 2) ∨ (v13 = .int .i64 1 ∧ gk = 1) ∨ (v13 = .int .i64 2 ∧ gk = 0)) ∧ Aside0 (Below V.heap.size V w'))
  case atStart => exact ⟨.inl ⟨rfl, rfl⟩, ⟨Below.refl _ _⟩⟩
  case round =>
    obtain ⟨hj, HB0⟩ := hrel
    have KW := blk_below KB.out HB0.out
    have BW := Aside0.mk (below_then BV.out BV.out.size HB0.out)
    have k0 := (blk_cell KW 0).trans rfl
    have k1 := (blk_cell KW 1).trans rfl
    have k2 := (blk_cell KW 2).trans rfl
    have k3 := (blk_cell KW 3).trans rfl
    rcases hj with ⟨rfl, hgk⟩ | ⟨rfl, hgk⟩ | ⟨rfl, hgk⟩
    · have HGK := Aside0.mk hgk
      clear hgk KW
      obtain ⟨V2, hV2⟩ : ∃ V2, wr.alloc (.cells #[.int .i64 3, .func (.func 21) #[] #[]] 47) = V2 := ⟨_, rfl⟩
      have B2 := Aside0.mk (show Below V.heap.size V V2 by rw [← hV2]; exact below_then HB0.out HB0.out.size (below_alloc (Below.refl _ _) _))
      have KB2 := Aside0.mk (show V2.heap[wr.heap.size]? = some (.cells #[.int .i64 3, .func (.func 21) #[] #[]] 47 (0, 0)) by rw [← hV2]; exact blk_new wr _)
      have c0 := (blk_cell KB2.out 0).trans rfl
      have c1 := (blk_cell KB2.out 1).trans rfl
      have HLW := Aside0.mk (Kd.C_below HL.out (below_then BV.out BV.out.size B2.out))
      go_wp2_with (go_at_call 21; (with_reducible refine (long_calls HLW.out HK.out HNN.out).mono ?_); rintro e w3 ⟨rfl, h1⟩; rw [H0.out]; have B3 := Aside0.mk (below_then B2.out B2.out.size h1); have KB3 := Aside0.mk (blk_below KB2.out h1); clear h1)
      go_roundg 1
      case measure => have := HGK.out; omega
      case rel => exact ⟨.inr (.inl ⟨rfl, rfl⟩), B3⟩
    · have HGK := Aside0.mk hgk
      clear hgk KW
      obtain ⟨V2, hV2⟩ : ∃ V2, wr.alloc (.cells #[.int .i64 41, .func (.func 22) #[] #[]] 47) = V2 := ⟨_, rfl⟩
      have B2 := Aside0.mk (show Below V.heap.size V V2 by rw [← hV2]; exact below_then HB0.out HB0.out.size (below_alloc (Below.refl _ _) _))
      have KB2 := Aside0.mk (show V2.heap[wr.heap.size]? = some (.cells #[.int .i64 41, .func (.func 22) #[] #[]] 47 (0, 0)) by rw [← hV2]; exact blk_new wr _)
      have c0 := (blk_cell KB2.out 0).trans rfl
      have c1 := (blk_cell KB2.out 1).trans rfl
      have HLW := Aside0.mk (Kd.C_below HL.out (below_then BV.out BV.out.size B2.out))
      go_wp2_with (go_at_call 22; (with_reducible refine (odd_calls HLW.out HK.out HNN.out).mono ?_); rintro e w3 ⟨rfl, h1⟩; rw [H1.out]; have B3 := Aside0.mk (below_then B2.out B2.out.size h1); have KB3 := Aside0.mk (blk_below KB2.out h1); clear h1)
      go_roundg 0
      case measure => have := HGK.out; omega
      case rel => exact ⟨.inr (.inr ⟨rfl, rfl⟩), B3⟩
    · have HGK := Aside0.mk hgk
      clear hgk KW
      go_wp2_with (go_at_call 23; (with_reducible refine (Head.head_calls _).mono ?_); rintro e w1 ⟨v1, rfl, h1, h2⟩; have RH := Aside0.mk (Kd.R_lower h1 BW.out.size); have BH := Aside0.mk (below_then BW.out BW.out.size h2); clear h1 h2)
      go_loopg [6, 27] l.length (fun gk v6 v27 w' => ∃ j : Nat, v27 = .int .i64 (j : Int) ∧ Aside0 (j + gk = l.length) ∧ Aside0 ((Kd.int .u8).R 5 w' w.heap.size (fun _ => True) v6 (putM (l.take j))) ∧ Aside0 (Below w.heap.size w w'))
      case atStart => exact ⟨0, rfl, ⟨by omega⟩, ⟨by simpa [putM, secsB] using RH.out⟩, BH⟩
      case round =>
        obtain ⟨j, rfl, HJ, HR, HBl⟩ := hrel
        have HX := Aside0.mk (putM_length (good_take HG.out j))
        have HXl := Aside0.mk (show (putM (l.take j)).length ≤ 5 + 10000015 * 1000 by
          have h1 := HX.out
          rw [List.length_take] at h1
          have := HN.out
          have h3 : min j l.length ≤ 1000 := by omega
          omega)
        by_cases hj : j < l.length
        · obtain ⟨ad, x, A1, c1, hAd, hx, q0, q1, h4, h5⟩ := at_sec HL.out j hj
          have hg := HG.out x (List.mem_of_getElem? hx)
          have hps := putM_succ hx
          obtain ⟨t, ys⟩ := x
          have Q0 : wr.cell? (ad.add (j * 2)) = some (.int .i64 t) := ((HBl.out).cell (World.block_lt_of_cell? w _ q0)).trans q0
          have Q1 : wr.cell? ⟨(ad.add (j * 2)).block, (ad.add (j * 2)).off + 1, none⟩ = some (.slice A1 ys.length c1) := ((HBl.out).cell (World.block_lt_of_cell? w _ q1)).trans q1
          obtain ⟨V3, hV3⟩ : ∃ V3, wr.alloc (.cells #[.int .i64 t, .slice A1 ys.length c1] 39) = V3 := ⟨_, rfl⟩
          have B30 := Aside0.mk (show Below wr.heap.size wr V3 by rw [← hV3]; exact below_alloc (Below.refl _ _) _)
          have B3 := Aside0.mk (below_then HBl.out HBl.out.size B30.out)
          have HRV := Aside0.mk (Kd.R_below HR.out B30.out)
          have SB := Aside0.mk (show SBox V3 wr.heap.size t A1 ys.length c1 by rw [← hV3]; exact ⟨blk_new wr _⟩)
          have s0 := SB.out.c0
          have s1 := SB.out.c1
          have H5 := Aside0.mk (Kd.C_below h5 B3.out)
          have H4 := Aside0.mk h4
          have HGx := Aside0.mk hg
          have HPS := Aside0.mk hps
          have HSL := Aside0.mk (secB_length t ys)
          have HJ2 := Aside0.mk hj
          have d1 : decide ((j : Int) < (l.length : Int)) = true := decide_eq_true (by omega)
          have d1n : decide (j < l.length) = true := decide_eq_true hj
          have p1 : 0 ≤ (j : Int) := by omega
          have hw : wrap64 ((j : Int) + 1) = ((j + 1 : Nat) : Int) := by unfold wrap64; have := HN.out; omega
          have HW := Aside0.mk hw
          have hu39 := Try.underlying39
          subst hAd
          clear q0 q1 hx h4 h5 hg hps
          go_wp2_with (first
            | (go_at_call 24; (with_reducible refine (put_calls t H5.out H4.out HGx.out.1 HGx.out.2).mono ?_); rintro e w5 ⟨v5, rfl, h1, h2⟩; obtain ⟨A5, c5, rfl, hc5, hC5⟩ := Kd.R_reads h1; have C5 := Aside0.mk hC5; have R5 := Aside0.mk (Kd.R_below HRV.out h2); have B5 := Aside0.mk (below_then B3.out (B3.out).size h2); clear h1 h2 hc5 hC5)
            | (at_builtin; refine Kd.R_append_rows (Kd.int .u8) (w0 := w) w.heap.size rfl (.tmp 31) (.tmp 33) 25 5 (.int .u8 0) 1 rfl Try.underlying25 info5 rfl (by decide) (by omega) _ (putM (l.take j)) (secB t ys) A5 (secB t ys).length c5 (fun _ => True) (fun _ => False) rfl rfl R5.out C5.out (fun _ _ h => h) (fun _ h => h.elim) (fun _ _ => trivial) B5.out B5.out.size (by have := HXl.out; have := HGx.out.2; have := HSL.out; omega) ?_; intro v6 w6 h1 h2 h3 h4; have R6 := Aside0.mk h1; have B6 := Aside0.mk h2; clear h1 h2 h3 h4))
          go_roundg (gk - 1)
          case measure => have := HJ.out; have := HJ2.out; omega
          case rel => exact ⟨j + 1, by first | rw [HW.out] | go_num, ⟨by have := HJ.out; have := HJ2.out; omega⟩, ⟨by rw [HPS.out]; exact R6.out⟩, B6⟩
        · have d1 : decide ((j : Int) < (l.length : Int)) = false := decide_eq_false (by omega)
          have d1n : decide (j < l.length) = false := decide_eq_false hj
          have hjl : j = l.length := by have := HJ.out; omega
          subst hjl
          have HRE := Aside0.mk (show (Kd.int .u8).R 5 wr w.heap.size (fun _ => True) _ (putM l) by have h := HR.out; rw [List.take_length] at h; exact h)
          clear hj HR
          go_wp2
          go_ret2
          exact ⟨⟨_, rfl, HRE.out⟩, HBl.out⟩
end Go.Proofs.Ytnohflfpahokiaa.Sec
