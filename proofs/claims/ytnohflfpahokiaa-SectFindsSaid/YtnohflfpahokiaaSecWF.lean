/- SectFinds, walked: which body has any tag; whether two lists are the same. -/
import Derived.Test.YtnohflfpahokiaaSecWP
set_option linter.unusedVariables false
set_option linter.unusedSimpArgs false
set_option maxRecDepth 20000
namespace Go.Proofs.Ytnohflfpahokiaa.Sec
open Go Go.RowKit Go.Proofs.YtnohflfpahokiaaW.PrintWords Go.Proofs.YtnohflfpahokiaaW.PrintLast Go.Proofs.Ytnohflfpahokiaa.LebM Go.Proofs.Ytnohflfpahokiaa.Leb
open Go.Proofs.Ytnohflfpahokiaa.PAll (S39 k39 z39 rd_T39 at_T39)
open Go.Proofs.Ytnohflfpahokiaa.Rd (info5)
open Go.Proofs.Ytnohflfpahokiaa.Crc (sumI sumI_range)
open Go.Proofs.Ytnohflfpahokiaa.Head (head5)

theorem same_is {A B : Option Addr} {c d : Nat} {l m : List S39} {w : World} (hA : Kd.C k39 w A l.length l) (hB : Kd.C k39 w B m.length m) (hn : l.length ≤ 20) (hb : ∀ s ∈ l, (s.f1.length : Int) ≤ 5000) {r : Bool} (h : sameB l m = r) :
    Calls Try.prog 17 #[.slice A l.length c, .slice B m.length d] w fun e w' => e = .returned (.bool r) ∧ Below w.heap.size w w' := by
  refine (same_calls (c := c) (d := d) hA hB (by omega) (fun s hs => by have := hb s hs; omega)).mono ?_
  rintro e w' ⟨h1, h2⟩
  rw [h] at h1
  exact ⟨h1, h2⟩
theorem rsame_is {A B : Option Addr} {c d : Nat} {l m : List S39} {w : World} (hA : Kd.C k39 w A l.length l) (hc : l.length ≤ c) (hB : Kd.C k39 w B m.length m) (hd : m.length ≤ d) (hn : l.length ≤ 20) (hb : Bytes l) (hbm : Bytes m) {r : Bool} (h : sameB l m = r) :
    Calls Try.prog 14 #[.slice A l.length c, .slice B m.length d] w fun e w' => e = .returned (.bool r) ∧ Below w.heap.size w w' := by
  refine (rsame_calls hA hc hB hd (by omega) hb hbm).mono ?_
  rintro e w' ⟨h1, h2⟩
  rw [h] at h1
  exact ⟨h1, h2.below⟩
theorem find_reads {L : Option Addr} {k : Nat} {l : List S39} {w : World} (hL : Kd.C k39 w L l.length l) (hk : l.length ≤ k) (hn : l.length ≤ 20) (hb : ∀ s ∈ l, (s.f1.length : Int) ≤ 5000) (tag : Int) {ys : List Int} (hf : findM tag l = some ys) :
    Calls Try.prog 16 #[.slice L l.length k, .int .i64 tag] w fun e w' => (∃ A c, e = .returned (.tuple #[.slice A ys.length c, .bool true]) ∧ (Kd.int .u8).C w' A ys.length ys) ∧ Below w.heap.size w w' := by
  have hy : ys.length ≤ 140737488355328 := by
    unfold findM at hf
    obtain ⟨s, hs, rfl⟩ := Option.map_eq_some_iff.1 hf
    have := hb s (List.mem_of_find?_eq_some hs)
    omega
  refine (find_yes hL hk (by omega) tag hf hy).mono ?_
  rintro e w' ⟨⟨v, rfl, h1⟩, h2⟩
  obtain ⟨A, c, rfl, h3, h4⟩ := Kd.R_reads h1
  exact ⟨⟨A, c, rfl, h4⟩, h2⟩
theorem find_false {tag : Int} {l : List S39} (hf : findM tag l = none) : ∀ (i : Nat) (x : S39), l[i]? = some x → tagB tag x = false := by
  intro i x hx
  cases h : tagB tag x with
  | false => rfl
  | true =>
    unfold findM at hf
    rw [Option.map_eq_none_iff, List.find?_eq_none] at hf
    exact absurd h (hf x (List.mem_of_getElem? hx))
set_option maxHeartbeats 8000000 in
theorem finds_large {A B : Option Addr} {c d : Nat} {a b : List S39} {w : World} (hA : Kd.C k39 w A a.length a) (hc : a.length ≤ c) (hB : Kd.C k39 w B b.length b) (hd : b.length ≤ d) (tag : Int) (h : largeB a 5000 = true ∨ largeB b 5000 = true) :
    Calls Try.prog 5 #[.slice A a.length c, .slice B b.length d, .int .i64 tag] w fun e w' => e = .returned (.bool true) ∧ Below w.heap.size w w' := by
  have HA := Aside0.mk hA
  have Hc := Aside0.mk hc
  have HB := Aside0.mk hB
  have Hd := Aside0.mk hd
  cases hla : largeB a 5000 with
  | true =>
    have LA := Aside0.mk hla
    clear hA hc hB hd hla h
    go_enter Try.func5, Try.ntmps5
    go_wp2_with (first
      | (go_at_call 8; (with_reducible refine (large_is HA.out Hc.out (by decide) LA.out).mono ?_); rintro e w1 ⟨rfl, h3⟩; have B1 := Aside0.mk h3; clear h3)
      | (go_at_call 9; (with_reducible refine (lives_calls _).mono ?_); rintro e w3 ⟨rfl, h3⟩; have B3 := Aside0.mk (below_then B1.out B1.out.size h3); clear h3))
    go_ret
    exact ⟨rfl, B3.out⟩
  | false =>
    have LA := Aside0.mk hla
    have LB := Aside0.mk (show largeB b 5000 = true by rcases h with h | h; (rw [hla] at h; cases h); exact h)
    clear hA hc hB hd hla h
    go_enter Try.func5, Try.ntmps5
    go_wp2_with (first
      | (go_at_call 8; (with_reducible refine (large_is HA.out Hc.out (by decide) LA.out).mono ?_); rintro e w1 ⟨rfl, h3⟩; have B1 := Aside0.mk h3; have HB1 := Aside0.mk (Kd.C_below HB.out h3); clear h3)
      | (go_at_call 8; (with_reducible refine (large_is HB1.out Hd.out (by decide) LB.out).mono ?_); rintro e w2 ⟨rfl, h3⟩; have B2 := Aside0.mk (below_then B1.out B1.out.size h3); clear h3)
      | (go_at_call 9; (with_reducible refine (lives_calls _).mono ?_); rintro e w3 ⟨rfl, h3⟩; have B3 := Aside0.mk (below_then B2.out B2.out.size h3); clear h3))
    go_ret
    exact ⟨rfl, B3.out⟩
set_option maxHeartbeats 8000000 in
theorem finds_no {A B : Option Addr} {c d : Nat} {a b : List S39} {w : World} (hA : Kd.C k39 w A a.length a) (hc : a.length ≤ c) (hB : Kd.C k39 w B b.length b) (hd : b.length ≤ d) (hab : Bytes a) (hbb : Bytes b) (tag : Int) (hla : largeB a 5000 = false) (hlb : largeB b 5000 = false) (hf : findM tag a = none) :
    Calls Try.prog 5 #[.slice A a.length c, .slice B b.length d, .int .i64 tag] w fun e w' => e = .returned (.bool true) ∧ Below w.heap.size w w' := by
  have HA := Aside0.mk hA
  have Hc := Aside0.mk hc
  have HB := Aside0.mk hB
  have Hd := Aside0.mk hd
  have HAB := Aside0.mk hab
  have HBB := Aside0.mk hbb
  have LA := Aside0.mk hla
  have LB := Aside0.mk hlb
  have NA := Aside0.mk (large_no hla)
  have HF := Aside0.mk hf
  obtain ⟨sv, hsv⟩ : ∃ r, sameB a b = r := ⟨_, rfl⟩
  have HSV := Aside0.mk hsv
  clear hA hc hB hd hab hbb hla hlb hf hsv
  go_enter Try.func5, Try.ntmps5
  go_wp2_with (first
    | (go_at_call 8; (with_reducible refine (large_is HA.out Hc.out (by decide) LA.out).mono ?_); rintro e w1 ⟨rfl, h3⟩; have B1 := Aside0.mk h3; have HB1 := Aside0.mk (Kd.C_below HB.out h3); clear h3)
    | (go_at_call 8; (with_reducible refine (large_is HB1.out Hd.out (by decide) LB.out).mono ?_); rintro e w2 ⟨rfl, h3⟩; have B2 := Aside0.mk (below_then B1.out B1.out.size h3); clear h3)
    | (go_at_call 16; (with_reducible refine (find_no (Kd.C_below HA.out B2.out) Hc.out (by have := NA.out.1; omega) tag HF.out).mono ?_); rintro e w3 ⟨rfl, h3⟩; have B3 := Aside0.mk (below_then B2.out B2.out.size h3); clear h3))
  go_loopg [9] a.length (fun gk v9 w' => ∃ j : Nat, v9 = .int .i64 (j : Int) ∧ Aside0 (j + gk = a.length) ∧ Aside0 (∀ i x, i < j → a[i]? = some x → tagB tag x = false) ∧ Aside0 (Below w3.heap.size w3 w'))
  case atStart => exact ⟨0, rfl, ⟨by omega⟩, ⟨fun i x hi => by omega⟩, ⟨Below.refl _ _⟩⟩
  case round =>
    obtain ⟨j, rfl, HJ, HZ, HBl⟩ := hrel
    have BW := Aside0.mk (below_then B3.out B3.out.size HBl.out)
    by_cases hj : j < a.length
    · obtain ⟨ad, x, A1, c1, hAd, hx, q0, q1, h4, h5⟩ := at_sec HA.out j hj
      have HX := Aside0.mk hx
      obtain ⟨t, ys2⟩ := x
      have Q0 : wr.cell? (ad.add (j * 2)) = some (.int .i64 t) := ((BW.out).cell (World.block_lt_of_cell? w _ q0)).trans q0
      have Q1 := Aside0.mk (((BW.out).cell (World.block_lt_of_cell? w _ q1)).trans q1)
      have Q2 := Aside0.mk (Kd.C_below h5 BW.out)
      have HJ2 := Aside0.mk hj
      have HAd := Aside0.mk hAd
      have d1 : decide ((j : Int) < (a.length : Int)) = true := decide_eq_true (by omega)
      have d1n : decide (j < a.length) = true := decide_eq_true hj
      have p1 : 0 ≤ (j : Int) := by omega
      have hw : wrap64 ((j : Int) + 1) = ((j + 1 : Nat) : Int) := by unfold wrap64; have := NA.out.1; omega
      have HW := Aside0.mk hw
      have hu39 := Try.underlying39
      subst hAd
      clear q0 q1 hx h4 h5
      have HT := Aside0.mk (find_false HF.out j _ HX.out)
      have b5 : (t == tag) = false := HT.out
      go_wp2
      go_roundg (gk - 1)
      case measure => have := HJ.out; have := HJ2.out; omega
      case rel =>
          refine ⟨j + 1, by first | rw [HW.out] | go_num, ⟨by have := HJ.out; have := HJ2.out; omega⟩, ⟨fun i x hi hx => ?_⟩, HBl⟩
          by_cases he : i = j
          · subst he
            rw [HX.out] at hx
            injection hx with hx
            subst hx
            exact HT.out
          · exact HZ.out i x (by omega) hx
    ·
      have d1 : decide ((j : Int) < (a.length : Int)) = false := decide_eq_false (by omega)
      have d1n : decide (j < a.length) = false := decide_eq_false hj
      have hjl : j = a.length := by have := HJ.out; omega
      subst hjl
      clear hj
      go_wp2_with (first
        | (go_at_call 9; (with_reducible refine (lives_calls _).mono ?_); rintro e w4 ⟨rfl, h3⟩; have B4 := Aside0.mk (below_then BW.out BW.out.size h3); clear h3)
        | (go_at_call 17; (with_reducible refine (same_is (Kd.C_below HA.out B4.out) (Kd.C_below HB.out B4.out) NA.out.1 NA.out.2 HSV.out).mono ?_); rintro e w5 ⟨rfl, h3⟩; have B5 := Aside0.mk (below_then B4.out B4.out.size h3); clear h3)
        | (go_at_call 14; (with_reducible refine (rsame_is (Kd.C_below HA.out B5.out) Hc.out (Kd.C_below HB.out B5.out) Hd.out NA.out.1 HAB.out HBB.out HSV.out).mono ?_); rintro e w6 ⟨rfl, h3⟩; have B6 := Aside0.mk (below_then B5.out B5.out.size h3); clear h3))
      go_ret
      exact ⟨by first | rfl | simp, B6.out⟩
set_option maxHeartbeats 8000000 in
theorem finds_yes {A B : Option Addr} {c d : Nat} {a b : List S39} {w : World} (hA : Kd.C k39 w A a.length a) (hc : a.length ≤ c) (hB : Kd.C k39 w B b.length b) (hd : b.length ≤ d) (hab : Bytes a) (hbb : Bytes b) (tag : Int) (hla : largeB a 5000 = false) (hlb : largeB b 5000 = false) {ys : List Int} (hf : findM tag a = some ys) :
    Calls Try.prog 5 #[.slice A a.length c, .slice B b.length d, .int .i64 tag] w fun e w' => e = .returned (.bool true) ∧ Below w.heap.size w w' := by
  have HA := Aside0.mk hA
  have Hc := Aside0.mk hc
  have HB := Aside0.mk hB
  have Hd := Aside0.mk hd
  have HAB := Aside0.mk hab
  have HBB := Aside0.mk hbb
  have LA := Aside0.mk hla
  have LB := Aside0.mk hlb
  have NA := Aside0.mk (large_no hla)
  have HF := Aside0.mk hf
  obtain ⟨sv, hsv⟩ : ∃ r, sameB a b = r := ⟨_, rfl⟩
  have HSV := Aside0.mk hsv
  clear hA hc hB hd hab hbb hla hlb hf hsv
  go_enter Try.func5, Try.ntmps5
  go_wp2_with (first
    | (go_at_call 8; (with_reducible refine (large_is HA.out Hc.out (by decide) LA.out).mono ?_); rintro e w1 ⟨rfl, h3⟩; have B1 := Aside0.mk h3; have HB1 := Aside0.mk (Kd.C_below HB.out h3); clear h3)
    | (go_at_call 8; (with_reducible refine (large_is HB1.out Hd.out (by decide) LB.out).mono ?_); rintro e w2 ⟨rfl, h3⟩; have B2 := Aside0.mk (below_then B1.out B1.out.size h3); clear h3)
    | (go_at_call 16; (with_reducible refine (find_reads (Kd.C_below HA.out B2.out) Hc.out NA.out.1 NA.out.2 tag HF.out).mono ?_); rintro e w3 ⟨⟨Ax, cx, rfl, h2⟩, h3⟩; have X3 := Aside0.mk h2; have B3 := Aside0.mk (below_then B2.out B2.out.size h3); clear h2 h3))
  go_loopg [9] a.length (fun gk v9 w' => ∃ j : Nat, v9 = .int .i64 (j : Int) ∧ Aside0 (j + gk = a.length) ∧ Aside0 (∀ i x, i < j → a[i]? = some x → tagB tag x = false) ∧ Aside0 (Below w3.heap.size w3 w'))
  case atStart => exact ⟨0, rfl, ⟨by omega⟩, ⟨fun i x hi => by omega⟩, ⟨Below.refl _ _⟩⟩
  case round =>
    obtain ⟨j, rfl, HJ, HZ, HBl⟩ := hrel
    have BW := Aside0.mk (below_then B3.out B3.out.size HBl.out)
    by_cases hj : j < a.length
    · obtain ⟨ad, x, A1, c1, hAd, hx, q0, q1, h4, h5⟩ := at_sec HA.out j hj
      have HX := Aside0.mk hx
      obtain ⟨t, ys2⟩ := x
      have Q0 : wr.cell? (ad.add (j * 2)) = some (.int .i64 t) := ((BW.out).cell (World.block_lt_of_cell? w _ q0)).trans q0
      have Q1 := Aside0.mk (((BW.out).cell (World.block_lt_of_cell? w _ q1)).trans q1)
      have Q2 := Aside0.mk (Kd.C_below h5 BW.out)
      have HJ2 := Aside0.mk hj
      have HAd := Aside0.mk hAd
      have d1 : decide ((j : Int) < (a.length : Int)) = true := decide_eq_true (by omega)
      have d1n : decide (j < a.length) = true := decide_eq_true hj
      have p1 : 0 ≤ (j : Int) := by omega
      have hw : wrap64 ((j : Int) + 1) = ((j + 1 : Nat) : Int) := by unfold wrap64; have := NA.out.1; omega
      have HW := Aside0.mk hw
      have hu39 := Try.underlying39
      subst hAd
      clear q0 q1 hx h4 h5
      by_cases ht : t = tag
      · have b5 : (t == tag) = true := by rw [ht]; simp
        have HYS := Aside0.mk (show ys2 = ys by
          have h := find_at (tag := tag) HX.out (by unfold tagB; exact b5) HZ.out
          rw [HF.out] at h
          injection h with h
          exact h.symm)
        obtain rfl := HYS.out
        clear ht HYS
        go_wp2
        have FA := Aside0.mk (fun (W : World) (hB : Below wr.heap.size wr W) => show (Sem.run Try.prog (convert 25 9 (.slice Ax ys2.length cx)) W = .ok (.string (strOfNums ys2)) W) ∧ (W.cell? ⟨(ad.add (j * 2)).block, (ad.add (j * 2)).off + 1, none⟩ = some (.slice A1 ys2.length c1)) ∧ (Sem.run Try.prog (convert 25 9 (.slice A1 ys2.length c1)) W = .ok (.string (strOfNums ys2)) W) from
          ⟨Kd.C_string (P := Try.prog) (A := Ax) (c := cx) Try.underlying25 Try.underlying5 Try.underlying9 (Kd.C_below (Kd.C_below X3.out HBl.out) hB), (hB.cell (World.block_lt_of_cell? wr _ Q1.out)).trans Q1.out, Kd.C_string (P := Try.prog) (A := A1) (c := c1) Try.underlying25 Try.underlying5 Try.underlying9 (Kd.C_below Q2.out hB)⟩)
        have BD := Aside0.mk (Below.refl wr.heap.size wr).drew
        have F0 := FA.out _ BD.out
        refine start_ (n := 25) (S := fun w' => Sem.run Try.prog (convert 25 9 (.slice Ax ys2.length cx)) w' = .ok (.string (strOfNums ys2)) w' ∧ w'.cell? ⟨(ad.add (j * 2)).block, (ad.add (j * 2)).off + 1, none⟩ = some (.slice A1 ys2.length c1) ∧ Sem.run Try.prog (convert 25 9 (.slice A1 ys2.length c1)) w' = .ok (.string (strOfNums ys2)) w') (ds := []) #[false, false, false, false, false, false, false, false, false, false, false, false, false, false, false, false, false, false, false, false, false, false, false, false, false] (by kernel_rfl) rfl rfl ⟨F0.1, F0.2.1, F0.2.2⟩ (fun hHeld => ?_)
        refine one_ (i := 0) (N := some 36) #[true, false, false, false, false, false, false, false, false, false, false, false, false, false, false, false, false, false, false, false, false, false, false, false, false] rfl rfl (by kernel_rfl) (by decide) (fun K hK => ?_)
        refine goes_ Try.func9 (by kernel_rfl) rfl #[] (by rfl) rfl rfl (by simp only [List.map_toArray, List.map_cons, List.map_nil]; try rfl) ?_
        with_reducible refine (lives_calls _).mono ?_
        rintro e w4 ⟨rfl, h3⟩
        refine ⟨_, rfl, ?_⟩
        have B4 := Aside0.mk (below_then BD.out BD.out.size h3)
        have F1 := FA.out _ B4.out
        clear h3
        refine hK.out _ _ ⟨F1.1, F1.2.1, F1.2.2⟩ (fun hHeld => ?_)
        clear hK K
        refine norm_ (a' := ?_) ?_ ?_
        rotate_left
        · show Act.put _ (some 36) _ = _
          simp only [Act.put, List.setIfInBounds_toArray, List.set_cons_zero, List.set_cons_succ, i64_w, i32_w]
          rfl
        refine pure_ (i := 1) (N := some 37) (v := ?_) (a' := ?_) #[true, true, false, false, false, false, false, false, false, false, false, false, false, false, false, false, false, false, false, false, false, false, false, false, false] rfl rfl (by kernel_rfl) (fun _ _ _ h => h) (Or.inl ⟨by rfl, ?_⟩) ?_ ?_
        rotate_left
        · intro w'
          go_simp
          with_reducible rfl
        rotate_left
        · simp only [Act.put, List.setIfInBounds_toArray, List.set_cons_zero, List.set_cons_succ, i64_w, i32_w]
          rfl
        refine pure_ (i := 2) (N := some 38) (v := ?_) (a' := ?_) #[true, true, true, false, false, false, false, false, false, false, false, false, false, false, false, false, false, false, false, false, false, false, false, false, false] rfl rfl (by kernel_rfl) (fun _ _ _ h => h) (Or.inl ⟨by rfl, ?_⟩) ?_ ?_
        rotate_left
        · intro w'
          go_simp
          with_reducible rfl
        rotate_left
        · simp only [Act.put, List.setIfInBounds_toArray, List.set_cons_zero, List.set_cons_succ, i64_w, i32_w]
          rfl
        refine pure_ (i := 3) (N := some 39) (v := ?_) (a' := ?_) #[true, true, true, true, false, false, false, false, false, false, false, false, false, false, false, false, false, false, false, false, false, false, false, false, false] rfl rfl (by kernel_rfl) (fun _ _ _ h => h) (Or.inl ⟨by rfl, ?_⟩) ?_ ?_
        rotate_left
        · intro w'
          go_simp
          with_reducible rfl
        rotate_left
        · simp only [Act.put, List.setIfInBounds_toArray, List.set_cons_zero, List.set_cons_succ, i64_w, i32_w]
          rfl
        refine pure_ (i := 4) (N := some 40) (v := ?_) (a' := ?_) #[true, true, true, true, true, false, false, false, false, false, false, false, false, false, false, false, false, false, false, false, false, false, false, false, false] rfl rfl (by kernel_rfl) (fun _ _ _ h => h) (Or.inl ⟨by rfl, ?_⟩) ?_ ?_
        rotate_left
        · intro w'
          go_simp
          with_reducible rfl
        rotate_left
        · simp only [Act.put, List.setIfInBounds_toArray, List.set_cons_zero, List.set_cons_succ, i64_w, i32_w]
          rfl
        refine pure_ (i := 5) (N := some 41) (v := ?_) (a' := ?_) #[true, true, true, true, true, true, false, false, false, false, false, false, false, false, false, false, false, false, false, false, false, false, false, false, false] rfl rfl (by kernel_rfl) (fun _ _ _ h => h) (Or.inl ⟨by rfl, ?_⟩) ?_ ?_
        rotate_left
        · intro w'
          go_simp
          with_reducible rfl
        rotate_left
        · simp only [Act.put, List.setIfInBounds_toArray, List.set_cons_zero, List.set_cons_succ, i64_w, i32_w]
          rfl
        refine pure_ (i := 7) (N := some 43) (v := ?_) (a' := ?_) #[true, true, true, true, true, true, false, true, false, false, false, false, false, false, false, false, false, false, false, false, false, false, false, false, false] rfl rfl (by kernel_rfl) (fun _ _ _ h => h) (Or.inl ⟨by rfl, ?_⟩) ?_ ?_
        rotate_left
        · intro w'
          go_simp
          with_reducible rfl
        rotate_left
        · simp only [Act.put, List.setIfInBounds_toArray, List.set_cons_zero, List.set_cons_succ, i64_w, i32_w]
          rfl
        refine pure_ (i := 8) (N := some 44) (v := ?_) (a' := ?_) #[true, true, true, true, true, true, false, true, true, false, false, false, false, false, false, false, false, false, false, false, false, false, false, false, false] rfl rfl (by kernel_rfl) (fun _ _ _ h => h) (Or.inl ⟨by rfl, ?_⟩) ?_ ?_
        rotate_left
        · intro w'
          go_simp
          with_reducible rfl
        rotate_left
        · simp only [Act.put, List.setIfInBounds_toArray, List.set_cons_zero, List.set_cons_succ, i64_w, i32_w]
          rfl
        refine pure_ (i := 9) (N := some 45) (v := ?_) (a' := ?_) #[true, true, true, true, true, true, false, true, true, true, false, false, false, false, false, false, false, false, false, false, false, false, false, false, false] rfl rfl (by kernel_rfl) (fun _ _ _ h => h) (Or.inl ⟨by rfl, ?_⟩) ?_ ?_
        rotate_left
        · intro w'
          go_simp
          with_reducible rfl
        rotate_left
        · simp only [Act.put, List.setIfInBounds_toArray, List.set_cons_zero, List.set_cons_succ, i64_w, i32_w]
          rfl
        refine pure_ (i := 10) (N := some 46) (v := ?_) (a' := ?_) #[true, true, true, true, true, true, false, true, true, true, true, false, false, false, false, false, false, false, false, false, false, false, false, false, false] rfl rfl (by kernel_rfl) (fun _ _ _ h => h) (Or.inl ⟨by rfl, ?_⟩) ?_ ?_
        rotate_left
        · intro w'
          go_simp
          with_reducible rfl
        rotate_left
        · simp only [Act.put, List.setIfInBounds_toArray, List.set_cons_zero, List.set_cons_succ, i64_w, i32_w]
          rfl
        refine take_ (i := 6) (N := some 42) (v := ?_) (a' := ?_) #[true, true, true, true, true, true, true, true, true, true, true, false, false, false, false, false, false, false, false, false, false, false, false, false, false] rfl rfl (by kernel_rfl) (fun _ _ _ h => h) (Or.inl ⟨by rfl, ?_⟩) hHeld ?_ ?_
        rotate_left
        · rintro w' ⟨s0, s1, s2⟩
          go_simp
          with_reducible rfl
        rotate_left
        · simp only [Act.put, List.setIfInBounds_toArray, List.set_cons_zero, List.set_cons_succ, i64_w, i32_w]
          rfl
        refine take_ (i := 11) (N := some 47) (v := ?_) (a' := ?_) #[true, true, true, true, true, true, true, true, true, true, true, true, false, false, false, false, false, false, false, false, false, false, false, false, false] rfl rfl (by kernel_rfl) (fun _ _ _ h => h) (Or.inl ⟨by rfl, ?_⟩) hHeld ?_ ?_
        rotate_left
        · rintro w' ⟨s0, s1, s2⟩
          go_simp
          with_reducible rfl
        rotate_left
        · simp only [Act.put, List.setIfInBounds_toArray, List.set_cons_zero, List.set_cons_succ, i64_w, i32_w]
          rfl
        refine take_ (i := 12) (N := some 48) (v := ?_) (a' := ?_) #[true, true, true, true, true, true, true, true, true, true, true, true, true, false, false, false, false, false, false, false, false, false, false, false, false] rfl rfl (by kernel_rfl) (fun _ _ _ h => h) (Or.inl ⟨by rfl, ?_⟩) hHeld ?_ ?_
        rotate_left
        · rintro w' ⟨s0, s1, s2⟩
          go_simp
          with_reducible rfl
        rotate_left
        · simp only [Act.put, List.setIfInBounds_toArray, List.set_cons_zero, List.set_cons_succ, i64_w, i32_w]
          rfl
        refine pure_ (i := 13) (N := some 49) (v := ?_) (a' := ?_) #[true, true, true, true, true, true, true, true, true, true, true, true, true, true, false, false, false, false, false, false, false, false, false, false, false] rfl rfl (by kernel_rfl) (fun _ _ _ h => h) (Or.inl ⟨by rfl, ?_⟩) ?_ ?_
        rotate_left
        · intro w'
          go_simp
          with_reducible rfl
        rotate_left
        · simp only [Act.put, List.setIfInBounds_toArray, List.set_cons_zero, List.set_cons_succ, i64_w, i32_w]
          rfl
        refine pure_ (i := 14) (N := some 50) (v := ?_) (a' := ?_) #[true, true, true, true, true, true, true, true, true, true, true, true, true, true, true, false, false, false, false, false, false, false, false, false, false] rfl rfl (by kernel_rfl) (fun _ _ _ h => h) (Or.inl ⟨by rfl, ?_⟩) ?_ ?_
        rotate_left
        · intro w'
          go_simp
          with_reducible rfl
        rotate_left
        · simp only [Act.put, List.setIfInBounds_toArray, List.set_cons_zero, List.set_cons_succ, i64_w, i32_w]
          rfl
        refine pure_ (i := 15) (N := some 51) (v := ?_) (a' := ?_) #[true, true, true, true, true, true, true, true, true, true, true, true, true, true, true, true, false, false, false, false, false, false, false, false, false] rfl rfl (by kernel_rfl) (fun _ _ _ h => h) (Or.inl ⟨by rfl, ?_⟩) ?_ ?_
        rotate_left
        · intro w'
          go_simp
          with_reducible rfl
        rotate_left
        · simp only [Act.put, List.setIfInBounds_toArray, List.set_cons_zero, List.set_cons_succ, i64_w, i32_w]
          rfl
        refine pure_ (i := 16) (N := some 52) (v := ?_) (a' := ?_) #[true, true, true, true, true, true, true, true, true, true, true, true, true, true, true, true, true, false, false, false, false, false, false, false, false] rfl rfl (by kernel_rfl) (fun _ _ _ h => h) (Or.inl ⟨by rfl, ?_⟩) ?_ ?_
        rotate_left
        · intro w'
          go_simp
          with_reducible rfl
        rotate_left
        · simp only [Act.put, List.setIfInBounds_toArray, List.set_cons_zero, List.set_cons_succ, i64_w, i32_w]
          rfl
        refine pure_ (i := 17) (N := some 53) (v := ?_) (a' := ?_) #[true, true, true, true, true, true, true, true, true, true, true, true, true, true, true, true, true, true, false, false, false, false, false, false, false] rfl rfl (by kernel_rfl) (fun _ _ _ h => h) (Or.inl ⟨by rfl, ?_⟩) ?_ ?_
        rotate_left
        · intro w'
          go_simp
          with_reducible rfl
        rotate_left
        · simp only [Act.put, List.setIfInBounds_toArray, List.set_cons_zero, List.set_cons_succ, i64_w, i32_w]
          rfl
        refine pure_ (i := 19) (N := some 55) (v := ?_) (a' := ?_) #[true, true, true, true, true, true, true, true, true, true, true, true, true, true, true, true, true, true, false, true, false, false, false, false, false] rfl rfl (by kernel_rfl) (fun _ _ _ h => h) (Or.inl ⟨by rfl, ?_⟩) ?_ ?_
        rotate_left
        · intro w'
          go_simp
          with_reducible rfl
        rotate_left
        · simp only [Act.put, List.setIfInBounds_toArray, List.set_cons_zero, List.set_cons_succ, i64_w, i32_w]
          rfl
        refine pure_ (i := 20) (N := some 56) (v := ?_) (a' := ?_) #[true, true, true, true, true, true, true, true, true, true, true, true, true, true, true, true, true, true, false, true, true, false, false, false, false] rfl rfl (by kernel_rfl) (fun _ _ _ h => h) (Or.inl ⟨by rfl, ?_⟩) ?_ ?_
        rotate_left
        · intro w'
          go_simp
          with_reducible rfl
        rotate_left
        · simp only [Act.put, List.setIfInBounds_toArray, List.set_cons_zero, List.set_cons_succ, i64_w, i32_w]
          rfl
        refine one_ (i := 18) (N := some 54) #[true, true, true, true, true, true, true, true, true, true, true, true, true, true, true, true, true, true, true, true, true, false, false, false, false] rfl rfl (by kernel_rfl) (by decide) (fun K hK => ?_)
        refine goes_ Try.func17 (by kernel_rfl) rfl #[.slice (some ad) a.length c, .slice B b.length d] (by rfl) rfl rfl (by simp only [List.map_toArray, List.map_cons, List.map_nil]; rfl) ?_
        with_reducible refine (same_is (Kd.C_below (Kd.C_below HA.out BW.out) B4.out) (Kd.C_below (Kd.C_below HB.out BW.out) B4.out) NA.out.1 NA.out.2 HSV.out).mono ?_
        rintro e w5 ⟨rfl, h3⟩
        refine ⟨_, rfl, ?_⟩
        have B5 := Aside0.mk (below_then B4.out B4.out.size h3)
        have F2 := FA.out _ B5.out
        clear h3
        refine hK.out _ _ ⟨F2.1, F2.2.1, F2.2.2⟩ (fun hHeld => ?_)
        clear hK K
        refine norm_ (a' := ?_) ?_ ?_
        rotate_left
        · show Act.put _ (some 54) _ = _
          simp only [Act.put, List.setIfInBounds_toArray, List.set_cons_zero, List.set_cons_succ, i64_w, i32_w]
          rfl
        refine one_ (i := 21) (N := some 57) #[true, true, true, true, true, true, true, true, true, true, true, true, true, true, true, true, true, true, true, true, true, true, false, false, false] rfl rfl (by kernel_rfl) (by decide) (fun K hK => ?_)
        refine goes_ Try.func14 (by kernel_rfl) rfl #[.slice (some ad) a.length c, .slice B b.length d] (by rfl) rfl rfl (by simp only [List.map_toArray, List.map_cons, List.map_nil]; rfl) ?_
        with_reducible refine (rsame_is (Kd.C_below (Kd.C_below HA.out BW.out) B5.out) Hc.out (Kd.C_below (Kd.C_below HB.out BW.out) B5.out) Hd.out NA.out.1 HAB.out HBB.out HSV.out).mono ?_
        rintro e w6 ⟨rfl, h3⟩
        refine ⟨_, rfl, ?_⟩
        have B6 := Aside0.mk (below_then B5.out B5.out.size h3)
        have F3 := FA.out _ B6.out
        clear h3
        refine hK.out _ _ ⟨F3.1, F3.2.1, F3.2.2⟩ (fun hHeld => ?_)
        clear hK K
        refine norm_ (a' := ?_) ?_ ?_
        rotate_left
        · show Act.put _ (some 57) _ = _
          simp only [Act.put, List.setIfInBounds_toArray, List.set_cons_zero, List.set_cons_succ, i64_w, i32_w]
          rfl
        refine pure_ (i := 22) (N := some 58) (v := ?_) (a' := ?_) #[true, true, true, true, true, true, true, true, true, true, true, true, true, true, true, true, true, true, true, true, true, true, true, false, false] rfl rfl (by kernel_rfl) (fun _ _ _ h => h) (Or.inl ⟨by rfl, ?_⟩) ?_ ?_
        rotate_left
        · intro w'
          go_simp
          with_reducible rfl
        rotate_left
        · simp only [Act.put, List.setIfInBounds_toArray, List.set_cons_zero, List.set_cons_succ, i64_w, i32_w]
          rfl
        refine pure_ (i := 23) (N := some 59) (v := ?_) (a' := ?_) #[true, true, true, true, true, true, true, true, true, true, true, true, true, true, true, true, true, true, true, true, true, true, true, true, false] rfl rfl (by kernel_rfl) (fun _ _ _ h => h) (Or.inl ⟨by rfl, ?_⟩) ?_ ?_
        rotate_left
        · intro w'
          go_simp
          with_reducible rfl
        rotate_left
        · simp only [Act.put, List.setIfInBounds_toArray, List.set_cons_zero, List.set_cons_succ, i64_w, i32_w]
          rfl
        refine pure_ (i := 24) (N := some 6) (v := ?_) (a' := ?_) #[true, true, true, true, true, true, true, true, true, true, true, true, true, true, true, true, true, true, true, true, true, true, true, true, true] rfl rfl (by kernel_rfl) (fun _ _ _ h => h) (Or.inl ⟨by rfl, ?_⟩) ?_ ?_
        rotate_left
        · intro w'
          go_simp
          with_reducible rfl
        rotate_left
        · simp only [Act.put, List.setIfInBounds_toArray, List.set_cons_zero, List.set_cons_succ, i64_w, i32_w]
          rfl
        refine done_ (by kernel_rfl) ?_
        go_wp2
        go_ret
        exact ⟨by first | rfl | simp, below_then BW.out BW.out.size B6.out⟩
      · have b5 : (t == tag) = false := beq_eq_false_iff_ne.mpr ht
        have HT := Aside0.mk (show tagB tag ⟨t, ys2⟩ = false from b5)
        clear ht
        go_wp2
        go_roundg (gk - 1)
        case measure => have := HJ.out; have := HJ2.out; omega
        case rel =>
          refine ⟨j + 1, by first | rw [HW.out] | go_num, ⟨by have := HJ.out; have := HJ2.out; omega⟩, ⟨fun i x hi hx => ?_⟩, HBl⟩
          by_cases he : i = j
          · subst he
            rw [HX.out] at hx
            injection hx with hx
            subst hx
            exact HT.out
          · exact HZ.out i x (by omega) hx
    ·
      have d1 : decide ((j : Int) < (a.length : Int)) = false := decide_eq_false (by omega)
      have d1n : decide (j < a.length) = false := decide_eq_false hj
      have hjl : j = a.length := by have := HJ.out; omega
      subst hjl
      clear hj
      have h := find_none HZ.out
      rw [HF.out] at h
      cases h
theorem finds_law {A B : Option Addr} {c d : Nat} {a b : List S39} {w : World} (hA : Kd.C k39 w A a.length a) (hc : a.length ≤ c) (hab : Bytes a) (hB : Kd.C k39 w B b.length b) (hd : b.length ≤ d) (hbb : Bytes b) (tag : Int) :
    Calls Try.prog 5 #[.slice A a.length c, .slice B b.length d, .int .i64 tag] w fun e w' => e = .returned (.bool true) ∧ Below w.heap.size w w' := by
  cases hla : largeB a 5000 with
  | true => exact finds_large hA hc hB hd tag (.inl hla)
  | false =>
    cases hlb : largeB b 5000 with
    | true => exact finds_large hA hc hB hd tag (.inr hlb)
    | false =>
      cases hf : findM tag a with
      | none => exact finds_no hA hc hB hd hab hbb tag hla hlb hf
      | some ys => exact finds_yes hA hc hB hd hab hbb tag hla hlb hf
end Go.Proofs.Ytnohflfpahokiaa.Sec
