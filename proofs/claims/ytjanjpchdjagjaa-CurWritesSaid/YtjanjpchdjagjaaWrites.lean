/- The walk of CurWrites. -/
import Derived.Test.YtjanjpchdjagjaaWrM
set_option linter.unusedVariables false
set_option linter.unusedSimpArgs false
namespace Go.Proofs.Ytjanjpchdjagjaa.Rd
open Go Go.RowKit Go.Proofs.YtjanjpchdjagjaaW.PrintWords Go.Proofs.YtjanjpchdjagjaaW.PrintLast Go.Proofs.Ytjanjpchdjagjaa.LebM Go.Proofs.Ytjanjpchdjagjaa.Leb
open Go.Proofs.Ytjanjpchdjagjaa.Pen (Buf Moved)

set_option maxHeartbeats 8000000 in
set_option maxRecDepth 100000 in
theorem writes_calls {L : Option Addr} {k : Nat} {l : List S28} {w : World} (hL : Kd.C k28 w L l.length l) (hk : l.length ≤ k) (hG : ∀ s ∈ l, -9223372036854775808 ≤ s.f1 ∧ s.f1 < 9223372036854775808) :
    Calls Try.prog 3 #[.slice L l.length k] w fun e w' => e = .returned (.bool true) ∧ Below w.heap.size w w' := by
  by_cases h2 : 200 < l.length
  · have c2 : decide ((200 : Int) < (l.length : Int)) = true := decide_eq_true (by omega)
    have c2n : decide (200 < l.length) = true := decide_eq_true h2
    clear h2 hL hk hG
    go_enter Try.func3, Try.ntmps3
    go_wp2_with (go_at_call 6; (with_reducible refine (lives_calls _).mono ?_); rintro e w1 ⟨rfl, h1⟩; have B1 := Aside0.mk h1; clear h1)
    go_ret
    exact ⟨rfl, B1.out⟩
  have c2 : decide ((200 : Int) < (l.length : Int)) = false := decide_eq_false (by omega)
  have c2n : decide (200 < l.length) = false := decide_eq_false h2
  have HN := Aside0.mk (show l.length ≤ 200 by omega)
  have HL := Aside0.mk hL
  have HG := Aside0.mk hG
  clear h2 hL hk hG
  go_enter Try.func3, Try.ntmps3
  go_wp2_with (first
    | (go_at_call 7; (with_reducible refine (Pen.new_calls _).mono ?_); rintro e w1 ⟨g, rfl, h1, h2⟩; have P1 := Aside0.mk h1; have B1 := Aside0.mk h2; clear h1 h2)
    | (go_at_call 6; (with_reducible refine (lives_calls _).mono ?_); rintro e w2 ⟨rfl, h1⟩; have P2 := Aside0.mk (P1.out.below h1); have B2 := Aside0.mk (below_then B1.out B1.out.size h1); clear h1))
  have S2 := Aside0.mk (show Pst w2 w.heap.size g (.slice none 0 0) (.slice none 0 0) [] from ⟨P2.out, Kd.R_nil _ _ _ _ _, ne_nil _⟩)
  go_loopg [4, 5] l.length (fun gk v4 v5 w' => ∃ j : Nat, v5 = .int .i64 (j : Int) ∧ Aside0 (j + gk = l.length) ∧ Aside0 (∃ v, Pst w' w.heap.size g v v4 (wr8 (l.take j))) ∧ Aside0 (∀ i x, i < j → l[i]? = some x → x.f2.size ≤ 1000) ∧ Aside0 (Below w.heap.size w w'))
  case atStart => exact ⟨0, rfl, ⟨by omega⟩, ⟨_, S2.out⟩, ⟨fun i x hi => by omega⟩, B2⟩
  case round =>
    obtain ⟨j, rfl, HJ, HD, HZ, HBl⟩ := hrel
    obtain ⟨v, hD⟩ := HD.out
    have HT := Aside0.mk hD
    obtain ⟨A4, c4, rfl, hc4, hC4⟩ := Kd.R_reads hD.r
    have MC4 := Aside0.mk hC4
    clear hD hc4 hC4
    have HX := Aside0.mk (wr8_good (l := l.take j) (fun s hs => HG.out s (List.mem_of_mem_take hs)) (all_take HZ.out))
    have HXl := Aside0.mk (show (wr8 (l.take j)).length ≤ 1010 * 200 by
      have h1 := HX.out.2
      have h2 := HN.out
      rw [List.length_take] at h1
      have h3 : min j l.length ≤ 200 := by omega
      omega)
    by_cases hj : j < l.length
    · obtain ⟨ad, x, hAd, hx, q0, q1, q2⟩ := at_T28 HL.out j hj
      have HXX := Aside0.mk hx
      have hn := HG.out x (List.mem_of_getElem? hx)
      obtain ⟨ki, kn, ks⟩ := x
      have Q0 : wr.cell? (ad.add (j * 3)) = some (.int .i64 ki) := ((HBl.out).cell (World.block_lt_of_cell? w _ q0)).trans q0
      have Q1 : wr.cell? ⟨(ad.add (j * 3)).block, (ad.add (j * 3)).off + 1, none⟩ = some (.int .i64 kn) := ((HBl.out).cell (World.block_lt_of_cell? w _ q1)).trans q1
      have Q2 : wr.cell? ⟨(ad.add (j * 3)).block, (ad.add (j * 3)).off + 2, none⟩ = some (.string ks) := ((HBl.out).cell (World.block_lt_of_cell? w _ q2)).trans q2
      have HNN := Aside0.mk hn
      have HJ2 := Aside0.mk hj
      have d1 : decide ((j : Int) < (l.length : Int)) = true := decide_eq_true (by omega)
      have d1n : decide (j < l.length) = true := decide_eq_true hj
      have p1 : 0 ≤ (j : Int) := by omega
      have hw : wrap64 ((j : Int) + 1) = ((j + 1 : Nat) : Int) := by unfold wrap64; have := HN.out; omega
      have HW := Aside0.mk hw
      have hu28 := Try.underlying28
      subst hAd
      by_cases hs : 1000 < ks.size
      · have d2 : decide ((1000 : Int) < (ks.size : Int)) = true := decide_eq_true (by omega)
        have d2n : decide (1000 < ks.size) = true := decide_eq_true hs
        clear q0 q1 q2 hx hn hs
        go_wp2
        go_ret
        exact ⟨rfl, HBl.out⟩
      · have d2 : decide ((1000 : Int) < (ks.size : Int)) = false := decide_eq_false (by omega)
        have d2n : decide (1000 < ks.size) = false := decide_eq_false hs
        have HS := Aside0.mk (show ks.size ≤ 1000 by omega)
        have HO := Aside0.mk (opM_bytes ki kn ks HS.out hn)
        clear q0 q1 q2 hx hn hs
        go_wp2_with (first
          | (go_at_call 8; (with_reducible refine (put8_pen HT.out.b (by have := HXl.out; omega) ki kn HNN.out ks HS.out).mono ?_); rintro e w3 ⟨A3, c3, rfl, hc3, hC3, hp⟩; obtain ⟨v', h1, h2, h3, h4⟩ := hp; have C3 := Aside0.mk hC3; have b3 := Aside0.mk h1; have hpp := HT.out.put h2 h3; have U3 := Aside0.mk hpp.1; have N3 := Aside0.mk hpp.2; have B3 := Aside0.mk (HBl.out.trans h4); clear hC3 hc3 h1 h2 h3 h4 hpp)
          | (at_builtin; refine Kd.R_append_rows (Kd.int .u8) (w0 := w3) w.heap.size rfl (.tmp 34) (.tmp 40) 26 5 (.int .u8 0) 1 rfl Try.underlying26 info5 rfl (by decide) (by omega) _ (wr8 (l.take j)) (opM ki kn ks) A3 (opM ki kn ks).length c3 (fun _ => True) (fun _ => False) rfl rfl U3.out C3.out (fun _ _ h => h) (fun _ h => h.elim) (fun _ _ => trivial) (Below.refl _ _) B3.out.size (by have := HXl.out; have := HO.out.2; omega) ?_; intro v4 w4 h1 h2 h3 h4; have S4 := Aside0.mk (Pst.app b3.out U3.out N3.out h1 h3 h4 h3.size); have B4 := Aside0.mk (B3.out.trans h2); clear h1 h2 h3 h4))
        go_roundg (gk - 1)
        case measure => have := HJ.out; have := HJ2.out; omega
        case rel =>
          refine ⟨j + 1, by first | rw [HW.out] | go_num, ⟨by have := HJ.out; have := HJ2.out; omega⟩, ⟨v', ?_⟩, ⟨?_⟩, B4⟩
          · rw [wr8_succ HXX.out]
            exact S4.out
          · intro i x hi hx
            by_cases he : i = j
            · subst he
              rw [HXX.out] at hx
              injection hx with hx
              subst hx
              exact HS.out
            · exact HZ.out i x (by omega) hx
    · have d1 : decide ((j : Int) < (l.length : Int)) = false := decide_eq_false (by omega)
      have d1n : decide (j < l.length) = false := decide_eq_false hj
      have hjl : j = l.length := by have := HJ.out; omega
      subst hjl
      have et : l.take l.length = l := List.take_length
      obtain ⟨bs, hbs⟩ : ∃ bs, wr8 (l.take l.length) = bs := ⟨_, rfl⟩
      have hbs2 : bs = wr8 l := by rw [← hbs, et]
      rw [hbs] at HT HX HXl MC4
      have HBS := Aside0.mk hbs2
      have HZ2 := Aside0.mk (show ∀ s ∈ l, s.f2.size ≤ 1000 from all_of HZ.out)
      clear hj hbs hbs2 et HD
      rw [show (wr8 (l.take l.length)).length = bs.length from by rw [List.take_length, HBS.out]]
      go_wp2_with (first
        | (go_at_call 9; (with_reducible refine (Pen.bytes_calls HT.out.b (by have := HXl.out; omega)).mono ?_); rintro e w5 ⟨u5, rfl, h1, h2⟩; obtain ⟨A5, c5, rfl, hc5, hC5⟩ := Kd.R_reads h1; have C5 := Aside0.mk hC5; have c5l := Aside0.mk hc5; have C4b := Aside0.mk (Kd.C_below MC4.out h2); have B5 := Aside0.mk (below_then HBl.out HBl.out.size h2); clear h1 h2 hC5 hc5)
        | (go_at_call 10; (with_reducible refine (from_calls C5.out c5l.out (by have := HXl.out; omega) HX.out.1 w.heap.size B5.out.size).mono ?_); rintro e w6 ⟨r, rfl, h1, h2, h3⟩; have R6 := Aside0.mk h1; have B6 := Aside0.mk (below_then B5.out B5.out.size h2); have hcv5 := Kd.C_string (P := Try.prog) (A := A5) (c := c5) Try.underlying26 Try.underlying5 Try.underlying9 (Kd.C_below C5.out h2); have hcv4 := Kd.C_string (P := Try.prog) (A := A4) (c := c4) Try.underlying26 Try.underlying5 Try.underlying9 (Kd.C_below C4b.out h2); clear h1 h2 h3))
      go_loopg [8] l.length (fun gk v8 w' => ∃ j : Nat, v8 = .int .i64 (j : Int) ∧ Aside0 (j + gk = l.length) ∧ Aside0 (Rdr 64 w.heap.size w' r bs (wr8 (l.take j)).length 0) ∧ Aside0 (Below w.heap.size w w'))
      case atStart => exact ⟨0, rfl, ⟨by omega⟩, ⟨by simpa [wr8] using R6.out⟩, B6⟩
      case round =>
        obtain ⟨j, rfl, HJ, HR, HBr⟩ := hrel
        by_cases hj : j < l.length
        · obtain ⟨ad, x, hAd, hx, q0, q1, q2⟩ := at_T28 HL.out j hj
          have hn := HG.out x (List.mem_of_getElem? hx)
          have hs := HZ2.out x (List.mem_of_getElem? hx)
          have hd := wr8_drop hx
          have hl := congrArg List.length (wr8_succ hx)
          rw [List.length_append] at hl
          rw [← HBS.out] at hd
          obtain ⟨ki, kn, ks⟩ := x
          obtain ⟨p, hp⟩ : ∃ p, (wr8 (l.take j)).length = p := ⟨_, rfl⟩
          rw [hp] at hd hl HR
          obtain ⟨rest, hr⟩ : ∃ r, wr8 (l.drop (j + 1)) = r := ⟨_, rfl⟩
          rw [hr] at hd
          obtain ⟨p2, hp2⟩ : ∃ p, (wr8 (l.take (j + 1))).length = p := ⟨_, rfl⟩
          rw [hp2] at hl
          have HP2 := Aside0.mk hp2
          have Q0 : wr.cell? (ad.add (j * 3)) = some (.int .i64 ki) := ((HBr.out).cell (World.block_lt_of_cell? w _ q0)).trans q0
          have Q1 : wr.drew.cell? ⟨(ad.add (j * 3)).block, (ad.add (j * 3)).off + 1, none⟩ = some (.int .i64 kn) := ((HBr.out.drew).cell (World.block_lt_of_cell? w _ q1)).trans q1
          have Q2 : wr.drew.cell? ⟨(ad.add (j * 3)).block, (ad.add (j * 3)).off + 2, none⟩ = some (.string ks) := ((HBr.out.drew).cell (World.block_lt_of_cell? w _ q2)).trans q2
          have HQ1 := Aside0.mk Q1
          have LOW := Aside0.mk (show (ad.add (j * 3)).block < w.heap.size from World.block_lt_of_cell? w _ q0)
          have HQ2 := Aside0.mk Q2
          have HRD := Aside0.mk (HR.out.below (Below.refl _ _).drew)
          have HBD := Aside0.mk HBr.out.drew
          have HNN := Aside0.mk hn
          have HS := Aside0.mk hs
          have HDD := Aside0.mk hd
          have HLL := Aside0.mk hl
          have HJ2 := Aside0.mk hj
          have d1 : decide ((j : Int) < (l.length : Int)) = true := decide_eq_true (by omega)
          have d1n : decide (j < l.length) = true := decide_eq_true hj
          have p1 : 0 ≤ (j : Int) := by omega
          have hw : wrap64 ((j : Int) + 1) = ((j + 1 : Nat) : Int) := by unfold wrap64; have := HN.out; omega
          have HW := Aside0.mk hw
          have hu28 := Try.underlying28
          subst hAd
          clear q0 q1 q2 hx hn hs hd hl hp hp2 hr Q1 Q2
          by_cases hK : ki < 1 ∨ 5 < ki
          · have e0 : opM ki kn ks = [] := by unfold opM; repeat (rw [if_neg (by omega)])
            have b1 : (ki == 1) = false := beq_eq_false_iff_ne.mpr (by omega)
            have b2 : (ki == 2) = false := beq_eq_false_iff_ne.mpr (by omega)
            have b3 : (ki == 3) = false := beq_eq_false_iff_ne.mpr (by omega)
            have b4 : (ki == 4) = false := beq_eq_false_iff_ne.mpr (by omega)
            have b5 : (ki == 5) = false := beq_eq_false_iff_ne.mpr (by omega)
            clear hK
            have HE := Aside0.mk (show p2 = p by have h1 := HLL.out; simp only [e0, List.length_nil] at h1; omega)
            clear e0
            go_wp2
            go_roundg (gk - 1)
            case measure => have := HJ.out; have := HJ2.out; omega
            case rel => exact ⟨j + 1, by first | rw [HW.out] | go_num, ⟨by have := HJ.out; have := HJ2.out; omega⟩, ⟨by rw [HP2.out, HE.out]; exact HR.out⟩, HBr⟩
          have hK2 : ki = 1 ∨ ki = 2 ∨ ki = 3 ∨ ki = 4 ∨ ki = 5 := by omega
          clear hK
          rcases hK2 with rfl | rfl | rfl | rfl | rfl
          · skip
            obtain ⟨m, hm⟩ : ∃ m, IntKind.u64.wrap kn = m := ⟨_, rfl⟩
            have HMM := Aside0.mk (show m = kn % 18446744073709551616 by rw [← hm, IntKind.wrap_u64])
            have HD1 := Aside0.mk (show bs.drop p = putN 9 m ++ rest by rw [HMM.out]; exact HDD.out)
            have HL1 := Aside0.mk (show p + (putN 9 m).length = p2 by rw [HMM.out]; exact HLL.out.symm)
            go_wp2
            refine start_ (n := 10) (S := fun w' => w'.cell? ⟨(ad.add (j * 3)).block, (ad.add (j * 3)).off + 1, none⟩ = some (.int .i64 kn)) (ds := []) #[false, false, false, false, false, false, false, false, false, false] (by kernel_rfl) rfl rfl (HQ1.out) (fun hHeld => ?_)
            refine pure_ (i := 0) (N := some 68) (v := ?_) (a' := ?_) #[true, false, false, false, false, false, false, false, false, false] rfl rfl (by kernel_rfl) (fun _ _ _ h => h) (Or.inl ⟨by rfl, ?_⟩) ?_ ?_
            rotate_left
            · intro w'
              go_simp
              with_reducible rfl
            rotate_left
            · simp only [Act.put, List.setIfInBounds_toArray, List.set_cons_zero, List.set_cons_succ, i64_w, i32_w]
              rfl
            refine pure_ (i := 2) (N := some 70) (v := ?_) (a' := ?_) #[true, false, true, false, false, false, false, false, false, false] rfl rfl (by kernel_rfl) (fun _ _ _ h => h) (Or.inl ⟨by rfl, ?_⟩) ?_ ?_
            rotate_left
            · intro w'
              go_simp
              with_reducible rfl
            rotate_left
            · simp only [Act.put, List.setIfInBounds_toArray, List.set_cons_zero, List.set_cons_succ, i64_w, i32_w]
              rfl
            refine pure_ (i := 3) (N := some 71) (v := ?_) (a' := ?_) #[true, false, true, true, false, false, false, false, false, false] rfl rfl (by kernel_rfl) (fun _ _ _ h => h) (Or.inl ⟨by rfl, ?_⟩) ?_ ?_
            rotate_left
            · intro w'
              go_simp
              with_reducible rfl
            rotate_left
            · simp only [Act.put, List.setIfInBounds_toArray, List.set_cons_zero, List.set_cons_succ, i64_w, i32_w]
              rfl
            refine pure_ (i := 4) (N := some 72) (v := ?_) (a' := ?_) #[true, false, true, true, true, false, false, false, false, false] rfl rfl (by kernel_rfl) (fun _ _ _ h => h) (Or.inl ⟨by rfl, ?_⟩) ?_ ?_
            rotate_left
            · intro w'
              go_simp
              with_reducible rfl
            rotate_left
            · simp only [Act.put, List.setIfInBounds_toArray, List.set_cons_zero, List.set_cons_succ, i64_w, i32_w]
              rfl
            refine pure_ (i := 5) (N := some 73) (v := ?_) (a' := ?_) #[true, false, true, true, true, true, false, false, false, false] rfl rfl (by kernel_rfl) (fun _ _ _ h => h) (Or.inl ⟨by rfl, ?_⟩) ?_ ?_
            rotate_left
            · intro w'
              go_simp
              with_reducible rfl
            rotate_left
            · simp only [Act.put, List.setIfInBounds_toArray, List.set_cons_zero, List.set_cons_succ, i64_w, i32_w]
              rfl
            refine take_ (i := 6) (N := some 74) (v := ?_) (a' := ?_) #[true, false, true, true, true, true, true, false, false, false] rfl rfl (by kernel_rfl) (fun _ _ _ h => h) (Or.inl ⟨by rfl, ?_⟩) hHeld ?_ ?_
            rotate_left
            · intro w' s0
              go_simp
              with_reducible rfl
            rotate_left
            · simp only [Act.put, List.setIfInBounds_toArray, List.set_cons_zero, List.set_cons_succ, i64_w, i32_w]
              rfl
            refine pure_ (i := 7) (N := some 75) (v := ?_) (a' := ?_) #[true, false, true, true, true, true, true, true, false, false] rfl rfl (by kernel_rfl) (fun _ _ _ h => h) (Or.inl ⟨by rfl, ?_⟩) ?_ ?_
            rotate_left
            · intro w'
              go_simp
              with_reducible rfl
            rotate_left
            · simp only [Act.put, List.setIfInBounds_toArray, List.set_cons_zero, List.set_cons_succ, i64_w, i32_w]
              rfl
            refine one_ (i := 1) (N := some 69) #[true, true, true, true, true, true, true, true, false, false] rfl rfl (by kernel_rfl) (by decide) (fun K hK => ?_)
            refine goes_ Try.func11 (by kernel_rfl) rfl #[.pointer (some ⟨r, 0, none⟩)] (by rfl) rfl rfl (by simp only [List.map_toArray, List.map_cons, List.map_nil]; rfl) ?_
            with_reducible refine (w_u HRD.out (n := m) (by have := HMM.out; omega) HD1.out HL1.out).mono ?_
            rintro e w8 ⟨rfl, h1, h2⟩
            refine ⟨_, rfl, ?_⟩
            have hq := HQ1.out
            have R8 := Aside0.mk h1
            have B8 := Aside0.mk (HBD.out.trans h2.2)
            have q8 := cell_kp (a := ⟨(ad.add (j * 3)).block, (ad.add (j * 3)).off + 1, none⟩) HRD.out h2 LOW.out hq
            clear h1 h2
            refine hK.out _ _ (q8) (fun hHeld => ?_)
            clear hK K
            refine norm_ (a' := ?_) ?_ ?_
            rotate_left
            · show Act.put _ (some 69) _ = _
              simp only [Act.put, List.setIfInBounds_toArray, List.set_cons_zero, List.set_cons_succ, i64_w, i32_w]
              rfl
            refine pure_ (i := 8) (N := some 76) (v := ?_) (a' := ?_) #[true, true, true, true, true, true, true, true, true, false] rfl rfl (by kernel_rfl) (fun _ _ _ h => h) (Or.inl ⟨by rfl, ?_⟩) ?_ ?_
            rotate_left
            · intro w'
              go_simp
              with_reducible rfl
            rotate_left
            · simp only [Act.put, List.setIfInBounds_toArray, List.set_cons_zero, List.set_cons_succ, i64_w, i32_w]
              rfl
            refine pure_ (i := 9) (N := some 9) (v := ?_) (a' := ?_) #[true, true, true, true, true, true, true, true, true, true] rfl rfl (by kernel_rfl) (fun _ _ _ h => h) (Or.inl ⟨by rfl, ?_⟩) ?_ ?_
            rotate_left
            · intro w'
              go_simp
              with_reducible rfl
            rotate_left
            · simp only [Act.put, List.setIfInBounds_toArray, List.set_cons_zero, List.set_cons_succ, i64_w, i32_w]
              rfl
            refine done_ (by kernel_rfl) ?_
            go_wp2
            go_roundg (gk - 1)
            case measure => have := HJ.out; have := HJ2.out; omega
            case rel => exact ⟨j + 1, by first | rw [HW.out] | go_num, ⟨by have := HJ.out; have := HJ2.out; omega⟩, ⟨by rw [HP2.out]; exact R8.out⟩, B8⟩
          · skip
            have HL1 := Aside0.mk (show p + (putN 9 (zigS kn)).length = p2 from HLL.out.symm)
            go_wp2
            refine start_ (n := 9) (S := fun w' => w'.cell? ⟨(ad.add (j * 3)).block, (ad.add (j * 3)).off + 1, none⟩ = some (.int .i64 kn)) (ds := []) #[false, false, false, false, false, false, false, false, false] (by kernel_rfl) rfl rfl (HQ1.out) (fun hHeld => ?_)
            refine pure_ (i := 0) (N := some 79) (v := ?_) (a' := ?_) #[true, false, false, false, false, false, false, false, false] rfl rfl (by kernel_rfl) (fun _ _ _ h => h) (Or.inl ⟨by rfl, ?_⟩) ?_ ?_
            rotate_left
            · intro w'
              go_simp
              with_reducible rfl
            rotate_left
            · simp only [Act.put, List.setIfInBounds_toArray, List.set_cons_zero, List.set_cons_succ, i64_w, i32_w]
              rfl
            refine pure_ (i := 2) (N := some 81) (v := ?_) (a' := ?_) #[true, false, true, false, false, false, false, false, false] rfl rfl (by kernel_rfl) (fun _ _ _ h => h) (Or.inl ⟨by rfl, ?_⟩) ?_ ?_
            rotate_left
            · intro w'
              go_simp
              with_reducible rfl
            rotate_left
            · simp only [Act.put, List.setIfInBounds_toArray, List.set_cons_zero, List.set_cons_succ, i64_w, i32_w]
              rfl
            refine pure_ (i := 3) (N := some 82) (v := ?_) (a' := ?_) #[true, false, true, true, false, false, false, false, false] rfl rfl (by kernel_rfl) (fun _ _ _ h => h) (Or.inl ⟨by rfl, ?_⟩) ?_ ?_
            rotate_left
            · intro w'
              go_simp
              with_reducible rfl
            rotate_left
            · simp only [Act.put, List.setIfInBounds_toArray, List.set_cons_zero, List.set_cons_succ, i64_w, i32_w]
              rfl
            refine pure_ (i := 4) (N := some 83) (v := ?_) (a' := ?_) #[true, false, true, true, true, false, false, false, false] rfl rfl (by kernel_rfl) (fun _ _ _ h => h) (Or.inl ⟨by rfl, ?_⟩) ?_ ?_
            rotate_left
            · intro w'
              go_simp
              with_reducible rfl
            rotate_left
            · simp only [Act.put, List.setIfInBounds_toArray, List.set_cons_zero, List.set_cons_succ, i64_w, i32_w]
              rfl
            refine pure_ (i := 5) (N := some 84) (v := ?_) (a' := ?_) #[true, false, true, true, true, true, false, false, false] rfl rfl (by kernel_rfl) (fun _ _ _ h => h) (Or.inl ⟨by rfl, ?_⟩) ?_ ?_
            rotate_left
            · intro w'
              go_simp
              with_reducible rfl
            rotate_left
            · simp only [Act.put, List.setIfInBounds_toArray, List.set_cons_zero, List.set_cons_succ, i64_w, i32_w]
              rfl
            refine take_ (i := 6) (N := some 85) (v := ?_) (a' := ?_) #[true, false, true, true, true, true, true, false, false] rfl rfl (by kernel_rfl) (fun _ _ _ h => h) (Or.inl ⟨by rfl, ?_⟩) hHeld ?_ ?_
            rotate_left
            · intro w' s0
              go_simp
              with_reducible rfl
            rotate_left
            · simp only [Act.put, List.setIfInBounds_toArray, List.set_cons_zero, List.set_cons_succ, i64_w, i32_w]
              rfl
            refine one_ (i := 1) (N := some 80) #[true, true, true, true, true, true, true, false, false] rfl rfl (by kernel_rfl) (by decide) (fun K hK => ?_)
            refine goes_ Try.func12 (by kernel_rfl) rfl #[.pointer (some ⟨r, 0, none⟩)] (by rfl) rfl rfl (by simp only [List.map_toArray, List.map_cons, List.map_nil]; rfl) ?_
            with_reducible refine (w_i HRD.out HNN.out HDD.out HL1.out).mono ?_
            rintro e w8 ⟨rfl, h1, h2⟩
            refine ⟨_, rfl, ?_⟩
            have hq := HQ1.out
            have R8 := Aside0.mk h1
            have B8 := Aside0.mk (HBD.out.trans h2.2)
            have q8 := cell_kp (a := ⟨(ad.add (j * 3)).block, (ad.add (j * 3)).off + 1, none⟩) HRD.out h2 LOW.out hq
            clear h1 h2
            refine hK.out _ _ (q8) (fun hHeld => ?_)
            clear hK K
            refine norm_ (a' := ?_) ?_ ?_
            rotate_left
            · show Act.put _ (some 80) _ = _
              simp only [Act.put, List.setIfInBounds_toArray, List.set_cons_zero, List.set_cons_succ, i64_w, i32_w]
              rfl
            refine pure_ (i := 7) (N := some 86) (v := ?_) (a' := ?_) #[true, true, true, true, true, true, true, true, false] rfl rfl (by kernel_rfl) (fun _ _ _ h => h) (Or.inl ⟨by rfl, ?_⟩) ?_ ?_
            rotate_left
            · intro w'
              go_simp
              with_reducible rfl
            rotate_left
            · simp only [Act.put, List.setIfInBounds_toArray, List.set_cons_zero, List.set_cons_succ, i64_w, i32_w]
              rfl
            refine pure_ (i := 8) (N := some 9) (v := ?_) (a' := ?_) #[true, true, true, true, true, true, true, true, true] rfl rfl (by kernel_rfl) (fun _ _ _ h => h) (Or.inl ⟨by rfl, ?_⟩) ?_ ?_
            rotate_left
            · intro w'
              go_simp
              with_reducible rfl
            rotate_left
            · simp only [Act.put, List.setIfInBounds_toArray, List.set_cons_zero, List.set_cons_succ, i64_w, i32_w]
              rfl
            refine done_ (by kernel_rfl) ?_
            go_wp2
            go_roundg (gk - 1)
            case measure => have := HJ.out; have := HJ2.out; omega
            case rel => exact ⟨j + 1, by first | rw [HW.out] | go_num, ⟨by have := HJ.out; have := HJ2.out; omega⟩, ⟨by rw [HP2.out]; exact R8.out⟩, B8⟩
          · skip
            obtain ⟨m, hm⟩ : ∃ m, IntKind.u8.wrap kn = m := ⟨_, rfl⟩
            have HMM := Aside0.mk (show m = kn % 256 by rw [← hm]; simp [IntKind.wrap, IntKind.bits, IntKind.signed])
            have HD1 := Aside0.mk (show bs.drop p = [m] ++ rest by rw [HMM.out]; exact HDD.out)
            have HL1 := Aside0.mk (show p + 1 = p2 from HLL.out.symm)
            have hw8 : wrap64 m = m := by unfold wrap64; have := HMM.out; omega
            go_wp2
            refine start_ (n := 11) (S := fun w' => w'.cell? ⟨(ad.add (j * 3)).block, (ad.add (j * 3)).off + 1, none⟩ = some (.int .i64 kn)) (ds := []) #[false, false, false, false, false, false, false, false, false, false, false] (by kernel_rfl) rfl rfl (HQ1.out) (fun hHeld => ?_)
            refine pure_ (i := 0) (N := some 89) (v := ?_) (a' := ?_) #[true, false, false, false, false, false, false, false, false, false, false] rfl rfl (by kernel_rfl) (fun _ _ _ h => h) (Or.inl ⟨by rfl, ?_⟩) ?_ ?_
            rotate_left
            · intro w'
              go_simp
              with_reducible rfl
            rotate_left
            · simp only [Act.put, List.setIfInBounds_toArray, List.set_cons_zero, List.set_cons_succ, i64_w, i32_w]
              rfl
            refine pure_ (i := 2) (N := some 91) (v := ?_) (a' := ?_) #[true, false, true, false, false, false, false, false, false, false, false] rfl rfl (by kernel_rfl) (fun _ _ _ h => h) (Or.inl ⟨by rfl, ?_⟩) ?_ ?_
            rotate_left
            · intro w'
              go_simp
              with_reducible rfl
            rotate_left
            · simp only [Act.put, List.setIfInBounds_toArray, List.set_cons_zero, List.set_cons_succ, i64_w, i32_w]
              rfl
            refine pure_ (i := 3) (N := some 92) (v := ?_) (a' := ?_) #[true, false, true, true, false, false, false, false, false, false, false] rfl rfl (by kernel_rfl) (fun _ _ _ h => h) (Or.inl ⟨by rfl, ?_⟩) ?_ ?_
            rotate_left
            · intro w'
              go_simp
              with_reducible rfl
            rotate_left
            · simp only [Act.put, List.setIfInBounds_toArray, List.set_cons_zero, List.set_cons_succ, i64_w, i32_w]
              rfl
            refine pure_ (i := 4) (N := some 93) (v := ?_) (a' := ?_) #[true, false, true, true, true, false, false, false, false, false, false] rfl rfl (by kernel_rfl) (fun _ _ _ h => h) (Or.inl ⟨by rfl, ?_⟩) ?_ ?_
            rotate_left
            · intro w'
              go_simp
              with_reducible rfl
            rotate_left
            · simp only [Act.put, List.setIfInBounds_toArray, List.set_cons_zero, List.set_cons_succ, i64_w, i32_w]
              rfl
            refine pure_ (i := 5) (N := some 94) (v := ?_) (a' := ?_) #[true, false, true, true, true, true, false, false, false, false, false] rfl rfl (by kernel_rfl) (fun _ _ _ h => h) (Or.inl ⟨by rfl, ?_⟩) ?_ ?_
            rotate_left
            · intro w'
              go_simp
              with_reducible rfl
            rotate_left
            · simp only [Act.put, List.setIfInBounds_toArray, List.set_cons_zero, List.set_cons_succ, i64_w, i32_w]
              rfl
            refine take_ (i := 6) (N := some 95) (v := ?_) (a' := ?_) #[true, false, true, true, true, true, true, false, false, false, false] rfl rfl (by kernel_rfl) (fun _ _ _ h => h) (Or.inl ⟨by rfl, ?_⟩) hHeld ?_ ?_
            rotate_left
            · intro w' s0
              go_simp
              with_reducible rfl
            rotate_left
            · simp only [Act.put, List.setIfInBounds_toArray, List.set_cons_zero, List.set_cons_succ, i64_w, i32_w]
              rfl
            refine pure_ (i := 7) (N := some 96) (v := ?_) (a' := ?_) #[true, false, true, true, true, true, true, true, false, false, false] rfl rfl (by kernel_rfl) (fun _ _ _ h => h) (Or.inl ⟨by rfl, ?_⟩) ?_ ?_
            rotate_left
            · intro w'
              go_simp
              with_reducible rfl
            rotate_left
            · simp only [Act.put, List.setIfInBounds_toArray, List.set_cons_zero, List.set_cons_succ, i64_w, i32_w]
              rfl
            refine pure_ (i := 8) (N := some 97) (v := ?_) (a' := ?_) #[true, false, true, true, true, true, true, true, true, false, false] rfl rfl (by kernel_rfl) (fun _ _ _ h => h) (Or.inl ⟨by rfl, ?_⟩) ?_ ?_
            rotate_left
            · intro w'
              go_simp
              with_reducible rfl
            rotate_left
            · simp only [Act.put, List.setIfInBounds_toArray, List.set_cons_zero, List.set_cons_succ, i64_w, i32_w]
              rfl
            refine one_ (i := 1) (N := some 90) #[true, true, true, true, true, true, true, true, true, false, false] rfl rfl (by kernel_rfl) (by decide) (fun K hK => ?_)
            refine goes_ Try.func13 (by kernel_rfl) rfl #[.pointer (some ⟨r, 0, none⟩)] (by rfl) rfl rfl (by simp only [List.map_toArray, List.map_cons, List.map_nil]; rfl) ?_
            with_reducible refine (w_byte HRD.out (x := m) HD1.out HL1.out).mono ?_
            rintro e w8 ⟨rfl, h1, h2⟩
            refine ⟨_, rfl, ?_⟩
            have hq := HQ1.out
            have R8 := Aside0.mk h1
            have B8 := Aside0.mk (HBD.out.trans h2.2)
            have q8 := cell_kp (a := ⟨(ad.add (j * 3)).block, (ad.add (j * 3)).off + 1, none⟩) HRD.out h2 LOW.out hq
            clear h1 h2
            refine hK.out _ _ (q8) (fun hHeld => ?_)
            clear hK K
            refine norm_ (a' := ?_) ?_ ?_
            rotate_left
            · show Act.put _ (some 90) _ = _
              simp only [Act.put, List.setIfInBounds_toArray, List.set_cons_zero, List.set_cons_succ, i64_w, i32_w]
              rfl
            refine pure_ (i := 9) (N := some 98) (v := ?_) (a' := ?_) #[true, true, true, true, true, true, true, true, true, true, false] rfl rfl (by kernel_rfl) (fun _ _ _ h => h) (Or.inl ⟨by rfl, ?_⟩) ?_ ?_
            rotate_left
            · intro w'
              go_simp
              with_reducible rfl
            rotate_left
            · simp only [Act.put, List.setIfInBounds_toArray, List.set_cons_zero, List.set_cons_succ, i64_w, i32_w]
              rfl
            refine pure_ (i := 10) (N := some 9) (v := ?_) (a' := ?_) #[true, true, true, true, true, true, true, true, true, true, true] rfl rfl (by kernel_rfl) (fun _ _ _ h => h) (Or.inl ⟨by rfl, ?_⟩) ?_ ?_
            rotate_left
            · intro w'
              go_simp
              with_reducible rfl
            rotate_left
            · simp only [Act.put, List.setIfInBounds_toArray, List.set_cons_zero, List.set_cons_succ, i64_w, i32_w]
              rfl
            refine done_ (by kernel_rfl) ?_
            go_wp2
            go_roundg (gk - 1)
            case measure => have := HJ.out; have := HJ2.out; omega
            case rel => exact ⟨j + 1, by first | rw [HW.out] | go_num, ⟨by have := HJ.out; have := HJ2.out; omega⟩, ⟨by rw [HP2.out]; exact R8.out⟩, B8⟩
          · skip
            obtain ⟨m, hm⟩ : ∃ m, IntKind.u32.wrap kn = m := ⟨_, rfl⟩
            have HMM := Aside0.mk (show m = kn % 4294967296 by rw [← hm]; simp [IntKind.wrap, IntKind.bits, IntKind.signed])
            have HD1 := Aside0.mk (show bs.drop p = wordN m ++ rest by rw [HMM.out]; exact HDD.out)
            have HL1 := Aside0.mk (show p + 4 = p2 from HLL.out.symm)
            go_wp2
            refine start_ (n := 10) (S := fun w' => w'.cell? ⟨(ad.add (j * 3)).block, (ad.add (j * 3)).off + 1, none⟩ = some (.int .i64 kn)) (ds := []) #[false, false, false, false, false, false, false, false, false, false] (by kernel_rfl) rfl rfl (HQ1.out) (fun hHeld => ?_)
            refine pure_ (i := 0) (N := some 101) (v := ?_) (a' := ?_) #[true, false, false, false, false, false, false, false, false, false] rfl rfl (by kernel_rfl) (fun _ _ _ h => h) (Or.inl ⟨by rfl, ?_⟩) ?_ ?_
            rotate_left
            · intro w'
              go_simp
              with_reducible rfl
            rotate_left
            · simp only [Act.put, List.setIfInBounds_toArray, List.set_cons_zero, List.set_cons_succ, i64_w, i32_w]
              rfl
            refine pure_ (i := 2) (N := some 103) (v := ?_) (a' := ?_) #[true, false, true, false, false, false, false, false, false, false] rfl rfl (by kernel_rfl) (fun _ _ _ h => h) (Or.inl ⟨by rfl, ?_⟩) ?_ ?_
            rotate_left
            · intro w'
              go_simp
              with_reducible rfl
            rotate_left
            · simp only [Act.put, List.setIfInBounds_toArray, List.set_cons_zero, List.set_cons_succ, i64_w, i32_w]
              rfl
            refine pure_ (i := 3) (N := some 104) (v := ?_) (a' := ?_) #[true, false, true, true, false, false, false, false, false, false] rfl rfl (by kernel_rfl) (fun _ _ _ h => h) (Or.inl ⟨by rfl, ?_⟩) ?_ ?_
            rotate_left
            · intro w'
              go_simp
              with_reducible rfl
            rotate_left
            · simp only [Act.put, List.setIfInBounds_toArray, List.set_cons_zero, List.set_cons_succ, i64_w, i32_w]
              rfl
            refine pure_ (i := 4) (N := some 105) (v := ?_) (a' := ?_) #[true, false, true, true, true, false, false, false, false, false] rfl rfl (by kernel_rfl) (fun _ _ _ h => h) (Or.inl ⟨by rfl, ?_⟩) ?_ ?_
            rotate_left
            · intro w'
              go_simp
              with_reducible rfl
            rotate_left
            · simp only [Act.put, List.setIfInBounds_toArray, List.set_cons_zero, List.set_cons_succ, i64_w, i32_w]
              rfl
            refine pure_ (i := 5) (N := some 106) (v := ?_) (a' := ?_) #[true, false, true, true, true, true, false, false, false, false] rfl rfl (by kernel_rfl) (fun _ _ _ h => h) (Or.inl ⟨by rfl, ?_⟩) ?_ ?_
            rotate_left
            · intro w'
              go_simp
              with_reducible rfl
            rotate_left
            · simp only [Act.put, List.setIfInBounds_toArray, List.set_cons_zero, List.set_cons_succ, i64_w, i32_w]
              rfl
            refine take_ (i := 6) (N := some 107) (v := ?_) (a' := ?_) #[true, false, true, true, true, true, true, false, false, false] rfl rfl (by kernel_rfl) (fun _ _ _ h => h) (Or.inl ⟨by rfl, ?_⟩) hHeld ?_ ?_
            rotate_left
            · intro w' s0
              go_simp
              with_reducible rfl
            rotate_left
            · simp only [Act.put, List.setIfInBounds_toArray, List.set_cons_zero, List.set_cons_succ, i64_w, i32_w]
              rfl
            refine pure_ (i := 7) (N := some 108) (v := ?_) (a' := ?_) #[true, false, true, true, true, true, true, true, false, false] rfl rfl (by kernel_rfl) (fun _ _ _ h => h) (Or.inl ⟨by rfl, ?_⟩) ?_ ?_
            rotate_left
            · intro w'
              go_simp
              with_reducible rfl
            rotate_left
            · simp only [Act.put, List.setIfInBounds_toArray, List.set_cons_zero, List.set_cons_succ, i64_w, i32_w]
              rfl
            refine one_ (i := 1) (N := some 102) #[true, true, true, true, true, true, true, true, false, false] rfl rfl (by kernel_rfl) (by decide) (fun K hK => ?_)
            refine goes_ Try.func14 (by kernel_rfl) rfl #[.pointer (some ⟨r, 0, none⟩)] (by rfl) rfl rfl (by simp only [List.map_toArray, List.map_cons, List.map_nil]; rfl) ?_
            with_reducible refine (w_word HRD.out (n := m) (by have := HMM.out; omega) HD1.out HL1.out).mono ?_
            rintro e w8 ⟨rfl, h1, h2⟩
            refine ⟨_, rfl, ?_⟩
            have hq := HQ1.out
            have R8 := Aside0.mk h1
            have B8 := Aside0.mk (HBD.out.trans h2.2)
            have q8 := cell_kp (a := ⟨(ad.add (j * 3)).block, (ad.add (j * 3)).off + 1, none⟩) HRD.out h2 LOW.out hq
            clear h1 h2
            refine hK.out _ _ (q8) (fun hHeld => ?_)
            clear hK K
            refine norm_ (a' := ?_) ?_ ?_
            rotate_left
            · show Act.put _ (some 102) _ = _
              simp only [Act.put, List.setIfInBounds_toArray, List.set_cons_zero, List.set_cons_succ, i64_w, i32_w]
              rfl
            refine pure_ (i := 8) (N := some 109) (v := ?_) (a' := ?_) #[true, true, true, true, true, true, true, true, true, false] rfl rfl (by kernel_rfl) (fun _ _ _ h => h) (Or.inl ⟨by rfl, ?_⟩) ?_ ?_
            rotate_left
            · intro w'
              go_simp
              with_reducible rfl
            rotate_left
            · simp only [Act.put, List.setIfInBounds_toArray, List.set_cons_zero, List.set_cons_succ, i64_w, i32_w]
              rfl
            refine pure_ (i := 9) (N := some 9) (v := ?_) (a' := ?_) #[true, true, true, true, true, true, true, true, true, true] rfl rfl (by kernel_rfl) (fun _ _ _ h => h) (Or.inl ⟨by rfl, ?_⟩) ?_ ?_
            rotate_left
            · intro w'
              go_simp
              with_reducible rfl
            rotate_left
            · simp only [Act.put, List.setIfInBounds_toArray, List.set_cons_zero, List.set_cons_succ, i64_w, i32_w]
              rfl
            refine done_ (by kernel_rfl) ?_
            go_wp2
            go_roundg (gk - 1)
            case measure => have := HJ.out; have := HJ2.out; omega
            case rel => exact ⟨j + 1, by first | rw [HW.out] | go_num, ⟨by have := HJ.out; have := HJ2.out; omega⟩, ⟨by rw [HP2.out]; exact R8.out⟩, B8⟩
          · skip
            have HL1 := Aside0.mk (show p + (putN 9 ks.size ++ bytesOf ks).length = p2 from HLL.out.symm)
            go_wp2
            refine start_ (n := 15) (S := fun w' => w'.cell? ⟨(ad.add (j * 3)).block, (ad.add (j * 3)).off + 2, none⟩ = some (.string ks)) (ds := []) #[false, false, false, false, false, false, false, false, false, false, false, false, false, false, false] (by kernel_rfl) rfl rfl (HQ2.out) (fun hHeld => ?_)
            refine pure_ (i := 0) (N := some 112) (v := ?_) (a' := ?_) #[true, false, false, false, false, false, false, false, false, false, false, false, false, false, false] rfl rfl (by kernel_rfl) (fun _ _ _ h => h) (Or.inl ⟨by rfl, ?_⟩) ?_ ?_
            rotate_left
            · intro w'
              go_simp
              with_reducible rfl
            rotate_left
            · simp only [Act.put, List.setIfInBounds_toArray, List.set_cons_zero, List.set_cons_succ, i64_w, i32_w]
              rfl
            refine pure_ (i := 1) (N := some 113) (v := ?_) (a' := ?_) #[true, true, false, false, false, false, false, false, false, false, false, false, false, false, false] rfl rfl (by kernel_rfl) (fun _ _ _ h => h) (Or.inl ⟨by rfl, ?_⟩) ?_ ?_
            rotate_left
            · intro w'
              go_simp
              with_reducible rfl
            rotate_left
            · simp only [Act.put, List.setIfInBounds_toArray, List.set_cons_zero, List.set_cons_succ, i64_w, i32_w]
              rfl
            refine pure_ (i := 2) (N := some 114) (v := ?_) (a' := ?_) #[true, true, true, false, false, false, false, false, false, false, false, false, false, false, false] rfl rfl (by kernel_rfl) (fun _ _ _ h => h) (Or.inl ⟨by rfl, ?_⟩) ?_ ?_
            rotate_left
            · intro w'
              go_simp
              with_reducible rfl
            rotate_left
            · simp only [Act.put, List.setIfInBounds_toArray, List.set_cons_zero, List.set_cons_succ, i64_w, i32_w]
              rfl
            refine pure_ (i := 3) (N := some 115) (v := ?_) (a' := ?_) #[true, true, true, true, false, false, false, false, false, false, false, false, false, false, false] rfl rfl (by kernel_rfl) (fun _ _ _ h => h) (Or.inl ⟨by rfl, ?_⟩) ?_ ?_
            rotate_left
            · intro w'
              go_simp
              with_reducible rfl
            rotate_left
            · simp only [Act.put, List.setIfInBounds_toArray, List.set_cons_zero, List.set_cons_succ, i64_w, i32_w]
              rfl
            refine pure_ (i := 4) (N := some 116) (v := ?_) (a' := ?_) #[true, true, true, true, true, false, false, false, false, false, false, false, false, false, false] rfl rfl (by kernel_rfl) (fun _ _ _ h => h) (Or.inl ⟨by rfl, ?_⟩) ?_ ?_
            rotate_left
            · intro w'
              go_simp
              with_reducible rfl
            rotate_left
            · simp only [Act.put, List.setIfInBounds_toArray, List.set_cons_zero, List.set_cons_succ, i64_w, i32_w]
              rfl
            refine pure_ (i := 8) (N := some 120) (v := ?_) (a' := ?_) #[true, true, true, true, true, false, false, false, true, false, false, false, false, false, false] rfl rfl (by kernel_rfl) (fun _ _ _ h => h) (Or.inl ⟨by rfl, ?_⟩) ?_ ?_
            rotate_left
            · intro w'
              go_simp
              with_reducible rfl
            rotate_left
            · simp only [Act.put, List.setIfInBounds_toArray, List.set_cons_zero, List.set_cons_succ, i64_w, i32_w]
              rfl
            refine pure_ (i := 9) (N := some 121) (v := ?_) (a' := ?_) #[true, true, true, true, true, false, false, false, true, true, false, false, false, false, false] rfl rfl (by kernel_rfl) (fun _ _ _ h => h) (Or.inl ⟨by rfl, ?_⟩) ?_ ?_
            rotate_left
            · intro w'
              go_simp
              with_reducible rfl
            rotate_left
            · simp only [Act.put, List.setIfInBounds_toArray, List.set_cons_zero, List.set_cons_succ, i64_w, i32_w]
              rfl
            refine pure_ (i := 10) (N := some 122) (v := ?_) (a' := ?_) #[true, true, true, true, true, false, false, false, true, true, true, false, false, false, false] rfl rfl (by kernel_rfl) (fun _ _ _ h => h) (Or.inl ⟨by rfl, ?_⟩) ?_ ?_
            rotate_left
            · intro w'
              go_simp
              with_reducible rfl
            rotate_left
            · simp only [Act.put, List.setIfInBounds_toArray, List.set_cons_zero, List.set_cons_succ, i64_w, i32_w]
              rfl
            refine pure_ (i := 11) (N := some 123) (v := ?_) (a' := ?_) #[true, true, true, true, true, false, false, false, true, true, true, true, false, false, false] rfl rfl (by kernel_rfl) (fun _ _ _ h => h) (Or.inl ⟨by rfl, ?_⟩) ?_ ?_
            rotate_left
            · intro w'
              go_simp
              with_reducible rfl
            rotate_left
            · simp only [Act.put, List.setIfInBounds_toArray, List.set_cons_zero, List.set_cons_succ, i64_w, i32_w]
              rfl
            refine take_ (i := 5) (N := some 117) (v := ?_) (a' := ?_) #[true, true, true, true, true, true, false, false, true, true, true, true, false, false, false] rfl rfl (by kernel_rfl) (fun _ _ _ h => h) (Or.inl ⟨by rfl, ?_⟩) hHeld ?_ ?_
            rotate_left
            · intro w' s0
              go_simp
              with_reducible rfl
            rotate_left
            · simp only [Act.put, List.setIfInBounds_toArray, List.set_cons_zero, List.set_cons_succ, i64_w, i32_w]
              rfl
            refine pure_ (i := 6) (N := some 118) (v := ?_) (a' := ?_) #[true, true, true, true, true, true, true, false, true, true, true, true, false, false, false] rfl rfl (by kernel_rfl) (fun _ _ _ h => h) (Or.inl ⟨by rfl, ?_⟩) ?_ ?_
            rotate_left
            · intro w'
              go_simp
              with_reducible rfl
            rotate_left
            · simp only [Act.put, List.setIfInBounds_toArray, List.set_cons_zero, List.set_cons_succ, i64_w, i32_w]
              rfl
            refine take_ (i := 12) (N := some 124) (v := ?_) (a' := ?_) #[true, true, true, true, true, true, true, false, true, true, true, true, true, false, false] rfl rfl (by kernel_rfl) (fun _ _ _ h => h) (Or.inl ⟨by rfl, ?_⟩) hHeld ?_ ?_
            rotate_left
            · intro w' s0
              go_simp
              with_reducible rfl
            rotate_left
            · simp only [Act.put, List.setIfInBounds_toArray, List.set_cons_zero, List.set_cons_succ, i64_w, i32_w]
              rfl
            refine one_ (i := 7) (N := some 119) #[true, true, true, true, true, true, true, true, true, true, true, true, true, false, false] rfl rfl (by kernel_rfl) (by decide) (fun K hK => ?_)
            refine goes_ Try.func15 (by kernel_rfl) rfl #[.pointer (some ⟨r, 0, none⟩), .int .i64 (ks.size : Int)] (by rfl) rfl rfl (by simp only [List.map_toArray, List.map_cons, List.map_nil]; rfl) ?_
            with_reducible refine (w_text HRD.out HS.out HDD.out HL1.out).mono ?_
            rintro e w8 ⟨rfl, h1, h2⟩
            refine ⟨_, rfl, ?_⟩
            have hq := HQ2.out
            have R8 := Aside0.mk h1
            have B8 := Aside0.mk (HBD.out.trans h2.2)
            have q8 := cell_kp (a := ⟨(ad.add (j * 3)).block, (ad.add (j * 3)).off + 2, none⟩) HRD.out h2 LOW.out hq
            clear h1 h2
            refine hK.out _ _ (q8) (fun hHeld => ?_)
            clear hK K
            refine norm_ (a' := ?_) ?_ ?_
            rotate_left
            · show Act.put _ (some 119) _ = _
              simp only [Act.put, List.setIfInBounds_toArray, List.set_cons_zero, List.set_cons_succ, i64_w, i32_w]
              rfl
            refine pure_ (i := 13) (N := some 125) (v := ?_) (a' := ?_) #[true, true, true, true, true, true, true, true, true, true, true, true, true, true, false] rfl rfl (by kernel_rfl) (fun _ _ _ h => h) (Or.inl ⟨by rfl, ?_⟩) ?_ ?_
            rotate_left
            · intro w'
              go_simp
              with_reducible rfl
            rotate_left
            · simp only [Act.put, List.setIfInBounds_toArray, List.set_cons_zero, List.set_cons_succ, i64_w, i32_w]
              rfl
            refine pure_ (i := 14) (N := some 9) (v := ?_) (a' := ?_) #[true, true, true, true, true, true, true, true, true, true, true, true, true, true, true] rfl rfl (by kernel_rfl) (fun _ _ _ h => h) (Or.inl ⟨by rfl, ?_⟩) ?_ ?_
            rotate_left
            · intro w'
              go_simp
              with_reducible rfl
            rotate_left
            · simp only [Act.put, List.setIfInBounds_toArray, List.set_cons_zero, List.set_cons_succ, i64_w, i32_w]
              rfl
            refine done_ (by kernel_rfl) ?_
            go_wp2
            go_roundg (gk - 1)
            case measure => have := HJ.out; have := HJ2.out; omega
            case rel => exact ⟨j + 1, by first | rw [HW.out] | go_num, ⟨by have := HJ.out; have := HJ2.out; omega⟩, ⟨by rw [HP2.out]; exact R8.out⟩, B8⟩
        · have d1 : decide ((j : Int) < (l.length : Int)) = false := decide_eq_false (by omega)
          have d1n : decide (j < l.length) = false := decide_eq_false hj
          have hjl : j = l.length := by have := HJ.out; omega
          subst hjl
          rw [show (wr8 (l.take l.length)).length = bs.length from by rw [List.take_length, HBS.out]] at HR
          clear hj
          go_wp2_with (first
            | (go_at_call 16; (with_reducible refine (w_end HR.out).mono ?_); rintro e w9 ⟨rfl, h1, h2⟩; have R9 := Aside0.mk h1; have B9 := Aside0.mk (HBr.out.trans h2.2); clear h1 h2)
            | (go_at_call 17; (with_reducible refine (err_calls R9.out).mono ?_); rintro e w_ ⟨rfl, rfl⟩)
            | (go_at_call 18; (with_reducible refine (at_calls R9.out).mono ?_); rintro e w_ ⟨rfl, rfl⟩)
            | (go_at_call 19; (with_reducible refine (w_left R9.out).mono ?_); rintro e w10 ⟨rfl, h1⟩; have B10 := Aside0.mk (below_then B9.out B9.out.size h1.below); clear h1))
          go_ret
          exact ⟨by first | rfl | simp, B10.out⟩
end Go.Proofs.Ytjanjpchdjagjaa.Rd
