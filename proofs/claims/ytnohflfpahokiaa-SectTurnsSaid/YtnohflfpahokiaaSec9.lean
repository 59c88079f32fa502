/- Sections: the reference's Get, behind its beginning. -/
import Derived.Test.YtnohflfpahokiaaSec8
import Derived.Test.YtnohflfpahokiaaRRef2
set_option linter.unusedVariables false
set_option linter.unusedSimpArgs false
set_option maxRecDepth 20000
namespace Go.Proofs.Ytnohflfpahokiaa.Sec
open Go Go.RowKit Go.Proofs.YtnohflfpahokiaaW.PrintWords Go.Proofs.YtnohflfpahokiaaW.PrintLast Go.Proofs.Ytnohflfpahokiaa.LebM Go.Proofs.Ytnohflfpahokiaa.Leb
open Go.Proofs.Ytnohflfpahokiaa.PAll (S39 k39 z39 rd_T39 at_T39)
open Go.Proofs.Ytnohflfpahokiaa.Rd (Kp info5 Rdr byteM textM wordM getM C_move midlen countM)
open Go.Proofs.Ytnohflfpahokiaa.Crc (sumI sumI_range)
open Go.Proofs.Ytnohflfpahokiaa.Head (head5)


set_option maxHeartbeats 8000000 in
theorem RGetloop_calls {A : Option Addr} {c : Nat} {b : List Int} {w : World} (hC : (Kd.int .u8).C w A b.length b) (hc : b.length ≤ c) (hb : ∀ x ∈ b, 0 ≤ x ∧ x < 256) (hl : b.length ≤ 140737488351232) (h5 : ¬ begM b head5 < 5) :
    Calls Try.prog 15 #[.slice A b.length c] w fun e w' => LPost w.heap.size (getMM b) e w' ∧ Below w.heap.size w w' := by
  have EM := Aside0.mk (show getMM b = getL (b.drop 5) (b.length + 1) 0 0 [] by unfold getMM; rw [if_neg h5])
  have HC := Aside0.mk hC
  have Hc := Aside0.mk hc
  have HL := Aside0.mk hl
  have HBY := Aside0.mk hb
  have H5 := Aside0.mk h5
  have hu25 := Try.underlying25
  clear hC hc hb hl h5
  go_enter Try.func15, Try.ntmps15
  go_wp2_with (go_at_call 30; (with_reducible refine (Head.rhead_calls _).mono ?_); rintro e w1 ⟨v1, rfl, h1, h2⟩; obtain ⟨A1, c1, rfl, hc1, hC1⟩ := Kd.R_reads h1; have C1 := Aside0.mk hC1; have B1 := Aside0.mk h2; clear h1 h2 hc1 hC1)
  go_loopg [6] head5.length (fun gk v6 w' => ∃ j : Nat, v6 = .int .i64 (j : Int) ∧ Aside0 (j + gk = head5.length) ∧ Aside0 (Below w1.heap.size w1 w') ∧ Aside0 (begM b head5 = j + begM (b.drop j) (head5.drop j)))
  case atStart => exact ⟨0, rfl, ⟨by omega⟩, ⟨Below.refl _ _⟩, ⟨by simp⟩⟩
  case round =>
    obtain ⟨j, rfl, HJ, HB1, HE⟩ := hrel
    have HBw := Aside0.mk (below_then B1.out B1.out.size HB1.out)
    by_cases hj : j < head5.length
    · have g1 : decide ((j : Int) < (head5.length : Int)) = true := decide_eq_true (by omega)
      have g1n : decide (j < head5.length) = true := decide_eq_true hj
      have HJ2 := Aside0.mk hj
      have p1 : 0 ≤ (j : Int) := by omega
      have hw : wrap64 ((j : Int) + 1) = ((j + 1 : Nat) : Int) := by have h_ : head5.length = 5 := rfl; rw [h_] at hj; unfold wrap64; omega
      have HW := Aside0.mk hw
      by_cases hbl : b.length ≤ j
      · have d2 : decide ((b.length : Int) ≤ (j : Int)) = true := decide_eq_true (by omega)
        have d2n : decide (b.length ≤ j) = true := decide_eq_true hbl
        have HX := Aside0.mk (show begM b head5 = j by rw [HE.out, begM_end hj hbl]; omega)
        exact absurd (show begM b head5 < 5 by rw [HX.out]; exact hj) H5.out
      · have d2 : decide ((b.length : Int) ≤ (j : Int)) = false := decide_eq_false (by omega)
        have d2n : decide (b.length ≤ j) = false := decide_eq_false hbl
        have hjb : j < b.length := by omega
        have d3 : decide ((j : Int) < (b.length : Int)) = true := decide_eq_true (by omega)
        have d3n : decide (j < b.length) = true := decide_eq_true hjb
        obtain ⟨ad, hAd, q0⟩ := Rd.C_at HC.out j hjb
        obtain ⟨bd, hBd, q1⟩ := Rd.C_at C1.out j hj
        obtain ⟨x, hx⟩ : ∃ x, b.getD j 0 = x := ⟨_, rfl⟩
        obtain ⟨y, hy⟩ : ∃ y, head5.getD j 0 = y := ⟨_, rfl⟩
        have hst := begM_step hj hjb hx hy
        rw [hx] at q0
        rw [hy] at q1
        have Q0 : wr.drew.cell? (ad.add j) = some (.int .u8 x) := ((HBw.out.drew).cell (World.block_lt_of_cell? w _ q0)).trans q0
        have Q1 : wr.drew.cell? (bd.add j) = some (.int .u8 y) := ((HB1.out.drew).cell (World.block_lt_of_cell? w1 _ q1)).trans q1
        have HST := Aside0.mk hst
        subst hAd
        subst hBd
        clear q0 q1 hx hy hst
        by_cases hxy : x = y
        · have e1 : (x != y) = false := by rw [hxy]; simp
          have HXY := Aside0.mk hxy
          clear hxy
          go_wp2
          refine start_ (n := 15) (S := fun w' => w'.cell? (ad.add j) = some (.int .u8 x) ∧ w'.cell? (bd.add j) = some (.int .u8 y)) (ds := []) #[false, false, false, false, false, false, false, false, false, false, false, false, false, false, false] (by kernel_rfl) rfl rfl ⟨Q0, Q1⟩ (fun hHeld => ?_)
          refine pure_ (i := 0) (N := some 21) (v := ?_) (a' := ?_) #[true, false, false, false, false, false, false, false, false, false, false, false, false, false, false] rfl rfl (by kernel_rfl) (fun _ _ _ h => h) (Or.inl ⟨by rfl, ?_⟩) ?_ ?_
          rotate_left
          · intro w'
            go_simp
            with_reducible rfl
          rotate_left
          · simp only [Act.put, List.setIfInBounds_toArray, List.set_cons_zero, List.set_cons_succ, i64_w, i32_w]
            rfl
          refine pure_ (i := 1) (N := some 22) (v := ?_) (a' := ?_) #[true, true, false, false, false, false, false, false, false, false, false, false, false, false, false] rfl rfl (by kernel_rfl) (fun _ _ _ h => h) (Or.inl ⟨by rfl, ?_⟩) ?_ ?_
          rotate_left
          · intro w'
            go_simp
            with_reducible rfl
          rotate_left
          · simp only [Act.put, List.setIfInBounds_toArray, List.set_cons_zero, List.set_cons_succ, i64_w, i32_w]
            rfl
          refine pure_ (i := 2) (N := some 23) (v := ?_) (a' := ?_) #[true, true, true, false, false, false, false, false, false, false, false, false, false, false, false] rfl rfl (by kernel_rfl) (fun _ _ _ h => h) (Or.inl ⟨by rfl, ?_⟩) ?_ ?_
          rotate_left
          · intro w'
            go_simp
            with_reducible rfl
          rotate_left
          · simp only [Act.put, List.setIfInBounds_toArray, List.set_cons_zero, List.set_cons_succ, i64_w, i32_w]
            rfl
          refine pure_ (i := 3) (N := some 24) (v := ?_) (a' := ?_) #[true, true, true, true, false, false, false, false, false, false, false, false, false, false, false] rfl rfl (by kernel_rfl) (fun _ _ _ h => h) (Or.inl ⟨by rfl, ?_⟩) ?_ ?_
          rotate_left
          · intro w'
            go_simp
            with_reducible rfl
          rotate_left
          · simp only [Act.put, List.setIfInBounds_toArray, List.set_cons_zero, List.set_cons_succ, i64_w, i32_w]
            rfl
          refine pure_ (i := 4) (N := some 25) (v := ?_) (a' := ?_) #[true, true, true, true, true, false, false, false, false, false, false, false, false, false, false] rfl rfl (by kernel_rfl) (fun _ _ _ h => h) (Or.inl ⟨by rfl, ?_⟩) ?_ ?_
          rotate_left
          · intro w'
            go_simp
            with_reducible rfl
          rotate_left
          · simp only [Act.put, List.setIfInBounds_toArray, List.set_cons_zero, List.set_cons_succ, i64_w, i32_w]
            rfl
          refine pure_ (i := 5) (N := some 26) (v := ?_) (a' := ?_) #[true, true, true, true, true, true, false, false, false, false, false, false, false, false, false] rfl rfl (by kernel_rfl) (fun _ _ _ h => h) (Or.inl ⟨by rfl, ?_⟩) ?_ ?_
          rotate_left
          · intro w'
            go_simp
            with_reducible rfl
          rotate_left
          · simp only [Act.put, List.setIfInBounds_toArray, List.set_cons_zero, List.set_cons_succ, i64_w, i32_w]
            rfl
          refine pure_ (i := 6) (N := some 27) (v := ?_) (a' := ?_) #[true, true, true, true, true, true, true, false, false, false, false, false, false, false, false] rfl rfl (by kernel_rfl) (fun _ _ _ h => h) (Or.inl ⟨by rfl, ?_⟩) ?_ ?_
          rotate_left
          · intro w'
            go_simp
            with_reducible rfl
          rotate_left
          · simp only [Act.put, List.setIfInBounds_toArray, List.set_cons_zero, List.set_cons_succ, i64_w, i32_w]
            rfl
          refine pure_ (i := 7) (N := some 28) (v := ?_) (a' := ?_) #[true, true, true, true, true, true, true, true, false, false, false, false, false, false, false] rfl rfl (by kernel_rfl) (fun _ _ _ h => h) (Or.inl ⟨by rfl, ?_⟩) ?_ ?_
          rotate_left
          · intro w'
            go_simp
            with_reducible rfl
          rotate_left
          · simp only [Act.put, List.setIfInBounds_toArray, List.set_cons_zero, List.set_cons_succ, i64_w, i32_w]
            rfl
          refine pure_ (i := 9) (N := some 30) (v := ?_) (a' := ?_) #[true, true, true, true, true, true, true, true, false, true, false, false, false, false, false] rfl rfl (by kernel_rfl) (fun _ _ _ h => h) (Or.inl ⟨by rfl, ?_⟩) ?_ ?_
          rotate_left
          · intro w'
            go_simp
            with_reducible rfl
          rotate_left
          · simp only [Act.put, List.setIfInBounds_toArray, List.set_cons_zero, List.set_cons_succ, i64_w, i32_w]
            rfl
          refine pure_ (i := 10) (N := some 31) (v := ?_) (a' := ?_) #[true, true, true, true, true, true, true, true, false, true, true, false, false, false, false] rfl rfl (by kernel_rfl) (fun _ _ _ h => h) (Or.inl ⟨by rfl, ?_⟩) ?_ ?_
          rotate_left
          · intro w'
            go_simp
            with_reducible rfl
          rotate_left
          · simp only [Act.put, List.setIfInBounds_toArray, List.set_cons_zero, List.set_cons_succ, i64_w, i32_w]
            rfl
          refine pure_ (i := 11) (N := some 32) (v := ?_) (a' := ?_) #[true, true, true, true, true, true, true, true, false, true, true, true, false, false, false] rfl rfl (by kernel_rfl) (fun _ _ _ h => h) (Or.inl ⟨by rfl, ?_⟩) ?_ ?_
          rotate_left
          · intro w'
            go_simp
            with_reducible rfl
          rotate_left
          · simp only [Act.put, List.setIfInBounds_toArray, List.set_cons_zero, List.set_cons_succ, i64_w, i32_w]
            rfl
          refine take_ (i := 8) (N := some 29) (v := ?_) (a' := ?_) #[true, true, true, true, true, true, true, true, true, true, true, true, false, false, false] rfl rfl (by kernel_rfl) (fun _ _ _ h => h) (Or.inl ⟨by rfl, ?_⟩) hHeld ?_ ?_
          rotate_left
          · rintro w' ⟨s0, s1⟩
            go_simp
            with_reducible rfl
          rotate_left
          · simp only [Act.put, List.setIfInBounds_toArray, List.set_cons_zero, List.set_cons_succ, i64_w, i32_w]
            rfl
          refine take_ (i := 12) (N := some 33) (v := ?_) (a' := ?_) #[true, true, true, true, true, true, true, true, true, true, true, true, true, false, false] rfl rfl (by kernel_rfl) (fun _ _ _ h => h) (Or.inl ⟨by rfl, ?_⟩) hHeld ?_ ?_
          rotate_left
          · rintro w' ⟨s0, s1⟩
            go_simp
            with_reducible rfl
          rotate_left
          · simp only [Act.put, List.setIfInBounds_toArray, List.set_cons_zero, List.set_cons_succ, i64_w, i32_w]
            rfl
          refine pure_ (i := 13) (N := some 34) (v := ?_) (a' := ?_) #[true, true, true, true, true, true, true, true, true, true, true, true, true, true, false] rfl rfl (by kernel_rfl) (fun _ _ _ h => h) (Or.inl ⟨by rfl, ?_⟩) ?_ ?_
          rotate_left
          · intro w'
            go_simp
            with_reducible rfl
          rotate_left
          · simp only [Act.put, List.setIfInBounds_toArray, List.set_cons_zero, List.set_cons_succ, i64_w, i32_w]
            rfl
          refine pure_ (i := 14) (N := some 35) (v := ?_) (a' := ?_) #[true, true, true, true, true, true, true, true, true, true, true, true, true, true, true] rfl rfl (by kernel_rfl) (fun _ _ _ h => h) (Or.inl ⟨by rfl, ?_⟩) ?_ ?_
          rotate_left
          · intro w'
            go_simp
            with_reducible rfl
          rotate_left
          · simp only [Act.put, List.setIfInBounds_toArray, List.set_cons_zero, List.set_cons_succ, i64_w, i32_w]
            rfl
          refine done_ (by kernel_rfl) ?_
          go_wp2
          go_roundg (gk - 1)
          case measure => have := HJ.out; have := HJ2.out; omega
          case rel => exact ⟨j + 1, by first | rw [HW.out] | go_num, ⟨by have := HJ.out; have := HJ2.out; omega⟩, ⟨HB1.out.drew⟩, ⟨by rw [HE.out, HST.out, if_pos HXY.out]; omega⟩⟩
        · have e1 : (x != y) = true := bne_iff_ne.mpr hxy
          have HX := Aside0.mk (show begM b head5 = j by rw [HE.out, HST.out, if_neg hxy]; omega)
          exact absurd (show begM b head5 < 5 by rw [HX.out]; exact hj) H5.out
    · have g1 : decide ((j : Int) < (head5.length : Int)) = false := decide_eq_false (by omega)
      have g1n : decide (j < head5.length) = false := decide_eq_false hj
      have HX := Aside0.mk (show begM b head5 = head5.length from begin_end HE.out (by have h2 := HJ.out; omega))
      have HBL := Aside0.mk (begM_full b head5 HX.out).2
      clear hj
      go_wp2_with (first
        | ((with_reducible refine gate_dst (N := 37) rfl ?_); refine Kd.R_lit (Kd.int .u8) wr.heap.size 5 rfl (N := 37) rfl (xs := []) (inner := []) (ok := fun _ => True) (okp := fun _ => True) ?hr (Reps.none _ _) (fun _ hk => hk) trivial (Below.refl _ _) (Nat.le_refl _) (by simp) ?_; (case hr => first | (go_simp; done) | (go_simp; rfl)); intro v4 w4 h1 h2 _ _; have H4 := Aside0.mk h1; have b4 := Aside0.mk h2; have B4 := Aside0.mk (below_then HBw.out HBw.out.size h2); obtain ⟨A4, c4, rfl⟩ := Kd.R_slice h1; clear h1 h2)
        | (at_builtin; refine Kd.R_append_rows (Kd.int .u8) (w0 := wr) wr.heap.size rfl (.tmp 37) (.tmp 38) 25 5 (.int .u8 0) 1 rfl Try.underlying25 info5 rfl (by decide) (by omega) _ [] b A b.length c (fun _ => True) (fun _ => False) rfl rfl H4.out (Kd.C_below HC.out B4.out) (fun _ _ h => h) (fun _ h => h.elim) (fun _ _ => trivial) b4.out b4.out.size (by have := HL.out; simp; omega) ?_; intro v5 w5 h1 h2 h3 h4; rw [List.nil_append] at h1; obtain ⟨A5, c5, rfl, hc5, hC5⟩ := Kd.R_reads h1; have C5 := Aside0.mk hC5; have c5l := Aside0.mk hc5; have B5 := Aside0.mk (below_then HBw.out HBw.out.size h2); clear h1 h2 h3 h4 hC5 hc5))
      have CE0 := Aside0.mk (show (w5.alloc (.cells #[.slice A5 b.length c5, .int .i64 (head5.length : Int), .int .i64 0] 59)).cell? ⟨w5.heap.size, 0, none⟩ = some (.slice A5 b.length c5) from (blk_cell (blk_new w5 _) 0).trans rfl)
      have AL := Aside0.mk (show ∀ ad, A5 = some ad → 0 < b.length → ad.block < w5.heap.size from fun ad h hp => by
        have hC0 := C5.out
        rw [h] at hC0
        obtain ⟨ad2, h2, hx⟩ := Rd.C_at hC0 0 hp
        injection h2 with h2
        subst h2
        have := World.block_lt_of_cell? _ _ hx
        have e : (ad.add 0).block = ad.block := by unfold Addr.add; split <;> rfl
        rwa [e] at this)
      have ba := below_alloc (Below.refl w5.heap.size w5) (.cells #[.slice A5 b.length c5, .int .i64 (head5.length : Int), .int .i64 0] 59)
      have R6 := Aside0.mk (show Rdr 59 w.heap.size (w5.alloc (.cells #[.slice A5 b.length c5, .int .i64 (head5.length : Int), .int .i64 0] 59)) w5.heap.size b head5.length 0 from ⟨⟨A5, c5, blk_new w5 _, c5l.out, Kd.C_below C5.out ba⟩, B5.out.size, Nat.le_trans B5.out.size ba.size, HBL.out, by have := HL.out; omega, HBY.out⟩)
      have B6 := Aside0.mk (below_then B5.out B5.out.size ba)
      obtain ⟨V6, hV6⟩ : ∃ V, w5.alloc (.cells #[.slice A5 b.length c5, .int .i64 (head5.length : Int), .int .i64 0] 59) = V := ⟨_, rfl⟩
      have Z6 := Aside0.mk (show w5.heap.size < V6.heap.size by rw [← hV6]; simp)
      rw [hV6] at R6 B6 CE0
      obtain ⟨L, hL⟩ : ∃ L, b.drop 5 = L := ⟨_, rfl⟩
      have HLL := Aside0.mk hL
      have HLN := Aside0.mk (show L.length + 5 = b.length by have h1 := HBL.out; have h2 : head5.length = 5 := rfl; rw [← hL, List.length_drop]; omega)
      rw [hL] at EM
      clear ba hL
      rw [hV6]
      go_loopg [8, 9] L.length (fun gk v8 v9 w' => ∃ (p : Nat) (last : Int) (out : List S39) (f : Nat), v9 = .int .i64 last ∧ Aside0 (gk = L.length - p) ∧ Aside0 (Rdr 59 w.heap.size w' w5.heap.size b (5 + p) 0) ∧ Aside0 (Kd.N k39 39 w' V6.heap.size (fun k => k ≠ w5.heap.size) v8 out) ∧ Aside0 (Below w.heap.size w w') ∧ Aside0 (V6.heap.size ≤ w'.heap.size) ∧ Aside0 (w'.cell? ⟨w5.heap.size, 0, none⟩ = some (.slice A5 b.length c5)) ∧ Aside0 (getL L (b.length + 1) 0 0 [] = getL L f last p out ∧ L.length - p < f ∧ out.length ≤ 16))
      case atStart => exact ⟨0, 0, [], b.length + 1, rfl, ⟨rfl⟩, R6, ⟨Kd.N_nil _ _ _ _ _⟩, B6, ⟨Nat.le_refl _⟩, CE0, ⟨rfl, by have := HLN.out; omega, by decide⟩⟩
      case round =>
        obtain ⟨p, last, out, f, rfl, HGK, HR0, HN, HBl, HSz, HCE, HEQ⟩ := hrel
        obtain ⟨Av, cv, rfl⟩ := Kd.N_slice HN.out
        obtain ⟨f, rfl⟩ : ∃ m, f = m + 1 := ⟨f - 1, by have := HEQ.out.2.1; omega⟩
        obtain ⟨q, hq⟩ : ∃ q, 5 + p = q := ⟨_, rfl⟩
        have HR := Aside0.mk (show Rdr 59 w.heap.size wr w5.heap.size b q 0 by rw [← hq]; exact HR0.out)
        have HQP := Aside0.mk hq
        have c10 := HR.out.c1
        clear HR0
        by_cases hp : p < L.length
        · have HQ := Aside0.mk (show q < b.length by have := HLN.out; omega)
          have d1 : decide ((q : Int) < (b.length : Int)) = true := decide_eq_true (by have := HQ.out; omega)
          have d1n : decide (q < b.length) = true := decide_eq_true HQ.out
          have HP := Aside0.mk hp
          have GW := Aside0.mk (gW_le (bs := L) (fun x hx => HBY.out x (by have h := HLL.out; rw [← h] at hx; exact List.mem_of_mem_drop hx)) hp)
          obtain ⟨er, her⟩ : ∃ er, gE L p last = er := ⟨_, rfl⟩
          obtain ⟨t, ht⟩ : ∃ t, gT L p = t := ⟨_, rfl⟩
          obtain ⟨sx, hsx⟩ : ∃ s, (gX L p).1 = s := ⟨_, rfl⟩
          obtain ⟨x2, hx2⟩ : ∃ q, (gX L p).2.1 = q := ⟨_, rfl⟩
          obtain ⟨e2, he2⟩ : ∃ q, (gX L p).2.2 = q := ⟨_, rfl⟩
          obtain ⟨u, hu⟩ : ∃ q, (gW L p).1 = q := ⟨_, rfl⟩
          obtain ⟨n3, hn3⟩ : ∃ q, (gW L p).2.1 = q := ⟨_, rfl⟩
          obtain ⟨e3, he3⟩ : ∃ q, (gW L p).2.2 = q := ⟨_, rfl⟩
          obtain ⟨p2, hp2⟩ : ∃ q, 5 + x2 = q := ⟨_, rfl⟩
          have h5b : 5 ≤ b.length := by have := HLN.out; omega
          have HT := Aside0.mk (show b.getD q 0 = t by rw [← hq, gT_all, HLL.out, ht])
          have HX := Aside0.mk (show textM b (q + 1) 0 1048576 = (sx, p2, e2) by rw [← hq, gX_all h5b, HLL.out, hsx, hx2, he2, hp2])
          have HU := Aside0.mk (show wordM b p2 e2 = (u, 5 + n3, e3) by
            have h := gW_all h5b p
            rw [HLL.out, hx2, he2, hu, hn3, he3, hp2] at h
            exact h)
          have HS := Aside0.mk (show sx.size ≤ 9223372036854775807 by
            have h := @textM_size b (q + 1) 0 1048576
            rw [HX.out] at h
            have := HL.out
            simp only at h
            omega)
          have HPP := Aside0.mk (show q ≤ p2 by
            have h := textM_ge b (q + 1) 0 1048576
            rw [HX.out] at h
            simp only at h
            omega)
          have HP2 := Aside0.mk (show p2 ≤ b.length by
            have h := textM_le (er := 0) (most := 1048576) HBY.out (show q + 1 ≤ b.length by have := HQ.out; omega)
            rw [HX.out] at h
            exact h)
          have HEE := Aside0.mk (show er = if e3 ≠ 0 then e3 else if sumI ((b.take p2).drop q) ≠ u then 42 else if t ≤ last then 41 else 0 by
            rw [← her]
            unfold gE
            rw [he3, hx2, hu, ht, ← hp2, ← hq, mid_shift, HLL.out])
          have HST := Aside0.mk (show getMM b = if er ≠ 0 then ([], (q : Int), er) else if out.length = 16 then ([], (q : Int), 3) else getL L f t n3 (out ++ [⟨t, bytesOf sx⟩]) by
            rw [EM.out, HEQ.out.1]
            conv => lhs; unfold getL
            rw [if_neg (by omega), her, ht, hsx, hn3, ← hq]
            simp)
          have HN3 := Aside0.mk (show n3 = (gW L p).2.1 from hn3.symm)
          have hu39 := Try.underlying39
          clear hp hq her ht hsx hx2 he2 hu hn3 he3 hp2 h5b
          by_cases h3 : e3 = 0
          · have b3 : (e3 != 0) = false := by rw [h3]; rfl
            have H3 := Aside0.mk h3
            clear h3
            obtain ⟨i0, hi, hzz⟩ := Option.map_eq_some_iff.1 info5
            simp only [Prod.mk.injEq] at hzz
            obtain ⟨A2, hsl, hrd, hlc⟩ := print_mid_int (P := Try.prog) (k := .u8) 25 5 Try.underlying25 hi hzz.2.1 A c b (q : Int) (p2 : Int) (by omega) (by have := HPP.out; omega) (by have := HP2.out; omega) Hc.out
            simp only [Int.toNat_natCast] at hsl hrd hlc
            have HLr := Aside0.mk (show ∀ x ∈ (b.take p2).drop q, 0 ≤ x ∧ x < 256 from fun x hx => HBY.out x (List.mem_of_mem_take (List.mem_of_mem_drop hx)))
            have HLl := Aside0.mk (show ((b.take p2).drop q).length ≤ 140737488355328 by have := HL.out; rw [List.length_drop, List.length_take]; omega)
            have HM0 := Aside0.mk (show (Kd.int .u8).C w A2 ((b.take p2).drop q).length ((b.take p2).drop q) by have h_ := Kd.C_of_reads (d := (0 : Int)) (h1 := fun _ => rfl) (hrd w (Kd.reads_of_C (enc := Value.int .u8) (d := (0 : Int)) (h1 := fun _ => rfl) HC.out)); exact h_)
            obtain ⟨M, hM⟩ : ∃ M, (b.take p2).drop q = M := ⟨_, rfl⟩
            rw [hM] at hsl hlc HLr HLl HM0 HEE
            have HLC := Aside0.mk hlc
            clear hrd hlc hM hi hzz
            by_cases hsum : sumI M = u
            · have b4 : (u != sumI M) = false := by rw [hsum]; simp
              have HSU := Aside0.mk hsum
              clear hsum
              by_cases htl : t ≤ last
              · have b5 : decide (t ≤ last) = true := decide_eq_true htl
                have HER := Aside0.mk (show er = 41 by rw [HEE.out, if_neg (by simp [H3.out]), if_neg (by simp [HSU.out]), if_pos htl])
                clear htl
                go_wp2_with (first
                  | (go_at_call 32; (with_reducible refine (rg_byte HR.out HT.out HQ.out).mono ?_); rintro e w7 ⟨rfl, h1, h2⟩; have R7 := Aside0.mk h1; have K7 := Aside0.mk h2; clear h1 h2; obtain ⟨V7, hV7⟩ : ∃ V, w7.alloc (.cells #[.int .i64 t, .slice none 0 0] 39) = V := ⟨_, rfl⟩; have b7 := Aside0.mk (show Below w7.heap.size w7 V7 from (by rw [← hV7]; exact below_alloc (Below.refl _ _) _)); have S7 := Aside0.mk (show SBox V7 w7.heap.size t none 0 0 from (by rw [← hV7]; exact ⟨blk_new w7 _⟩)); have s7c := S7.out.c1; have s7f := blk_frozen S7.out.blk 1; have s7e : V7.setCell ⟨w7.heap.size, 1, none⟩ (.slice none 0 0) = V7 := (by rw [← hV7, World.setCell_alloc_new]; rfl); have R7v := Aside0.mk (R7.out.below b7.out); have K7v := Aside0.mk (K7.out.trans (Kp.of_below b7.out R7.out.size w5.heap.size)))
                  | (go_at_call 33; (with_reducible refine (rg_text R7v.out HX.out).mono ?_); rintro e w8 ⟨rfl, h1, h2⟩; have R8 := Aside0.mk h1; have K8 := Aside0.mk (K7v.out.trans h2); have S8 := Aside0.mk (S7.out.kp R7v.out h2 (by decide)); clear h1 h2)
                  | ((with_reducible refine gate_dst (N := 60) rfl ?_); refine bytes_eventF (N := 60) rfl rfl 9 25 5 _ sx rfl rfl Try.underlying9 Try.underlying25 Try.underlying5 HS.out ?_; intro Ax cx w9 hc hC hb; have Hcx := Aside0.mk hc; have R9 := Aside0.mk (R8.out.below hb); have S9 := Aside0.mk (S8.out.below hb); have K9 := Aside0.mk (K8.out.trans (Kp.of_below hb R8.out.size w5.heap.size)); have q1 := S9.out.c1; have f1 := blk_frozen S9.out.blk 1; have LB := Aside0.mk (show wr.heap.size ≤ w7.heap.size from K7.out.1.1); obtain ⟨V9, hV9⟩ : ∃ V, w9.setCell ⟨w7.heap.size, 1, none⟩ (.slice Ax (bytesOf sx).length cx) = V := ⟨_, rfl⟩; have S10 := Aside0.mk (show SBox V9 w7.heap.size t Ax (bytesOf sx).length cx from (by rw [← hV9]; exact ⟨blk_set S9.out.blk 1 _⟩)); have NG := Aside0.mk (show w5.heap.size ≠ w7.heap.size from (by have h := rdr_lt R7.out; omega)); have R10 := Aside0.mk (show Rdr 59 w.heap.size V9 w5.heap.size b p2 e2 from (by rw [← hV9]; exact R9.out.keep ((KeepBut.refl w9 w7.heap.size none).set_ 1 _) NG.out S9.out.far)); have K10 := Aside0.mk (show Kp w.heap.size wr V9 w5.heap.size from (by rw [← hV9]; exact kp_set K9.out LB.out (by have h := HBl.out.size; have h2 := LB.out; omega) 1 _)); have N2 := Aside0.mk (show w7.heap.size < w8.heap.size from blk_lt S8.out.blk); have C10 := Aside0.mk (show Kd.F (Kd.int .u8) V9 (fun k => k = w8.heap.size) Ax (bytesOf sx).length (bytesOf sx) from (by rw [← hV9]; exact F_setc hC (by have h := N2.out; omega))); have e14 := R10.out.c1; clear hc hC hb)
                  | (go_at_call 34; (with_reducible refine (rg_word R10.out HU.out).mono ?_); rintro e w11 ⟨rfl, h1, h2⟩; have R11 := Aside0.mk h1; have K11 := Aside0.mk (K10.out.trans h2); have S11 := Aside0.mk (S10.out.kp R10.out h2 (by decide)); have C11 := Aside0.mk (F_kp C10.out h2 (by have h := rdr_lt R8.out; omega)); have s0 := S11.out.c0; have s1 := S11.out.c1; have e16 := R11.out.c2; clear h1 h2)
                  | (go_at_call 20; (with_reducible refine (Crc.rsum_calls (Kd.C_below HM0.out (HBl.out.trans K11.out.2)) HLC.out HLr.out HLl.out).mono ?_); rintro e w12 ⟨rfl, h1⟩; have BD := Aside0.mk h1.below; have S12 := Aside0.mk (S11.out.below BD.out); have R12 := Aside0.mk (R11.out.below BD.out); have K12 := Aside0.mk (K11.out.trans (Kp.of_below BD.out R11.out.size w5.heap.size)); have C12 := Aside0.mk (Kd.F_below C11.out BD.out); have t0 := S12.out.c0; have t1 := S12.out.c1; clear h1))
                go_ret3
                rw [HST.out, HER.out, if_pos (by decide)]
                exact ⟨⟨.slice none 0 0, rfl, Kd.N_nil _ _ _ _ _⟩, HBl.out.trans K12.out.2⟩
              · have b5 : decide (t ≤ last) = false := decide_eq_false htl
                have HER := Aside0.mk (show er = 0 by rw [HEE.out, if_neg (by simp [H3.out]), if_neg (by simp [HSU.out]), if_neg htl])
                clear htl
                by_cases h16 : out.length = 16
                · have b6 : ((out.length : Int) == 16) = true := by rw [h16]; rfl
                  have H16 := Aside0.mk h16
                  clear h16
                  go_wp2_with (first
                    | (go_at_call 32; (with_reducible refine (rg_byte HR.out HT.out HQ.out).mono ?_); rintro e w7 ⟨rfl, h1, h2⟩; have R7 := Aside0.mk h1; have K7 := Aside0.mk h2; clear h1 h2; obtain ⟨V7, hV7⟩ : ∃ V, w7.alloc (.cells #[.int .i64 t, .slice none 0 0] 39) = V := ⟨_, rfl⟩; have b7 := Aside0.mk (show Below w7.heap.size w7 V7 from (by rw [← hV7]; exact below_alloc (Below.refl _ _) _)); have S7 := Aside0.mk (show SBox V7 w7.heap.size t none 0 0 from (by rw [← hV7]; exact ⟨blk_new w7 _⟩)); have s7c := S7.out.c1; have s7f := blk_frozen S7.out.blk 1; have s7e : V7.setCell ⟨w7.heap.size, 1, none⟩ (.slice none 0 0) = V7 := (by rw [← hV7, World.setCell_alloc_new]; rfl); have R7v := Aside0.mk (R7.out.below b7.out); have K7v := Aside0.mk (K7.out.trans (Kp.of_below b7.out R7.out.size w5.heap.size)))
                    | (go_at_call 33; (with_reducible refine (rg_text R7v.out HX.out).mono ?_); rintro e w8 ⟨rfl, h1, h2⟩; have R8 := Aside0.mk h1; have K8 := Aside0.mk (K7v.out.trans h2); have S8 := Aside0.mk (S7.out.kp R7v.out h2 (by decide)); clear h1 h2)
                    | ((with_reducible refine gate_dst (N := 60) rfl ?_); refine bytes_eventF (N := 60) rfl rfl 9 25 5 _ sx rfl rfl Try.underlying9 Try.underlying25 Try.underlying5 HS.out ?_; intro Ax cx w9 hc hC hb; have Hcx := Aside0.mk hc; have R9 := Aside0.mk (R8.out.below hb); have S9 := Aside0.mk (S8.out.below hb); have K9 := Aside0.mk (K8.out.trans (Kp.of_below hb R8.out.size w5.heap.size)); have q1 := S9.out.c1; have f1 := blk_frozen S9.out.blk 1; have LB := Aside0.mk (show wr.heap.size ≤ w7.heap.size from K7.out.1.1); obtain ⟨V9, hV9⟩ : ∃ V, w9.setCell ⟨w7.heap.size, 1, none⟩ (.slice Ax (bytesOf sx).length cx) = V := ⟨_, rfl⟩; have S10 := Aside0.mk (show SBox V9 w7.heap.size t Ax (bytesOf sx).length cx from (by rw [← hV9]; exact ⟨blk_set S9.out.blk 1 _⟩)); have NG := Aside0.mk (show w5.heap.size ≠ w7.heap.size from (by have h := rdr_lt R7.out; omega)); have R10 := Aside0.mk (show Rdr 59 w.heap.size V9 w5.heap.size b p2 e2 from (by rw [← hV9]; exact R9.out.keep ((KeepBut.refl w9 w7.heap.size none).set_ 1 _) NG.out S9.out.far)); have K10 := Aside0.mk (show Kp w.heap.size wr V9 w5.heap.size from (by rw [← hV9]; exact kp_set K9.out LB.out (by have h := HBl.out.size; have h2 := LB.out; omega) 1 _)); have N2 := Aside0.mk (show w7.heap.size < w8.heap.size from blk_lt S8.out.blk); have C10 := Aside0.mk (show Kd.F (Kd.int .u8) V9 (fun k => k = w8.heap.size) Ax (bytesOf sx).length (bytesOf sx) from (by rw [← hV9]; exact F_setc hC (by have h := N2.out; omega))); have e14 := R10.out.c1; clear hc hC hb)
                    | (go_at_call 34; (with_reducible refine (rg_word R10.out HU.out).mono ?_); rintro e w11 ⟨rfl, h1, h2⟩; have R11 := Aside0.mk h1; have K11 := Aside0.mk (K10.out.trans h2); have S11 := Aside0.mk (S10.out.kp R10.out h2 (by decide)); have C11 := Aside0.mk (F_kp C10.out h2 (by have h := rdr_lt R8.out; omega)); have s0 := S11.out.c0; have s1 := S11.out.c1; have e16 := R11.out.c2; clear h1 h2)
                    | (go_at_call 20; (with_reducible refine (Crc.rsum_calls (Kd.C_below HM0.out (HBl.out.trans K11.out.2)) HLC.out HLr.out HLl.out).mono ?_); rintro e w12 ⟨rfl, h1⟩; have BD := Aside0.mk h1.below; have S12 := Aside0.mk (S11.out.below BD.out); have R12 := Aside0.mk (R11.out.below BD.out); have K12 := Aside0.mk (K11.out.trans (Kp.of_below BD.out R11.out.size w5.heap.size)); have C12 := Aside0.mk (Kd.F_below C11.out BD.out); have t0 := S12.out.c0; have t1 := S12.out.c1; clear h1))
                  go_ret3
                  rw [HST.out, if_neg (fun h => h HER.out), if_pos H16.out]
                  exact ⟨⟨.slice none 0 0, rfl, Kd.N_nil _ _ _ _ _⟩, HBl.out.trans K12.out.2⟩
                · have b6 : ((out.length : Int) == 16) = false := beq_eq_false_iff_ne.mpr (by omega)
                  have H16 := Aside0.mk h16
                  clear h16
                  go_wp2_with (first
                    | (go_at_call 32; (with_reducible refine (rg_byte HR.out HT.out HQ.out).mono ?_); rintro e w7 ⟨rfl, h1, h2⟩; have R7 := Aside0.mk h1; have K7 := Aside0.mk h2; clear h1 h2; obtain ⟨V7, hV7⟩ : ∃ V, w7.alloc (.cells #[.int .i64 t, .slice none 0 0] 39) = V := ⟨_, rfl⟩; have b7 := Aside0.mk (show Below w7.heap.size w7 V7 from (by rw [← hV7]; exact below_alloc (Below.refl _ _) _)); have S7 := Aside0.mk (show SBox V7 w7.heap.size t none 0 0 from (by rw [← hV7]; exact ⟨blk_new w7 _⟩)); have s7c := S7.out.c1; have s7f := blk_frozen S7.out.blk 1; have s7e : V7.setCell ⟨w7.heap.size, 1, none⟩ (.slice none 0 0) = V7 := (by rw [← hV7, World.setCell_alloc_new]; rfl); have R7v := Aside0.mk (R7.out.below b7.out); have K7v := Aside0.mk (K7.out.trans (Kp.of_below b7.out R7.out.size w5.heap.size)))
                    | (go_at_call 33; (with_reducible refine (rg_text R7v.out HX.out).mono ?_); rintro e w8 ⟨rfl, h1, h2⟩; have R8 := Aside0.mk h1; have K8 := Aside0.mk (K7v.out.trans h2); have S8 := Aside0.mk (S7.out.kp R7v.out h2 (by decide)); clear h1 h2)
                    | ((with_reducible refine gate_dst (N := 60) rfl ?_); refine bytes_eventF (N := 60) rfl rfl 9 25 5 _ sx rfl rfl Try.underlying9 Try.underlying25 Try.underlying5 HS.out ?_; intro Ax cx w9 hc hC hb; have Hcx := Aside0.mk hc; have R9 := Aside0.mk (R8.out.below hb); have S9 := Aside0.mk (S8.out.below hb); have K9 := Aside0.mk (K8.out.trans (Kp.of_below hb R8.out.size w5.heap.size)); have q1 := S9.out.c1; have f1 := blk_frozen S9.out.blk 1; have LB := Aside0.mk (show wr.heap.size ≤ w7.heap.size from K7.out.1.1); obtain ⟨V9, hV9⟩ : ∃ V, w9.setCell ⟨w7.heap.size, 1, none⟩ (.slice Ax (bytesOf sx).length cx) = V := ⟨_, rfl⟩; have S10 := Aside0.mk (show SBox V9 w7.heap.size t Ax (bytesOf sx).length cx from (by rw [← hV9]; exact ⟨blk_set S9.out.blk 1 _⟩)); have NG := Aside0.mk (show w5.heap.size ≠ w7.heap.size from (by have h := rdr_lt R7.out; omega)); have R10 := Aside0.mk (show Rdr 59 w.heap.size V9 w5.heap.size b p2 e2 from (by rw [← hV9]; exact R9.out.keep ((KeepBut.refl w9 w7.heap.size none).set_ 1 _) NG.out S9.out.far)); have K10 := Aside0.mk (show Kp w.heap.size wr V9 w5.heap.size from (by rw [← hV9]; exact kp_set K9.out LB.out (by have h := HBl.out.size; have h2 := LB.out; omega) 1 _)); have N2 := Aside0.mk (show w7.heap.size < w8.heap.size from blk_lt S8.out.blk); have C10 := Aside0.mk (show Kd.F (Kd.int .u8) V9 (fun k => k = w8.heap.size) Ax (bytesOf sx).length (bytesOf sx) from (by rw [← hV9]; exact F_setc hC (by have h := N2.out; omega))); have e14 := R10.out.c1; clear hc hC hb)
                    | (go_at_call 34; (with_reducible refine (rg_word R10.out HU.out).mono ?_); rintro e w11 ⟨rfl, h1, h2⟩; have R11 := Aside0.mk h1; have K11 := Aside0.mk (K10.out.trans h2); have S11 := Aside0.mk (S10.out.kp R10.out h2 (by decide)); have C11 := Aside0.mk (F_kp C10.out h2 (by have h := rdr_lt R8.out; omega)); have s0 := S11.out.c0; have s1 := S11.out.c1; have e16 := R11.out.c2; clear h1 h2)
                    | (go_at_call 20; (with_reducible refine (Crc.rsum_calls (Kd.C_below HM0.out (HBl.out.trans K11.out.2)) HLC.out HLr.out HLl.out).mono ?_); rintro e w12 ⟨rfl, h1⟩; have BD := Aside0.mk h1.below; have S12 := Aside0.mk (S11.out.below BD.out); have R12 := Aside0.mk (R11.out.below BD.out); have K12 := Aside0.mk (K11.out.trans (Kp.of_below BD.out R11.out.size w5.heap.size)); have C12 := Aside0.mk (Kd.F_below C11.out BD.out); have t0 := S12.out.c0; have t1 := S12.out.c1; clear h1; have N12 := Aside0.mk (Kd.N_keep HN.out K12.out.1 (fun _ hk => hk)); have NL := Aside0.mk (Kd.N_lt HN.out); have CE12 := Aside0.mk (K12.out.row (rdr_lt HR.out) HCE.out); have Z12 := Aside0.mk (Nat.le_trans HSz.out K12.out.1.1); have F12 := Aside0.mk (FK39 (t := t) Hcx.out C12.out); have L12 := Aside0.mk (show wr.heap.size ≤ w8.heap.size ∧ w5.heap.size < wr.heap.size from (by have h1 := N2.out; have h2 := LB.out; have h3 := rdr_lt HR.out; exact ⟨by omega, h3⟩)))
                    | (at_builtin; refine Kd.N_append k39 (w0 := w12) V6.heap.size rfl (.tmp 99) (.tmp 101) 22 39 (.agg #[.int .i64 0, .slice none 0 0]) 32 rfl Try.underlying22 info39 rfl (by decide) (by omega) (.slice Av out.length cv) out ⟨t, bytesOf sx⟩ [.int .i64 t, .slice Ax (bytesOf sx).length cx] (fun k => k ≠ w5.heap.size) (fun k => k = w8.heap.size) rfl rfl F12.out ?n1 ?n2 N12.out (Below.refl _ _) Z12.out ?n3 ?_; (case n1 => exact fun k hk => ⟨by have := L12.out; omega, fun e => by have := NL.out k e.symm; have := L12.out; omega⟩); (case n2 => exact fun k hk e => by have := rdr_lt R12.out; omega); (case n3 => have := HEQ.out.2.2; omega); intro v13 w13 h1 h2 h3 h4; have N13 := Aside0.mk h1; have B13 := Aside0.mk ((HBl.out.trans K12.out.2).trans (h2.mono B6.out.size)); have hrow : some w5.heap.size ≠ (Value.slice Av out.length cv).ownBlock := Kd.N_away N12.out (fun _ hk => hk); have R13 := Aside0.mk (rdr_grown R12.out CE12.out h3 hrow (fun ad h => ⟨fun e => by have h5 := Kd.N_base N12.out _ e.symm; have h6 := AL.out ad h (by have := HQ.out; omega); have := Z6.out; omega, by have h6 := AL.out ad h (by have := HQ.out; omega); have := Z12.out; have := Z6.out; omega⟩)); have CE13 := Aside0.mk (show w13.cell? ⟨w5.heap.size, 0, none⟩ = some (.slice A5 b.length c5) from (by have h5 := h3.block w5.heap.size (rdr_lt R12.out) hrow; have h6 := CE12.out; simp only [World.cell?, h5] at h6 ⊢; exact h6)); have Z13 := Aside0.mk (Nat.le_trans Z12.out h3.size); have S13 := Aside0.mk (show SBox w13 w7.heap.size t Ax (bytesOf sx).length cx from ⟨(h3.block _ (blk_lt S12.out.blk) (fun e => by have h5 := NL.out _ e.symm; have := LB.out; omega)).trans S12.out.blk⟩); have u0 := S13.out.c0; clear h1 h2 h3 h4 hrow))
                  go_roundg (L.length - n3)
                  case measure => have := HGK.out; have h1 := GW.out; have := HP.out; have h2 := HN3.out; omega
                  case rel =>
                    refine ⟨n3, t, out ++ [⟨t, bytesOf sx⟩], f, rfl, ⟨rfl⟩, ⟨by have h := R13.out; rw [H3.out] at h; exact h⟩, N13, B13, Z13, CE13, ⟨?_, ?_, ?_⟩⟩
                    · have h := HST.out
                      rw [if_neg (fun h => h HER.out), if_neg H16.out, EM.out] at h
                      exact h
                    · have h1 := GW.out; have h2 := HP.out; have h3 := HN3.out; have h4 := HEQ.out.2.1; omega
                    · rw [List.length_append]; have h1 := HEQ.out.2.2; have h2 := H16.out; simp; omega
            · have b4 : (u != sumI M) = true := bne_iff_ne.mpr (fun h => hsum h.symm)
              have HER := Aside0.mk (show er = 42 by rw [HEE.out, if_neg (by simp [H3.out]), if_pos hsum])
              clear hsum
              go_wp2_with (first
                | (go_at_call 32; (with_reducible refine (rg_byte HR.out HT.out HQ.out).mono ?_); rintro e w7 ⟨rfl, h1, h2⟩; have R7 := Aside0.mk h1; have K7 := Aside0.mk h2; clear h1 h2; obtain ⟨V7, hV7⟩ : ∃ V, w7.alloc (.cells #[.int .i64 t, .slice none 0 0] 39) = V := ⟨_, rfl⟩; have b7 := Aside0.mk (show Below w7.heap.size w7 V7 from (by rw [← hV7]; exact below_alloc (Below.refl _ _) _)); have S7 := Aside0.mk (show SBox V7 w7.heap.size t none 0 0 from (by rw [← hV7]; exact ⟨blk_new w7 _⟩)); have s7c := S7.out.c1; have s7f := blk_frozen S7.out.blk 1; have s7e : V7.setCell ⟨w7.heap.size, 1, none⟩ (.slice none 0 0) = V7 := (by rw [← hV7, World.setCell_alloc_new]; rfl); have R7v := Aside0.mk (R7.out.below b7.out); have K7v := Aside0.mk (K7.out.trans (Kp.of_below b7.out R7.out.size w5.heap.size)))
                | (go_at_call 33; (with_reducible refine (rg_text R7v.out HX.out).mono ?_); rintro e w8 ⟨rfl, h1, h2⟩; have R8 := Aside0.mk h1; have K8 := Aside0.mk (K7v.out.trans h2); have S8 := Aside0.mk (S7.out.kp R7v.out h2 (by decide)); clear h1 h2)
                | ((with_reducible refine gate_dst (N := 60) rfl ?_); refine bytes_eventF (N := 60) rfl rfl 9 25 5 _ sx rfl rfl Try.underlying9 Try.underlying25 Try.underlying5 HS.out ?_; intro Ax cx w9 hc hC hb; have Hcx := Aside0.mk hc; have R9 := Aside0.mk (R8.out.below hb); have S9 := Aside0.mk (S8.out.below hb); have K9 := Aside0.mk (K8.out.trans (Kp.of_below hb R8.out.size w5.heap.size)); have q1 := S9.out.c1; have f1 := blk_frozen S9.out.blk 1; have LB := Aside0.mk (show wr.heap.size ≤ w7.heap.size from K7.out.1.1); obtain ⟨V9, hV9⟩ : ∃ V, w9.setCell ⟨w7.heap.size, 1, none⟩ (.slice Ax (bytesOf sx).length cx) = V := ⟨_, rfl⟩; have S10 := Aside0.mk (show SBox V9 w7.heap.size t Ax (bytesOf sx).length cx from (by rw [← hV9]; exact ⟨blk_set S9.out.blk 1 _⟩)); have NG := Aside0.mk (show w5.heap.size ≠ w7.heap.size from (by have h := rdr_lt R7.out; omega)); have R10 := Aside0.mk (show Rdr 59 w.heap.size V9 w5.heap.size b p2 e2 from (by rw [← hV9]; exact R9.out.keep ((KeepBut.refl w9 w7.heap.size none).set_ 1 _) NG.out S9.out.far)); have K10 := Aside0.mk (show Kp w.heap.size wr V9 w5.heap.size from (by rw [← hV9]; exact kp_set K9.out LB.out (by have h := HBl.out.size; have h2 := LB.out; omega) 1 _)); have N2 := Aside0.mk (show w7.heap.size < w8.heap.size from blk_lt S8.out.blk); have C10 := Aside0.mk (show Kd.F (Kd.int .u8) V9 (fun k => k = w8.heap.size) Ax (bytesOf sx).length (bytesOf sx) from (by rw [← hV9]; exact F_setc hC (by have h := N2.out; omega))); have e14 := R10.out.c1; clear hc hC hb)
                | (go_at_call 34; (with_reducible refine (rg_word R10.out HU.out).mono ?_); rintro e w11 ⟨rfl, h1, h2⟩; have R11 := Aside0.mk h1; have K11 := Aside0.mk (K10.out.trans h2); have S11 := Aside0.mk (S10.out.kp R10.out h2 (by decide)); have C11 := Aside0.mk (F_kp C10.out h2 (by have h := rdr_lt R8.out; omega)); have s0 := S11.out.c0; have s1 := S11.out.c1; have e16 := R11.out.c2; clear h1 h2)
                | (go_at_call 20; (with_reducible refine (Crc.rsum_calls (Kd.C_below HM0.out (HBl.out.trans K11.out.2)) HLC.out HLr.out HLl.out).mono ?_); rintro e w12 ⟨rfl, h1⟩; have BD := Aside0.mk h1.below; have S12 := Aside0.mk (S11.out.below BD.out); have R12 := Aside0.mk (R11.out.below BD.out); have K12 := Aside0.mk (K11.out.trans (Kp.of_below BD.out R11.out.size w5.heap.size)); have C12 := Aside0.mk (Kd.F_below C11.out BD.out); have t0 := S12.out.c0; have t1 := S12.out.c1; clear h1))
              go_ret3
              rw [HST.out, HER.out, if_pos (by decide)]
              exact ⟨⟨.slice none 0 0, rfl, Kd.N_nil _ _ _ _ _⟩, HBl.out.trans K12.out.2⟩
          · have b3 : (e3 != 0) = true := bne_iff_ne.mpr h3
            have HER := Aside0.mk (show er = e3 by rw [HEE.out, if_pos h3])
            have H3 := Aside0.mk h3
            clear h3
            go_wp2_with (first
              | (go_at_call 32; (with_reducible refine (rg_byte HR.out HT.out HQ.out).mono ?_); rintro e w7 ⟨rfl, h1, h2⟩; have R7 := Aside0.mk h1; have K7 := Aside0.mk h2; clear h1 h2; obtain ⟨V7, hV7⟩ : ∃ V, w7.alloc (.cells #[.int .i64 t, .slice none 0 0] 39) = V := ⟨_, rfl⟩; have b7 := Aside0.mk (show Below w7.heap.size w7 V7 from (by rw [← hV7]; exact below_alloc (Below.refl _ _) _)); have S7 := Aside0.mk (show SBox V7 w7.heap.size t none 0 0 from (by rw [← hV7]; exact ⟨blk_new w7 _⟩)); have s7c := S7.out.c1; have s7f := blk_frozen S7.out.blk 1; have s7e : V7.setCell ⟨w7.heap.size, 1, none⟩ (.slice none 0 0) = V7 := (by rw [← hV7, World.setCell_alloc_new]; rfl); have R7v := Aside0.mk (R7.out.below b7.out); have K7v := Aside0.mk (K7.out.trans (Kp.of_below b7.out R7.out.size w5.heap.size)))
              | (go_at_call 33; (with_reducible refine (rg_text R7v.out HX.out).mono ?_); rintro e w8 ⟨rfl, h1, h2⟩; have R8 := Aside0.mk h1; have K8 := Aside0.mk (K7v.out.trans h2); have S8 := Aside0.mk (S7.out.kp R7v.out h2 (by decide)); clear h1 h2)
              | ((with_reducible refine gate_dst (N := 60) rfl ?_); refine bytes_eventF (N := 60) rfl rfl 9 25 5 _ sx rfl rfl Try.underlying9 Try.underlying25 Try.underlying5 HS.out ?_; intro Ax cx w9 hc hC hb; have Hcx := Aside0.mk hc; have R9 := Aside0.mk (R8.out.below hb); have S9 := Aside0.mk (S8.out.below hb); have K9 := Aside0.mk (K8.out.trans (Kp.of_below hb R8.out.size w5.heap.size)); have q1 := S9.out.c1; have f1 := blk_frozen S9.out.blk 1; have LB := Aside0.mk (show wr.heap.size ≤ w7.heap.size from K7.out.1.1); obtain ⟨V9, hV9⟩ : ∃ V, w9.setCell ⟨w7.heap.size, 1, none⟩ (.slice Ax (bytesOf sx).length cx) = V := ⟨_, rfl⟩; have S10 := Aside0.mk (show SBox V9 w7.heap.size t Ax (bytesOf sx).length cx from (by rw [← hV9]; exact ⟨blk_set S9.out.blk 1 _⟩)); have NG := Aside0.mk (show w5.heap.size ≠ w7.heap.size from (by have h := rdr_lt R7.out; omega)); have R10 := Aside0.mk (show Rdr 59 w.heap.size V9 w5.heap.size b p2 e2 from (by rw [← hV9]; exact R9.out.keep ((KeepBut.refl w9 w7.heap.size none).set_ 1 _) NG.out S9.out.far)); have K10 := Aside0.mk (show Kp w.heap.size wr V9 w5.heap.size from (by rw [← hV9]; exact kp_set K9.out LB.out (by have h := HBl.out.size; have h2 := LB.out; omega) 1 _)); have N2 := Aside0.mk (show w7.heap.size < w8.heap.size from blk_lt S8.out.blk); have C10 := Aside0.mk (show Kd.F (Kd.int .u8) V9 (fun k => k = w8.heap.size) Ax (bytesOf sx).length (bytesOf sx) from (by rw [← hV9]; exact F_setc hC (by have h := N2.out; omega))); have e14 := R10.out.c1; clear hc hC hb)
              | (go_at_call 34; (with_reducible refine (rg_word R10.out HU.out).mono ?_); rintro e w11 ⟨rfl, h1, h2⟩; have R11 := Aside0.mk h1; have K11 := Aside0.mk (K10.out.trans h2); have S11 := Aside0.mk (S10.out.kp R10.out h2 (by decide)); have C11 := Aside0.mk (F_kp C10.out h2 (by have h := rdr_lt R8.out; omega)); have s0 := S11.out.c0; have s1 := S11.out.c1; have e16 := R11.out.c2; clear h1 h2))
            have RD := Aside0.mk (R11.out.drew)
            have E17 := RD.out.c2
            refine start_ (n := 8) (S := fun w' => w'.cell? ⟨w5.heap.size, 2, none⟩ = some (.int .i64 e3)) (ds := []) #[false, false, false, false, false, false, false, false] (by kernel_rfl) rfl rfl (E17) (fun hHeld => ?_)
            refine pure_ (i := 0) (N := some 74) (v := ?_) (a' := ?_) #[true, false, false, false, false, false, false, false] rfl rfl (by kernel_rfl) (fun _ _ _ h => h) (Or.inl ⟨by rfl, ?_⟩) ?_ ?_
            rotate_left
            · intro w'
              go_simp
              with_reducible rfl
            rotate_left
            · simp only [Act.put, List.setIfInBounds_toArray, List.set_cons_zero, List.set_cons_succ, i64_w, i32_w]
              rfl
            refine pure_ (i := 1) (N := some 75) (v := ?_) (a' := ?_) #[true, true, false, false, false, false, false, false] rfl rfl (by kernel_rfl) (fun _ _ _ h => h) (Or.inl ⟨by rfl, ?_⟩) ?_ ?_
            rotate_left
            · intro w'
              go_simp
              with_reducible rfl
            rotate_left
            · simp only [Act.put, List.setIfInBounds_toArray, List.set_cons_zero, List.set_cons_succ, i64_w, i32_w]
              rfl
            refine pure_ (i := 2) (N := some 76) (v := ?_) (a' := ?_) #[true, true, true, false, false, false, false, false] rfl rfl (by kernel_rfl) (fun _ _ _ h => h) (Or.inl ⟨by rfl, ?_⟩) ?_ ?_
            rotate_left
            · intro w'
              go_simp
              with_reducible rfl
            rotate_left
            · simp only [Act.put, List.setIfInBounds_toArray, List.set_cons_zero, List.set_cons_succ, i64_w, i32_w]
              rfl
            refine pure_ (i := 3) (N := some 77) (v := ?_) (a' := ?_) #[true, true, true, true, false, false, false, false] rfl rfl (by kernel_rfl) (fun _ _ _ h => h) (Or.inl ⟨by rfl, ?_⟩) ?_ ?_
            rotate_left
            · intro w'
              go_simp
              with_reducible rfl
            rotate_left
            · simp only [Act.put, List.setIfInBounds_toArray, List.set_cons_zero, List.set_cons_succ, i64_w, i32_w]
              rfl
            refine pure_ (i := 5) (N := some 2) (v := ?_) (a' := ?_) #[true, true, true, true, false, true, false, false] rfl rfl (by kernel_rfl) (fun _ _ _ h => h) (Or.inl ⟨by rfl, ?_⟩) ?_ ?_
            rotate_left
            · intro w'
              go_simp
              with_reducible rfl
            rotate_left
            · simp only [Act.put, List.setIfInBounds_toArray, List.set_cons_zero, List.set_cons_succ, i64_w, i32_w]
              rfl
            refine pure_ (i := 6) (N := some 3) (v := ?_) (a' := ?_) #[true, true, true, true, false, true, true, false] rfl rfl (by kernel_rfl) (fun _ _ _ h => h) (Or.inl ⟨by rfl, ?_⟩) ?_ ?_
            rotate_left
            · intro w'
              go_simp
              with_reducible rfl
            rotate_left
            · simp only [Act.put, List.setIfInBounds_toArray, List.set_cons_zero, List.set_cons_succ, i64_w, i32_w]
              rfl
            refine take_ (i := 4) (N := some 78) (v := ?_) (a' := ?_) #[true, true, true, true, true, true, true, false] rfl rfl (by kernel_rfl) (fun _ _ _ h => h) (Or.inl ⟨by rfl, ?_⟩) hHeld ?_ ?_
            rotate_left
            · intro w' s0
              go_simp
              with_reducible rfl
            rotate_left
            · simp only [Act.put, List.setIfInBounds_toArray, List.set_cons_zero, List.set_cons_succ, i64_w, i32_w]
              rfl
            refine pure_ (i := 7) (N := some 4) (v := ?_) (a' := ?_) #[true, true, true, true, true, true, true, true] rfl rfl (by kernel_rfl) (fun _ _ _ h => h) (Or.inl ⟨by rfl, ?_⟩) ?_ ?_
            rotate_left
            · intro w'
              go_simp
              with_reducible rfl
            rotate_left
            · simp only [Act.put, List.setIfInBounds_toArray, List.set_cons_zero, List.set_cons_succ, i64_w, i32_w]
              rfl
            refine done_ (by kernel_rfl) ?_
            go_wp2
            go_ret3
            rw [HST.out, HER.out, if_pos H3.out]
            exact ⟨⟨.slice none 0 0, rfl, Kd.N_nil _ _ _ _ _⟩, (HBl.out.trans K11.out.2).drew⟩
        · have d1 : decide ((q : Int) < (b.length : Int)) = false := decide_eq_false (by have := HLN.out; omega)
          have d1n : decide (q < b.length) = false := decide_eq_false (by have := HLN.out; omega)
          have HE := Aside0.mk (show getMM b = (out, (b.length : Int), 0) by
            rw [EM.out, HEQ.out.1]
            unfold getL
            rw [if_pos (by omega)]
            have h := HLN.out
            congr 1
            congr 1
            omega)
          clear hp hq
          go_wp2
          go_ret3
          rw [HE.out]
          exact ⟨⟨.slice Av out.length cv, rfl, Kd.N_mono (Kd.N_lower HN.out B6.out.size) (fun _ _ => trivial)⟩, HBl.out⟩

theorem RGet_calls {A : Option Addr} {c : Nat} {b : List Int} {w : World} (hC : (Kd.int .u8).C w A b.length b) (hc : b.length ≤ c) (hb : ∀ x ∈ b, 0 ≤ x ∧ x < 256) (hl : b.length ≤ 140737488351232) :
    Calls Try.prog 15 #[.slice A b.length c] w fun e w' => LPost w.heap.size (getMM b) e w' ∧ Below w.heap.size w w' := by
  by_cases h : begM b head5 < 5
  · exact RGethead_calls hC hc hb hl h
  · exact RGetloop_calls hC hc hb hl h
end Go.Proofs.Ytnohflfpahokiaa.Sec
