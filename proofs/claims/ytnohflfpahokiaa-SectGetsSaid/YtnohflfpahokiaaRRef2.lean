
/- The reference's reader: a byte, a word, a count, a text, the end. -/
import Derived.Test.YtnohflfpahokiaaRRef
set_option linter.unusedVariables false
set_option linter.unusedSimpArgs false
namespace Go.Proofs.Ytnohflfpahokiaa.Rd
open Go Go.RowKit Go.Proofs.YtnohflfpahokiaaW.PrintWords Go.Proofs.YtnohflfpahokiaaW.PrintLast Go.Proofs.Ytnohflfpahokiaa.LebM Go.Proofs.Ytnohflfpahokiaa.Leb
section
variable {base g : Nat} {w : World} {bs : List Int} {p : Nat} {er : Int}
set_option maxHeartbeats 1000000 in
theorem rbyte_calls (r : Rdr 59 base w g bs p er) :
    Calls Try.prog 32 #[.pointer (some ⟨g, 0, none⟩)] w fun e w' => e = .returned (.int .i64 (byteM bs p er).1) ∧ Rdr 59 base w' g bs (byteM bs p er).2.1 (byteM bs p er).2.2 ∧ Kp base w w' g := by
  have R := Aside0.mk r
  unfold byteM
  by_cases he : er = 0
  · subst he
    rw [if_neg (fun h => h rfl)]
    by_cases hp : p < bs.length
    · rw [if_pos hp]
      have HN := Aside0.mk (show p + 1 ≤ bs.length by omega)
      have hml := midlen bs p 1 (by omega)
      have hg : ((bs.take (p + 1)).drop p).getD 0 0 = bs.getD p 0 := mid_getD bs p 1 0 (by omega) (by omega)
      have hby := getD_byte r.byte p
      have hw := w64 (x := bs.getD p 0) (by omega)
      obtain ⟨x, hx⟩ : ∃ x, bs.getD p 0 = x := ⟨_, rfl⟩
      rw [hx] at hg hw hby ⊢
      have HG := Aside0.mk hg
      have HML := Aside0.mk hml
      clear r hp hml hg hx
      go_enter Try.func32, Try.ntmps32
      go_wp2_with (go_at_call 57; (with_reducible refine (rtake_ok R.out 1 1 rfl HN.out).mono ?_); rintro e w1 ⟨⟨A2, c2, rfl, h0, h3⟩, h1, h2⟩; have R1 := Aside0.mk h1; have K1 := Aside0.mk h2; obtain ⟨ad, rfl, hcell⟩ := C_at h3 0 (by have := HML.out; omega); rw [HG.out] at hcell; have hcell2 : w1.cell? ad = some (.int .u8 x) := (by have h_ := hcell; simpa [Addr.add] using h_); clear h1 h2 h3 h0)
      go_ret
      exact ⟨by first | rfl | simp [hw], R1.out, K1.out⟩
    · rw [if_neg hp]
      have HN := Aside0.mk (show (bs.length : Int) - p < 1 by omega)
      clear r hp
      go_enter Try.func32, Try.ntmps32
      go_wp2_with (go_at_call 57; (with_reducible refine (rtake_bad R.out 1 HN.out).mono ?_); rintro e w1 ⟨rfl, h1, h2⟩; have R1 := Aside0.mk h1; have K1 := Aside0.mk h2; clear h1 h2)
      go_ret
      exact ⟨rfl, R1.out, K1.out⟩
  · rw [if_pos he]
    have HE := Aside0.mk he
    clear r he
    go_enter Try.func32, Try.ntmps32
    go_wp2_with (go_at_call 57; (with_reducible refine (rtake_shut R.out HE.out 1).mono ?_); rintro e w1 ⟨rfl, rfl⟩)
    go_ret
    exact ⟨rfl, R.out, Kp.refl base w g⟩
theorem le4 (y : Nat → Int) : leJ y 4 = y 0 + 256 * y 1 + 65536 * y 2 + 16777216 * y 3 := by
  simp [leJ]
  omega
set_option maxHeartbeats 2000000 in
theorem rword_calls' (r : Rdr 59 base w g bs p er) :
    Calls Try.prog 34 #[.pointer (some ⟨g, 0, none⟩)] w fun e w' => e = .returned (.int .u32 (wordM bs p er).1) ∧ Rdr 59 base w' g bs (wordM bs p er).2.1 (wordM bs p er).2.2 ∧ Kp base w w' g := by
  have R := Aside0.mk r
  unfold wordM
  by_cases he : er = 0
  · subst he
    rw [if_neg (fun h => h rfl)]
    by_cases hp : p + 4 ≤ bs.length
    · rw [if_pos hp]
      have HN := Aside0.mk hp
      have HML := Aside0.mk (midlen bs p 4 (by omega))
      have hy := fun i => getD_byte r.byte (p + i)
      obtain ⟨y, hyy⟩ : ∃ y : Nat → Int, (fun i => bs.getD (p + i) 0) = y := ⟨_, rfl⟩
      have HMG := Aside0.mk (show ∀ i, i < 4 → ((bs.take (p + 4)).drop p).getD i 0 = y i by intro i hi; rw [← hyy]; exact mid_getD bs p 4 i (by omega) hi)
      have hy2 : ∀ i, 0 ≤ y i ∧ y i < 256 := by intro i; rw [← hyy]; exact hy i
      rw [hyy, le4]
      clear hy hyy
      obtain ⟨y0, h0⟩ : ∃ y0, y 0 = y0 := ⟨_, rfl⟩
      obtain ⟨y1, h1⟩ : ∃ y1, y 1 = y1 := ⟨_, rfl⟩
      obtain ⟨y2, h2⟩ : ∃ y2, y 2 = y2 := ⟨_, rfl⟩
      obtain ⟨y3, h3⟩ : ∃ y3, y 3 = y3 := ⟨_, rfl⟩
      have b0 := hy2 0
      have b1 := hy2 1
      have b2 := hy2 2
      have b3 := hy2 3
      have M0 := Aside0.mk ((HMG.out 0 (by omega)).trans h0)
      have M1 := Aside0.mk ((HMG.out 1 (by omega)).trans h1)
      have M2 := Aside0.mk ((HMG.out 2 (by omega)).trans h2)
      have M3 := Aside0.mk ((HMG.out 3 (by omega)).trans h3)
      rw [h0] at b0 ⊢
      rw [h1] at b1 ⊢
      rw [h2] at b2 ⊢
      rw [h3] at b3 ⊢
      clear r hp hy2 h0 h1 h2 h3 HMG
      have e0 : IntKind.u32.wrap y0 = y0 := by rw [IntKind.wrap_u32]; omega
      have e1 : IntKind.u32.wrap y1 = y1 := by rw [IntKind.wrap_u32]; omega
      have e2 : IntKind.u32.wrap y2 = y2 := by rw [IntKind.wrap_u32]; omega
      have e3 : IntKind.u32.wrap y3 = y3 := by rw [IntKind.wrap_u32]; omega
      have e4 : IntKind.u32.wrap (256 * y1) = 256 * y1 := by rw [IntKind.wrap_u32]; omega
      have e5 : IntKind.u32.wrap (65536 * y2) = 65536 * y2 := by rw [IntKind.wrap_u32]; omega
      have e6 : IntKind.u32.wrap (16777216 * y3) = 16777216 * y3 := by rw [IntKind.wrap_u32]; omega
      have e7 : IntKind.u32.wrap (y0 + 256 * y1) = y0 + 256 * y1 := by rw [IntKind.wrap_u32]; omega
      have e8 : IntKind.u32.wrap (y0 + 256 * y1 + 65536 * y2) = y0 + 256 * y1 + 65536 * y2 := by rw [IntKind.wrap_u32]; omega
      have e9 : IntKind.u32.wrap (y0 + 256 * y1 + 65536 * y2 + 16777216 * y3) = y0 + 256 * y1 + 65536 * y2 + 16777216 * y3 := by rw [IntKind.wrap_u32]; omega
      go_enter Try.func34, Try.ntmps34
      go_wp2_with (go_at_call 57; (with_reducible refine (rtake_ok R.out 4 4 rfl HN.out).mono ?_); rintro e w1 ⟨⟨A2, c2, rfl, h0, h3⟩, h1, h2⟩; have R1 := Aside0.mk h1; have K1 := Aside0.mk h2; obtain ⟨ad, rfl, q0⟩ := C_at h3 0 (by have := HML.out; omega); obtain ⟨_, hh1, q1⟩ := C_at h3 1 (by have := HML.out; omega); obtain rfl := Option.some.inj hh1; obtain ⟨_, hh2, q2⟩ := C_at h3 2 (by have := HML.out; omega); obtain rfl := Option.some.inj hh2; obtain ⟨_, hh3, q3⟩ := C_at h3 3 (by have := HML.out; omega); obtain rfl := Option.some.inj hh3; rw [M0.out] at q0; rw [M1.out] at q1; rw [M2.out] at q2; rw [M3.out] at q3; have q00 : w1.cell? ad = some (.int .u8 y0) := (by have h_ := q0; simpa [Addr.add] using h_); have p00 : w1.drew.cell? ad = some (.int .u8 y0) := q00; have p0 : w1.cell? ad = some (.int .u8 y0) := q00; have p1 : w1.cell? ⟨ad.block, ad.off + 1, none⟩ = some (.int .u8 y1) := (by have h_ := q1; simpa [Addr.add] using h_); have p2 : w1.cell? ⟨ad.block, ad.off + 2, none⟩ = some (.int .u8 y2) := (by have h_ := q2; simpa [Addr.add] using h_); have p3 : w1.cell? ⟨ad.block, ad.off + 3, none⟩ = some (.int .u8 y3) := (by have h_ := q3; simpa [Addr.add] using h_); have s1 : w1.drew.cell? ⟨ad.block, ad.off + 1, none⟩ = some (.int .u8 y1) := p1; have s2 : w1.drew.cell? ⟨ad.block, ad.off + 2, none⟩ = some (.int .u8 y2) := p2; have s3 : w1.drew.cell? ⟨ad.block, ad.off + 3, none⟩ = some (.int .u8 y3) := p3; clear h1 h2 h3 h0 hh1 hh2 hh3)
      go_region
      all_goals go_wp2
      all_goals go_ret
      all_goals exact ⟨by first | rfl | simp [e0, e1, e2, e3, e4, e5, e6, e7, e8, e9] | trace_state, R1.out.drew, K1.out.trans (Kp.of_below (Below.refl _ _).drew R1.out.size g)⟩
    · rw [if_neg hp]
      have HN := Aside0.mk (show (bs.length : Int) - p < 4 by omega)
      clear r hp
      go_enter Try.func34, Try.ntmps34
      go_wp2_with (go_at_call 57; (with_reducible refine (rtake_bad R.out 4 HN.out).mono ?_); rintro e w1 ⟨rfl, h1, h2⟩; have R1 := Aside0.mk h1; have K1 := Aside0.mk h2; clear h1 h2)
      go_ret
      exact ⟨rfl, R1.out, K1.out⟩
  · rw [if_pos he]
    have HE := Aside0.mk he
    clear r he
    go_enter Try.func34, Try.ntmps34
    go_wp2_with (go_at_call 57; (with_reducible refine (rtake_shut R.out HE.out 4).mono ?_); rintro e w1 ⟨rfl, rfl⟩)
    go_ret
    exact ⟨rfl, R.out, Kp.refl base w g⟩
set_option maxHeartbeats 2000000 in
theorem rcount_calls (r : Rdr 59 base w g bs p er) (most : Int) (hm : most < 9223372036854775808) :
    Calls Try.prog 58 #[.pointer (some ⟨g, 0, none⟩), .int .i64 most] w fun e w' => e = .returned (.int .i64 (countM bs p er most).1) ∧ Rdr 59 base w' g bs (countM bs p er most).2.1 (countM bs p er most).2.2 ∧ Kp base w w' g := by
  have R := Aside0.mk r
  have ca := r.c1
  have hle := r.le
  unfold countM
  by_cases he : er = 0
  · subst he
    rw [if_neg (fun h => h rfl)]
    obtain ⟨n, k, x, hq⟩ : ∃ n k x, getM bs p = (n, k, x) := ⟨_, _, _, rfl⟩
    rw [hq]
    by_cases hx : x = 0
    · subst hx
      rw [if_neg (fun h => h rfl)]
      have hk := put_get0 (fun x hx => r.byte x (List.mem_of_mem_drop hx)) hq
      by_cases hl : most < 0 ∨ most < n
      · rw [if_pos hl]
        have HQ := Aside0.mk (getM_eq bs p hq)
        have HF := Aside0.mk (show failM 0 3 = 3 from rfl)
        have HLE := Aside0.mk hle
        by_cases h0 : most < 0
        · have b1 : decide (most < 0) = true := decide_eq_true h0
          clear r hq hl h0 hm hk hle
          go_enter Try.func58, Try.ntmps58
          go_wp2_with (first
            | (go_at_call 73; (with_reducible refine (ru_ok R.out HQ.out).mono ?_); rintro e w1 ⟨rfl, h1, h2⟩; have R1 := Aside0.mk h1; have K1 := Aside0.mk h2; have c1 := h1.c1; have c2 := h1.c2; have f1 := h1.fz 1; have R2 := Aside0.mk (h1.set1 HLE.out); clear h1 h2)
            | (go_at_call 59; (with_reducible refine (rfail_calls R2.out 3).mono ?_); rintro e w2 ⟨rfl, h1, h2⟩; rw [HF.out] at h1; have R3 := Aside0.mk h1; have K3 := Aside0.mk h2; clear h1 h2))
          go_ret
          exact ⟨rfl, R3.out, (K1.out.set R1.out.low 1 _).trans K3.out⟩
        · have b1 : decide (most < 0) = false := decide_eq_false h0
          have hw : IntKind.u64.wrap most = most := by rw [IntKind.wrap_u64]; omega
          have b2 : decide (most < n) = true := decide_eq_true (by omega)
          have b3 : decide (most % 18446744073709551616 < n) = true := decide_eq_true (by omega)
          clear r hq hl h0 hm hk hle
          go_enter Try.func58, Try.ntmps58
          go_wp2_with (first
            | (go_at_call 73; (with_reducible refine (ru_ok R.out HQ.out).mono ?_); rintro e w1 ⟨rfl, h1, h2⟩; have R1 := Aside0.mk h1; have K1 := Aside0.mk h2; have c1 := h1.c1; have c2 := h1.c2; have f1 := h1.fz 1; have R2 := Aside0.mk (h1.set1 HLE.out); clear h1 h2)
            | (go_at_call 59; (with_reducible refine (rfail_calls R2.out 3).mono ?_); rintro e w2 ⟨rfl, h1, h2⟩; rw [HF.out] at h1; have R3 := Aside0.mk h1; have K3 := Aside0.mk h2; clear h1 h2))
          go_ret
          exact ⟨rfl, R3.out, (K1.out.set R1.out.low 1 _).trans K3.out⟩
      · rw [if_neg hl]
        have b1 : decide (most < 0) = false := decide_eq_false (by omega)
        have hw : IntKind.u64.wrap most = most := by rw [IntKind.wrap_u64]; omega
        have b2 : decide (most < n) = false := decide_eq_false (by omega)
        have b3 : decide (most % 18446744073709551616 < n) = false := decide_eq_false (by omega)
        have hw2 : wrap64 n = n := w64 (by have := hk.1; omega)
        have hn0 := hk.1
        have HQ := Aside0.mk (getM_eq bs p hq)
        clear r hq hl hk hle
        go_enter Try.func58, Try.ntmps58
        go_wp2_with (first
          | (go_at_call 73; (with_reducible refine (ru_ok R.out HQ.out).mono ?_); rintro e w1 ⟨rfl, h1, h2⟩; have R1 := Aside0.mk h1; have K1 := Aside0.mk h2; have c2 := h1.c2; clear h1 h2))
        go_ret
        exact ⟨by first | rfl | simp [hw2], R1.out, K1.out⟩
    · rw [if_pos hx]
      have HX := Aside0.mk hx
      have b1 : (x != 0) = true := bne_iff_ne.mpr hx
      have HQ := Aside0.mk (getM_eq bs p hq)
      clear r hq hx hle
      go_enter Try.func58, Try.ntmps58
      go_wp2_with (first
        | (go_at_call 73; (with_reducible refine (ru_bad R.out HQ.out HX.out).mono ?_); rintro e w1 ⟨rfl, h1, h2⟩; have R1 := Aside0.mk h1; have K1 := Aside0.mk h2; have c2 := h1.c2; clear h1 h2))
      go_ret
      exact ⟨rfl, R1.out, K1.out⟩
  · rw [if_pos he]
    have HE := Aside0.mk he
    have b1 : (er != 0) = true := bne_iff_ne.mpr he
    have c2 := r.c2
    clear r he hle
    go_enter Try.func58, Try.ntmps58
    go_wp2_with (first
      | (go_at_call 73; (with_reducible refine (ru_shut R.out HE.out).mono ?_); rintro e w1 ⟨rfl, rfl⟩))
    go_ret
    exact ⟨rfl, R.out, Kp.refl base w g⟩
theorem textM_eq (bs : List Int) (p : Nat) (er most : Int) : textM bs p er most = if (countM bs p er most).2.2 ≠ 0 then (⟨#[]⟩, (countM bs p er most).2) else if (bs.length : Int) - ((countM bs p er most).2.1 : Nat) < (countM bs p er most).1 then (⟨#[]⟩, p, 10) else (strOfNums ((bs.take ((countM bs p er most).2.1 + (countM bs p er most).1.toNat)).drop (countM bs p er most).2.1), (countM bs p er most).2.1 + (countM bs p er most).1.toNat, 0) := by
  by_cases he : er = 0
  · by_cases hx : (getM bs p).2.2 = 0
    · by_cases hl : most < 0 ∨ most < (getM bs p).1
      · simp [textM, countM, he, hx, hl]
      · simp [textM, countM, he, hx, hl]
    · simp [textM, countM, he, hx]
  · simp [textM, countM, he]
theorem countM_ok {bs : List Int} {p : Nat} {er most : Int} (hb : ∀ x ∈ bs, 0 ≤ x ∧ x < 256) (h : (countM bs p er most).2.2 = 0) : 0 ≤ (countM bs p er most).1 := by
  by_cases he : er = 0
  · by_cases hx : (getM bs p).2.2 = 0
    · by_cases hl : most < 0 ∨ most < (getM bs p).1
      · simp [countM, he, hx, hl] at h
      · simp only [countM, he, hx, hl, ne_eq, not_true_eq_false, if_false]
        obtain ⟨n, k, x, hq⟩ : ∃ n k x, getM bs p = (n, k, x) := ⟨_, _, _, rfl⟩
        rw [hq] at hx ⊢
        simp only at hx
        subst hx
        exact (put_get0 (fun x hx => hb x (List.mem_of_mem_drop hx)) hq).1
    · simp [countM, he, hx] at h
  · simp [countM, he] at h
set_option maxHeartbeats 2000000 in
theorem rtext_calls (r : Rdr 59 base w g bs p er) (most : Int) (hm : most < 9223372036854775808) :
    Calls Try.prog 33 #[.pointer (some ⟨g, 0, none⟩), .int .i64 most] w fun e w' => e = .returned (.string (textM bs p er most).1) ∧ Rdr 59 base w' g bs (textM bs p er most).2.1 (textM bs p er most).2.2 ∧ Kp base w w' g := by
  have R := Aside0.mk r
  have ca := r.c1
  have hok := @countM_ok bs p er most r.byte
  have HLE := Aside0.mk r.le
  have HM := Aside0.mk hm
  have HLN := Aside0.mk r.len
  rw [textM_eq]
  obtain ⟨⟨n, q, x⟩, hq⟩ : ∃ t, countM bs p er most = t := ⟨_, rfl⟩
  rw [hq] at hok ⊢
  have HQ := Aside0.mk hq
  clear hq
  simp only at hok ⊢
  by_cases hx : x = 0
  · subst hx
    rw [if_neg (fun h => h rfl)]
    have hn0 := hok rfl
    by_cases hl : (bs.length : Int) - (q : Int) < n
    · rw [if_pos hl]
      have b1 : decide ((bs.length : Int) - (q : Int) < n) = true := decide_eq_true hl
      have HF := Aside0.mk (show failM 0 10 = 10 from rfl)
      clear r hok hn0 hl hm
      go_enter Try.func33, Try.ntmps33
      go_wp2_with (first
        | (go_at_call 58; (with_reducible refine (rcount_calls R.out most HM.out).mono ?_); rintro e w1 ⟨rfl, h1, h2⟩; rw [HQ.out] at h1 ⊢; replace h1 : Rdr 59 base w1 g bs q 0 := h1; have R1 := Aside0.mk h1; have K1 := Aside0.mk h2; have c1 := h1.c1; have c2 := h1.c2; have f1 := h1.fz 1; have f1d := h1.drew.fz 1; have c1d := h1.drew.c1; obtain ⟨A, c, hb, hbc, hbC⟩ := h1.blk; have c0 : w1.cell? ⟨g, 0, none⟩ = some (.slice A bs.length c) := (blk_cell hb 0).trans rfl; have c0d : w1.drew.cell? ⟨g, 0, none⟩ = some (.slice A bs.length c) := c0; have hw := w64 (x := (bs.length : Int) - (q : Int)) (by have := h1.le; have := HLN.out; omega); have R2 := Aside0.mk (h1.set1 HLE.out).drew; clear h1 h2 hb hbc hbC)
        | fail)
      go_region
      all_goals go_wp2_with (go_at_call 59; (with_reducible refine (rfail_calls R2.out 10).mono ?_); rintro e w2 ⟨rfl, h1, h2⟩; rw [HF.out] at h1; have R3 := Aside0.mk h1; have K3 := Aside0.mk h2; clear h1 h2)
      all_goals go_ret
      all_goals exact ⟨rfl, R3.out, ((K1.out.set R1.out.low 1 _).trans (Kp.of_below (Below.refl _ _).drew (by simpa using R1.out.size) g)).trans K3.out⟩
    · rw [if_neg hl]
      obtain ⟨m, hnm⟩ : ∃ m : Nat, (m : Int) = n := ⟨n.toNat, by omega⟩
      subst hnm
      rw [Int.toNat_natCast]
      have b1 : decide ((bs.length : Int) - (q : Int) < (m : Int)) = false := decide_eq_false hl
      have HN := Aside0.mk (show q + m ≤ bs.length by omega)
      have HML := Aside0.mk (midlen bs q m (by omega))
      clear r hok hn0 hl hm
      go_enter Try.func33, Try.ntmps33
      go_wp2_with (first
        | (go_at_call 58; (with_reducible refine (rcount_calls R.out most HM.out).mono ?_); rintro e w1 ⟨rfl, h1, h2⟩; rw [HQ.out] at h1 ⊢; replace h1 : Rdr 59 base w1 g bs q 0 := h1; have R1 := Aside0.mk h1; have K1 := Aside0.mk h2; have c1 := h1.c1; have c2 := h1.c2; have c1d := h1.drew.c1; obtain ⟨A, c, hb, hbc, hbC⟩ := h1.blk; have c0 : w1.cell? ⟨g, 0, none⟩ = some (.slice A bs.length c) := (blk_cell hb 0).trans rfl; have c0d : w1.drew.cell? ⟨g, 0, none⟩ = some (.slice A bs.length c) := c0; have hw := w64 (x := (bs.length : Int) - (q : Int)) (by have := h1.le; have := HLN.out; omega); have R2 := Aside0.mk h1.drew; clear h1 h2 hb hbc hbC)
        | fail)
      go_region
      all_goals go_wp2_with (go_at_call 57; (with_reducible refine (rtake_ok R2.out m (m : Int) rfl HN.out).mono ?_); rintro e w2 ⟨⟨A2, c2, rfl, h0, h3⟩, h1, h2⟩; have R3 := Aside0.mk h1; have K3 := Aside0.mk h2; have hcv := Kd.C_string (P := Try.prog) (A := A2) (c := c2) Try.underlying25 Try.underlying5 Try.underlying9 h3; rw [HML.out] at hcv; clear h0 h1 h2 h3)
      all_goals go_ret
      all_goals exact ⟨rfl, R3.out, (K1.out.trans (Kp.of_below (Below.refl _ _).drew R1.out.size g)).trans K3.out⟩
  · rw [if_pos hx]
    have b1 : (x != 0) = true := bne_iff_ne.mpr hx
    clear r hok hx hm
    go_enter Try.func33, Try.ntmps33
    go_wp2_with (first
      | (go_at_call 58; (with_reducible refine (rcount_calls R.out most HM.out).mono ?_); rintro e w1 ⟨rfl, h1, h2⟩; rw [HQ.out] at h1 ⊢; have R1 := Aside0.mk h1; have K1 := Aside0.mk h2; have c2 := h1.c2; clear h1 h2))
    go_ret
    exact ⟨rfl, R1.out, K1.out⟩

end
end Go.Proofs.Ytnohflfpahokiaa.Rd
