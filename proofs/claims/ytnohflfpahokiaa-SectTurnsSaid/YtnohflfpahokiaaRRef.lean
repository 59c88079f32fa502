
/- The reference's reader: the same plain functions tell what each of its methods does. -/
import Derived.Test.YtnohflfpahokiaaMeth
set_option linter.unusedVariables false
set_option linter.unusedSimpArgs false
namespace Go.Proofs.Ytnohflfpahokiaa.Rd
open Go Go.RowKit Go.Proofs.YtnohflfpahokiaaW.PrintWords Go.Proofs.YtnohflfpahokiaaW.PrintLast Go.Proofs.Ytnohflfpahokiaa.LebM Go.Proofs.Ytnohflfpahokiaa.Leb
section
variable {base g : Nat} {w : World} {bs : List Int} {p : Nat} {er : Int}
set_option maxHeartbeats 1000000 in
theorem rfail_calls (r : Rdr 59 base w g bs p er) (x : Int) : Calls Try.prog 59 #[.pointer (some ⟨g, 0, none⟩), .int .i64 x] w fun e w' => e = .returned (.tuple #[]) ∧ Rdr 59 base w' g bs p (failM er x) ∧ Kp base w w' g := by
  have c2 := r.c2
  have f2 := r.fz 2
  have R := Aside0.mk r
  unfold failM
  clear r
  by_cases he : er = 0
  · subst he
    rw [if_pos rfl]
    by_cases hx : x = 0
    · subst hx
      rw [if_pos rfl]
      go_enter Try.func59, Try.ntmps59
      go_wp2
      go_end0
      exact ⟨rfl, R.out.set2 1, (Kp.refl base w g).set R.out.low 2 _⟩
    · have b1 : (x == 0) = false := beq_eq_false_iff_ne.mpr hx
      rw [if_neg hx]
      clear hx
      go_enter Try.func59, Try.ntmps59
      go_wp2
      go_end0
      exact ⟨rfl, R.out.set2 x, (Kp.refl base w g).set R.out.low 2 _⟩
  · have b2 : (er == 0) = false := beq_eq_false_iff_ne.mpr he
    rw [if_neg he]
    clear he
    by_cases hx : x = 0
    · subst hx
      go_enter Try.func59, Try.ntmps59
      go_wp2
      go_end0
      exact ⟨rfl, R.out, Kp.refl base w g⟩
    · have b1 : (x == 0) = false := beq_eq_false_iff_ne.mpr hx
      clear hx
      go_enter Try.func59, Try.ntmps59
      go_wp2
      go_end0
      exact ⟨rfl, R.out, Kp.refl base w g⟩


set_option maxHeartbeats 2000000 in
set_option maxRecDepth 100000 in
theorem ru_ok (r : Rdr 59 base w g bs p 0) {n k : Int} (hq : getS (bs.drop p) 0 1 0 = (n, k, 0)) :
    Calls Try.prog 73 #[.pointer (some ⟨g, 0, none⟩)] w fun e w' => e = .returned (.int .u64 n) ∧ Rdr 59 base w' g bs (p + k.toNat) 0 ∧ Kp base w w' g := by
  obtain ⟨i0, hi, hzz⟩ := Option.map_eq_some_iff.1 info5
  simp only [Prod.mk.injEq] at hzz
  obtain ⟨A, c, h1, h2, h3⟩ := r.drew.blk
  obtain ⟨A2, hsl, hrd, hlc⟩ := print_drop_of (P := Try.prog) (Value.int .u8) (0 : Int) 25 5 .i64 Try.underlying25 hi hzz.2.1 A c bs (p : Int) (by omega) (by have := r.le; omega) h2
  simp only [Int.toNat_natCast] at hsl hrd hlc
  have hby : ∀ x ∈ bs.drop p, 0 ≤ x ∧ x < 256 := fun x hx => r.byte x (List.mem_of_mem_drop hx)
  have hLl : (bs.drop p).length = bs.length - p := List.length_drop
  obtain ⟨L, hL⟩ : ∃ L, bs.drop p = L := ⟨_, rfl⟩
  rw [hL] at hsl hrd hlc hby hLl hq
  have HLL := Aside0.mk hLl
  clear hL hLl
  have HC2 := Aside0.mk (show (Kd.int .u8).C w.drew A2 L.length L from Kd.C_of_reads (d := (0 : Int)) (hrd w.drew (Kd.reads_of_C (enc := Value.int .u8) (d := (0 : Int)) (h1 := fun _ => rfl) h3)))
  have Hc2 := Aside0.mk hlc
  have HBY := Aside0.mk hby
  clear hby
  have c0 : w.drew.cell? ⟨g, 0, none⟩ = some (.slice A bs.length c) := (blk_cell h1 0).trans rfl
  have c1 := r.drew.c1
  have ce := r.c2
  have HB1 := Aside0.mk h1
  have R := Aside0.mk r.drew
  have R0 := Aside0.mk r
  have hk := put_get0 HBY.out hq
  have hkl : k ≤ (L.length : Int) := hk.2.2.2.1
  have hpk : p + k.toNat ≤ bs.length := by have := HLL.out; have := r.le; have := hk.2.2.1; omega
  have hw : wrap64 ((p : Int) + k) = (p : Int) + k := by have := r.len; have := hk.2.2.1; unfold wrap64; omega
  have hkn : (p : Int) + k = ((p + k.toNat : Nat) : Int) := by have := hk.2.2.1; omega
  have HKN := Aside0.mk hkn
  have HPK := Aside0.mk hpk
  have HQ := Aside0.mk hq
  clear r h1 h2 h3 hi hzz hrd hlc hk hkl hpk hq hkn
  go_enter Try.func73, Try.ntmps73
  go_wp2
  refine start_ (n := 17) (S := fun w' => w'.cell? ⟨g, 0, none⟩ = some (.slice A bs.length c) ∧ w'.cell? ⟨g, 1, none⟩ = some (.int .i64 (p : Int))) (ds := []) #[false, false, false, false, false, false, false, false, false, false, false, false, false, false, false, false, false] (by kernel_rfl) rfl rfl ⟨c0, c1⟩ (fun hHeld => ?_)
  refine pure_ (i := 0) (N := some 12) (v := ?_) (a' := ?_) #[true, false, false, false, false, false, false, false, false, false, false, false, false, false, false, false, false] rfl rfl (by kernel_rfl) (fun _ _ _ h => h) (Or.inl ⟨by rfl, ?_⟩) ?_ ?_
  rotate_left
  · intro w'
    go_simp
    with_reducible rfl
  rotate_left
  · simp only [Act.put, List.setIfInBounds_toArray, List.set_cons_zero, List.set_cons_succ, i64_w, i32_w]
    rfl
  refine pure_ (i := 1) (N := some 13) (v := ?_) (a' := ?_) #[true, true, false, false, false, false, false, false, false, false, false, false, false, false, false, false, false] rfl rfl (by kernel_rfl) (fun _ _ _ h => h) (Or.inl ⟨by rfl, ?_⟩) ?_ ?_
  rotate_left
  · intro w'
    go_simp
    with_reducible rfl
  rotate_left
  · simp only [Act.put, List.setIfInBounds_toArray, List.set_cons_zero, List.set_cons_succ, i64_w, i32_w]
    rfl
  refine pure_ (i := 2) (N := some 14) (v := ?_) (a' := ?_) #[true, true, true, false, false, false, false, false, false, false, false, false, false, false, false, false, false] rfl rfl (by kernel_rfl) (fun _ _ _ h => h) (Or.inl ⟨by rfl, ?_⟩) ?_ ?_
  rotate_left
  · intro w'
    go_simp
    with_reducible rfl
  rotate_left
  · simp only [Act.put, List.setIfInBounds_toArray, List.set_cons_zero, List.set_cons_succ, i64_w, i32_w]
    rfl
  refine pure_ (i := 4) (N := some 16) (v := ?_) (a' := ?_) #[true, true, true, false, true, false, false, false, false, false, false, false, false, false, false, false, false] rfl rfl (by kernel_rfl) (fun _ _ _ h => h) (Or.inl ⟨by rfl, ?_⟩) ?_ ?_
  rotate_left
  · intro w'
    go_simp
    with_reducible rfl
  rotate_left
  · simp only [Act.put, List.setIfInBounds_toArray, List.set_cons_zero, List.set_cons_succ, i64_w, i32_w]
    rfl
  refine pure_ (i := 5) (N := some 17) (v := ?_) (a' := ?_) #[true, true, true, false, true, true, false, false, false, false, false, false, false, false, false, false, false] rfl rfl (by kernel_rfl) (fun _ _ _ h => h) (Or.inl ⟨by rfl, ?_⟩) ?_ ?_
  rotate_left
  · intro w'
    go_simp
    with_reducible rfl
  rotate_left
  · simp only [Act.put, List.setIfInBounds_toArray, List.set_cons_zero, List.set_cons_succ, i64_w, i32_w]
    rfl
  refine pure_ (i := 6) (N := some 18) (v := ?_) (a' := ?_) #[true, true, true, false, true, true, true, false, false, false, false, false, false, false, false, false, false] rfl rfl (by kernel_rfl) (fun _ _ _ h => h) (Or.inl ⟨by rfl, ?_⟩) ?_ ?_
  rotate_left
  · intro w'
    go_simp
    with_reducible rfl
  rotate_left
  · simp only [Act.put, List.setIfInBounds_toArray, List.set_cons_zero, List.set_cons_succ, i64_w, i32_w]
    rfl
  refine take_ (i := 3) (N := some 15) (v := ?_) (a' := ?_) #[true, true, true, true, true, true, true, false, false, false, false, false, false, false, false, false, false] rfl rfl (by kernel_rfl) (fun _ _ _ h => h) (Or.inl ⟨by rfl, ?_⟩) hHeld ?_ ?_
  rotate_left
  · rintro w' ⟨s0, s1⟩
    go_simp
    with_reducible rfl
  rotate_left
  · simp only [Act.put, List.setIfInBounds_toArray, List.set_cons_zero, List.set_cons_succ, i64_w, i32_w]
    rfl
  refine take_ (i := 7) (N := some 19) (v := ?_) (a' := ?_) #[true, true, true, true, true, true, true, true, false, false, false, false, false, false, false, false, false] rfl rfl (by kernel_rfl) (fun _ _ _ h => h) (Or.inl ⟨by rfl, ?_⟩) hHeld ?_ ?_
  rotate_left
  · rintro w' ⟨s0, s1⟩
    go_simp
    with_reducible rfl
  rotate_left
  · simp only [Act.put, List.setIfInBounds_toArray, List.set_cons_zero, List.set_cons_succ, i64_w, i32_w]
    rfl
  refine pure_ (i := 8) (N := some 20) (v := ?_) (a' := ?_) #[true, true, true, true, true, true, true, true, true, false, false, false, false, false, false, false, false] rfl rfl (by kernel_rfl) (fun _ _ _ h => h) (Or.inl ⟨by rfl, ?_⟩) ?_ ?_
  rotate_left
  · intro w'
    go_simp
    with_reducible rfl
  rotate_left
  · simp only [Act.put, List.setIfInBounds_toArray, List.set_cons_zero, List.set_cons_succ, i64_w, i32_w]
    rfl
  refine one_ (i := 9) (N := some 21) #[true, true, true, true, true, true, true, true, true, true, false, false, false, false, false, false, false] rfl rfl (by kernel_rfl) (by decide) (fun K hK => ?_)
  refine goes_ Try.func81 (by kernel_rfl) rfl #[.slice A2 L.length (c - p)] (by rfl) rfl rfl (by simp only [List.map_toArray, List.map_cons, List.map_nil]; rfl) ?_
  with_reducible refine (rget_calls HC2.out Hc2.out HBY.out).mono ?_
  rintro e w3 ⟨rfl, hd⟩
  refine ⟨_, rfl, ?_⟩
  have R3 := Aside0.mk (R.out.drawn hd)
  have D3 := Aside0.mk hd
  have q0 : w3.cell? ⟨g, 0, none⟩ = some (.slice A bs.length c) := (blk_cell (blk_below HB1.out hd.below) 0).trans rfl
  have q1 := R3.out.c1
  have qf := R3.out.fz 1
  clear hd
  refine hK.out _ _ ⟨q0, q1⟩ (fun hHeld => ?_)
  clear hK K
  refine norm_ (a' := ?_) ?_ ?_
  rotate_left
  · show Act.put _ (some 21) _ = _
    simp only [Act.put, List.setIfInBounds_toArray, List.set_cons_zero, List.set_cons_succ, i64_w, i32_w]
    rfl
  refine pure_ (i := 10) (N := some 11) (v := ?_) (a' := ?_) #[true, true, true, true, true, true, true, true, true, true, true, false, false, false, false, false, false] rfl rfl (by kernel_rfl) (fun _ _ _ h => h) (Or.inl ⟨by rfl, ?_⟩) ?_ ?_
  rotate_left
  · intro w'
    go_simp
    with_reducible rfl
  rotate_left
  · simp only [Act.put, List.setIfInBounds_toArray, List.set_cons_zero, List.set_cons_succ, i64_w, i32_w]
    rfl
  refine pure_ (i := 11) (N := some 22) (v := ?_) (a' := ?_) #[true, true, true, true, true, true, true, true, true, true, true, true, false, false, false, false, false] rfl rfl (by kernel_rfl) (fun _ _ _ h => h) (Or.inl ⟨by rfl, ?_⟩) ?_ ?_
  rotate_left
  · intro w'
    go_simp
    with_reducible rfl
  rotate_left
  · simp only [Act.put, List.setIfInBounds_toArray, List.set_cons_zero, List.set_cons_succ, i64_w, i32_w]
    rfl
  refine pure_ (i := 12) (N := some 23) (v := ?_) (a' := ?_) #[true, true, true, true, true, true, true, true, true, true, true, true, true, false, false, false, false] rfl rfl (by kernel_rfl) (fun _ _ _ h => h) (Or.inl ⟨by rfl, ?_⟩) ?_ ?_
  rotate_left
  · intro w'
    go_simp
    with_reducible rfl
  rotate_left
  · simp only [Act.put, List.setIfInBounds_toArray, List.set_cons_zero, List.set_cons_succ, i64_w, i32_w]
    rfl
  refine pure_ (i := 13) (N := some 24) (v := ?_) (a' := ?_) #[true, true, true, true, true, true, true, true, true, true, true, true, true, true, false, false, false] rfl rfl (by kernel_rfl) (fun _ _ _ h => h) (Or.inl ⟨by rfl, ?_⟩) ?_ ?_
  rotate_left
  · intro w'
    go_simp
    with_reducible rfl
  rotate_left
  · simp only [Act.put, List.setIfInBounds_toArray, List.set_cons_zero, List.set_cons_succ, i64_w, i32_w]
    rfl
  refine pure_ (i := 14) (N := some 3) (v := ?_) (a' := ?_) #[true, true, true, true, true, true, true, true, true, true, true, true, true, true, true, false, false] rfl rfl (by kernel_rfl) (fun _ _ _ h => h) (Or.inl ⟨by rfl, ?_⟩) ?_ ?_
  rotate_left
  · intro w'
    go_simp
    with_reducible rfl
  rotate_left
  · simp only [Act.put, List.setIfInBounds_toArray, List.set_cons_zero, List.set_cons_succ, i64_w, i32_w]
    rfl
  refine pure_ (i := 15) (N := some 4) (v := ?_) (a' := ?_) #[true, true, true, true, true, true, true, true, true, true, true, true, true, true, true, true, false] rfl rfl (by kernel_rfl) (fun _ _ _ h => h) (Or.inl ⟨by rfl, ?_⟩) ?_ ?_
  rotate_left
  · intro w'
    go_simp
    with_reducible rfl
  rotate_left
  · simp only [Act.put, List.setIfInBounds_toArray, List.set_cons_zero, List.set_cons_succ, i64_w, i32_w]
    rfl
  refine pure_ (i := 16) (N := some 5) (v := ?_) (a' := ?_) #[true, true, true, true, true, true, true, true, true, true, true, true, true, true, true, true, true] rfl rfl (by kernel_rfl) (fun _ _ _ h => h) (Or.inl ⟨by rfl, ?_⟩) ?_ ?_
  rotate_left
  · intro w'
    go_simp
    with_reducible rfl
  rotate_left
  · simp only [Act.put, List.setIfInBounds_toArray, List.set_cons_zero, List.set_cons_succ, i64_w, i32_w]
    rfl
  refine done_ (by kernel_rfl) ?_

  rw [HQ.out]
  go_wp2
  go_ret
  rw [HKN.out]
  exact ⟨rfl, R3.out.set1 HPK.out, ((Kp.of_below (Below.refl _ _).drew R0.out.size g).trans (Kp.drawn D3.out R.out.size g)).set R.out.low 1 _⟩
set_option maxHeartbeats 2000000 in
set_option maxRecDepth 100000 in
theorem ru_bad (r : Rdr 59 base w g bs p 0) {n k x : Int} (hq : getS (bs.drop p) 0 1 0 = (n, k, x)) (hx : x ≠ 0) :
    Calls Try.prog 73 #[.pointer (some ⟨g, 0, none⟩)] w fun e w' => e = .returned (.int .u64 0) ∧ Rdr 59 base w' g bs p x ∧ Kp base w w' g := by
  obtain ⟨i0, hi, hzz⟩ := Option.map_eq_some_iff.1 info5
  simp only [Prod.mk.injEq] at hzz
  obtain ⟨A, c, h1, h2, h3⟩ := r.drew.blk
  obtain ⟨A2, hsl, hrd, hlc⟩ := print_drop_of (P := Try.prog) (Value.int .u8) (0 : Int) 25 5 .i64 Try.underlying25 hi hzz.2.1 A c bs (p : Int) (by omega) (by have := r.le; omega) h2
  simp only [Int.toNat_natCast] at hsl hrd hlc
  have hby : ∀ x ∈ bs.drop p, 0 ≤ x ∧ x < 256 := fun x hx => r.byte x (List.mem_of_mem_drop hx)
  have hLl : (bs.drop p).length = bs.length - p := List.length_drop
  obtain ⟨L, hL⟩ : ∃ L, bs.drop p = L := ⟨_, rfl⟩
  rw [hL] at hsl hrd hlc hby hLl hq
  have HLL := Aside0.mk hLl
  clear hL hLl
  have HC2 := Aside0.mk (show (Kd.int .u8).C w.drew A2 L.length L from Kd.C_of_reads (d := (0 : Int)) (hrd w.drew (Kd.reads_of_C (enc := Value.int .u8) (d := (0 : Int)) (h1 := fun _ => rfl) h3)))
  have Hc2 := Aside0.mk hlc
  have HBY := Aside0.mk hby
  clear hby
  have c0 : w.drew.cell? ⟨g, 0, none⟩ = some (.slice A bs.length c) := (blk_cell h1 0).trans rfl
  have c1 := r.drew.c1
  have ce := r.c2
  have HB1 := Aside0.mk h1
  have R := Aside0.mk r.drew
  have R0 := Aside0.mk r
  have HQ := Aside0.mk hq
  have b1 : (x != 0) = true := bne_iff_ne.mpr hx
  have hf : failM 0 x = x := by unfold failM; rw [if_pos rfl, if_neg hx]
  have HF := Aside0.mk hf
  clear r h1 h2 h3 hi hzz hrd hlc hq hx hf
  go_enter Try.func73, Try.ntmps73
  go_wp2
  refine start_ (n := 17) (S := fun w' => w'.cell? ⟨g, 0, none⟩ = some (.slice A bs.length c) ∧ w'.cell? ⟨g, 1, none⟩ = some (.int .i64 (p : Int))) (ds := []) #[false, false, false, false, false, false, false, false, false, false, false, false, false, false, false, false, false] (by kernel_rfl) rfl rfl ⟨c0, c1⟩ (fun hHeld => ?_)
  refine pure_ (i := 0) (N := some 12) (v := ?_) (a' := ?_) #[true, false, false, false, false, false, false, false, false, false, false, false, false, false, false, false, false] rfl rfl (by kernel_rfl) (fun _ _ _ h => h) (Or.inl ⟨by rfl, ?_⟩) ?_ ?_
  rotate_left
  · intro w'
    go_simp
    with_reducible rfl
  rotate_left
  · simp only [Act.put, List.setIfInBounds_toArray, List.set_cons_zero, List.set_cons_succ, i64_w, i32_w]
    rfl
  refine pure_ (i := 1) (N := some 13) (v := ?_) (a' := ?_) #[true, true, false, false, false, false, false, false, false, false, false, false, false, false, false, false, false] rfl rfl (by kernel_rfl) (fun _ _ _ h => h) (Or.inl ⟨by rfl, ?_⟩) ?_ ?_
  rotate_left
  · intro w'
    go_simp
    with_reducible rfl
  rotate_left
  · simp only [Act.put, List.setIfInBounds_toArray, List.set_cons_zero, List.set_cons_succ, i64_w, i32_w]
    rfl
  refine pure_ (i := 2) (N := some 14) (v := ?_) (a' := ?_) #[true, true, true, false, false, false, false, false, false, false, false, false, false, false, false, false, false] rfl rfl (by kernel_rfl) (fun _ _ _ h => h) (Or.inl ⟨by rfl, ?_⟩) ?_ ?_
  rotate_left
  · intro w'
    go_simp
    with_reducible rfl
  rotate_left
  · simp only [Act.put, List.setIfInBounds_toArray, List.set_cons_zero, List.set_cons_succ, i64_w, i32_w]
    rfl
  refine pure_ (i := 4) (N := some 16) (v := ?_) (a' := ?_) #[true, true, true, false, true, false, false, false, false, false, false, false, false, false, false, false, false] rfl rfl (by kernel_rfl) (fun _ _ _ h => h) (Or.inl ⟨by rfl, ?_⟩) ?_ ?_
  rotate_left
  · intro w'
    go_simp
    with_reducible rfl
  rotate_left
  · simp only [Act.put, List.setIfInBounds_toArray, List.set_cons_zero, List.set_cons_succ, i64_w, i32_w]
    rfl
  refine pure_ (i := 5) (N := some 17) (v := ?_) (a' := ?_) #[true, true, true, false, true, true, false, false, false, false, false, false, false, false, false, false, false] rfl rfl (by kernel_rfl) (fun _ _ _ h => h) (Or.inl ⟨by rfl, ?_⟩) ?_ ?_
  rotate_left
  · intro w'
    go_simp
    with_reducible rfl
  rotate_left
  · simp only [Act.put, List.setIfInBounds_toArray, List.set_cons_zero, List.set_cons_succ, i64_w, i32_w]
    rfl
  refine pure_ (i := 6) (N := some 18) (v := ?_) (a' := ?_) #[true, true, true, false, true, true, true, false, false, false, false, false, false, false, false, false, false] rfl rfl (by kernel_rfl) (fun _ _ _ h => h) (Or.inl ⟨by rfl, ?_⟩) ?_ ?_
  rotate_left
  · intro w'
    go_simp
    with_reducible rfl
  rotate_left
  · simp only [Act.put, List.setIfInBounds_toArray, List.set_cons_zero, List.set_cons_succ, i64_w, i32_w]
    rfl
  refine take_ (i := 3) (N := some 15) (v := ?_) (a' := ?_) #[true, true, true, true, true, true, true, false, false, false, false, false, false, false, false, false, false] rfl rfl (by kernel_rfl) (fun _ _ _ h => h) (Or.inl ⟨by rfl, ?_⟩) hHeld ?_ ?_
  rotate_left
  · rintro w' ⟨s0, s1⟩
    go_simp
    with_reducible rfl
  rotate_left
  · simp only [Act.put, List.setIfInBounds_toArray, List.set_cons_zero, List.set_cons_succ, i64_w, i32_w]
    rfl
  refine take_ (i := 7) (N := some 19) (v := ?_) (a' := ?_) #[true, true, true, true, true, true, true, true, false, false, false, false, false, false, false, false, false] rfl rfl (by kernel_rfl) (fun _ _ _ h => h) (Or.inl ⟨by rfl, ?_⟩) hHeld ?_ ?_
  rotate_left
  · rintro w' ⟨s0, s1⟩
    go_simp
    with_reducible rfl
  rotate_left
  · simp only [Act.put, List.setIfInBounds_toArray, List.set_cons_zero, List.set_cons_succ, i64_w, i32_w]
    rfl
  refine pure_ (i := 8) (N := some 20) (v := ?_) (a' := ?_) #[true, true, true, true, true, true, true, true, true, false, false, false, false, false, false, false, false] rfl rfl (by kernel_rfl) (fun _ _ _ h => h) (Or.inl ⟨by rfl, ?_⟩) ?_ ?_
  rotate_left
  · intro w'
    go_simp
    with_reducible rfl
  rotate_left
  · simp only [Act.put, List.setIfInBounds_toArray, List.set_cons_zero, List.set_cons_succ, i64_w, i32_w]
    rfl
  refine one_ (i := 9) (N := some 21) #[true, true, true, true, true, true, true, true, true, true, false, false, false, false, false, false, false] rfl rfl (by kernel_rfl) (by decide) (fun K hK => ?_)
  refine goes_ Try.func81 (by kernel_rfl) rfl #[.slice A2 L.length (c - p)] (by rfl) rfl rfl (by simp only [List.map_toArray, List.map_cons, List.map_nil]; rfl) ?_
  with_reducible refine (rget_calls HC2.out Hc2.out HBY.out).mono ?_
  rintro e w3 ⟨rfl, hd⟩
  refine ⟨_, rfl, ?_⟩
  have R3 := Aside0.mk (R.out.drawn hd)
  have D3 := Aside0.mk hd
  have q0 : w3.cell? ⟨g, 0, none⟩ = some (.slice A bs.length c) := (blk_cell (blk_below HB1.out hd.below) 0).trans rfl
  have q1 := R3.out.c1
  have qf := R3.out.fz 1
  clear hd
  refine hK.out _ _ ⟨q0, q1⟩ (fun hHeld => ?_)
  clear hK K
  refine norm_ (a' := ?_) ?_ ?_
  rotate_left
  · show Act.put _ (some 21) _ = _
    simp only [Act.put, List.setIfInBounds_toArray, List.set_cons_zero, List.set_cons_succ, i64_w, i32_w]
    rfl
  refine pure_ (i := 10) (N := some 11) (v := ?_) (a' := ?_) #[true, true, true, true, true, true, true, true, true, true, true, false, false, false, false, false, false] rfl rfl (by kernel_rfl) (fun _ _ _ h => h) (Or.inl ⟨by rfl, ?_⟩) ?_ ?_
  rotate_left
  · intro w'
    go_simp
    with_reducible rfl
  rotate_left
  · simp only [Act.put, List.setIfInBounds_toArray, List.set_cons_zero, List.set_cons_succ, i64_w, i32_w]
    rfl
  refine pure_ (i := 11) (N := some 22) (v := ?_) (a' := ?_) #[true, true, true, true, true, true, true, true, true, true, true, true, false, false, false, false, false] rfl rfl (by kernel_rfl) (fun _ _ _ h => h) (Or.inl ⟨by rfl, ?_⟩) ?_ ?_
  rotate_left
  · intro w'
    go_simp
    with_reducible rfl
  rotate_left
  · simp only [Act.put, List.setIfInBounds_toArray, List.set_cons_zero, List.set_cons_succ, i64_w, i32_w]
    rfl
  refine pure_ (i := 12) (N := some 23) (v := ?_) (a' := ?_) #[true, true, true, true, true, true, true, true, true, true, true, true, true, false, false, false, false] rfl rfl (by kernel_rfl) (fun _ _ _ h => h) (Or.inl ⟨by rfl, ?_⟩) ?_ ?_
  rotate_left
  · intro w'
    go_simp
    with_reducible rfl
  rotate_left
  · simp only [Act.put, List.setIfInBounds_toArray, List.set_cons_zero, List.set_cons_succ, i64_w, i32_w]
    rfl
  refine pure_ (i := 13) (N := some 24) (v := ?_) (a' := ?_) #[true, true, true, true, true, true, true, true, true, true, true, true, true, true, false, false, false] rfl rfl (by kernel_rfl) (fun _ _ _ h => h) (Or.inl ⟨by rfl, ?_⟩) ?_ ?_
  rotate_left
  · intro w'
    go_simp
    with_reducible rfl
  rotate_left
  · simp only [Act.put, List.setIfInBounds_toArray, List.set_cons_zero, List.set_cons_succ, i64_w, i32_w]
    rfl
  refine pure_ (i := 14) (N := some 3) (v := ?_) (a' := ?_) #[true, true, true, true, true, true, true, true, true, true, true, true, true, true, true, false, false] rfl rfl (by kernel_rfl) (fun _ _ _ h => h) (Or.inl ⟨by rfl, ?_⟩) ?_ ?_
  rotate_left
  · intro w'
    go_simp
    with_reducible rfl
  rotate_left
  · simp only [Act.put, List.setIfInBounds_toArray, List.set_cons_zero, List.set_cons_succ, i64_w, i32_w]
    rfl
  refine pure_ (i := 15) (N := some 4) (v := ?_) (a' := ?_) #[true, true, true, true, true, true, true, true, true, true, true, true, true, true, true, true, false] rfl rfl (by kernel_rfl) (fun _ _ _ h => h) (Or.inl ⟨by rfl, ?_⟩) ?_ ?_
  rotate_left
  · intro w'
    go_simp
    with_reducible rfl
  rotate_left
  · simp only [Act.put, List.setIfInBounds_toArray, List.set_cons_zero, List.set_cons_succ, i64_w, i32_w]
    rfl
  refine pure_ (i := 16) (N := some 5) (v := ?_) (a' := ?_) #[true, true, true, true, true, true, true, true, true, true, true, true, true, true, true, true, true] rfl rfl (by kernel_rfl) (fun _ _ _ h => h) (Or.inl ⟨by rfl, ?_⟩) ?_ ?_
  rotate_left
  · intro w'
    go_simp
    with_reducible rfl
  rotate_left
  · simp only [Act.put, List.setIfInBounds_toArray, List.set_cons_zero, List.set_cons_succ, i64_w, i32_w]
    rfl
  refine done_ (by kernel_rfl) ?_

  rw [HQ.out]
  go_wp2_with (go_at_call 59; (with_reducible refine (rfail_calls R3.out x).mono ?_); rintro e w4 ⟨rfl, h1, h2⟩; rw [HF.out] at h1; have R4 := Aside0.mk h1; have K4 := Aside0.mk h2; clear h1 h2)
  go_ret
  exact ⟨rfl, R4.out, ((Kp.of_below (Below.refl _ _).drew R0.out.size g).trans (Kp.drawn D3.out R.out.size g)).trans K4.out⟩
set_option maxHeartbeats 1000000 in
theorem ru_shut (r : Rdr 59 base w g bs p er) (he : er ≠ 0) :
    Calls Try.prog 73 #[.pointer (some ⟨g, 0, none⟩)] w fun e w' => e = .returned (.int .u64 0) ∧ w = w' := by
  have c2 := r.c2
  have b1 : (er != 0) = true := bne_iff_ne.mpr he
  clear r he
  go_enter Try.func73, Try.ntmps73
  go_wp2
  go_ret
  exact ⟨rfl, rfl⟩
theorem ru_calls (r : Rdr 59 base w g bs p er) :
    Calls Try.prog 73 #[.pointer (some ⟨g, 0, none⟩)] w fun e w' => e = .returned (.int .u64 (uM bs p er).1) ∧ Rdr 59 base w' g bs (uM bs p er).2.1 (uM bs p er).2.2 ∧ Kp base w w' g := by
  unfold uM
  by_cases he : er = 0
  · subst he
    rw [if_neg (fun h => h rfl)]
    obtain ⟨n, k, x, hq⟩ : ∃ n k x, getM bs p = (n, k, x) := ⟨_, _, _, rfl⟩
    rw [hq]
    by_cases hx : x = 0
    · subst hx
      rw [if_neg (fun h => h rfl)]
      exact ru_ok r hq
    · rw [if_pos hx]
      exact ru_bad r hq hx
  · rw [if_pos he]
    exact (ru_shut r he).mono fun e w' h => ⟨h.1, h.2 ▸ r, h.2 ▸ Kp.refl base w g⟩


set_option maxHeartbeats 1000000 in
theorem rtake_shut (r : Rdr 59 base w g bs p er) (he : er ≠ 0) (n : Int) :
    Calls Try.prog 57 #[.pointer (some ⟨g, 0, none⟩), .int .i64 n] w fun e w' => e = .returned (.slice none 0 0) ∧ w = w' := by
  have c2 := r.c2
  have b1 : (er != 0) = true := bne_iff_ne.mpr he
  clear r he
  go_enter Try.func57, Try.ntmps57
  go_wp2
  go_ret
  exact ⟨rfl, rfl⟩
set_option maxHeartbeats 1000000 in
theorem rtake_bad (r : Rdr 59 base w g bs p 0) (n : Int) (hn : (bs.length : Int) - p < n) :
    Calls Try.prog 57 #[.pointer (some ⟨g, 0, none⟩), .int .i64 n] w fun e w' => e = .returned (.slice none 0 0) ∧ Rdr 59 base w' g bs p 10 ∧ Kp base w w' g := by
  obtain ⟨A, c, h1, h2, h3⟩ := r.blk
  have c0 : w.cell? ⟨g, 0, none⟩ = some (.slice A bs.length c) := (blk_cell h1 0).trans rfl
  have c0d : w.drew.cell? ⟨g, 0, none⟩ = some (.slice A bs.length c) := c0
  have c1 := r.c1
  have c1d : w.drew.cell? ⟨g, 1, none⟩ = some (.int .i64 (p : Int)) := c1
  have c2 := r.c2
  have hw := w64 (x := (bs.length : Int) - (p : Int)) (by have := r.le; have := r.len; omega)
  have b1 : decide ((bs.length : Int) - (p : Int) < n) = true := decide_eq_true hn
  have R := Aside0.mk r
  have HF := Aside0.mk (show failM 0 10 = 10 from rfl)
  clear r h1 h2 h3 hn
  go_enter Try.func57, Try.ntmps57
  go_wp2
  go_region
  all_goals go_wp2_with (go_at_call 59; (with_reducible refine (rfail_calls R.out.drew 10).mono ?_); rintro e w4 ⟨rfl, h1, h2⟩; rw [HF.out] at h1; have R4 := Aside0.mk h1; have K4 := Aside0.mk h2; clear h1 h2)
  all_goals go_ret
  all_goals exact ⟨rfl, R4.out, (Kp.of_below (Below.refl _ _).drew R.out.size g).trans K4.out⟩
set_option maxHeartbeats 2000000 in
theorem rtake_ok (r : Rdr 59 base w g bs p 0) (n : Nat) (z : Int) (hz : (n : Int) = z) (hn : p + n ≤ bs.length) :
    Calls Try.prog 57 #[.pointer (some ⟨g, 0, none⟩), .int .i64 z] w fun e w' => (∃ A2 c2, e = .returned (.slice A2 n c2) ∧ n ≤ c2 ∧ (Kd.int .u8).C w' A2 ((bs.take (p + n)).drop p).length ((bs.take (p + n)).drop p)) ∧ Rdr 59 base w' g bs (p + n) 0 ∧ Kp base w w' g := by
  subst hz
  have hb1 := r.le
  have hb2 := r.len
  have hw := w64 (x := (bs.length : Int) - (p : Int)) (by omega)
  have hw2 := w64 (x := (p : Int) + (n : Int)) (by omega)
  have hw5 := w64 (x := (p : Int)) (by omega)
  have HW := Aside0.mk (And.intro hw (And.intro hw2 hw5))
  clear hw hw2 hw5
  obtain ⟨i0, hi, hzz⟩ := Option.map_eq_some_iff.1 info5
  simp only [Prod.mk.injEq] at hzz
  obtain ⟨A, c, h1, h2, h3⟩ := r.blk
  obtain ⟨A2, hsl, hrd, hlc⟩ := print_mid_int (P := Try.prog) (k := .u8) 25 5 Try.underlying25 hi hzz.2.1 A c bs (p : Int) ((p : Int) + (n : Int)) (by omega) (by omega) (by omega) h2
  have e1 : ((p : Int) + (n : Int)).toNat = p + n := by omega
  simp only [Int.toNat_natCast, e1] at hsl hrd hlc
  have hml := midlen bs p n hn
  rw [hml] at hlc
  simp only [hml] at hsl
  have c0 : w.cell? ⟨g, 0, none⟩ = some (.slice A bs.length c) := (blk_cell h1 0).trans rfl
  have c0d : w.drew.cell? ⟨g, 0, none⟩ = some (.slice A bs.length c) := c0
  have c1 := r.c1
  have c1d : w.drew.cell? ⟨g, 1, none⟩ = some (.int .i64 (p : Int)) := c1
  have f1 := r.fz 1
  have c2 := r.c2
  have b1 : decide ((bs.length : Int) - (p : Int) < (n : Int)) = false := decide_eq_false (by omega)
  have hw4 : (p : Int) + (n : Int) - (n : Int) = (p : Int) := by omega
  have R := Aside0.mk r
  have R2 := Aside0.mk (r.drew.set1 (p' := p + n) hn)
  have cs0 : (w.drew.setCell ⟨g, 1, none⟩ (.int .i64 ((p : Int) + (n : Int)))).cell? ⟨g, 0, none⟩ = some (.slice A bs.length c) := (blk_cell (blk_set (blk_below h1 (Below.refl _ _).drew) 1 (.int .i64 ((p : Int) + (n : Int)))) 0).trans rfl
  have cs0d : ((w.setCell ⟨g, 1, none⟩ (.int .i64 ((p : Int) + (n : Int)))).drew).cell? ⟨g, 0, none⟩ = some (.slice A bs.length c) := cs0
  have cs1d : ((w.setCell ⟨g, 1, none⟩ (.int .i64 ((p : Int) + (n : Int)))).drew).cell? ⟨g, 1, none⟩ = some (.int .i64 ((p : Int) + (n : Int))) := R2.out.c1
  have HML := Aside0.mk hml
  have HLC := Aside0.mk hlc
  have HN := Aside0.mk hn
  have HH := Aside0.mk h1
  have HC := Aside0.mk (show (Kd.int .u8).C w A2 ((bs.take (p + n)).drop p).length ((bs.take (p + n)).drop p) by have h_ := Kd.C_of_reads (d := (0 : Int)) (h1 := fun _ => rfl) (hrd w (Kd.reads_of_C (enc := Value.int .u8) (d := (0 : Int)) (h1 := fun _ => rfl) h3)); exact h_)
  clear r h1 h2 h3 hi hzz hrd hlc hml e1 hn hb1 hb2
  have hw := HW.out.1
  have hw2 := HW.out.2.1
  have hw5 := HW.out.2.2
  go_enter Try.func57, Try.ntmps57
  go_wp2
  go_region
  go_wp2
  go_region
  all_goals go_wp2
  all_goals go_ret
  all_goals exact ⟨⟨A2, _, rfl, HLC.out, Kd.C_drew (Kd.C_drew (C_move HC.out fun a q hc => Below.heap_setCell w ⟨g, 1, none⟩ _ _ (Rd.far HH.out hc)))⟩, R2.out.drew, (((Kp.refl base w g).set R.out.low 1 _).trans (Kp.of_below (Below.refl _ _).drew.drew (by simpa using R.out.size) g))⟩

end
end Go.Proofs.Ytnohflfpahokiaa.Rd
