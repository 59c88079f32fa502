/- The walks of Alike and of FileDoes. -/
import Derived.Test.YtijbcfnkeahdoaaDo
import Derived.Test.YtijbcfnkeahdoaaPFileDoesx1
set_option linter.unusedVariables false
set_option linter.unusedSimpArgs false
namespace Go.Proofs.Ytijbcfnkeahdoaa.Disk
open Go Go.RowKit Go.Proofs.YtijbcfnkeahdoaaW.PrintWords Go.Proofs.YtijbcfnkeahdoaaW.PrintLast

set_option maxHeartbeats 2000000 in
set_option maxRecDepth 100000 in
theorem alike_calls {w0 w : World} {g h : Nat} {v0 v1 : Value} {x : DSt} (hb : Both w0 w g h v0 v1 x) (hB : Below w0.heap.size w0 w) :
    Calls Try.prog 12 #[.pointer (some ⟨g, 0, none⟩), .pointer (some ⟨h, 0, none⟩)] w (DoPost w0 w g h) := by
  have HB0 := Aside0.mk (hb.below (Below.refl _ _).drew)
  have HBS := Aside0.mk hB.size
  have HW := Aside0.mk ((Below.refl w0.heap.size w).drew)
  have c3 : w.drew.cell? ⟨h, 3, none⟩ = some (.bool x.off) := HB0.out.r.c3
  clear hb hB
  go_enter Try.func12, Try.ntmps12
  go_wp2
  refine start_ (n := 7) (S := fun w' => w'.cell? ⟨h, 3, none⟩ = some (.bool x.off)) (ds := []) #[false, false, false, false, false, false, false] (by kernel_rfl) rfl rfl (c3) (fun hHeld => ?_)
  refine pure_ (i := 0) (N := some 10) (v := ?_) (a' := ?_) #[true, false, false, false, false, false, false] rfl rfl (by kernel_rfl) (fun _ _ _ h => h) (Or.inl ⟨by rfl, ?_⟩) ?_ ?_
  rotate_left
  · intro w'
    go_simp
    with_reducible rfl
  rotate_left
  · simp only [Act.put, List.setIfInBounds_toArray, List.set_cons_zero, List.set_cons_succ, i64_w, i32_w]
    rfl
  refine pure_ (i := 2) (N := some 12) (v := ?_) (a' := ?_) #[true, false, true, false, false, false, false] rfl rfl (by kernel_rfl) (fun _ _ _ h => h) (Or.inl ⟨by rfl, ?_⟩) ?_ ?_
  rotate_left
  · intro w'
    go_simp
    with_reducible rfl
  rotate_left
  · simp only [Act.put, List.setIfInBounds_toArray, List.set_cons_zero, List.set_cons_succ, i64_w, i32_w]
    rfl
  refine pure_ (i := 3) (N := some 13) (v := ?_) (a' := ?_) #[true, false, true, true, false, false, false] rfl rfl (by kernel_rfl) (fun _ _ _ h => h) (Or.inl ⟨by rfl, ?_⟩) ?_ ?_
  rotate_left
  · intro w'
    go_simp
    with_reducible rfl
  rotate_left
  · simp only [Act.put, List.setIfInBounds_toArray, List.set_cons_zero, List.set_cons_succ, i64_w, i32_w]
    rfl
  refine pure_ (i := 4) (N := some 14) (v := ?_) (a' := ?_) #[true, false, true, true, true, false, false] rfl rfl (by kernel_rfl) (fun _ _ _ h => h) (Or.inl ⟨by rfl, ?_⟩) ?_ ?_
  rotate_left
  · intro w'
    go_simp
    with_reducible rfl
  rotate_left
  · simp only [Act.put, List.setIfInBounds_toArray, List.set_cons_zero, List.set_cons_succ, i64_w, i32_w]
    rfl
  refine take_ (i := 5) (N := some 15) (v := ?_) (a' := ?_) #[true, false, true, true, true, true, false] rfl rfl (by kernel_rfl) (fun _ _ _ h => h) (Or.inl ⟨by rfl, ?_⟩) hHeld ?_ ?_
  rotate_left
  · intro w' s0
    go_simp
    with_reducible rfl
  rotate_left
  · simp only [Act.put, List.setIfInBounds_toArray, List.set_cons_zero, List.set_cons_succ, i64_w, i32_w]
    rfl
  refine one_ (i := 1) (N := some 11) #[true, true, true, true, true, true, false] rfl rfl (by kernel_rfl) (by decide) (fun K hK => ?_)
  refine goes_ Try.func20 (by kernel_rfl) rfl #[.pointer (some ⟨g, 0, none⟩)] (by rfl) rfl rfl (by simp only [List.map_toArray, List.map_cons, List.map_nil]; rfl) ?_
  with_reducible refine (off_calls HB0.out.d).mono ?_
  rintro e w3 ⟨rfl, rfl⟩
  refine ⟨_, rfl, ?_⟩
  refine hK.out _ _ (c3) (fun hHeld => ?_)
  clear hK K
  refine norm_ (a' := ?_) ?_ ?_
  rotate_left
  · show Act.put _ (some 11) _ = _
    simp only [Act.put, List.setIfInBounds_toArray, List.set_cons_zero, List.set_cons_succ, i64_w, i32_w]
    rfl
  refine pure_ (i := 6) (N := some 16) (v := ?_) (a' := ?_) #[true, true, true, true, true, true, true] rfl rfl (by kernel_rfl) (fun _ _ _ h => h) (Or.inl ⟨by rfl, ?_⟩) ?_ ?_
  rotate_left
  · intro w'
    go_simp
    with_reducible rfl
  rotate_left
  · simp only [Act.put, List.setIfInBounds_toArray, List.set_cons_zero, List.set_cons_succ, i64_w, i32_w]
    rfl
  refine done_ (by kernel_rfl) ?_

  go_wp2
  go_loopg [5] 2 (fun gk v5 w' => ∃ j : Nat, v5 = .int .i64 (j : Int) ∧ Aside0 (j + gk = 2) ∧ Aside0 (Both w0 w' g h v0 v1 x) ∧ Aside0 (Below w0.heap.size w w') ∧ Aside0 (w0.heap.size ≤ w'.heap.size))
  case atStart => exact ⟨0, rfl, ⟨rfl⟩, HB0, HW, HBS⟩
  case round =>
    obtain ⟨j, rfl, HJ, HD, HBl, HSz⟩ := hrel
    by_cases hj : j < 2
    · have b1 : decide ((j : Int) < 2) = true := decide_eq_true (by omega)
      have b1n : decide (j < 2) = true := decide_eq_true hj
      have hw : wrap64 ((j : Int) + 1) = ((j + 1 : Nat) : Int) := by unfold wrap64; omega
      have HJ2 := Aside0.mk hj
      clear hj
      go_wp2_with (first
        | (go_at_call 16; (with_reducible refine (read_any HD.out.d (j : Int)).mono ?_); rintro e w3 ⟨⟨v, rfl, hs⟩, hp⟩; have B3 := Aside0.mk (HD.out.below hp); have P3 := Aside0.mk hp; have qs := hs _ (Below.refl _ _); clear hs hp)
        | (go_at_call 24; (with_reducible refine (rread_any B3.out.r (j : Int)).mono ?_); rintro e w4 ⟨rfl, rfl⟩))
      go_roundg (gk - 1)
      case measure => have := HJ.out; have := HJ2.out; omega
      case rel =>
        exact ⟨j + 1, by rw [hw], ⟨by have := HJ.out; have := HJ2.out; omega⟩, B3, ⟨below_then HBl.out HSz.out P3.out⟩, ⟨Nat.le_trans HSz.out P3.out.size⟩⟩
    · have b1 : decide ((j : Int) < 2) = false := decide_eq_false (by omega)
      have b1n : decide (j < 2) = false := decide_eq_false hj
      clear hj
      go_wp2
      go_ret
      exact ⟨rfl, ⟨_, _, _, HD.out⟩, HBl.out⟩

theorem FRow.lower {w : World} {base b2 : Nat} {v : Value} {xs : List Int} (h : FRow w base v xs) (hb : b2 ≤ base) : FRow w b2 v xs := by
  rcases h with h | ⟨q, cap, cur, rfl, hq, h2⟩
  · exact .inl h
  · exact .inr ⟨q, cap, cur, rfl, Nat.le_trans hb hq, h2⟩
theorem Dsk.lower {w : World} {g base b2 : Nat} {v0 v1 : Value} {x : DSt} (h : Dsk w g base v0 v1 x) (hb : b2 ≤ base) : Dsk w g b2 v0 v1 x := ⟨h.blk, h.r0.lower hb, h.r1.lower hb, h.apart, Nat.le_trans hb h.low, Nat.le_trans hb h.size, h.left0, h.left1, h.len0, h.len1⟩
open PFileDoes in
theorem large_law (l : List S32) : ∀ d j : Nat, j + d = l.length → l.length ≤ 60 → (∀ i, i < j → (rd_T32 l (i : Int)).f3.length ≤ 300) → ∃ b, warrantorref28_Large.l0 (d + 1) l (j : Int) = some b ∧ (b = false → ∀ i, i < l.length → (rd_T32 l (i : Int)).f3.length ≤ 300)
  | 0, j, h, h60, hp => ⟨false, by simp only [warrantorref28_Large.l0]; rw [if_neg (by omega)], fun _ i hi => hp i (by omega)⟩
  | d + 1, j, h, h60, hp => by
    by_cases hb : (rd_T32 l (j : Int)).f3.length > 300
    · refine ⟨true, ?_, fun h => by cases h⟩
      rw [show warrantorref28_Large.l0 (d + 1 + 1) l (j : Int) = if (j : Int) < (l.length : Int) then (if 0 ≤ (j : Int) then (if (((rd_T32 l (j : Int)).f3).length : Int) > 300 then (some true) else (warrantorref28_Large.l0 (d + 1) l (wrap64 ((j : Int) + 1)))) else (none)) else (some false) from rfl]
      rw [if_pos (by omega), if_pos (by omega), if_pos (by omega)]
    · obtain ⟨b, h1, h2⟩ := large_law l d (j + 1) (by omega) h60 (fun i hi => by
        by_cases he : i = j
        · subst he; omega
        · exact hp i (by omega))
      refine ⟨b, ?_, h2⟩
      rw [show warrantorref28_Large.l0 (d + 1 + 1) l (j : Int) = if (j : Int) < (l.length : Int) then (if 0 ≤ (j : Int) then (if (((rd_T32 l (j : Int)).f3).length : Int) > 300 then (some true) else (warrantorref28_Large.l0 (d + 1) l (wrap64 ((j : Int) + 1)))) else (none)) else (some false) from rfl]
      rw [if_pos (by omega), if_pos (by omega), if_neg (by omega)]
      have : wrap64 ((j : Int) + 1) = ((j + 1 : Nat) : Int) := by unfold wrap64; omega
      rw [this]
      exact h1
open PFileDoes in
theorem large_any {A : Option Addr} {c : Nat} {l : List S32} {w : World} (hC : Kd.C k32 w A l.length l) (hc : l.length ≤ c) :
    ∃ b, (b = false → l.length ≤ 60 ∧ ∀ i, i < l.length → (rd_T32 l (i : Int)).f3.length ≤ 300) ∧ Calls Try.prog 7 #[.slice A l.length c] w fun e w' => e = .returned (.bool b) ∧ Drawn0 w w' := by
  by_cases h : l.length ≤ 60
  · obtain ⟨b, h1, h2⟩ := large_law l l.length 0 (by omega) h (fun i hi => by omega)
    refine ⟨b, fun hb => ⟨h, h2 hb⟩, warrantorref28_Large.calls (l.length + 1) A c l b w hC hc ?_⟩
    unfold warrantorref28_Large.f
    rw [if_neg (by omega)]
    exact h1
  · refine ⟨true, fun h => (by cases h), warrantorref28_Large.calls 1 A c l true w hC hc ?_⟩
    unfold warrantorref28_Large.f
    rw [if_pos (by omega)]

set_option maxHeartbeats 4000000 in
set_option maxRecDepth 100000 in
open PFileDoes in
theorem does_calls {A : Option Addr} {c : Nat} {l : List S32} {w : World} (hC : Kd.C k32 w A l.length l) (hc : l.length ≤ c) (hG : ∀ s ∈ l, s.f2 < 9223372036854775808) :
    Calls Try.prog 3 #[.slice A l.length c] w fun e w' => e = .returned (.bool true) ∧ Below w.heap.size w w' := by
  obtain ⟨b, hb, hL⟩ := large_any hC hc
  have HL := Aside0.mk hL
  cases b with
  | true =>
    clear hb hL hC hc hG
    go_enter Try.func3, Try.ntmps3
    go_wp2_with (first
      | (go_at_call 7; (with_reducible refine HL.out.mono ?_); rintro e w1 ⟨rfl, h1⟩; have B1 := Aside0.mk h1.below; clear h1)
      | (go_at_call 8; (with_reducible refine (lives_calls _).mono ?_); rintro e w2 ⟨rfl, h1⟩; have B2 := Aside0.mk (below_then B1.out B1.out.size h1); clear h1))
    go_ret
    exact ⟨rfl, B2.out⟩
  | false =>
    have HB := Aside0.mk (hb rfl)
    have HC := Aside0.mk hC
    have HG := Aside0.mk hG
    clear hb hL hC hc hG
    go_enter Try.func3, Try.ntmps3
    go_wp2_with (first
      | (go_at_call 7; (with_reducible refine HL.out.mono ?_); rintro e w1 ⟨rfl, h1⟩; have B1 := Aside0.mk h1.below; clear h1)
      | (go_at_call 9; (with_reducible refine (new_calls _).mono ?_); rintro e w2 ⟨g, rfl, h1, h2⟩; have D2 := Aside0.mk (h1.lower B1.out.size); have B2 := Aside0.mk (below_then B1.out B1.out.size h2); clear h1 h2)
      | (go_at_call 10; (with_reducible refine (rnew_calls _ w.heap.size B2.out.size).mono ?_); rintro e w3 ⟨hh, rfl, h1, h2, h3⟩; have D3 := Aside0.mk (D2.out.below h3); have R3 := Aside0.mk h1; have B3 := Aside0.mk (below_then B2.out B2.out.size h3); clear h1 h2 h3)
      | (go_at_call 8; (with_reducible refine (lives_calls _).mono ?_); rintro e w4 ⟨rfl, h1⟩; have D4 := Aside0.mk (D3.out.below h1); have R4 := Aside0.mk (R3.out.below h1); have B4 := Aside0.mk (below_then B3.out B3.out.size h1); clear h1))
    have HB4 := Aside0.mk (show Both w w4 g hh _ _ _ from ⟨D4.out, R4.out⟩)
    go_loopg [5] l.length (fun gk v5 w' => ∃ j : Nat, v5 = .int .i64 (j : Int) ∧ Aside0 (j + gk = l.length) ∧ Aside0 (∃ v0 v1 x, Both w w' g hh v0 v1 x) ∧ Aside0 (Below w.heap.size w w'))
    case atStart => exact ⟨0, rfl, ⟨by omega⟩, ⟨_, _, _, HB4.out⟩, B4⟩
    case round =>
      obtain ⟨j, rfl, HJ, HD, HBl⟩ := hrel
      obtain ⟨v0, v1, x, hD⟩ := HD.out
      have HD := Aside0.mk hD
      clear hD
      by_cases hj : j < l.length
      · obtain ⟨ad, A3, c3, hAd, q0, q1, q2, q3, hcap, hrow⟩ := at_T32 HC.out (j : Int) (by omega) (by omega)
        rw [Int.toNat_natCast] at q0 q1 q2 q3
        have h60 := HB.out.1
        have hlen := HB.out.2 j hj
        have hk2 : (rd_T32 l (j : Int)).f2 < 9223372036854775808 := by
          have : rd_T32 l (j : Int) = l[j] := by unfold rd_T32; rw [Int.toNat_natCast, List.getD_eq_getElem?_getD, List.getElem?_eq_getElem hj]; rfl
          rw [this]
          exact HG.out _ (List.getElem_mem hj)
        obtain ⟨⟨K, n, k, ys⟩, hs⟩ : ∃ s, rd_T32 l (j : Int) = s := ⟨_, rfl⟩
        rw [hs] at q0 q1 q2 q3 hcap hrow hlen hk2
        have Q0 : wr.cell? (ad.add (j * 4)) = some (.int .i64 K) := (HBl.out.cell (World.block_lt_of_cell? w _ q0)).trans q0
        have Q1 : wr.cell? ⟨(ad.add (j * 4)).block, (ad.add (j * 4)).off + 1, none⟩ = some (.int .i64 n) := (HBl.out.cell (World.block_lt_of_cell? w _ q1)).trans q1
        have Q2 : wr.cell? ⟨(ad.add (j * 4)).block, (ad.add (j * 4)).off + 2, none⟩ = some (.int .i64 k) := (HBl.out.cell (World.block_lt_of_cell? w _ q2)).trans q2
        have Q3 : wr.cell? ⟨(ad.add (j * 4)).block, (ad.add (j * 4)).off + 3, none⟩ = some (.slice A3 ys.length c3) := (HBl.out.cell (World.block_lt_of_cell? w _ q3)).trans q3
        have HR := Aside0.mk hrow
        have HCP := Aside0.mk hcap
        have HLN := Aside0.mk hlen
        have HK2 := Aside0.mk hk2
        have HJ2 := Aside0.mk hj
        have c1 : decide ((j : Int) < (l.length : Int)) = true := decide_eq_true (by omega)
        have p1 : 0 ≤ (j : Int) := by omega
        have hw : wrap64 ((j : Int) + 1) = ((j + 1 : Nat) : Int) := by unfold wrap64; omega
        have HW := Aside0.mk hw
        have hu32 := Try.underlying32
        subst hAd
        clear q0 q1 q2 q3 hs hcap hrow hlen hk2
        go_wp2_with (first
          | (go_at_call 11; (with_reducible refine (do_calls HD.out HBl.out K n k HK2.out HR.out HCP.out HLN.out).mono ?_); rintro e w5 ⟨rfl, h1, h2⟩; have P5 := Aside0.mk h1; have B5 := Aside0.mk (HBl.out.trans h2); clear h1 h2; obtain ⟨v0', v1', x', h1⟩ := P5.out; have D5 := Aside0.mk h1; clear h1)
          | (go_at_call 12; (with_reducible refine (alike_calls D5.out B5.out).mono ?_); rintro e w6 ⟨rfl, h1, h2⟩; have P6 := Aside0.mk h1; have B6 := Aside0.mk (B5.out.trans h2); clear h1 h2))
        go_roundg (gk - 1)
        case measure => have := HJ.out; have := HJ2.out; omega
        case rel => exact ⟨j + 1, by first | rw [HW.out] | go_num, ⟨by have := HJ.out; have := HJ2.out; omega⟩, P6, B6⟩
      · have c1 : decide ((j : Int) < (l.length : Int)) = false := decide_eq_false (by omega)
        have c1n : decide (j < l.length) = false := decide_eq_false hj
        clear hj
        go_wp2
        go_ret
        exact ⟨rfl, HBl.out⟩
end Go.Proofs.Ytijbcfnkeahdoaa.Disk
