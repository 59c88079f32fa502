/- right, Show, walked. -/
import Derived.Test.YtdgholodogcemaaQuo
set_option linter.unusedVariables false
set_option linter.unusedSimpArgs false
set_option maxRecDepth 20000
namespace Go.Proofs.Ytdgholodogcemaa.Lex
open Go Go.RowKit Go.Proofs.YtdgholodogcemaaW.PrintWords Go.Proofs.YtdgholodogcemaaW.PrintLast
open Go.Proofs.Ytdgholodogcemaa.PAll (S36 k36 z36 rd_T36 at_T36)

/-- may a token stand in a line, which is at its beginning or not -/
def rightM (k : Int) (t : ByteArray) (first : Bool) : Bool := if k = 1 then wordT t else if k = 2 then (bytesN t).all plainB else if k = 3 then !first && decide (t.size = 0) else false
structure TBox (w : World) (b : Nat) (k l c : Int) (t : ByteArray) : Prop where
  blk : w.heap[b]? = some (.cells #[.int .i64 k, .int .i64 l, .int .i64 c, .string t] 36 (0, 0))
theorem TBox.c {w : World} {b : Nat} {k l c : Int} {t : ByteArray} (o : TBox w b k l c t) (i : Nat) {u : Value} (h : #[Value.int .i64 k, .int .i64 l, .int .i64 c, .string t][i]? = some u) : w.cell? ⟨b, i, none⟩ = some u := (blk_cell o.blk i).trans h
theorem TBox.below {w w' : World} {b : Nat} {k l c : Int} {t : ByteArray} (o : TBox w b k l c t) (h : Below w.heap.size w w') : TBox w' b k l c t := ⟨blk_below o.blk h⟩
set_option maxHeartbeats 2000000 in
theorem right_1 (l c : Int) (t : ByteArray) (first : Bool) (w : World) : Calls Try.prog 21 #[.agg #[.int .i64 1, .int .i64 l, .int .i64 c, .string t], .bool first] w fun e w' => e = .returned (.bool (wordT t)) ∧ Below w.heap.size w w' := by
  have BA := Aside0.mk (below_alloc (Below.refl w.heap.size w) (.cells #[.int .i64 1, .int .i64 l, .int .i64 c, .string t] 36))
  have O := Aside0.mk (show TBox (w.alloc (.cells #[.int .i64 1, .int .i64 l, .int .i64 c, .string t] 36)) w.heap.size 1 l c t from ⟨blk_new w _⟩)
  have q0 := O.out.c 0 rfl
  have q3 := O.out.c 3 rfl
  go_enter Try.func21, Try.ntmps21
  go_wp2_with (go_at_call 17; (with_reducible refine (word_calls t _).mono ?_); rintro e w1 ⟨rfl, h1⟩; have B1 := Aside0.mk (below_then BA.out BA.out.size h1); clear h1)
  go_ret
  exact ⟨by first | rfl | simp, B1.out⟩
set_option maxHeartbeats 2000000 in
theorem right_2 (l c : Int) (t : ByteArray) (first : Bool) (w : World) : Calls Try.prog 21 #[.agg #[.int .i64 2, .int .i64 l, .int .i64 c, .string t], .bool first] w fun e w' => e = .returned (.bool ((bytesN t).all plainB)) ∧ Below w.heap.size w w' := by
  have BA := Aside0.mk (below_alloc (Below.refl w.heap.size w) (.cells #[.int .i64 2, .int .i64 l, .int .i64 c, .string t] 36))
  have O := Aside0.mk (show TBox (w.alloc (.cells #[.int .i64 2, .int .i64 l, .int .i64 c, .string t] 36)) w.heap.size 2 l c t from ⟨blk_new w _⟩)
  have q0 := O.out.c 0 rfl
  have q3 := O.out.c 3 rfl
  obtain ⟨r, hr⟩ : ∃ r, (bytesN t).all plainB = r := ⟨_, rfl⟩
  rw [hr]
  have HR := Aside0.mk hr
  clear hr
  go_enter Try.func21, Try.ntmps21
  go_wp2_with (go_at_call 28; (with_reducible refine (all_plain t HR.out _).mono ?_); rintro e w1 ⟨rfl, h1⟩; have B1 := Aside0.mk (below_then BA.out BA.out.size h1); clear h1)
  go_ret
  exact ⟨by first | rfl | simp, B1.out⟩
set_option maxHeartbeats 2000000 in
theorem right_3 (l c : Int) (t : ByteArray) (first : Bool) (w : World) : Calls Try.prog 21 #[.agg #[.int .i64 3, .int .i64 l, .int .i64 c, .string t], .bool first] w fun e w' => e = .returned (.bool (!first && decide (t.size = 0))) ∧ Below w.heap.size w w' := by
  have BA := Aside0.mk (below_alloc (Below.refl w.heap.size w) (.cells #[.int .i64 3, .int .i64 l, .int .i64 c, .string t] 36))
  have O := Aside0.mk (show TBox (w.alloc (.cells #[.int .i64 3, .int .i64 l, .int .i64 c, .string t] 36)) w.heap.size 3 l c t from ⟨blk_new w _⟩)
  have q0 := O.out.c 0 rfl
  have q3 := O.out.c 3 rfl
  cases first with
  | true =>
    go_enter Try.func21, Try.ntmps21
    go_wp2
    go_ret
    exact ⟨by first | rfl | simp, BA.out⟩
  | false =>
    by_cases h : t.size = 0
    · obtain rfl := empty_toList h
      rw [decide_eq_true h]
      clear h
      go_enter Try.func21, Try.ntmps21
      go_wp2
      go_ret
      exact ⟨by first | rfl | simp, BA.out⟩
    · rw [decide_eq_false h]
      have e1 : t ≠ ⟨#[]⟩ := fun e => h (by rw [e]; rfl)
      have e2 : ¬ t.toList = [] := fun e => h (by have h2 := toList_len t; rw [e] at h2; simpa using h2.symm)
      have e3 : t.data ≠ #[] := fun e => h (by have : t.size = t.data.size := rfl; rw [this, e]; rfl)
      clear h
      go_enter Try.func21, Try.ntmps21
      go_wp2
      go_ret
      exact ⟨by first | rfl | (simp; done) | (simp; exact e2), BA.out⟩
set_option maxHeartbeats 2000000 in
theorem right_n (k : Int) (l c : Int) (t : ByteArray) (first : Bool) (h1 : k ≠ 1) (h2 : k ≠ 2) (h3 : k ≠ 3) (w : World) : Calls Try.prog 21 #[.agg #[.int .i64 k, .int .i64 l, .int .i64 c, .string t], .bool first] w fun e w' => e = .returned (.bool false) ∧ Below w.heap.size w w' := by
  have BA := Aside0.mk (below_alloc (Below.refl w.heap.size w) (.cells #[.int .i64 k, .int .i64 l, .int .i64 c, .string t] 36))
  have O := Aside0.mk (show TBox (w.alloc (.cells #[.int .i64 k, .int .i64 l, .int .i64 c, .string t] 36)) w.heap.size k l c t from ⟨blk_new w _⟩)
  have q0 := O.out.c 0 rfl
  have q3 := O.out.c 3 rfl
  have b1 : (k == 1) = false := beq_eq_false_iff_ne.mpr h1
  have b2 : (k == 2) = false := beq_eq_false_iff_ne.mpr h2
  have b3 : (k == 3) = false := beq_eq_false_iff_ne.mpr h3
  clear h1 h2 h3
  go_enter Try.func21, Try.ntmps21
  go_wp2
  go_ret
  exact ⟨by first | rfl | simp, BA.out⟩
theorem right_calls (k l c : Int) (t : ByteArray) (first : Bool) {r : Bool} (h : rightM k t first = r) (w : World) : Calls Try.prog 21 #[.agg #[.int .i64 k, .int .i64 l, .int .i64 c, .string t], .bool first] w fun e w' => e = .returned (.bool r) ∧ Below w.heap.size w w' := by
  subst h
  unfold rightM
  by_cases h1 : k = 1
  · subst h1; rw [if_pos rfl]; exact right_1 l c t first w
  rw [if_neg h1]
  by_cases h2 : k = 2
  · subst h2; rw [if_pos rfl]; exact right_2 l c t first w
  rw [if_neg h2]
  by_cases h3 : k = 3
  · subst h3; rw [if_pos rfl]; exact right_3 l c t first w
  rw [if_neg h3]
  exact right_n k l c t first h1 h2 h3 w
/-- a token's text -/
def bodyM (k : Int) (t : ByteArray) : List Int := if k = 2 then quoteM t else bytesOf t
def showL : List S36 → Bool → List Int → Option (List Int × Bool)
  | [], first, acc => some (acc, first)
  | x :: r, first, acc => if rightM x.f0 x.f3 first then (if x.f0 = 3 then showL r true (acc ++ [10]) else showL r false (acc ++ (if first then [] else [32]) ++ bodyM x.f0 x.f3)) else none
def showM (l : List S36) : ByteArray × Int := match showL l true [] with
  | none => (⟨#[]⟩, 1)
  | some (acc, first) => if first then (if 1048576 < acc.length then (⟨#[]⟩, 3) else (strOfNums acc, 0)) else (⟨#[]⟩, 1)
/-- how much there is to be shown at most -/
def weight : List S36 → Nat
  | [] => 0
  | x :: r => 2 * x.f3.size + 3 + weight r
theorem bytesOf_rng (s : ByteArray) : ∀ x ∈ bytesOf s, 0 ≤ x ∧ x < 256 := by
  intro x hx
  unfold bytesOf at hx
  obtain ⟨b, _, rfl⟩ := List.mem_map.1 hx
  have := b.toNat_lt
  omega
theorem body_range (k : Int) (t : ByteArray) : ∀ x ∈ bodyM k t, 0 ≤ x ∧ x < 256 := by
  unfold bodyM
  split
  · exact quote_range t
  · exact bytesOf_rng t
theorem body_len (k : Int) (t : ByteArray) : (bodyM k t).length ≤ 2 * t.size + 2 := by
  unfold bodyM
  split
  · exact quote_len t
  · rw [bytesOf_length]; omega
theorem weight_drop : ∀ {l : List S36} {j : Nat} {x : S36} {r : List S36}, l.drop j = x :: r → 2 * x.f3.size + 3 + weight r ≤ weight l
  | [], j, x, r, h => by simp at h
  | y :: l, 0, x, r, h => by
    rw [List.drop_zero] at h
    injection h with h1 h2
    subst h1 h2
    exact Nat.le_refl _
  | y :: l, j + 1, x, r, h => by
    rw [List.drop_succ_cons] at h
    have := weight_drop h
    simp only [weight]
    omega
theorem at_tok {w : World} {A : Option Addr} {xs : List S36} (h : Kd.C k36 w A xs.length xs) (j : Nat) (hj : j < xs.length) : ∃ ad x, A = some ad ∧ xs.drop j = x :: xs.drop (j + 1) ∧ w.cell? (ad.add (j * 4)) = some (.int .i64 x.f0) ∧ w.cell? ⟨(ad.add (j * 4)).block, (ad.add (j * 4)).off + 1, none⟩ = some (.int .i64 x.f1) ∧ w.cell? ⟨(ad.add (j * 4)).block, (ad.add (j * 4)).off + 2, none⟩ = some (.int .i64 x.f2) ∧ w.cell? ⟨(ad.add (j * 4)).block, (ad.add (j * 4)).off + 3, none⟩ = some (.string x.f3) := by
  obtain ⟨ad, h1, h2, h3, h4, h5⟩ := at_T36 h (j : Int) (by omega) (by omega)
  have e : rd_T36 xs (j : Int) = xs[j] := by unfold rd_T36; rw [Int.toNat_natCast, List.getD_eq_getElem?_getD, List.getElem?_eq_getElem hj]; rfl
  rw [e, Int.toNat_natCast] at h2 h3 h4 h5
  exact ⟨ad, xs[j], h1, List.drop_eq_getElem_cons hj, h2, h3, h4, h5⟩
theorem BldA.below {w w' : World} {g base : Nat} {v : Value} {xs : List Int} (h : BldA w g base v xs) (hb : Below w.heap.size w w') : BldA w' g base v xs := by
  obtain ⟨p, hp, hB⟩ := h
  exact ⟨p, hp, hB.below hb⟩
/-- a box that is made on the way stays where a builder is written -/
theorem tbox_keep {w w' : World} {b g base : Nat} {k l c : Int} {t : ByteArray} {v : Value} {xs : List Int} (o : TBox w b k l c t) (h : BldA w g base v xs) (hk : KeepBut w w' g v.ownBlock) {n : Nat} (hb : n < b) (hg : g = n := by rfl) : TBox w' b k l c t := by
  obtain ⟨p, hp, hB⟩ := h
  refine ⟨(hk.2 b (blk_lt o.blk) (by omega) ?_).trans o.blk⟩
  exact Kd.R_ne hB.row o.blk (by decide)
set_option maxHeartbeats 8000000 in
theorem show_calls {A : Option Addr} {c : Nat} {l : List S36} {w : World} (hL : Kd.C k36 w A l.length l) (hc : l.length ≤ c) (hw : weight l ≤ 1000000000000) :
    Calls Try.prog 12 #[.slice A l.length c] w fun e w' => e = .returned (.tuple #[.string (showM l).1, .int .i64 (showM l).2]) ∧ Below w.heap.size w w' := by
  have HL := Aside0.mk hL
  have HWT := Aside0.mk hw
  have HLN := Aside0.mk (show l.length ≤ 1000000000000 from by
    have : ∀ l : List S36, 3 * l.length ≤ weight l := fun l => by
      induction l with
      | nil => simp [weight]
      | cons x r ih => simp only [weight, List.length_cons]; omega
    have := this l
    omega)
  have BA := Aside0.mk (below_alloc (Below.refl w.heap.size w) (.cells #[.pointer none, .slice none 0 0] 43))
  have X0 := Aside0.mk (show BldA (w.alloc (.cells #[.pointer none, .slice none 0 0] 43)) w.heap.size w.heap.size (.slice none 0 0) [] from ⟨_, .inl rfl, blk_new w _, Kd.R_nil _ _ _ _ _, Nat.le_refl _, by simp⟩)
  clear hL hc hw
  go_enter Try.func12, Try.ntmps12
  go_wp2
  go_loopg [5, 10] l.length (fun gk v5 v10 w' => ∃ (j : Nat) (first : Bool) (acc : List Int), v10 = .int .i64 (j : Int) ∧ v5 = .bool first ∧ Aside0 (j + gk = l.length) ∧ Aside0 (∃ v, BldA w' w.heap.size w.heap.size v acc) ∧ Aside0 (Below w.heap.size w w') ∧ Aside0 (showL l true [] = showL (l.drop j) first acc ∧ acc.length + weight (l.drop j) ≤ 1000000000000 ∧ ∀ x ∈ acc, 0 ≤ x ∧ x < 256))
  case atStart => exact ⟨0, true, [], rfl, rfl, ⟨by omega⟩, ⟨_, X0.out⟩, BA, ⟨rfl, by simpa using HWT.out, fun x hx => by cases hx⟩⟩
  case round =>
    obtain ⟨j, first, acc, rfl, rfl, HJ, HX, HBl, HEQ⟩ := hrel
    obtain ⟨v, hv⟩ := HX.out
    have X := Aside0.mk hv
    clear hv
    by_cases hj : j < l.length
    · obtain ⟨ad, x, hAd, hdr, q0, q1, q2, q3⟩ := at_tok HL.out j hj
      have HDR := Aside0.mk hdr
      have HWD := Aside0.mk (show acc.length + (2 * x.f3.size + 3 + weight (l.drop (j + 1))) ≤ 1000000000000 from by
        have h := HEQ.out.2.1
        rw [hdr] at h
        exact h)
      have HST := Aside0.mk (show showL l true [] = if rightM x.f0 x.f3 first then (if x.f0 = 3 then showL (l.drop (j + 1)) true (acc ++ [10]) else showL (l.drop (j + 1)) false (acc ++ (if first then [] else [32]) ++ bodyM x.f0 x.f3)) else none from by
        rw [HEQ.out.1, hdr]
        rfl)
      obtain ⟨k, tl, tc, tx⟩ := x
      simp only at q0 q1 q2 q3 HWD HST
      have Q0 : wr.cell? (ad.add (j * 4)) = some (.int .i64 k) := ((HBl.out).cell (World.block_lt_of_cell? w _ q0)).trans q0
      have Q1 : wr.cell? ⟨(ad.add (j * 4)).block, (ad.add (j * 4)).off + 1, none⟩ = some (.int .i64 tl) := ((HBl.out).cell (World.block_lt_of_cell? w _ q1)).trans q1
      have Q2 : wr.cell? ⟨(ad.add (j * 4)).block, (ad.add (j * 4)).off + 2, none⟩ = some (.int .i64 tc) := ((HBl.out).cell (World.block_lt_of_cell? w _ q2)).trans q2
      have Q3 : wr.cell? ⟨(ad.add (j * 4)).block, (ad.add (j * 4)).off + 3, none⟩ = some (.string tx) := ((HBl.out).cell (World.block_lt_of_cell? w _ q3)).trans q3
      have HJ2 := Aside0.mk hj
      have d1 : decide ((j : Int) < (l.length : Int)) = true := decide_eq_true (by omega)
      have d1n : decide (j < l.length) = true := decide_eq_true hj
      have p1 : 0 ≤ (j : Int) := by omega
      have hw : wrap64 ((j : Int) + 1) = ((j + 1 : Nat) : Int) := by unfold wrap64; have := HLN.out; omega
      have HW := Aside0.mk hw
      have hu36 := Try.underlying36
      obtain ⟨V, hV⟩ : ∃ V, wr.alloc (.cells #[.int .i64 k, .int .i64 tl, .int .i64 tc, .string tx] 36) = V := ⟨_, rfl⟩
      have bV := Aside0.mk (show Below wr.heap.size wr V by rw [← hV]; exact below_alloc (Below.refl _ _) _)
      have OV := Aside0.mk (show TBox V wr.heap.size k tl tc tx by rw [← hV]; exact ⟨blk_new wr _⟩)
      have XV := Aside0.mk (X.out.below bV.out)
      have BV := Aside0.mk (below_then HBl.out HBl.out.size bV.out)
      have t0 := OV.out.c 0 rfl
      have t1 := OV.out.c 1 rfl
      have t2 := OV.out.c 2 rfl
      have t3 := OV.out.c 3 rfl
      have LTB := Aside0.mk (show w.heap.size < wr.heap.size by obtain ⟨p_, _, hB_⟩ := X.out; exact blk_lt hB_.blk)
      subst hAd
      clear q0 q1 q2 q3 hdr
      cases hr : rightM k tx first with
      | false =>
        have HR := Aside0.mk hr
        have HRES := Aside0.mk (show showM l = (⟨#[]⟩, 1) by
          have h := HST.out
          rw [hr, if_neg (by decide)] at h
          unfold showM
          rw [h])
        clear hr
        go_wp2_with (go_at_call 21; (with_reducible refine (right_calls k tl tc tx first HR.out _).mono ?_); rintro e w2 ⟨rfl, h1⟩; have B2 := Aside0.mk (below_then BV.out BV.out.size h1); clear h1)
        go_ret2
        rw [HRES.out]
        exact ⟨rfl, B2.out⟩
      | true =>
        have HR := Aside0.mk hr
        clear hr
        by_cases hk : k = 3
        · have b1 : (k == 3) = true := by rw [hk]; rfl
          have HST2 := Aside0.mk (show showL l true [] = showL (l.drop (j + 1)) true (acc ++ [10]) by
            have h := HST.out
            rw [HR.out, if_pos rfl, if_pos hk] at h
            exact h)
          clear hk
          go_wp2_with (first
            | (go_at_call 21; (with_reducible refine (right_calls k tl tc tx _ HR.out _).mono ?_); rintro e w2 ⟨rfl, h1⟩; have O2 := Aside0.mk (OV.out.below h1); have X2 := Aside0.mk (XV.out.below h1); have B2 := Aside0.mk (below_then BV.out BV.out.size h1); have s0 := O2.out.c 0 rfl; have s3 := O2.out.c 3 rfl; clear h1)
            | (go_at_call 22; (with_reducible refine (wbA_calls X2.out 10 (by have := HWD.out; omega)).mono ?_); rintro e w3 ⟨rfl, v3, h1, h2, h3⟩; have X3 := Aside0.mk h1; have B3 := Aside0.mk (B2.out.trans h3); clear h1 h2 h3))
          go_roundg (gk - 1)
          case measure => have := HJ.out; have := HJ2.out; omega
          case rel => exact ⟨j + 1, true, acc ++ [10], by first | rw [HW.out] | go_num, rfl, ⟨by have := HJ.out; have := HJ2.out; omega⟩, ⟨v3, X3.out⟩, B3, ⟨HST2.out, by have := HWD.out; rw [List.length_append]; simp; omega, fun x hx => by rcases List.mem_append.1 hx with hx | hx; (exact HEQ.out.2.2 x hx); (rw [List.mem_singleton] at hx; omega)⟩⟩
        · have b1 : (k == 3) = false := beq_eq_false_iff_ne.mpr hk
          have HST2 := Aside0.mk (show showL l true [] = showL (l.drop (j + 1)) false (acc ++ (if first then [] else [32]) ++ bodyM k tx) by
            have h := HST.out
            rw [HR.out, if_pos rfl, if_neg hk] at h
            exact h)
          have HBL := Aside0.mk (body_len k tx)
          clear hk
          by_cases h2 : k = 2
          · have b2 : (k == 2) = true := by rw [h2]; rfl
            have HBE := Aside0.mk (show bodyM k tx = quoteM tx by unfold bodyM; rw [if_pos h2])
            have HSB := Aside0.mk (str_bytes (quote_range tx))
            clear h2
            cases first with
            | true =>
              go_wp2_with (first
                | (go_at_call 21; (with_reducible refine (right_calls k tl tc tx _ HR.out _).mono ?_); rintro e w2 ⟨rfl, h1⟩; have O2 := Aside0.mk (OV.out.below h1); have X2 := Aside0.mk (XV.out.below h1); have B2 := Aside0.mk (below_then BV.out BV.out.size h1); have s0 := O2.out.c 0 rfl; have s3 := O2.out.c 3 rfl; clear h1)
                | (go_at_call 15; (with_reducible refine (quote_calls tx (by have := HWD.out; omega) _).mono ?_); rintro e w4 ⟨rfl, h1⟩; have X4 := Aside0.mk (X2.out.below h1); have B4 := Aside0.mk (below_then B2.out B2.out.size h1); clear h1)
                | (go_at_call 23; (with_reducible refine (wsA_calls X4.out (strOfNums (quoteM tx)) (by have h1 := HWD.out; have h2 := quote_len tx; rw [← bytesOf_length, ← HSB.out]; omega)).mono ?_); rintro e w5 ⟨rfl, v5, h1, h2, h3⟩; rw [← HSB.out] at h1; have X5 := Aside0.mk h1; have B5 := Aside0.mk (B4.out.trans h3); clear h1 h2 h3))
              go_roundg (gk - 1)
              case measure => have := HJ.out; have := HJ2.out; omega
              case rel =>
                refine ⟨j + 1, false, acc ++ (if true then [] else [32]) ++ bodyM k tx, by first | rw [HW.out] | go_num, rfl, ⟨by have := HJ.out; have := HJ2.out; omega⟩, ⟨v5, ?_⟩, B5, ⟨HST2.out, ?_, fun x hx => ?_⟩⟩
                · rw [HBE.out]; exact (by simpa using X5.out)
                · have h1 := HWD.out; have h2 := HBL.out; rw [List.length_append, List.length_append]; simp; omega
                · rcases List.mem_append.1 hx with hx | hx
                  · rcases List.mem_append.1 hx with hx | hx
                    · exact HEQ.out.2.2 x hx
                    · simp at hx
                  · exact body_range k tx x hx
            | false =>
              go_wp2_with (first
                | (go_at_call 21; (with_reducible refine (right_calls k tl tc tx _ HR.out _).mono ?_); rintro e w2 ⟨rfl, h1⟩; have O2 := Aside0.mk (OV.out.below h1); have X2 := Aside0.mk (XV.out.below h1); have B2 := Aside0.mk (below_then BV.out BV.out.size h1); have s0 := O2.out.c 0 rfl; have s3 := O2.out.c 3 rfl; clear h1)
                | (go_at_call 22; (with_reducible refine (wbA_calls X2.out 32 (by have := HWD.out; omega)).mono ?_); rintro e w3 ⟨rfl, v3, h1, h2, h3⟩; have O3 := Aside0.mk (tbox_keep O2.out X2.out h2 LTB.out); have X3 := Aside0.mk h1; have B3 := Aside0.mk (B2.out.trans h3); have a0 := O3.out.c 0 rfl; have a3 := O3.out.c 3 rfl; clear h1 h2 h3)
                | (go_at_call 15; (with_reducible refine (quote_calls tx (by have := HWD.out; omega) _).mono ?_); rintro e w4 ⟨rfl, h1⟩; have X4 := Aside0.mk (X3.out.below h1); have B4 := Aside0.mk (below_then B3.out B3.out.size h1); clear h1)
                | (go_at_call 23; (with_reducible refine (wsA_calls X4.out (strOfNums (quoteM tx)) (by have h1 := HWD.out; have h2 := quote_len tx; rw [← bytesOf_length (strOfNums (quoteM tx)), ← HSB.out, List.length_append]; simp; omega)).mono ?_); rintro e w5 ⟨rfl, v5, h1, h2, h3⟩; rw [← HSB.out] at h1; have X5 := Aside0.mk h1; have B5 := Aside0.mk (B4.out.trans h3); clear h1 h2 h3))
              go_roundg (gk - 1)
              case measure => have := HJ.out; have := HJ2.out; omega
              case rel =>
                refine ⟨j + 1, false, acc ++ (if false then [] else [32]) ++ bodyM k tx, by first | rw [HW.out] | go_num, rfl, ⟨by have := HJ.out; have := HJ2.out; omega⟩, ⟨v5, ?_⟩, B5, ⟨HST2.out, ?_, fun x hx => ?_⟩⟩
                · rw [HBE.out]; exact X5.out
                · have h1 := HWD.out; have h2 := HBL.out; rw [List.length_append, List.length_append]; simp; omega
                · rcases List.mem_append.1 hx with hx | hx
                  · rcases List.mem_append.1 hx with hx | hx
                    · exact HEQ.out.2.2 x hx
                    · simp at hx; omega
                  · exact body_range k tx x hx
          · have b2 : (k == 2) = false := beq_eq_false_iff_ne.mpr h2
            have HBE := Aside0.mk (show bodyM k tx = bytesOf tx by unfold bodyM; rw [if_neg h2])
            clear h2
            cases first with
            | true =>
              go_wp2_with (first
                | (go_at_call 21; (with_reducible refine (right_calls k tl tc tx _ HR.out _).mono ?_); rintro e w2 ⟨rfl, h1⟩; have O2 := Aside0.mk (OV.out.below h1); have X2 := Aside0.mk (XV.out.below h1); have B2 := Aside0.mk (below_then BV.out BV.out.size h1); have s0 := O2.out.c 0 rfl; have s3 := O2.out.c 3 rfl; clear h1)
                | (go_at_call 23; (with_reducible refine (wsA_calls X2.out tx (by have := HWD.out; omega)).mono ?_); rintro e w5 ⟨rfl, v5, h1, h2, h3⟩; have X5 := Aside0.mk h1; have B5 := Aside0.mk (B2.out.trans h3); clear h1 h2 h3))
              go_roundg (gk - 1)
              case measure => have := HJ.out; have := HJ2.out; omega
              case rel =>
                refine ⟨j + 1, false, acc ++ (if true then [] else [32]) ++ bodyM k tx, by first | rw [HW.out] | go_num, rfl, ⟨by have := HJ.out; have := HJ2.out; omega⟩, ⟨v5, ?_⟩, B5, ⟨HST2.out, ?_, fun x hx => ?_⟩⟩
                · rw [HBE.out]; exact (by simpa using X5.out)
                · have h1 := HWD.out; have h2 := HBL.out; rw [List.length_append, List.length_append]; simp; omega
                · rcases List.mem_append.1 hx with hx | hx
                  · rcases List.mem_append.1 hx with hx | hx
                    · exact HEQ.out.2.2 x hx
                    · simp at hx
                  · exact body_range k tx x hx
            | false =>
              go_wp2_with (first
                | (go_at_call 21; (with_reducible refine (right_calls k tl tc tx _ HR.out _).mono ?_); rintro e w2 ⟨rfl, h1⟩; have O2 := Aside0.mk (OV.out.below h1); have X2 := Aside0.mk (XV.out.below h1); have B2 := Aside0.mk (below_then BV.out BV.out.size h1); have s0 := O2.out.c 0 rfl; have s3 := O2.out.c 3 rfl; clear h1)
                | (go_at_call 22; (with_reducible refine (wbA_calls X2.out 32 (by have := HWD.out; omega)).mono ?_); rintro e w3 ⟨rfl, v3, h1, h2, h3⟩; have O3 := Aside0.mk (tbox_keep O2.out X2.out h2 LTB.out); have X3 := Aside0.mk h1; have B3 := Aside0.mk (B2.out.trans h3); have a0 := O3.out.c 0 rfl; have a3 := O3.out.c 3 rfl; clear h1 h2 h3)
                | (go_at_call 23; (with_reducible refine (wsA_calls X3.out tx (by have := HWD.out; rw [List.length_append]; simp; omega)).mono ?_); rintro e w5 ⟨rfl, v5, h1, h2, h3⟩; have X5 := Aside0.mk h1; have B5 := Aside0.mk (B3.out.trans h3); clear h1 h2 h3))
              go_roundg (gk - 1)
              case measure => have := HJ.out; have := HJ2.out; omega
              case rel =>
                refine ⟨j + 1, false, acc ++ (if false then [] else [32]) ++ bodyM k tx, by first | rw [HW.out] | go_num, rfl, ⟨by have := HJ.out; have := HJ2.out; omega⟩, ⟨v5, ?_⟩, B5, ⟨HST2.out, ?_, fun x hx => ?_⟩⟩
                · rw [HBE.out]; exact X5.out
                · have h1 := HWD.out; have h2 := HBL.out; rw [List.length_append, List.length_append]; simp; omega
                · rcases List.mem_append.1 hx with hx | hx
                  · rcases List.mem_append.1 hx with hx | hx
                    · exact HEQ.out.2.2 x hx
                    · simp at hx; omega
                  · exact body_range k tx x hx
    · have d1 : decide ((j : Int) < (l.length : Int)) = false := decide_eq_false (by omega)
      have d1n : decide (j < l.length) = false := decide_eq_false hj
      have HSE := Aside0.mk (show showL l true [] = some (acc, first) by
        rw [HEQ.out.1, List.drop_eq_nil_of_le (by omega)]
        rfl)
      clear hj
      cases first with
      | false =>
        have HRES := Aside0.mk (show showM l = (⟨#[]⟩, 1) by unfold showM; rw [HSE.out]; rfl)
        go_wp2
        go_ret2
        rw [HRES.out]
        exact ⟨rfl, HBl.out⟩
      | true =>
        by_cases hbig : 1048576 < acc.length
        · have HRES := Aside0.mk (show showM l = (⟨#[]⟩, 3) by unfold showM; rw [HSE.out]; show (if true = true then _ else _) = _; rw [if_pos rfl, if_pos hbig])
          have d2 : decide ((1048576 : Int) < (acc.length : Int)) = true := decide_eq_true (by omega)
          have d2n : decide (1048576 < acc.length) = true := decide_eq_true hbig
          clear hbig
          go_wp2_with (go_at_call 24; (with_reducible refine (lenA_calls X.out).mono ?_); rintro e w_ ⟨rfl, rfl⟩)
          go_ret2
          rw [HRES.out]
          exact ⟨rfl, HBl.out⟩
        · have HRES := Aside0.mk (show showM l = (strOfNums acc, 0) by unfold showM; rw [HSE.out]; show (if true = true then _ else _) = _; rw [if_pos rfl, if_neg hbig])
          have d2 : decide ((1048576 : Int) < (acc.length : Int)) = false := decide_eq_false (by omega)
          have d2n : decide (1048576 < acc.length) = false := decide_eq_false hbig
          have XS := Aside0.mk (show BldA wr w.heap.size w.heap.size v (bytesOf (strOfNums acc)) by rw [← str_bytes HEQ.out.2.2]; exact X.out)
          clear hbig
          go_wp2_with (first
            | (go_at_call 24; (with_reducible refine (lenA_calls X.out).mono ?_); rintro e w_ ⟨rfl, rfl⟩)
            | (go_at_call 25; (with_reducible refine (strA_calls (strOfNums acc) XS.out).mono ?_); rintro e w3 ⟨rfl, h1, h2⟩; have B3 := Aside0.mk (HBl.out.trans h2); clear h1 h2))
          go_ret2
          rw [HRES.out]
          exact ⟨rfl, B3.out⟩
end Go.Proofs.Ytdgholodogcemaa.Lex
