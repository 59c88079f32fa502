/- The walk of the law's lives. -/
import Derived.Test.YtjanjpchdjagjaaRRef2
set_option linter.unusedVariables false
set_option linter.unusedSimpArgs false
namespace Go.Proofs.Ytjanjpchdjagjaa.Rd
open Go Go.RowKit Go.Proofs.YtjanjpchdjagjaaW.PrintWords Go.Proofs.YtjanjpchdjagjaaW.PrintLast Go.Proofs.Ytjanjpchdjagjaa.LebM Go.Proofs.Ytjanjpchdjagjaa.Leb
open Go.Proofs.Ytjanjpchdjagjaa.Pen (Buf)

def b1 : List Int := [172, 2, 1, 2, 97, 98, 2, 1, 0, 0, 7]
theorem lv_u {w : World} {g base : Nat} {v : Value} (h : Buf w 57 #[v] g base v []) :
    Calls Try.prog 24 #[.pointer (some ⟨g, 0, none⟩), .int .u64 300] w fun e w' => e = .returned (.tuple #[]) ∧ ∃ v', Buf w' 57 #[v'] g base v' [172, 2] ∧ Below base w w' := by
  refine (Pen.u_calls Leb.put_calls 300 (by decide) (by decide) h (by decide)).mono ?_
  rintro e w' ⟨rfl, v', h1, _, _, h4⟩
  exact ⟨rfl, v', h1, h4⟩
theorem lv_i {w : World} {g base : Nat} {v : Value} (h : Buf w 57 #[v] g base v [172, 2]) :
    Calls Try.prog 25 #[.pointer (some ⟨g, 0, none⟩), .int .i64 (-1)] w fun e w' => e = .returned (.tuple #[]) ∧ ∃ v', Buf w' 57 #[v'] g base v' [172, 2, 1] ∧ Below base w w' := by
  refine (Pen.i_calls (putN := fun n => putN 9 (zigS n)) Leb.putint_calls (-1) (by decide) h (by decide)).mono ?_
  rintro e w' ⟨rfl, v', h1, _, _, h4⟩
  exact ⟨rfl, v', h1, h4⟩
theorem lv_t {w : World} {g base : Nat} {v : Value} (h : Buf w 57 #[v] g base v [172, 2, 1]) :
    Calls Try.prog 26 #[.pointer (some ⟨g, 0, none⟩), .string ⟨#[97, 98]⟩] w fun e w' => e = .returned (.tuple #[]) ∧ ∃ v', Buf w' 57 #[v'] g base v' [172, 2, 1, 2, 97, 98] ∧ Below base w w' := by
  refine (Pen.text_calls Leb.put_calls ⟨#[97, 98]⟩ (by decide) h (by decide)).mono ?_
  rintro e w' ⟨rfl, v', h1, _, _, h4⟩
  exact ⟨rfl, v', h1, h4⟩
theorem lv_w {w : World} {g base : Nat} {v : Value} (h : Buf w 57 #[v] g base v [172, 2, 1, 2, 97, 98]) :
    Calls Try.prog 27 #[.pointer (some ⟨g, 0, none⟩), .int .u32 258] w fun e w' => e = .returned (.tuple #[]) ∧ ∃ v', Buf w' 57 #[v'] g base v' [172, 2, 1, 2, 97, 98, 2, 1, 0, 0] ∧ Below base w w' := by
  refine (Pen.word_calls 258 (by decide) h (by decide)).mono ?_
  rintro e w' ⟨rfl, v', h1, _, _, h4⟩
  exact ⟨rfl, v', h1, h4⟩
theorem lv_b {w : World} {g base : Nat} {v : Value} (h : Buf w 57 #[v] g base v [172, 2, 1, 2, 97, 98, 2, 1, 0, 0]) :
    Calls Try.prog 28 #[.pointer (some ⟨g, 0, none⟩), .int .i64 7] w fun e w' => e = .returned (.tuple #[]) ∧ ∃ v', Buf w' 57 #[v'] g base v' b1 ∧ Below base w w' := by
  refine (Pen.byte_calls 7 h (by decide)).mono ?_
  rintro e w' ⟨rfl, v', h1, _, _, h4⟩
  exact ⟨rfl, v', h1, h4⟩
theorem lv_bytes {w : World} {g base : Nat} {v : Value} (h : Buf w 57 #[v] g base v b1) :
    Calls Try.prog 9 #[.pointer (some ⟨g, 0, none⟩)] w fun e w' => ∃ A c, e = .returned (.slice A b1.length c) ∧ (Kd.int .u8).C w' A b1.length b1 ∧ b1.length ≤ c ∧ Below w.heap.size w w' := by
  refine (Pen.bytes_calls h (by decide)).mono ?_
  rintro e w' ⟨u, rfl, h1, h2⟩
  obtain ⟨A, c, rfl, h3, h4⟩ := Kd.R_reads h1
  exact ⟨A, c, rfl, h4, h3, h2⟩
theorem b1_bytes : ∀ x ∈ b1, 0 ≤ x ∧ x < 256 := by decide
theorem b2_bytes : ∀ x ∈ ([2, 97] : List Int), 0 ≤ x ∧ x < 256 := by decide
/-- the pen, and a reader elsewhere, stay where a reader is called -/
theorem buf_kp {w w' : World} {T T2 : Nat} {cs : Array Value} {g h base b2 b3 : Nat} {v : Value} {xs bs : List Int} {p : Nat} {er : Int} (b : Buf w T cs g base v xs) (k : Kp b2 w w' h) (r : Rdr T2 b3 w h bs p er) (hT : T ≠ T2) (h5 : T2 ≠ 5) : Buf w' T cs g base v xs := by
  obtain ⟨A, c, hb, _⟩ := r.blk
  have hg : g ≠ h := fun e => blk_ne b.blk hb hT e
  refine ⟨(k.1.2 g (blk_lt b.blk) hg (by simp)).trans b.blk, Kd.R_mono (Kd.R_move (Kd.R_bound b.row) (fun j hj => k.1.2 j hj.2.2.1 ?_ (by simp))) (fun _ hk => hk.1), b.low, Nat.le_trans b.size k.1.1⟩
  rintro rfl
  obtain ⟨_, _, _, q, hq, cells, hc⟩ := hj
  have hq5 : q = 5 := by simpa [Kd.int, Kd.scalar] using hq
  subst hq5
  rw [hb] at hc
  injection hc with hc
  injection hc with _ hc
  exact h5 hc
theorem rdr_kp {w w' : World} {T T2 : Nat} {g h base b2 b3 : Nat} {xs bs : List Int} {p q : Nat} {er eq : Int} (a : Rdr T base w g xs q eq) (k : Kp b2 w w' h) (r : Rdr T2 b3 w h bs p er) (hn : g ≠ h) : Rdr T base w' g xs q eq := a.keep k.1 hn (fun _ _ hc => r.far hc)
theorem rdr_lt {w : World} {T g base : Nat} {bs : List Int} {p : Nat} {er : Int} (r : Rdr T base w g bs p er) : g < w.heap.size := by
  obtain ⟨A, c, hb, _⟩ := r.blk
  exact blk_lt hb

theorem lv_ru {w : World} {base g : Nat} (r : Rdr 64 base w g b1 0 0) : Calls Try.prog 11 #[.pointer (some ⟨g, 0, none⟩)] w fun e w' => e = .returned (.int .u64 300) ∧ Rdr 64 base w' g b1 2 0 ∧ Kp base w w' g := by
  have h0 : uM b1 0 0 = (300, 2, 0) := by decide
  refine (u_calls r).mono fun e w' h => ?_
  rw [h0] at h
  exact h
theorem lv_ri {w : World} {base g : Nat} (r : Rdr 64 base w g b1 2 0) : Calls Try.prog 12 #[.pointer (some ⟨g, 0, none⟩)] w fun e w' => e = .returned (.int .i64 (-1)) ∧ Rdr 64 base w' g b1 3 0 ∧ Kp base w w' g := by
  have h0 : iM b1 2 0 = (-1, 3, 0) := by decide
  refine (i_calls r).mono fun e w' h => ?_
  rw [h0] at h
  exact h
theorem lv_rt {w : World} {base g : Nat} (r : Rdr 64 base w g b1 3 0) : Calls Try.prog 15 #[.pointer (some ⟨g, 0, none⟩), .int .i64 2] w fun e w' => e = .returned (.string ⟨#[97, 98]⟩) ∧ Rdr 64 base w' g b1 6 0 ∧ Kp base w w' g := by
  have h0 : textM b1 3 0 2 = (⟨#[97, 98]⟩, 6, 0) := by rfl
  refine (text_calls r 2 (by decide)).mono fun e w' h => ?_
  rw [h0] at h
  exact h
theorem lv_rw {w : World} {base g : Nat} (r : Rdr 64 base w g b1 6 0) : Calls Try.prog 14 #[.pointer (some ⟨g, 0, none⟩)] w fun e w' => e = .returned (.int .u32 258) ∧ Rdr 64 base w' g b1 10 0 ∧ Kp base w w' g := by
  have h0 : wordM b1 6 0 = (258, 10, 0) := by decide
  refine (word_calls r).mono fun e w' h => ?_
  rw [h0] at h
  exact h
theorem lv_rb {w : World} {base g : Nat} (r : Rdr 64 base w g b1 10 0) : Calls Try.prog 13 #[.pointer (some ⟨g, 0, none⟩)] w fun e w' => e = .returned (.int .i64 7) ∧ Rdr 64 base w' g b1 11 0 ∧ Kp base w w' g := by
  have h0 : byteM b1 10 0 = (7, 11, 0) := by decide
  refine (byte_calls r).mono fun e w' h => ?_
  rw [h0] at h
  exact h
theorem lv_rq {w : World} {base g : Nat} (r : Rdr 64 base w g [2, 97] 0 0) : Calls Try.prog 15 #[.pointer (some ⟨g, 0, none⟩), .int .i64 5] w fun e w' => e = .returned (.string ⟨#[]⟩) ∧ Rdr 64 base w' g [2, 97] 0 10 ∧ Kp base w w' g := by
  have h0 : textM [2, 97] 0 0 5 = (⟨#[]⟩, 0, 10) := by rfl
  refine (text_calls r 5 (by decide)).mono fun e w' h => ?_
  rw [h0] at h
  exact h
theorem lv_left {w : World} {base g : Nat} (r : Rdr 64 base w g b1 11 0) : Calls Try.prog 19 #[.pointer (some ⟨g, 0, none⟩)] w fun e w' => e = .returned (.int .i64 0) ∧ Drawn0 w w' := by
  have h0 : leftM b1 11 0 = 0 := by decide
  refine (left_calls r).mono fun e w' h => ?_
  rw [h0] at h
  exact h
theorem lv_from2 {w : World} {A : Option Addr} {c q : Nat} (hq : ([2, 97] : List Int).length = q) (hC : (Kd.int .u8).C w A ([2, 97] : List Int).length [2, 97]) (hc : ([2, 97] : List Int).length ≤ c) (base : Nat) (hB : base ≤ w.heap.size) :
    Calls Try.prog 10 #[.slice A q c] w fun e w' => ∃ g, e = .returned (.pointer (some ⟨g, 0, none⟩)) ∧ Rdr 64 base w' g [2, 97] 0 0 ∧ Below w.heap.size w w' ∧ w.heap.size ≤ g := by
  subst hq
  exact from_calls hC hc (by decide) b2_bytes base hB
set_option maxHeartbeats 4000000 in
theorem lives_calls (w : World) : Calls Try.prog 6 #[] w fun e w' => e = .returned (.bool true) ∧ Below w.heap.size w w' := by
  have e8 : strOfNums b1 = ⟨#[172, 2, 1, 2, 97, 98, 2, 1, 0, 0, 7]⟩ := by rfl
  have E8 := Aside0.mk e8
  clear e8
  go_enter Try.func6, Try.ntmps6
  go_wp2_with (first
    | (go_at_call 7; (with_reducible refine (Pen.new_calls _).mono ?_); rintro e w1 ⟨g, rfl, h1, h2⟩; have P1 := Aside0.mk h1; have B1 := Aside0.mk h2; clear h1 h2)
    | (go_at_call 24; (with_reducible refine (lv_u P1.out).mono ?_); rintro e w2 ⟨rfl, v2, h1, h2⟩; have P2 := Aside0.mk h1; have B2 := Aside0.mk (B1.out.trans h2); clear h1 h2)
    | (go_at_call 25; (with_reducible refine (lv_i P2.out).mono ?_); rintro e w3 ⟨rfl, v3, h1, h2⟩; have P3 := Aside0.mk h1; have B3 := Aside0.mk (B2.out.trans h2); clear h1 h2)
    | (go_at_call 26; (with_reducible refine (lv_t P3.out).mono ?_); rintro e w4 ⟨rfl, v4, h1, h2⟩; have P4 := Aside0.mk h1; have B4 := Aside0.mk (B3.out.trans h2); clear h1 h2)
    | (go_at_call 27; (with_reducible refine (lv_w P4.out).mono ?_); rintro e w5 ⟨rfl, v5, h1, h2⟩; have P5 := Aside0.mk h1; have B5 := Aside0.mk (B4.out.trans h2); clear h1 h2)
    | (go_at_call 28; (with_reducible refine (lv_b P5.out).mono ?_); rintro e w6 ⟨rfl, v6, h1, h2⟩; have P6 := Aside0.mk h1; have B6 := Aside0.mk (B5.out.trans h2); clear h1 h2)
    | (go_at_call 9; (with_reducible refine (lv_bytes P6.out).mono ?_); rintro e w7 ⟨A7, c7, rfl, h1, h2, h3⟩; have C7 := Aside0.mk h1; have c7l := Aside0.mk h2; have P7 := Aside0.mk (P6.out.below h3); have B7 := Aside0.mk (below_then B6.out B6.out.size h3); clear h1 h2 h3)
    | (go_at_call 10; (with_reducible refine (from_calls C7.out c7l.out (by decide) b1_bytes w.heap.size B7.out.size).mono ?_); rintro e w8 ⟨r, rfl, h1, h2, h3⟩; have R8 := Aside0.mk h1; have P8 := Aside0.mk (P7.out.below h2); have B8 := Aside0.mk (below_then B7.out B7.out.size h2); clear h1 h2 h3)
    | (go_at_call 11; (with_reducible refine (lv_ru R8.out).mono ?_); rintro e w9 ⟨rfl, h1, h2⟩; have R9 := Aside0.mk h1; have P9 := Aside0.mk (buf_kp P8.out h2 R8.out (by decide) (by decide)); have B9 := Aside0.mk (B8.out.trans h2.2); clear h1 h2)
    | (go_at_call 12; (with_reducible refine (lv_ri R9.out).mono ?_); rintro e w10 ⟨rfl, h1, h2⟩; have R10 := Aside0.mk h1; have P10 := Aside0.mk (buf_kp P9.out h2 R9.out (by decide) (by decide)); have B10 := Aside0.mk (B9.out.trans h2.2); clear h1 h2)
    | (go_at_call 15; (with_reducible refine (lv_rt R10.out).mono ?_); rintro e w11 ⟨rfl, h1, h2⟩; have R11 := Aside0.mk h1; have P11 := Aside0.mk (buf_kp P10.out h2 R10.out (by decide) (by decide)); have B11 := Aside0.mk (B10.out.trans h2.2); clear h1 h2)
    | (go_at_call 14; (with_reducible refine (lv_rw R11.out).mono ?_); rintro e w12 ⟨rfl, h1, h2⟩; have R12 := Aside0.mk h1; have P12 := Aside0.mk (buf_kp P11.out h2 R11.out (by decide) (by decide)); have B12 := Aside0.mk (B11.out.trans h2.2); clear h1 h2)
    | (go_at_call 13; (with_reducible refine (lv_rb R12.out).mono ?_); rintro e w13 ⟨rfl, h1, h2⟩; have R13 := Aside0.mk h1; have P13 := Aside0.mk (buf_kp P12.out h2 R12.out (by decide) (by decide)); have B13 := Aside0.mk (B12.out.trans h2.2); clear h1 h2)
    | ((with_reducible refine gate_dst (N := 38) rfl ?_); refine Kd.R_lit (Kd.int .u8) _ 5 ?hg (N := 38) ?hd (xs := ([2, 97] : List Int)) (inner := [.int .u8 2, .int .u8 97]) (ok := fun _ => True) (okp := fun _ => True) ?hr ?hp (fun _ hk => hk) trivial (Below.refl _ _) (Nat.le_refl _) (by simp) ?_; (case hd => rfl); (case hg => rfl); (case hr => first | (go_simp; done) | (go_simp; rfl)); (case hp => exact (Reps.one (show Kd.M (Kd.int .u8) _ _ _ 2 [.int .u8 2] from rfl) (Reps.one (show Kd.M (Kd.int .u8) _ _ _ 97 [.int .u8 97] from rfl) (Reps.none _ _)))); intro v14 w14 h1 h2 h3 h4; obtain ⟨A14, c14, rfl, hc1, hC1⟩ := Kd.R_reads h1; have C14 := Aside0.mk hC1; have c14l := Aside0.mk hc1; have R14 := Aside0.mk (R13.out.below h2); have P14 := Aside0.mk (P13.out.below h2); have B14 := Aside0.mk (below_then B13.out B13.out.size h2); clear h1 h2 h3 h4 hC1 hc1)
    | (go_at_call 10; (with_reducible refine (lv_from2 (q := 2) rfl C14.out c14l.out w.heap.size B14.out.size).mono ?_); rintro e w15 ⟨q, rfl, h1, h2, h3⟩; have Q15 := Aside0.mk h1; have R15 := Aside0.mk (R14.out.below h2); have P15 := Aside0.mk (P14.out.below h2); have B15 := Aside0.mk (below_then B14.out B14.out.size h2); have NE := Aside0.mk (show r ≠ q from fun e => by have := rdr_lt R14.out; omega); clear h1 h2 h3)
    | (go_at_call 15; (with_reducible refine (lv_rq Q15.out).mono ?_); rintro e w16 ⟨rfl, h1, h2⟩; have Q16 := Aside0.mk h1; have R16 := Aside0.mk (rdr_kp R15.out h2 Q15.out NE.out); have P16 := Aside0.mk (buf_kp P15.out h2 Q15.out (by decide) (by decide)); have B16 := Aside0.mk (B15.out.trans h2.2); clear h1 h2)
    | (go_at_call 9; (with_reducible refine (lv_bytes P16.out).mono ?_); rintro e w17 ⟨A17, c17, rfl, h1, h2, h3⟩; have hcv := (Kd.C_string (P := Try.prog) (A := A17) (c := c17) Try.underlying26 Try.underlying5 Try.underlying9 h1).trans (by rw [E8.out]); have Q17 := Aside0.mk (Q16.out.below h3); have R17 := Aside0.mk (R16.out.below h3); have B17 := Aside0.mk (below_then B16.out B16.out.size h3); clear h1 h2 h3)
    | (go_at_call 19; (with_reducible refine (lv_left R17.out).mono ?_); rintro e w18 ⟨rfl, h1⟩; have Q18 := Aside0.mk (Q17.out.drawn h1); have R18 := Aside0.mk (R17.out.drawn h1); have B18 := Aside0.mk (below_then B17.out B17.out.size h1.below); clear h1)
    | (go_at_call 18; first | ((with_reducible refine (at_calls R18.out).mono ?_); rintro e w19 ⟨rfl, rfl⟩) | ((with_reducible refine (at_calls Q18.out).mono ?_); rintro e w19 ⟨rfl, rfl⟩))
    | (go_at_call 17; first | ((with_reducible refine (err_calls R18.out).mono ?_); rintro e w19 ⟨rfl, rfl⟩) | ((with_reducible refine (err_calls Q18.out).mono ?_); rintro e w19 ⟨rfl, rfl⟩)))
  go_ret
  exact ⟨by first | rfl | simp, B18.out⟩
end Go.Proofs.Ytjanjpchdjagjaa.Rd
