/- Sections: get. -/
import Derived.Test.YtnohflfpahokiaaSec5
import Derived.Test.YtnohflfpahokiaaMeth
import Derived.Laws.ResultCell
set_option linter.unusedVariables false
set_option linter.unusedSimpArgs false
set_option maxRecDepth 20000
namespace Go.Proofs.Ytnohflfpahokiaa.Sec
open Go Go.RowKit Go.Proofs.YtnohflfpahokiaaW.PrintWords Go.Proofs.YtnohflfpahokiaaW.PrintLast Go.Proofs.Ytnohflfpahokiaa.LebM Go.Proofs.Ytnohflfpahokiaa.Leb
open Go.Proofs.Ytnohflfpahokiaa.PAll (S39 k39 z39 rd_T39 at_T39)
open Go.Proofs.Ytnohflfpahokiaa.Rd (Kp info5 Rdr byteM textM wordM C_move midlen)
open Go.Proofs.Ytnohflfpahokiaa.Crc (sumI sumI_range)
open Go.Proofs.Ytnohflfpahokiaa.Head (head5)

theorem SBox.kp {w w' : World} {b g T base b2 : Nat} {t : Int} {A : Option Addr} {n c : Nat} {bs : List Int} {p : Nat} {er : Int} (o : SBox w b t A n c) (r : Rdr T base w g bs p er) (k : Kp b2 w w' g) (hT : T ≠ 39) : SBox w' b t A n c := by
  obtain ⟨A, c, h1, _⟩ := r.blk
  exact ⟨(k.1.2 b (blk_lt o.blk) (fun e => blk_ne o.blk h1 (fun e => hT e.symm) e) (by simp)).trans o.blk⟩
theorem SBox.far {w : World} {b : Nat} {t : Int} {A : Option Addr} {n c : Nat} (o : SBox w b t A n c) : ∀ (a : Addr) (q : Int), w.cell? a = some (.int .u8 q) → a.block ≠ b := by
  intro a q hc he
  unfold World.cell? at hc
  rw [he, o.blk] at hc
  simp only at hc
  split at hc
  · cases hc
  · match ho : a.off with
    | 0 => rw [ho] at hc; simp at hc
    | 1 => rw [ho] at hc; simp at hc
    | n + 2 => rw [ho] at hc; simp at hc
theorem kp_set {base g : Nat} {w w' : World} (k : Kp base w w' g) {b : Nat} (hb : w.heap.size ≤ b) (hbase : base ≤ b) (i : Nat) (u : Value) : Kp base w (w'.setCell ⟨b, i, none⟩ u) g :=
  ⟨⟨by simpa using k.1.1, fun j hj h1 h2 => (Below.heap_setCell w' ⟨b, i, none⟩ u j (by show j ≠ b; omega)).trans (k.1.2 j hj h1 h2)⟩, k.2.setCell hbase _, fun hg => k.fld.set_ (.inl (by omega)) u hg⟩
theorem C_kp {w w' : World} {A : Option Addr} {ys : List Int} {T base b2 g : Nat} {bs : List Int} {p : Nat} {er : Int} (hC : (Kd.int .u8).C w A ys.length ys) (r : Rdr T base w g bs p er) (k : Kp b2 w w' g) : (Kd.int .u8).C w' A ys.length ys :=
  C_move hC fun a q hc => k.1.2 _ (World.block_lt_of_cell? w _ hc) (r.far hc) (by simp)
theorem C_move' {w w1 : World} {A : Option Addr} {ys : List Int} (hC : (Kd.int .u8).C w A ys.length ys) (hm : ∀ ad, A = some ad → w1.heap[ad.block]? = w.heap[ad.block]?) : (Kd.int .u8).C w1 A ys.length ys := by
  refine ⟨hC.1, hC.2.1, fun h0 => ?_⟩
  obtain ⟨ad, hA, hx⟩ := hC.2.2 h0
  refine ⟨ad, hA, fun j p hj => ?_⟩
  obtain ⟨c, hl, hk, hat⟩ := hx j p hj
  refine ⟨c, hl, hk, fun i u hu => ?_⟩
  have hcell := hat i u hu
  have hb : (ad.add (j * (Kd.int .u8).sz + i)).block = ad.block := by unfold Addr.add; split <;> rfl
  simpa only [World.cell?, hb, hm ad hA] using hcell
/-- a row of a block of its own -/
theorem F_block {w : World} {b : Nat} {ys : List Int} (hC : (Kd.int .u8).C w (some ⟨b, 0, none⟩) ys.length ys) (hb : b < w.heap.size) : Kd.F (Kd.int .u8) w (fun k => k = b) (some ⟨b, 0, none⟩) ys.length ys :=
  fun W' hW => C_move' hC fun ad h => by injection h with h; subst h; exact hW b rfl hb
theorem bytes_eventF {P : Program} {ops : Array Oper} {rest : List Oper} {o : Oper} {a : Act} {Q : Exit → Act → World → Prop} {W : World} {N : Tmp} (_hd : o.dst = some N) (hg : o.guard = none) (src dst e : TypeId) (x : Operand) (s : ByteArray) (ho : o.op = .convert src dst x) (hx : a.eval x = .string s)
    (h1 : P.underlying src = some .string) (h2 : P.underlying dst = some (.slice e)) (h3 : P.underlying e = some (.int .u8)) (hs : s.size ≤ 9223372036854775807)
    (h : ∀ A c w1, (bytesOf s).length ≤ c → Kd.F (Kd.int .u8) w1 (fun k => k = W.heap.size) A (bytesOf s).length (bytesOf s) → Below W.heap.size W w1 → wpList P ops Q rest (a.put o.dst (.slice A (bytesOf s).length c)) w1) : wpList P ops Q (o :: rest) a W := by
  have hl : (bytesOf s).length = s.size := by simp [bytesOf]
  have hr := run_bytes_of_string (P := P) W src dst e s h1 h2 h3
  generalize hW2 : (World.alloc W.drew (.cells (bytesRow s (grownCap W s.size 0 e)) e _)) = W2 at hr
  have h5 : (Kd.int .u8).C W2 (some ⟨W.heap.size, 0, none⟩) (bytesOf s).length (bytesOf s) := by
    rw [← hW2]; exact Pen.C_strbytes W s e _ _ hs
  have h7 : W.heap.size < W2.heap.size := by rw [← hW2]; simp
  have h6 : Below W.heap.size W W2 := by
    rw [← hW2]; exact (Below.refl _ _).drew.alloc (Nat.le_refl _) _
  refine Kd.event_run hg (w1 := W2) (v := .slice (some ⟨W.heap.size, 0, none⟩) (bytesOf s).length (grownCap W s.size 0 e)) ?_ (h _ _ _ (by rw [hl]; exact grownCap_ge _ _ _ _) (F_block h5 h7) h6)
  simp only [execOp, ho, hx]
  rw [hl]
  simp [hr, Result.andThen]
theorem F_kp {w w' : World} {A : Option Addr} {ys : List Int} {base g b : Nat} (h : Kd.F (Kd.int .u8) w (fun k => k = b) A ys.length ys) (k : Kp base w w' g) (hb : b ≠ g) : Kd.F (Kd.int .u8) w' (fun k => k = b) A ys.length ys :=
  Kd.F_step h fun j hj hlt => k.1.2 j hlt (by rw [hj]; exact hb) (by simp)
theorem F_setc {w : World} {A : Option Addr} {ys : List Int} {b c i : Nat} {u : Value} (h : Kd.F (Kd.int .u8) w (fun k => k = b) A ys.length ys) (hb : b ≠ c) : Kd.F (Kd.int .u8) (w.setCell ⟨c, i, none⟩ u) (fun k => k = b) A ys.length ys :=
  Kd.F_far h (fun k hk => by rw [hk]; exact hb) u
/-- a row that is only read, away from a block -/
theorem F_of_C {w : World} {A : Option Addr} {ys : List Int} {g : Nat} (hC : (Kd.int .u8).C w A ys.length ys) (hf : ∀ (a : Addr) (q : Int), w.cell? a = some (.int .u8 q) → a.block ≠ g) : Kd.F (Kd.int .u8) w (fun k => k ≠ g) A ys.length ys :=
  fun W' hW => C_move hC fun a q hc => hW _ (hf a q hc) (World.block_lt_of_cell? w _ hc)
theorem textM_ge (bs : List Int) (p : Nat) (er most : Int) : p ≤ (textM bs p er most).2.1 := by
  unfold textM
  repeat' split
  all_goals simp
  all_goals omega
theorem rdr_lt {w : World} {T g base : Nat} {bs : List Int} {p : Nat} {er : Int} (r : Rdr T base w g bs p er) : g < w.heap.size := by
  obtain ⟨A, c, hb, _⟩ := r.blk
  exact blk_lt hb
def gT (bs : List Int) (p : Nat) : Int := bs.getD p 0
def gX (bs : List Int) (p : Nat) : ByteArray × Nat × Int := textM bs (p + 1) 0 1048576
def gW (bs : List Int) (p : Nat) : Int × Nat × Int := wordM bs (gX bs p).2.1 (gX bs p).2.2
def gE (bs : List Int) (p : Nat) (last : Int) : Int :=
  if (gW bs p).2.2 ≠ 0 then (gW bs p).2.2 else if sumI ((bs.take (gX bs p).2.1).drop p) ≠ (gW bs p).1 then 42 else if gT bs p ≤ last then 41 else 0
/-- what get leaves -/
def GPost (base g : Nat) (bs : List Int) (t : Int) (s : ByteArray) (p3 : Nat) (e3 err : Int) (w : World) (e : Ending) (w' : World) : Prop :=
  (∃ A c, e = .returned (.tuple #[.agg #[.int .i64 t, .slice A (bytesOf s).length c], .int .i64 err]) ∧ (bytesOf s).length ≤ c ∧ Kd.F (Kd.int .u8) w' (fun k => k ≠ g ∧ w.heap.size ≤ k) A (bytesOf s).length (bytesOf s)) ∧ Rdr 76 base w' g bs p3 e3 ∧ Kp base w w' g
theorem res29 {tmps : Array Value} {Wf : World} {b n c : Nat} {t err : Int} {A : Option Addr} (h6 : tmps.getD 6 undef = .pointer (some ⟨b, 0, none⟩)) (h7 : tmps.getD 7 undef = .int .i64 err) (o : SBox Wf b t A n c) :
    (results Try.f29 tmps).run Try.prog Wf = .ok (.tuple #[.agg #[.int .i64 t, .slice A n c], .int .i64 err]) Wf := by
  have hl := run_loadVar_row (P := Try.prog) Wf b 39 39 _ (0, 0) _ o.blk Try.underlying39 rfl (by kernel_rfl)
  rw [results_cell_tmp (p := 6) (u := 7) (ty := 39) rfl, h6, h7]
  simp [asAddr, hl, Result.andThen]
theorem get_done {base g : Nat} {w w5 : World} {bs : List Int} {p3 : Nat} {e3 : Int} {A : Option Addr} {c : Nat} {ys : List Int} {t0 : Int} {A0 : Option Addr} {n0 c0 : Nat} (R : Rdr 76 base w5 g bs p3 e3) (K : Kp base w w5 g) (D : SBox w5 w.heap.size t0 A0 n0 c0) (b0 : Nat) (hC : Kd.F (Kd.int .u8) w5 (fun k => k = b0) A ys.length ys) (hb0 : w.heap.size < b0) (hb : base ≤ w.heap.size) (hg : g < w.heap.size) (t : Int) :
    SBox ((w5.setCell ⟨w.heap.size, 0, none⟩ (.int .i64 t)).setCell ⟨w.heap.size, 1, none⟩ (.slice A ys.length c)) w.heap.size t A ys.length c ∧
    Rdr 76 base ((w5.setCell ⟨w.heap.size, 0, none⟩ (.int .i64 t)).setCell ⟨w.heap.size, 1, none⟩ (.slice A ys.length c)) g bs p3 e3 ∧
    Kp base w ((w5.setCell ⟨w.heap.size, 0, none⟩ (.int .i64 t)).setCell ⟨w.heap.size, 1, none⟩ (.slice A ys.length c)) g ∧
    Kd.F (Kd.int .u8) ((w5.setCell ⟨w.heap.size, 0, none⟩ (.int .i64 t)).setCell ⟨w.heap.size, 1, none⟩ (.slice A ys.length c)) (fun k => k ≠ g ∧ w.heap.size ≤ k) A ys.length ys := by
  have hne : g ≠ w.heap.size := by omega
  have D1 : SBox (w5.setCell ⟨w.heap.size, 0, none⟩ (.int .i64 t)) w.heap.size t A0 n0 c0 := ⟨blk_set D.blk 0 _⟩
  have D2 : SBox ((w5.setCell ⟨w.heap.size, 0, none⟩ (.int .i64 t)).setCell ⟨w.heap.size, 1, none⟩ (.slice A ys.length c)) w.heap.size t A ys.length c := ⟨blk_set D1.blk 1 _⟩
  have R1 : Rdr 76 base (w5.setCell ⟨w.heap.size, 0, none⟩ (.int .i64 t)) g bs p3 e3 := R.keep ((KeepBut.refl w5 w.heap.size none).set_ 0 _) hne D.far
  have R2 := R1.keep ((KeepBut.refl (w5.setCell ⟨w.heap.size, 0, none⟩ (.int .i64 t)) w.heap.size none).set_ 1 (.slice A ys.length c)) hne D1.far
  exact ⟨D2, R2, kp_set (kp_set K (Nat.le_refl _) hb 0 _) (Nat.le_refl _) hb 1 _, Kd.F_mono (F_setc (F_setc hC (by omega)) (by omega)) (fun k hk => ⟨by omega, by omega⟩)⟩
theorem g_byte {base g : Nat} {w : World} {bs : List Int} {p : Nat} (r : Rdr 76 base w g bs p 0) {t : Int} (ht : bs.getD p 0 = t) (hp : p < bs.length) : Calls Try.prog 51 #[.pointer (some ⟨g, 0, none⟩)] w fun e w' => e = .returned (.int .i64 t) ∧ Rdr 76 base w' g bs (p + 1) 0 ∧ Kp base w w' g := by
  refine (Rd.byte_calls r).mono fun e w' h => ?_
  have : byteM bs p 0 = (t, p + 1, 0) := by unfold byteM; rw [if_neg (by simp), if_pos hp, ht]
  rw [this] at h
  exact h
theorem g_text {base g : Nat} {w : World} {bs : List Int} {p p2 : Nat} {s : ByteArray} {e2 : Int} (r : Rdr 76 base w g bs p 0) (h : textM bs p 0 1048576 = (s, p2, e2)) : Calls Try.prog 52 #[.pointer (some ⟨g, 0, none⟩), .int .i64 1048576] w fun e w' => e = .returned (.string s) ∧ Rdr 76 base w' g bs p2 e2 ∧ Kp base w w' g := by
  refine (Rd.text_calls r 1048576 (by omega)).mono fun e w' hh => ?_
  rw [h] at hh
  exact hh
theorem g_word {base g : Nat} {w : World} {bs : List Int} {p p2 : Nat} {u e1 e2 : Int} (r : Rdr 76 base w g bs p e1) (h : wordM bs p e1 = (u, p2, e2)) : Calls Try.prog 53 #[.pointer (some ⟨g, 0, none⟩)] w fun e w' => e = .returned (.int .u32 u) ∧ Rdr 76 base w' g bs p2 e2 ∧ Kp base w w' g := by
  refine (Rd.word_calls r).mono fun e w' hh => ?_
  rw [h] at hh
  exact hh

set_option maxHeartbeats 8000000 in
theorem get_short {base g : Nat} {w : World} {bs : List Int} {p p2 p3 : Nat} {s : ByteArray} {e2 e3 t u : Int} (r : Rdr 76 base w g bs p 0) (hp : p < bs.length) (ht : bs.getD p 0 = t) (hx : textM bs (p + 1) 0 1048576 = (s, p2, e2)) (hu : wordM bs p2 e2 = (u, p3, e3)) (hs : s.size ≤ 9223372036854775807) (hpp : p ≤ p2)
    {Ab : Option Addr} {cb : Nat} (hC : (Kd.int .u8).C w Ab bs.length bs) (hcb : bs.length ≤ cb) (last : Int) (he : e3 ≠ 0) :
    Calls Try.prog 29 #[.pointer (some ⟨g, 0, none⟩), .slice Ab bs.length cb, .int .i64 last] w (GPost base g bs t s p3 e3 e3 w) := by
  obtain ⟨V1, hV1⟩ : ∃ V, w.alloc (.cells #[.int .i64 0, .slice none 0 0] 39) = V := ⟨_, rfl⟩
  have BV1 := Aside0.mk (show Below w.heap.size w V1 by rw [← hV1]; exact below_alloc (Below.refl _ _) _)
  have D1 := Aside0.mk (show SBox V1 w.heap.size 0 none 0 0 by rw [← hV1]; exact ⟨blk_new w _⟩)
  have R1 := Aside0.mk (r.below BV1.out)
  have RS := Aside0.mk r.size
  have HP := Aside0.mk hp
  have HT := Aside0.mk ht
  have HX := Aside0.mk hx
  have HU := Aside0.mk hu
  have HS := Aside0.mk hs
  have HPP := Aside0.mk hpp
  have HC := Aside0.mk hC
  have HCB := Aside0.mk hcb
  have HRD := Aside0.mk r
  have b3 : (e3 != 0) = true := bne_iff_ne.mpr he
  clear r hp ht hx hu hs hpp hC hcb he
  have hu39 := Try.underlying39
  go_enter Try.func29, Try.ntmps29
  go_wp2_with (first
    | (go_at_call 51; (with_reducible refine (g_byte R1.out HT.out HP.out).mono ?_); rintro e w1 ⟨rfl, h1, h2⟩; have R2 := Aside0.mk h1; have K2 := Aside0.mk ((Kp.of_below BV1.out RS.out g).trans h2); have D2 := Aside0.mk (D1.out.kp R1.out h2 (by decide)); clear h1 h2;
       obtain ⟨V2, hV2⟩ : ∃ V, w1.alloc (.cells #[.int .i64 t, .slice none 0 0] 39) = V := ⟨_, rfl⟩;
       have b2 := Aside0.mk (show Below w1.heap.size w1 V2 from (by rw [← hV2]; exact below_alloc (Below.refl _ _) _)); have S2 := Aside0.mk (show SBox V2 w1.heap.size t none 0 0 from (by rw [← hV2]; exact ⟨blk_new w1 _⟩)); have s2c := S2.out.c1; have s2f := blk_frozen S2.out.blk 1; have s2e : V2.setCell ⟨w1.heap.size, 1, none⟩ (.slice none 0 0) = V2 := (by rw [← hV2, World.setCell_alloc_new]; rfl); have R2v := Aside0.mk (R2.out.below b2.out); have D2v := Aside0.mk (D2.out.below b2.out); have K2v := Aside0.mk (K2.out.trans (Kp.of_below b2.out R2.out.size g)))
    | (go_at_call 52; (with_reducible refine (g_text R2v.out HX.out).mono ?_); rintro e w2 ⟨rfl, h1, h2⟩; have R3 := Aside0.mk h1; have K3 := Aside0.mk (K2v.out.trans h2); have S3 := Aside0.mk (S2.out.kp R2v.out h2 (by decide)); have D3 := Aside0.mk (D2v.out.kp R2v.out h2 (by decide)); clear h1 h2)
    | ((with_reducible refine gate_dst (N := 19) rfl ?_); refine bytes_eventF (N := 19) rfl rfl 9 25 5 _ s rfl rfl Try.underlying9 Try.underlying25 Try.underlying5 HS.out ?_; intro A c w3 hc hC hb; have Hc := Aside0.mk hc; have R4 := Aside0.mk (R3.out.below hb); have S4 := Aside0.mk (S3.out.below hb); have D4 := Aside0.mk (D3.out.below hb); have K4 := Aside0.mk (K3.out.trans (Kp.of_below hb R3.out.size g)); have q1 := S4.out.c1; have f1 := blk_frozen S4.out.blk 1;
       have LB := Aside0.mk (show w.heap.size ≤ w1.heap.size from K2.out.1.1);
       obtain ⟨V4, hV4⟩ : ∃ V, w3.setCell ⟨w1.heap.size, 1, none⟩ (.slice A (bytesOf s).length c) = V := ⟨_, rfl⟩;
       have S5 := Aside0.mk (show SBox V4 w1.heap.size t A (bytesOf s).length c from (by rw [← hV4]; exact ⟨blk_set S4.out.blk 1 _⟩));
       have NG := Aside0.mk (show g ≠ w1.heap.size from (by have h := rdr_lt R2.out; omega));
       have R5 := Aside0.mk (show Rdr 76 base V4 g bs p2 e2 from (by rw [← hV4]; exact R4.out.keep ((KeepBut.refl w3 w1.heap.size none).set_ 1 _) NG.out S4.out.far));
       have K5 := Aside0.mk (show Kp base w V4 g from (by rw [← hV4]; exact kp_set K4.out LB.out (by have h := RS.out; have h2 := LB.out; omega) 1 _));
       have D5 := Aside0.mk (show SBox V4 w.heap.size 0 none 0 0 from (by rw [← hV4]; exact ⟨(Below.heap_setCell w3 _ _ _ (by show w.heap.size ≠ w1.heap.size; have h := blk_lt D2.out.blk; omega)).trans D4.out.blk⟩));
       have N2 := Aside0.mk (show w1.heap.size < w2.heap.size ∧ w.heap.size < w1.heap.size from ⟨blk_lt S3.out.blk, blk_lt D2.out.blk⟩); have C5 := Aside0.mk (show Kd.F (Kd.int .u8) V4 (fun k => k = w2.heap.size) A (bytesOf s).length (bytesOf s) from (by rw [← hV4]; exact F_setc hC (by have h := N2.out; omega))); clear hc hC hb)
    | (go_at_call 53; (with_reducible refine (g_word R5.out HU.out).mono ?_); rintro e w5 ⟨rfl, h1, h2⟩; have R6 := Aside0.mk h1; have K6 := Aside0.mk (K5.out.trans h2); have S6 := Aside0.mk (S5.out.kp R5.out h2 (by decide)); have D6 := Aside0.mk (D5.out.kp R5.out h2 (by decide)); have C6 := Aside0.mk (F_kp C5.out h2 (by have h := N2.out; have h2 := rdr_lt HRD.out; omega)); have s0 := S6.out.c0; have s1 := S6.out.c1; have dz0 := D6.out.c0; have dz1 := D6.out.c1; have df0 := blk_frozen D6.out.blk 0; have df1 := blk_frozen D6.out.blk 1; clear h1 h2)
    | (go_at_call 28; (with_reducible refine (Rd.at_calls R5.out).mono ?_); rintro e w_ ⟨rfl, rfl⟩)
    | (go_at_call 28; (with_reducible refine (Rd.at_calls R1.out).mono ?_); rintro e w_ ⟨rfl, rfl⟩)
    | (go_at_call 54; (with_reducible refine (Rd.err_calls R6.out).mono ?_); rintro e w_ ⟨rfl, rfl⟩))
  have BD := (Below.refl w5.heap.size w5).drew
  have S7 := Aside0.mk (S6.out.below BD)
  have D7 := Aside0.mk (D6.out.below BD)
  have R7 := Aside0.mk (R6.out.below BD)
  have K7 := Aside0.mk (K6.out.trans (Kp.of_below BD R6.out.size g))
  have C7 := Aside0.mk (Kd.F_below C6.out BD)
  have ez0 := D7.out.c0
  have ez1 := D7.out.c1
  have ef0 := blk_frozen D7.out.blk 0
  have ef1 := blk_frozen D7.out.blk 1
  refine start_ (n := 5) (S := fun w' => w'.cell? ⟨w1.heap.size, 0, none⟩ = some (.int .i64 t) ∧ w'.cell? ⟨w1.heap.size, 1, none⟩ = some (.slice A (bytesOf s).length c)) (ds := [3]) #[false, false, false, false, false] (by kernel_rfl) rfl rfl ⟨S7.out.c0, S7.out.c1⟩ (fun hHeld => ?_)
  refine pure_ (i := 1) (N := some 30) (v := ?_) (a' := ?_) #[false, true, false, false, false] rfl rfl (by kernel_rfl) (fun _ _ _ h => h) (Or.inl ⟨by rfl, ?_⟩) ?_ ?_
  rotate_left
  · intro w'
    go_simp
    with_reducible rfl
  rotate_left
  · simp only [Act.put, List.setIfInBounds_toArray, List.set_cons_zero, List.set_cons_succ, i64_w, i32_w]
    rfl
  refine take_ (i := 0) (N := some 29) (v := ?_) (a' := ?_) #[true, true, false, false, false] rfl rfl (by kernel_rfl) (fun _ _ _ h => h) (Or.inl ⟨by rfl, ?_⟩) hHeld ?_ ?_
  rotate_left
  · rintro w' ⟨s0, s1⟩
    go_simp
    with_reducible rfl
  rotate_left
  · simp only [Act.put, List.setIfInBounds_toArray, List.set_cons_zero, List.set_cons_succ, i64_w, i32_w]
    rfl
  refine one_ (i := 2) (N := some 31) #[true, true, true, false, false] rfl rfl (by kernel_rfl) (by decide) (fun K hK => ?_)
  refine goes_ Try.func54 (by kernel_rfl) rfl #[.pointer (some ⟨g, 0, none⟩)] (by rfl) rfl rfl (by simp only [List.map_toArray, List.map_cons, List.map_nil]; rfl) ?_
  with_reducible refine (Rd.err_calls R7.out).mono ?_
  rintro e w_ ⟨rfl, rfl⟩
  refine ⟨_, rfl, ?_⟩
  refine hK.out _ _ ⟨S7.out.c0, S7.out.c1⟩ (fun hHeld => ?_)
  clear hK K
  refine norm_ (a' := ?_) ?_ ?_
  rotate_left
  · show Act.put _ (some 31) _ = _
    simp only [Act.put, List.setIfInBounds_toArray, List.set_cons_zero, List.set_cons_succ, i64_w, i32_w]
    rfl
  refine last_ (i := 3) (N := none) #[true, true, true, true, false] rfl rfl (by kernel_rfl) (by decide) (fun K hK => ?_)
  refine skip_ (w1 := ?_) (by rfl) rfl ?_ ?_
  rotate_left
  · go_simp
    rfl
  refine hK.out _ _ ?_
  clear hK K
  refine pure_ (i := 4) (N := some 7) (v := ?_) (a' := ?_) #[true, true, true, true, true] rfl rfl (by kernel_rfl) (fun _ _ _ h => h) (Or.inl ⟨by rfl, ?_⟩) ?_ ?_
  rotate_left
  · intro w'
    go_simp
    with_reducible rfl
  rotate_left
  · simp only [Act.put, List.setIfInBounds_toArray, List.set_cons_zero, List.set_cons_succ, i64_w, i32_w]
    rfl
  refine done_ (by kernel_rfl) ?_
  go_wp2
  have FIN := get_done (c := c) R7.out K7.out D7.out w2.heap.size C7.out (by have h := N2.out; omega) RS.out (rdr_lt HRD.out) t
  (try simp only [Exit.inBlock, Exit.then])
  refine bodyPost_ret (v := .tuple #[.agg #[.int .i64 t, .slice A (bytesOf s).length c], .int .i64 e3]) (res29 rfl rfl FIN.1) rfl ?_
  exact ⟨⟨A, c, rfl, Hc.out, FIN.2.2.2⟩, FIN.2.1, FIN.2.2.1⟩

set_option maxHeartbeats 8000000 in
theorem get_sum {base g : Nat} {w : World} {bs : List Int} {p p2 p3 : Nat} {s : ByteArray} {e2 t u : Int} (r : Rdr 76 base w g bs p 0) (hp : p < bs.length) (ht : bs.getD p 0 = t) (hx : textM bs (p + 1) 0 1048576 = (s, p2, e2)) (hu : wordM bs p2 e2 = (u, p3, 0)) (hs : s.size ≤ 9223372036854775807) (hpp : p ≤ p2)
    {Ab : Option Addr} {cb : Nat} (hC : (Kd.int .u8).C w Ab bs.length bs) (hcb : bs.length ≤ cb) (last : Int) (hp2 : p2 ≤ bs.length) (hsum : sumI ((bs.take p2).drop p) ≠ u) :
    Calls Try.prog 29 #[.pointer (some ⟨g, 0, none⟩), .slice Ab bs.length cb, .int .i64 last] w (GPost base g bs t s p3 0 42 w) := by
  obtain ⟨V1, hV1⟩ : ∃ V, w.alloc (.cells #[.int .i64 0, .slice none 0 0] 39) = V := ⟨_, rfl⟩
  have BV1 := Aside0.mk (show Below w.heap.size w V1 by rw [← hV1]; exact below_alloc (Below.refl _ _) _)
  have D1 := Aside0.mk (show SBox V1 w.heap.size 0 none 0 0 by rw [← hV1]; exact ⟨blk_new w _⟩)
  have R1 := Aside0.mk (r.below BV1.out)
  have RS := Aside0.mk r.size
  have HP := Aside0.mk hp
  have HT := Aside0.mk ht
  have HX := Aside0.mk hx
  have HU := Aside0.mk hu
  have HS := Aside0.mk hs
  have HPP := Aside0.mk hpp
  have HC := Aside0.mk hC
  have HCB := Aside0.mk hcb
  have HRD := Aside0.mk r
  obtain ⟨i0, hi, hzz⟩ := Option.map_eq_some_iff.1 info5
  simp only [Prod.mk.injEq] at hzz
  obtain ⟨A2, hsl, hrd, hlc⟩ := print_mid_int (P := Try.prog) (k := .u8) 25 5 Try.underlying25 hi hzz.2.1 Ab cb bs (p : Int) (p2 : Int) (by omega) (by omega) (by omega) hcb
  simp only [Int.toNat_natCast] at hsl hrd hlc
  have HLr := Aside0.mk (show ∀ x ∈ (bs.take p2).drop p, 0 ≤ x ∧ x < 256 from fun x hx => r.byte x (List.mem_of_mem_take (List.mem_of_mem_drop hx)))
  have HLl := Aside0.mk (show ((bs.take p2).drop p).length ≤ 140737488355328 by have := r.len; rw [List.length_drop, List.length_take]; omega)
  have HM0 := Aside0.mk (show (Kd.int .u8).C w A2 ((bs.take p2).drop p).length ((bs.take p2).drop p) by have h_ := Kd.C_of_reads (d := (0 : Int)) (h1 := fun _ => rfl) (hrd w (Kd.reads_of_C (enc := Value.int .u8) (d := (0 : Int)) (h1 := fun _ => rfl) hC)); exact h_)
  obtain ⟨L, hLe⟩ : ∃ L, (bs.take p2).drop p = L := ⟨_, rfl⟩
  rw [hLe] at hsl hlc HLr HLl HM0 hsum
  have HLC := Aside0.mk hlc
  clear hrd hlc hLe hi hzz
  have b4 : (sumI L == u) = false := beq_eq_false_iff_ne.mpr hsum

  clear r hp ht hx hu hs hpp hC hcb hsum hp2
  have hu39 := Try.underlying39
  go_enter Try.func29, Try.ntmps29
  go_wp2_with (first
    | (go_at_call 51; (with_reducible refine (g_byte R1.out HT.out HP.out).mono ?_); rintro e w1 ⟨rfl, h1, h2⟩; have R2 := Aside0.mk h1; have K2 := Aside0.mk ((Kp.of_below BV1.out RS.out g).trans h2); have D2 := Aside0.mk (D1.out.kp R1.out h2 (by decide)); clear h1 h2;
       obtain ⟨V2, hV2⟩ : ∃ V, w1.alloc (.cells #[.int .i64 t, .slice none 0 0] 39) = V := ⟨_, rfl⟩;
       have b2 := Aside0.mk (show Below w1.heap.size w1 V2 from (by rw [← hV2]; exact below_alloc (Below.refl _ _) _)); have S2 := Aside0.mk (show SBox V2 w1.heap.size t none 0 0 from (by rw [← hV2]; exact ⟨blk_new w1 _⟩)); have s2c := S2.out.c1; have s2f := blk_frozen S2.out.blk 1; have s2e : V2.setCell ⟨w1.heap.size, 1, none⟩ (.slice none 0 0) = V2 := (by rw [← hV2, World.setCell_alloc_new]; rfl); have R2v := Aside0.mk (R2.out.below b2.out); have D2v := Aside0.mk (D2.out.below b2.out); have K2v := Aside0.mk (K2.out.trans (Kp.of_below b2.out R2.out.size g)))
    | (go_at_call 52; (with_reducible refine (g_text R2v.out HX.out).mono ?_); rintro e w2 ⟨rfl, h1, h2⟩; have R3 := Aside0.mk h1; have K3 := Aside0.mk (K2v.out.trans h2); have S3 := Aside0.mk (S2.out.kp R2v.out h2 (by decide)); have D3 := Aside0.mk (D2v.out.kp R2v.out h2 (by decide)); clear h1 h2)
    | ((with_reducible refine gate_dst (N := 19) rfl ?_); refine bytes_eventF (N := 19) rfl rfl 9 25 5 _ s rfl rfl Try.underlying9 Try.underlying25 Try.underlying5 HS.out ?_; intro A c w3 hc hC hb; have Hc := Aside0.mk hc; have R4 := Aside0.mk (R3.out.below hb); have S4 := Aside0.mk (S3.out.below hb); have D4 := Aside0.mk (D3.out.below hb); have K4 := Aside0.mk (K3.out.trans (Kp.of_below hb R3.out.size g)); have q1 := S4.out.c1; have f1 := blk_frozen S4.out.blk 1;
       have LB := Aside0.mk (show w.heap.size ≤ w1.heap.size from K2.out.1.1);
       obtain ⟨V4, hV4⟩ : ∃ V, w3.setCell ⟨w1.heap.size, 1, none⟩ (.slice A (bytesOf s).length c) = V := ⟨_, rfl⟩;
       have S5 := Aside0.mk (show SBox V4 w1.heap.size t A (bytesOf s).length c from (by rw [← hV4]; exact ⟨blk_set S4.out.blk 1 _⟩));
       have NG := Aside0.mk (show g ≠ w1.heap.size from (by have h := rdr_lt R2.out; omega));
       have R5 := Aside0.mk (show Rdr 76 base V4 g bs p2 e2 from (by rw [← hV4]; exact R4.out.keep ((KeepBut.refl w3 w1.heap.size none).set_ 1 _) NG.out S4.out.far));
       have K5 := Aside0.mk (show Kp base w V4 g from (by rw [← hV4]; exact kp_set K4.out LB.out (by have h := RS.out; have h2 := LB.out; omega) 1 _));
       have D5 := Aside0.mk (show SBox V4 w.heap.size 0 none 0 0 from (by rw [← hV4]; exact ⟨(Below.heap_setCell w3 _ _ _ (by show w.heap.size ≠ w1.heap.size; have h := blk_lt D2.out.blk; omega)).trans D4.out.blk⟩));
       have N2 := Aside0.mk (show w1.heap.size < w2.heap.size ∧ w.heap.size < w1.heap.size from ⟨blk_lt S3.out.blk, blk_lt D2.out.blk⟩); have C5 := Aside0.mk (show Kd.F (Kd.int .u8) V4 (fun k => k = w2.heap.size) A (bytesOf s).length (bytesOf s) from (by rw [← hV4]; exact F_setc hC (by have h := N2.out; omega))); clear hc hC hb)
    | (go_at_call 53; (with_reducible refine (g_word R5.out HU.out).mono ?_); rintro e w5 ⟨rfl, h1, h2⟩; have R6 := Aside0.mk h1; have K6 := Aside0.mk (K5.out.trans h2); have S6 := Aside0.mk (S5.out.kp R5.out h2 (by decide)); have D6 := Aside0.mk (D5.out.kp R5.out h2 (by decide)); have C6 := Aside0.mk (F_kp C5.out h2 (by have h := N2.out; have h2 := rdr_lt HRD.out; omega)); have s0 := S6.out.c0; have s1 := S6.out.c1; have dz0 := D6.out.c0; have dz1 := D6.out.c1; have df0 := blk_frozen D6.out.blk 0; have df1 := blk_frozen D6.out.blk 1; clear h1 h2)
    | (go_at_call 28; (with_reducible refine (Rd.at_calls R5.out).mono ?_); rintro e w_ ⟨rfl, rfl⟩)
    | (go_at_call 28; (with_reducible refine (Rd.at_calls R1.out).mono ?_); rintro e w_ ⟨rfl, rfl⟩)
    | (go_at_call 54; (with_reducible refine (Rd.err_calls R6.out).mono ?_); rintro e w_ ⟨rfl, rfl⟩)
    | (go_at_call 55; (with_reducible refine (Crc.whole_calls (C_kp HM0.out HRD.out K6.out) HLC.out HLr.out HLl.out u).mono ?_); rintro e w6 ⟨rfl, h1⟩; have BD := Aside0.mk h1.below; have S7 := Aside0.mk (S6.out.below BD.out); have D7 := Aside0.mk (D6.out.below BD.out); have R7 := Aside0.mk (R6.out.below BD.out); have K7 := Aside0.mk (K6.out.trans (Kp.of_below BD.out R6.out.size g)); have C7 := Aside0.mk (Kd.F_below C6.out BD.out); have t0 := S7.out.c0; have t1 := S7.out.c1; have ez0 := D7.out.c0; have ez1 := D7.out.c1; have ef0 := blk_frozen D7.out.blk 0; have ef1 := blk_frozen D7.out.blk 1; clear h1))
  have FIN := get_done (c := c) R7.out K7.out D7.out w2.heap.size C7.out (by have h := N2.out; omega) RS.out (rdr_lt HRD.out) t
  (try simp only [Exit.inBlock, Exit.then])
  refine bodyPost_ret (v := .tuple #[.agg #[.int .i64 t, .slice A (bytesOf s).length c], .int .i64 42]) (res29 rfl rfl FIN.1) rfl ?_
  exact ⟨⟨A, c, rfl, Hc.out, FIN.2.2.2⟩, FIN.2.1, FIN.2.2.1⟩

set_option maxHeartbeats 8000000 in
theorem get_tag {base g : Nat} {w : World} {bs : List Int} {p p2 p3 : Nat} {s : ByteArray} {e2 t u : Int} (r : Rdr 76 base w g bs p 0) (hp : p < bs.length) (ht : bs.getD p 0 = t) (hx : textM bs (p + 1) 0 1048576 = (s, p2, e2)) (hu : wordM bs p2 e2 = (u, p3, 0)) (hs : s.size ≤ 9223372036854775807) (hpp : p ≤ p2)
    {Ab : Option Addr} {cb : Nat} (hC : (Kd.int .u8).C w Ab bs.length bs) (hcb : bs.length ≤ cb) (last : Int) (hp2 : p2 ≤ bs.length) (hsum : sumI ((bs.take p2).drop p) = u) (hlast : t ≤ last) :
    Calls Try.prog 29 #[.pointer (some ⟨g, 0, none⟩), .slice Ab bs.length cb, .int .i64 last] w (GPost base g bs t s p3 0 41 w) := by
  obtain ⟨V1, hV1⟩ : ∃ V, w.alloc (.cells #[.int .i64 0, .slice none 0 0] 39) = V := ⟨_, rfl⟩
  have BV1 := Aside0.mk (show Below w.heap.size w V1 by rw [← hV1]; exact below_alloc (Below.refl _ _) _)
  have D1 := Aside0.mk (show SBox V1 w.heap.size 0 none 0 0 by rw [← hV1]; exact ⟨blk_new w _⟩)
  have R1 := Aside0.mk (r.below BV1.out)
  have RS := Aside0.mk r.size
  have HP := Aside0.mk hp
  have HT := Aside0.mk ht
  have HX := Aside0.mk hx
  have HU := Aside0.mk hu
  have HS := Aside0.mk hs
  have HPP := Aside0.mk hpp
  have HC := Aside0.mk hC
  have HCB := Aside0.mk hcb
  have HRD := Aside0.mk r
  obtain ⟨i0, hi, hzz⟩ := Option.map_eq_some_iff.1 info5
  simp only [Prod.mk.injEq] at hzz
  obtain ⟨A2, hsl, hrd, hlc⟩ := print_mid_int (P := Try.prog) (k := .u8) 25 5 Try.underlying25 hi hzz.2.1 Ab cb bs (p : Int) (p2 : Int) (by omega) (by omega) (by omega) hcb
  simp only [Int.toNat_natCast] at hsl hrd hlc
  have HLr := Aside0.mk (show ∀ x ∈ (bs.take p2).drop p, 0 ≤ x ∧ x < 256 from fun x hx => r.byte x (List.mem_of_mem_take (List.mem_of_mem_drop hx)))
  have HLl := Aside0.mk (show ((bs.take p2).drop p).length ≤ 140737488355328 by have := r.len; rw [List.length_drop, List.length_take]; omega)
  have HM0 := Aside0.mk (show (Kd.int .u8).C w A2 ((bs.take p2).drop p).length ((bs.take p2).drop p) by have h_ := Kd.C_of_reads (d := (0 : Int)) (h1 := fun _ => rfl) (hrd w (Kd.reads_of_C (enc := Value.int .u8) (d := (0 : Int)) (h1 := fun _ => rfl) hC)); exact h_)
  obtain ⟨L, hLe⟩ : ∃ L, (bs.take p2).drop p = L := ⟨_, rfl⟩
  rw [hLe] at hsl hlc HLr HLl HM0 hsum
  have HLC := Aside0.mk hlc
  clear hrd hlc hLe hi hzz
  have b4 : (sumI L == u) = true := by rw [hsum]; simp
  have b5 : decide (t ≤ last) = true := decide_eq_true hlast
  clear hlast

  clear r hp ht hx hu hs hpp hC hcb hsum hp2
  have hu39 := Try.underlying39
  go_enter Try.func29, Try.ntmps29
  go_wp2_with (first
    | (go_at_call 51; (with_reducible refine (g_byte R1.out HT.out HP.out).mono ?_); rintro e w1 ⟨rfl, h1, h2⟩; have R2 := Aside0.mk h1; have K2 := Aside0.mk ((Kp.of_below BV1.out RS.out g).trans h2); have D2 := Aside0.mk (D1.out.kp R1.out h2 (by decide)); clear h1 h2;
       obtain ⟨V2, hV2⟩ : ∃ V, w1.alloc (.cells #[.int .i64 t, .slice none 0 0] 39) = V := ⟨_, rfl⟩;
       have b2 := Aside0.mk (show Below w1.heap.size w1 V2 from (by rw [← hV2]; exact below_alloc (Below.refl _ _) _)); have S2 := Aside0.mk (show SBox V2 w1.heap.size t none 0 0 from (by rw [← hV2]; exact ⟨blk_new w1 _⟩)); have s2c := S2.out.c1; have s2f := blk_frozen S2.out.blk 1; have s2e : V2.setCell ⟨w1.heap.size, 1, none⟩ (.slice none 0 0) = V2 := (by rw [← hV2, World.setCell_alloc_new]; rfl); have R2v := Aside0.mk (R2.out.below b2.out); have D2v := Aside0.mk (D2.out.below b2.out); have K2v := Aside0.mk (K2.out.trans (Kp.of_below b2.out R2.out.size g)))
    | (go_at_call 52; (with_reducible refine (g_text R2v.out HX.out).mono ?_); rintro e w2 ⟨rfl, h1, h2⟩; have R3 := Aside0.mk h1; have K3 := Aside0.mk (K2v.out.trans h2); have S3 := Aside0.mk (S2.out.kp R2v.out h2 (by decide)); have D3 := Aside0.mk (D2v.out.kp R2v.out h2 (by decide)); clear h1 h2)
    | ((with_reducible refine gate_dst (N := 19) rfl ?_); refine bytes_eventF (N := 19) rfl rfl 9 25 5 _ s rfl rfl Try.underlying9 Try.underlying25 Try.underlying5 HS.out ?_; intro A c w3 hc hC hb; have Hc := Aside0.mk hc; have R4 := Aside0.mk (R3.out.below hb); have S4 := Aside0.mk (S3.out.below hb); have D4 := Aside0.mk (D3.out.below hb); have K4 := Aside0.mk (K3.out.trans (Kp.of_below hb R3.out.size g)); have q1 := S4.out.c1; have f1 := blk_frozen S4.out.blk 1;
       have LB := Aside0.mk (show w.heap.size ≤ w1.heap.size from K2.out.1.1);
       obtain ⟨V4, hV4⟩ : ∃ V, w3.setCell ⟨w1.heap.size, 1, none⟩ (.slice A (bytesOf s).length c) = V := ⟨_, rfl⟩;
       have S5 := Aside0.mk (show SBox V4 w1.heap.size t A (bytesOf s).length c from (by rw [← hV4]; exact ⟨blk_set S4.out.blk 1 _⟩));
       have NG := Aside0.mk (show g ≠ w1.heap.size from (by have h := rdr_lt R2.out; omega));
       have R5 := Aside0.mk (show Rdr 76 base V4 g bs p2 e2 from (by rw [← hV4]; exact R4.out.keep ((KeepBut.refl w3 w1.heap.size none).set_ 1 _) NG.out S4.out.far));
       have K5 := Aside0.mk (show Kp base w V4 g from (by rw [← hV4]; exact kp_set K4.out LB.out (by have h := RS.out; have h2 := LB.out; omega) 1 _));
       have D5 := Aside0.mk (show SBox V4 w.heap.size 0 none 0 0 from (by rw [← hV4]; exact ⟨(Below.heap_setCell w3 _ _ _ (by show w.heap.size ≠ w1.heap.size; have h := blk_lt D2.out.blk; omega)).trans D4.out.blk⟩));
       have N2 := Aside0.mk (show w1.heap.size < w2.heap.size ∧ w.heap.size < w1.heap.size from ⟨blk_lt S3.out.blk, blk_lt D2.out.blk⟩); have C5 := Aside0.mk (show Kd.F (Kd.int .u8) V4 (fun k => k = w2.heap.size) A (bytesOf s).length (bytesOf s) from (by rw [← hV4]; exact F_setc hC (by have h := N2.out; omega))); clear hc hC hb)
    | (go_at_call 53; (with_reducible refine (g_word R5.out HU.out).mono ?_); rintro e w5 ⟨rfl, h1, h2⟩; have R6 := Aside0.mk h1; have K6 := Aside0.mk (K5.out.trans h2); have S6 := Aside0.mk (S5.out.kp R5.out h2 (by decide)); have D6 := Aside0.mk (D5.out.kp R5.out h2 (by decide)); have C6 := Aside0.mk (F_kp C5.out h2 (by have h := N2.out; have h2 := rdr_lt HRD.out; omega)); have s0 := S6.out.c0; have s1 := S6.out.c1; have dz0 := D6.out.c0; have dz1 := D6.out.c1; have df0 := blk_frozen D6.out.blk 0; have df1 := blk_frozen D6.out.blk 1; clear h1 h2)
    | (go_at_call 28; (with_reducible refine (Rd.at_calls R5.out).mono ?_); rintro e w_ ⟨rfl, rfl⟩)
    | (go_at_call 28; (with_reducible refine (Rd.at_calls R1.out).mono ?_); rintro e w_ ⟨rfl, rfl⟩)
    | (go_at_call 54; (with_reducible refine (Rd.err_calls R6.out).mono ?_); rintro e w_ ⟨rfl, rfl⟩)
    | (go_at_call 55; (with_reducible refine (Crc.whole_calls (C_kp HM0.out HRD.out K6.out) HLC.out HLr.out HLl.out u).mono ?_); rintro e w6 ⟨rfl, h1⟩; have BD := Aside0.mk h1.below; have S7 := Aside0.mk (S6.out.below BD.out); have D7 := Aside0.mk (D6.out.below BD.out); have R7 := Aside0.mk (R6.out.below BD.out); have K7 := Aside0.mk (K6.out.trans (Kp.of_below BD.out R6.out.size g)); have C7 := Aside0.mk (Kd.F_below C6.out BD.out); have t0 := S7.out.c0; have t1 := S7.out.c1; have ez0 := D7.out.c0; have ez1 := D7.out.c1; have ef0 := blk_frozen D7.out.blk 0; have ef1 := blk_frozen D7.out.blk 1; clear h1))
  have FIN := get_done (c := c) R7.out K7.out D7.out w2.heap.size C7.out (by have h := N2.out; omega) RS.out (rdr_lt HRD.out) t
  (try simp only [Exit.inBlock, Exit.then])
  refine bodyPost_ret (v := .tuple #[.agg #[.int .i64 t, .slice A (bytesOf s).length c], .int .i64 41]) (res29 rfl rfl FIN.1) rfl ?_
  exact ⟨⟨A, c, rfl, Hc.out, FIN.2.2.2⟩, FIN.2.1, FIN.2.2.1⟩

set_option maxHeartbeats 8000000 in
theorem get_ok {base g : Nat} {w : World} {bs : List Int} {p p2 p3 : Nat} {s : ByteArray} {e2 t u : Int} (r : Rdr 76 base w g bs p 0) (hp : p < bs.length) (ht : bs.getD p 0 = t) (hx : textM bs (p + 1) 0 1048576 = (s, p2, e2)) (hu : wordM bs p2 e2 = (u, p3, 0)) (hs : s.size ≤ 9223372036854775807) (hpp : p ≤ p2)
    {Ab : Option Addr} {cb : Nat} (hC : (Kd.int .u8).C w Ab bs.length bs) (hcb : bs.length ≤ cb) (last : Int) (hp2 : p2 ≤ bs.length) (hsum : sumI ((bs.take p2).drop p) = u) (hlast : ¬ t ≤ last) :
    Calls Try.prog 29 #[.pointer (some ⟨g, 0, none⟩), .slice Ab bs.length cb, .int .i64 last] w (GPost base g bs t s p3 0 0 w) := by
  obtain ⟨V1, hV1⟩ : ∃ V, w.alloc (.cells #[.int .i64 0, .slice none 0 0] 39) = V := ⟨_, rfl⟩
  have BV1 := Aside0.mk (show Below w.heap.size w V1 by rw [← hV1]; exact below_alloc (Below.refl _ _) _)
  have D1 := Aside0.mk (show SBox V1 w.heap.size 0 none 0 0 by rw [← hV1]; exact ⟨blk_new w _⟩)
  have R1 := Aside0.mk (r.below BV1.out)
  have RS := Aside0.mk r.size
  have HP := Aside0.mk hp
  have HT := Aside0.mk ht
  have HX := Aside0.mk hx
  have HU := Aside0.mk hu
  have HS := Aside0.mk hs
  have HPP := Aside0.mk hpp
  have HC := Aside0.mk hC
  have HCB := Aside0.mk hcb
  have HRD := Aside0.mk r
  obtain ⟨i0, hi, hzz⟩ := Option.map_eq_some_iff.1 info5
  simp only [Prod.mk.injEq] at hzz
  obtain ⟨A2, hsl, hrd, hlc⟩ := print_mid_int (P := Try.prog) (k := .u8) 25 5 Try.underlying25 hi hzz.2.1 Ab cb bs (p : Int) (p2 : Int) (by omega) (by omega) (by omega) hcb
  simp only [Int.toNat_natCast] at hsl hrd hlc
  have HLr := Aside0.mk (show ∀ x ∈ (bs.take p2).drop p, 0 ≤ x ∧ x < 256 from fun x hx => r.byte x (List.mem_of_mem_take (List.mem_of_mem_drop hx)))
  have HLl := Aside0.mk (show ((bs.take p2).drop p).length ≤ 140737488355328 by have := r.len; rw [List.length_drop, List.length_take]; omega)
  have HM0 := Aside0.mk (show (Kd.int .u8).C w A2 ((bs.take p2).drop p).length ((bs.take p2).drop p) by have h_ := Kd.C_of_reads (d := (0 : Int)) (h1 := fun _ => rfl) (hrd w (Kd.reads_of_C (enc := Value.int .u8) (d := (0 : Int)) (h1 := fun _ => rfl) hC)); exact h_)
  obtain ⟨L, hLe⟩ : ∃ L, (bs.take p2).drop p = L := ⟨_, rfl⟩
  rw [hLe] at hsl hlc HLr HLl HM0 hsum
  have HLC := Aside0.mk hlc
  clear hrd hlc hLe hi hzz
  have b4 : (sumI L == u) = true := by rw [hsum]; simp
  have b5 : decide (t ≤ last) = false := decide_eq_false hlast
  clear hlast

  clear r hp ht hx hu hs hpp hC hcb hsum hp2
  have hu39 := Try.underlying39
  go_enter Try.func29, Try.ntmps29
  go_wp2_with (first
    | (go_at_call 51; (with_reducible refine (g_byte R1.out HT.out HP.out).mono ?_); rintro e w1 ⟨rfl, h1, h2⟩; have R2 := Aside0.mk h1; have K2 := Aside0.mk ((Kp.of_below BV1.out RS.out g).trans h2); have D2 := Aside0.mk (D1.out.kp R1.out h2 (by decide)); clear h1 h2;
       obtain ⟨V2, hV2⟩ : ∃ V, w1.alloc (.cells #[.int .i64 t, .slice none 0 0] 39) = V := ⟨_, rfl⟩;
       have b2 := Aside0.mk (show Below w1.heap.size w1 V2 from (by rw [← hV2]; exact below_alloc (Below.refl _ _) _)); have S2 := Aside0.mk (show SBox V2 w1.heap.size t none 0 0 from (by rw [← hV2]; exact ⟨blk_new w1 _⟩)); have s2c := S2.out.c1; have s2f := blk_frozen S2.out.blk 1; have s2e : V2.setCell ⟨w1.heap.size, 1, none⟩ (.slice none 0 0) = V2 := (by rw [← hV2, World.setCell_alloc_new]; rfl); have R2v := Aside0.mk (R2.out.below b2.out); have D2v := Aside0.mk (D2.out.below b2.out); have K2v := Aside0.mk (K2.out.trans (Kp.of_below b2.out R2.out.size g)))
    | (go_at_call 52; (with_reducible refine (g_text R2v.out HX.out).mono ?_); rintro e w2 ⟨rfl, h1, h2⟩; have R3 := Aside0.mk h1; have K3 := Aside0.mk (K2v.out.trans h2); have S3 := Aside0.mk (S2.out.kp R2v.out h2 (by decide)); have D3 := Aside0.mk (D2v.out.kp R2v.out h2 (by decide)); clear h1 h2)
    | ((with_reducible refine gate_dst (N := 19) rfl ?_); refine bytes_eventF (N := 19) rfl rfl 9 25 5 _ s rfl rfl Try.underlying9 Try.underlying25 Try.underlying5 HS.out ?_; intro A c w3 hc hC hb; have Hc := Aside0.mk hc; have R4 := Aside0.mk (R3.out.below hb); have S4 := Aside0.mk (S3.out.below hb); have D4 := Aside0.mk (D3.out.below hb); have K4 := Aside0.mk (K3.out.trans (Kp.of_below hb R3.out.size g)); have q1 := S4.out.c1; have f1 := blk_frozen S4.out.blk 1;
       have LB := Aside0.mk (show w.heap.size ≤ w1.heap.size from K2.out.1.1);
       obtain ⟨V4, hV4⟩ : ∃ V, w3.setCell ⟨w1.heap.size, 1, none⟩ (.slice A (bytesOf s).length c) = V := ⟨_, rfl⟩;
       have S5 := Aside0.mk (show SBox V4 w1.heap.size t A (bytesOf s).length c from (by rw [← hV4]; exact ⟨blk_set S4.out.blk 1 _⟩));
       have NG := Aside0.mk (show g ≠ w1.heap.size from (by have h := rdr_lt R2.out; omega));
       have R5 := Aside0.mk (show Rdr 76 base V4 g bs p2 e2 from (by rw [← hV4]; exact R4.out.keep ((KeepBut.refl w3 w1.heap.size none).set_ 1 _) NG.out S4.out.far));
       have K5 := Aside0.mk (show Kp base w V4 g from (by rw [← hV4]; exact kp_set K4.out LB.out (by have h := RS.out; have h2 := LB.out; omega) 1 _));
       have D5 := Aside0.mk (show SBox V4 w.heap.size 0 none 0 0 from (by rw [← hV4]; exact ⟨(Below.heap_setCell w3 _ _ _ (by show w.heap.size ≠ w1.heap.size; have h := blk_lt D2.out.blk; omega)).trans D4.out.blk⟩));
       have N2 := Aside0.mk (show w1.heap.size < w2.heap.size ∧ w.heap.size < w1.heap.size from ⟨blk_lt S3.out.blk, blk_lt D2.out.blk⟩); have C5 := Aside0.mk (show Kd.F (Kd.int .u8) V4 (fun k => k = w2.heap.size) A (bytesOf s).length (bytesOf s) from (by rw [← hV4]; exact F_setc hC (by have h := N2.out; omega))); clear hc hC hb)
    | (go_at_call 53; (with_reducible refine (g_word R5.out HU.out).mono ?_); rintro e w5 ⟨rfl, h1, h2⟩; have R6 := Aside0.mk h1; have K6 := Aside0.mk (K5.out.trans h2); have S6 := Aside0.mk (S5.out.kp R5.out h2 (by decide)); have D6 := Aside0.mk (D5.out.kp R5.out h2 (by decide)); have C6 := Aside0.mk (F_kp C5.out h2 (by have h := N2.out; have h2 := rdr_lt HRD.out; omega)); have s0 := S6.out.c0; have s1 := S6.out.c1; have dz0 := D6.out.c0; have dz1 := D6.out.c1; have df0 := blk_frozen D6.out.blk 0; have df1 := blk_frozen D6.out.blk 1; clear h1 h2)
    | (go_at_call 28; (with_reducible refine (Rd.at_calls R5.out).mono ?_); rintro e w_ ⟨rfl, rfl⟩)
    | (go_at_call 28; (with_reducible refine (Rd.at_calls R1.out).mono ?_); rintro e w_ ⟨rfl, rfl⟩)
    | (go_at_call 54; (with_reducible refine (Rd.err_calls R6.out).mono ?_); rintro e w_ ⟨rfl, rfl⟩)
    | (go_at_call 55; (with_reducible refine (Crc.whole_calls (C_kp HM0.out HRD.out K6.out) HLC.out HLr.out HLl.out u).mono ?_); rintro e w6 ⟨rfl, h1⟩; have BD := Aside0.mk h1.below; have S7 := Aside0.mk (S6.out.below BD.out); have D7 := Aside0.mk (D6.out.below BD.out); have R7 := Aside0.mk (R6.out.below BD.out); have K7 := Aside0.mk (K6.out.trans (Kp.of_below BD.out R6.out.size g)); have C7 := Aside0.mk (Kd.F_below C6.out BD.out); have t0 := S7.out.c0; have t1 := S7.out.c1; have ez0 := D7.out.c0; have ez1 := D7.out.c1; have ef0 := blk_frozen D7.out.blk 0; have ef1 := blk_frozen D7.out.blk 1; clear h1))
  have FIN := get_done (c := c) R7.out K7.out D7.out w2.heap.size C7.out (by have h := N2.out; omega) RS.out (rdr_lt HRD.out) t
  (try simp only [Exit.inBlock, Exit.then])
  refine bodyPost_ret (v := .tuple #[.agg #[.int .i64 t, .slice A (bytesOf s).length c], .int .i64 0]) (res29 rfl rfl FIN.1) rfl ?_
  exact ⟨⟨A, c, rfl, Hc.out, FIN.2.2.2⟩, FIN.2.1, FIN.2.2.1⟩
end Go.Proofs.Ytnohflfpahokiaa.Sec
