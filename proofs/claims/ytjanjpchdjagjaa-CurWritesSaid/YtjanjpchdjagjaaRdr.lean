/- A reader: what is told of it, and the walks of its inner methods. -/
import Derived.Test.YtjanjpchdjagjaaPen
import Derived.Test.YtjanjpchdjagjaaLeb
import Derived.Test.YtjanjpchdjagjaaWLast
import Derived.WalkSmall
set_option linter.unusedVariables false
set_option linter.unusedSimpArgs false
namespace Go.Proofs.Ytjanjpchdjagjaa.Rd
open Go Go.RowKit Go.Proofs.YtjanjpchdjagjaaW.PrintWords Go.Proofs.YtjanjpchdjagjaaW.PrintLast Go.Proofs.Ytjanjpchdjagjaa.LebM Go.Proofs.Ytjanjpchdjagjaa.Leb

theorem info5 : (Try.prog.info? 5).map (fun i => (i.zero, i.size, i.bytes)) = some (some (.int .u8 0), 1, 1) := by kernel_rfl
/-- a reader of bytes bs at block g: its place, its error -/
structure Rdr (T base : Nat) (w : World) (g : Nat) (bs : List Int) (p : Nat) (e : Int) : Prop where
  blk : ∃ A c, w.heap[g]? = some (.cells #[.slice A bs.length c, .int .i64 (p : Int), .int .i64 e] T (0, 0)) ∧ bs.length ≤ c ∧ (Kd.int .u8).C w A bs.length bs
  low : base ≤ g
  size : base ≤ w.heap.size
  le : p ≤ bs.length
  len : bs.length ≤ 140737488355328
  byte : ∀ x ∈ bs, 0 ≤ x ∧ x < 256
/-- what a call of a reader at g leaves as it was -/
def Kp (base : Nat) (w w' : World) (g : Nat) : Prop := KeepBut w w' g none ∧ Below base w w'
theorem Kp.refl (base : Nat) (w : World) (g : Nat) : Kp base w w g := ⟨KeepBut.refl w g none, Below.refl _ _⟩
theorem Kp.trans {base : Nat} {w w1 w2 : World} {g : Nat} (h : Kp base w w1 g) (k : Kp base w1 w2 g) : Kp base w w2 g := ⟨h.1.trans k.1 (.inl rfl), h.2.trans k.2⟩
theorem Kp.of_below {base : Nat} {w w1 : World} (h : Below w.heap.size w w1) (hs : base ≤ w.heap.size) (g : Nat) : Kp base w w1 g := ⟨KeepBut.of_below h g none, h.mono hs⟩
theorem Kp.set {base : Nat} {w w1 : World} {g : Nat} (h : Kp base w w1 g) (hg : base ≤ g) (i : Nat) (u : Value) : Kp base w (w1.setCell ⟨g, i, none⟩ u) g := ⟨h.1.set_ i u, h.2.setCell hg _⟩
/-- a byte is no reader's field -/
theorem far {w : World} {g T : Nat} {A : Option Addr} {n c : Nat} {p e q : Int} (hb : w.heap[g]? = some (.cells #[.slice A n c, .int .i64 p, .int .i64 e] T (0, 0))) {a : Addr} (hc : w.cell? a = some (.int .u8 q)) : a.block ≠ g := by
  intro he
  unfold World.cell? at hc
  rw [he, hb] at hc
  simp only at hc
  split at hc
  · cases hc
  · match ho : a.off with
    | 0 => rw [ho] at hc; simp at hc
    | 1 => rw [ho] at hc; simp at hc
    | 2 => rw [ho] at hc; simp at hc
    | n + 3 => rw [ho] at hc; simp at hc
theorem C_cells {w : World} {A : Option Addr} {ys : List Int} (hC : (Kd.int .u8).C w A ys.length ys) : ∀ ad, A = some ad → ∀ j u, (nums .u8 ys)[j]? = some u → w.cell? (ad.add j) = some u := by
  intro ad hA j u hj
  obtain ⟨hl, hu⟩ := List.getElem?_eq_some_iff.1 hj
  rw [nums_length] at hl
  obtain ⟨ad', hA', hc⟩ := hC.2.2 (by omega)
  rw [hA] at hA'
  obtain rfl := Option.some.inj hA'
  obtain ⟨cs, hlen, hk, hcell⟩ := hc j ys[j] (List.getElem?_eq_getElem hl)
  have hk' : cs = [Value.int .u8 ys[j]] := hk
  subst hk'
  have := hcell 0 (Value.int .u8 ys[j]) rfl
  have hsz : (Kd.int .u8).sz = 1 := rfl
  rw [hsz, Nat.mul_one, Nat.add_zero] at this
  rw [this, ← hu]
  simp [nums]
/-- a row of bytes is read as before where its blocks are as before -/
theorem C_move {w w1 : World} {A : Option Addr} {ys : List Int} (hC : (Kd.int .u8).C w A ys.length ys) (hm : ∀ (a : Addr) (q : Int), w.cell? a = some (.int .u8 q) → w1.heap[a.block]? = w.heap[a.block]?) : (Kd.int .u8).C w1 A ys.length ys := by
  have hcells := C_cells hC
  refine ⟨rfl, hC.2.1, fun h0 => ?_⟩
  obtain ⟨ad, hA, _⟩ := hC.2.2 h0
  refine ⟨ad, hA, fun j q hj => ⟨[Value.int .u8 q], rfl, rfl, fun i u hu => ?_⟩⟩
  obtain ⟨hi, hu⟩ := List.getElem?_eq_some_iff.1 hu
  have hi0 : i = 0 := by simpa using hi
  subst hi0
  have hu' : Value.int .u8 q = u := by simpa using hu
  subst hu'
  have hsz : (Kd.int .u8).sz = 1 := rfl
  rw [hsz, Nat.mul_one, Nat.add_zero]
  have hcell := hcells ad hA j (.int .u8 q) (by simp [nums, hj])
  have := hm (ad.add j) q hcell
  simpa [World.cell?, this] using hcell
section
variable {T base g : Nat} {w w' : World} {bs : List Int} {p p' : Nat} {e e' : Int}
theorem Rdr.below (r : Rdr T base w g bs p e) (hb : Below w.heap.size w w') : Rdr T base w' g bs p e := by
  obtain ⟨A, c, h1, h2, h3⟩ := r.blk
  exact ⟨⟨A, c, blk_below h1 hb, h2, Kd.C_below h3 hb⟩, r.low, Nat.le_trans r.size hb.size, r.le, r.len, r.byte⟩
theorem Rdr.drew (r : Rdr T base w g bs p e) : Rdr T base w.drew g bs p e := r.below (Below.refl _ _).drew
/-- another block is written: this reader stays -/
theorem Rdr.keep {h : Nat} (r : Rdr T base w g bs p e) (hk : KeepBut w w' h none) (hn : g ≠ h) (hf : ∀ (a : Addr) (q : Int), w.cell? a = some (.int .u8 q) → a.block ≠ h) : Rdr T base w' g bs p e := by
  obtain ⟨A, c, h1, h2, h3⟩ := r.blk
  exact ⟨⟨A, c, (hk.2 g (blk_lt h1) hn (by simp)).trans h1, h2, C_move h3 fun a q hc => hk.2 _ (World.block_lt_of_cell? w _ hc) (hf a q hc) (by simp)⟩, r.low, Nat.le_trans r.size hk.1, r.le, r.len, r.byte⟩
theorem Rdr.far (r : Rdr T base w g bs p e) {a : Addr} {q : Int} (hc : w.cell? a = some (.int .u8 q)) : a.block ≠ g := by
  obtain ⟨A, c, h1, _⟩ := r.blk
  exact Rd.far h1 hc
theorem Rdr.fz (r : Rdr T base w g bs p e) (i : Nat) : w.frozen? ⟨g, i, none⟩ = false := by
  obtain ⟨A, c, h1, _⟩ := r.blk
  exact blk_frozen h1 i
theorem Rdr.c1 (r : Rdr T base w g bs p e) : w.cell? ⟨g, 1, none⟩ = some (.int .i64 (p : Int)) := by
  obtain ⟨A, c, h1, _⟩ := r.blk
  exact (blk_cell h1 1).trans rfl
theorem Rdr.c2 (r : Rdr T base w g bs p e) : w.cell? ⟨g, 2, none⟩ = some (.int .i64 e) := by
  obtain ⟨A, c, h1, _⟩ := r.blk
  exact (blk_cell h1 2).trans rfl
/-- one field is written -/
theorem Rdr.set1 (r : Rdr T base w g bs p e) (hp : p' ≤ bs.length) : Rdr T base (w.setCell ⟨g, 1, none⟩ (.int .i64 (p' : Int))) g bs p' e := by
  obtain ⟨A, c, h1, h2, h3⟩ := r.blk
  exact ⟨⟨A, c, blk_set h1 1 _, h2, C_move h3 fun a q hc => Below.heap_setCell w ⟨g, 1, none⟩ _ _ (Rd.far h1 hc)⟩, r.low, by simpa using r.size, hp, r.len, r.byte⟩
theorem Rdr.set2 (r : Rdr T base w g bs p e) (e' : Int) : Rdr T base (w.setCell ⟨g, 2, none⟩ (.int .i64 e')) g bs p e' := by
  obtain ⟨A, c, h1, h2, h3⟩ := r.blk
  exact ⟨⟨A, c, blk_set h1 2 _, h2, C_move h3 fun a q hc => Below.heap_setCell w ⟨g, 2, none⟩ _ _ (Rd.far h1 hc)⟩, r.low, by simpa using r.size, r.le, r.len, r.byte⟩
end

set_option maxHeartbeats 1000000 in
theorem from_calls {w : World} {bs : List Int} {A : Option Addr} {c : Nat} (hC : (Kd.int .u8).C w A bs.length bs) (hc : bs.length ≤ c) (hl : bs.length ≤ 140737488355328) (hb : ∀ x ∈ bs, 0 ≤ x ∧ x < 256) (base : Nat) (hB : base ≤ w.heap.size) :
    Calls Try.prog 10 #[.slice A bs.length c] w fun e w' => ∃ g, e = .returned (.pointer (some ⟨g, 0, none⟩)) ∧ Rdr 64 base w' g bs 0 0 ∧ Below w.heap.size w w' ∧ w.heap.size ≤ g := by
  have HC := Aside0.mk hC
  have Hc := Aside0.mk hc
  have HL := Aside0.mk hl
  have HB := Aside0.mk hb
  have HBB := Aside0.mk hB
  clear hC hc hl hb hB
  go_enter Try.func10, Try.ntmps10
  go_wp2_with (go_at_call 33; (with_reducible refine (Pen.clone_calls HC.out Hc.out HL.out).mono ?_); rintro e w1 ⟨u, rfl, hr, hb⟩; obtain ⟨A1, c1, rfl, hc1, hC1⟩ := Kd.R_reads hr; have H1 := Aside0.mk hC1; have H2 := Aside0.mk hb; have H3 := Aside0.mk hc1; clear hr hb hC1 hc1)
  go_ret
  exact ⟨_, rfl, ⟨⟨A1, c1, blk_new w1 _, H3.out, Kd.C_below H1.out (below_alloc (Below.refl _ _) _)⟩, Nat.le_trans HBB.out H2.out.size, by simp; have := H2.out.size; have := HBB.out; omega, Nat.zero_le _, HL.out, HB.out⟩, below_alloc H2.out _, H2.out.size⟩
section
variable {base g : Nat} {w : World} {bs : List Int} {p : Nat} {er : Int}
set_option maxHeartbeats 1000000 in
theorem err_calls (r : Rdr 64 base w g bs p er) : Calls Try.prog 17 #[.pointer (some ⟨g, 0, none⟩)] w fun e w' => e = .returned (.int .i64 er) ∧ w = w' := by
  have c2 := r.c2
  clear r
  go_enter Try.func17, Try.ntmps17
  go_wp2
  go_ret
  exact ⟨rfl, rfl⟩
set_option maxHeartbeats 1000000 in
theorem at_calls (r : Rdr 64 base w g bs p er) : Calls Try.prog 18 #[.pointer (some ⟨g, 0, none⟩)] w fun e w' => e = .returned (.int .i64 (p : Int)) ∧ w = w' := by
  have c1 := r.c1
  clear r
  go_enter Try.func18, Try.ntmps18
  go_wp2
  go_ret
  exact ⟨rfl, rfl⟩
/-- how many bytes are left -/
def leftM (bs : List Int) (p : Nat) (er : Int) : Int := if er = 0 then (bs.length : Int) - p else 0
theorem drawn_refl (w : World) : Drawn0 w w := Drawn0.refl w
set_option maxHeartbeats 1000000 in
theorem left_calls (r : Rdr 64 base w g bs p er) : Calls Try.prog 19 #[.pointer (some ⟨g, 0, none⟩)] w fun e w' => e = .returned (.int .i64 (leftM bs p er)) ∧ Drawn0 w w' := by
  have c2 := r.c2
  have c1 := r.c1
  have c1d : w.drew.cell? ⟨g, 1, none⟩ = some (.int .i64 (p : Int)) := c1
  obtain ⟨A, c, h1, h2, h3⟩ := r.blk
  have c0 : w.cell? ⟨g, 0, none⟩ = some (.slice A bs.length c) := (blk_cell h1 0).trans rfl
  have c0d : w.drew.cell? ⟨g, 0, none⟩ = some (.slice A bs.length c) := c0
  have hw : wrap64 ((bs.length : Int) - (p : Int)) = (bs.length : Int) - (p : Int) := by have := r.le; have := r.len; unfold wrap64; omega
  unfold leftM
  by_cases he : er = 0
  · subst he
    rw [if_pos rfl]
    have D := Aside0.mk (show Drawn0 w w.drew from ⟨1, rfl⟩)
    have L := Aside0.mk (And.intro r.le r.len)
    clear r h1 h2 h3
    go_enter Try.func19, Try.ntmps19
    go_wp2
    go_region
    all_goals (go_wp2; go_ret)
    all_goals first | exact ⟨rfl, D.out⟩ | exact ⟨by simp [hw], D.out⟩
  · rw [if_neg he]
    have b1 : (er != 0) = true := bne_iff_ne.mpr he
    clear r h1 h2 h3 he
    go_enter Try.func19, Try.ntmps19
    go_wp2
    go_ret
    exact ⟨rfl, Drawn0.refl w⟩
def failM (er x : Int) : Int := if er = 0 then (if x = 0 then 1 else x) else er
set_option maxHeartbeats 1000000 in
theorem fail_calls (r : Rdr 64 base w g bs p er) (x : Int) : Calls Try.prog 22 #[.pointer (some ⟨g, 0, none⟩), .int .i64 x] w fun e w' => e = .returned (.tuple #[]) ∧ Rdr 64 base w' g bs p (failM er x) ∧ Kp base w w' g := by
  have c2 := r.c2
  have f2 := r.fz 2
  have R := Aside0.mk r
  unfold failM
  clear r
  by_cases he : er = 0
  · subst he
    rw [if_pos rfl]
    by_cases hx : x = 0
    · subst hx
      rw [if_pos rfl]
      go_enter Try.func22, Try.ntmps22
      go_wp2
      go_end0
      exact ⟨rfl, R.out.set2 1, (Kp.refl base w g).set R.out.low 2 _⟩
    · have b1 : (x == 0) = false := beq_eq_false_iff_ne.mpr hx
      rw [if_neg hx]
      clear hx
      go_enter Try.func22, Try.ntmps22
      go_wp2
      go_end0
      exact ⟨rfl, R.out.set2 x, (Kp.refl base w g).set R.out.low 2 _⟩
  · have b2 : (er == 0) = false := beq_eq_false_iff_ne.mpr he
    rw [if_neg he]
    clear he
    by_cases hx : x = 0
    · subst hx
      go_enter Try.func22, Try.ntmps22
      go_wp2
      go_end0
      exact ⟨rfl, R.out, Kp.refl base w g⟩
    · have b1 : (x == 0) = false := beq_eq_false_iff_ne.mpr hx
      clear hx
      go_enter Try.func22, Try.ntmps22
      go_wp2
      go_end0
      exact ⟨rfl, R.out, Kp.refl base w g⟩
def endM (bs : List Int) (p : Nat) (er : Int) : Int := if er = 0 ∧ p < bs.length then 3 else er
theorem Kp.drawn {w' : World} (h : Drawn0 w w') (hs : base ≤ w.heap.size) (g : Nat) : Kp base w w' g := Kp.of_below h.below hs g
theorem Rdr.drawn {T : Nat} {w' : World} (r : Rdr T base w g bs p er) (h : Drawn0 w w') : Rdr T base w' g bs p er := r.below h.below
set_option maxHeartbeats 1000000 in
theorem end_calls (r : Rdr 64 base w g bs p er) : Calls Try.prog 16 #[.pointer (some ⟨g, 0, none⟩)] w fun e w' => e = .returned (.tuple #[]) ∧ Rdr 64 base w' g bs p (endM bs p er) ∧ Kp base w w' g := by
  have R := Aside0.mk r
  clear r
  by_cases he : er = 0 ∧ p < bs.length
  · have b1 : decide (0 < leftM bs p er) = true := decide_eq_true (by unfold leftM; rw [if_pos he.1]; omega)
    have e1 : endM bs p er = 3 := if_pos he
    have e2 : failM er 3 = 3 := by unfold failM; rw [if_pos he.1]; rfl
    rw [e1]
    have E := Aside0.mk e2
    clear he e1 e2
    go_enter Try.func16, Try.ntmps16
    go_wp2_with (first
      | (go_at_call 19; (with_reducible refine (left_calls R.out).mono ?_); rintro e w1 ⟨rfl, hd⟩; have D := Aside0.mk hd; have R1 := Aside0.mk (R.out.drawn hd); clear hd)
      | (go_at_call 22; (with_reducible refine (fail_calls R1.out 3).mono ?_); rintro e w2 ⟨rfl, h1, h2⟩; rw [E.out] at h1; have R2 := Aside0.mk h1; have K2 := Aside0.mk h2; clear h1 h2))
    go_end0
    exact ⟨rfl, R2.out, (Kp.drawn D.out R.out.size g).trans K2.out⟩
  · have b1 : decide (0 < leftM bs p er) = false := decide_eq_false (by unfold leftM; split <;> omega)
    have e1 : endM bs p er = er := if_neg he
    rw [e1]
    clear he e1
    go_enter Try.func16, Try.ntmps16
    go_wp2_with (first
      | (go_at_call 19; (with_reducible refine (left_calls R.out).mono ?_); rintro e w1 ⟨rfl, hd⟩; have D := Aside0.mk hd; have R1 := Aside0.mk (R.out.drawn hd); clear hd))
    go_end0
    exact ⟨rfl, R1.out, Kp.drawn D.out R.out.size g⟩
end

section
variable {base g : Nat} {w : World} {bs : List Int} {p : Nat} {er : Int}
def brk (e : Int) : List PanicEntry := [{ v := .iface 80 (.agg #[.int .i64 e]), recovered := false }]
set_option maxHeartbeats 2000000 in
set_option maxRecDepth 100000 in
theorem number_ok (r : Rdr 64 base w g bs p er) {n k : Int} (hq : getS (bs.drop p) 0 1 0 = (n, k, 0)) :
    Calls Try.prog 35 #[.pointer (some ⟨g, 0, none⟩)] w fun e w' => e = .returned (.int .u64 n) ∧ Rdr 64 base w' g bs (p + k.toNat) er ∧ Kp base w w' g := by
  obtain ⟨i0, hi, hzz⟩ := Option.map_eq_some_iff.1 info5
  simp only [Prod.mk.injEq] at hzz
  obtain ⟨A, c, h1, h2, h3⟩ := r.drew.blk
  obtain ⟨A2, hsl, hrd, hlc⟩ := print_drop_of (P := Try.prog) (Value.int .u8) (0 : Int) 26 5 .i64 Try.underlying26 hi hzz.2.1 A c bs (p : Int) (by omega) (by have := r.le; omega) h2
  simp only [Int.toNat_natCast] at hsl hrd hlc
  have hby : ∀ x ∈ bs.drop p, 0 ≤ x ∧ x < 256 := fun x hx => r.byte x (List.mem_of_mem_drop hx)
  have hLl : (bs.drop p).length = bs.length - p := List.length_drop
  obtain ⟨L, hL⟩ : ∃ L, bs.drop p = L := ⟨_, rfl⟩
  rw [hL] at hsl hrd hlc hby hLl hq
  have HLL := Aside0.mk hLl
  clear hL hLl
  have HC2 := Aside0.mk (show (Kd.int .u8).C w.drew A2 L.length L from Kd.C_of_reads (d := (0 : Int)) (hrd w.drew (Kd.reads_of_C (enc := Value.int .u8) (d := (0 : Int)) (h1 := fun _ => rfl) h3)))
  have Hc2 := Aside0.mk hlc
  have HBY := Aside0.mk hby
  clear hby
  have c0 : w.drew.cell? ⟨g, 0, none⟩ = some (.slice A bs.length c) := (blk_cell h1 0).trans rfl
  have c1 := r.drew.c1
  have HB1 := Aside0.mk h1
  have R := Aside0.mk r.drew
  have R0 := Aside0.mk r
  have hk := put_get0 HBY.out hq
  have hkl : k ≤ (L.length : Int) := hk.2.2.2.1
  have hpk : p + k.toNat ≤ bs.length := by have := HLL.out; have := r.le; have := hk.2.2.1; omega
  have hw : wrap64 ((p : Int) + k) = (p : Int) + k := by have := r.len; have := hk.2.2.1; unfold wrap64; omega
  have hkn : (p : Int) + k = ((p + k.toNat : Nat) : Int) := by have := hk.2.2.1; omega
  have HKN := Aside0.mk hkn
  have HPK := Aside0.mk hpk
  have HQ := Aside0.mk hq
  have K0 := Aside0.mk (And.intro r.le (And.intro r.len (And.intro hk.2.2.1 hkl)))
  clear r h1 h2 h3 hi hzz hrd hlc hk hkl hpk hq hkn
  go_enter Try.func35, Try.ntmps35
  go_wp2
  refine start_ (n := 17) (S := fun w' => w'.cell? ⟨g, 0, none⟩ = some (.slice A bs.length c) ∧ w'.cell? ⟨g, 1, none⟩ = some (.int .i64 (p : Int))) (ds := []) #[false, false, false, false, false, false, false, false, false, false, false, false, false, false, false, false, false] (by kernel_rfl) rfl rfl ⟨c0, c1⟩ (fun hHeld => ?_)
  refine pure_ (i := 0) (N := some 7) (v := ?_) (a' := ?_) #[true, false, false, false, false, false, false, false, false, false, false, false, false, false, false, false, false] rfl rfl (by kernel_rfl) (fun _ _ _ h => h) (Or.inl ⟨by rfl, ?_⟩) ?_ ?_
  rotate_left
  · intro w'
    go_simp
    with_reducible rfl
  rotate_left
  · simp only [Act.put, List.setIfInBounds_toArray, List.set_cons_zero, List.set_cons_succ, i64_w, i32_w]
    rfl
  refine pure_ (i := 1) (N := some 8) (v := ?_) (a' := ?_) #[true, true, false, false, false, false, false, false, false, false, false, false, false, false, false, false, false] rfl rfl (by kernel_rfl) (fun _ _ _ h => h) (Or.inl ⟨by rfl, ?_⟩) ?_ ?_
  rotate_left
  · intro w'
    go_simp
    with_reducible rfl
  rotate_left
  · simp only [Act.put, List.setIfInBounds_toArray, List.set_cons_zero, List.set_cons_succ, i64_w, i32_w]
    rfl
  refine pure_ (i := 2) (N := some 9) (v := ?_) (a' := ?_) #[true, true, true, false, false, false, false, false, false, false, false, false, false, false, false, false, false] rfl rfl (by kernel_rfl) (fun _ _ _ h => h) (Or.inl ⟨by rfl, ?_⟩) ?_ ?_
  rotate_left
  · intro w'
    go_simp
    with_reducible rfl
  rotate_left
  · simp only [Act.put, List.setIfInBounds_toArray, List.set_cons_zero, List.set_cons_succ, i64_w, i32_w]
    rfl
  refine pure_ (i := 4) (N := some 11) (v := ?_) (a' := ?_) #[true, true, true, false, true, false, false, false, false, false, false, false, false, false, false, false, false] rfl rfl (by kernel_rfl) (fun _ _ _ h => h) (Or.inl ⟨by rfl, ?_⟩) ?_ ?_
  rotate_left
  · intro w'
    go_simp
    with_reducible rfl
  rotate_left
  · simp only [Act.put, List.setIfInBounds_toArray, List.set_cons_zero, List.set_cons_succ, i64_w, i32_w]
    rfl
  refine pure_ (i := 5) (N := some 12) (v := ?_) (a' := ?_) #[true, true, true, false, true, true, false, false, false, false, false, false, false, false, false, false, false] rfl rfl (by kernel_rfl) (fun _ _ _ h => h) (Or.inl ⟨by rfl, ?_⟩) ?_ ?_
  rotate_left
  · intro w'
    go_simp
    with_reducible rfl
  rotate_left
  · simp only [Act.put, List.setIfInBounds_toArray, List.set_cons_zero, List.set_cons_succ, i64_w, i32_w]
    rfl
  refine pure_ (i := 6) (N := some 13) (v := ?_) (a' := ?_) #[true, true, true, false, true, true, true, false, false, false, false, false, false, false, false, false, false] rfl rfl (by kernel_rfl) (fun _ _ _ h => h) (Or.inl ⟨by rfl, ?_⟩) ?_ ?_
  rotate_left
  · intro w'
    go_simp
    with_reducible rfl
  rotate_left
  · simp only [Act.put, List.setIfInBounds_toArray, List.set_cons_zero, List.set_cons_succ, i64_w, i32_w]
    rfl
  refine take_ (i := 3) (N := some 10) (v := ?_) (a' := ?_) #[true, true, true, true, true, true, true, false, false, false, false, false, false, false, false, false, false] rfl rfl (by kernel_rfl) (fun _ _ _ h => h) (Or.inl ⟨by rfl, ?_⟩) hHeld ?_ ?_
  rotate_left
  · rintro w' ⟨s0, s1⟩
    go_simp
    with_reducible rfl
  rotate_left
  · simp only [Act.put, List.setIfInBounds_toArray, List.set_cons_zero, List.set_cons_succ, i64_w, i32_w]
    rfl
  refine take_ (i := 7) (N := some 14) (v := ?_) (a' := ?_) #[true, true, true, true, true, true, true, true, false, false, false, false, false, false, false, false, false] rfl rfl (by kernel_rfl) (fun _ _ _ h => h) (Or.inl ⟨by rfl, ?_⟩) hHeld ?_ ?_
  rotate_left
  · rintro w' ⟨s0, s1⟩
    go_simp
    with_reducible rfl
  rotate_left
  · simp only [Act.put, List.setIfInBounds_toArray, List.set_cons_zero, List.set_cons_succ, i64_w, i32_w]
    rfl
  refine pure_ (i := 8) (N := some 15) (v := ?_) (a' := ?_) #[true, true, true, true, true, true, true, true, true, false, false, false, false, false, false, false, false] rfl rfl (by kernel_rfl) (fun _ _ _ h => h) (Or.inl ⟨by rfl, ?_⟩) ?_ ?_
  rotate_left
  · intro w'
    go_simp
    with_reducible rfl
  rotate_left
  · simp only [Act.put, List.setIfInBounds_toArray, List.set_cons_zero, List.set_cons_succ, i64_w, i32_w]
    rfl
  refine one_ (i := 9) (N := some 16) #[true, true, true, true, true, true, true, true, true, true, false, false, false, false, false, false, false] rfl rfl (by kernel_rfl) (by decide) (fun K hK => ?_)
  refine goes_ Try.func60 (by kernel_rfl) rfl #[.slice A2 L.length (c - p)] (by rfl) rfl rfl (by simp only [List.map_toArray, List.map_cons, List.map_nil]; rfl) ?_
  with_reducible refine (get_calls HC2.out Hc2.out HBY.out).mono ?_
  rintro e w3 ⟨rfl, hd⟩
  refine ⟨_, rfl, ?_⟩
  have hd2 := hd
  have R3 := Aside0.mk (R.out.drawn hd)
  have D3 := Aside0.mk hd
  have q0 : w3.cell? ⟨g, 0, none⟩ = some (.slice A bs.length c) := (blk_cell (blk_below HB1.out hd.below) 0).trans rfl
  have q1 := R3.out.c1
  have qf := R3.out.fz 1
  clear hd hd2
  refine hK.out _ _ ⟨q0, q1⟩ (fun hHeld => ?_)
  clear hK K
  refine norm_ (a' := ?_) ?_ ?_
  rotate_left
  · show Act.put _ (some 16) _ = _
    simp only [Act.put, List.setIfInBounds_toArray, List.set_cons_zero, List.set_cons_succ, i64_w, i32_w]
    rfl
  refine pure_ (i := 10) (N := some 6) (v := ?_) (a' := ?_) #[true, true, true, true, true, true, true, true, true, true, true, false, false, false, false, false, false] rfl rfl (by kernel_rfl) (fun _ _ _ h => h) (Or.inl ⟨by rfl, ?_⟩) ?_ ?_
  rotate_left
  · intro w'
    go_simp
    with_reducible rfl
  rotate_left
  · simp only [Act.put, List.setIfInBounds_toArray, List.set_cons_zero, List.set_cons_succ, i64_w, i32_w]
    rfl
  refine pure_ (i := 11) (N := some 17) (v := ?_) (a' := ?_) #[true, true, true, true, true, true, true, true, true, true, true, true, false, false, false, false, false] rfl rfl (by kernel_rfl) (fun _ _ _ h => h) (Or.inl ⟨by rfl, ?_⟩) ?_ ?_
  rotate_left
  · intro w'
    go_simp
    with_reducible rfl
  rotate_left
  · simp only [Act.put, List.setIfInBounds_toArray, List.set_cons_zero, List.set_cons_succ, i64_w, i32_w]
    rfl
  refine pure_ (i := 12) (N := some 18) (v := ?_) (a' := ?_) #[true, true, true, true, true, true, true, true, true, true, true, true, true, false, false, false, false] rfl rfl (by kernel_rfl) (fun _ _ _ h => h) (Or.inl ⟨by rfl, ?_⟩) ?_ ?_
  rotate_left
  · intro w'
    go_simp
    with_reducible rfl
  rotate_left
  · simp only [Act.put, List.setIfInBounds_toArray, List.set_cons_zero, List.set_cons_succ, i64_w, i32_w]
    rfl
  refine pure_ (i := 13) (N := some 19) (v := ?_) (a' := ?_) #[true, true, true, true, true, true, true, true, true, true, true, true, true, true, false, false, false] rfl rfl (by kernel_rfl) (fun _ _ _ h => h) (Or.inl ⟨by rfl, ?_⟩) ?_ ?_
  rotate_left
  · intro w'
    go_simp
    with_reducible rfl
  rotate_left
  · simp only [Act.put, List.setIfInBounds_toArray, List.set_cons_zero, List.set_cons_succ, i64_w, i32_w]
    rfl
  refine pure_ (i := 14) (N := some 3) (v := ?_) (a' := ?_) #[true, true, true, true, true, true, true, true, true, true, true, true, true, true, true, false, false] rfl rfl (by kernel_rfl) (fun _ _ _ h => h) (Or.inl ⟨by rfl, ?_⟩) ?_ ?_
  rotate_left
  · intro w'
    go_simp
    with_reducible rfl
  rotate_left
  · simp only [Act.put, List.setIfInBounds_toArray, List.set_cons_zero, List.set_cons_succ, i64_w, i32_w]
    rfl
  refine pure_ (i := 15) (N := some 4) (v := ?_) (a' := ?_) #[true, true, true, true, true, true, true, true, true, true, true, true, true, true, true, true, false] rfl rfl (by kernel_rfl) (fun _ _ _ h => h) (Or.inl ⟨by rfl, ?_⟩) ?_ ?_
  rotate_left
  · intro w'
    go_simp
    with_reducible rfl
  rotate_left
  · simp only [Act.put, List.setIfInBounds_toArray, List.set_cons_zero, List.set_cons_succ, i64_w, i32_w]
    rfl
  refine pure_ (i := 16) (N := some 5) (v := ?_) (a' := ?_) #[true, true, true, true, true, true, true, true, true, true, true, true, true, true, true, true, true] rfl rfl (by kernel_rfl) (fun _ _ _ h => h) (Or.inl ⟨by rfl, ?_⟩) ?_ ?_
  rotate_left
  · intro w'
    go_simp
    with_reducible rfl
  rotate_left
  · simp only [Act.put, List.setIfInBounds_toArray, List.set_cons_zero, List.set_cons_succ, i64_w, i32_w]
    rfl
  refine done_ (by kernel_rfl) ?_

  rw [HQ.out]
  go_wp2
  go_ret
  rw [HKN.out]
  exact ⟨rfl, R3.out.set1 HPK.out, ((Kp.of_below (Below.refl _ _).drew R0.out.size g).trans (Kp.drawn D3.out R.out.size g)).set R.out.low 1 _⟩
set_option maxHeartbeats 2000000 in
set_option maxRecDepth 100000 in
theorem number_bad (r : Rdr 64 base w g bs p er) {n k x : Int} (hq : getS (bs.drop p) 0 1 0 = (n, k, x)) (hx : x ≠ 0) :
    Calls Try.prog 35 #[.pointer (some ⟨g, 0, none⟩)] w fun e w' => e = .panicked (brk x) ∧ Rdr 64 base w' g bs p er ∧ Kp base w w' g := by
  obtain ⟨i0, hi, hzz⟩ := Option.map_eq_some_iff.1 info5
  simp only [Prod.mk.injEq] at hzz
  obtain ⟨A, c, h1, h2, h3⟩ := r.drew.blk
  obtain ⟨A2, hsl, hrd, hlc⟩ := print_drop_of (P := Try.prog) (Value.int .u8) (0 : Int) 26 5 .i64 Try.underlying26 hi hzz.2.1 A c bs (p : Int) (by omega) (by have := r.le; omega) h2
  simp only [Int.toNat_natCast] at hsl hrd hlc
  have hby : ∀ x ∈ bs.drop p, 0 ≤ x ∧ x < 256 := fun x hx => r.byte x (List.mem_of_mem_drop hx)
  have hLl : (bs.drop p).length = bs.length - p := List.length_drop
  obtain ⟨L, hL⟩ : ∃ L, bs.drop p = L := ⟨_, rfl⟩
  rw [hL] at hsl hrd hlc hby hLl hq
  have HLL := Aside0.mk hLl
  clear hL hLl
  have HC2 := Aside0.mk (show (Kd.int .u8).C w.drew A2 L.length L from Kd.C_of_reads (d := (0 : Int)) (hrd w.drew (Kd.reads_of_C (enc := Value.int .u8) (d := (0 : Int)) (h1 := fun _ => rfl) h3)))
  have Hc2 := Aside0.mk hlc
  have HBY := Aside0.mk hby
  clear hby
  have c0 : w.drew.cell? ⟨g, 0, none⟩ = some (.slice A bs.length c) := (blk_cell h1 0).trans rfl
  have c1 := r.drew.c1
  have HB1 := Aside0.mk h1
  have R := Aside0.mk r.drew
  have R0 := Aside0.mk r
  have HQ := Aside0.mk hq
  have b1 : (x != 0) = true := bne_iff_ne.mpr hx
  clear r h1 h2 h3 hi hzz hrd hlc hq hx
  go_enter Try.func35, Try.ntmps35
  go_wp2
  refine start_ (n := 17) (S := fun w' => w'.cell? ⟨g, 0, none⟩ = some (.slice A bs.length c) ∧ w'.cell? ⟨g, 1, none⟩ = some (.int .i64 (p : Int))) (ds := []) #[false, false, false, false, false, false, false, false, false, false, false, false, false, false, false, false, false] (by kernel_rfl) rfl rfl ⟨c0, c1⟩ (fun hHeld => ?_)
  refine pure_ (i := 0) (N := some 7) (v := ?_) (a' := ?_) #[true, false, false, false, false, false, false, false, false, false, false, false, false, false, false, false, false] rfl rfl (by kernel_rfl) (fun _ _ _ h => h) (Or.inl ⟨by rfl, ?_⟩) ?_ ?_
  rotate_left
  · intro w'
    go_simp
    with_reducible rfl
  rotate_left
  · simp only [Act.put, List.setIfInBounds_toArray, List.set_cons_zero, List.set_cons_succ, i64_w, i32_w]
    rfl
  refine pure_ (i := 1) (N := some 8) (v := ?_) (a' := ?_) #[true, true, false, false, false, false, false, false, false, false, false, false, false, false, false, false, false] rfl rfl (by kernel_rfl) (fun _ _ _ h => h) (Or.inl ⟨by rfl, ?_⟩) ?_ ?_
  rotate_left
  · intro w'
    go_simp
    with_reducible rfl
  rotate_left
  · simp only [Act.put, List.setIfInBounds_toArray, List.set_cons_zero, List.set_cons_succ, i64_w, i32_w]
    rfl
  refine pure_ (i := 2) (N := some 9) (v := ?_) (a' := ?_) #[true, true, true, false, false, false, false, false, false, false, false, false, false, false, false, false, false] rfl rfl (by kernel_rfl) (fun _ _ _ h => h) (Or.inl ⟨by rfl, ?_⟩) ?_ ?_
  rotate_left
  · intro w'
    go_simp
    with_reducible rfl
  rotate_left
  · simp only [Act.put, List.setIfInBounds_toArray, List.set_cons_zero, List.set_cons_succ, i64_w, i32_w]
    rfl
  refine pure_ (i := 4) (N := some 11) (v := ?_) (a' := ?_) #[true, true, true, false, true, false, false, false, false, false, false, false, false, false, false, false, false] rfl rfl (by kernel_rfl) (fun _ _ _ h => h) (Or.inl ⟨by rfl, ?_⟩) ?_ ?_
  rotate_left
  · intro w'
    go_simp
    with_reducible rfl
  rotate_left
  · simp only [Act.put, List.setIfInBounds_toArray, List.set_cons_zero, List.set_cons_succ, i64_w, i32_w]
    rfl
  refine pure_ (i := 5) (N := some 12) (v := ?_) (a' := ?_) #[true, true, true, false, true, true, false, false, false, false, false, false, false, false, false, false, false] rfl rfl (by kernel_rfl) (fun _ _ _ h => h) (Or.inl ⟨by rfl, ?_⟩) ?_ ?_
  rotate_left
  · intro w'
    go_simp
    with_reducible rfl
  rotate_left
  · simp only [Act.put, List.setIfInBounds_toArray, List.set_cons_zero, List.set_cons_succ, i64_w, i32_w]
    rfl
  refine pure_ (i := 6) (N := some 13) (v := ?_) (a' := ?_) #[true, true, true, false, true, true, true, false, false, false, false, false, false, false, false, false, false] rfl rfl (by kernel_rfl) (fun _ _ _ h => h) (Or.inl ⟨by rfl, ?_⟩) ?_ ?_
  rotate_left
  · intro w'
    go_simp
    with_reducible rfl
  rotate_left
  · simp only [Act.put, List.setIfInBounds_toArray, List.set_cons_zero, List.set_cons_succ, i64_w, i32_w]
    rfl
  refine take_ (i := 3) (N := some 10) (v := ?_) (a' := ?_) #[true, true, true, true, true, true, true, false, false, false, false, false, false, false, false, false, false] rfl rfl (by kernel_rfl) (fun _ _ _ h => h) (Or.inl ⟨by rfl, ?_⟩) hHeld ?_ ?_
  rotate_left
  · rintro w' ⟨s0, s1⟩
    go_simp
    with_reducible rfl
  rotate_left
  · simp only [Act.put, List.setIfInBounds_toArray, List.set_cons_zero, List.set_cons_succ, i64_w, i32_w]
    rfl
  refine take_ (i := 7) (N := some 14) (v := ?_) (a' := ?_) #[true, true, true, true, true, true, true, true, false, false, false, false, false, false, false, false, false] rfl rfl (by kernel_rfl) (fun _ _ _ h => h) (Or.inl ⟨by rfl, ?_⟩) hHeld ?_ ?_
  rotate_left
  · rintro w' ⟨s0, s1⟩
    go_simp
    with_reducible rfl
  rotate_left
  · simp only [Act.put, List.setIfInBounds_toArray, List.set_cons_zero, List.set_cons_succ, i64_w, i32_w]
    rfl
  refine pure_ (i := 8) (N := some 15) (v := ?_) (a' := ?_) #[true, true, true, true, true, true, true, true, true, false, false, false, false, false, false, false, false] rfl rfl (by kernel_rfl) (fun _ _ _ h => h) (Or.inl ⟨by rfl, ?_⟩) ?_ ?_
  rotate_left
  · intro w'
    go_simp
    with_reducible rfl
  rotate_left
  · simp only [Act.put, List.setIfInBounds_toArray, List.set_cons_zero, List.set_cons_succ, i64_w, i32_w]
    rfl
  refine one_ (i := 9) (N := some 16) #[true, true, true, true, true, true, true, true, true, true, false, false, false, false, false, false, false] rfl rfl (by kernel_rfl) (by decide) (fun K hK => ?_)
  refine goes_ Try.func60 (by kernel_rfl) rfl #[.slice A2 L.length (c - p)] (by rfl) rfl rfl (by simp only [List.map_toArray, List.map_cons, List.map_nil]; rfl) ?_
  with_reducible refine (get_calls HC2.out Hc2.out HBY.out).mono ?_
  rintro e w3 ⟨rfl, hd⟩
  refine ⟨_, rfl, ?_⟩
  have hd2 := hd
  have R3 := Aside0.mk (R.out.drawn hd)
  have D3 := Aside0.mk hd
  have q0 : w3.cell? ⟨g, 0, none⟩ = some (.slice A bs.length c) := (blk_cell (blk_below HB1.out hd.below) 0).trans rfl
  have q1 := R3.out.c1
  have qf := R3.out.fz 1
  clear hd hd2
  refine hK.out _ _ ⟨q0, q1⟩ (fun hHeld => ?_)
  clear hK K
  refine norm_ (a' := ?_) ?_ ?_
  rotate_left
  · show Act.put _ (some 16) _ = _
    simp only [Act.put, List.setIfInBounds_toArray, List.set_cons_zero, List.set_cons_succ, i64_w, i32_w]
    rfl
  refine pure_ (i := 10) (N := some 6) (v := ?_) (a' := ?_) #[true, true, true, true, true, true, true, true, true, true, true, false, false, false, false, false, false] rfl rfl (by kernel_rfl) (fun _ _ _ h => h) (Or.inl ⟨by rfl, ?_⟩) ?_ ?_
  rotate_left
  · intro w'
    go_simp
    with_reducible rfl
  rotate_left
  · simp only [Act.put, List.setIfInBounds_toArray, List.set_cons_zero, List.set_cons_succ, i64_w, i32_w]
    rfl
  refine pure_ (i := 11) (N := some 17) (v := ?_) (a' := ?_) #[true, true, true, true, true, true, true, true, true, true, true, true, false, false, false, false, false] rfl rfl (by kernel_rfl) (fun _ _ _ h => h) (Or.inl ⟨by rfl, ?_⟩) ?_ ?_
  rotate_left
  · intro w'
    go_simp
    with_reducible rfl
  rotate_left
  · simp only [Act.put, List.setIfInBounds_toArray, List.set_cons_zero, List.set_cons_succ, i64_w, i32_w]
    rfl
  refine pure_ (i := 12) (N := some 18) (v := ?_) (a' := ?_) #[true, true, true, true, true, true, true, true, true, true, true, true, true, false, false, false, false] rfl rfl (by kernel_rfl) (fun _ _ _ h => h) (Or.inl ⟨by rfl, ?_⟩) ?_ ?_
  rotate_left
  · intro w'
    go_simp
    with_reducible rfl
  rotate_left
  · simp only [Act.put, List.setIfInBounds_toArray, List.set_cons_zero, List.set_cons_succ, i64_w, i32_w]
    rfl
  refine pure_ (i := 13) (N := some 19) (v := ?_) (a' := ?_) #[true, true, true, true, true, true, true, true, true, true, true, true, true, true, false, false, false] rfl rfl (by kernel_rfl) (fun _ _ _ h => h) (Or.inl ⟨by rfl, ?_⟩) ?_ ?_
  rotate_left
  · intro w'
    go_simp
    with_reducible rfl
  rotate_left
  · simp only [Act.put, List.setIfInBounds_toArray, List.set_cons_zero, List.set_cons_succ, i64_w, i32_w]
    rfl
  refine pure_ (i := 14) (N := some 3) (v := ?_) (a' := ?_) #[true, true, true, true, true, true, true, true, true, true, true, true, true, true, true, false, false] rfl rfl (by kernel_rfl) (fun _ _ _ h => h) (Or.inl ⟨by rfl, ?_⟩) ?_ ?_
  rotate_left
  · intro w'
    go_simp
    with_reducible rfl
  rotate_left
  · simp only [Act.put, List.setIfInBounds_toArray, List.set_cons_zero, List.set_cons_succ, i64_w, i32_w]
    rfl
  refine pure_ (i := 15) (N := some 4) (v := ?_) (a' := ?_) #[true, true, true, true, true, true, true, true, true, true, true, true, true, true, true, true, false] rfl rfl (by kernel_rfl) (fun _ _ _ h => h) (Or.inl ⟨by rfl, ?_⟩) ?_ ?_
  rotate_left
  · intro w'
    go_simp
    with_reducible rfl
  rotate_left
  · simp only [Act.put, List.setIfInBounds_toArray, List.set_cons_zero, List.set_cons_succ, i64_w, i32_w]
    rfl
  refine pure_ (i := 16) (N := some 5) (v := ?_) (a' := ?_) #[true, true, true, true, true, true, true, true, true, true, true, true, true, true, true, true, true] rfl rfl (by kernel_rfl) (fun _ _ _ h => h) (Or.inl ⟨by rfl, ?_⟩) ?_ ?_
  rotate_left
  · intro w'
    go_simp
    with_reducible rfl
  rotate_left
  · simp only [Act.put, List.setIfInBounds_toArray, List.set_cons_zero, List.set_cons_succ, i64_w, i32_w]
    rfl
  refine done_ (by kernel_rfl) ?_

  rw [HQ.out]
  go_wp2
  exact ⟨rfl, rfl, R3.out, (Kp.of_below (Below.refl _ _).drew R0.out.size g).trans (Kp.drawn D3.out R.out.size g)⟩
set_option maxHeartbeats 1000000 in
theorem signed_ok (r : Rdr 64 base w g bs p er) {n k : Int} (hq : getS (bs.drop p) 0 1 0 = (n, k, 0)) :
    Calls Try.prog 37 #[.pointer (some ⟨g, 0, none⟩)] w fun e w' => e = .returned (.int .i64 (zagS n)) ∧ Rdr 64 base w' g bs (p + k.toNat) er ∧ Kp base w w' g := by
  have hk := put_get0 (fun x hx => r.byte x (List.mem_of_mem_drop hx)) hq
  have HN := Aside0.mk (And.intro hk.1 hk.2.1)
  have R := Aside0.mk r
  have HQ := Aside0.mk hq
  clear r hq hk
  go_enter Try.func37, Try.ntmps37
  go_wp2_with (first
    | (go_at_call 35; (with_reducible refine (number_ok R.out HQ.out).mono ?_); rintro e w1 ⟨rfl, h1, h2⟩; have R1 := Aside0.mk h1; have K1 := Aside0.mk h2; clear h1 h2)
    | (go_at_call 62; (with_reducible refine (zag_calls n _ HN.out).mono ?_); rintro e w2 ⟨rfl, h1⟩; have R2 := Aside0.mk (R1.out.drawn h1); have K2 := Aside0.mk (K1.out.trans (Kp.drawn h1 R1.out.size g)); clear h1))
  go_ret
  exact ⟨rfl, R2.out, K2.out⟩
set_option maxHeartbeats 1000000 in
theorem signed_bad (r : Rdr 64 base w g bs p er) {n k x : Int} (hq : getS (bs.drop p) 0 1 0 = (n, k, x)) (hx : x ≠ 0) :
    Calls Try.prog 37 #[.pointer (some ⟨g, 0, none⟩)] w fun e w' => e = .panicked (brk x) ∧ Rdr 64 base w' g bs p er ∧ Kp base w w' g := by
  have R := Aside0.mk r
  have HQ := Aside0.mk hq
  have HX := Aside0.mk hx
  clear r hq hx
  go_enter Try.func37, Try.ntmps37
  go_wp2_with (first
    | (go_at_call 35; (with_reducible refine (number_bad R.out HQ.out HX.out).mono ?_); rintro e w1 ⟨rfl, h1, h2⟩; have R1 := Aside0.mk h1; have K1 := Aside0.mk h2; clear h1 h2))
  exact ⟨rfl, rfl, R1.out, K1.out⟩
set_option maxHeartbeats 1000000 in
theorem upto_bad (r : Rdr 64 base w g bs p er) {n k x : Int} (hq : getS (bs.drop p) 0 1 0 = (n, k, x)) (hx : x ≠ 0) (most : Int) :
    Calls Try.prog 45 #[.pointer (some ⟨g, 0, none⟩), .int .i64 most] w fun e w' => e = .panicked (brk x) ∧ Rdr 64 base w' g bs p er ∧ Kp base w w' g := by
  have R := Aside0.mk r
  have HQ := Aside0.mk hq
  have HX := Aside0.mk hx
  clear r hq hx
  go_enter Try.func45, Try.ntmps45
  go_wp2_with (first
    | (go_at_call 35; (with_reducible refine (number_bad R.out HQ.out HX.out).mono ?_); rintro e w1 ⟨rfl, h1, h2⟩; have R1 := Aside0.mk h1; have K1 := Aside0.mk h2; clear h1 h2))
  exact ⟨rfl, rfl, R1.out, K1.out⟩
set_option maxHeartbeats 1000000 in
theorem upto_long (r : Rdr 64 base w g bs p er) {n k : Int} (hq : getS (bs.drop p) 0 1 0 = (n, k, 0)) (most : Int) (hm : most < 9223372036854775808) (hn : most < 0 ∨ most < n) :
    Calls Try.prog 45 #[.pointer (some ⟨g, 0, none⟩), .int .i64 most] w fun e w' => e = .panicked (brk 3) ∧ Rdr 64 base w' g bs (p + k.toNat) er ∧ Kp base w w' g := by
  have hk := put_get0 (fun x hx => r.byte x (List.mem_of_mem_drop hx)) hq
  have R := Aside0.mk r
  have HQ := Aside0.mk hq
  by_cases h0 : most < 0
  · have b1 : decide (most < 0) = true := decide_eq_true h0
    clear r hq hk hn h0 hm
    go_enter Try.func45, Try.ntmps45
    go_wp2_with (first
      | (go_at_call 35; (with_reducible refine (number_ok R.out HQ.out).mono ?_); rintro e w1 ⟨rfl, h1, h2⟩; have R1 := Aside0.mk h1; have K1 := Aside0.mk h2; clear h1 h2))
    exact ⟨rfl, rfl, R1.out, K1.out⟩
  · have b1 : decide (most < 0) = false := decide_eq_false h0
    have hw : IntKind.u64.wrap most = most := by rw [IntKind.wrap_u64]; omega
    have b2 : decide (most < n) = true := decide_eq_true (by omega)
    have b3 : decide (most % 18446744073709551616 < n) = true := decide_eq_true (by omega)
    clear r hq hk hn h0 hm
    go_enter Try.func45, Try.ntmps45
    go_wp2_with (first
      | (go_at_call 35; (with_reducible refine (number_ok R.out HQ.out).mono ?_); rintro e w1 ⟨rfl, h1, h2⟩; have R1 := Aside0.mk h1; have K1 := Aside0.mk h2; clear h1 h2))
    exact ⟨rfl, rfl, R1.out, K1.out⟩
set_option maxHeartbeats 1000000 in
theorem upto_ok (r : Rdr 64 base w g bs p er) {n k : Int} (hq : getS (bs.drop p) 0 1 0 = (n, k, 0)) (most : Int) (hm : most < 9223372036854775808) (hn : 0 ≤ most ∧ n ≤ most) :
    Calls Try.prog 45 #[.pointer (some ⟨g, 0, none⟩), .int .i64 most] w fun e w' => e = .returned (.int .i64 n) ∧ Rdr 64 base w' g bs (p + k.toNat) er ∧ Kp base w w' g := by
  have hk := put_get0 (fun x hx => r.byte x (List.mem_of_mem_drop hx)) hq
  have R := Aside0.mk r
  have HQ := Aside0.mk hq
  have b1 : decide (most < 0) = false := decide_eq_false (by omega)
  have hw : IntKind.u64.wrap most = most := by rw [IntKind.wrap_u64]; omega
  have b2 : decide (most < n) = false := decide_eq_false (by omega)
  have b3 : decide (most % 18446744073709551616 < n) = false := decide_eq_false (by omega)
  have hw2 : wrap64 n = n := by have := hk.1; unfold wrap64; omega
  have HNN := Aside0.mk (And.intro hk.1 (And.intro hm hn))
  have hn0 := hk.1
  clear r hq hk
  go_enter Try.func45, Try.ntmps45
  go_wp2_with (first
    | (go_at_call 35; (with_reducible refine (number_ok R.out HQ.out).mono ?_); rintro e w1 ⟨rfl, h1, h2⟩; have R1 := Aside0.mk h1; have K1 := Aside0.mk h2; clear h1 h2))
  go_ret
  exact ⟨by first | rfl | simp [hw2], R1.out, K1.out⟩
end

section
variable {base g : Nat} {w : World} {bs : List Int} {p : Nat} {er : Int}
set_option maxHeartbeats 1000000 in
theorem take_bad (r : Rdr 64 base w g bs p er) (n : Int) (hn : (bs.length : Int) - p < n) :
    Calls Try.prog 40 #[.pointer (some ⟨g, 0, none⟩), .int .i64 n] w fun e w' => e = .panicked (brk 10) ∧ Rdr 64 base w' g bs p er ∧ Kp base w w' g := by
  obtain ⟨A, c, h1, h2, h3⟩ := r.blk
  have c0 : w.cell? ⟨g, 0, none⟩ = some (.slice A bs.length c) := (blk_cell h1 0).trans rfl
  have c0d : w.drew.cell? ⟨g, 0, none⟩ = some (.slice A bs.length c) := c0
  have c1 := r.c1
  have c1d : w.drew.cell? ⟨g, 1, none⟩ = some (.int .i64 (p : Int)) := c1
  have hw : wrap64 ((bs.length : Int) - (p : Int)) = (bs.length : Int) - (p : Int) := by have := r.le; have := r.len; unfold wrap64; omega
  have b1 : decide ((bs.length : Int) - (p : Int) < n) = true := decide_eq_true hn
  have R := Aside0.mk r
  have L := Aside0.mk (And.intro r.le r.len)
  clear r h1 h2 h3 hn
  go_enter Try.func40, Try.ntmps40
  go_wp2
  go_region
  all_goals go_wp2
  all_goals exact ⟨rfl, rfl, R.out.drew, Kp.of_below (Below.refl _ _).drew R.out.size g⟩
theorem w64 {x : Int} (h : -9223372036854775808 ≤ x ∧ x < 9223372036854775808) : wrap64 x = x := by unfold wrap64; omega
theorem midlen (bs : List Int) (p n : Nat) (h : p + n ≤ bs.length) : ((bs.take (p + n)).drop p).length = n := by rw [List.length_drop, List.length_take]; omega
set_option maxHeartbeats 2000000 in
theorem take_ok (r : Rdr 64 base w g bs p er) (n : Nat) (hn : p + n ≤ bs.length) :
    Calls Try.prog 40 #[.pointer (some ⟨g, 0, none⟩), .int .i64 (n : Int)] w fun e w' => (∃ A2 c2, e = .returned (.slice A2 n c2) ∧ n ≤ c2 ∧ (Kd.int .u8).C w' A2 ((bs.take (p + n)).drop p).length ((bs.take (p + n)).drop p)) ∧ Rdr 64 base w' g bs (p + n) er ∧ Kp base w w' g := by
  have hb1 := r.le
  have hb2 := r.len
  have hw := w64 (x := (bs.length : Int) - (p : Int)) (by omega)
  have hw2 := w64 (x := (p : Int) + (n : Int)) (by omega)
  have hw5 := w64 (x := (p : Int)) (by omega)
  have HW := Aside0.mk (And.intro hw (And.intro hw2 hw5))
  clear hw hw2 hw5
  obtain ⟨i0, hi, hzz⟩ := Option.map_eq_some_iff.1 info5
  simp only [Prod.mk.injEq] at hzz
  obtain ⟨A, c, h1, h2, h3⟩ := r.blk
  obtain ⟨A2, hsl, hrd, hlc⟩ := print_mid_int (P := Try.prog) (k := .u8) 26 5 Try.underlying26 hi hzz.2.1 A c bs (p : Int) ((p : Int) + (n : Int)) (by omega) (by omega) (by omega) h2
  have e1 : ((p : Int) + (n : Int)).toNat = p + n := by omega
  simp only [Int.toNat_natCast, e1] at hsl hrd hlc
  have hml := midlen bs p n hn
  rw [hml] at hlc
  simp only [hml] at hsl
  have c0 : w.cell? ⟨g, 0, none⟩ = some (.slice A bs.length c) := (blk_cell h1 0).trans rfl
  have c0d : w.drew.cell? ⟨g, 0, none⟩ = some (.slice A bs.length c) := c0
  have c1 := r.c1
  have c1d : w.drew.cell? ⟨g, 1, none⟩ = some (.int .i64 (p : Int)) := c1
  have f1 := r.fz 1
  have b1 : decide ((bs.length : Int) - (p : Int) < (n : Int)) = false := decide_eq_false (by omega)
  have hw4 : (p : Int) + (n : Int) - (n : Int) = (p : Int) := by omega
  have R := Aside0.mk r
  have R2 := Aside0.mk (r.drew.set1 (p' := p + n) hn)
  have cs0 : (w.drew.setCell ⟨g, 1, none⟩ (.int .i64 ((p : Int) + (n : Int)))).cell? ⟨g, 0, none⟩ = some (.slice A bs.length c) := (blk_cell (blk_set (blk_below h1 (Below.refl _ _).drew) 1 (.int .i64 ((p : Int) + (n : Int)))) 0).trans rfl
  have cs0d : ((w.setCell ⟨g, 1, none⟩ (.int .i64 ((p : Int) + (n : Int)))).drew).cell? ⟨g, 0, none⟩ = some (.slice A bs.length c) := cs0
  have cs1d : ((w.setCell ⟨g, 1, none⟩ (.int .i64 ((p : Int) + (n : Int)))).drew).cell? ⟨g, 1, none⟩ = some (.int .i64 ((p : Int) + (n : Int))) := R2.out.c1
  have HML := Aside0.mk hml
  have HLC := Aside0.mk hlc
  have HN := Aside0.mk hn
  have HH := Aside0.mk h1
  have HC := Aside0.mk (show (Kd.int .u8).C w A2 ((bs.take (p + n)).drop p).length ((bs.take (p + n)).drop p) by have h_ := Kd.C_of_reads (d := (0 : Int)) (h1 := fun _ => rfl) (hrd w (Kd.reads_of_C (enc := Value.int .u8) (d := (0 : Int)) (h1 := fun _ => rfl) h3)); exact h_)
  have L := Aside0.mk (And.intro r.le r.len)
  clear r h1 h2 h3 hi hzz hrd hlc hml e1 hn hb1 hb2
  have hw := HW.out.1
  have hw2 := HW.out.2.1
  have hw5 := HW.out.2.2
  go_enter Try.func40, Try.ntmps40
  go_wp2
  go_region
  go_wp2
  go_region
  all_goals go_wp2
  all_goals go_ret
  all_goals exact ⟨⟨A2, _, rfl, HLC.out, Kd.C_drew (Kd.C_drew (C_move HC.out fun a q hc => Below.heap_setCell w ⟨g, 1, none⟩ _ _ (Rd.far HH.out hc)))⟩, R2.out.drew, (((Kp.refl base w g).set R.out.low 1 _).trans (Kp.of_below (Below.refl _ _).drew.drew (by simpa using R.out.size) g))⟩
end
end Go.Proofs.Ytjanjpchdjagjaa.Rd
