/- A reader: what is told of it, and the walks of its inner methods. -/
import Derived.Test.YtnohflfpahokiaaPen
import Derived.Test.YtnohflfpahokiaaLeb
import Derived.Test.YtnohflfpahokiaaWLast
import Derived.WalkSmall
import Derived.Laws.BitsAllLaws
set_option linter.unusedVariables false
set_option linter.unusedSimpArgs false
namespace Go.Proofs.Ytnohflfpahokiaa.Rd
open Go Go.RowKit Go.Proofs.YtnohflfpahokiaaW.PrintWords Go.Proofs.YtnohflfpahokiaaW.PrintLast Go.Proofs.Ytnohflfpahokiaa.LebM Go.Proofs.Ytnohflfpahokiaa.Leb

theorem info5 : (Try.prog.info? 5).map (fun i => (i.zero, i.size, i.bytes)) = some (some (.int .u8 0), 1, 1) := by kernel_rfl
/-- a reader of bytes bs at block g: its place, its error -/
structure Rdr (T base : Nat) (w : World) (g : Nat) (bs : List Int) (p : Nat) (e : Int) : Prop where
  blk : ∃ A c, w.heap[g]? = some (.cells #[.slice A bs.length c, .int .i64 (p : Int), .int .i64 e] T (0, 0)) ∧ bs.length ≤ c ∧ (Kd.int .u8).C w A bs.length bs
  low : base ≤ g
  size : base ≤ w.heap.size
  le : p ≤ bs.length
  len : bs.length ≤ 140737488355328
  byte : ∀ x ∈ bs, 0 ≤ x ∧ x < 256
/-- what a call of a reader at g leaves as it was -/
def Fld (w w' : World) (g : Nat) : Prop := g < w.heap.size → w'.cell? ⟨g, 0, none⟩ = w.cell? ⟨g, 0, none⟩
theorem Fld.of_below {w w' : World} (h : Below w.heap.size w w') (g : Nat) : Fld w w' g := fun hg => h.cell hg
theorem Fld.trans {w w1 w2 : World} {g : Nat} (h : Fld w w1 g) (hs : w.heap.size ≤ w1.heap.size) (k : Fld w1 w2 g) : Fld w w2 g := fun hg => (k (Nat.lt_of_lt_of_le hg hs)).trans (h hg)
theorem Fld.set_ {w w1 : World} {g : Nat} (h : Fld w w1 g) {b i : Nat} (hi : b ≠ g ∨ i ≠ 0) (u : Value) : Fld w (w1.setCell ⟨b, i, none⟩ u) g := fun hg => (World.cell?_setCell_other w1 ⟨b, i, none⟩ ⟨g, 0, none⟩ u (fun e => by injection e with e1 e2; rcases hi with hi | hi <;> omega)).trans (h hg)
structure Kp (base : Nat) (w w' : World) (g : Nat) : Prop where
  fst : KeepBut w w' g none
  snd : Below base w w'
  fld : Fld w w' g
theorem Kp.refl (base : Nat) (w : World) (g : Nat) : Kp base w w g := ⟨KeepBut.refl w g none, Below.refl _ _, fun _ => rfl⟩
theorem Kp.trans {base : Nat} {w w1 w2 : World} {g : Nat} (h : Kp base w w1 g) (k : Kp base w1 w2 g) : Kp base w w2 g := ⟨h.1.trans k.1 (.inl rfl), h.2.trans k.2, h.fld.trans h.1.1 k.fld⟩
theorem Kp.of_below {base : Nat} {w w1 : World} (h : Below w.heap.size w w1) (hs : base ≤ w.heap.size) (g : Nat) : Kp base w w1 g := ⟨KeepBut.of_below h g none, h.mono hs, Fld.of_below h g⟩
theorem Kp.set {base : Nat} {w w1 : World} {g : Nat} (h : Kp base w w1 g) (hg : base ≤ g) (i : Nat) (u : Value) (hi : i ≠ 0 := by decide) : Kp base w (w1.setCell ⟨g, i, none⟩ u) g := ⟨h.1.set_ i u, h.2.setCell hg _, h.fld.set_ (.inr hi) u⟩
theorem Kp.row {base : Nat} {w w1 : World} {g : Nat} (k : Kp base w w1 g) (hg : g < w.heap.size) {u : Value} (h : w.cell? ⟨g, 0, none⟩ = some u) : w1.cell? ⟨g, 0, none⟩ = some u := (k.fld hg).trans h
/-- a byte is no reader's field -/
theorem far {w : World} {g T : Nat} {A : Option Addr} {n c : Nat} {p e q : Int} (hb : w.heap[g]? = some (.cells #[.slice A n c, .int .i64 p, .int .i64 e] T (0, 0))) {a : Addr} (hc : w.cell? a = some (.int .u8 q)) : a.block ≠ g := by
  intro he
  unfold World.cell? at hc
  rw [he, hb] at hc
  simp only at hc
  split at hc
  · cases hc
  · match ho : a.off with
    | 0 => rw [ho] at hc; simp at hc
    | 1 => rw [ho] at hc; simp at hc
    | 2 => rw [ho] at hc; simp at hc
    | n + 3 => rw [ho] at hc; simp at hc
theorem C_cells {w : World} {A : Option Addr} {ys : List Int} (hC : (Kd.int .u8).C w A ys.length ys) : ∀ ad, A = some ad → ∀ j u, (nums .u8 ys)[j]? = some u → w.cell? (ad.add j) = some u := by
  intro ad hA j u hj
  obtain ⟨hl, hu⟩ := List.getElem?_eq_some_iff.1 hj
  rw [nums_length] at hl
  obtain ⟨ad', hA', hc⟩ := hC.2.2 (by omega)
  rw [hA] at hA'
  obtain rfl := Option.some.inj hA'
  obtain ⟨cs, hlen, hk, hcell⟩ := hc j ys[j] (List.getElem?_eq_getElem hl)
  have hk' : cs = [Value.int .u8 ys[j]] := hk
  subst hk'
  have := hcell 0 (Value.int .u8 ys[j]) rfl
  have hsz : (Kd.int .u8).sz = 1 := rfl
  rw [hsz, Nat.mul_one, Nat.add_zero] at this
  rw [this, ← hu]
  simp [nums]
/-- a row of bytes is read as before where its blocks are as before -/
theorem C_move {w w1 : World} {A : Option Addr} {ys : List Int} (hC : (Kd.int .u8).C w A ys.length ys) (hm : ∀ (a : Addr) (q : Int), w.cell? a = some (.int .u8 q) → w1.heap[a.block]? = w.heap[a.block]?) : (Kd.int .u8).C w1 A ys.length ys := by
  have hcells := C_cells hC
  refine ⟨rfl, hC.2.1, fun h0 => ?_⟩
  obtain ⟨ad, hA, _⟩ := hC.2.2 h0
  refine ⟨ad, hA, fun j q hj => ⟨[Value.int .u8 q], rfl, rfl, fun i u hu => ?_⟩⟩
  obtain ⟨hi, hu⟩ := List.getElem?_eq_some_iff.1 hu
  have hi0 : i = 0 := by simpa using hi
  subst hi0
  have hu' : Value.int .u8 q = u := by simpa using hu
  subst hu'
  have hsz : (Kd.int .u8).sz = 1 := rfl
  rw [hsz, Nat.mul_one, Nat.add_zero]
  have hcell := hcells ad hA j (.int .u8 q) (by simp [nums, hj])
  have := hm (ad.add j) q hcell
  simpa [World.cell?, this] using hcell
section
variable {T base g : Nat} {w w' : World} {bs : List Int} {p p' : Nat} {e e' : Int}
theorem Rdr.below (r : Rdr T base w g bs p e) (hb : Below w.heap.size w w') : Rdr T base w' g bs p e := by
  obtain ⟨A, c, h1, h2, h3⟩ := r.blk
  exact ⟨⟨A, c, blk_below h1 hb, h2, Kd.C_below h3 hb⟩, r.low, Nat.le_trans r.size hb.size, r.le, r.len, r.byte⟩
theorem Rdr.drew (r : Rdr T base w g bs p e) : Rdr T base w.drew g bs p e := r.below (Below.refl _ _).drew
/-- another block is written: this reader stays -/
theorem Rdr.keep {h : Nat} (r : Rdr T base w g bs p e) (hk : KeepBut w w' h none) (hn : g ≠ h) (hf : ∀ (a : Addr) (q : Int), w.cell? a = some (.int .u8 q) → a.block ≠ h) : Rdr T base w' g bs p e := by
  obtain ⟨A, c, h1, h2, h3⟩ := r.blk
  exact ⟨⟨A, c, (hk.2 g (blk_lt h1) hn (by simp)).trans h1, h2, C_move h3 fun a q hc => hk.2 _ (World.block_lt_of_cell? w _ hc) (hf a q hc) (by simp)⟩, r.low, Nat.le_trans r.size hk.1, r.le, r.len, r.byte⟩
theorem Rdr.far (r : Rdr T base w g bs p e) {a : Addr} {q : Int} (hc : w.cell? a = some (.int .u8 q)) : a.block ≠ g := by
  obtain ⟨A, c, h1, _⟩ := r.blk
  exact Rd.far h1 hc
theorem Rdr.fz (r : Rdr T base w g bs p e) (i : Nat) : w.frozen? ⟨g, i, none⟩ = false := by
  obtain ⟨A, c, h1, _⟩ := r.blk
  exact blk_frozen h1 i
theorem Rdr.c1 (r : Rdr T base w g bs p e) : w.cell? ⟨g, 1, none⟩ = some (.int .i64 (p : Int)) := by
  obtain ⟨A, c, h1, _⟩ := r.blk
  exact (blk_cell h1 1).trans rfl
theorem Rdr.c2 (r : Rdr T base w g bs p e) : w.cell? ⟨g, 2, none⟩ = some (.int .i64 e) := by
  obtain ⟨A, c, h1, _⟩ := r.blk
  exact (blk_cell h1 2).trans rfl
/-- one field is written -/
theorem Rdr.set1 (r : Rdr T base w g bs p e) (hp : p' ≤ bs.length) : Rdr T base (w.setCell ⟨g, 1, none⟩ (.int .i64 (p' : Int))) g bs p' e := by
  obtain ⟨A, c, h1, h2, h3⟩ := r.blk
  exact ⟨⟨A, c, blk_set h1 1 _, h2, C_move h3 fun a q hc => Below.heap_setCell w ⟨g, 1, none⟩ _ _ (Rd.far h1 hc)⟩, r.low, by simpa using r.size, hp, r.len, r.byte⟩
theorem Rdr.set2 (r : Rdr T base w g bs p e) (e' : Int) : Rdr T base (w.setCell ⟨g, 2, none⟩ (.int .i64 e')) g bs p e' := by
  obtain ⟨A, c, h1, h2, h3⟩ := r.blk
  exact ⟨⟨A, c, blk_set h1 2 _, h2, C_move h3 fun a q hc => Below.heap_setCell w ⟨g, 2, none⟩ _ _ (Rd.far h1 hc)⟩, r.low, by simpa using r.size, r.le, r.len, r.byte⟩
end

set_option maxHeartbeats 1000000 in
theorem from_calls {w : World} {bs : List Int} {A : Option Addr} {c : Nat} (hC : (Kd.int .u8).C w A bs.length bs) (hc : bs.length ≤ c) (hl : bs.length ≤ 140737488355328) (hb : ∀ x ∈ bs, 0 ≤ x ∧ x < 256) (base : Nat) (hB : base ≤ w.heap.size) :
    Calls Try.prog 26 #[.slice A bs.length c] w fun e w' => ∃ g, e = .returned (.pointer (some ⟨g, 0, none⟩)) ∧ Rdr 76 base w' g bs 0 0 ∧ Below w.heap.size w w' ∧ w.heap.size ≤ g := by
  have HC := Aside0.mk hC
  have Hc := Aside0.mk hc
  have HL := Aside0.mk hl
  have HB := Aside0.mk hb
  have HBB := Aside0.mk hB
  clear hC hc hl hb hB
  go_enter Try.func26, Try.ntmps26
  go_wp2_with (go_at_call 37; (with_reducible refine (Pen.clone_calls HC.out Hc.out HL.out).mono ?_); rintro e w1 ⟨u, rfl, hr, hb⟩; obtain ⟨A1, c1, rfl, hc1, hC1⟩ := Kd.R_reads hr; have H1 := Aside0.mk hC1; have H2 := Aside0.mk hb; have H3 := Aside0.mk hc1; clear hr hb hC1 hc1)
  go_ret
  exact ⟨_, rfl, ⟨⟨A1, c1, blk_new w1 _, H3.out, Kd.C_below H1.out (below_alloc (Below.refl _ _) _)⟩, Nat.le_trans HBB.out H2.out.size, by simp; have := H2.out.size; have := HBB.out; omega, Nat.zero_le _, HL.out, HB.out⟩, below_alloc H2.out _, H2.out.size⟩
section
variable {base g : Nat} {w : World} {bs : List Int} {p : Nat} {er : Int}
set_option maxHeartbeats 1000000 in
theorem err_calls (r : Rdr 76 base w g bs p er) : Calls Try.prog 54 #[.pointer (some ⟨g, 0, none⟩)] w fun e w' => e = .returned (.int .i64 er) ∧ w = w' := by
  have c2 := r.c2
  clear r
  go_enter Try.func54, Try.ntmps54
  go_wp2
  go_ret
  exact ⟨rfl, rfl⟩
set_option maxHeartbeats 1000000 in
theorem at_calls (r : Rdr 76 base w g bs p er) : Calls Try.prog 28 #[.pointer (some ⟨g, 0, none⟩)] w fun e w' => e = .returned (.int .i64 (p : Int)) ∧ w = w' := by
  have c1 := r.c1
  clear r
  go_enter Try.func28, Try.ntmps28
  go_wp2
  go_ret
  exact ⟨rfl, rfl⟩
/-- how many bytes are left -/
def leftM (bs : List Int) (p : Nat) (er : Int) : Int := if er = 0 then (bs.length : Int) - p else 0
theorem drawn_refl (w : World) : Drawn0 w w := Drawn0.refl w
set_option maxHeartbeats 1000000 in
theorem left_calls (r : Rdr 76 base w g bs p er) : Calls Try.prog 27 #[.pointer (some ⟨g, 0, none⟩)] w fun e w' => e = .returned (.int .i64 (leftM bs p er)) ∧ Drawn0 w w' := by
  have c2 := r.c2
  have c1 := r.c1
  have c1d : w.drew.cell? ⟨g, 1, none⟩ = some (.int .i64 (p : Int)) := c1
  obtain ⟨A, c, h1, h2, h3⟩ := r.blk
  have c0 : w.cell? ⟨g, 0, none⟩ = some (.slice A bs.length c) := (blk_cell h1 0).trans rfl
  have c0d : w.drew.cell? ⟨g, 0, none⟩ = some (.slice A bs.length c) := c0
  have hw : wrap64 ((bs.length : Int) - (p : Int)) = (bs.length : Int) - (p : Int) := by have := r.le; have := r.len; unfold wrap64; omega
  unfold leftM
  by_cases he : er = 0
  · subst he
    rw [if_pos rfl]
    have D := Aside0.mk (show Drawn0 w w.drew from ⟨1, rfl⟩)
    have L := Aside0.mk (And.intro r.le r.len)
    clear r h1 h2 h3
    go_enter Try.func27, Try.ntmps27
    go_wp2
    go_region
    all_goals (go_wp2; go_ret)
    all_goals first | exact ⟨rfl, D.out⟩ | exact ⟨by simp [hw], D.out⟩
  · rw [if_neg he]
    have b1 : (er != 0) = true := bne_iff_ne.mpr he
    clear r h1 h2 h3 he
    go_enter Try.func27, Try.ntmps27
    go_wp2
    go_ret
    exact ⟨rfl, Drawn0.refl w⟩
def failM (er x : Int) : Int := if er = 0 then (if x = 0 then 1 else x) else er
def endM (bs : List Int) (p : Nat) (er : Int) : Int := if er = 0 ∧ p < bs.length then 3 else er
theorem Kp.drawn {w' : World} (h : Drawn0 w w') (hs : base ≤ w.heap.size) (g : Nat) : Kp base w w' g := Kp.of_below h.below hs g
theorem Rdr.drawn {T : Nat} {w' : World} (r : Rdr T base w g bs p er) (h : Drawn0 w w') : Rdr T base w' g bs p er := r.below h.below
end

section
variable {base g : Nat} {w : World} {bs : List Int} {p : Nat} {er : Int}
def brk (e : Int) : List PanicEntry := [{ v := .iface 101 (.agg #[.int .i64 e]), recovered := false }]
set_option maxHeartbeats 2000000 in
set_option maxRecDepth 100000 in
theorem number_ok (r : Rdr 76 base w g bs p er) {n k : Int} (hq : getS (bs.drop p) 0 1 0 = (n, k, 0)) :
    Calls Try.prog 79 #[.pointer (some ⟨g, 0, none⟩)] w fun e w' => e = .returned (.int .u64 n) ∧ Rdr 76 base w' g bs (p + k.toNat) er ∧ Kp base w w' g := by
  obtain ⟨i0, hi, hzz⟩ := Option.map_eq_some_iff.1 info5
  simp only [Prod.mk.injEq] at hzz
  obtain ⟨A, c, h1, h2, h3⟩ := r.drew.blk
  obtain ⟨A2, hsl, hrd, hlc⟩ := print_drop_of (P := Try.prog) (Value.int .u8) (0 : Int) 25 5 .i64 Try.underlying25 hi hzz.2.1 A c bs (p : Int) (by omega) (by have := r.le; omega) h2
  simp only [Int.toNat_natCast] at hsl hrd hlc
  have hby : ∀ x ∈ bs.drop p, 0 ≤ x ∧ x < 256 := fun x hx => r.byte x (List.mem_of_mem_drop hx)
  have hLl : (bs.drop p).length = bs.length - p := List.length_drop
  obtain ⟨L, hL⟩ : ∃ L, bs.drop p = L := ⟨_, rfl⟩
  rw [hL] at hsl hrd hlc hby hLl hq
  have HLL := Aside0.mk hLl
  clear hL hLl
  have HC2 := Aside0.mk (show (Kd.int .u8).C w.drew A2 L.length L from Kd.C_of_reads (d := (0 : Int)) (hrd w.drew (Kd.reads_of_C (enc := Value.int .u8) (d := (0 : Int)) (h1 := fun _ => rfl) h3)))
  have Hc2 := Aside0.mk hlc
  have HBY := Aside0.mk hby
  clear hby
  have c0 : w.drew.cell? ⟨g, 0, none⟩ = some (.slice A bs.length c) := (blk_cell h1 0).trans rfl
  have c1 := r.drew.c1
  have HB1 := Aside0.mk h1
  have R := Aside0.mk r.drew
  have R0 := Aside0.mk r
  have hk := put_get0 HBY.out hq
  have hkl : k ≤ (L.length : Int) := hk.2.2.2.1
  have hpk : p + k.toNat ≤ bs.length := by have := HLL.out; have := r.le; have := hk.2.2.1; omega
  have hw : wrap64 ((p : Int) + k) = (p : Int) + k := by have := r.len; have := hk.2.2.1; unfold wrap64; omega
  have hkn : (p : Int) + k = ((p + k.toNat : Nat) : Int) := by have := hk.2.2.1; omega
  have HKN := Aside0.mk hkn
  have HPK := Aside0.mk hpk
  have HQ := Aside0.mk hq
  have K0 := Aside0.mk (And.intro r.le (And.intro r.len (And.intro hk.2.2.1 hkl)))
  clear r h1 h2 h3 hi hzz hrd hlc hk hkl hpk hq hkn
  go_enter Try.func79, Try.ntmps79
  go_wp2
  refine start_ (n := 17) (S := fun w' => w'.cell? ⟨g, 0, none⟩ = some (.slice A bs.length c) ∧ w'.cell? ⟨g, 1, none⟩ = some (.int .i64 (p : Int))) (ds := []) #[false, false, false, false, false, false, false, false, false, false, false, false, false, false, false, false, false] (by kernel_rfl) rfl rfl ⟨c0, c1⟩ (fun hHeld => ?_)
  refine pure_ (i := 0) (N := some 7) (v := ?_) (a' := ?_) #[true, false, false, false, false, false, false, false, false, false, false, false, false, false, false, false, false] rfl rfl (by kernel_rfl) (fun _ _ _ h => h) (Or.inl ⟨by rfl, ?_⟩) ?_ ?_
  rotate_left
  · intro w'
    go_simp
    with_reducible rfl
  rotate_left
  · simp only [Act.put, List.setIfInBounds_toArray, List.set_cons_zero, List.set_cons_succ, i64_w, i32_w]
    rfl
  refine pure_ (i := 1) (N := some 8) (v := ?_) (a' := ?_) #[true, true, false, false, false, false, false, false, false, false, false, false, false, false, false, false, false] rfl rfl (by kernel_rfl) (fun _ _ _ h => h) (Or.inl ⟨by rfl, ?_⟩) ?_ ?_
  rotate_left
  · intro w'
    go_simp
    with_reducible rfl
  rotate_left
  · simp only [Act.put, List.setIfInBounds_toArray, List.set_cons_zero, List.set_cons_succ, i64_w, i32_w]
    rfl
  refine pure_ (i := 2) (N := some 9) (v := ?_) (a' := ?_) #[true, true, true, false, false, false, false, false, false, false, false, false, false, false, false, false, false] rfl rfl (by kernel_rfl) (fun _ _ _ h => h) (Or.inl ⟨by rfl, ?_⟩) ?_ ?_
  rotate_left
  · intro w'
    go_simp
    with_reducible rfl
  rotate_left
  · simp only [Act.put, List.setIfInBounds_toArray, List.set_cons_zero, List.set_cons_succ, i64_w, i32_w]
    rfl
  refine pure_ (i := 4) (N := some 11) (v := ?_) (a' := ?_) #[true, true, true, false, true, false, false, false, false, false, false, false, false, false, false, false, false] rfl rfl (by kernel_rfl) (fun _ _ _ h => h) (Or.inl ⟨by rfl, ?_⟩) ?_ ?_
  rotate_left
  · intro w'
    go_simp
    with_reducible rfl
  rotate_left
  · simp only [Act.put, List.setIfInBounds_toArray, List.set_cons_zero, List.set_cons_succ, i64_w, i32_w]
    rfl
  refine pure_ (i := 5) (N := some 12) (v := ?_) (a' := ?_) #[true, true, true, false, true, true, false, false, false, false, false, false, false, false, false, false, false] rfl rfl (by kernel_rfl) (fun _ _ _ h => h) (Or.inl ⟨by rfl, ?_⟩) ?_ ?_
  rotate_left
  · intro w'
    go_simp
    with_reducible rfl
  rotate_left
  · simp only [Act.put, List.setIfInBounds_toArray, List.set_cons_zero, List.set_cons_succ, i64_w, i32_w]
    rfl
  refine pure_ (i := 6) (N := some 13) (v := ?_) (a' := ?_) #[true, true, true, false, true, true, true, false, false, false, false, false, false, false, false, false, false] rfl rfl (by kernel_rfl) (fun _ _ _ h => h) (Or.inl ⟨by rfl, ?_⟩) ?_ ?_
  rotate_left
  · intro w'
    go_simp
    with_reducible rfl
  rotate_left
  · simp only [Act.put, List.setIfInBounds_toArray, List.set_cons_zero, List.set_cons_succ, i64_w, i32_w]
    rfl
  refine take_ (i := 3) (N := some 10) (v := ?_) (a' := ?_) #[true, true, true, true, true, true, true, false, false, false, false, false, false, false, false, false, false] rfl rfl (by kernel_rfl) (fun _ _ _ h => h) (Or.inl ⟨by rfl, ?_⟩) hHeld ?_ ?_
  rotate_left
  · rintro w' ⟨s0, s1⟩
    go_simp
    with_reducible rfl
  rotate_left
  · simp only [Act.put, List.setIfInBounds_toArray, List.set_cons_zero, List.set_cons_succ, i64_w, i32_w]
    rfl
  refine take_ (i := 7) (N := some 14) (v := ?_) (a' := ?_) #[true, true, true, true, true, true, true, true, false, false, false, false, false, false, false, false, false] rfl rfl (by kernel_rfl) (fun _ _ _ h => h) (Or.inl ⟨by rfl, ?_⟩) hHeld ?_ ?_
  rotate_left
  · rintro w' ⟨s0, s1⟩
    go_simp
    with_reducible rfl
  rotate_left
  · simp only [Act.put, List.setIfInBounds_toArray, List.set_cons_zero, List.set_cons_succ, i64_w, i32_w]
    rfl
  refine pure_ (i := 8) (N := some 15) (v := ?_) (a' := ?_) #[true, true, true, true, true, true, true, true, true, false, false, false, false, false, false, false, false] rfl rfl (by kernel_rfl) (fun _ _ _ h => h) (Or.inl ⟨by rfl, ?_⟩) ?_ ?_
  rotate_left
  · intro w'
    go_simp
    with_reducible rfl
  rotate_left
  · simp only [Act.put, List.setIfInBounds_toArray, List.set_cons_zero, List.set_cons_succ, i64_w, i32_w]
    rfl
  refine one_ (i := 9) (N := some 16) #[true, true, true, true, true, true, true, true, true, true, false, false, false, false, false, false, false] rfl rfl (by kernel_rfl) (by decide) (fun K hK => ?_)
  refine goes_ Try.func82 (by kernel_rfl) rfl #[.slice A2 L.length (c - p)] (by rfl) rfl rfl (by simp only [List.map_toArray, List.map_cons, List.map_nil]; rfl) ?_
  with_reducible refine (get_calls HC2.out Hc2.out HBY.out).mono ?_
  rintro e w3 ⟨rfl, hd⟩
  refine ⟨_, rfl, ?_⟩
  have hd2 := hd
  have R3 := Aside0.mk (R.out.drawn hd)
  have D3 := Aside0.mk hd
  have q0 : w3.cell? ⟨g, 0, none⟩ = some (.slice A bs.length c) := (blk_cell (blk_below HB1.out hd.below) 0).trans rfl
  have q1 := R3.out.c1
  have qf := R3.out.fz 1
  clear hd hd2
  refine hK.out _ _ ⟨q0, q1⟩ (fun hHeld => ?_)
  clear hK K
  refine norm_ (a' := ?_) ?_ ?_
  rotate_left
  · show Act.put _ (some 16) _ = _
    simp only [Act.put, List.setIfInBounds_toArray, List.set_cons_zero, List.set_cons_succ, i64_w, i32_w]
    rfl
  refine pure_ (i := 10) (N := some 6) (v := ?_) (a' := ?_) #[true, true, true, true, true, true, true, true, true, true, true, false, false, false, false, false, false] rfl rfl (by kernel_rfl) (fun _ _ _ h => h) (Or.inl ⟨by rfl, ?_⟩) ?_ ?_
  rotate_left
  · intro w'
    go_simp
    with_reducible rfl
  rotate_left
  · simp only [Act.put, List.setIfInBounds_toArray, List.set_cons_zero, List.set_cons_succ, i64_w, i32_w]
    rfl
  refine pure_ (i := 11) (N := some 17) (v := ?_) (a' := ?_) #[true, true, true, true, true, true, true, true, true, true, true, true, false, false, false, false, false] rfl rfl (by kernel_rfl) (fun _ _ _ h => h) (Or.inl ⟨by rfl, ?_⟩) ?_ ?_
  rotate_left
  · intro w'
    go_simp
    with_reducible rfl
  rotate_left
  · simp only [Act.put, List.setIfInBounds_toArray, List.set_cons_zero, List.set_cons_succ, i64_w, i32_w]
    rfl
  refine pure_ (i := 12) (N := some 18) (v := ?_) (a' := ?_) #[true, true, true, true, true, true, true, true, true, true, true, true, true, false, false, false, false] rfl rfl (by kernel_rfl) (fun _ _ _ h => h) (Or.inl ⟨by rfl, ?_⟩) ?_ ?_
  rotate_left
  · intro w'
    go_simp
    with_reducible rfl
  rotate_left
  · simp only [Act.put, List.setIfInBounds_toArray, List.set_cons_zero, List.set_cons_succ, i64_w, i32_w]
    rfl
  refine pure_ (i := 13) (N := some 19) (v := ?_) (a' := ?_) #[true, true, true, true, true, true, true, true, true, true, true, true, true, true, false, false, false] rfl rfl (by kernel_rfl) (fun _ _ _ h => h) (Or.inl ⟨by rfl, ?_⟩) ?_ ?_
  rotate_left
  · intro w'
    go_simp
    with_reducible rfl
  rotate_left
  · simp only [Act.put, List.setIfInBounds_toArray, List.set_cons_zero, List.set_cons_succ, i64_w, i32_w]
    rfl
  refine pure_ (i := 14) (N := some 3) (v := ?_) (a' := ?_) #[true, true, true, true, true, true, true, true, true, true, true, true, true, true, true, false, false] rfl rfl (by kernel_rfl) (fun _ _ _ h => h) (Or.inl ⟨by rfl, ?_⟩) ?_ ?_
  rotate_left
  · intro w'
    go_simp
    with_reducible rfl
  rotate_left
  · simp only [Act.put, List.setIfInBounds_toArray, List.set_cons_zero, List.set_cons_succ, i64_w, i32_w]
    rfl
  refine pure_ (i := 15) (N := some 4) (v := ?_) (a' := ?_) #[true, true, true, true, true, true, true, true, true, true, true, true, true, true, true, true, false] rfl rfl (by kernel_rfl) (fun _ _ _ h => h) (Or.inl ⟨by rfl, ?_⟩) ?_ ?_
  rotate_left
  · intro w'
    go_simp
    with_reducible rfl
  rotate_left
  · simp only [Act.put, List.setIfInBounds_toArray, List.set_cons_zero, List.set_cons_succ, i64_w, i32_w]
    rfl
  refine pure_ (i := 16) (N := some 5) (v := ?_) (a' := ?_) #[true, true, true, true, true, true, true, true, true, true, true, true, true, true, true, true, true] rfl rfl (by kernel_rfl) (fun _ _ _ h => h) (Or.inl ⟨by rfl, ?_⟩) ?_ ?_
  rotate_left
  · intro w'
    go_simp
    with_reducible rfl
  rotate_left
  · simp only [Act.put, List.setIfInBounds_toArray, List.set_cons_zero, List.set_cons_succ, i64_w, i32_w]
    rfl
  refine done_ (by kernel_rfl) ?_

  rw [HQ.out]
  go_wp2
  go_ret
  rw [HKN.out]
  exact ⟨rfl, R3.out.set1 HPK.out, ((Kp.of_below (Below.refl _ _).drew R0.out.size g).trans (Kp.drawn D3.out R.out.size g)).set R.out.low 1 _⟩
set_option maxHeartbeats 2000000 in
set_option maxRecDepth 100000 in
theorem number_bad (r : Rdr 76 base w g bs p er) {n k x : Int} (hq : getS (bs.drop p) 0 1 0 = (n, k, x)) (hx : x ≠ 0) :
    Calls Try.prog 79 #[.pointer (some ⟨g, 0, none⟩)] w fun e w' => e = .panicked (brk x) ∧ Rdr 76 base w' g bs p er ∧ Kp base w w' g := by
  obtain ⟨i0, hi, hzz⟩ := Option.map_eq_some_iff.1 info5
  simp only [Prod.mk.injEq] at hzz
  obtain ⟨A, c, h1, h2, h3⟩ := r.drew.blk
  obtain ⟨A2, hsl, hrd, hlc⟩ := print_drop_of (P := Try.prog) (Value.int .u8) (0 : Int) 25 5 .i64 Try.underlying25 hi hzz.2.1 A c bs (p : Int) (by omega) (by have := r.le; omega) h2
  simp only [Int.toNat_natCast] at hsl hrd hlc
  have hby : ∀ x ∈ bs.drop p, 0 ≤ x ∧ x < 256 := fun x hx => r.byte x (List.mem_of_mem_drop hx)
  have hLl : (bs.drop p).length = bs.length - p := List.length_drop
  obtain ⟨L, hL⟩ : ∃ L, bs.drop p = L := ⟨_, rfl⟩
  rw [hL] at hsl hrd hlc hby hLl hq
  have HLL := Aside0.mk hLl
  clear hL hLl
  have HC2 := Aside0.mk (show (Kd.int .u8).C w.drew A2 L.length L from Kd.C_of_reads (d := (0 : Int)) (hrd w.drew (Kd.reads_of_C (enc := Value.int .u8) (d := (0 : Int)) (h1 := fun _ => rfl) h3)))
  have Hc2 := Aside0.mk hlc
  have HBY := Aside0.mk hby
  clear hby
  have c0 : w.drew.cell? ⟨g, 0, none⟩ = some (.slice A bs.length c) := (blk_cell h1 0).trans rfl
  have c1 := r.drew.c1
  have HB1 := Aside0.mk h1
  have R := Aside0.mk r.drew
  have R0 := Aside0.mk r
  have HQ := Aside0.mk hq
  have b1 : (x != 0) = true := bne_iff_ne.mpr hx
  clear r h1 h2 h3 hi hzz hrd hlc hq hx
  go_enter Try.func79, Try.ntmps79
  go_wp2
  refine start_ (n := 17) (S := fun w' => w'.cell? ⟨g, 0, none⟩ = some (.slice A bs.length c) ∧ w'.cell? ⟨g, 1, none⟩ = some (.int .i64 (p : Int))) (ds := []) #[false, false, false, false, false, false, false, false, false, false, false, false, false, false, false, false, false] (by kernel_rfl) rfl rfl ⟨c0, c1⟩ (fun hHeld => ?_)
  refine pure_ (i := 0) (N := some 7) (v := ?_) (a' := ?_) #[true, false, false, false, false, false, false, false, false, false, false, false, false, false, false, false, false] rfl rfl (by kernel_rfl) (fun _ _ _ h => h) (Or.inl ⟨by rfl, ?_⟩) ?_ ?_
  rotate_left
  · intro w'
    go_simp
    with_reducible rfl
  rotate_left
  · simp only [Act.put, List.setIfInBounds_toArray, List.set_cons_zero, List.set_cons_succ, i64_w, i32_w]
    rfl
  refine pure_ (i := 1) (N := some 8) (v := ?_) (a' := ?_) #[true, true, false, false, false, false, false, false, false, false, false, false, false, false, false, false, false] rfl rfl (by kernel_rfl) (fun _ _ _ h => h) (Or.inl ⟨by rfl, ?_⟩) ?_ ?_
  rotate_left
  · intro w'
    go_simp
    with_reducible rfl
  rotate_left
  · simp only [Act.put, List.setIfInBounds_toArray, List.set_cons_zero, List.set_cons_succ, i64_w, i32_w]
    rfl
  refine pure_ (i := 2) (N := some 9) (v := ?_) (a' := ?_) #[true, true, true, false, false, false, false, false, false, false, false, false, false, false, false, false, false] rfl rfl (by kernel_rfl) (fun _ _ _ h => h) (Or.inl ⟨by rfl, ?_⟩) ?_ ?_
  rotate_left
  · intro w'
    go_simp
    with_reducible rfl
  rotate_left
  · simp only [Act.put, List.setIfInBounds_toArray, List.set_cons_zero, List.set_cons_succ, i64_w, i32_w]
    rfl
  refine pure_ (i := 4) (N := some 11) (v := ?_) (a' := ?_) #[true, true, true, false, true, false, false, false, false, false, false, false, false, false, false, false, false] rfl rfl (by kernel_rfl) (fun _ _ _ h => h) (Or.inl ⟨by rfl, ?_⟩) ?_ ?_
  rotate_left
  · intro w'
    go_simp
    with_reducible rfl
  rotate_left
  · simp only [Act.put, List.setIfInBounds_toArray, List.set_cons_zero, List.set_cons_succ, i64_w, i32_w]
    rfl
  refine pure_ (i := 5) (N := some 12) (v := ?_) (a' := ?_) #[true, true, true, false, true, true, false, false, false, false, false, false, false, false, false, false, false] rfl rfl (by kernel_rfl) (fun _ _ _ h => h) (Or.inl ⟨by rfl, ?_⟩) ?_ ?_
  rotate_left
  · intro w'
    go_simp
    with_reducible rfl
  rotate_left
  · simp only [Act.put, List.setIfInBounds_toArray, List.set_cons_zero, List.set_cons_succ, i64_w, i32_w]
    rfl
  refine pure_ (i := 6) (N := some 13) (v := ?_) (a' := ?_) #[true, true, true, false, true, true, true, false, false, false, false, false, false, false, false, false, false] rfl rfl (by kernel_rfl) (fun _ _ _ h => h) (Or.inl ⟨by rfl, ?_⟩) ?_ ?_
  rotate_left
  · intro w'
    go_simp
    with_reducible rfl
  rotate_left
  · simp only [Act.put, List.setIfInBounds_toArray, List.set_cons_zero, List.set_cons_succ, i64_w, i32_w]
    rfl
  refine take_ (i := 3) (N := some 10) (v := ?_) (a' := ?_) #[true, true, true, true, true, true, true, false, false, false, false, false, false, false, false, false, false] rfl rfl (by kernel_rfl) (fun _ _ _ h => h) (Or.inl ⟨by rfl, ?_⟩) hHeld ?_ ?_
  rotate_left
  · rintro w' ⟨s0, s1⟩
    go_simp
    with_reducible rfl
  rotate_left
  · simp only [Act.put, List.setIfInBounds_toArray, List.set_cons_zero, List.set_cons_succ, i64_w, i32_w]
    rfl
  refine take_ (i := 7) (N := some 14) (v := ?_) (a' := ?_) #[true, true, true, true, true, true, true, true, false, false, false, false, false, false, false, false, false] rfl rfl (by kernel_rfl) (fun _ _ _ h => h) (Or.inl ⟨by rfl, ?_⟩) hHeld ?_ ?_
  rotate_left
  · rintro w' ⟨s0, s1⟩
    go_simp
    with_reducible rfl
  rotate_left
  · simp only [Act.put, List.setIfInBounds_toArray, List.set_cons_zero, List.set_cons_succ, i64_w, i32_w]
    rfl
  refine pure_ (i := 8) (N := some 15) (v := ?_) (a' := ?_) #[true, true, true, true, true, true, true, true, true, false, false, false, false, false, false, false, false] rfl rfl (by kernel_rfl) (fun _ _ _ h => h) (Or.inl ⟨by rfl, ?_⟩) ?_ ?_
  rotate_left
  · intro w'
    go_simp
    with_reducible rfl
  rotate_left
  · simp only [Act.put, List.setIfInBounds_toArray, List.set_cons_zero, List.set_cons_succ, i64_w, i32_w]
    rfl
  refine one_ (i := 9) (N := some 16) #[true, true, true, true, true, true, true, true, true, true, false, false, false, false, false, false, false] rfl rfl (by kernel_rfl) (by decide) (fun K hK => ?_)
  refine goes_ Try.func82 (by kernel_rfl) rfl #[.slice A2 L.length (c - p)] (by rfl) rfl rfl (by simp only [List.map_toArray, List.map_cons, List.map_nil]; rfl) ?_
  with_reducible refine (get_calls HC2.out Hc2.out HBY.out).mono ?_
  rintro e w3 ⟨rfl, hd⟩
  refine ⟨_, rfl, ?_⟩
  have hd2 := hd
  have R3 := Aside0.mk (R.out.drawn hd)
  have D3 := Aside0.mk hd
  have q0 : w3.cell? ⟨g, 0, none⟩ = some (.slice A bs.length c) := (blk_cell (blk_below HB1.out hd.below) 0).trans rfl
  have q1 := R3.out.c1
  have qf := R3.out.fz 1
  clear hd hd2
  refine hK.out _ _ ⟨q0, q1⟩ (fun hHeld => ?_)
  clear hK K
  refine norm_ (a' := ?_) ?_ ?_
  rotate_left
  · show Act.put _ (some 16) _ = _
    simp only [Act.put, List.setIfInBounds_toArray, List.set_cons_zero, List.set_cons_succ, i64_w, i32_w]
    rfl
  refine pure_ (i := 10) (N := some 6) (v := ?_) (a' := ?_) #[true, true, true, true, true, true, true, true, true, true, true, false, false, false, false, false, false] rfl rfl (by kernel_rfl) (fun _ _ _ h => h) (Or.inl ⟨by rfl, ?_⟩) ?_ ?_
  rotate_left
  · intro w'
    go_simp
    with_reducible rfl
  rotate_left
  · simp only [Act.put, List.setIfInBounds_toArray, List.set_cons_zero, List.set_cons_succ, i64_w, i32_w]
    rfl
  refine pure_ (i := 11) (N := some 17) (v := ?_) (a' := ?_) #[true, true, true, true, true, true, true, true, true, true, true, true, false, false, false, false, false] rfl rfl (by kernel_rfl) (fun _ _ _ h => h) (Or.inl ⟨by rfl, ?_⟩) ?_ ?_
  rotate_left
  · intro w'
    go_simp
    with_reducible rfl
  rotate_left
  · simp only [Act.put, List.setIfInBounds_toArray, List.set_cons_zero, List.set_cons_succ, i64_w, i32_w]
    rfl
  refine pure_ (i := 12) (N := some 18) (v := ?_) (a' := ?_) #[true, true, true, true, true, true, true, true, true, true, true, true, true, false, false, false, false] rfl rfl (by kernel_rfl) (fun _ _ _ h => h) (Or.inl ⟨by rfl, ?_⟩) ?_ ?_
  rotate_left
  · intro w'
    go_simp
    with_reducible rfl
  rotate_left
  · simp only [Act.put, List.setIfInBounds_toArray, List.set_cons_zero, List.set_cons_succ, i64_w, i32_w]
    rfl
  refine pure_ (i := 13) (N := some 19) (v := ?_) (a' := ?_) #[true, true, true, true, true, true, true, true, true, true, true, true, true, true, false, false, false] rfl rfl (by kernel_rfl) (fun _ _ _ h => h) (Or.inl ⟨by rfl, ?_⟩) ?_ ?_
  rotate_left
  · intro w'
    go_simp
    with_reducible rfl
  rotate_left
  · simp only [Act.put, List.setIfInBounds_toArray, List.set_cons_zero, List.set_cons_succ, i64_w, i32_w]
    rfl
  refine pure_ (i := 14) (N := some 3) (v := ?_) (a' := ?_) #[true, true, true, true, true, true, true, true, true, true, true, true, true, true, true, false, false] rfl rfl (by kernel_rfl) (fun _ _ _ h => h) (Or.inl ⟨by rfl, ?_⟩) ?_ ?_
  rotate_left
  · intro w'
    go_simp
    with_reducible rfl
  rotate_left
  · simp only [Act.put, List.setIfInBounds_toArray, List.set_cons_zero, List.set_cons_succ, i64_w, i32_w]
    rfl
  refine pure_ (i := 15) (N := some 4) (v := ?_) (a' := ?_) #[true, true, true, true, true, true, true, true, true, true, true, true, true, true, true, true, false] rfl rfl (by kernel_rfl) (fun _ _ _ h => h) (Or.inl ⟨by rfl, ?_⟩) ?_ ?_
  rotate_left
  · intro w'
    go_simp
    with_reducible rfl
  rotate_left
  · simp only [Act.put, List.setIfInBounds_toArray, List.set_cons_zero, List.set_cons_succ, i64_w, i32_w]
    rfl
  refine pure_ (i := 16) (N := some 5) (v := ?_) (a' := ?_) #[true, true, true, true, true, true, true, true, true, true, true, true, true, true, true, true, true] rfl rfl (by kernel_rfl) (fun _ _ _ h => h) (Or.inl ⟨by rfl, ?_⟩) ?_ ?_
  rotate_left
  · intro w'
    go_simp
    with_reducible rfl
  rotate_left
  · simp only [Act.put, List.setIfInBounds_toArray, List.set_cons_zero, List.set_cons_succ, i64_w, i32_w]
    rfl
  refine done_ (by kernel_rfl) ?_

  rw [HQ.out]
  go_wp2
  exact ⟨rfl, rfl, R3.out, (Kp.of_below (Below.refl _ _).drew R0.out.size g).trans (Kp.drawn D3.out R.out.size g)⟩
set_option maxHeartbeats 1000000 in
theorem upto_bad (r : Rdr 76 base w g bs p er) {n k x : Int} (hq : getS (bs.drop p) 0 1 0 = (n, k, x)) (hx : x ≠ 0) (most : Int) :
    Calls Try.prog 69 #[.pointer (some ⟨g, 0, none⟩), .int .i64 most] w fun e w' => e = .panicked (brk x) ∧ Rdr 76 base w' g bs p er ∧ Kp base w w' g := by
  have R := Aside0.mk r
  have HQ := Aside0.mk hq
  have HX := Aside0.mk hx
  clear r hq hx
  go_enter Try.func69, Try.ntmps69
  go_wp2_with (first
    | (go_at_call 79; (with_reducible refine (number_bad R.out HQ.out HX.out).mono ?_); rintro e w1 ⟨rfl, h1, h2⟩; have R1 := Aside0.mk h1; have K1 := Aside0.mk h2; clear h1 h2))
  exact ⟨rfl, rfl, R1.out, K1.out⟩
set_option maxHeartbeats 1000000 in
theorem upto_long (r : Rdr 76 base w g bs p er) {n k : Int} (hq : getS (bs.drop p) 0 1 0 = (n, k, 0)) (most : Int) (hm : most < 9223372036854775808) (hn : most < 0 ∨ most < n) :
    Calls Try.prog 69 #[.pointer (some ⟨g, 0, none⟩), .int .i64 most] w fun e w' => e = .panicked (brk 3) ∧ Rdr 76 base w' g bs (p + k.toNat) er ∧ Kp base w w' g := by
  have hk := put_get0 (fun x hx => r.byte x (List.mem_of_mem_drop hx)) hq
  have R := Aside0.mk r
  have HQ := Aside0.mk hq
  by_cases h0 : most < 0
  · have b1 : decide (most < 0) = true := decide_eq_true h0
    clear r hq hk hn h0 hm
    go_enter Try.func69, Try.ntmps69
    go_wp2_with (first
      | (go_at_call 79; (with_reducible refine (number_ok R.out HQ.out).mono ?_); rintro e w1 ⟨rfl, h1, h2⟩; have R1 := Aside0.mk h1; have K1 := Aside0.mk h2; clear h1 h2))
    exact ⟨rfl, rfl, R1.out, K1.out⟩
  · have b1 : decide (most < 0) = false := decide_eq_false h0
    have hw : IntKind.u64.wrap most = most := by rw [IntKind.wrap_u64]; omega
    have b2 : decide (most < n) = true := decide_eq_true (by omega)
    have b3 : decide (most % 18446744073709551616 < n) = true := decide_eq_true (by omega)
    clear r hq hk hn h0 hm
    go_enter Try.func69, Try.ntmps69
    go_wp2_with (first
      | (go_at_call 79; (with_reducible refine (number_ok R.out HQ.out).mono ?_); rintro e w1 ⟨rfl, h1, h2⟩; have R1 := Aside0.mk h1; have K1 := Aside0.mk h2; clear h1 h2))
    exact ⟨rfl, rfl, R1.out, K1.out⟩
set_option maxHeartbeats 1000000 in
theorem upto_ok (r : Rdr 76 base w g bs p er) {n k : Int} (hq : getS (bs.drop p) 0 1 0 = (n, k, 0)) (most : Int) (hm : most < 9223372036854775808) (hn : 0 ≤ most ∧ n ≤ most) :
    Calls Try.prog 69 #[.pointer (some ⟨g, 0, none⟩), .int .i64 most] w fun e w' => e = .returned (.int .i64 n) ∧ Rdr 76 base w' g bs (p + k.toNat) er ∧ Kp base w w' g := by
  have hk := put_get0 (fun x hx => r.byte x (List.mem_of_mem_drop hx)) hq
  have R := Aside0.mk r
  have HQ := Aside0.mk hq
  have b1 : decide (most < 0) = false := decide_eq_false (by omega)
  have hw : IntKind.u64.wrap most = most := by rw [IntKind.wrap_u64]; omega
  have b2 : decide (most < n) = false := decide_eq_false (by omega)
  have b3 : decide (most % 18446744073709551616 < n) = false := decide_eq_false (by omega)
  have hw2 : wrap64 n = n := by have := hk.1; unfold wrap64; omega
  have HNN := Aside0.mk (And.intro hk.1 (And.intro hm hn))
  have hn0 := hk.1
  clear r hq hk
  go_enter Try.func69, Try.ntmps69
  go_wp2_with (first
    | (go_at_call 79; (with_reducible refine (number_ok R.out HQ.out).mono ?_); rintro e w1 ⟨rfl, h1, h2⟩; have R1 := Aside0.mk h1; have K1 := Aside0.mk h2; clear h1 h2))
  go_ret
  exact ⟨by first | rfl | simp [hw2], R1.out, K1.out⟩
end

section
variable {base g : Nat} {w : World} {bs : List Int} {p : Nat} {er : Int}
set_option maxHeartbeats 1000000 in
theorem take_bad (r : Rdr 76 base w g bs p er) (n : Int) (hn : (bs.length : Int) - p < n) :
    Calls Try.prog 66 #[.pointer (some ⟨g, 0, none⟩), .int .i64 n] w fun e w' => e = .panicked (brk 10) ∧ Rdr 76 base w' g bs p er ∧ Kp base w w' g := by
  obtain ⟨A, c, h1, h2, h3⟩ := r.blk
  have c0 : w.cell? ⟨g, 0, none⟩ = some (.slice A bs.length c) := (blk_cell h1 0).trans rfl
  have c0d : w.drew.cell? ⟨g, 0, none⟩ = some (.slice A bs.length c) := c0
  have c1 := r.c1
  have c1d : w.drew.cell? ⟨g, 1, none⟩ = some (.int .i64 (p : Int)) := c1
  have hw : wrap64 ((bs.length : Int) - (p : Int)) = (bs.length : Int) - (p : Int) := by have := r.le; have := r.len; unfold wrap64; omega
  have b1 : decide ((bs.length : Int) - (p : Int) < n) = true := decide_eq_true hn
  have R := Aside0.mk r
  have L := Aside0.mk (And.intro r.le r.len)
  clear r h1 h2 h3 hn
  go_enter Try.func66, Try.ntmps66
  go_wp2
  go_region
  all_goals go_wp2
  all_goals exact ⟨rfl, rfl, R.out.drew, Kp.of_below (Below.refl _ _).drew R.out.size g⟩
theorem w64 {x : Int} (h : -9223372036854775808 ≤ x ∧ x < 9223372036854775808) : wrap64 x = x := by unfold wrap64; omega
theorem midlen (bs : List Int) (p n : Nat) (h : p + n ≤ bs.length) : ((bs.take (p + n)).drop p).length = n := by rw [List.length_drop, List.length_take]; omega
set_option maxHeartbeats 2000000 in
theorem take_ok (r : Rdr 76 base w g bs p er) (n : Nat) (hn : p + n ≤ bs.length) :
    Calls Try.prog 66 #[.pointer (some ⟨g, 0, none⟩), .int .i64 (n : Int)] w fun e w' => (∃ A2 c2, e = .returned (.slice A2 n c2) ∧ n ≤ c2 ∧ (Kd.int .u8).C w' A2 ((bs.take (p + n)).drop p).length ((bs.take (p + n)).drop p)) ∧ Rdr 76 base w' g bs (p + n) er ∧ Kp base w w' g := by
  have hb1 := r.le
  have hb2 := r.len
  have hw := w64 (x := (bs.length : Int) - (p : Int)) (by omega)
  have hw2 := w64 (x := (p : Int) + (n : Int)) (by omega)
  have hw5 := w64 (x := (p : Int)) (by omega)
  have HW := Aside0.mk (And.intro hw (And.intro hw2 hw5))
  clear hw hw2 hw5
  obtain ⟨i0, hi, hzz⟩ := Option.map_eq_some_iff.1 info5
  simp only [Prod.mk.injEq] at hzz
  obtain ⟨A, c, h1, h2, h3⟩ := r.blk
  obtain ⟨A2, hsl, hrd, hlc⟩ := print_mid_int (P := Try.prog) (k := .u8) 25 5 Try.underlying25 hi hzz.2.1 A c bs (p : Int) ((p : Int) + (n : Int)) (by omega) (by omega) (by omega) h2
  have e1 : ((p : Int) + (n : Int)).toNat = p + n := by omega
  simp only [Int.toNat_natCast, e1] at hsl hrd hlc
  have hml := midlen bs p n hn
  rw [hml] at hlc
  simp only [hml] at hsl
  have c0 : w.cell? ⟨g, 0, none⟩ = some (.slice A bs.length c) := (blk_cell h1 0).trans rfl
  have c0d : w.drew.cell? ⟨g, 0, none⟩ = some (.slice A bs.length c) := c0
  have c1 := r.c1
  have c1d : w.drew.cell? ⟨g, 1, none⟩ = some (.int .i64 (p : Int)) := c1
  have f1 := r.fz 1
  have b1 : decide ((bs.length : Int) - (p : Int) < (n : Int)) = false := decide_eq_false (by omega)
  have hw4 : (p : Int) + (n : Int) - (n : Int) = (p : Int) := by omega
  have R := Aside0.mk r
  have R2 := Aside0.mk (r.drew.set1 (p' := p + n) hn)
  have cs0 : (w.drew.setCell ⟨g, 1, none⟩ (.int .i64 ((p : Int) + (n : Int)))).cell? ⟨g, 0, none⟩ = some (.slice A bs.length c) := (blk_cell (blk_set (blk_below h1 (Below.refl _ _).drew) 1 (.int .i64 ((p : Int) + (n : Int)))) 0).trans rfl
  have cs0d : ((w.setCell ⟨g, 1, none⟩ (.int .i64 ((p : Int) + (n : Int)))).drew).cell? ⟨g, 0, none⟩ = some (.slice A bs.length c) := cs0
  have cs1d : ((w.setCell ⟨g, 1, none⟩ (.int .i64 ((p : Int) + (n : Int)))).drew).cell? ⟨g, 1, none⟩ = some (.int .i64 ((p : Int) + (n : Int))) := R2.out.c1
  have HML := Aside0.mk hml
  have HLC := Aside0.mk hlc
  have HN := Aside0.mk hn
  have HH := Aside0.mk h1
  have HC := Aside0.mk (show (Kd.int .u8).C w A2 ((bs.take (p + n)).drop p).length ((bs.take (p + n)).drop p) by have h_ := Kd.C_of_reads (d := (0 : Int)) (h1 := fun _ => rfl) (hrd w (Kd.reads_of_C (enc := Value.int .u8) (d := (0 : Int)) (h1 := fun _ => rfl) h3)); exact h_)
  have L := Aside0.mk (And.intro r.le r.len)
  clear r h1 h2 h3 hi hzz hrd hlc hml e1 hn hb1 hb2
  have hw := HW.out.1
  have hw2 := HW.out.2.1
  have hw5 := HW.out.2.2
  go_enter Try.func66, Try.ntmps66
  go_wp2
  go_region
  go_wp2
  go_region
  all_goals go_wp2
  all_goals go_ret
  all_goals exact ⟨⟨A2, _, rfl, HLC.out, Kd.C_drew (Kd.C_drew (C_move HC.out fun a q hc => Below.heap_setCell w ⟨g, 1, none⟩ _ _ (Rd.far HH.out hc)))⟩, R2.out.drew, (((Kp.refl base w g).set R.out.low 1 _).trans (Kp.of_below (Below.refl _ _).drew.drew (by simpa using R.out.size) g))⟩
end

end Go.Proofs.Ytnohflfpahokiaa.Rd
/- What a reader is asked for from within: a byte, a word, a count, a text. -/
set_option linter.unusedVariables false
set_option linter.unusedSimpArgs false
namespace Go.Proofs.Ytnohflfpahokiaa.Rd
open Go Go.RowKit Go.Proofs.YtnohflfpahokiaaW.PrintWords Go.Proofs.YtnohflfpahokiaaW.PrintLast Go.Proofs.Ytnohflfpahokiaa.LebM Go.Proofs.Ytnohflfpahokiaa.Leb
section
variable {base g : Nat} {w : World} {bs : List Int} {p : Nat} {er : Int}
theorem take_okI (r : Rdr 76 base w g bs p er) (n : Nat) (z : Int) (hz : (n : Int) = z) (hn : p + n ≤ bs.length) :
    Calls Try.prog 66 #[.pointer (some ⟨g, 0, none⟩), .int .i64 z] w fun e w' => (∃ A2 c2, e = .returned (.slice A2 n c2) ∧ n ≤ c2 ∧ (Kd.int .u8).C w' A2 ((bs.take (p + n)).drop p).length ((bs.take (p + n)).drop p)) ∧ Rdr 76 base w' g bs (p + n) er ∧ Kp base w w' g := by
  subst hz
  exact take_ok r n hn
theorem getD_byte {bs : List Int} (h : ∀ x ∈ bs, 0 ≤ x ∧ x < 256) (i : Nat) : 0 ≤ bs.getD i 0 ∧ bs.getD i 0 < 256 := by
  rw [List.getD_eq_getElem?_getD]
  by_cases hi : i < bs.length
  · rw [List.getElem?_eq_getElem hi]
    exact h _ (List.getElem_mem hi)
  · rw [List.getElem?_eq_none (by omega)]
    simp
theorem mid_getD (bs : List Int) (p n i : Nat) (h : p + n ≤ bs.length) (hi : i < n) : ((bs.take (p + n)).drop p).getD i 0 = bs.getD (p + i) 0 := by
  rw [List.getD_eq_getElem?_getD, List.getD_eq_getElem?_getD, List.getElem?_drop, List.getElem?_take, if_pos (by omega)]
/-- a byte of a row -/
theorem C_at {w : World} {A : Option Addr} {ys : List Int} (hC : (Kd.int .u8).C w A ys.length ys) (i : Nat) (hi : i < ys.length) : ∃ ad, A = some ad ∧ w.cell? (ad.add i) = some (.int .u8 (ys.getD i 0)) := by
  obtain ⟨ad, hA, _⟩ := hC.2.2 (by omega)
  refine ⟨ad, hA, C_cells hC ad hA i _ ?_⟩
  rw [List.getD_eq_getElem?_getD, List.getElem?_eq_getElem hi]
  simp [nums, List.getElem?_eq_getElem hi]
set_option maxHeartbeats 1000000 in
theorem byte1_bad (r : Rdr 76 base w g bs p er) (hn : bs.length ≤ p) :
    Calls Try.prog 65 #[.pointer (some ⟨g, 0, none⟩)] w fun e w' => e = .panicked (brk 10) ∧ Rdr 76 base w' g bs p er ∧ Kp base w w' g := by
  have R := Aside0.mk r
  have HN := Aside0.mk hn
  clear r hn
  go_enter Try.func65, Try.ntmps65
  go_wp2_with (go_at_call 66; (with_reducible refine (take_bad R.out 1 (by have := HN.out; omega)).mono ?_); rintro e w1 ⟨rfl, h1, h2⟩; have R1 := Aside0.mk h1; have K1 := Aside0.mk h2; clear h1 h2)
  exact ⟨rfl, rfl, R1.out, K1.out⟩
set_option maxHeartbeats 1000000 in
theorem byte1_ok (r : Rdr 76 base w g bs p er) (hn : p < bs.length) :
    Calls Try.prog 65 #[.pointer (some ⟨g, 0, none⟩)] w fun e w' => e = .returned (.int .i64 (bs.getD p 0)) ∧ Rdr 76 base w' g bs (p + 1) er ∧ Kp base w w' g := by
  have R := Aside0.mk r
  have HN := Aside0.mk (show p + 1 ≤ bs.length by omega)
  have hml := midlen bs p 1 (by omega)
  have hg : ((bs.take (p + 1)).drop p).getD 0 0 = bs.getD p 0 := mid_getD bs p 1 0 (by omega) (by omega)
  have hby := getD_byte r.byte p
  have hw := w64 (x := bs.getD p 0) (by omega)
  obtain ⟨x, hx⟩ : ∃ x, bs.getD p 0 = x := ⟨_, rfl⟩
  rw [hx] at hg hw hby ⊢
  have HG := Aside0.mk hg
  have HML := Aside0.mk hml
  clear r hn hml hg hx
  go_enter Try.func65, Try.ntmps65
  go_wp2_with (go_at_call 66; (with_reducible refine (take_okI R.out 1 1 rfl HN.out).mono ?_); rintro e w1 ⟨⟨A2, c2, rfl, h0, h3⟩, h1, h2⟩; have R1 := Aside0.mk h1; have K1 := Aside0.mk h2; obtain ⟨ad, rfl, hcell⟩ := C_at h3 0 (by have := HML.out; omega); rw [HG.out] at hcell; have hcell2 : w1.cell? ad = some (.int .u8 x) := (by have h_ := hcell; simpa [Addr.add] using h_); clear h1 h2 h3 h0)
  go_ret
  exact ⟨by first | rfl | simp [hw], R1.out, K1.out⟩
set_option maxHeartbeats 1000000 in
theorem text1_bad (r : Rdr 76 base w g bs p er) {n k x : Int} (hq : getS (bs.drop p) 0 1 0 = (n, k, x)) (hx : x ≠ 0) (most : Int) (q : Nat) (hc : w.cell? ⟨q, 0, none⟩ = some (.int .i64 most)) :
    Calls Try.prog 68 #[.pointer (some ⟨g, 0, none⟩), .pointer (some ⟨q, 0, none⟩)] w fun e w' => e = .panicked (brk x) ∧ Rdr 76 base w' g bs p er ∧ Kp base w w' g := by
  have R := Aside0.mk r
  have HQ := Aside0.mk hq
  have HX := Aside0.mk hx
  clear r hq hx
  go_enter Try.func68, Try.ntmps68
  go_wp2_with (go_at_call 69; (with_reducible refine (upto_bad R.out HQ.out HX.out most).mono ?_); rintro e w1 ⟨rfl, h1, h2⟩; have R1 := Aside0.mk h1; have K1 := Aside0.mk h2; clear h1 h2)
  exact ⟨rfl, rfl, R1.out, K1.out⟩
set_option maxHeartbeats 1000000 in
theorem text1_long (r : Rdr 76 base w g bs p er) {n k : Int} (hq : getS (bs.drop p) 0 1 0 = (n, k, 0)) (most : Int) (hm : most < 9223372036854775808) (hn : most < 0 ∨ most < n) (q : Nat) (hc : w.cell? ⟨q, 0, none⟩ = some (.int .i64 most)) :
    Calls Try.prog 68 #[.pointer (some ⟨g, 0, none⟩), .pointer (some ⟨q, 0, none⟩)] w fun e w' => e = .panicked (brk 3) ∧ Rdr 76 base w' g bs (p + k.toNat) er ∧ Kp base w w' g := by
  have R := Aside0.mk r
  have HQ := Aside0.mk hq
  have HM := Aside0.mk hm
  have HN := Aside0.mk hn
  clear r hq hm hn
  go_enter Try.func68, Try.ntmps68
  go_wp2_with (go_at_call 69; (with_reducible refine (upto_long R.out HQ.out most HM.out HN.out).mono ?_); rintro e w1 ⟨rfl, h1, h2⟩; have R1 := Aside0.mk h1; have K1 := Aside0.mk h2; clear h1 h2)
  exact ⟨rfl, rfl, R1.out, K1.out⟩
set_option maxHeartbeats 1000000 in
theorem text1_short (r : Rdr 76 base w g bs p er) {n k : Int} (hq : getS (bs.drop p) 0 1 0 = (n, k, 0)) (most : Int) (hm : most < 9223372036854775808) (hn : 0 ≤ most ∧ n ≤ most) (hl : (bs.length : Int) - (p + k.toNat : Nat) < n) (q : Nat) (hc : w.cell? ⟨q, 0, none⟩ = some (.int .i64 most)) :
    Calls Try.prog 68 #[.pointer (some ⟨g, 0, none⟩), .pointer (some ⟨q, 0, none⟩)] w fun e w' => e = .panicked (brk 10) ∧ Rdr 76 base w' g bs (p + k.toNat) er ∧ Kp base w w' g := by
  have R := Aside0.mk r
  have HQ := Aside0.mk hq
  have HM := Aside0.mk hm
  have HN := Aside0.mk hn
  have HL := Aside0.mk hl
  clear r hq hm hn hl
  go_enter Try.func68, Try.ntmps68
  go_wp2_with (first
    | (go_at_call 69; (with_reducible refine (upto_ok R.out HQ.out most HM.out HN.out).mono ?_); rintro e w1 ⟨rfl, h1, h2⟩; have R1 := Aside0.mk h1; have K1 := Aside0.mk h2; clear h1 h2)
    | (go_at_call 66; (with_reducible refine (take_bad R1.out n HL.out).mono ?_); rintro e w2 ⟨rfl, h1, h2⟩; have R2 := Aside0.mk h1; have K2 := Aside0.mk (K1.out.trans h2); clear h1 h2))
  exact ⟨rfl, rfl, R2.out, K2.out⟩
set_option maxHeartbeats 1000000 in
theorem text1_ok (r : Rdr 76 base w g bs p er) {n k : Int} (hq : getS (bs.drop p) 0 1 0 = (n, k, 0)) (most : Int) (hm : most < 9223372036854775808) (hn : 0 ≤ most ∧ n ≤ most) (hl : n ≤ (bs.length : Int) - (p + k.toNat : Nat)) (q : Nat) (hc : w.cell? ⟨q, 0, none⟩ = some (.int .i64 most)) :
    Calls Try.prog 68 #[.pointer (some ⟨g, 0, none⟩), .pointer (some ⟨q, 0, none⟩)] w fun e w' => e = .returned (.string (strOfNums ((bs.take (p + k.toNat + n.toNat)).drop (p + k.toNat)))) ∧ Rdr 76 base w' g bs (p + k.toNat + n.toNat) er ∧ Kp base w w' g := by
  have hk := put_get0 (fun x hx => r.byte x (List.mem_of_mem_drop hx)) hq
  obtain ⟨m, rfl⟩ : ∃ m : Nat, n = (m : Int) := ⟨n.toNat, by have := hk.1; omega⟩
  rw [Int.toNat_natCast]
  have R := Aside0.mk r
  have HQ := Aside0.mk hq
  have HM := Aside0.mk hm
  have HN := Aside0.mk hn
  have HL := Aside0.mk (show p + k.toNat + m ≤ bs.length by omega)
  have HML := Aside0.mk (midlen bs (p + k.toNat) m (by omega))
  clear r hq hm hn hl hk
  go_enter Try.func68, Try.ntmps68
  go_wp2_with (first
    | (go_at_call 69; (with_reducible refine (upto_ok R.out HQ.out most HM.out HN.out).mono ?_); rintro e w1 ⟨rfl, h1, h2⟩; have R1 := Aside0.mk h1; have K1 := Aside0.mk h2; clear h1 h2)
    | (go_at_call 66; (with_reducible refine (take_ok R1.out m HL.out).mono ?_); rintro e w2 ⟨⟨A2, c2, rfl, h0, h3⟩, h1, h2⟩; have R2 := Aside0.mk h1; have K2 := Aside0.mk (K1.out.trans h2); have hcv := Kd.C_string (P := Try.prog) (A := A2) (c := c2) Try.underlying25 Try.underlying5 Try.underlying9 h3; rw [HML.out] at hcv; clear h0 h1 h2 h3))
  go_ret
  exact ⟨by first | rfl | simp, R2.out, K2.out⟩
theorem word_bad (r : Rdr 76 base w g bs p er) (hn : bs.length < p + 4) :
    Calls Try.prog 71 #[.pointer (some ⟨g, 0, none⟩)] w fun e w' => e = .panicked (brk 10) ∧ Rdr 76 base w' g bs p er ∧ Kp base w w' g := by
  have R := Aside0.mk r
  have HN := Aside0.mk hn
  clear r hn
  go_enter Try.func71, Try.ntmps71
  go_wp2_with (go_at_call 66; (with_reducible refine (take_bad R.out 4 (by have := HN.out; omega)).mono ?_); rintro e w1 ⟨rfl, h1, h2⟩; have R1 := Aside0.mk h1; have K1 := Aside0.mk h2; clear h1 h2)
  exact ⟨rfl, rfl, R1.out, K1.out⟩
/-- the first j bytes as a number, the least first -/
def leJ (y : Nat → Int) : Nat → Int
  | 0 => 0
  | j + 1 => leJ y j + y j * 256 ^ j
theorem leJ_lt {y : Nat → Int} (h : ∀ i, 0 ≤ y i ∧ y i < 256) : ∀ j, 0 ≤ leJ y j ∧ leJ y j < 256 ^ j
  | 0 => by simp [leJ]
  | j + 1 => by
    have h1 := leJ_lt h j
    have h2 := h j
    have h3 : y j * 256 ^ j ≤ 255 * 256 ^ j := Int.mul_le_mul_of_nonneg_right (by omega) (Int.pow_nonneg (by omega))
    have h4 : 0 ≤ y j * 256 ^ j := Int.mul_nonneg h2.1 (Int.pow_nonneg (by omega))
    unfold leJ
    rw [Int.pow_succ]
    constructor
    · omega
    · omega
theorem le_step {y : Nat → Int} (h : ∀ i, 0 ≤ y i ∧ y i < 256) (j : Nat) (hj : j < 4) : Go.bits .or .u32 (leJ y j) (y j * 256 ^ j) = leJ y (j + 1) ∧ 0 ≤ y j * 256 ^ j ∧ y j * 256 ^ j < 4294967296 := by
  have h1 := leJ_lt h j
  have h2 := h j
  have h4 : 0 ≤ y j * 256 ^ j := Int.mul_nonneg h2.1 (Int.pow_nonneg (by omega))
  have hj4 : j = 0 ∨ j = 1 ∨ j = 2 ∨ j = 3 := by omega
  have hp : (256 : Int) ^ j ≤ 16777216 := by rcases hj4 with rfl | rfl | rfl | rfl <;> decide
  have hpc : ((256 ^ j : Nat) : Int) = 256 ^ j := by rcases hj4 with rfl | rfl | rfl | rfl <;> rfl
  have h3 : y j * 256 ^ j ≤ 255 * 256 ^ j := Int.mul_le_mul_of_nonneg_right (by omega) (Int.pow_nonneg (by omega))
  have h5 : y j * 256 ^ j < 4294967296 := by omega
  refine ⟨?_, h4, h5⟩
  rw [u32_or _ _ h1.1 (by omega) h4 h5, Nat.or_comm]
  have e2 : (y j * 256 ^ j).toNat = (y j).toNat * 256 ^ j := by
    rw [Int.toNat_mul h2.1 (Int.pow_nonneg (by omega)), Int.toNat_pow_of_nonneg (by omega)]; rfl
  have e3 : (256 : Nat) ^ j = 2 ^ (8 * j) := by rw [Nat.pow_mul]
  rw [nat_join (8 * j)]
  · show _ = leJ y j + y j * 256 ^ j
    omega
  · rw [e2, e3]; exact Nat.mul_mod_left _ _
  · rw [← e3]
    have h6 := h1.2
    rw [← hpc] at h6
    omega
set_option maxHeartbeats 2000000 in
theorem word_ok (r : Rdr 76 base w g bs p er) (hn : p + 4 ≤ bs.length) :
    Calls Try.prog 71 #[.pointer (some ⟨g, 0, none⟩)] w fun e w' => e = .returned (.int .u32 (leJ (fun i => bs.getD (p + i) 0) 4)) ∧ Rdr 76 base w' g bs (p + 4) er ∧ Kp base w w' g := by
  have R := Aside0.mk r
  have HN := Aside0.mk hn
  have HML := Aside0.mk (midlen bs p 4 (by omega))
  have hy : ∀ i, 0 ≤ (fun i => bs.getD (p + i) 0) i ∧ (fun i => bs.getD (p + i) 0) i < 256 := fun i => getD_byte r.byte (p + i)
  obtain ⟨y, hyy⟩ : ∃ y : Nat → Int, (fun i => bs.getD (p + i) 0) = y := ⟨_, rfl⟩
  have HMG := Aside0.mk (show ∀ i, i < 4 → ((bs.take (p + 4)).drop p).getD i 0 = y i by intro i hi; rw [← hyy]; exact mid_getD bs p 4 i (by omega) hi)
  rw [hyy] at hy ⊢
  have HY := Aside0.mk hy
  clear r hn hy hyy
  go_enter Try.func71, Try.ntmps71
  go_wp2_with (go_at_call 66; (with_reducible refine (take_okI R.out 4 4 rfl HN.out).mono ?_); rintro e w1 ⟨⟨A2, c2, rfl, h0, h3⟩, h1, h2⟩; have R1 := Aside0.mk h1; have K1 := Aside0.mk h2; have HC := Aside0.mk h3; clear h1 h2 h3 h0)
  go_loopg [3, 9] 4 (fun gk v3 v9 w' => ∃ j : Nat, v9 = .int .i64 (j : Int) ∧ v3 = .int .u32 (leJ y j) ∧ Aside0 (j + gk = 4) ∧ w' = w1)
  case atStart => exact ⟨0, rfl, rfl, ⟨rfl⟩, rfl⟩
  case round =>
    obtain ⟨j, rfl, rfl, HJ, rfl⟩ := hrel
    by_cases hj : j < 4
    · have c1 : decide ((j : Int) < 4) = true := decide_eq_true (by omega)
      have c1n : decide (j < 4) = true := decide_eq_true hj
      have p1 : 0 ≤ (j : Int) := by omega
      have p2 : (j : Int) < 4 := by omega
      obtain ⟨ad, rfl, hcell⟩ := C_at HC.out j (by rw [HML.out]; exact hj)
      rw [HMG.out j hj] at hcell
      have hs := le_step HY.out j hj
      have hs2 : y j % 4294967296 * 2 ^ (8 * j) % 4294967296 = y j * 256 ^ j := by
        have h1 := HY.out j
        rw [Int.emod_eq_of_lt (b := 4294967296) h1.1 (by omega), Int.pow_mul, show ((2 : Int) ^ 8) = 256 from rfl]
        exact Int.emod_eq_of_lt hs.2.1 hs.2.2
      have HS := Aside0.mk hs
      have HS2 := Aside0.mk hs2
      clear hs hs2
      go_wp2
      go_roundg (gk - 1)
      case measure => have := HJ.out; omega
      case rel => exact ⟨j + 1, by first | rfl | go_num, by rw [HS2.out, HS.out.1], ⟨by have := HJ.out; omega⟩, rfl⟩
    · have hj4 : j = 4 := by have := HJ.out; omega
      subst hj4
      go_wp2
      go_ret
      exact ⟨rfl, R1.out, K1.out⟩
end
end Go.Proofs.Ytnohflfpahokiaa.Rd
