/- The walks of the closures that a disk's Write and Cut defer. -/
import Derived.Test.YtijbcfnkeahdoaaDisk
import Derived.Test.YtijbcfnkeahdoaaWLast
import Derived.Defers
set_option linter.unusedVariables false
set_option linter.unusedSimpArgs false
namespace Go.Proofs.Ytijbcfnkeahdoaa.Disk
open Go Go.RowKit Go.Proofs.YtijbcfnkeahdoaaW.PrintWords Go.Proofs.YtijbcfnkeahdoaaW.PrintLast

/-- the three variables that a closure holds -/
structure Box (w : World) (g p3 p4 p5 : Nat) (n : Int) (u : Value) (T : Nat) : Prop where
  b3 : w.heap[p3]? = some (.cells #[.pointer (some ⟨g, 0, none⟩)] 25 (0, 0))
  b4 : w.heap[p4]? = some (.cells #[.int .i64 n] 3 (0, 0))
  b5 : w.heap[p5]? = some (.cells #[u] T (0, 0))

/-- file n's bytes are others now -/
def DSt.put (x : DSt) (n : Int) (l : List Int) : DSt := if n = 0 then { x with f0 := l } else { x with f1 := l }
def DSt.file (x : DSt) (n : Int) : List Int := if n = 0 then x.f0 else x.f1

/-- a file's row is another one now -/
theorem Dsk.file0 {w w1 : World} {g base : Nat} {v0 v1 v : Value} {x : DSt} {l : List Int} (h : Dsk w g base v0 v1 x) (hr : FRow w1 base v l) (hg : w.grownBy w1 v0.ownBlock) (hat : v.ownBlock = v0.ownBlock ∨ ∃ b, v.ownBlock = some b ∧ w.heap.size ≤ b) (hl : l.length ≤ 4194304) :
    Dsk (w1.setCell ⟨g, 0, none⟩ v) g base v v1 { x with f0 := l } := by
  have hb1 := blk_grown h.blk hg (h.r0.ne h.blk (by decide))
  refine ⟨blk_set hb1 0 v, hr.set hb1 (by decide) 0 v, (h.r1.grown hg (fun k hk e => ?_)).set hb1 (by decide) 0 v, fun k hk e => ?_, h.low, ?_, h.left0, h.left1, hl, h.len1⟩
  · exact h.apart k e.symm hk
  · rcases hat with hat | ⟨b, hat, hlt⟩
    · exact h.apart k (hat.symm.trans hk) e
    · have h1 := h.r1.lt k e
      have : b = k := Option.some.inj (hat.symm.trans hk)
      omega
  · simpa using Nat.le_trans h.size hg.size
theorem Dsk.file1 {w w1 : World} {g base : Nat} {v0 v1 v : Value} {x : DSt} {l : List Int} (h : Dsk w g base v0 v1 x) (hr : FRow w1 base v l) (hg : w.grownBy w1 v1.ownBlock) (hat : v.ownBlock = v1.ownBlock ∨ ∃ b, v.ownBlock = some b ∧ w.heap.size ≤ b) (hl : l.length ≤ 4194304) :
    Dsk (w1.setCell ⟨g, 1, none⟩ v) g base v0 v { x with f1 := l } := by
  have hb1 := blk_grown h.blk hg (h.r1.ne h.blk (by decide))
  refine ⟨blk_set hb1 1 v, (h.r0.grown hg (fun k hk e => ?_)).set hb1 (by decide) 1 v, hr.set hb1 (by decide) 1 v, fun k hk e => ?_, h.low, ?_, h.left0, h.left1, h.len0, hl⟩
  · exact h.apart k hk e.symm
  · rcases hat with hat | ⟨b, hat, hlt⟩
    · exact h.apart k hk (hat.symm.trans e)
    · have h1 := h.r0.lt k hk
      have : b = k := Option.some.inj (hat.symm.trans e)
      omega
  · simpa using Nat.le_trans h.size hg.size


set_option maxHeartbeats 2000000 in
set_option maxRecDepth 100000 in
theorem wclos0 {w : World} {g base p3 p4 p5 : Nat} {v0 v1 : Value} {x : DSt} {A : Option Addr} {c : Nat} {ys : List Int} (h : Dsk w g base v0 v1 x) (hb : Box w g p3 p4 p5 0 (.slice A ys.length c) 30) (hC : (Kd.int .u8).C w A ys.length ys) (hc : ys.length ≤ c) (m : Nat) (hm : m ≤ ys.length) (hl : x.f0.length + m ≤ 4194304) :
    CallsD Try.prog 30 #[.int .i64 (m : Int), .pointer (some ⟨p3, 0, none⟩), .pointer (some ⟨p4, 0, none⟩), .pointer (some ⟨p5, 0, none⟩)] .returning w fun e u w' => u = .returning ∧ e = .returned (.tuple #[]) ∧ ∃ v, Dsk w' g base v v1 { x with f0 := x.f0 ++ ys.take m } ∧ Below base w w' ∧ Only w w' g := by
  obtain ⟨i0, hi, hzz⟩ := Option.map_eq_some_iff.1 info5
  simp only [Prod.mk.injEq] at hzz
  have hsl := fun W => (print_take_int (P := Try.prog) (k := .u8) 30 5 Try.underlying30 hi hzz.2.1 A c ys (m : Int) (by omega) (by omega) hc).1 W
  have hC2 := (print_take_int (P := Try.prog) (k := .u8) 30 5 Try.underlying30 hi hzz.2.1 A c ys (m : Int) (by omega) (by omega) hc).2.1 w
  have hml : (ys.take m).length = m := by simp; omega
  simp only [Int.toNat_natCast, hml] at hsl
  simp only [Int.toNat_natCast] at hC2
  have HML := Aside0.mk hml
  have HC2 := Aside0.mk (show (Kd.int .u8).C w A (ys.take m).length (ys.take m) from Kd.C_of_reads (d := (0 : Int)) (hC2 (Kd.reads_of_C (enc := Value.int .u8) (d := (0 : Int)) (h1 := fun _ => rfl) hC)))
  have c3 : w.drew.cell? ⟨p3, 0, none⟩ = some (.pointer (some ⟨g, 0, none⟩)) := (blk_cell hb.b3 0).trans rfl
  have c4 : w.drew.cell? ⟨p4, 0, none⟩ = some (.int .i64 0) := (blk_cell hb.b4 0).trans rfl
  have c5 : w.drew.cell? ⟨p5, 0, none⟩ = some (.slice A ys.length c) := (blk_cell hb.b5 0).trans rfl
  have cg : w.drew.cell? ⟨g, 0, none⟩ = some v0 := h.c0
  have HL := Aside0.mk (show x.f0.length + (ys.take m).length ≤ 4194304 by rw [hml]; exact hl)
  have HD := Aside0.mk (h.below ((Below.refl _ _).drew : Below w.heap.size w w.drew))
  have H := HD
  have HBe := Aside0.mk ((Below.refl base w).drew : Below base w w.drew)
  have HBe2 := Aside0.mk ((Below.refl w.heap.size w).drew : Below w.heap.size w w.drew)
  have HB := Aside0.mk (show Box w.drew g p3 p4 p5 0 (.slice A ys.length c) 30 from ⟨hb.b3, hb.b4, hb.b5⟩)
  clear h hb hC hC2 hm hl hml hi hzz
  go_enter_d Try.func30, Try.ntmps30
  go_wp2
  refine start_ (n := 16) (S := fun w' => w'.cell? ⟨p3, 0, none⟩ = some (.pointer (some ⟨g, 0, none⟩)) ∧ w'.cell? ⟨p4, 0, none⟩ = some (.int .i64 0) ∧ w'.cell? ⟨p5, 0, none⟩ = some (.slice A ys.length c) ∧ w'.cell? ⟨g, 0, none⟩ = some v0) (ds := [15]) #[false, false, false, false, false, false, false, false, false, false, false, false, false, false, false, false] (by kernel_rfl) rfl rfl ⟨c3, c4, c5, cg⟩ (fun hHeld => ?_)
  refine pure_ (i := 9) (N := some 14) (v := ?_) (a' := ?_) #[false, false, false, false, false, false, false, false, false, true, false, false, false, false, false, false] rfl rfl (by kernel_rfl) (fun _ _ _ h => h) (Or.inl ⟨by rfl, ?_⟩) ?_ ?_
  rotate_left
  · intro w'
    go_simp
    with_reducible rfl
  rotate_left
  · simp only [Act.put, List.setIfInBounds_toArray, List.set_cons_zero, List.set_cons_succ, i64_w, i32_w]
    rfl
  refine take_ (i := 0) (N := some 5) (v := ?_) (a' := ?_) #[true, false, false, false, false, false, false, false, false, true, false, false, false, false, false, false] rfl rfl (by kernel_rfl) (fun _ _ _ h => h) (Or.inl ⟨by rfl, ?_⟩) hHeld ?_ ?_
  rotate_left
  · rintro w' ⟨s0, s1, s2, s3⟩
    go_simp
    with_reducible rfl
  rotate_left
  · simp only [Act.put, List.setIfInBounds_toArray, List.set_cons_zero, List.set_cons_succ, i64_w, i32_w]
    rfl
  refine pure_ (i := 12) (N := some 17) (v := ?_) (a' := ?_) #[true, false, false, false, false, false, false, false, false, true, false, false, true, false, false, false] rfl rfl (by kernel_rfl) (fun _ _ _ h => h) (Or.inl ⟨by rfl, ?_⟩) ?_ ?_
  rotate_left
  · intro w'
    go_simp
    with_reducible rfl
  rotate_left
  · simp only [Act.put, List.setIfInBounds_toArray, List.set_cons_zero, List.set_cons_succ, i64_w, i32_w]
    rfl
  refine pure_ (i := 13) (N := some 18) (v := ?_) (a' := ?_) #[true, false, false, false, false, false, false, false, false, true, false, false, true, true, false, false] rfl rfl (by kernel_rfl) (fun _ _ _ h => h) (Or.inl ⟨by rfl, ?_⟩) ?_ ?_
  rotate_left
  · intro w'
    go_simp
    with_reducible rfl
  rotate_left
  · simp only [Act.put, List.setIfInBounds_toArray, List.set_cons_zero, List.set_cons_succ, i64_w, i32_w]
    rfl
  refine take_ (i := 1) (N := some 6) (v := ?_) (a' := ?_) #[true, true, false, false, false, false, false, false, false, true, false, false, true, true, false, false] rfl rfl (by kernel_rfl) (fun _ _ _ h => h) (Or.inl ⟨by rfl, ?_⟩) hHeld ?_ ?_
  rotate_left
  · rintro w' ⟨s0, s1, s2, s3⟩
    go_simp
    with_reducible rfl
  rotate_left
  · simp only [Act.put, List.setIfInBounds_toArray, List.set_cons_zero, List.set_cons_succ, i64_w, i32_w]
    rfl
  refine take_ (i := 2) (N := some 7) (v := ?_) (a' := ?_) #[true, true, true, false, false, false, false, false, false, true, false, false, true, true, false, false] rfl rfl (by kernel_rfl) (fun _ _ _ h => h) (Or.inl ⟨by rfl, ?_⟩) hHeld ?_ ?_
  rotate_left
  · rintro w' ⟨s0, s1, s2, s3⟩
    go_simp
    with_reducible rfl
  rotate_left
  · simp only [Act.put, List.setIfInBounds_toArray, List.set_cons_zero, List.set_cons_succ, i64_w, i32_w]
    rfl
  refine pure_ (i := 4) (N := some 9) (v := ?_) (a' := ?_) #[true, true, true, false, true, false, false, false, false, true, false, false, true, true, false, false] rfl rfl (by kernel_rfl) (fun _ _ _ h => h) (Or.inl ⟨by rfl, ?_⟩) ?_ ?_
  rotate_left
  · intro w'
    go_simp
    with_reducible rfl
  rotate_left
  · simp only [Act.put, List.setIfInBounds_toArray, List.set_cons_zero, List.set_cons_succ, i64_w, i32_w]
    rfl
  refine pure_ (i := 5) (N := some 10) (v := ?_) (a' := ?_) #[true, true, true, false, true, true, false, false, false, true, false, false, true, true, false, false] rfl rfl (by kernel_rfl) (fun _ _ _ h => h) (Or.inl ⟨by rfl, ?_⟩) ?_ ?_
  rotate_left
  · intro w'
    go_simp
    with_reducible rfl
  rotate_left
  · simp only [Act.put, List.setIfInBounds_toArray, List.set_cons_zero, List.set_cons_succ, i64_w, i32_w]
    rfl
  refine take_ (i := 3) (N := some 8) (v := ?_) (a' := ?_) #[true, true, true, true, true, true, false, false, false, true, false, false, true, true, false, false] rfl rfl (by kernel_rfl) (fun _ _ _ h => h) (Or.inl ⟨by rfl, ?_⟩) hHeld ?_ ?_
  rotate_left
  · rintro w' ⟨s0, s1, s2, s3⟩
    go_simp
    with_reducible rfl
  rotate_left
  · simp only [Act.put, List.setIfInBounds_toArray, List.set_cons_zero, List.set_cons_succ, i64_w, i32_w]
    rfl
  refine pure_ (i := 6) (N := some 11) (v := ?_) (a' := ?_) #[true, true, true, true, true, true, true, false, false, true, false, false, true, true, false, false] rfl rfl (by kernel_rfl) (fun _ _ _ h => h) (Or.inl ⟨by rfl, ?_⟩) ?_ ?_
  rotate_left
  · intro w'
    go_simp
    with_reducible rfl
  rotate_left
  · simp only [Act.put, List.setIfInBounds_toArray, List.set_cons_zero, List.set_cons_succ, i64_w, i32_w]
    rfl
  refine take_ (i := 7) (N := some 12) (v := ?_) (a' := ?_) #[true, true, true, true, true, true, true, true, false, true, false, false, true, true, false, false] rfl rfl (by kernel_rfl) (fun _ _ _ h => h) (Or.inl ⟨by rfl, ?_⟩) hHeld ?_ ?_
  rotate_left
  · rintro w' ⟨s0, s1, s2, s3⟩
    go_simp
    with_reducible rfl
  rotate_left
  · simp only [Act.put, List.setIfInBounds_toArray, List.set_cons_zero, List.set_cons_succ, i64_w, i32_w]
    rfl
  refine take_ (i := 8) (N := some 13) (v := ?_) (a' := ?_) #[true, true, true, true, true, true, true, true, true, true, false, false, true, true, false, false] rfl rfl (by kernel_rfl) (fun _ _ _ h => h) (Or.inl ⟨by rfl, ?_⟩) hHeld ?_ ?_
  rotate_left
  · rintro w' ⟨s0, s1, s2, s3⟩
    go_simp
    with_reducible rfl
  rotate_left
  · simp only [Act.put, List.setIfInBounds_toArray, List.set_cons_zero, List.set_cons_succ, i64_w, i32_w]
    rfl
  refine pure_ (i := 10) (N := some 15) (v := ?_) (a' := ?_) #[true, true, true, true, true, true, true, true, true, true, true, false, true, true, false, false] rfl rfl (by kernel_rfl) (fun _ _ _ h => h) (Or.inl ⟨by rfl, ?_⟩) ?_ ?_
  rotate_left
  · intro w'
    go_simp
    with_reducible rfl
  rotate_left
  · simp only [Act.put, List.setIfInBounds_toArray, List.set_cons_zero, List.set_cons_succ, i64_w, i32_w]
    rfl
  refine one_ (i := 11) (N := some 16) #[true, true, true, true, true, true, true, true, true, true, true, true, true, true, false, false] rfl rfl (by kernel_rfl) (by decide) (fun K hK => ?_)
  refine frow_step (v := v0) (base := base) (by rfl) (ys := ys.take m) (.tmp 12) (.tmp 15) rfl rfl rfl (by rw [HML.out]; rfl) H.out.r0 HC2.out (by have := HL.out; omega) H.out.size ?_
  intro v2 w2 h1 h2 h3
  obtain ⟨A2, c2, rfl⟩ := h1.slice
  rw [List.length_append, HML.out] at h1 h3 ⊢
  have hb1 := blk_grown H.out.blk h2 (H.out.r0.ne H.out.blk (by decide))
  have q3 := (blk_cell (blk_grown HB.out.b3 h2 (H.out.r0.ne HB.out.b3 (by decide))) 0).trans rfl
  have q4 := (blk_cell (blk_grown HB.out.b4 h2 (H.out.r0.ne HB.out.b4 (by decide))) 0).trans rfl
  have q5 := (blk_cell (blk_grown HB.out.b5 h2 (H.out.r0.ne HB.out.b5 (by decide))) 0).trans rfl
  have qg := (blk_cell hb1 0).trans rfl
  have qf : w2.frozen? ⟨g, 0, none⟩ = false := blk_frozen hb1 0
  have K1 := Aside0.mk h1
  have K2 := Aside0.mk h2
  have K3 := Aside0.mk h3
  clear h1 h2 h3 hb1
  refine hK.out _ _ ⟨q3, q4, q5, qg⟩ (fun hHeld => ?_)
  clear hK K
  refine norm_ (a' := ?_) ?_ ?_
  rotate_left
  · show Act.put _ (some 16) _ = _
    simp only [Act.put, List.setIfInBounds_toArray, List.set_cons_zero, List.set_cons_succ, i64_w, i32_w]
    rfl
  refine pure_ (i := 14) (N := some 19) (v := ?_) (a' := ?_) #[true, true, true, true, true, true, true, true, true, true, true, true, true, true, true, false] rfl rfl (by kernel_rfl) (fun _ _ _ h => h) (Or.inl ⟨by rfl, ?_⟩) ?_ ?_
  rotate_left
  · intro w'
    go_simp
    with_reducible rfl
  rotate_left
  · simp only [Act.put, List.setIfInBounds_toArray, List.set_cons_zero, List.set_cons_succ, i64_w, i32_w]
    rfl
  refine last_ (i := 15) (N := none) #[true, true, true, true, true, true, true, true, true, true, true, true, true, true, true, true] rfl rfl (by kernel_rfl) (by decide) (fun K hK => ?_)
  refine skip_ (w1 := ?_) (by rfl) rfl ?_ ?_
  rotate_left
  · go_simp
    rfl
  refine hK.out _ _ ?_
  clear hK K
  refine done_ (by kernel_rfl) ?_

  go_end0
  have hlen : (x.f0 ++ ys.take m).length ≤ 4194304 := by rw [List.length_append]; exact HL.out
  refine ⟨rfl, _, H.out.file0 K1.out K2.out K3.out hlen, ((HBe.out.grown K2.out (by have := HBe.out.size; have := H.out.size; omega) (fun k hk => H.out.r0.low k hk)).setCell H.out.low _), ?_⟩
  exact ((Only.of_below HBe2.out g).trans (Only.of_grown K2.out H.out.r0 g)).set 0 _


set_option maxHeartbeats 2000000 in
set_option maxRecDepth 100000 in
theorem wclos1 {w : World} {g base p3 p4 p5 : Nat} {v0 v1 : Value} {x : DSt} {A : Option Addr} {c : Nat} {ys : List Int} (h : Dsk w g base v0 v1 x) (hb : Box w g p3 p4 p5 1 (.slice A ys.length c) 30) (hC : (Kd.int .u8).C w A ys.length ys) (hc : ys.length ≤ c) (m : Nat) (hm : m ≤ ys.length) (hl : x.f1.length + m ≤ 4194304) :
    CallsD Try.prog 30 #[.int .i64 (m : Int), .pointer (some ⟨p3, 0, none⟩), .pointer (some ⟨p4, 0, none⟩), .pointer (some ⟨p5, 0, none⟩)] .returning w fun e u w' => u = .returning ∧ e = .returned (.tuple #[]) ∧ ∃ v, Dsk w' g base v0 v { x with f1 := x.f1 ++ ys.take m } ∧ Below base w w' ∧ Only w w' g := by
  obtain ⟨i0, hi, hzz⟩ := Option.map_eq_some_iff.1 info5
  simp only [Prod.mk.injEq] at hzz
  have hsl := fun W => (print_take_int (P := Try.prog) (k := .u8) 30 5 Try.underlying30 hi hzz.2.1 A c ys (m : Int) (by omega) (by omega) hc).1 W
  have hC2 := (print_take_int (P := Try.prog) (k := .u8) 30 5 Try.underlying30 hi hzz.2.1 A c ys (m : Int) (by omega) (by omega) hc).2.1 w
  have hml : (ys.take m).length = m := by simp; omega
  simp only [Int.toNat_natCast, hml] at hsl
  simp only [Int.toNat_natCast] at hC2
  have HML := Aside0.mk hml
  have HC2 := Aside0.mk (show (Kd.int .u8).C w A (ys.take m).length (ys.take m) from Kd.C_of_reads (d := (0 : Int)) (hC2 (Kd.reads_of_C (enc := Value.int .u8) (d := (0 : Int)) (h1 := fun _ => rfl) hC)))
  have c3 : w.drew.cell? ⟨p3, 0, none⟩ = some (.pointer (some ⟨g, 0, none⟩)) := (blk_cell hb.b3 0).trans rfl
  have c4 : w.drew.cell? ⟨p4, 0, none⟩ = some (.int .i64 1) := (blk_cell hb.b4 0).trans rfl
  have c5 : w.drew.cell? ⟨p5, 0, none⟩ = some (.slice A ys.length c) := (blk_cell hb.b5 0).trans rfl
  have cg : w.drew.cell? ⟨g, 1, none⟩ = some v1 := h.c1
  have HL := Aside0.mk (show x.f1.length + (ys.take m).length ≤ 4194304 by rw [hml]; exact hl)
  have HD := Aside0.mk (h.below ((Below.refl _ _).drew : Below w.heap.size w w.drew))
  have H := HD
  have HBe := Aside0.mk ((Below.refl base w).drew : Below base w w.drew)
  have HBe2 := Aside0.mk ((Below.refl w.heap.size w).drew : Below w.heap.size w w.drew)
  have HB := Aside0.mk (show Box w.drew g p3 p4 p5 1 (.slice A ys.length c) 30 from ⟨hb.b3, hb.b4, hb.b5⟩)
  clear h hb hC hC2 hm hl hml hi hzz
  go_enter_d Try.func30, Try.ntmps30
  go_wp2
  refine start_ (n := 16) (S := fun w' => w'.cell? ⟨p3, 0, none⟩ = some (.pointer (some ⟨g, 0, none⟩)) ∧ w'.cell? ⟨p4, 0, none⟩ = some (.int .i64 1) ∧ w'.cell? ⟨p5, 0, none⟩ = some (.slice A ys.length c) ∧ w'.cell? ⟨g, 1, none⟩ = some v1) (ds := [15]) #[false, false, false, false, false, false, false, false, false, false, false, false, false, false, false, false] (by kernel_rfl) rfl rfl ⟨c3, c4, c5, cg⟩ (fun hHeld => ?_)
  refine pure_ (i := 9) (N := some 14) (v := ?_) (a' := ?_) #[false, false, false, false, false, false, false, false, false, true, false, false, false, false, false, false] rfl rfl (by kernel_rfl) (fun _ _ _ h => h) (Or.inl ⟨by rfl, ?_⟩) ?_ ?_
  rotate_left
  · intro w'
    go_simp
    with_reducible rfl
  rotate_left
  · simp only [Act.put, List.setIfInBounds_toArray, List.set_cons_zero, List.set_cons_succ, i64_w, i32_w]
    rfl
  refine take_ (i := 0) (N := some 5) (v := ?_) (a' := ?_) #[true, false, false, false, false, false, false, false, false, true, false, false, false, false, false, false] rfl rfl (by kernel_rfl) (fun _ _ _ h => h) (Or.inl ⟨by rfl, ?_⟩) hHeld ?_ ?_
  rotate_left
  · rintro w' ⟨s0, s1, s2, s3⟩
    go_simp
    with_reducible rfl
  rotate_left
  · simp only [Act.put, List.setIfInBounds_toArray, List.set_cons_zero, List.set_cons_succ, i64_w, i32_w]
    rfl
  refine pure_ (i := 12) (N := some 17) (v := ?_) (a' := ?_) #[true, false, false, false, false, false, false, false, false, true, false, false, true, false, false, false] rfl rfl (by kernel_rfl) (fun _ _ _ h => h) (Or.inl ⟨by rfl, ?_⟩) ?_ ?_
  rotate_left
  · intro w'
    go_simp
    with_reducible rfl
  rotate_left
  · simp only [Act.put, List.setIfInBounds_toArray, List.set_cons_zero, List.set_cons_succ, i64_w, i32_w]
    rfl
  refine pure_ (i := 13) (N := some 18) (v := ?_) (a' := ?_) #[true, false, false, false, false, false, false, false, false, true, false, false, true, true, false, false] rfl rfl (by kernel_rfl) (fun _ _ _ h => h) (Or.inl ⟨by rfl, ?_⟩) ?_ ?_
  rotate_left
  · intro w'
    go_simp
    with_reducible rfl
  rotate_left
  · simp only [Act.put, List.setIfInBounds_toArray, List.set_cons_zero, List.set_cons_succ, i64_w, i32_w]
    rfl
  refine take_ (i := 1) (N := some 6) (v := ?_) (a' := ?_) #[true, true, false, false, false, false, false, false, false, true, false, false, true, true, false, false] rfl rfl (by kernel_rfl) (fun _ _ _ h => h) (Or.inl ⟨by rfl, ?_⟩) hHeld ?_ ?_
  rotate_left
  · rintro w' ⟨s0, s1, s2, s3⟩
    go_simp
    with_reducible rfl
  rotate_left
  · simp only [Act.put, List.setIfInBounds_toArray, List.set_cons_zero, List.set_cons_succ, i64_w, i32_w]
    rfl
  refine take_ (i := 2) (N := some 7) (v := ?_) (a' := ?_) #[true, true, true, false, false, false, false, false, false, true, false, false, true, true, false, false] rfl rfl (by kernel_rfl) (fun _ _ _ h => h) (Or.inl ⟨by rfl, ?_⟩) hHeld ?_ ?_
  rotate_left
  · rintro w' ⟨s0, s1, s2, s3⟩
    go_simp
    with_reducible rfl
  rotate_left
  · simp only [Act.put, List.setIfInBounds_toArray, List.set_cons_zero, List.set_cons_succ, i64_w, i32_w]
    rfl
  refine pure_ (i := 4) (N := some 9) (v := ?_) (a' := ?_) #[true, true, true, false, true, false, false, false, false, true, false, false, true, true, false, false] rfl rfl (by kernel_rfl) (fun _ _ _ h => h) (Or.inl ⟨by rfl, ?_⟩) ?_ ?_
  rotate_left
  · intro w'
    go_simp
    with_reducible rfl
  rotate_left
  · simp only [Act.put, List.setIfInBounds_toArray, List.set_cons_zero, List.set_cons_succ, i64_w, i32_w]
    rfl
  refine pure_ (i := 5) (N := some 10) (v := ?_) (a' := ?_) #[true, true, true, false, true, true, false, false, false, true, false, false, true, true, false, false] rfl rfl (by kernel_rfl) (fun _ _ _ h => h) (Or.inl ⟨by rfl, ?_⟩) ?_ ?_
  rotate_left
  · intro w'
    go_simp
    with_reducible rfl
  rotate_left
  · simp only [Act.put, List.setIfInBounds_toArray, List.set_cons_zero, List.set_cons_succ, i64_w, i32_w]
    rfl
  refine take_ (i := 3) (N := some 8) (v := ?_) (a' := ?_) #[true, true, true, true, true, true, false, false, false, true, false, false, true, true, false, false] rfl rfl (by kernel_rfl) (fun _ _ _ h => h) (Or.inl ⟨by rfl, ?_⟩) hHeld ?_ ?_
  rotate_left
  · rintro w' ⟨s0, s1, s2, s3⟩
    go_simp
    with_reducible rfl
  rotate_left
  · simp only [Act.put, List.setIfInBounds_toArray, List.set_cons_zero, List.set_cons_succ, i64_w, i32_w]
    rfl
  refine pure_ (i := 6) (N := some 11) (v := ?_) (a' := ?_) #[true, true, true, true, true, true, true, false, false, true, false, false, true, true, false, false] rfl rfl (by kernel_rfl) (fun _ _ _ h => h) (Or.inl ⟨by rfl, ?_⟩) ?_ ?_
  rotate_left
  · intro w'
    go_simp
    with_reducible rfl
  rotate_left
  · simp only [Act.put, List.setIfInBounds_toArray, List.set_cons_zero, List.set_cons_succ, i64_w, i32_w]
    rfl
  refine take_ (i := 7) (N := some 12) (v := ?_) (a' := ?_) #[true, true, true, true, true, true, true, true, false, true, false, false, true, true, false, false] rfl rfl (by kernel_rfl) (fun _ _ _ h => h) (Or.inl ⟨by rfl, ?_⟩) hHeld ?_ ?_
  rotate_left
  · rintro w' ⟨s0, s1, s2, s3⟩
    go_simp
    with_reducible rfl
  rotate_left
  · simp only [Act.put, List.setIfInBounds_toArray, List.set_cons_zero, List.set_cons_succ, i64_w, i32_w]
    rfl
  refine take_ (i := 8) (N := some 13) (v := ?_) (a' := ?_) #[true, true, true, true, true, true, true, true, true, true, false, false, true, true, false, false] rfl rfl (by kernel_rfl) (fun _ _ _ h => h) (Or.inl ⟨by rfl, ?_⟩) hHeld ?_ ?_
  rotate_left
  · rintro w' ⟨s0, s1, s2, s3⟩
    go_simp
    with_reducible rfl
  rotate_left
  · simp only [Act.put, List.setIfInBounds_toArray, List.set_cons_zero, List.set_cons_succ, i64_w, i32_w]
    rfl
  refine pure_ (i := 10) (N := some 15) (v := ?_) (a' := ?_) #[true, true, true, true, true, true, true, true, true, true, true, false, true, true, false, false] rfl rfl (by kernel_rfl) (fun _ _ _ h => h) (Or.inl ⟨by rfl, ?_⟩) ?_ ?_
  rotate_left
  · intro w'
    go_simp
    with_reducible rfl
  rotate_left
  · simp only [Act.put, List.setIfInBounds_toArray, List.set_cons_zero, List.set_cons_succ, i64_w, i32_w]
    rfl
  refine one_ (i := 11) (N := some 16) #[true, true, true, true, true, true, true, true, true, true, true, true, true, true, false, false] rfl rfl (by kernel_rfl) (by decide) (fun K hK => ?_)
  refine frow_step (v := v1) (base := base) (by rfl) (ys := ys.take m) (.tmp 12) (.tmp 15) rfl rfl rfl (by rw [HML.out]; rfl) H.out.r1 HC2.out (by have := HL.out; omega) H.out.size ?_
  intro v2 w2 h1 h2 h3
  obtain ⟨A2, c2, rfl⟩ := h1.slice
  rw [List.length_append, HML.out] at h1 h3 ⊢
  have hb1 := blk_grown H.out.blk h2 (H.out.r1.ne H.out.blk (by decide))
  have q3 := (blk_cell (blk_grown HB.out.b3 h2 (H.out.r1.ne HB.out.b3 (by decide))) 0).trans rfl
  have q4 := (blk_cell (blk_grown HB.out.b4 h2 (H.out.r1.ne HB.out.b4 (by decide))) 0).trans rfl
  have q5 := (blk_cell (blk_grown HB.out.b5 h2 (H.out.r1.ne HB.out.b5 (by decide))) 0).trans rfl
  have qg := (blk_cell hb1 1).trans rfl
  have qf : w2.frozen? ⟨g, 1, none⟩ = false := blk_frozen hb1 1
  have K1 := Aside0.mk h1
  have K2 := Aside0.mk h2
  have K3 := Aside0.mk h3
  clear h1 h2 h3 hb1
  refine hK.out _ _ ⟨q3, q4, q5, qg⟩ (fun hHeld => ?_)
  clear hK K
  refine norm_ (a' := ?_) ?_ ?_
  rotate_left
  · show Act.put _ (some 16) _ = _
    simp only [Act.put, List.setIfInBounds_toArray, List.set_cons_zero, List.set_cons_succ, i64_w, i32_w]
    rfl
  refine pure_ (i := 14) (N := some 19) (v := ?_) (a' := ?_) #[true, true, true, true, true, true, true, true, true, true, true, true, true, true, true, false] rfl rfl (by kernel_rfl) (fun _ _ _ h => h) (Or.inl ⟨by rfl, ?_⟩) ?_ ?_
  rotate_left
  · intro w'
    go_simp
    with_reducible rfl
  rotate_left
  · simp only [Act.put, List.setIfInBounds_toArray, List.set_cons_zero, List.set_cons_succ, i64_w, i32_w]
    rfl
  refine last_ (i := 15) (N := none) #[true, true, true, true, true, true, true, true, true, true, true, true, true, true, true, true] rfl rfl (by kernel_rfl) (by decide) (fun K hK => ?_)
  refine skip_ (w1 := ?_) (by rfl) rfl ?_ ?_
  rotate_left
  · go_simp
    rfl
  refine hK.out _ _ ?_
  clear hK K
  refine done_ (by kernel_rfl) ?_

  go_end0
  have hlen : (x.f1 ++ ys.take m).length ≤ 4194304 := by rw [List.length_append]; exact HL.out
  refine ⟨rfl, _, H.out.file1 K1.out K2.out K3.out hlen, ((HBe.out.grown K2.out (by have := HBe.out.size; have := H.out.size; omega) (fun k hk => H.out.r1.low k hk)).setCell H.out.low _), ?_⟩
  exact ((Only.of_below HBe2.out g).trans (Only.of_grown K2.out H.out.r1 g)).set 1 _


set_option maxHeartbeats 2000000 in
set_option maxRecDepth 100000 in
theorem cclos0 {w : World} {g base p3 p4 p5 : Nat} {v0 v1 : Value} {x : DSt} (h : Dsk w g base v0 v1 x) (m : Nat) (hm : m ≤ x.f0.length) (hb : Box w g p3 p4 p5 0 (.int .i64 (m : Int)) 3) :
    CallsD Try.prog 32 #[.int .i64 1, .pointer (some ⟨p3, 0, none⟩), .pointer (some ⟨p4, 0, none⟩), .pointer (some ⟨p5, 0, none⟩)] .returning w fun e u w' => u = .returning ∧ e = .returned (.tuple #[]) ∧ ∃ v, Dsk w' g base v v1 { x with f0 := x.f0.take m } ∧ Below base w w' ∧ Only w w' g := by
  obtain ⟨i0, hi, hzz⟩ := Option.map_eq_some_iff.1 info5
  simp only [Prod.mk.injEq] at hzz
  obtain ⟨A, c, rfl, hc, hC⟩ := h.r0.reads
  have hsl := fun W => (print_take_int (P := Try.prog) (k := .u8) 30 5 Try.underlying30 hi hzz.2.1 A c x.f0 (m : Int) (by omega) (by omega) hc).1 W
  have hml : (x.f0.take m).length = m := by simp; omega
  simp only [Int.toNat_natCast, hml] at hsl
  have HML := Aside0.mk hml
  have c3 : w.drew.cell? ⟨p3, 0, none⟩ = some (.pointer (some ⟨g, 0, none⟩)) := (blk_cell hb.b3 0).trans rfl
  have c4 : w.drew.cell? ⟨p4, 0, none⟩ = some (.int .i64 0) := (blk_cell hb.b4 0).trans rfl
  have c5 : w.drew.cell? ⟨p5, 0, none⟩ = some (.int .i64 (m : Int)) := (blk_cell hb.b5 0).trans rfl
  have cg : w.drew.cell? ⟨g, 0, none⟩ = some (.slice A x.f0.length c) := h.c0
  have qf : w.drew.frozen? ⟨g, 0, none⟩ = false := h.fz 0
  have H := Aside0.mk (h.below ((Below.refl _ _).drew : Below w.heap.size w w.drew))
  have HBe := Aside0.mk ((Below.refl base w).drew : Below base w w.drew)
  have HBe2 := Aside0.mk ((Below.refl w.heap.size w).drew : Below w.heap.size w w.drew)
  have HM := Aside0.mk hm
  have HC := Aside0.mk hc
  clear h hb hm hc hC hml hi hzz
  go_enter_d Try.func32, Try.ntmps32
  go_wp2
  refine start_ (n := 14) (S := fun w' => w'.cell? ⟨p3, 0, none⟩ = some (.pointer (some ⟨g, 0, none⟩)) ∧ w'.cell? ⟨p4, 0, none⟩ = some (.int .i64 0) ∧ w'.cell? ⟨p5, 0, none⟩ = some (.int .i64 (m : Int)) ∧ w'.cell? ⟨g, 0, none⟩ = some (.slice A x.f0.length c)) (ds := [13]) #[false, false, false, false, false, false, false, false, false, false, false, false, false, false] (by kernel_rfl) rfl rfl ⟨c3, c4, c5, cg⟩ (fun hHeld => ?_)
  refine take_ (i := 0) (N := some 7) (v := ?_) (a' := ?_) #[true, false, false, false, false, false, false, false, false, false, false, false, false, false] rfl rfl (by kernel_rfl) (fun _ _ _ h => h) (Or.inl ⟨by rfl, ?_⟩) hHeld ?_ ?_
  rotate_left
  · rintro w' ⟨s0, s1, s2, s3⟩
    go_simp
    with_reducible rfl
  rotate_left
  · simp only [Act.put, List.setIfInBounds_toArray, List.set_cons_zero, List.set_cons_succ, i64_w, i32_w]
    rfl
  refine pure_ (i := 10) (N := some 17) (v := ?_) (a' := ?_) #[true, false, false, false, false, false, false, false, false, false, true, false, false, false] rfl rfl (by kernel_rfl) (fun _ _ _ h => h) (Or.inl ⟨by rfl, ?_⟩) ?_ ?_
  rotate_left
  · intro w'
    go_simp
    with_reducible rfl
  rotate_left
  · simp only [Act.put, List.setIfInBounds_toArray, List.set_cons_zero, List.set_cons_succ, i64_w, i32_w]
    rfl
  refine pure_ (i := 11) (N := some 18) (v := ?_) (a' := ?_) #[true, false, false, false, false, false, false, false, false, false, true, true, false, false] rfl rfl (by kernel_rfl) (fun _ _ _ h => h) (Or.inl ⟨by rfl, ?_⟩) ?_ ?_
  rotate_left
  · intro w'
    go_simp
    with_reducible rfl
  rotate_left
  · simp only [Act.put, List.setIfInBounds_toArray, List.set_cons_zero, List.set_cons_succ, i64_w, i32_w]
    rfl
  refine take_ (i := 1) (N := some 8) (v := ?_) (a' := ?_) #[true, true, false, false, false, false, false, false, false, false, true, true, false, false] rfl rfl (by kernel_rfl) (fun _ _ _ h => h) (Or.inl ⟨by rfl, ?_⟩) hHeld ?_ ?_
  rotate_left
  · rintro w' ⟨s0, s1, s2, s3⟩
    go_simp
    with_reducible rfl
  rotate_left
  · simp only [Act.put, List.setIfInBounds_toArray, List.set_cons_zero, List.set_cons_succ, i64_w, i32_w]
    rfl
  refine take_ (i := 2) (N := some 9) (v := ?_) (a' := ?_) #[true, true, true, false, false, false, false, false, false, false, true, true, false, false] rfl rfl (by kernel_rfl) (fun _ _ _ h => h) (Or.inl ⟨by rfl, ?_⟩) hHeld ?_ ?_
  rotate_left
  · rintro w' ⟨s0, s1, s2, s3⟩
    go_simp
    with_reducible rfl
  rotate_left
  · simp only [Act.put, List.setIfInBounds_toArray, List.set_cons_zero, List.set_cons_succ, i64_w, i32_w]
    rfl
  refine pure_ (i := 4) (N := some 11) (v := ?_) (a' := ?_) #[true, true, true, false, true, false, false, false, false, false, true, true, false, false] rfl rfl (by kernel_rfl) (fun _ _ _ h => h) (Or.inl ⟨by rfl, ?_⟩) ?_ ?_
  rotate_left
  · intro w'
    go_simp
    with_reducible rfl
  rotate_left
  · simp only [Act.put, List.setIfInBounds_toArray, List.set_cons_zero, List.set_cons_succ, i64_w, i32_w]
    rfl
  refine pure_ (i := 5) (N := some 12) (v := ?_) (a' := ?_) #[true, true, true, false, true, true, false, false, false, false, true, true, false, false] rfl rfl (by kernel_rfl) (fun _ _ _ h => h) (Or.inl ⟨by rfl, ?_⟩) ?_ ?_
  rotate_left
  · intro w'
    go_simp
    with_reducible rfl
  rotate_left
  · simp only [Act.put, List.setIfInBounds_toArray, List.set_cons_zero, List.set_cons_succ, i64_w, i32_w]
    rfl
  refine take_ (i := 3) (N := some 10) (v := ?_) (a' := ?_) #[true, true, true, true, true, true, false, false, false, false, true, true, false, false] rfl rfl (by kernel_rfl) (fun _ _ _ h => h) (Or.inl ⟨by rfl, ?_⟩) hHeld ?_ ?_
  rotate_left
  · rintro w' ⟨s0, s1, s2, s3⟩
    go_simp
    with_reducible rfl
  rotate_left
  · simp only [Act.put, List.setIfInBounds_toArray, List.set_cons_zero, List.set_cons_succ, i64_w, i32_w]
    rfl
  refine pure_ (i := 6) (N := some 13) (v := ?_) (a' := ?_) #[true, true, true, true, true, true, true, false, false, false, true, true, false, false] rfl rfl (by kernel_rfl) (fun _ _ _ h => h) (Or.inl ⟨by rfl, ?_⟩) ?_ ?_
  rotate_left
  · intro w'
    go_simp
    with_reducible rfl
  rotate_left
  · simp only [Act.put, List.setIfInBounds_toArray, List.set_cons_zero, List.set_cons_succ, i64_w, i32_w]
    rfl
  refine take_ (i := 7) (N := some 14) (v := ?_) (a' := ?_) #[true, true, true, true, true, true, true, true, false, false, true, true, false, false] rfl rfl (by kernel_rfl) (fun _ _ _ h => h) (Or.inl ⟨by rfl, ?_⟩) hHeld ?_ ?_
  rotate_left
  · rintro w' ⟨s0, s1, s2, s3⟩
    go_simp
    with_reducible rfl
  rotate_left
  · simp only [Act.put, List.setIfInBounds_toArray, List.set_cons_zero, List.set_cons_succ, i64_w, i32_w]
    rfl
  refine take_ (i := 8) (N := some 15) (v := ?_) (a' := ?_) #[true, true, true, true, true, true, true, true, true, false, true, true, false, false] rfl rfl (by kernel_rfl) (fun _ _ _ h => h) (Or.inl ⟨by rfl, ?_⟩) hHeld ?_ ?_
  rotate_left
  · rintro w' ⟨s0, s1, s2, s3⟩
    go_simp
    with_reducible rfl
  rotate_left
  · simp only [Act.put, List.setIfInBounds_toArray, List.set_cons_zero, List.set_cons_succ, i64_w, i32_w]
    rfl
  refine pure_ (i := 9) (N := some 16) (v := ?_) (a' := ?_) #[true, true, true, true, true, true, true, true, true, true, true, true, false, false] rfl rfl (by kernel_rfl) (fun _ _ _ h => h) (Or.inl ⟨by rfl, ?_⟩) ?_ ?_
  rotate_left
  · intro w'
    go_simp
    with_reducible rfl
  rotate_left
  · simp only [Act.put, List.setIfInBounds_toArray, List.set_cons_zero, List.set_cons_succ, i64_w, i32_w]
    rfl
  refine pure_ (i := 12) (N := some 19) (v := ?_) (a' := ?_) #[true, true, true, true, true, true, true, true, true, true, true, true, true, false] rfl rfl (by kernel_rfl) (fun _ _ _ h => h) (Or.inl ⟨by rfl, ?_⟩) ?_ ?_
  rotate_left
  · intro w'
    go_simp
    with_reducible rfl
  rotate_left
  · simp only [Act.put, List.setIfInBounds_toArray, List.set_cons_zero, List.set_cons_succ, i64_w, i32_w]
    rfl
  refine last_ (i := 13) (N := none) #[true, true, true, true, true, true, true, true, true, true, true, true, true, true] rfl rfl (by kernel_rfl) (by decide) (fun K hK => ?_)
  refine skip_ (w1 := ?_) (by rfl) rfl ?_ ?_
  rotate_left
  · go_simp
    rfl
  refine hK.out _ _ ?_
  clear hK K
  refine done_ (by kernel_rfl) ?_

  go_end0
  have hr := H.out.r0.take m c HM.out (by have := HM.out; have := HC.out; omega) (Nat.le_refl _)
  refine ⟨rfl, _, H.out.file0 (l := x.f0.take m) hr (World.grownBy.refl _ _) (.inl (by cases A <;> rfl)) (by have := H.out.len0; rw [HML.out]; have := HM.out; omega), HBe.out.setCell H.out.low _, (Only.of_below HBe2.out g).set 0 _⟩


set_option maxHeartbeats 2000000 in
set_option maxRecDepth 100000 in
theorem cclos1 {w : World} {g base p3 p4 p5 : Nat} {v0 v1 : Value} {x : DSt} (h : Dsk w g base v0 v1 x) (m : Nat) (hm : m ≤ x.f1.length) (hb : Box w g p3 p4 p5 1 (.int .i64 (m : Int)) 3) :
    CallsD Try.prog 32 #[.int .i64 1, .pointer (some ⟨p3, 0, none⟩), .pointer (some ⟨p4, 0, none⟩), .pointer (some ⟨p5, 0, none⟩)] .returning w fun e u w' => u = .returning ∧ e = .returned (.tuple #[]) ∧ ∃ v, Dsk w' g base v0 v { x with f1 := x.f1.take m } ∧ Below base w w' ∧ Only w w' g := by
  obtain ⟨i0, hi, hzz⟩ := Option.map_eq_some_iff.1 info5
  simp only [Prod.mk.injEq] at hzz
  obtain ⟨A, c, rfl, hc, hC⟩ := h.r1.reads
  have hsl := fun W => (print_take_int (P := Try.prog) (k := .u8) 30 5 Try.underlying30 hi hzz.2.1 A c x.f1 (m : Int) (by omega) (by omega) hc).1 W
  have hml : (x.f1.take m).length = m := by simp; omega
  simp only [Int.toNat_natCast, hml] at hsl
  have HML := Aside0.mk hml
  have c3 : w.drew.cell? ⟨p3, 0, none⟩ = some (.pointer (some ⟨g, 0, none⟩)) := (blk_cell hb.b3 0).trans rfl
  have c4 : w.drew.cell? ⟨p4, 0, none⟩ = some (.int .i64 1) := (blk_cell hb.b4 0).trans rfl
  have c5 : w.drew.cell? ⟨p5, 0, none⟩ = some (.int .i64 (m : Int)) := (blk_cell hb.b5 0).trans rfl
  have cg : w.drew.cell? ⟨g, 1, none⟩ = some (.slice A x.f1.length c) := h.c1
  have qf : w.drew.frozen? ⟨g, 1, none⟩ = false := h.fz 1
  have H := Aside0.mk (h.below ((Below.refl _ _).drew : Below w.heap.size w w.drew))
  have HBe := Aside0.mk ((Below.refl base w).drew : Below base w w.drew)
  have HBe2 := Aside0.mk ((Below.refl w.heap.size w).drew : Below w.heap.size w w.drew)
  have HM := Aside0.mk hm
  have HC := Aside0.mk hc
  clear h hb hm hc hC hml hi hzz
  go_enter_d Try.func32, Try.ntmps32
  go_wp2
  refine start_ (n := 14) (S := fun w' => w'.cell? ⟨p3, 0, none⟩ = some (.pointer (some ⟨g, 0, none⟩)) ∧ w'.cell? ⟨p4, 0, none⟩ = some (.int .i64 1) ∧ w'.cell? ⟨p5, 0, none⟩ = some (.int .i64 (m : Int)) ∧ w'.cell? ⟨g, 1, none⟩ = some (.slice A x.f1.length c)) (ds := [13]) #[false, false, false, false, false, false, false, false, false, false, false, false, false, false] (by kernel_rfl) rfl rfl ⟨c3, c4, c5, cg⟩ (fun hHeld => ?_)
  refine take_ (i := 0) (N := some 7) (v := ?_) (a' := ?_) #[true, false, false, false, false, false, false, false, false, false, false, false, false, false] rfl rfl (by kernel_rfl) (fun _ _ _ h => h) (Or.inl ⟨by rfl, ?_⟩) hHeld ?_ ?_
  rotate_left
  · rintro w' ⟨s0, s1, s2, s3⟩
    go_simp
    with_reducible rfl
  rotate_left
  · simp only [Act.put, List.setIfInBounds_toArray, List.set_cons_zero, List.set_cons_succ, i64_w, i32_w]
    rfl
  refine pure_ (i := 10) (N := some 17) (v := ?_) (a' := ?_) #[true, false, false, false, false, false, false, false, false, false, true, false, false, false] rfl rfl (by kernel_rfl) (fun _ _ _ h => h) (Or.inl ⟨by rfl, ?_⟩) ?_ ?_
  rotate_left
  · intro w'
    go_simp
    with_reducible rfl
  rotate_left
  · simp only [Act.put, List.setIfInBounds_toArray, List.set_cons_zero, List.set_cons_succ, i64_w, i32_w]
    rfl
  refine pure_ (i := 11) (N := some 18) (v := ?_) (a' := ?_) #[true, false, false, false, false, false, false, false, false, false, true, true, false, false] rfl rfl (by kernel_rfl) (fun _ _ _ h => h) (Or.inl ⟨by rfl, ?_⟩) ?_ ?_
  rotate_left
  · intro w'
    go_simp
    with_reducible rfl
  rotate_left
  · simp only [Act.put, List.setIfInBounds_toArray, List.set_cons_zero, List.set_cons_succ, i64_w, i32_w]
    rfl
  refine take_ (i := 1) (N := some 8) (v := ?_) (a' := ?_) #[true, true, false, false, false, false, false, false, false, false, true, true, false, false] rfl rfl (by kernel_rfl) (fun _ _ _ h => h) (Or.inl ⟨by rfl, ?_⟩) hHeld ?_ ?_
  rotate_left
  · rintro w' ⟨s0, s1, s2, s3⟩
    go_simp
    with_reducible rfl
  rotate_left
  · simp only [Act.put, List.setIfInBounds_toArray, List.set_cons_zero, List.set_cons_succ, i64_w, i32_w]
    rfl
  refine take_ (i := 2) (N := some 9) (v := ?_) (a' := ?_) #[true, true, true, false, false, false, false, false, false, false, true, true, false, false] rfl rfl (by kernel_rfl) (fun _ _ _ h => h) (Or.inl ⟨by rfl, ?_⟩) hHeld ?_ ?_
  rotate_left
  · rintro w' ⟨s0, s1, s2, s3⟩
    go_simp
    with_reducible rfl
  rotate_left
  · simp only [Act.put, List.setIfInBounds_toArray, List.set_cons_zero, List.set_cons_succ, i64_w, i32_w]
    rfl
  refine pure_ (i := 4) (N := some 11) (v := ?_) (a' := ?_) #[true, true, true, false, true, false, false, false, false, false, true, true, false, false] rfl rfl (by kernel_rfl) (fun _ _ _ h => h) (Or.inl ⟨by rfl, ?_⟩) ?_ ?_
  rotate_left
  · intro w'
    go_simp
    with_reducible rfl
  rotate_left
  · simp only [Act.put, List.setIfInBounds_toArray, List.set_cons_zero, List.set_cons_succ, i64_w, i32_w]
    rfl
  refine pure_ (i := 5) (N := some 12) (v := ?_) (a' := ?_) #[true, true, true, false, true, true, false, false, false, false, true, true, false, false] rfl rfl (by kernel_rfl) (fun _ _ _ h => h) (Or.inl ⟨by rfl, ?_⟩) ?_ ?_
  rotate_left
  · intro w'
    go_simp
    with_reducible rfl
  rotate_left
  · simp only [Act.put, List.setIfInBounds_toArray, List.set_cons_zero, List.set_cons_succ, i64_w, i32_w]
    rfl
  refine take_ (i := 3) (N := some 10) (v := ?_) (a' := ?_) #[true, true, true, true, true, true, false, false, false, false, true, true, false, false] rfl rfl (by kernel_rfl) (fun _ _ _ h => h) (Or.inl ⟨by rfl, ?_⟩) hHeld ?_ ?_
  rotate_left
  · rintro w' ⟨s0, s1, s2, s3⟩
    go_simp
    with_reducible rfl
  rotate_left
  · simp only [Act.put, List.setIfInBounds_toArray, List.set_cons_zero, List.set_cons_succ, i64_w, i32_w]
    rfl
  refine pure_ (i := 6) (N := some 13) (v := ?_) (a' := ?_) #[true, true, true, true, true, true, true, false, false, false, true, true, false, false] rfl rfl (by kernel_rfl) (fun _ _ _ h => h) (Or.inl ⟨by rfl, ?_⟩) ?_ ?_
  rotate_left
  · intro w'
    go_simp
    with_reducible rfl
  rotate_left
  · simp only [Act.put, List.setIfInBounds_toArray, List.set_cons_zero, List.set_cons_succ, i64_w, i32_w]
    rfl
  refine take_ (i := 7) (N := some 14) (v := ?_) (a' := ?_) #[true, true, true, true, true, true, true, true, false, false, true, true, false, false] rfl rfl (by kernel_rfl) (fun _ _ _ h => h) (Or.inl ⟨by rfl, ?_⟩) hHeld ?_ ?_
  rotate_left
  · rintro w' ⟨s0, s1, s2, s3⟩
    go_simp
    with_reducible rfl
  rotate_left
  · simp only [Act.put, List.setIfInBounds_toArray, List.set_cons_zero, List.set_cons_succ, i64_w, i32_w]
    rfl
  refine take_ (i := 8) (N := some 15) (v := ?_) (a' := ?_) #[true, true, true, true, true, true, true, true, true, false, true, true, false, false] rfl rfl (by kernel_rfl) (fun _ _ _ h => h) (Or.inl ⟨by rfl, ?_⟩) hHeld ?_ ?_
  rotate_left
  · rintro w' ⟨s0, s1, s2, s3⟩
    go_simp
    with_reducible rfl
  rotate_left
  · simp only [Act.put, List.setIfInBounds_toArray, List.set_cons_zero, List.set_cons_succ, i64_w, i32_w]
    rfl
  refine pure_ (i := 9) (N := some 16) (v := ?_) (a' := ?_) #[true, true, true, true, true, true, true, true, true, true, true, true, false, false] rfl rfl (by kernel_rfl) (fun _ _ _ h => h) (Or.inl ⟨by rfl, ?_⟩) ?_ ?_
  rotate_left
  · intro w'
    go_simp
    with_reducible rfl
  rotate_left
  · simp only [Act.put, List.setIfInBounds_toArray, List.set_cons_zero, List.set_cons_succ, i64_w, i32_w]
    rfl
  refine pure_ (i := 12) (N := some 19) (v := ?_) (a' := ?_) #[true, true, true, true, true, true, true, true, true, true, true, true, true, false] rfl rfl (by kernel_rfl) (fun _ _ _ h => h) (Or.inl ⟨by rfl, ?_⟩) ?_ ?_
  rotate_left
  · intro w'
    go_simp
    with_reducible rfl
  rotate_left
  · simp only [Act.put, List.setIfInBounds_toArray, List.set_cons_zero, List.set_cons_succ, i64_w, i32_w]
    rfl
  refine last_ (i := 13) (N := none) #[true, true, true, true, true, true, true, true, true, true, true, true, true, true] rfl rfl (by kernel_rfl) (by decide) (fun K hK => ?_)
  refine skip_ (w1 := ?_) (by rfl) rfl ?_ ?_
  rotate_left
  · go_simp
    rfl
  refine hK.out _ _ ?_
  clear hK K
  refine done_ (by kernel_rfl) ?_

  go_end0
  have hr := H.out.r1.take m c HM.out (by have := HM.out; have := HC.out; omega) (Nat.le_refl _)
  refine ⟨rfl, _, H.out.file1 (l := x.f1.take m) hr (World.grownBy.refl _ _) (.inl (by cases A <;> rfl)) (by have := H.out.len1; rw [HML.out]; have := HM.out; omega), HBe.out.setCell H.out.low _, (Only.of_below HBe2.out g).set 1 _⟩


set_option maxHeartbeats 1000000 in
theorem cclos_no (p3 p4 p5 : Nat) (m : Int) (hm : m ≠ 1) (w : World) :
    CallsD Try.prog 32 #[.int .i64 m, .pointer (some ⟨p3, 0, none⟩), .pointer (some ⟨p4, 0, none⟩), .pointer (some ⟨p5, 0, none⟩)] .returning w fun e u w' => u = .returning ∧ e = .returned (.tuple #[]) ∧ w = w' := by
  have b1 : (m == 1) = false := beq_eq_false_iff_ne.mpr hm
  clear hm
  go_enter_d Try.func32, Try.ntmps32
  go_wp2
  go_end0
  exact ⟨rfl, rfl⟩

end Go.Proofs.Ytijbcfnkeahdoaa.Disk
