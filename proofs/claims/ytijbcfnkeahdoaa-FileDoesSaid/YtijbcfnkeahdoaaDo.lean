/- The walk of Do: one call of a disk, and of the reference's. -/
import Derived.Test.YtijbcfnkeahdoaaAny
import Derived.Test.YtijbcfnkeahdoaaWLast
set_option linter.unusedVariables false
set_option linter.unusedSimpArgs false
namespace Go.Proofs.Ytijbcfnkeahdoaa.Disk
open Go Go.RowKit Go.Proofs.YtijbcfnkeahdoaaW.PrintWords Go.Proofs.YtijbcfnkeahdoaaW.PrintLast

/-- the box of a call: its kind, its numbers, its bytes (a row that came in) -/
structure OpBox (w0 W : World) (b : Nat) (K n k : Int) (B : Option Addr) (ys : List Int) (c : Nat) : Prop where
  blk : W.heap[b]? = some (.cells #[.int .i64 K, .int .i64 n, .int .i64 k, .slice B ys.length c] 32 (0, 0))
  bel : Below w0.heap.size w0 W
  row : (Kd.int .u8).C w0 B ys.length ys
  cap : ys.length ≤ c
  len : ys.length ≤ 300
section
variable {w0 W W' : World} {b g h : Nat} {K n k : Int} {B : Option Addr} {ys : List Int} {c : Nat} {v0 v1 : Value} {x y : DSt}
theorem OpBox.below (o : OpBox w0 W b K n k B ys c) (hb : Below W.heap.size W W') : OpBox w0 W' b K n k B ys c := ⟨blk_below o.blk hb, below_then o.bel o.bel.size hb, o.row, o.cap, o.len⟩
theorem OpBox.dpost (o : OpBox w0 W b K n k B ys c) (d : Dsk W g w0.heap.size v0 v1 x) (p : DPost W W' g w0.heap.size y) : OpBox w0 W' b K n k B ys c := by
  obtain ⟨_, _, _, h2, h3⟩ := p
  exact ⟨(h3.2 b (blk_lt o.blk) (fun e => blk_ne o.blk d.blk (by decide) e) (fun cur e => by rw [o.blk] at e; injection e with e; injection e with _ e; cases e)).trans o.blk, o.bel.trans h2, o.row, o.cap, o.len⟩
theorem OpBox.rpost (o : OpBox w0 W b K n k B ys c) (r : RD W h w0.heap.size x) (p : RPost W W' h w0.heap.size y) : OpBox w0 W' b K n k B ys c :=
  ⟨(p.rest b (fun e => blk_ne o.blk r.blk (by decide) e)).trans o.blk, o.bel.trans p.below, o.row, o.cap, o.len⟩
theorem OpBox.c0 (o : OpBox w0 W b K n k B ys c) : W.cell? ⟨b, 0, none⟩ = some (.int .i64 K) := (blk_cell o.blk 0).trans rfl
theorem OpBox.c1 (o : OpBox w0 W b K n k B ys c) : W.cell? ⟨b, 1, none⟩ = some (.int .i64 n) := (blk_cell o.blk 1).trans rfl
theorem OpBox.c2 (o : OpBox w0 W b K n k B ys c) : W.cell? ⟨b, 2, none⟩ = some (.int .i64 k) := (blk_cell o.blk 2).trans rfl
theorem OpBox.c3 (o : OpBox w0 W b K n k B ys c) : W.cell? ⟨b, 3, none⟩ = some (.slice B ys.length c) := (blk_cell o.blk 3).trans rfl
theorem OpBox.C (o : OpBox w0 W b K n k B ys c) : (Kd.int .u8).C W B ys.length ys := Kd.C_below o.row o.bel
theorem OpBox.conv (o : OpBox w0 W b K n k B ys c) : Sem.run Try.prog (convert 30 9 (.slice B ys.length c)) W = .ok (.string (strOfNums ys)) W := Kd.C_string (P := Try.prog) (A := B) (c := c) Try.underlying30 Try.underlying5 Try.underlying9 o.C
/-- the two disks, told by one state -/
structure Both (w0 W : World) (g h : Nat) (v0 v1 : Value) (x : DSt) : Prop where
  d : Dsk W g w0.heap.size v0 v1 x
  r : RD W h w0.heap.size x
theorem Both.below (o : Both w0 W g h v0 v1 x) (hb : Below W.heap.size W W') : Both w0 W' g h v0 v1 x := ⟨o.d.below hb, o.r.below hb⟩
theorem RD.dpost (r : RD W h w0.heap.size x) (d : Dsk W g w0.heap.size v0 v1 x) (p : DPost W W' g w0.heap.size y) : RD W' h w0.heap.size x := by
  obtain ⟨_, _, _, _, h3⟩ := p
  exact r.only h3 (fun e => blk_ne r.blk d.blk (by decide) e)
end
/-- both ends of one call -/
def DoPost (w0 W : World) (g h : Nat) (e : Ending) (w' : World) : Prop := e = .returned (.bool true) ∧ (∃ v0 v1 x, Both w0 w' g h v0 v1 x) ∧ Below w0.heap.size W w'

theorem alloc_size (W : World) (o : Obj) : (W.alloc o).heap.size = W.heap.size + 1 := by simp
theorem frow_empty (W : World) (base : Nat) (hb : base ≤ W.heap.size) : FRow (W.alloc (.cells #[] 5)) base (.slice (some ⟨W.heap.size, 0, none⟩) 0 0) [] :=
  .inr ⟨_, 0, #[], rfl, hb, heap_alloc_new W _, Nat.le_refl _, by simp [maxLen], by simp, by simp [nums]⟩


set_option maxHeartbeats 2000000 in
set_option maxRecDepth 100000 in
theorem do1 {w0 w : World} {g h : Nat} {v0 v1 : Value} {x : DSt} (hb : Both w0 w g h v0 v1 x) (hB : Below w0.heap.size w0 w) (n k : Int) (hk : k < 9223372036854775808) {B : Option Addr} {ys : List Int} {c : Nat} (row : (Kd.int .u8).C w0 B ys.length ys) (cap : ys.length ≤ c) (len : ys.length ≤ 300) :
    Calls Try.prog 11 #[.pointer (some ⟨g, 0, none⟩), .pointer (some ⟨h, 0, none⟩), .agg #[.int .i64 1, .int .i64 n, .int .i64 k, .slice B ys.length c]] w (DoPost w0 w g h) := by
  have BA := Aside0.mk (below_alloc (Below.refl w.heap.size w) (.cells #[.int .i64 1, .int .i64 n, .int .i64 k, .slice B ys.length c] 32))
  have HB := Aside0.mk (hb.below BA.out)
  have F := Aside0.mk (show OpBox w0 (w.alloc (.cells #[.int .i64 1, .int .i64 n, .int .i64 k, .slice B ys.length c] 32)) w.heap.size 1 n k B ys c from ⟨blk_new w _, below_then hB hB.size BA.out, row, cap, len⟩)
  have F0 := Aside0.mk (F.out.below (Below.refl _ _).drew)
  have HBS := Aside0.mk hB
  have HK := Aside0.mk hk
  clear hb hB row cap len hk
  go_enter Try.func11, Try.ntmps11
  go_wp2
  refine start_ (n := 17) (S := fun w' => w'.cell? ⟨w.heap.size, 1, none⟩ = some (.int .i64 n) ∧ w'.cell? ⟨w.heap.size, 3, none⟩ = some (.slice B ys.length c) ∧ Sem.run Try.prog (convert 30 9 (.slice B ys.length c)) w' = .ok (.string (strOfNums ys)) w') (ds := []) #[false, false, false, false, false, false, false, false, false, false, false, false, false, false, false, false, false] (by kernel_rfl) rfl rfl ⟨F0.out.c1, F0.out.c3, F0.out.conv⟩ (fun hHeld => ?_)
  refine pure_ (i := 0) (N := some 15) (v := ?_) (a' := ?_) #[true, false, false, false, false, false, false, false, false, false, false, false, false, false, false, false, false] rfl rfl (by kernel_rfl) (fun _ _ _ h => h) (Or.inl ⟨by rfl, ?_⟩) ?_ ?_
  rotate_left
  · intro w'
    go_simp
    with_reducible rfl
  rotate_left
  · simp only [Act.put, List.setIfInBounds_toArray, List.set_cons_zero, List.set_cons_succ, i64_w, i32_w]
    rfl
  refine pure_ (i := 1) (N := some 16) (v := ?_) (a' := ?_) #[true, true, false, false, false, false, false, false, false, false, false, false, false, false, false, false, false] rfl rfl (by kernel_rfl) (fun _ _ _ h => h) (Or.inl ⟨by rfl, ?_⟩) ?_ ?_
  rotate_left
  · intro w'
    go_simp
    with_reducible rfl
  rotate_left
  · simp only [Act.put, List.setIfInBounds_toArray, List.set_cons_zero, List.set_cons_succ, i64_w, i32_w]
    rfl
  refine pure_ (i := 4) (N := some 19) (v := ?_) (a' := ?_) #[true, true, false, false, true, false, false, false, false, false, false, false, false, false, false, false, false] rfl rfl (by kernel_rfl) (fun _ _ _ h => h) (Or.inl ⟨by rfl, ?_⟩) ?_ ?_
  rotate_left
  · intro w'
    go_simp
    with_reducible rfl
  rotate_left
  · simp only [Act.put, List.setIfInBounds_toArray, List.set_cons_zero, List.set_cons_succ, i64_w, i32_w]
    rfl
  refine pure_ (i := 8) (N := some 23) (v := ?_) (a' := ?_) #[true, true, false, false, true, false, false, false, true, false, false, false, false, false, false, false, false] rfl rfl (by kernel_rfl) (fun _ _ _ h => h) (Or.inl ⟨by rfl, ?_⟩) ?_ ?_
  rotate_left
  · intro w'
    go_simp
    with_reducible rfl
  rotate_left
  · simp only [Act.put, List.setIfInBounds_toArray, List.set_cons_zero, List.set_cons_succ, i64_w, i32_w]
    rfl
  refine pure_ (i := 9) (N := some 24) (v := ?_) (a' := ?_) #[true, true, false, false, true, false, false, false, true, true, false, false, false, false, false, false, false] rfl rfl (by kernel_rfl) (fun _ _ _ h => h) (Or.inl ⟨by rfl, ?_⟩) ?_ ?_
  rotate_left
  · intro w'
    go_simp
    with_reducible rfl
  rotate_left
  · simp only [Act.put, List.setIfInBounds_toArray, List.set_cons_zero, List.set_cons_succ, i64_w, i32_w]
    rfl
  refine pure_ (i := 11) (N := some 26) (v := ?_) (a' := ?_) #[true, true, false, false, true, false, false, false, true, true, false, true, false, false, false, false, false] rfl rfl (by kernel_rfl) (fun _ _ _ h => h) (Or.inl ⟨by rfl, ?_⟩) ?_ ?_
  rotate_left
  · intro w'
    go_simp
    with_reducible rfl
  rotate_left
  · simp only [Act.put, List.setIfInBounds_toArray, List.set_cons_zero, List.set_cons_succ, i64_w, i32_w]
    rfl
  refine take_ (i := 2) (N := some 17) (v := ?_) (a' := ?_) #[true, true, true, false, true, false, false, false, true, true, false, true, false, false, false, false, false] rfl rfl (by kernel_rfl) (fun _ _ _ h => h) (Or.inl ⟨by rfl, ?_⟩) hHeld ?_ ?_
  rotate_left
  · rintro w' ⟨s0, s1, s2⟩
    go_simp
    with_reducible rfl
  rotate_left
  · simp only [Act.put, List.setIfInBounds_toArray, List.set_cons_zero, List.set_cons_succ, i64_w, i32_w]
    rfl
  refine take_ (i := 5) (N := some 20) (v := ?_) (a' := ?_) #[true, true, true, false, true, true, false, false, true, true, false, true, false, false, false, false, false] rfl rfl (by kernel_rfl) (fun _ _ _ h => h) (Or.inl ⟨by rfl, ?_⟩) hHeld ?_ ?_
  rotate_left
  · rintro w' ⟨s0, s1, s2⟩
    go_simp
    with_reducible rfl
  rotate_left
  · simp only [Act.put, List.setIfInBounds_toArray, List.set_cons_zero, List.set_cons_succ, i64_w, i32_w]
    rfl
  refine take_ (i := 10) (N := some 25) (v := ?_) (a' := ?_) #[true, true, true, false, true, true, false, false, true, true, true, true, false, false, false, false, false] rfl rfl (by kernel_rfl) (fun _ _ _ h => h) (Or.inl ⟨by rfl, ?_⟩) hHeld ?_ ?_
  rotate_left
  · rintro w' ⟨s0, s1, s2⟩
    go_simp
    with_reducible rfl
  rotate_left
  · simp only [Act.put, List.setIfInBounds_toArray, List.set_cons_zero, List.set_cons_succ, i64_w, i32_w]
    rfl
  refine take_ (i := 12) (N := some 27) (v := ?_) (a' := ?_) #[true, true, true, false, true, true, false, false, true, true, true, true, true, false, false, false, false] rfl rfl (by kernel_rfl) (fun _ _ _ h => h) (Or.inl ⟨by rfl, ?_⟩) hHeld ?_ ?_
  rotate_left
  · rintro w' ⟨s0, s1, s2⟩
    go_simp
    with_reducible rfl
  rotate_left
  · simp only [Act.put, List.setIfInBounds_toArray, List.set_cons_zero, List.set_cons_succ, i64_w, i32_w]
    rfl
  refine take_ (i := 13) (N := some 28) (v := ?_) (a' := ?_) #[true, true, true, false, true, true, false, false, true, true, true, true, true, true, false, false, false] rfl rfl (by kernel_rfl) (fun _ _ _ h => h) (Or.inl ⟨by rfl, ?_⟩) hHeld ?_ ?_
  rotate_left
  · rintro w' ⟨s0, s1, s2⟩
    go_simp
    with_reducible rfl
  rotate_left
  · simp only [Act.put, List.setIfInBounds_toArray, List.set_cons_zero, List.set_cons_succ, i64_w, i32_w]
    rfl
  refine one_ (i := 3) (N := some 18) #[true, true, true, true, true, true, false, false, true, true, true, true, true, true, false, false, false] rfl rfl (by kernel_rfl) (by decide) (fun K hK => ?_)
  refine value_ (w1 := ?_) (v := ?_) (by rfl) rfl ?_ ?_
  rotate_left 2
  · go_simp
    constructor
    · rfl
    · rfl
  have g1 := (below_alloc (Below.refl (w.alloc (.cells #[.int .i64 1, .int .i64 n, .int .i64 k, .slice B ys.length c] 32)).heap.size (w.alloc (.cells #[.int .i64 1, .int .i64 n, .int .i64 k, .slice B ys.length c] 32))) (.cells #[] 5)).drew
  have F1 := Aside0.mk (F.out.below g1)
  rw [alloc_size] at g1
  have G1 := Aside0.mk g1
  clear g1
  have H1 := Aside0.mk (show FRow ((w.alloc (.cells #[.int .i64 1, .int .i64 n, .int .i64 k, .slice B ys.length c] 32)).alloc (.cells #[] 5)).drew (w.heap.size + 1) (.slice (some ⟨w.heap.size + 1, 0, none⟩) 0 0) [] by have h_ := (frow_empty (w.alloc (.cells #[.int .i64 1, .int .i64 n, .int .i64 k, .slice B ys.length c] 32)) (w.heap.size + 1) (by simp)).below (Below.refl _ _).drew; simpa using h_)
  refine hK.out _ _ ⟨F1.out.c1, F1.out.c3, F1.out.conv⟩ (fun hHeld => ?_)
  clear hK K
  refine norm_ (a' := ?_) ?_ ?_
  rotate_left
  · show Act.put _ (some 18) _ = _
    simp only [Act.put, List.setIfInBounds_toArray, List.set_cons_zero, List.set_cons_succ, i64_w, i32_w]
    rfl
  refine one_ (i := 6) (N := some 21) #[true, true, true, true, true, true, true, false, true, true, true, true, true, true, false, false, false] rfl rfl (by kernel_rfl) (by decide) (fun K hK => ?_)
  refine frow_step (v := .slice (some ⟨w.heap.size + 1, 0, none⟩) 0 0) (base := w.heap.size + 1) (xs := []) (by rfl) (ys := ys) (.tmp 18) (.tmp 20) rfl rfl rfl rfl H1.out F1.out.C (by have := F.out.len; simp; omega) (by simp) ?_
  intro v2 w2 h1 h2 h3
  rw [List.nil_append] at h1
  have g2 := G1.out.trans ((Below.refl (w.heap.size + 1) _).grown h2 (by simp) (fun k hk => H1.out.low k hk))
  rw [← alloc_size w (.cells #[.int .i64 1, .int .i64 n, .int .i64 k, .slice B ys.length c] 32)] at g2
  have G2 := Aside0.mk g2
  clear g2
  obtain ⟨A2, c2, rfl, hc2, hC2⟩ := h1.reads
  have MC2 := Aside0.mk hC2
  have Mc2 := Aside0.mk hc2
  have F2 := Aside0.mk (F.out.below G2.out)
  have B2 := Aside0.mk (HB.out.below G2.out)
  clear h1 h2 h3 hC2 hc2
  refine hK.out _ _ ⟨F2.out.c1, F2.out.c3, F2.out.conv⟩ (fun hHeld => ?_)
  clear hK K
  refine norm_ (a' := ?_) ?_ ?_
  rotate_left
  · show Act.put _ (some 21) _ = _
    simp only [Act.put, List.setIfInBounds_toArray, List.set_cons_zero, List.set_cons_succ, i64_w, i32_w]
    rfl
  refine one_ (i := 7) (N := some 22) #[true, true, true, true, true, true, true, true, true, true, true, true, true, true, false, false, false] rfl rfl (by kernel_rfl) (by decide) (fun K hK => ?_)
  refine goes_ Try.func14 (by kernel_rfl) rfl #[.pointer (some ⟨g, 0, none⟩), .int .i64 n, .slice A2 ys.length c2] (by rfl) rfl rfl (by simp only [List.map_toArray, List.map_cons, List.map_nil]; rfl) ?_
  with_reducible refine (write_any B2.out.d n MC2.out Mc2.out (by have := F.out.len; omega)).mono ?_
  rintro e w3 ⟨rfl, hp⟩
  refine ⟨_, rfl, ?_⟩
  have F3 := Aside0.mk (F2.out.dpost B2.out.d hp)
  have R3 := Aside0.mk (B2.out.r.dpost B2.out.d hp)
  have P3 := Aside0.mk hp
  clear hp
  refine hK.out _ _ ⟨F3.out.c1, F3.out.c3, F3.out.conv⟩ (fun hHeld => ?_)
  clear hK K
  refine norm_ (a' := ?_) ?_ ?_
  rotate_left
  · show Act.put _ (some 22) _ = _
    simp only [Act.put, List.setIfInBounds_toArray, List.set_cons_zero, List.set_cons_succ, i64_w, i32_w]
    rfl
  refine one_ (i := 14) (N := some 29) #[true, true, true, true, true, true, true, true, true, true, true, true, true, true, true, false, false] rfl rfl (by kernel_rfl) (by decide) (fun K hK => ?_)
  refine goes_ Try.func21 (by kernel_rfl) rfl #[.pointer (some ⟨h, 0, none⟩), .int .i64 n, .string (strOfNums ys)] (by rfl) rfl rfl (by simp only [List.map_toArray, List.map_cons, List.map_nil]; rfl) ?_
  with_reducible refine (rwrite_any R3.out n ys (by have := F.out.len; omega)).mono ?_
  rintro e w4 ⟨rfl, hp⟩
  refine ⟨_, rfl, ?_⟩
  have F4 := Aside0.mk (F3.out.rpost R3.out hp)
  have P4 := Aside0.mk hp
  clear hp
  refine hK.out _ _ ⟨F4.out.c1, F4.out.c3, F4.out.conv⟩ (fun hHeld => ?_)
  clear hK K
  refine norm_ (a' := ?_) ?_ ?_
  rotate_left
  · show Act.put _ (some 29) _ = _
    simp only [Act.put, List.setIfInBounds_toArray, List.set_cons_zero, List.set_cons_succ, i64_w, i32_w]
    rfl
  refine pure_ (i := 15) (N := some 30) (v := ?_) (a' := ?_) #[true, true, true, true, true, true, true, true, true, true, true, true, true, true, true, true, false] rfl rfl (by kernel_rfl) (fun _ _ _ h => h) (Or.inl ⟨by rfl, ?_⟩) ?_ ?_
  rotate_left
  · intro w'
    go_simp
    with_reducible rfl
  rotate_left
  · simp only [Act.put, List.setIfInBounds_toArray, List.set_cons_zero, List.set_cons_succ, i64_w, i32_w]
    rfl
  refine pure_ (i := 16) (N := some 6) (v := ?_) (a' := ?_) #[true, true, true, true, true, true, true, true, true, true, true, true, true, true, true, true, true] rfl rfl (by kernel_rfl) (fun _ _ _ h => h) (Or.inl ⟨by rfl, ?_⟩) ?_ ?_
  rotate_left
  · intro w'
    go_simp
    with_reducible rfl
  rotate_left
  · simp only [Act.put, List.setIfInBounds_toArray, List.set_cons_zero, List.set_cons_succ, i64_w, i32_w]
    rfl
  refine done_ (by kernel_rfl) ?_
  go_wp2
  go_ret
  obtain ⟨a0, a1, hd, hb3, ho3⟩ := P3.out
  exact ⟨by first | rfl | simp, ⟨a0, a1, _, P4.out.dsk R3.out hd, P4.out.rd⟩, ((BA.out.mono HBS.out.size).trans (G2.out.mono (by rw [alloc_size]; have := HBS.out.size; omega))).trans (hb3.trans P4.out.below)⟩


set_option maxHeartbeats 2000000 in
set_option maxRecDepth 100000 in
theorem do2 {w0 w : World} {g h : Nat} {v0 v1 : Value} {x : DSt} (hb : Both w0 w g h v0 v1 x) (hB : Below w0.heap.size w0 w) (n k : Int) (hk : k < 9223372036854775808) {B : Option Addr} {ys : List Int} {c : Nat} (row : (Kd.int .u8).C w0 B ys.length ys) (cap : ys.length ≤ c) (len : ys.length ≤ 300) :
    Calls Try.prog 11 #[.pointer (some ⟨g, 0, none⟩), .pointer (some ⟨h, 0, none⟩), .agg #[.int .i64 2, .int .i64 n, .int .i64 k, .slice B ys.length c]] w (DoPost w0 w g h) := by
  have BA := Aside0.mk (below_alloc (Below.refl w.heap.size w) (.cells #[.int .i64 2, .int .i64 n, .int .i64 k, .slice B ys.length c] 32))
  have HB := Aside0.mk (hb.below BA.out)
  have F := Aside0.mk (show OpBox w0 (w.alloc (.cells #[.int .i64 2, .int .i64 n, .int .i64 k, .slice B ys.length c] 32)) w.heap.size 2 n k B ys c from ⟨blk_new w _, below_then hB hB.size BA.out, row, cap, len⟩)
  have F0 := Aside0.mk (F.out.below (Below.refl _ _).drew)
  have HBS := Aside0.mk hB
  have HK := Aside0.mk hk
  clear hb hB row cap len hk
  have B0 := Aside0.mk (HB.out.below (Below.refl _ _).drew)
  have B1 := Aside0.mk ((BA.out.mono HBS.out.size).drew)
  go_enter Try.func11, Try.ntmps11
  go_wp2
  refine start_ (n := 10) (S := fun w' => w'.cell? ⟨w.heap.size, 1, none⟩ = some (.int .i64 n)) (ds := []) #[false, false, false, false, false, false, false, false, false, false] (by kernel_rfl) rfl rfl (F0.out.c1) (fun hHeld => ?_)
  refine pure_ (i := 0) (N := some 33) (v := ?_) (a' := ?_) #[true, false, false, false, false, false, false, false, false, false] rfl rfl (by kernel_rfl) (fun _ _ _ h => h) (Or.inl ⟨by rfl, ?_⟩) ?_ ?_
  rotate_left
  · intro w'
    go_simp
    with_reducible rfl
  rotate_left
  · simp only [Act.put, List.setIfInBounds_toArray, List.set_cons_zero, List.set_cons_succ, i64_w, i32_w]
    rfl
  refine pure_ (i := 1) (N := some 34) (v := ?_) (a' := ?_) #[true, true, false, false, false, false, false, false, false, false] rfl rfl (by kernel_rfl) (fun _ _ _ h => h) (Or.inl ⟨by rfl, ?_⟩) ?_ ?_
  rotate_left
  · intro w'
    go_simp
    with_reducible rfl
  rotate_left
  · simp only [Act.put, List.setIfInBounds_toArray, List.set_cons_zero, List.set_cons_succ, i64_w, i32_w]
    rfl
  refine pure_ (i := 4) (N := some 37) (v := ?_) (a' := ?_) #[true, true, false, false, true, false, false, false, false, false] rfl rfl (by kernel_rfl) (fun _ _ _ h => h) (Or.inl ⟨by rfl, ?_⟩) ?_ ?_
  rotate_left
  · intro w'
    go_simp
    with_reducible rfl
  rotate_left
  · simp only [Act.put, List.setIfInBounds_toArray, List.set_cons_zero, List.set_cons_succ, i64_w, i32_w]
    rfl
  refine pure_ (i := 5) (N := some 38) (v := ?_) (a' := ?_) #[true, true, false, false, true, true, false, false, false, false] rfl rfl (by kernel_rfl) (fun _ _ _ h => h) (Or.inl ⟨by rfl, ?_⟩) ?_ ?_
  rotate_left
  · intro w'
    go_simp
    with_reducible rfl
  rotate_left
  · simp only [Act.put, List.setIfInBounds_toArray, List.set_cons_zero, List.set_cons_succ, i64_w, i32_w]
    rfl
  refine take_ (i := 2) (N := some 35) (v := ?_) (a' := ?_) #[true, true, true, false, true, true, false, false, false, false] rfl rfl (by kernel_rfl) (fun _ _ _ h => h) (Or.inl ⟨by rfl, ?_⟩) hHeld ?_ ?_
  rotate_left
  · intro w' s0
    go_simp
    with_reducible rfl
  rotate_left
  · simp only [Act.put, List.setIfInBounds_toArray, List.set_cons_zero, List.set_cons_succ, i64_w, i32_w]
    rfl
  refine take_ (i := 6) (N := some 39) (v := ?_) (a' := ?_) #[true, true, true, false, true, true, true, false, false, false] rfl rfl (by kernel_rfl) (fun _ _ _ h => h) (Or.inl ⟨by rfl, ?_⟩) hHeld ?_ ?_
  rotate_left
  · intro w' s0
    go_simp
    with_reducible rfl
  rotate_left
  · simp only [Act.put, List.setIfInBounds_toArray, List.set_cons_zero, List.set_cons_succ, i64_w, i32_w]
    rfl
  refine one_ (i := 3) (N := some 36) #[true, true, true, true, true, true, true, false, false, false] rfl rfl (by kernel_rfl) (by decide) (fun K hK => ?_)
  refine goes_ Try.func18 (by kernel_rfl) rfl #[.pointer (some ⟨g, 0, none⟩), .int .i64 n] (by rfl) rfl rfl (by simp only [List.map_toArray, List.map_cons, List.map_nil]; rfl) ?_
  with_reducible refine (clear_any B0.out.d n).mono ?_
  rintro e w3 ⟨rfl, hp⟩
  refine ⟨_, rfl, ?_⟩
  have F3 := Aside0.mk (F0.out.dpost B0.out.d hp)
  have R3 := Aside0.mk (B0.out.r.dpost B0.out.d hp)
  have P3 := Aside0.mk hp
  clear hp
  refine hK.out _ _ (F3.out.c1) (fun hHeld => ?_)
  clear hK K
  refine norm_ (a' := ?_) ?_ ?_
  rotate_left
  · show Act.put _ (some 36) _ = _
    simp only [Act.put, List.setIfInBounds_toArray, List.set_cons_zero, List.set_cons_succ, i64_w, i32_w]
    rfl
  refine one_ (i := 7) (N := some 40) #[true, true, true, true, true, true, true, true, false, false] rfl rfl (by kernel_rfl) (by decide) (fun K hK => ?_)
  refine goes_ Try.func22 (by kernel_rfl) rfl #[.pointer (some ⟨h, 0, none⟩), .int .i64 n] (by rfl) rfl rfl (by simp only [List.map_toArray, List.map_cons, List.map_nil]; rfl) ?_
  with_reducible refine (rclear_any R3.out n).mono ?_
  rintro e w4 ⟨rfl, hp⟩
  refine ⟨_, rfl, ?_⟩
  have F4 := Aside0.mk (F3.out.rpost R3.out hp)
  have P4 := Aside0.mk hp
  clear hp
  refine hK.out _ _ (F4.out.c1) (fun hHeld => ?_)
  clear hK K
  refine norm_ (a' := ?_) ?_ ?_
  rotate_left
  · show Act.put _ (some 40) _ = _
    simp only [Act.put, List.setIfInBounds_toArray, List.set_cons_zero, List.set_cons_succ, i64_w, i32_w]
    rfl
  refine pure_ (i := 8) (N := some 41) (v := ?_) (a' := ?_) #[true, true, true, true, true, true, true, true, true, false] rfl rfl (by kernel_rfl) (fun _ _ _ h => h) (Or.inl ⟨by rfl, ?_⟩) ?_ ?_
  rotate_left
  · intro w'
    go_simp
    with_reducible rfl
  rotate_left
  · simp only [Act.put, List.setIfInBounds_toArray, List.set_cons_zero, List.set_cons_succ, i64_w, i32_w]
    rfl
  refine pure_ (i := 9) (N := some 6) (v := ?_) (a' := ?_) #[true, true, true, true, true, true, true, true, true, true] rfl rfl (by kernel_rfl) (fun _ _ _ h => h) (Or.inl ⟨by rfl, ?_⟩) ?_ ?_
  rotate_left
  · intro w'
    go_simp
    with_reducible rfl
  rotate_left
  · simp only [Act.put, List.setIfInBounds_toArray, List.set_cons_zero, List.set_cons_succ, i64_w, i32_w]
    rfl
  refine done_ (by kernel_rfl) ?_
  go_wp2
  go_ret
  obtain ⟨a0, a1, hd, hb3, ho3⟩ := P3.out
  exact ⟨by first | rfl | simp, ⟨a0, a1, _, P4.out.dsk R3.out hd, P4.out.rd⟩, B1.out.trans (hb3.trans P4.out.below)⟩


set_option maxHeartbeats 2000000 in
set_option maxRecDepth 100000 in
theorem do3 {w0 w : World} {g h : Nat} {v0 v1 : Value} {x : DSt} (hb : Both w0 w g h v0 v1 x) (hB : Below w0.heap.size w0 w) (n k : Int) (hk : k < 9223372036854775808) {B : Option Addr} {ys : List Int} {c : Nat} (row : (Kd.int .u8).C w0 B ys.length ys) (cap : ys.length ≤ c) (len : ys.length ≤ 300) :
    Calls Try.prog 11 #[.pointer (some ⟨g, 0, none⟩), .pointer (some ⟨h, 0, none⟩), .agg #[.int .i64 3, .int .i64 n, .int .i64 k, .slice B ys.length c]] w (DoPost w0 w g h) := by
  have BA := Aside0.mk (below_alloc (Below.refl w.heap.size w) (.cells #[.int .i64 3, .int .i64 n, .int .i64 k, .slice B ys.length c] 32))
  have HB := Aside0.mk (hb.below BA.out)
  have F := Aside0.mk (show OpBox w0 (w.alloc (.cells #[.int .i64 3, .int .i64 n, .int .i64 k, .slice B ys.length c] 32)) w.heap.size 3 n k B ys c from ⟨blk_new w _, below_then hB hB.size BA.out, row, cap, len⟩)
  have F0 := Aside0.mk (F.out.below (Below.refl _ _).drew)
  have HBS := Aside0.mk hB
  have HK := Aside0.mk hk
  clear hb hB row cap len hk
  have B0 := Aside0.mk (HB.out.below (Below.refl _ _).drew)
  have B1 := Aside0.mk ((BA.out.mono HBS.out.size).drew)
  go_enter Try.func11, Try.ntmps11
  go_wp2
  refine start_ (n := 14) (S := fun w' => w'.cell? ⟨w.heap.size, 1, none⟩ = some (.int .i64 n) ∧ w'.cell? ⟨w.heap.size, 2, none⟩ = some (.int .i64 k)) (ds := []) #[false, false, false, false, false, false, false, false, false, false, false, false, false, false] (by kernel_rfl) rfl rfl ⟨F0.out.c1, F0.out.c2⟩ (fun hHeld => ?_)
  refine pure_ (i := 0) (N := some 44) (v := ?_) (a' := ?_) #[true, false, false, false, false, false, false, false, false, false, false, false, false, false] rfl rfl (by kernel_rfl) (fun _ _ _ h => h) (Or.inl ⟨by rfl, ?_⟩) ?_ ?_
  rotate_left
  · intro w'
    go_simp
    with_reducible rfl
  rotate_left
  · simp only [Act.put, List.setIfInBounds_toArray, List.set_cons_zero, List.set_cons_succ, i64_w, i32_w]
    rfl
  refine pure_ (i := 1) (N := some 45) (v := ?_) (a' := ?_) #[true, true, false, false, false, false, false, false, false, false, false, false, false, false] rfl rfl (by kernel_rfl) (fun _ _ _ h => h) (Or.inl ⟨by rfl, ?_⟩) ?_ ?_
  rotate_left
  · intro w'
    go_simp
    with_reducible rfl
  rotate_left
  · simp only [Act.put, List.setIfInBounds_toArray, List.set_cons_zero, List.set_cons_succ, i64_w, i32_w]
    rfl
  refine pure_ (i := 3) (N := some 47) (v := ?_) (a' := ?_) #[true, true, false, true, false, false, false, false, false, false, false, false, false, false] rfl rfl (by kernel_rfl) (fun _ _ _ h => h) (Or.inl ⟨by rfl, ?_⟩) ?_ ?_
  rotate_left
  · intro w'
    go_simp
    with_reducible rfl
  rotate_left
  · simp only [Act.put, List.setIfInBounds_toArray, List.set_cons_zero, List.set_cons_succ, i64_w, i32_w]
    rfl
  refine pure_ (i := 6) (N := some 50) (v := ?_) (a' := ?_) #[true, true, false, true, false, false, true, false, false, false, false, false, false, false] rfl rfl (by kernel_rfl) (fun _ _ _ h => h) (Or.inl ⟨by rfl, ?_⟩) ?_ ?_
  rotate_left
  · intro w'
    go_simp
    with_reducible rfl
  rotate_left
  · simp only [Act.put, List.setIfInBounds_toArray, List.set_cons_zero, List.set_cons_succ, i64_w, i32_w]
    rfl
  refine pure_ (i := 7) (N := some 51) (v := ?_) (a' := ?_) #[true, true, false, true, false, false, true, true, false, false, false, false, false, false] rfl rfl (by kernel_rfl) (fun _ _ _ h => h) (Or.inl ⟨by rfl, ?_⟩) ?_ ?_
  rotate_left
  · intro w'
    go_simp
    with_reducible rfl
  rotate_left
  · simp only [Act.put, List.setIfInBounds_toArray, List.set_cons_zero, List.set_cons_succ, i64_w, i32_w]
    rfl
  refine pure_ (i := 9) (N := some 53) (v := ?_) (a' := ?_) #[true, true, false, true, false, false, true, true, false, true, false, false, false, false] rfl rfl (by kernel_rfl) (fun _ _ _ h => h) (Or.inl ⟨by rfl, ?_⟩) ?_ ?_
  rotate_left
  · intro w'
    go_simp
    with_reducible rfl
  rotate_left
  · simp only [Act.put, List.setIfInBounds_toArray, List.set_cons_zero, List.set_cons_succ, i64_w, i32_w]
    rfl
  refine take_ (i := 2) (N := some 46) (v := ?_) (a' := ?_) #[true, true, true, true, false, false, true, true, false, true, false, false, false, false] rfl rfl (by kernel_rfl) (fun _ _ _ h => h) (Or.inl ⟨by rfl, ?_⟩) hHeld ?_ ?_
  rotate_left
  · rintro w' ⟨s0, s1⟩
    go_simp
    with_reducible rfl
  rotate_left
  · simp only [Act.put, List.setIfInBounds_toArray, List.set_cons_zero, List.set_cons_succ, i64_w, i32_w]
    rfl
  refine take_ (i := 4) (N := some 48) (v := ?_) (a' := ?_) #[true, true, true, true, true, false, true, true, false, true, false, false, false, false] rfl rfl (by kernel_rfl) (fun _ _ _ h => h) (Or.inl ⟨by rfl, ?_⟩) hHeld ?_ ?_
  rotate_left
  · rintro w' ⟨s0, s1⟩
    go_simp
    with_reducible rfl
  rotate_left
  · simp only [Act.put, List.setIfInBounds_toArray, List.set_cons_zero, List.set_cons_succ, i64_w, i32_w]
    rfl
  refine take_ (i := 8) (N := some 52) (v := ?_) (a' := ?_) #[true, true, true, true, true, false, true, true, true, true, false, false, false, false] rfl rfl (by kernel_rfl) (fun _ _ _ h => h) (Or.inl ⟨by rfl, ?_⟩) hHeld ?_ ?_
  rotate_left
  · rintro w' ⟨s0, s1⟩
    go_simp
    with_reducible rfl
  rotate_left
  · simp only [Act.put, List.setIfInBounds_toArray, List.set_cons_zero, List.set_cons_succ, i64_w, i32_w]
    rfl
  refine take_ (i := 10) (N := some 54) (v := ?_) (a' := ?_) #[true, true, true, true, true, false, true, true, true, true, true, false, false, false] rfl rfl (by kernel_rfl) (fun _ _ _ h => h) (Or.inl ⟨by rfl, ?_⟩) hHeld ?_ ?_
  rotate_left
  · rintro w' ⟨s0, s1⟩
    go_simp
    with_reducible rfl
  rotate_left
  · simp only [Act.put, List.setIfInBounds_toArray, List.set_cons_zero, List.set_cons_succ, i64_w, i32_w]
    rfl
  refine one_ (i := 5) (N := some 49) #[true, true, true, true, true, true, true, true, true, true, true, false, false, false] rfl rfl (by kernel_rfl) (by decide) (fun K hK => ?_)
  refine goes_ Try.func19 (by kernel_rfl) rfl #[.pointer (some ⟨g, 0, none⟩), .int .i64 n, .int .i64 k] (by rfl) rfl rfl (by simp only [List.map_toArray, List.map_cons, List.map_nil]; rfl) ?_
  with_reducible refine (cut_any B0.out.d n k).mono ?_
  rintro e w3 ⟨rfl, hp⟩
  refine ⟨_, rfl, ?_⟩
  have F3 := Aside0.mk (F0.out.dpost B0.out.d hp)
  have R3 := Aside0.mk (B0.out.r.dpost B0.out.d hp)
  have P3 := Aside0.mk hp
  clear hp
  refine hK.out _ _ ⟨F3.out.c1, F3.out.c2⟩ (fun hHeld => ?_)
  clear hK K
  refine norm_ (a' := ?_) ?_ ?_
  rotate_left
  · show Act.put _ (some 49) _ = _
    simp only [Act.put, List.setIfInBounds_toArray, List.set_cons_zero, List.set_cons_succ, i64_w, i32_w]
    rfl
  refine one_ (i := 11) (N := some 55) #[true, true, true, true, true, true, true, true, true, true, true, true, false, false] rfl rfl (by kernel_rfl) (by decide) (fun K hK => ?_)
  refine goes_ Try.func23 (by kernel_rfl) rfl #[.pointer (some ⟨h, 0, none⟩), .int .i64 n, .int .i64 k] (by rfl) rfl rfl (by simp only [List.map_toArray, List.map_cons, List.map_nil]; rfl) ?_
  with_reducible refine (rcut_any R3.out n k).mono ?_
  rintro e w4 ⟨rfl, hp⟩
  refine ⟨_, rfl, ?_⟩
  have F4 := Aside0.mk (F3.out.rpost R3.out hp)
  have P4 := Aside0.mk hp
  clear hp
  refine hK.out _ _ ⟨F4.out.c1, F4.out.c2⟩ (fun hHeld => ?_)
  clear hK K
  refine norm_ (a' := ?_) ?_ ?_
  rotate_left
  · show Act.put _ (some 55) _ = _
    simp only [Act.put, List.setIfInBounds_toArray, List.set_cons_zero, List.set_cons_succ, i64_w, i32_w]
    rfl
  refine pure_ (i := 12) (N := some 56) (v := ?_) (a' := ?_) #[true, true, true, true, true, true, true, true, true, true, true, true, true, false] rfl rfl (by kernel_rfl) (fun _ _ _ h => h) (Or.inl ⟨by rfl, ?_⟩) ?_ ?_
  rotate_left
  · intro w'
    go_simp
    with_reducible rfl
  rotate_left
  · simp only [Act.put, List.setIfInBounds_toArray, List.set_cons_zero, List.set_cons_succ, i64_w, i32_w]
    rfl
  refine pure_ (i := 13) (N := some 6) (v := ?_) (a' := ?_) #[true, true, true, true, true, true, true, true, true, true, true, true, true, true] rfl rfl (by kernel_rfl) (fun _ _ _ h => h) (Or.inl ⟨by rfl, ?_⟩) ?_ ?_
  rotate_left
  · intro w'
    go_simp
    with_reducible rfl
  rotate_left
  · simp only [Act.put, List.setIfInBounds_toArray, List.set_cons_zero, List.set_cons_succ, i64_w, i32_w]
    rfl
  refine done_ (by kernel_rfl) ?_
  go_wp2
  go_ret
  obtain ⟨a0, a1, hd, hb3, ho3⟩ := P3.out
  exact ⟨by first | rfl | simp, ⟨a0, a1, _, P4.out.dsk R3.out hd, P4.out.rd⟩, B1.out.trans (hb3.trans P4.out.below)⟩


set_option maxHeartbeats 2000000 in
set_option maxRecDepth 100000 in
theorem do7 {w0 w : World} {g h : Nat} {v0 v1 : Value} {x : DSt} (hb : Both w0 w g h v0 v1 x) (hB : Below w0.heap.size w0 w) (n k : Int) (hk : k < 9223372036854775808) {B : Option Addr} {ys : List Int} {c : Nat} (row : (Kd.int .u8).C w0 B ys.length ys) (cap : ys.length ≤ c) (len : ys.length ≤ 300) :
    Calls Try.prog 11 #[.pointer (some ⟨g, 0, none⟩), .pointer (some ⟨h, 0, none⟩), .agg #[.int .i64 7, .int .i64 n, .int .i64 k, .slice B ys.length c]] w (DoPost w0 w g h) := by
  have BA := Aside0.mk (below_alloc (Below.refl w.heap.size w) (.cells #[.int .i64 7, .int .i64 n, .int .i64 k, .slice B ys.length c] 32))
  have HB := Aside0.mk (hb.below BA.out)
  have F := Aside0.mk (show OpBox w0 (w.alloc (.cells #[.int .i64 7, .int .i64 n, .int .i64 k, .slice B ys.length c] 32)) w.heap.size 7 n k B ys c from ⟨blk_new w _, below_then hB hB.size BA.out, row, cap, len⟩)
  have F0 := Aside0.mk (F.out.below (Below.refl _ _).drew)
  have HBS := Aside0.mk hB
  have HK := Aside0.mk hk
  clear hb hB row cap len hk
  go_enter Try.func11, Try.ntmps11
  go_wp2
  refine start_ (n := 21) (S := fun w' => w'.cell? ⟨w.heap.size, 1, none⟩ = some (.int .i64 n) ∧ w'.cell? ⟨w.heap.size, 2, none⟩ = some (.int .i64 k) ∧ w'.cell? ⟨w.heap.size, 3, none⟩ = some (.slice B ys.length c) ∧ Sem.run Try.prog (convert 30 9 (.slice B ys.length c)) w' = .ok (.string (strOfNums ys)) w') (ds := []) #[false, false, false, false, false, false, false, false, false, false, false, false, false, false, false, false, false, false, false, false, false] (by kernel_rfl) rfl rfl ⟨F0.out.c1, F0.out.c2, F0.out.c3, F0.out.conv⟩ (fun hHeld => ?_)
  refine pure_ (i := 0) (N := some 100) (v := ?_) (a' := ?_) #[true, false, false, false, false, false, false, false, false, false, false, false, false, false, false, false, false, false, false, false, false] rfl rfl (by kernel_rfl) (fun _ _ _ h => h) (Or.inl ⟨by rfl, ?_⟩) ?_ ?_
  rotate_left
  · intro w'
    go_simp
    with_reducible rfl
  rotate_left
  · simp only [Act.put, List.setIfInBounds_toArray, List.set_cons_zero, List.set_cons_succ, i64_w, i32_w]
    rfl
  refine pure_ (i := 1) (N := some 101) (v := ?_) (a' := ?_) #[true, true, false, false, false, false, false, false, false, false, false, false, false, false, false, false, false, false, false, false, false] rfl rfl (by kernel_rfl) (fun _ _ _ h => h) (Or.inl ⟨by rfl, ?_⟩) ?_ ?_
  rotate_left
  · intro w'
    go_simp
    with_reducible rfl
  rotate_left
  · simp only [Act.put, List.setIfInBounds_toArray, List.set_cons_zero, List.set_cons_succ, i64_w, i32_w]
    rfl
  refine pure_ (i := 3) (N := some 103) (v := ?_) (a' := ?_) #[true, true, false, true, false, false, false, false, false, false, false, false, false, false, false, false, false, false, false, false, false] rfl rfl (by kernel_rfl) (fun _ _ _ h => h) (Or.inl ⟨by rfl, ?_⟩) ?_ ?_
  rotate_left
  · intro w'
    go_simp
    with_reducible rfl
  rotate_left
  · simp only [Act.put, List.setIfInBounds_toArray, List.set_cons_zero, List.set_cons_succ, i64_w, i32_w]
    rfl
  refine pure_ (i := 6) (N := some 106) (v := ?_) (a' := ?_) #[true, true, false, true, false, false, true, false, false, false, false, false, false, false, false, false, false, false, false, false, false] rfl rfl (by kernel_rfl) (fun _ _ _ h => h) (Or.inl ⟨by rfl, ?_⟩) ?_ ?_
  rotate_left
  · intro w'
    go_simp
    with_reducible rfl
  rotate_left
  · simp only [Act.put, List.setIfInBounds_toArray, List.set_cons_zero, List.set_cons_succ, i64_w, i32_w]
    rfl
  refine pure_ (i := 10) (N := some 110) (v := ?_) (a' := ?_) #[true, true, false, true, false, false, true, false, false, false, true, false, false, false, false, false, false, false, false, false, false] rfl rfl (by kernel_rfl) (fun _ _ _ h => h) (Or.inl ⟨by rfl, ?_⟩) ?_ ?_
  rotate_left
  · intro w'
    go_simp
    with_reducible rfl
  rotate_left
  · simp only [Act.put, List.setIfInBounds_toArray, List.set_cons_zero, List.set_cons_succ, i64_w, i32_w]
    rfl
  refine pure_ (i := 11) (N := some 111) (v := ?_) (a' := ?_) #[true, true, false, true, false, false, true, false, false, false, true, true, false, false, false, false, false, false, false, false, false] rfl rfl (by kernel_rfl) (fun _ _ _ h => h) (Or.inl ⟨by rfl, ?_⟩) ?_ ?_
  rotate_left
  · intro w'
    go_simp
    with_reducible rfl
  rotate_left
  · simp only [Act.put, List.setIfInBounds_toArray, List.set_cons_zero, List.set_cons_succ, i64_w, i32_w]
    rfl
  refine pure_ (i := 13) (N := some 113) (v := ?_) (a' := ?_) #[true, true, false, true, false, false, true, false, false, false, true, true, false, true, false, false, false, false, false, false, false] rfl rfl (by kernel_rfl) (fun _ _ _ h => h) (Or.inl ⟨by rfl, ?_⟩) ?_ ?_
  rotate_left
  · intro w'
    go_simp
    with_reducible rfl
  rotate_left
  · simp only [Act.put, List.setIfInBounds_toArray, List.set_cons_zero, List.set_cons_succ, i64_w, i32_w]
    rfl
  refine pure_ (i := 15) (N := some 115) (v := ?_) (a' := ?_) #[true, true, false, true, false, false, true, false, false, false, true, true, false, true, false, true, false, false, false, false, false] rfl rfl (by kernel_rfl) (fun _ _ _ h => h) (Or.inl ⟨by rfl, ?_⟩) ?_ ?_
  rotate_left
  · intro w'
    go_simp
    with_reducible rfl
  rotate_left
  · simp only [Act.put, List.setIfInBounds_toArray, List.set_cons_zero, List.set_cons_succ, i64_w, i32_w]
    rfl
  refine take_ (i := 2) (N := some 102) (v := ?_) (a' := ?_) #[true, true, true, true, false, false, true, false, false, false, true, true, false, true, false, true, false, false, false, false, false] rfl rfl (by kernel_rfl) (fun _ _ _ h => h) (Or.inl ⟨by rfl, ?_⟩) hHeld ?_ ?_
  rotate_left
  · rintro w' ⟨s0, s1, s2, s3⟩
    go_simp
    with_reducible rfl
  rotate_left
  · simp only [Act.put, List.setIfInBounds_toArray, List.set_cons_zero, List.set_cons_succ, i64_w, i32_w]
    rfl
  refine take_ (i := 4) (N := some 104) (v := ?_) (a' := ?_) #[true, true, true, true, true, false, true, false, false, false, true, true, false, true, false, true, false, false, false, false, false] rfl rfl (by kernel_rfl) (fun _ _ _ h => h) (Or.inl ⟨by rfl, ?_⟩) hHeld ?_ ?_
  rotate_left
  · rintro w' ⟨s0, s1, s2, s3⟩
    go_simp
    with_reducible rfl
  rotate_left
  · simp only [Act.put, List.setIfInBounds_toArray, List.set_cons_zero, List.set_cons_succ, i64_w, i32_w]
    rfl
  refine take_ (i := 7) (N := some 107) (v := ?_) (a' := ?_) #[true, true, true, true, true, false, true, true, false, false, true, true, false, true, false, true, false, false, false, false, false] rfl rfl (by kernel_rfl) (fun _ _ _ h => h) (Or.inl ⟨by rfl, ?_⟩) hHeld ?_ ?_
  rotate_left
  · rintro w' ⟨s0, s1, s2, s3⟩
    go_simp
    with_reducible rfl
  rotate_left
  · simp only [Act.put, List.setIfInBounds_toArray, List.set_cons_zero, List.set_cons_succ, i64_w, i32_w]
    rfl
  refine take_ (i := 12) (N := some 112) (v := ?_) (a' := ?_) #[true, true, true, true, true, false, true, true, false, false, true, true, true, true, false, true, false, false, false, false, false] rfl rfl (by kernel_rfl) (fun _ _ _ h => h) (Or.inl ⟨by rfl, ?_⟩) hHeld ?_ ?_
  rotate_left
  · rintro w' ⟨s0, s1, s2, s3⟩
    go_simp
    with_reducible rfl
  rotate_left
  · simp only [Act.put, List.setIfInBounds_toArray, List.set_cons_zero, List.set_cons_succ, i64_w, i32_w]
    rfl
  refine take_ (i := 14) (N := some 114) (v := ?_) (a' := ?_) #[true, true, true, true, true, false, true, true, false, false, true, true, true, true, true, true, false, false, false, false, false] rfl rfl (by kernel_rfl) (fun _ _ _ h => h) (Or.inl ⟨by rfl, ?_⟩) hHeld ?_ ?_
  rotate_left
  · rintro w' ⟨s0, s1, s2, s3⟩
    go_simp
    with_reducible rfl
  rotate_left
  · simp only [Act.put, List.setIfInBounds_toArray, List.set_cons_zero, List.set_cons_succ, i64_w, i32_w]
    rfl
  refine take_ (i := 16) (N := some 116) (v := ?_) (a' := ?_) #[true, true, true, true, true, false, true, true, false, false, true, true, true, true, true, true, true, false, false, false, false] rfl rfl (by kernel_rfl) (fun _ _ _ h => h) (Or.inl ⟨by rfl, ?_⟩) hHeld ?_ ?_
  rotate_left
  · rintro w' ⟨s0, s1, s2, s3⟩
    go_simp
    with_reducible rfl
  rotate_left
  · simp only [Act.put, List.setIfInBounds_toArray, List.set_cons_zero, List.set_cons_succ, i64_w, i32_w]
    rfl
  refine take_ (i := 17) (N := some 117) (v := ?_) (a' := ?_) #[true, true, true, true, true, false, true, true, false, false, true, true, true, true, true, true, true, true, false, false, false] rfl rfl (by kernel_rfl) (fun _ _ _ h => h) (Or.inl ⟨by rfl, ?_⟩) hHeld ?_ ?_
  rotate_left
  · rintro w' ⟨s0, s1, s2, s3⟩
    go_simp
    with_reducible rfl
  rotate_left
  · simp only [Act.put, List.setIfInBounds_toArray, List.set_cons_zero, List.set_cons_succ, i64_w, i32_w]
    rfl
  refine one_ (i := 5) (N := some 105) #[true, true, true, true, true, true, true, true, false, false, true, true, true, true, true, true, true, true, false, false, false] rfl rfl (by kernel_rfl) (by decide) (fun K hK => ?_)
  refine value_ (w1 := ?_) (v := ?_) (by rfl) rfl ?_ ?_
  rotate_left 2
  · go_simp
    constructor
    · rfl
    · rfl
  have g1 := (below_alloc (Below.refl (w.alloc (.cells #[.int .i64 7, .int .i64 n, .int .i64 k, .slice B ys.length c] 32)).heap.size (w.alloc (.cells #[.int .i64 7, .int .i64 n, .int .i64 k, .slice B ys.length c] 32))) (.cells #[] 5)).drew
  have F1 := Aside0.mk (F.out.below g1)
  rw [alloc_size] at g1
  have G1 := Aside0.mk g1
  clear g1
  have H1 := Aside0.mk (show FRow ((w.alloc (.cells #[.int .i64 7, .int .i64 n, .int .i64 k, .slice B ys.length c] 32)).alloc (.cells #[] 5)).drew (w.heap.size + 1) (.slice (some ⟨w.heap.size + 1, 0, none⟩) 0 0) [] by have h_ := (frow_empty (w.alloc (.cells #[.int .i64 7, .int .i64 n, .int .i64 k, .slice B ys.length c] 32)) (w.heap.size + 1) (by simp)).below (Below.refl _ _).drew; simpa using h_)
  refine hK.out _ _ ⟨F1.out.c1, F1.out.c2, F1.out.c3, F1.out.conv⟩ (fun hHeld => ?_)
  clear hK K
  refine norm_ (a' := ?_) ?_ ?_
  rotate_left
  · show Act.put _ (some 105) _ = _
    simp only [Act.put, List.setIfInBounds_toArray, List.set_cons_zero, List.set_cons_succ, i64_w, i32_w]
    rfl
  refine one_ (i := 8) (N := some 108) #[true, true, true, true, true, true, true, true, true, false, true, true, true, true, true, true, true, true, false, false, false] rfl rfl (by kernel_rfl) (by decide) (fun K hK => ?_)
  refine frow_step (v := .slice (some ⟨w.heap.size + 1, 0, none⟩) 0 0) (base := w.heap.size + 1) (xs := []) (by rfl) (ys := ys) (.tmp 105) (.tmp 107) rfl rfl rfl rfl H1.out F1.out.C (by have := F.out.len; simp; omega) (by simp) ?_
  intro v2 w2 h1 h2 h3
  rw [List.nil_append] at h1
  have g2 := G1.out.trans ((Below.refl (w.heap.size + 1) _).grown h2 (by simp) (fun k hk => H1.out.low k hk))
  rw [← alloc_size w (.cells #[.int .i64 7, .int .i64 n, .int .i64 k, .slice B ys.length c] 32)] at g2
  have G2 := Aside0.mk g2
  clear g2
  obtain ⟨A2, c2, rfl, hc2, hC2⟩ := h1.reads
  have MC2 := Aside0.mk hC2
  have Mc2 := Aside0.mk hc2
  have F2 := Aside0.mk (F.out.below G2.out)
  have B2 := Aside0.mk (HB.out.below G2.out)
  clear h1 h2 h3 hC2 hc2
  refine hK.out _ _ ⟨F2.out.c1, F2.out.c2, F2.out.c3, F2.out.conv⟩ (fun hHeld => ?_)
  clear hK K
  refine norm_ (a' := ?_) ?_ ?_
  rotate_left
  · show Act.put _ (some 108) _ = _
    simp only [Act.put, List.setIfInBounds_toArray, List.set_cons_zero, List.set_cons_succ, i64_w, i32_w]
    rfl
  refine one_ (i := 9) (N := some 109) #[true, true, true, true, true, true, true, true, true, true, true, true, true, true, true, true, true, true, false, false, false] rfl rfl (by kernel_rfl) (by decide) (fun K hK => ?_)
  refine goes_ Try.func17 (by kernel_rfl) rfl #[.pointer (some ⟨g, 0, none⟩), .int .i64 n, .int .i64 k, .slice A2 ys.length c2] (by rfl) rfl rfl (by simp only [List.map_toArray, List.map_cons, List.map_nil]; rfl) ?_
  with_reducible refine (spoil_any B2.out.d n k MC2.out (by have := F.out.len; omega)).mono ?_
  rintro e w3 ⟨rfl, hp⟩
  refine ⟨_, rfl, ?_⟩
  have F3 := Aside0.mk (F2.out.dpost B2.out.d hp)
  have R3 := Aside0.mk (B2.out.r.dpost B2.out.d hp)
  have P3 := Aside0.mk hp
  clear hp
  refine hK.out _ _ ⟨F3.out.c1, F3.out.c2, F3.out.c3, F3.out.conv⟩ (fun hHeld => ?_)
  clear hK K
  refine norm_ (a' := ?_) ?_ ?_
  rotate_left
  · show Act.put _ (some 109) _ = _
    simp only [Act.put, List.setIfInBounds_toArray, List.set_cons_zero, List.set_cons_succ, i64_w, i32_w]
    rfl
  refine one_ (i := 18) (N := some 118) #[true, true, true, true, true, true, true, true, true, true, true, true, true, true, true, true, true, true, true, false, false] rfl rfl (by kernel_rfl) (by decide) (fun K hK => ?_)
  refine goes_ Try.func27 (by kernel_rfl) rfl #[.pointer (some ⟨h, 0, none⟩), .int .i64 n, .int .i64 k, .string (strOfNums ys)] (by rfl) rfl rfl (by simp only [List.map_toArray, List.map_cons, List.map_nil]; rfl) ?_
  with_reducible refine (rspoil_any R3.out n k ys (by have := F.out.len; omega)).mono ?_
  rintro e w4 ⟨rfl, hp⟩
  refine ⟨_, rfl, ?_⟩
  have F4 := Aside0.mk (F3.out.rpost R3.out hp)
  have P4 := Aside0.mk hp
  clear hp
  refine hK.out _ _ ⟨F4.out.c1, F4.out.c2, F4.out.c3, F4.out.conv⟩ (fun hHeld => ?_)
  clear hK K
  refine norm_ (a' := ?_) ?_ ?_
  rotate_left
  · show Act.put _ (some 118) _ = _
    simp only [Act.put, List.setIfInBounds_toArray, List.set_cons_zero, List.set_cons_succ, i64_w, i32_w]
    rfl
  refine pure_ (i := 19) (N := some 119) (v := ?_) (a' := ?_) #[true, true, true, true, true, true, true, true, true, true, true, true, true, true, true, true, true, true, true, true, false] rfl rfl (by kernel_rfl) (fun _ _ _ h => h) (Or.inl ⟨by rfl, ?_⟩) ?_ ?_
  rotate_left
  · intro w'
    go_simp
    with_reducible rfl
  rotate_left
  · simp only [Act.put, List.setIfInBounds_toArray, List.set_cons_zero, List.set_cons_succ, i64_w, i32_w]
    rfl
  refine pure_ (i := 20) (N := some 6) (v := ?_) (a' := ?_) #[true, true, true, true, true, true, true, true, true, true, true, true, true, true, true, true, true, true, true, true, true] rfl rfl (by kernel_rfl) (fun _ _ _ h => h) (Or.inl ⟨by rfl, ?_⟩) ?_ ?_
  rotate_left
  · intro w'
    go_simp
    with_reducible rfl
  rotate_left
  · simp only [Act.put, List.setIfInBounds_toArray, List.set_cons_zero, List.set_cons_succ, i64_w, i32_w]
    rfl
  refine done_ (by kernel_rfl) ?_
  go_wp2
  go_ret
  obtain ⟨a0, a1, hd, hb3, ho3⟩ := P3.out
  exact ⟨by first | rfl | simp, ⟨a0, a1, _, P4.out.dsk R3.out hd, P4.out.rd⟩, ((BA.out.mono HBS.out.size).trans (G2.out.mono (by rw [alloc_size]; have := HBS.out.size; omega))).trans (hb3.trans P4.out.below)⟩


set_option maxHeartbeats 2000000 in
set_option maxRecDepth 100000 in
theorem do4 {w0 w : World} {g h : Nat} {v0 v1 : Value} {x : DSt} (hb : Both w0 w g h v0 v1 x) (hB : Below w0.heap.size w0 w) (n k : Int) (hk : k < 9223372036854775808) {B : Option Addr} {ys : List Int} {c : Nat} (row : (Kd.int .u8).C w0 B ys.length ys) (cap : ys.length ≤ c) (len : ys.length ≤ 300) :
    Calls Try.prog 11 #[.pointer (some ⟨g, 0, none⟩), .pointer (some ⟨h, 0, none⟩), .agg #[.int .i64 4, .int .i64 n, .int .i64 k, .slice B ys.length c]] w (DoPost w0 w g h) := by
  have BA := Aside0.mk (below_alloc (Below.refl w.heap.size w) (.cells #[.int .i64 4, .int .i64 n, .int .i64 k, .slice B ys.length c] 32))
  have HB := Aside0.mk (hb.below BA.out)
  have F := Aside0.mk (show OpBox w0 (w.alloc (.cells #[.int .i64 4, .int .i64 n, .int .i64 k, .slice B ys.length c] 32)) w.heap.size 4 n k B ys c from ⟨blk_new w _, below_then hB hB.size BA.out, row, cap, len⟩)
  have F0 := Aside0.mk (F.out.below (Below.refl _ _).drew)
  have HBS := Aside0.mk hB
  have HK := Aside0.mk hk
  clear hb hB row cap len hk
  have q0 := F.out.c0
  have q1 := F.out.c1
  have q2 := F.out.c2
  go_enter Try.func11, Try.ntmps11
  go_wp2_with (first
    | (go_at_call 16; (with_reducible refine (read_any HB.out.d n).mono ?_); rintro e w3 ⟨⟨v, rfl, hs⟩, hp⟩; have F3 := Aside0.mk (F.out.below hp); have q3 := F3.out.c1; have B3 := Aside0.mk (HB.out.below hp); have P3 := Aside0.mk hp; have qs := hs _ (Below.refl _ _); clear hs hp)
    | (go_at_call 24; (with_reducible refine (rread_any B3.out.r n).mono ?_); rintro e w4 ⟨rfl, rfl⟩))
  go_ret
  exact ⟨by first | rfl | simp, ⟨_, _, _, B3.out⟩, below_then (BA.out.mono HBS.out.size) (by rw [alloc_size]; have := HBS.out.size; omega) P3.out⟩


set_option maxHeartbeats 2000000 in
set_option maxRecDepth 100000 in
theorem do5 {w0 w : World} {g h : Nat} {v0 v1 : Value} {x : DSt} (hb : Both w0 w g h v0 v1 x) (hB : Below w0.heap.size w0 w) (n k : Int) (hk : k < 9223372036854775808) {B : Option Addr} {ys : List Int} {c : Nat} (row : (Kd.int .u8).C w0 B ys.length ys) (cap : ys.length ≤ c) (len : ys.length ≤ 300) :
    Calls Try.prog 11 #[.pointer (some ⟨g, 0, none⟩), .pointer (some ⟨h, 0, none⟩), .agg #[.int .i64 5, .int .i64 n, .int .i64 k, .slice B ys.length c]] w (DoPost w0 w g h) := by
  have BA := Aside0.mk (below_alloc (Below.refl w.heap.size w) (.cells #[.int .i64 5, .int .i64 n, .int .i64 k, .slice B ys.length c] 32))
  have HB := Aside0.mk (hb.below BA.out)
  have F := Aside0.mk (show OpBox w0 (w.alloc (.cells #[.int .i64 5, .int .i64 n, .int .i64 k, .slice B ys.length c] 32)) w.heap.size 5 n k B ys c from ⟨blk_new w _, below_then hB hB.size BA.out, row, cap, len⟩)
  have F0 := Aside0.mk (F.out.below (Below.refl _ _).drew)
  have HBS := Aside0.mk hB
  have HK := Aside0.mk hk
  clear hb hB row cap len hk
  have q0 := F.out.c0
  have q1 := F.out.c1
  have q2 := F.out.c2
  go_enter Try.func11, Try.ntmps11
  go_wp2_with (first
    | (go_at_call 13; (with_reducible refine (arm_any HB.out.d k HK.out).mono ?_); rintro e w3 ⟨rfl, hp⟩; have F3 := Aside0.mk (F.out.dpost HB.out.d hp); have q3 := F3.out.c2; have R3 := Aside0.mk (HB.out.r.dpost HB.out.d hp); have P3 := Aside0.mk hp; clear hp)
    | (go_at_call 25; (with_reducible refine (rarms_calls R3.out k HK.out).mono ?_); rintro e w4 ⟨rfl, hp⟩; have P4 := Aside0.mk hp; clear hp))
  go_ret
  obtain ⟨a0, a1, hd, hb3, ho3⟩ := P3.out
  exact ⟨by first | rfl | simp, ⟨a0, a1, _, P4.out.dsk R3.out hd, P4.out.rd⟩, (BA.out.mono HBS.out.size).trans (hb3.trans P4.out.below)⟩


set_option maxHeartbeats 2000000 in
set_option maxRecDepth 100000 in
theorem do6 {w0 w : World} {g h : Nat} {v0 v1 : Value} {x : DSt} (hb : Both w0 w g h v0 v1 x) (hB : Below w0.heap.size w0 w) (n k : Int) (hk : k < 9223372036854775808) {B : Option Addr} {ys : List Int} {c : Nat} (row : (Kd.int .u8).C w0 B ys.length ys) (cap : ys.length ≤ c) (len : ys.length ≤ 300) :
    Calls Try.prog 11 #[.pointer (some ⟨g, 0, none⟩), .pointer (some ⟨h, 0, none⟩), .agg #[.int .i64 6, .int .i64 n, .int .i64 k, .slice B ys.length c]] w (DoPost w0 w g h) := by
  have BA := Aside0.mk (below_alloc (Below.refl w.heap.size w) (.cells #[.int .i64 6, .int .i64 n, .int .i64 k, .slice B ys.length c] 32))
  have HB := Aside0.mk (hb.below BA.out)
  have F := Aside0.mk (show OpBox w0 (w.alloc (.cells #[.int .i64 6, .int .i64 n, .int .i64 k, .slice B ys.length c] 32)) w.heap.size 6 n k B ys c from ⟨blk_new w _, below_then hB hB.size BA.out, row, cap, len⟩)
  have F0 := Aside0.mk (F.out.below (Below.refl _ _).drew)
  have HBS := Aside0.mk hB
  have HK := Aside0.mk hk
  clear hb hB row cap len hk
  have q0 := F.out.c0
  have q1 := F.out.c1
  have q2 := F.out.c2
  go_enter Try.func11, Try.ntmps11
  go_wp2_with (first
    | (go_at_call 15; (with_reducible refine (wake_any HB.out.d).mono ?_); rintro e w3 ⟨rfl, hp⟩; have F3 := Aside0.mk (F.out.dpost HB.out.d hp); have R3 := Aside0.mk (HB.out.r.dpost HB.out.d hp); have P3 := Aside0.mk hp; clear hp)
    | (go_at_call 26; (with_reducible refine (rwake_calls R3.out).mono ?_); rintro e w4 ⟨rfl, hp⟩; have P4 := Aside0.mk hp; clear hp))
  go_ret
  obtain ⟨a0, a1, hd, hb3, ho3⟩ := P3.out
  exact ⟨by first | rfl | simp, ⟨a0, a1, _, P4.out.dsk R3.out hd, P4.out.rd⟩, (BA.out.mono HBS.out.size).trans (hb3.trans P4.out.below)⟩


set_option maxHeartbeats 2000000 in
set_option maxRecDepth 100000 in
theorem doOther {w0 w : World} {g h : Nat} {v0 v1 : Value} {x : DSt} (hb : Both w0 w g h v0 v1 x) (hB : Below w0.heap.size w0 w) (K : Int) (hK : K < 1 ∨ 7 < K) (n k : Int) (hk : k < 9223372036854775808) {B : Option Addr} {ys : List Int} {c : Nat} (row : (Kd.int .u8).C w0 B ys.length ys) (cap : ys.length ≤ c) (len : ys.length ≤ 300) :
    Calls Try.prog 11 #[.pointer (some ⟨g, 0, none⟩), .pointer (some ⟨h, 0, none⟩), .agg #[.int .i64 K, .int .i64 n, .int .i64 k, .slice B ys.length c]] w (DoPost w0 w g h) := by
  have BA := Aside0.mk (below_alloc (Below.refl w.heap.size w) (.cells #[.int .i64 K, .int .i64 n, .int .i64 k, .slice B ys.length c] 32))
  have HB := Aside0.mk (hb.below BA.out)
  have F := Aside0.mk (show OpBox w0 (w.alloc (.cells #[.int .i64 K, .int .i64 n, .int .i64 k, .slice B ys.length c] 32)) w.heap.size K n k B ys c from ⟨blk_new w _, below_then hB hB.size BA.out, row, cap, len⟩)
  have F0 := Aside0.mk (F.out.below (Below.refl _ _).drew)
  have HBS := Aside0.mk hB
  have HK := Aside0.mk hk
  clear hb hB row cap len hk
  have b1 : (K == 1) = false := beq_eq_false_iff_ne.mpr (by omega)
  have b2 : (K == 2) = false := beq_eq_false_iff_ne.mpr (by omega)
  have b3 : (K == 3) = false := beq_eq_false_iff_ne.mpr (by omega)
  have b4 : (K == 4) = false := beq_eq_false_iff_ne.mpr (by omega)
  have b5 : (K == 5) = false := beq_eq_false_iff_ne.mpr (by omega)
  have b6 : (K == 6) = false := beq_eq_false_iff_ne.mpr (by omega)
  have b7 : (K == 7) = false := beq_eq_false_iff_ne.mpr (by omega)
  have q0 := F.out.c0
  have q1 := F.out.c1
  have q2 := F.out.c2
  clear hK
  go_enter Try.func11, Try.ntmps11
  go_wp2
  go_ret
  exact ⟨rfl, ⟨_, _, _, HB.out⟩, BA.out.mono HBS.out.size⟩


theorem do_calls {w0 w : World} {g h : Nat} {v0 v1 : Value} {x : DSt} (hb : Both w0 w g h v0 v1 x) (hB : Below w0.heap.size w0 w) (K n k : Int) (hk : k < 9223372036854775808) {B : Option Addr} {ys : List Int} {c : Nat} (row : (Kd.int .u8).C w0 B ys.length ys) (cap : ys.length ≤ c) (len : ys.length ≤ 300) :
    Calls Try.prog 11 #[.pointer (some ⟨g, 0, none⟩), .pointer (some ⟨h, 0, none⟩), .agg #[.int .i64 K, .int .i64 n, .int .i64 k, .slice B ys.length c]] w (DoPost w0 w g h) := by
  by_cases h0 : K < 1 ∨ 7 < K
  · exact doOther hb hB K h0 n k hk row cap len
  · have : K = 1 ∨ K = 2 ∨ K = 3 ∨ K = 4 ∨ K = 5 ∨ K = 6 ∨ K = 7 := by omega
    rcases this with rfl | rfl | rfl | rfl | rfl | rfl | rfl
    · exact do1 hb hB n k hk row cap len
    · exact do2 hb hB n k hk row cap len
    · exact do3 hb hB n k hk row cap len
    · exact do4 hb hB n k hk row cap len
    · exact do5 hb hB n k hk row cap len
    · exact do6 hb hB n k hk row cap len
    · exact do7 hb hB n k hk row cap len

end Go.Proofs.Ytijbcfnkeahdoaa.Disk
