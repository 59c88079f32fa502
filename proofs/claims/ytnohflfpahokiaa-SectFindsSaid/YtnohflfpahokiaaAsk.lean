
/- ask: what is asked of a reader is read; what can not be read is noted, and the place stays. -/
import Derived.Test.YtnohflfpahokiaaRdr2
import Derived.Defers
import Derived.Recover
set_option linter.unusedVariables false
set_option linter.unusedSimpArgs false
set_option maxRecDepth 20000
namespace Go.Proofs.Ytnohflfpahokiaa.Rd
open Go Go.RowKit Go.Proofs.YtnohflfpahokiaaW.PrintWords Go.Proofs.YtnohflfpahokiaaW.PrintLast Go.Proofs.Ytnohflfpahokiaa.LebM Go.Proofs.Ytnohflfpahokiaa.Leb
/-- the three variables that the closure holds: the place, what comes out, the reader -/
structure Box3 (w : World) (g b5 b4 b2 : Nat) (p0 : Nat) (v : Value) (T : Nat) : Prop where
  ab : w.heap[b5]? = some (.cells #[.int .i64 (p0 : Int)] 3 (0, 0))
  ob : w.heap[b4]? = some (.cells #[v] T (0, 0))
  rb : w.heap[b2]? = some (.cells #[.pointer (some ⟨g, 0, none⟩)] 52 (0, 0))
  ne45 : b4 ≠ b5
  ne42 : b4 ≠ b2
theorem cell_other {w : World} {b b' i : Nat} {u v : Value} (h : b ≠ b') (hc : w.cell? ⟨b, 0, none⟩ = some v) : (w.setCell ⟨b', i, none⟩ u).cell? ⟨b, 0, none⟩ = some v := by
  have := Below.heap_setCell w ⟨b', i, none⟩ u b h
  simpa [World.cell?, this] using hc
theorem far1 {w : World} {b T : Nat} {v : Value} (hv : ∀ q, v ≠ .int .u8 q) (hb : w.heap[b]? = some (.cells #[v] T (0, 0))) : ∀ (a : Addr) (q : Int), w.cell? a = some (.int .u8 q) → a.block ≠ b := by
  intro a q hc he
  unfold World.cell? at hc
  rw [he, hb] at hc
  simp only at hc
  split at hc
  · cases hc
  · match ho : a.off with
    | 0 => rw [ho] at hc; simp at hc; exact hv q hc
    | n + 1 => rw [ho] at hc; simp at hc
theorem keep_row (w : World) (g b : Nat) (u : Value) : KeepBut w (w.setCell ⟨b, 0, none⟩ u) g (some b) := ⟨by simp, fun i _ _ h => Below.heap_setCell w ⟨b, 0, none⟩ u i (fun e => h (congrArg some e))⟩
theorem two_a (w : World) (u v : Value) {T T' : Nat} : ((w.alloc (.cells #[u] T)).alloc (.cells #[v] T')).heap[w.heap.size]? = some (.cells #[u] T (0, 0)) := (Below.heap_alloc _ _ _ (by simp)).trans (blk_new w _)
theorem two_b (w : World) (u v : Value) {T T' : Nat} : ((w.alloc (.cells #[u] T)).alloc (.cells #[v] T')).heap[w.heap.size + 1]? = some (.cells #[v] T' (0, 0)) := by
  have := blk_new (w.alloc (.cells #[u] T)) (.cells #[v] T')
  simpa using this
theorem kp_out {base g b : Nat} {w W w4 w5 : World} {v : Value} (hB : Below w.heap.size w W) (hs : base ≤ w.heap.size) (K : Kp base W w4 g) (hb : w.heap.size ≤ b) (h5 : Below (w4.setCell ⟨b, 0, none⟩ v).heap.size (w4.setCell ⟨b, 0, none⟩ v) w5) : Kp base w w5 g := by
  have hz : (w4.setCell ⟨b, 0, none⟩ v).heap.size = w4.heap.size := by simp
  have h1 := K.1.1
  have h2 := hB.size
  have h3 := h5.size
  refine ⟨⟨by omega, fun i hi hg _ => ?_⟩, ?_, ?_⟩
  · exact (h5.block i (by omega)).trans ((Below.heap_setCell w4 ⟨b, 0, none⟩ v i (show i ≠ b by omega)).trans ((K.1.2 i (by omega) hg (by simp)).trans (hB.block i hi)))
  · exact below_then (((hB.mono hs).trans K.2).setCell (show base ≤ b by omega) v) (by omega) h5
  · intro hg
    exact ((((Fld.of_below hB g).trans hB.size K.fld).set_ (b := b) (i := 0) (.inl (by omega)) v).trans (by omega) (Fld.of_below h5 g)) hg
theorem kp_caught {base g b : Nat} {w W w4 w5 : World} (hB : Below w.heap.size w W) (hs : base ≤ w.heap.size) (K : Kp base W w4 g) (hb : w.heap.size ≤ b) (h5 : KeepBut w4 w5 g (some b)) (h6 : Below base w4 w5 ∧ Fld w4 w5 g) : Kp base w w5 g := by
  have h1 := K.1.1
  have h2 := hB.size
  have h3 := h5.1
  refine ⟨⟨by omega, fun i hi hg _ => ?_⟩, ((hB.mono hs).trans K.2).trans h6.1, ((Fld.of_below hB g).trans hB.size K.fld).trans (by omega) h6.2⟩
  exact (h5.2 i (by omega) hg (fun e => by injection e with e; omega)).trans ((K.1.2 i (by omega) hg (by simp)).trans (hB.block i hi))
theorem Box3.keep {w w' : World} {g b5 b4 b2 p0 T : Nat} {v : Value} (b : Box3 w g b5 b4 b2 p0 v T) (k : KeepBut w w' g none) (hg : g < b2) (h5 : g < b5 := by omega) (h4 : g < b4 := by omega) : Box3 w' g b5 b4 b2 p0 v T :=
  ⟨(k.2 b5 (blk_lt b.ab) (by omega) (by simp)).trans b.ab, (k.2 b4 (blk_lt b.ob) (by omega) (by simp)).trans b.ob, (k.2 b2 (blk_lt b.rb) (by omega) (by simp)).trans b.rb, b.ne45, b.ne42⟩
/-! ### a region that begins with recover -/
section
variable {P : Program} {ops : Array Oper} {Q : Exit → Act → List Frame → World → Prop}
theorem upon_S {o : Oper} {a : Act} {cs : List Frame} {next next' : Act → World → Prop} {r : Result Next} (hq : ∀ a w, ¬ Q .outgrown a cs w) (h : o.upon P a next (fun e a w => Q e a cs w) r) (hn : ∀ a w, next a w → next' a w) :
    (∀ w, r ≠ .ok .recover w) ∧ o.upon P a next' (fun e a w => Q e a cs w) r := by
  cases r with
  | ok n w' =>
    cases n with
    | recover => simp [Oper.upon] at h
    | value v => exact ⟨(by simp), hn _ _ h⟩
    | skip => exact ⟨(by simp), hn _ _ h⟩
    | defer d => exact ⟨(by simp), hn _ _ h⟩
    | enter f args => exact ⟨(by simp), Calls.mono h (fun e w'' he => by cases e <;> first | exact hn _ _ he | exact he)⟩
    | row row args => exact ⟨(by simp), Rows.mono h (fun _ _ he => hn _ _ he)⟩
    | _ => simp [Oper.upon] at h
  | halt x w' => exact ⟨(by simp), by cases x <;> simp only [Oper.upon] at h ⊢ <;> exact h⟩
theorem wpOpsS_of_wpOps {cs : List Frame} (hq : ∀ a w, ¬ Q .outgrown a cs w) : ∀ (l : List Nat) (a : Act) (w : World), wpOps P ops (fun e a w => Q e a cs w) l a w → wpOpsS P ops Q l a cs w
  | [], a, w, h => h
  | i :: rest, a, w, h => by
    simp only [wpOps] at h
    simp only [wpOpsS]
    cases ho : ops[i]? with
    | none =>
      rw [ho] at h
      exact wpOpsS_of_wpOps hq rest a w h
    | some o =>
      rw [ho] at h
      simp only at h ⊢
      by_cases hw : Region.wanted o (yielded ops a.tmps) = true
      · rw [if_pos hw] at h ⊢
        rcases h with h | ⟨_, a2, w2, h⟩
        · unfold Oper.wp at h
          obtain ⟨h1, h2⟩ := upon_S hq h (fun a w => wpOpsS_of_wpOps hq rest a w)
          generalize hr : (execOp a.eval o).run P w = r at h1 h2 ⊢
          match r, h1, h2 with
          | .ok .recover w', h1, _ => exact absurd rfl (h1 w')
          | .ok (.value v) w', _, h2 => exact h2
          | .ok .skip w', _, h2 => exact h2
          | .ok (.defer d) w', _, h2 => exact h2
          | .ok (.enter f args) w', _, h2 => exact h2
          | .ok (.row row args) w', _, h2 => exact h2
          | .halt x w', _, h2 => exact h2
        · exact absurd h (hq a2 w2)
      · rw [if_neg hw] at h ⊢
        exact wpOpsS_of_wpOps hq rest _ w h
theorem wpS_recover {id : Nat} {o : Oper} {l : List Oper} {a : Act} {cs cs' : List Frame} {v : Value} {w : World} (hd : o.guard = none) (ho : ∀ ρ, (execOp ρ o).run P w = .ok .recover w) (hr : recoverD cs = some (v, cs') ∨ (recoverD cs = none ∧ v = .nilIface ∧ cs' = cs)) (hq : ∀ a w, ¬ Q .outgrown a cs' w)
    (h : wpList P (o :: l).toArray (fun e a w => Q e a cs' w) l (a.put o.dst v) w) : (Code.region id (o :: l).toArray false).wpS P Q a cs w := by
  apply wpS_region
  have hs : (o :: l).toArray.size = l.length + 1 := by simp
  rw [hs, List.range_eq_range', List.range'_succ]
  simp only [wpOpsS]
  have h0 : (o :: l).toArray[0]? = some o := by simp
  rw [h0]
  simp only
  have hw : Region.wanted o (yielded (o :: l).toArray a.tmps) = true := by simp [Region.wanted, hd]
  rw [if_pos hw, ho]
  have hrest := wpOpsS_of_wpOps (P := P) (ops := (o :: l).toArray) (Q := Q) hq (List.range' 1 l.length) (a.put o.dst v) w (by
    rw [wpOps_eq_wpList l 1 (fun j => by rw [Nat.add_comm]; simp)]
    exact h)
  rcases hr with hr | ⟨hr, rfl, rfl⟩
  · rw [hr]
    exact hrest
  · rw [hr]
    exact hrest
end


set_option maxHeartbeats 1000000 in
theorem cInt_idle (a b c : Addr) (w : World) :
    CallsD Try.prog 77 #[.pointer (some a), .pointer (some b), .pointer (some c)] .returning w fun e u' w' => e = .returned (.tuple #[]) ∧ u' = .returning ∧ Below w.heap.size w w' := by
  refine callsD_of_wpS Try.func77 rfl fun c₀ cs hu => ?_
  simp only [Try.ntmps77, List.size_toArray, List.length_cons, List.length_nil, Nat.reduceAdd, Nat.reduceSub, Array.replicate_succ, Array.replicate_zero, List.push_toArray, List.append_toArray, List.nil_append, List.cons_append]
  apply wpS_seq
  refine wpS_recover rfl (fun ρ => rfl) (.inr ⟨by simp [recoverD, hu], rfl, rfl⟩) ?_ ?_
  · rintro a w ⟨u', h, _⟩
    cases h
  have hta : ∀ W : World, (Instr.typeAssert .nilIface 20 101 true).run Try.prog W = .ok (.tuple #[.agg #[.int .i64 0], .bool false]) W := fun W => by kernel_rfl
  go_wp2
  simp only [Exit.thenS]
  refine wpS_of_wp ?_
  go_wp2
  exact ⟨rfl, c₀.mode, rfl, _, results_none rfl _ _ _, rfl, hu, below_alloc (Below.refl _ _) _⟩
set_option maxHeartbeats 2000000 in
theorem cInt_caught {base g b5 b4 b2 p p0 : Nat} {w : World} {bs : List Int} {er : Int} (r : Rdr 76 base w g bs p er) (b : Box3 w g b5 b4 b2 p0 (.int .i64 0) 3) (hp : p0 ≤ bs.length) (hb : base ≤ b4) (hg4 : b4 ≠ g) (x : Int) :
    CallsD Try.prog 77 #[.pointer (some ⟨b5, 0, none⟩), .pointer (some ⟨b4, 0, none⟩), .pointer (some ⟨b2, 0, none⟩)] (.panicking (brk x)) w fun e u' w' => e = .returned (.tuple #[]) ∧ u' = .panicking [{ v := .iface 101 (.agg #[.int .i64 x]), recovered := true }] ∧ w'.heap[b4]? = some (.cells #[.int .i64 0] 3 (0, 0)) ∧ Rdr 76 base w' g bs p0 x ∧ KeepBut w w' g (some b4) ∧ Below base w w' ∧ Fld w w' g := by
  obtain ⟨V, hV⟩ : ∃ V, w.alloc (.cells #[.int .i64 x] 101) = V := ⟨_, rfl⟩
  have BV := below_alloc (Below.refl w.heap.size w) (.cells #[.int .i64 x] 101)
  rw [hV] at BV
  have R := Aside0.mk (r.below BV)
  have d5 : V.cell? ⟨b5, 0, none⟩ = some (.int .i64 (p0 : Int)) := (blk_cell (blk_below b.ab BV) 0).trans rfl
  have d4 : V.cell? ⟨b4, 0, none⟩ = some (.int .i64 0) := (blk_cell (blk_below b.ob BV) 0).trans rfl
  have d2 : V.cell? ⟨b2, 0, none⟩ = some (.pointer (some ⟨g, 0, none⟩)) := (blk_cell (blk_below b.rb BV) 0).trans rfl
  have dx : V.cell? ⟨w.heap.size, 0, none⟩ = some (.int .i64 x) := by rw [← hV]; exact (blk_cell (blk_new w _) 0).trans rfl
  have HB4 := Aside0.mk (show V.drew.heap[b4]? = some (.cells #[.int .i64 0] 3 (0, 0)) from blk_below b.ob BV.drew)
  have e5 : V.drew.cell? ⟨b5, 0, none⟩ = some (.int .i64 (p0 : Int)) := d5
  have e4 : V.drew.cell? ⟨b4, 0, none⟩ = some (.int .i64 0) := d4
  have e2 : V.drew.cell? ⟨b2, 0, none⟩ = some (.pointer (some ⟨g, 0, none⟩)) := d2
  have ex : V.drew.cell? ⟨w.heap.size, 0, none⟩ = some (.int .i64 x) := dx
  have f4 : V.drew.frozen? ⟨b4, 0, none⟩ = false := blk_frozen HB4.out 0
  have n4w : w.heap.size ≠ b4 := fun e => by have := blk_lt b.ob; omega
  have ngw : w.heap.size ≠ g := fun e => by obtain ⟨_, _, h, _⟩ := r.blk; have := blk_lt h; omega
  have ng2 : b2 ≠ g := fun e => by obtain ⟨_, _, h, _⟩ := r.blk; exact blk_ne b.rb h (by decide) e
  have ng5 : b5 ≠ g := fun e => by obtain ⟨_, _, h, _⟩ := r.blk; exact blk_ne b.ab h (by decide) e
  have n45 := b.ne45
  have n42 := b.ne42
  have B := Aside0.mk b
  have g1 := R.out.c1
  have g2 := R.out.c2
  have gf1 := R.out.fz 1
  have gf2 := R.out.fz 2
  refine callsD_of_wpS Try.func77 rfl fun c₀ cs hu => ?_
  simp only [Try.ntmps77, List.size_toArray, List.length_cons, List.length_nil, Nat.reduceAdd, Nat.reduceSub, Array.replicate_succ, Array.replicate_zero, List.push_toArray, List.append_toArray, List.nil_append, List.cons_append]
  apply wpS_seq
  refine wpS_recover (v := .iface 101 (.agg #[.int .i64 x])) (cs' := { c₀ with mode := .panicking [{ v := .iface 101 (.agg #[.int .i64 x]), recovered := true }] } :: cs) rfl (fun ρ => rfl) (.inl (by simp [recoverD, hu, brk])) ?_ ?_
  · rintro a w ⟨u', h, _⟩
    cases h
  have hta : ∀ W : World, (Instr.typeAssert (.iface 101 (.agg #[.int .i64 x])) 20 101 true).run Try.prog W = .ok (.tuple #[.agg #[.int .i64 x], .bool true]) W := fun W => by rfl
  go_wp2
  simp only [Exit.thenS]
  refine wpS_of_wp ?_
  go_wp2
  refine start_ (n := 13) (S := fun w' => w'.cell? ⟨b2, 0, none⟩ = some (.pointer (some ⟨g, 0, none⟩)) ∧ w'.cell? ⟨b5, 0, none⟩ = some (.int .i64 (p0 : Int)) ∧ w'.cell? ⟨w.heap.size, 0, none⟩ = some (.int .i64 x)) (ds := []) #[false, false, false, false, false, false, false, false, false, false, false, false, false] (by kernel_rfl) rfl rfl ⟨e2, e5, ex⟩ (fun hHeld => ?_)
  refine pure_ (i := 2) (N := some 14) (v := ?_) (a' := ?_) #[false, false, true, false, false, false, false, false, false, false, false, false, false] rfl rfl (by kernel_rfl) (fun _ _ _ h => h) (Or.inl ⟨by rfl, ?_⟩) ?_ ?_
  rotate_left
  · intro w'
    go_simp
    with_reducible rfl
  rotate_left
  · simp only [Act.put, List.setIfInBounds_toArray, List.set_cons_zero, List.set_cons_succ, i64_w, i32_w]
    rfl
  refine pure_ (i := 4) (N := some 16) (v := ?_) (a' := ?_) #[false, false, true, false, true, false, false, false, false, false, false, false, false] rfl rfl (by kernel_rfl) (fun _ _ _ h => h) (Or.inl ⟨by rfl, ?_⟩) ?_ ?_
  rotate_left
  · intro w'
    go_simp
    with_reducible rfl
  rotate_left
  · simp only [Act.put, List.setIfInBounds_toArray, List.set_cons_zero, List.set_cons_succ, i64_w, i32_w]
    rfl
  refine take_ (i := 0) (N := some 12) (v := ?_) (a' := ?_) #[true, false, true, false, true, false, false, false, false, false, false, false, false] rfl rfl (by kernel_rfl) (fun _ _ _ h => h) (Or.inl ⟨by rfl, ?_⟩) hHeld ?_ ?_
  rotate_left
  · rintro w' ⟨s0, s1, s2⟩
    go_simp
    with_reducible rfl
  rotate_left
  · simp only [Act.put, List.setIfInBounds_toArray, List.set_cons_zero, List.set_cons_succ, i64_w, i32_w]
    rfl
  refine take_ (i := 1) (N := some 13) (v := ?_) (a' := ?_) #[true, true, true, false, true, false, false, false, false, false, false, false, false] rfl rfl (by kernel_rfl) (fun _ _ _ h => h) (Or.inl ⟨by rfl, ?_⟩) hHeld ?_ ?_
  rotate_left
  · rintro w' ⟨s0, s1, s2⟩
    go_simp
    with_reducible rfl
  rotate_left
  · simp only [Act.put, List.setIfInBounds_toArray, List.set_cons_zero, List.set_cons_succ, i64_w, i32_w]
    rfl
  refine take_ (i := 3) (N := some 15) (v := ?_) (a' := ?_) #[true, true, true, true, true, false, false, false, false, false, false, false, false] rfl rfl (by kernel_rfl) (fun _ _ _ h => h) (Or.inl ⟨by rfl, ?_⟩) hHeld ?_ ?_
  rotate_left
  · rintro w' ⟨s0, s1, s2⟩
    go_simp
    with_reducible rfl
  rotate_left
  · simp only [Act.put, List.setIfInBounds_toArray, List.set_cons_zero, List.set_cons_succ, i64_w, i32_w]
    rfl
  refine take_ (i := 5) (N := some 17) (v := ?_) (a' := ?_) #[true, true, true, true, true, true, false, false, false, false, false, false, false] rfl rfl (by kernel_rfl) (fun _ _ _ h => h) (Or.inl ⟨by rfl, ?_⟩) hHeld ?_ ?_
  rotate_left
  · rintro w' ⟨s0, s1, s2⟩
    go_simp
    with_reducible rfl
  rotate_left
  · simp only [Act.put, List.setIfInBounds_toArray, List.set_cons_zero, List.set_cons_succ, i64_w, i32_w]
    rfl
  refine one_ (i := 6) (N := none) #[true, true, true, true, true, true, true, false, false, false, false, false, false] rfl rfl (by kernel_rfl) (by decide) (fun K hK => ?_)
  refine skip_ (w1 := ?_) (by rfl) rfl ?_ ?_
  rotate_left
  · go_simp
    rfl
  have R1 := Aside0.mk (R.out.drew.keep (h := b4) ((KeepBut.refl V.drew b4 none).set_ 0 (.int .i64 0)) (Ne.symm hg4) (far1 (by intro q h; cases h) HB4.out))
  refine hK.out _ _ ⟨(cell_other n42.symm e2), (cell_other n45.symm e5), (cell_other n4w ex)⟩ (fun hHeld => ?_)
  clear hK K
  refine pure_ (i := 7) (N := some 18) (v := ?_) (a' := ?_) #[true, true, true, true, true, true, true, true, false, false, false, false, false] rfl rfl (by kernel_rfl) (fun _ _ _ h => h) (Or.inl ⟨by rfl, ?_⟩) ?_ ?_
  rotate_left
  · intro w'
    go_simp
    with_reducible rfl
  rotate_left
  · simp only [Act.put, List.setIfInBounds_toArray, List.set_cons_zero, List.set_cons_succ, i64_w, i32_w]
    rfl
  refine pure_ (i := 8) (N := some 19) (v := ?_) (a' := ?_) #[true, true, true, true, true, true, true, true, true, false, false, false, false] rfl rfl (by kernel_rfl) (fun _ _ _ h => h) (Or.inl ⟨by rfl, ?_⟩) ?_ ?_
  rotate_left
  · intro w'
    go_simp
    with_reducible rfl
  rotate_left
  · simp only [Act.put, List.setIfInBounds_toArray, List.set_cons_zero, List.set_cons_succ, i64_w, i32_w]
    rfl
  refine one_ (i := 9) (N := none) #[true, true, true, true, true, true, true, true, true, true, false, false, false] rfl rfl (by kernel_rfl) (by decide) (fun K hK => ?_)
  refine skip_ (w1 := ?_) (by rfl) rfl ?_ ?_
  rotate_left
  · go_simp
    rfl
  have R2 := Aside0.mk (R1.out.set1 hp)
  refine hK.out _ _ ⟨(cell_other ng2 (cell_other n42.symm e2)), (cell_other ng5 (cell_other n45.symm e5)), (cell_other ngw (cell_other n4w ex))⟩ (fun hHeld => ?_)
  clear hK K
  refine pure_ (i := 10) (N := some 20) (v := ?_) (a' := ?_) #[true, true, true, true, true, true, true, true, true, true, true, false, false] rfl rfl (by kernel_rfl) (fun _ _ _ h => h) (Or.inl ⟨by rfl, ?_⟩) ?_ ?_
  rotate_left
  · intro w'
    go_simp
    with_reducible rfl
  rotate_left
  · simp only [Act.put, List.setIfInBounds_toArray, List.set_cons_zero, List.set_cons_succ, i64_w, i32_w]
    rfl
  refine pure_ (i := 11) (N := some 21) (v := ?_) (a' := ?_) #[true, true, true, true, true, true, true, true, true, true, true, true, false] rfl rfl (by kernel_rfl) (fun _ _ _ h => h) (Or.inl ⟨by rfl, ?_⟩) ?_ ?_
  rotate_left
  · intro w'
    go_simp
    with_reducible rfl
  rotate_left
  · simp only [Act.put, List.setIfInBounds_toArray, List.set_cons_zero, List.set_cons_succ, i64_w, i32_w]
    rfl
  refine one_ (i := 12) (N := none) #[true, true, true, true, true, true, true, true, true, true, true, true, true] rfl rfl (by kernel_rfl) (by decide) (fun K hK => ?_)
  refine skip_ (w1 := ?_) (by rfl) rfl ?_ ?_
  rotate_left
  · go_simp
    rfl
  have R3 := Aside0.mk (R2.out.set2 x)
  refine hK.out _ _ ⟨(cell_other ng2 (cell_other ng2 (cell_other n42.symm e2))), (cell_other ng5 (cell_other ng5 (cell_other n45.symm e5))), (cell_other ngw (cell_other ngw (cell_other n4w ex)))⟩ (fun hHeld => ?_)
  clear hK K
  refine done_ (by kernel_rfl) ?_

  refine ⟨rfl, _, rfl, _, results_none rfl _ _ _, rfl, rfl, ?_, R3.out, ?_, ?_, ?_⟩
  · exact (Below.heap_setCell _ ⟨g, 2, none⟩ _ b4 hg4).trans ((Below.heap_setCell _ ⟨g, 1, none⟩ _ b4 hg4).trans (blk_set HB4.out 0 _))
  · exact ((((KeepBut.of_below BV g (some b4)).trans (KeepBut.of_below (Below.refl _ _).drew g (some b4)) (.inl rfl)).trans (keep_row _ g b4 _) (.inl rfl)).set_ 1 _).set_ 2 _
  · exact ((((BV.mono r.size).drew).setCell hb _).setCell r.low _).setCell r.low _
  · exact ((((Fld.of_below BV g).trans BV.size (Fld.of_below (Below.refl _ _).drew g)).set_ (.inl hg4) _).set_ (.inr (by decide)) _).set_ (.inr (by decide)) _


set_option maxHeartbeats 1000000 in
theorem cW_idle (a b c : Addr) (w : World) :
    CallsD Try.prog 80 #[.pointer (some a), .pointer (some b), .pointer (some c)] .returning w fun e u' w' => e = .returned (.tuple #[]) ∧ u' = .returning ∧ Below w.heap.size w w' := by
  refine callsD_of_wpS Try.func80 rfl fun c₀ cs hu => ?_
  simp only [Try.ntmps80, List.size_toArray, List.length_cons, List.length_nil, Nat.reduceAdd, Nat.reduceSub, Array.replicate_succ, Array.replicate_zero, List.push_toArray, List.append_toArray, List.nil_append, List.cons_append]
  apply wpS_seq
  refine wpS_recover rfl (fun ρ => rfl) (.inr ⟨by simp [recoverD, hu], rfl, rfl⟩) ?_ ?_
  · rintro a w ⟨u', h, _⟩
    cases h
  have hta : ∀ W : World, (Instr.typeAssert .nilIface 20 101 true).run Try.prog W = .ok (.tuple #[.agg #[.int .i64 0], .bool false]) W := fun W => by kernel_rfl
  go_wp2
  simp only [Exit.thenS]
  refine wpS_of_wp ?_
  go_wp2
  exact ⟨rfl, c₀.mode, rfl, _, results_none rfl _ _ _, rfl, hu, below_alloc (Below.refl _ _) _⟩
set_option maxHeartbeats 2000000 in
theorem cW_caught {base g b5 b4 b2 p p0 : Nat} {w : World} {bs : List Int} {er : Int} (r : Rdr 76 base w g bs p er) (b : Box3 w g b5 b4 b2 p0 (.int .u32 0) 41) (hp : p0 ≤ bs.length) (hb : base ≤ b4) (hg4 : b4 ≠ g) (x : Int) :
    CallsD Try.prog 80 #[.pointer (some ⟨b5, 0, none⟩), .pointer (some ⟨b4, 0, none⟩), .pointer (some ⟨b2, 0, none⟩)] (.panicking (brk x)) w fun e u' w' => e = .returned (.tuple #[]) ∧ u' = .panicking [{ v := .iface 101 (.agg #[.int .i64 x]), recovered := true }] ∧ w'.heap[b4]? = some (.cells #[.int .u32 0] 41 (0, 0)) ∧ Rdr 76 base w' g bs p0 x ∧ KeepBut w w' g (some b4) ∧ Below base w w' ∧ Fld w w' g := by
  obtain ⟨V, hV⟩ : ∃ V, w.alloc (.cells #[.int .i64 x] 101) = V := ⟨_, rfl⟩
  have BV := below_alloc (Below.refl w.heap.size w) (.cells #[.int .i64 x] 101)
  rw [hV] at BV
  have R := Aside0.mk (r.below BV)
  have d5 : V.cell? ⟨b5, 0, none⟩ = some (.int .i64 (p0 : Int)) := (blk_cell (blk_below b.ab BV) 0).trans rfl
  have d4 : V.cell? ⟨b4, 0, none⟩ = some (.int .u32 0) := (blk_cell (blk_below b.ob BV) 0).trans rfl
  have d2 : V.cell? ⟨b2, 0, none⟩ = some (.pointer (some ⟨g, 0, none⟩)) := (blk_cell (blk_below b.rb BV) 0).trans rfl
  have dx : V.cell? ⟨w.heap.size, 0, none⟩ = some (.int .i64 x) := by rw [← hV]; exact (blk_cell (blk_new w _) 0).trans rfl
  have HB4 := Aside0.mk (show V.drew.heap[b4]? = some (.cells #[.int .u32 0] 41 (0, 0)) from blk_below b.ob BV.drew)
  have e5 : V.drew.cell? ⟨b5, 0, none⟩ = some (.int .i64 (p0 : Int)) := d5
  have e4 : V.drew.cell? ⟨b4, 0, none⟩ = some (.int .u32 0) := d4
  have e2 : V.drew.cell? ⟨b2, 0, none⟩ = some (.pointer (some ⟨g, 0, none⟩)) := d2
  have ex : V.drew.cell? ⟨w.heap.size, 0, none⟩ = some (.int .i64 x) := dx
  have f4 : V.drew.frozen? ⟨b4, 0, none⟩ = false := blk_frozen HB4.out 0
  have n4w : w.heap.size ≠ b4 := fun e => by have := blk_lt b.ob; omega
  have ngw : w.heap.size ≠ g := fun e => by obtain ⟨_, _, h, _⟩ := r.blk; have := blk_lt h; omega
  have ng2 : b2 ≠ g := fun e => by obtain ⟨_, _, h, _⟩ := r.blk; exact blk_ne b.rb h (by decide) e
  have ng5 : b5 ≠ g := fun e => by obtain ⟨_, _, h, _⟩ := r.blk; exact blk_ne b.ab h (by decide) e
  have n45 := b.ne45
  have n42 := b.ne42
  have B := Aside0.mk b
  have g1 := R.out.c1
  have g2 := R.out.c2
  have gf1 := R.out.fz 1
  have gf2 := R.out.fz 2
  refine callsD_of_wpS Try.func80 rfl fun c₀ cs hu => ?_
  simp only [Try.ntmps80, List.size_toArray, List.length_cons, List.length_nil, Nat.reduceAdd, Nat.reduceSub, Array.replicate_succ, Array.replicate_zero, List.push_toArray, List.append_toArray, List.nil_append, List.cons_append]
  apply wpS_seq
  refine wpS_recover (v := .iface 101 (.agg #[.int .i64 x])) (cs' := { c₀ with mode := .panicking [{ v := .iface 101 (.agg #[.int .i64 x]), recovered := true }] } :: cs) rfl (fun ρ => rfl) (.inl (by simp [recoverD, hu, brk])) ?_ ?_
  · rintro a w ⟨u', h, _⟩
    cases h
  have hta : ∀ W : World, (Instr.typeAssert (.iface 101 (.agg #[.int .i64 x])) 20 101 true).run Try.prog W = .ok (.tuple #[.agg #[.int .i64 x], .bool true]) W := fun W => by rfl
  go_wp2
  simp only [Exit.thenS]
  refine wpS_of_wp ?_
  go_wp2
  refine start_ (n := 13) (S := fun w' => w'.cell? ⟨b2, 0, none⟩ = some (.pointer (some ⟨g, 0, none⟩)) ∧ w'.cell? ⟨b5, 0, none⟩ = some (.int .i64 (p0 : Int)) ∧ w'.cell? ⟨w.heap.size, 0, none⟩ = some (.int .i64 x)) (ds := []) #[false, false, false, false, false, false, false, false, false, false, false, false, false] (by kernel_rfl) rfl rfl ⟨e2, e5, ex⟩ (fun hHeld => ?_)
  refine pure_ (i := 2) (N := some 14) (v := ?_) (a' := ?_) #[false, false, true, false, false, false, false, false, false, false, false, false, false] rfl rfl (by kernel_rfl) (fun _ _ _ h => h) (Or.inl ⟨by rfl, ?_⟩) ?_ ?_
  rotate_left
  · intro w'
    go_simp
    with_reducible rfl
  rotate_left
  · simp only [Act.put, List.setIfInBounds_toArray, List.set_cons_zero, List.set_cons_succ, i64_w, i32_w]
    rfl
  refine pure_ (i := 4) (N := some 16) (v := ?_) (a' := ?_) #[false, false, true, false, true, false, false, false, false, false, false, false, false] rfl rfl (by kernel_rfl) (fun _ _ _ h => h) (Or.inl ⟨by rfl, ?_⟩) ?_ ?_
  rotate_left
  · intro w'
    go_simp
    with_reducible rfl
  rotate_left
  · simp only [Act.put, List.setIfInBounds_toArray, List.set_cons_zero, List.set_cons_succ, i64_w, i32_w]
    rfl
  refine take_ (i := 0) (N := some 12) (v := ?_) (a' := ?_) #[true, false, true, false, true, false, false, false, false, false, false, false, false] rfl rfl (by kernel_rfl) (fun _ _ _ h => h) (Or.inl ⟨by rfl, ?_⟩) hHeld ?_ ?_
  rotate_left
  · rintro w' ⟨s0, s1, s2⟩
    go_simp
    with_reducible rfl
  rotate_left
  · simp only [Act.put, List.setIfInBounds_toArray, List.set_cons_zero, List.set_cons_succ, i64_w, i32_w]
    rfl
  refine take_ (i := 1) (N := some 13) (v := ?_) (a' := ?_) #[true, true, true, false, true, false, false, false, false, false, false, false, false] rfl rfl (by kernel_rfl) (fun _ _ _ h => h) (Or.inl ⟨by rfl, ?_⟩) hHeld ?_ ?_
  rotate_left
  · rintro w' ⟨s0, s1, s2⟩
    go_simp
    with_reducible rfl
  rotate_left
  · simp only [Act.put, List.setIfInBounds_toArray, List.set_cons_zero, List.set_cons_succ, i64_w, i32_w]
    rfl
  refine take_ (i := 3) (N := some 15) (v := ?_) (a' := ?_) #[true, true, true, true, true, false, false, false, false, false, false, false, false] rfl rfl (by kernel_rfl) (fun _ _ _ h => h) (Or.inl ⟨by rfl, ?_⟩) hHeld ?_ ?_
  rotate_left
  · rintro w' ⟨s0, s1, s2⟩
    go_simp
    with_reducible rfl
  rotate_left
  · simp only [Act.put, List.setIfInBounds_toArray, List.set_cons_zero, List.set_cons_succ, i64_w, i32_w]
    rfl
  refine take_ (i := 5) (N := some 17) (v := ?_) (a' := ?_) #[true, true, true, true, true, true, false, false, false, false, false, false, false] rfl rfl (by kernel_rfl) (fun _ _ _ h => h) (Or.inl ⟨by rfl, ?_⟩) hHeld ?_ ?_
  rotate_left
  · rintro w' ⟨s0, s1, s2⟩
    go_simp
    with_reducible rfl
  rotate_left
  · simp only [Act.put, List.setIfInBounds_toArray, List.set_cons_zero, List.set_cons_succ, i64_w, i32_w]
    rfl
  refine one_ (i := 6) (N := none) #[true, true, true, true, true, true, true, false, false, false, false, false, false] rfl rfl (by kernel_rfl) (by decide) (fun K hK => ?_)
  refine skip_ (w1 := ?_) (by rfl) rfl ?_ ?_
  rotate_left
  · go_simp
    rfl
  have R1 := Aside0.mk (R.out.drew.keep (h := b4) ((KeepBut.refl V.drew b4 none).set_ 0 (.int .u32 0)) (Ne.symm hg4) (far1 (by intro q h; cases h) HB4.out))
  refine hK.out _ _ ⟨(cell_other n42.symm e2), (cell_other n45.symm e5), (cell_other n4w ex)⟩ (fun hHeld => ?_)
  clear hK K
  refine pure_ (i := 7) (N := some 18) (v := ?_) (a' := ?_) #[true, true, true, true, true, true, true, true, false, false, false, false, false] rfl rfl (by kernel_rfl) (fun _ _ _ h => h) (Or.inl ⟨by rfl, ?_⟩) ?_ ?_
  rotate_left
  · intro w'
    go_simp
    with_reducible rfl
  rotate_left
  · simp only [Act.put, List.setIfInBounds_toArray, List.set_cons_zero, List.set_cons_succ, i64_w, i32_w]
    rfl
  refine pure_ (i := 8) (N := some 19) (v := ?_) (a' := ?_) #[true, true, true, true, true, true, true, true, true, false, false, false, false] rfl rfl (by kernel_rfl) (fun _ _ _ h => h) (Or.inl ⟨by rfl, ?_⟩) ?_ ?_
  rotate_left
  · intro w'
    go_simp
    with_reducible rfl
  rotate_left
  · simp only [Act.put, List.setIfInBounds_toArray, List.set_cons_zero, List.set_cons_succ, i64_w, i32_w]
    rfl
  refine one_ (i := 9) (N := none) #[true, true, true, true, true, true, true, true, true, true, false, false, false] rfl rfl (by kernel_rfl) (by decide) (fun K hK => ?_)
  refine skip_ (w1 := ?_) (by rfl) rfl ?_ ?_
  rotate_left
  · go_simp
    rfl
  have R2 := Aside0.mk (R1.out.set1 hp)
  refine hK.out _ _ ⟨(cell_other ng2 (cell_other n42.symm e2)), (cell_other ng5 (cell_other n45.symm e5)), (cell_other ngw (cell_other n4w ex))⟩ (fun hHeld => ?_)
  clear hK K
  refine pure_ (i := 10) (N := some 20) (v := ?_) (a' := ?_) #[true, true, true, true, true, true, true, true, true, true, true, false, false] rfl rfl (by kernel_rfl) (fun _ _ _ h => h) (Or.inl ⟨by rfl, ?_⟩) ?_ ?_
  rotate_left
  · intro w'
    go_simp
    with_reducible rfl
  rotate_left
  · simp only [Act.put, List.setIfInBounds_toArray, List.set_cons_zero, List.set_cons_succ, i64_w, i32_w]
    rfl
  refine pure_ (i := 11) (N := some 21) (v := ?_) (a' := ?_) #[true, true, true, true, true, true, true, true, true, true, true, true, false] rfl rfl (by kernel_rfl) (fun _ _ _ h => h) (Or.inl ⟨by rfl, ?_⟩) ?_ ?_
  rotate_left
  · intro w'
    go_simp
    with_reducible rfl
  rotate_left
  · simp only [Act.put, List.setIfInBounds_toArray, List.set_cons_zero, List.set_cons_succ, i64_w, i32_w]
    rfl
  refine one_ (i := 12) (N := none) #[true, true, true, true, true, true, true, true, true, true, true, true, true] rfl rfl (by kernel_rfl) (by decide) (fun K hK => ?_)
  refine skip_ (w1 := ?_) (by rfl) rfl ?_ ?_
  rotate_left
  · go_simp
    rfl
  have R3 := Aside0.mk (R2.out.set2 x)
  refine hK.out _ _ ⟨(cell_other ng2 (cell_other ng2 (cell_other n42.symm e2))), (cell_other ng5 (cell_other ng5 (cell_other n45.symm e5))), (cell_other ngw (cell_other ngw (cell_other n4w ex)))⟩ (fun hHeld => ?_)
  clear hK K
  refine done_ (by kernel_rfl) ?_

  refine ⟨rfl, _, rfl, _, results_none rfl _ _ _, rfl, rfl, ?_, R3.out, ?_, ?_, ?_⟩
  · exact (Below.heap_setCell _ ⟨g, 2, none⟩ _ b4 hg4).trans ((Below.heap_setCell _ ⟨g, 1, none⟩ _ b4 hg4).trans (blk_set HB4.out 0 _))
  · exact ((((KeepBut.of_below BV g (some b4)).trans (KeepBut.of_below (Below.refl _ _).drew g (some b4)) (.inl rfl)).trans (keep_row _ g b4 _) (.inl rfl)).set_ 1 _).set_ 2 _
  · exact ((((BV.mono r.size).drew).setCell hb _).setCell r.low _).setCell r.low _
  · exact ((((Fld.of_below BV g).trans BV.size (Fld.of_below (Below.refl _ _).drew g)).set_ (.inl hg4) _).set_ (.inr (by decide)) _).set_ (.inr (by decide)) _


set_option maxHeartbeats 1000000 in
theorem cS_idle (a b c : Addr) (w : World) :
    CallsD Try.prog 78 #[.pointer (some a), .pointer (some b), .pointer (some c)] .returning w fun e u' w' => e = .returned (.tuple #[]) ∧ u' = .returning ∧ Below w.heap.size w w' := by
  refine callsD_of_wpS Try.func78 rfl fun c₀ cs hu => ?_
  simp only [Try.ntmps78, List.size_toArray, List.length_cons, List.length_nil, Nat.reduceAdd, Nat.reduceSub, Array.replicate_succ, Array.replicate_zero, List.push_toArray, List.append_toArray, List.nil_append, List.cons_append]
  apply wpS_seq
  refine wpS_recover rfl (fun ρ => rfl) (.inr ⟨by simp [recoverD, hu], rfl, rfl⟩) ?_ ?_
  · rintro a w ⟨u', h, _⟩
    cases h
  have hta : ∀ W : World, (Instr.typeAssert .nilIface 20 101 true).run Try.prog W = .ok (.tuple #[.agg #[.int .i64 0], .bool false]) W := fun W => by kernel_rfl
  go_wp2
  simp only [Exit.thenS]
  refine wpS_of_wp ?_
  go_wp2
  exact ⟨rfl, c₀.mode, rfl, _, results_none rfl _ _ _, rfl, hu, below_alloc (Below.refl _ _) _⟩
set_option maxHeartbeats 2000000 in
theorem cS_caught {base g b5 b4 b2 p p0 : Nat} {w : World} {bs : List Int} {er : Int} (r : Rdr 76 base w g bs p er) (b : Box3 w g b5 b4 b2 p0 (.string ⟨#[]⟩) 9) (hp : p0 ≤ bs.length) (hb : base ≤ b4) (hg4 : b4 ≠ g) (x : Int) :
    CallsD Try.prog 78 #[.pointer (some ⟨b5, 0, none⟩), .pointer (some ⟨b4, 0, none⟩), .pointer (some ⟨b2, 0, none⟩)] (.panicking (brk x)) w fun e u' w' => e = .returned (.tuple #[]) ∧ u' = .panicking [{ v := .iface 101 (.agg #[.int .i64 x]), recovered := true }] ∧ w'.heap[b4]? = some (.cells #[.string ⟨#[]⟩] 9 (0, 0)) ∧ Rdr 76 base w' g bs p0 x ∧ KeepBut w w' g (some b4) ∧ Below base w w' ∧ Fld w w' g := by
  obtain ⟨V, hV⟩ : ∃ V, w.alloc (.cells #[.int .i64 x] 101) = V := ⟨_, rfl⟩
  have BV := below_alloc (Below.refl w.heap.size w) (.cells #[.int .i64 x] 101)
  rw [hV] at BV
  have R := Aside0.mk (r.below BV)
  have d5 : V.cell? ⟨b5, 0, none⟩ = some (.int .i64 (p0 : Int)) := (blk_cell (blk_below b.ab BV) 0).trans rfl
  have d4 : V.cell? ⟨b4, 0, none⟩ = some (.string ⟨#[]⟩) := (blk_cell (blk_below b.ob BV) 0).trans rfl
  have d2 : V.cell? ⟨b2, 0, none⟩ = some (.pointer (some ⟨g, 0, none⟩)) := (blk_cell (blk_below b.rb BV) 0).trans rfl
  have dx : V.cell? ⟨w.heap.size, 0, none⟩ = some (.int .i64 x) := by rw [← hV]; exact (blk_cell (blk_new w _) 0).trans rfl
  have HB4 := Aside0.mk (show V.drew.heap[b4]? = some (.cells #[.string ⟨#[]⟩] 9 (0, 0)) from blk_below b.ob BV.drew)
  have e5 : V.drew.cell? ⟨b5, 0, none⟩ = some (.int .i64 (p0 : Int)) := d5
  have e4 : V.drew.cell? ⟨b4, 0, none⟩ = some (.string ⟨#[]⟩) := d4
  have e2 : V.drew.cell? ⟨b2, 0, none⟩ = some (.pointer (some ⟨g, 0, none⟩)) := d2
  have ex : V.drew.cell? ⟨w.heap.size, 0, none⟩ = some (.int .i64 x) := dx
  have f4 : V.drew.frozen? ⟨b4, 0, none⟩ = false := blk_frozen HB4.out 0
  have n4w : w.heap.size ≠ b4 := fun e => by have := blk_lt b.ob; omega
  have ngw : w.heap.size ≠ g := fun e => by obtain ⟨_, _, h, _⟩ := r.blk; have := blk_lt h; omega
  have ng2 : b2 ≠ g := fun e => by obtain ⟨_, _, h, _⟩ := r.blk; exact blk_ne b.rb h (by decide) e
  have ng5 : b5 ≠ g := fun e => by obtain ⟨_, _, h, _⟩ := r.blk; exact blk_ne b.ab h (by decide) e
  have n45 := b.ne45
  have n42 := b.ne42
  have B := Aside0.mk b
  have g1 := R.out.c1
  have g2 := R.out.c2
  have gf1 := R.out.fz 1
  have gf2 := R.out.fz 2
  refine callsD_of_wpS Try.func78 rfl fun c₀ cs hu => ?_
  simp only [Try.ntmps78, List.size_toArray, List.length_cons, List.length_nil, Nat.reduceAdd, Nat.reduceSub, Array.replicate_succ, Array.replicate_zero, List.push_toArray, List.append_toArray, List.nil_append, List.cons_append]
  apply wpS_seq
  refine wpS_recover (v := .iface 101 (.agg #[.int .i64 x])) (cs' := { c₀ with mode := .panicking [{ v := .iface 101 (.agg #[.int .i64 x]), recovered := true }] } :: cs) rfl (fun ρ => rfl) (.inl (by simp [recoverD, hu, brk])) ?_ ?_
  · rintro a w ⟨u', h, _⟩
    cases h
  have hta : ∀ W : World, (Instr.typeAssert (.iface 101 (.agg #[.int .i64 x])) 20 101 true).run Try.prog W = .ok (.tuple #[.agg #[.int .i64 x], .bool true]) W := fun W => by rfl
  go_wp2
  simp only [Exit.thenS]
  refine wpS_of_wp ?_
  go_wp2
  refine start_ (n := 13) (S := fun w' => w'.cell? ⟨b2, 0, none⟩ = some (.pointer (some ⟨g, 0, none⟩)) ∧ w'.cell? ⟨b5, 0, none⟩ = some (.int .i64 (p0 : Int)) ∧ w'.cell? ⟨w.heap.size, 0, none⟩ = some (.int .i64 x)) (ds := []) #[false, false, false, false, false, false, false, false, false, false, false, false, false] (by kernel_rfl) rfl rfl ⟨e2, e5, ex⟩ (fun hHeld => ?_)
  refine pure_ (i := 2) (N := some 14) (v := ?_) (a' := ?_) #[false, false, true, false, false, false, false, false, false, false, false, false, false] rfl rfl (by kernel_rfl) (fun _ _ _ h => h) (Or.inl ⟨by rfl, ?_⟩) ?_ ?_
  rotate_left
  · intro w'
    go_simp
    with_reducible rfl
  rotate_left
  · simp only [Act.put, List.setIfInBounds_toArray, List.set_cons_zero, List.set_cons_succ, i64_w, i32_w]
    rfl
  refine pure_ (i := 4) (N := some 16) (v := ?_) (a' := ?_) #[false, false, true, false, true, false, false, false, false, false, false, false, false] rfl rfl (by kernel_rfl) (fun _ _ _ h => h) (Or.inl ⟨by rfl, ?_⟩) ?_ ?_
  rotate_left
  · intro w'
    go_simp
    with_reducible rfl
  rotate_left
  · simp only [Act.put, List.setIfInBounds_toArray, List.set_cons_zero, List.set_cons_succ, i64_w, i32_w]
    rfl
  refine take_ (i := 0) (N := some 12) (v := ?_) (a' := ?_) #[true, false, true, false, true, false, false, false, false, false, false, false, false] rfl rfl (by kernel_rfl) (fun _ _ _ h => h) (Or.inl ⟨by rfl, ?_⟩) hHeld ?_ ?_
  rotate_left
  · rintro w' ⟨s0, s1, s2⟩
    go_simp
    with_reducible rfl
  rotate_left
  · simp only [Act.put, List.setIfInBounds_toArray, List.set_cons_zero, List.set_cons_succ, i64_w, i32_w]
    rfl
  refine take_ (i := 1) (N := some 13) (v := ?_) (a' := ?_) #[true, true, true, false, true, false, false, false, false, false, false, false, false] rfl rfl (by kernel_rfl) (fun _ _ _ h => h) (Or.inl ⟨by rfl, ?_⟩) hHeld ?_ ?_
  rotate_left
  · rintro w' ⟨s0, s1, s2⟩
    go_simp
    with_reducible rfl
  rotate_left
  · simp only [Act.put, List.setIfInBounds_toArray, List.set_cons_zero, List.set_cons_succ, i64_w, i32_w]
    rfl
  refine take_ (i := 3) (N := some 15) (v := ?_) (a' := ?_) #[true, true, true, true, true, false, false, false, false, false, false, false, false] rfl rfl (by kernel_rfl) (fun _ _ _ h => h) (Or.inl ⟨by rfl, ?_⟩) hHeld ?_ ?_
  rotate_left
  · rintro w' ⟨s0, s1, s2⟩
    go_simp
    with_reducible rfl
  rotate_left
  · simp only [Act.put, List.setIfInBounds_toArray, List.set_cons_zero, List.set_cons_succ, i64_w, i32_w]
    rfl
  refine take_ (i := 5) (N := some 17) (v := ?_) (a' := ?_) #[true, true, true, true, true, true, false, false, false, false, false, false, false] rfl rfl (by kernel_rfl) (fun _ _ _ h => h) (Or.inl ⟨by rfl, ?_⟩) hHeld ?_ ?_
  rotate_left
  · rintro w' ⟨s0, s1, s2⟩
    go_simp
    with_reducible rfl
  rotate_left
  · simp only [Act.put, List.setIfInBounds_toArray, List.set_cons_zero, List.set_cons_succ, i64_w, i32_w]
    rfl
  refine one_ (i := 6) (N := none) #[true, true, true, true, true, true, true, false, false, false, false, false, false] rfl rfl (by kernel_rfl) (by decide) (fun K hK => ?_)
  refine skip_ (w1 := ?_) (by rfl) rfl ?_ ?_
  rotate_left
  · go_simp
    rfl
  have R1 := Aside0.mk (R.out.drew.keep (h := b4) ((KeepBut.refl V.drew b4 none).set_ 0 (.string ⟨#[]⟩)) (Ne.symm hg4) (far1 (by intro q h; cases h) HB4.out))
  refine hK.out _ _ ⟨(cell_other n42.symm e2), (cell_other n45.symm e5), (cell_other n4w ex)⟩ (fun hHeld => ?_)
  clear hK K
  refine pure_ (i := 7) (N := some 18) (v := ?_) (a' := ?_) #[true, true, true, true, true, true, true, true, false, false, false, false, false] rfl rfl (by kernel_rfl) (fun _ _ _ h => h) (Or.inl ⟨by rfl, ?_⟩) ?_ ?_
  rotate_left
  · intro w'
    go_simp
    with_reducible rfl
  rotate_left
  · simp only [Act.put, List.setIfInBounds_toArray, List.set_cons_zero, List.set_cons_succ, i64_w, i32_w]
    rfl
  refine pure_ (i := 8) (N := some 19) (v := ?_) (a' := ?_) #[true, true, true, true, true, true, true, true, true, false, false, false, false] rfl rfl (by kernel_rfl) (fun _ _ _ h => h) (Or.inl ⟨by rfl, ?_⟩) ?_ ?_
  rotate_left
  · intro w'
    go_simp
    with_reducible rfl
  rotate_left
  · simp only [Act.put, List.setIfInBounds_toArray, List.set_cons_zero, List.set_cons_succ, i64_w, i32_w]
    rfl
  refine one_ (i := 9) (N := none) #[true, true, true, true, true, true, true, true, true, true, false, false, false] rfl rfl (by kernel_rfl) (by decide) (fun K hK => ?_)
  refine skip_ (w1 := ?_) (by rfl) rfl ?_ ?_
  rotate_left
  · go_simp
    rfl
  have R2 := Aside0.mk (R1.out.set1 hp)
  refine hK.out _ _ ⟨(cell_other ng2 (cell_other n42.symm e2)), (cell_other ng5 (cell_other n45.symm e5)), (cell_other ngw (cell_other n4w ex))⟩ (fun hHeld => ?_)
  clear hK K
  refine pure_ (i := 10) (N := some 20) (v := ?_) (a' := ?_) #[true, true, true, true, true, true, true, true, true, true, true, false, false] rfl rfl (by kernel_rfl) (fun _ _ _ h => h) (Or.inl ⟨by rfl, ?_⟩) ?_ ?_
  rotate_left
  · intro w'
    go_simp
    with_reducible rfl
  rotate_left
  · simp only [Act.put, List.setIfInBounds_toArray, List.set_cons_zero, List.set_cons_succ, i64_w, i32_w]
    rfl
  refine pure_ (i := 11) (N := some 21) (v := ?_) (a' := ?_) #[true, true, true, true, true, true, true, true, true, true, true, true, false] rfl rfl (by kernel_rfl) (fun _ _ _ h => h) (Or.inl ⟨by rfl, ?_⟩) ?_ ?_
  rotate_left
  · intro w'
    go_simp
    with_reducible rfl
  rotate_left
  · simp only [Act.put, List.setIfInBounds_toArray, List.set_cons_zero, List.set_cons_succ, i64_w, i32_w]
    rfl
  refine one_ (i := 12) (N := none) #[true, true, true, true, true, true, true, true, true, true, true, true, true] rfl rfl (by kernel_rfl) (by decide) (fun K hK => ?_)
  refine skip_ (w1 := ?_) (by rfl) rfl ?_ ?_
  rotate_left
  · go_simp
    rfl
  have R3 := Aside0.mk (R2.out.set2 x)
  refine hK.out _ _ ⟨(cell_other ng2 (cell_other ng2 (cell_other n42.symm e2))), (cell_other ng5 (cell_other ng5 (cell_other n45.symm e5))), (cell_other ngw (cell_other ngw (cell_other n4w ex)))⟩ (fun hHeld => ?_)
  clear hK K
  refine done_ (by kernel_rfl) ?_

  refine ⟨rfl, _, rfl, _, results_none rfl _ _ _, rfl, rfl, ?_, R3.out, ?_, ?_, ?_⟩
  · exact (Below.heap_setCell _ ⟨g, 2, none⟩ _ b4 hg4).trans ((Below.heap_setCell _ ⟨g, 1, none⟩ _ b4 hg4).trans (blk_set HB4.out 0 _))
  · exact ((((KeepBut.of_below BV g (some b4)).trans (KeepBut.of_below (Below.refl _ _).drew g (some b4)) (.inl rfl)).trans (keep_row _ g b4 _) (.inl rfl)).set_ 1 _).set_ 2 _
  · exact ((((BV.mono r.size).drew).setCell hb _).setCell r.low _).setCell r.low _
  · exact ((((Fld.of_below BV g).trans BV.size (Fld.of_below (Below.refl _ _).drew g)).set_ (.inl hg4) _).set_ (.inr (by decide)) _).set_ (.inr (by decide)) _


set_option maxHeartbeats 1000000 in
theorem askInt_shut {base g p : Nat} {w : World} {bs : List Int} {er : Int} (r : Rdr 76 base w g bs p er) (he : er ≠ 0) (fv : Value) :
    Calls Try.prog 64 #[.pointer (some ⟨g, 0, none⟩), fv] w fun e w' => e = .returned (.int .i64 0) ∧ Below w.heap.size w w' := by
  have b1 : (er != 0) = true := bne_iff_ne.mpr he
  obtain ⟨V, hV⟩ : ∃ V, (w.alloc (.cells #[.pointer (some ⟨g, 0, none⟩)] 52)).alloc (.cells #[.int .i64 0] 3) = V := ⟨_, rfl⟩
  have BV : Below w.heap.size w V := by rw [← hV]; exact below_alloc (below_alloc (Below.refl _ _) _) _
  have hr : V.heap[w.heap.size]? = some (.cells #[.pointer (some ⟨g, 0, none⟩)] 52 (0, 0)) := by rw [← hV]; exact two_a w _ _
  have ho : V.heap[w.heap.size + 1]? = some (.cells #[.int .i64 0] 3 (0, 0)) := by rw [← hV]; exact two_b w _ _
  have d0 := (blk_cell hr 0).trans rfl
  have d1 := (blk_cell ho 0).trans rfl
  have f1 := blk_frozen ho 0
  have c2 := (r.below BV).c2
  have HO := Aside0.mk ho
  clear r he hr ho
  go_enter_defers Try.func64, Try.ntmps64
  go_wp2
  have dz : (V.setCell ⟨w.heap.size + 1, 0, none⟩ (.int .i64 0)).cell? ⟨w.heap.size + 1, 0, none⟩ = some (.int .i64 0) := (blk_cell (blk_set HO.out 0 _) 0).trans rfl
  refine ⟨.int .i64 0, ?_, rfl, BV.setCell (Nat.le_succ _) _⟩
  simp [results, Try.results64, go_sem, dz]
set_option maxHeartbeats 1000000 in
theorem askInt_nil (fv : Value) (w : World) :
    Calls Try.prog 64 #[.pointer none, fv] w fun e w' => e = .returned (.int .i64 0) ∧ Below w.heap.size w w' := by
  obtain ⟨V, hV⟩ : ∃ V, (w.alloc (.cells #[.pointer none] 52)).alloc (.cells #[.int .i64 0] 3) = V := ⟨_, rfl⟩
  have BV : Below w.heap.size w V := by rw [← hV]; exact below_alloc (below_alloc (Below.refl _ _) _) _
  have hr : V.heap[w.heap.size]? = some (.cells #[.pointer none] 52 (0, 0)) := by rw [← hV]; exact two_a w _ _
  have ho : V.heap[w.heap.size + 1]? = some (.cells #[.int .i64 0] 3 (0, 0)) := by rw [← hV]; exact two_b w _ _
  have d0 := (blk_cell hr 0).trans rfl
  have d1 := (blk_cell ho 0).trans rfl
  have f1 := blk_frozen ho 0
  have HO := Aside0.mk ho
  clear hr ho
  go_enter_defers Try.func64, Try.ntmps64
  go_wp2
  have dz : (V.setCell ⟨w.heap.size + 1, 0, none⟩ (.int .i64 0)).cell? ⟨w.heap.size + 1, 0, none⟩ = some (.int .i64 0) := (blk_cell (blk_set HO.out 0 _) 0).trans rfl
  refine ⟨.int .i64 0, ?_, rfl, BV.setCell (Nat.le_succ _) _⟩
  simp [results, Try.results64, go_sem, dz]


set_option maxHeartbeats 1000000 in
theorem askW_shut {base g p : Nat} {w : World} {bs : List Int} {er : Int} (r : Rdr 76 base w g bs p er) (he : er ≠ 0) (fv : Value) :
    Calls Try.prog 70 #[.pointer (some ⟨g, 0, none⟩), fv] w fun e w' => e = .returned (.int .u32 0) ∧ Below w.heap.size w w' := by
  have b1 : (er != 0) = true := bne_iff_ne.mpr he
  obtain ⟨V, hV⟩ : ∃ V, (w.alloc (.cells #[.pointer (some ⟨g, 0, none⟩)] 52)).alloc (.cells #[.int .u32 0] 41) = V := ⟨_, rfl⟩
  have BV : Below w.heap.size w V := by rw [← hV]; exact below_alloc (below_alloc (Below.refl _ _) _) _
  have hr : V.heap[w.heap.size]? = some (.cells #[.pointer (some ⟨g, 0, none⟩)] 52 (0, 0)) := by rw [← hV]; exact two_a w _ _
  have ho : V.heap[w.heap.size + 1]? = some (.cells #[.int .u32 0] 41 (0, 0)) := by rw [← hV]; exact two_b w _ _
  have d0 := (blk_cell hr 0).trans rfl
  have d1 := (blk_cell ho 0).trans rfl
  have f1 := blk_frozen ho 0
  have c2 := (r.below BV).c2
  have HO := Aside0.mk ho
  clear r he hr ho
  go_enter_defers Try.func70, Try.ntmps70
  go_wp2
  have dz : (V.setCell ⟨w.heap.size + 1, 0, none⟩ (.int .u32 0)).cell? ⟨w.heap.size + 1, 0, none⟩ = some (.int .u32 0) := (blk_cell (blk_set HO.out 0 _) 0).trans rfl
  refine ⟨.int .u32 0, ?_, rfl, BV.setCell (Nat.le_succ _) _⟩
  simp [results, Try.results70, go_sem, dz]
set_option maxHeartbeats 1000000 in
theorem askW_nil (fv : Value) (w : World) :
    Calls Try.prog 70 #[.pointer none, fv] w fun e w' => e = .returned (.int .u32 0) ∧ Below w.heap.size w w' := by
  obtain ⟨V, hV⟩ : ∃ V, (w.alloc (.cells #[.pointer none] 52)).alloc (.cells #[.int .u32 0] 41) = V := ⟨_, rfl⟩
  have BV : Below w.heap.size w V := by rw [← hV]; exact below_alloc (below_alloc (Below.refl _ _) _) _
  have hr : V.heap[w.heap.size]? = some (.cells #[.pointer none] 52 (0, 0)) := by rw [← hV]; exact two_a w _ _
  have ho : V.heap[w.heap.size + 1]? = some (.cells #[.int .u32 0] 41 (0, 0)) := by rw [← hV]; exact two_b w _ _
  have d0 := (blk_cell hr 0).trans rfl
  have d1 := (blk_cell ho 0).trans rfl
  have f1 := blk_frozen ho 0
  have HO := Aside0.mk ho
  clear hr ho
  go_enter_defers Try.func70, Try.ntmps70
  go_wp2
  have dz : (V.setCell ⟨w.heap.size + 1, 0, none⟩ (.int .u32 0)).cell? ⟨w.heap.size + 1, 0, none⟩ = some (.int .u32 0) := (blk_cell (blk_set HO.out 0 _) 0).trans rfl
  refine ⟨.int .u32 0, ?_, rfl, BV.setCell (Nat.le_succ _) _⟩
  simp [results, Try.results70, go_sem, dz]


set_option maxHeartbeats 1000000 in
theorem askS_shut {base g p : Nat} {w : World} {bs : List Int} {er : Int} (r : Rdr 76 base w g bs p er) (he : er ≠ 0) (fv : Value) :
    Calls Try.prog 67 #[.pointer (some ⟨g, 0, none⟩), fv] w fun e w' => e = .returned (.string ⟨#[]⟩) ∧ Below w.heap.size w w' := by
  have b1 : (er != 0) = true := bne_iff_ne.mpr he
  obtain ⟨V, hV⟩ : ∃ V, (w.alloc (.cells #[.pointer (some ⟨g, 0, none⟩)] 52)).alloc (.cells #[.string ⟨#[]⟩] 9) = V := ⟨_, rfl⟩
  have BV : Below w.heap.size w V := by rw [← hV]; exact below_alloc (below_alloc (Below.refl _ _) _) _
  have hr : V.heap[w.heap.size]? = some (.cells #[.pointer (some ⟨g, 0, none⟩)] 52 (0, 0)) := by rw [← hV]; exact two_a w _ _
  have ho : V.heap[w.heap.size + 1]? = some (.cells #[.string ⟨#[]⟩] 9 (0, 0)) := by rw [← hV]; exact two_b w _ _
  have d0 := (blk_cell hr 0).trans rfl
  have d1 := (blk_cell ho 0).trans rfl
  have f1 := blk_frozen ho 0
  have c2 := (r.below BV).c2
  have HO := Aside0.mk ho
  clear r he hr ho
  go_enter_defers Try.func67, Try.ntmps67
  go_wp2
  have dz : (V.setCell ⟨w.heap.size + 1, 0, none⟩ (.string ⟨#[]⟩)).cell? ⟨w.heap.size + 1, 0, none⟩ = some (.string ⟨#[]⟩) := (blk_cell (blk_set HO.out 0 _) 0).trans rfl
  refine ⟨.string ⟨#[]⟩, ?_, rfl, BV.setCell (Nat.le_succ _) _⟩
  simp [results, Try.results67, go_sem, dz]
set_option maxHeartbeats 1000000 in
theorem askS_nil (fv : Value) (w : World) :
    Calls Try.prog 67 #[.pointer none, fv] w fun e w' => e = .returned (.string ⟨#[]⟩) ∧ Below w.heap.size w w' := by
  obtain ⟨V, hV⟩ : ∃ V, (w.alloc (.cells #[.pointer none] 52)).alloc (.cells #[.string ⟨#[]⟩] 9) = V := ⟨_, rfl⟩
  have BV : Below w.heap.size w V := by rw [← hV]; exact below_alloc (below_alloc (Below.refl _ _) _) _
  have hr : V.heap[w.heap.size]? = some (.cells #[.pointer none] 52 (0, 0)) := by rw [← hV]; exact two_a w _ _
  have ho : V.heap[w.heap.size + 1]? = some (.cells #[.string ⟨#[]⟩] 9 (0, 0)) := by rw [← hV]; exact two_b w _ _
  have d0 := (blk_cell hr 0).trans rfl
  have d1 := (blk_cell ho 0).trans rfl
  have f1 := blk_frozen ho 0
  have HO := Aside0.mk ho
  clear hr ho
  go_enter_defers Try.func67, Try.ntmps67
  go_wp2
  have dz : (V.setCell ⟨w.heap.size + 1, 0, none⟩ (.string ⟨#[]⟩)).cell? ⟨w.heap.size + 1, 0, none⟩ = some (.string ⟨#[]⟩) := (blk_cell (blk_set HO.out 0 _) 0).trans rfl
  refine ⟨.string ⟨#[]⟩, ?_, rfl, BV.setCell (Nat.le_succ _) _⟩
  simp [results, Try.results67, go_sem, dz]


set_option maxHeartbeats 2000000 in
theorem ask_word_ok {base g p : Nat} {w : World} {bs : List Int} (r : Rdr 76 base w g bs p 0) {v : Int} {p' : Nat} (hF : ∀ w1, Below w.heap.size w w1 → Rdr 76 base w1 g bs p 0 → Calls Try.prog 71 (#[.pointer (some ⟨g, 0, none⟩)] : Array Value) w1 fun e w' => e = .returned (.int .u32 v) ∧ Rdr 76 base w' g bs p' 0 ∧ Kp base w1 w' g) :
    Calls Try.prog 70 #[.pointer (some ⟨g, 0, none⟩), .func (.func 71) #[] #[]] w fun e w' => e = .returned (.int .u32 v) ∧ Rdr 76 base w' g bs p' 0 ∧ Kp base w w' g := by
  have hmf : ∀ (fn : Fn) (first cap : Array Value) (w : World), (Instr.makeFunc fn first cap).run Try.prog w = .ok (.func fn first cap) w := fun _ _ _ _ => rfl
  obtain ⟨V, hV⟩ : ∃ V, (w.alloc (.cells #[.pointer (some ⟨g, 0, none⟩)] 52)).alloc (.cells #[.int .u32 0] 41) = V := ⟨_, rfl⟩
  have BV : Below w.heap.size w V := by rw [← hV]; exact below_alloc (below_alloc (Below.refl _ _) _) _
  have hr : V.heap[w.heap.size]? = some (.cells #[.pointer (some ⟨g, 0, none⟩)] 52 (0, 0)) := by rw [← hV]; exact two_a w _ _
  have ho : V.heap[w.heap.size + 1]? = some (.cells #[.int .u32 0] 41 (0, 0)) := by rw [← hV]; exact two_b w _ _
  have hs : V.heap.size = w.heap.size + 2 := by rw [← hV]; simp
  have d0 := (blk_cell hr 0).trans rfl
  have d1 := (blk_cell ho 0).trans rfl
  have f1 := blk_frozen ho 0
  have c2 := (r.below BV).c2
  have c1 := (r.below BV).c1
  have B3 := Aside0.mk (below_alloc BV (.cells #[.int .i64 (p : Int)] 3))
  have B33 := below_alloc (Below.refl V.heap.size V) (.cells #[.int .i64 (p : Int)] 3)
  have BX := Aside0.mk (show Box3 (V.alloc (.cells #[.int .i64 (p : Int)] 3)) g (w.heap.size + 2) (w.heap.size + 1) w.heap.size p (.int .u32 0) 41 from ⟨by rw [← hs]; exact blk_new V _, blk_below ho B33, blk_below hr B33, by omega, by omega⟩)
  have HG := Aside0.mk (show g < w.heap.size by obtain ⟨_, _, h, _⟩ := r.blk; exact blk_lt h)
  have HF := Aside0.mk hF
  have RS := Aside0.mk r.size
  have RL := Aside0.mk r.le
  have R3 := Aside0.mk (r.below B3.out)
  clear r hr ho hF B33
  go_enter_defers Try.func70, Try.ntmps70
  go_wp2_with (go_at_call 71; (with_reducible refine (HF.out _ B3.out R3.out).mono ?_); rintro e w4 ⟨rfl, h1, h2⟩; have R4 := Aside0.mk h1; have K4 := Aside0.mk h2; have BX4 := Aside0.mk (BX.out.keep h2.1 HG.out (by have := HG.out; omega) (by have := HG.out; omega)); have x1 := (blk_cell BX4.out.ob 0).trans rfl; have xf := blk_frozen BX4.out.ob 0; clear h1 h2)
  refine leaves_cons (f := 80) (args := #[.pointer (some ⟨w.heap.size + 2, 0, none⟩), .pointer (some ⟨w.heap.size + 1, 0, none⟩), .pointer (some ⟨w.heap.size, 0, none⟩)]) (by simp) (by simp [go_sem]) ?_
  refine (cW_idle _ _ _ _).mono ?_
  rintro e u' w5 ⟨rfl, rfl, hb⟩
  have dz : w5.cell? ⟨w.heap.size + 1, 0, none⟩ = some (.int .u32 v) := (blk_cell (blk_below (blk_set BX4.out.ob 0 (.int .u32 v)) hb) 0).trans rfl
  refine ⟨.int .u32 v, ?_, rfl, (R4.out.keep ((KeepBut.refl w4 (w.heap.size + 1) none).set_ 0 _) (by have := HG.out; omega) (far1 (by intro q h; cases h) BX4.out.ob)).below hb, kp_out B3.out RS.out K4.out (Nat.le_succ _) hb⟩
  simp [results, Try.results70, go_sem, dz]
set_option maxHeartbeats 2000000 in
theorem ask_word_bad {base g p : Nat} {w : World} {bs : List Int} (r : Rdr 76 base w g bs p 0) {x : Int} {p' : Nat} (hF : ∀ w1, Below w.heap.size w w1 → Rdr 76 base w1 g bs p 0 → Calls Try.prog 71 (#[.pointer (some ⟨g, 0, none⟩)] : Array Value) w1 fun e w' => e = .panicked (brk x) ∧ Rdr 76 base w' g bs p' 0 ∧ Kp base w1 w' g) :
    Calls Try.prog 70 #[.pointer (some ⟨g, 0, none⟩), .func (.func 71) #[] #[]] w fun e w' => e = .returned (.int .u32 0) ∧ Rdr 76 base w' g bs p x ∧ Kp base w w' g := by
  have hmf : ∀ (fn : Fn) (first cap : Array Value) (w : World), (Instr.makeFunc fn first cap).run Try.prog w = .ok (.func fn first cap) w := fun _ _ _ _ => rfl
  obtain ⟨V, hV⟩ : ∃ V, (w.alloc (.cells #[.pointer (some ⟨g, 0, none⟩)] 52)).alloc (.cells #[.int .u32 0] 41) = V := ⟨_, rfl⟩
  have BV : Below w.heap.size w V := by rw [← hV]; exact below_alloc (below_alloc (Below.refl _ _) _) _
  have hr : V.heap[w.heap.size]? = some (.cells #[.pointer (some ⟨g, 0, none⟩)] 52 (0, 0)) := by rw [← hV]; exact two_a w _ _
  have ho : V.heap[w.heap.size + 1]? = some (.cells #[.int .u32 0] 41 (0, 0)) := by rw [← hV]; exact two_b w _ _
  have hs : V.heap.size = w.heap.size + 2 := by rw [← hV]; simp
  have d0 := (blk_cell hr 0).trans rfl
  have d1 := (blk_cell ho 0).trans rfl
  have f1 := blk_frozen ho 0
  have c2 := (r.below BV).c2
  have c1 := (r.below BV).c1
  have B3 := Aside0.mk (below_alloc BV (.cells #[.int .i64 (p : Int)] 3))
  have B33 := below_alloc (Below.refl V.heap.size V) (.cells #[.int .i64 (p : Int)] 3)
  have BX := Aside0.mk (show Box3 (V.alloc (.cells #[.int .i64 (p : Int)] 3)) g (w.heap.size + 2) (w.heap.size + 1) w.heap.size p (.int .u32 0) 41 from ⟨by rw [← hs]; exact blk_new V _, blk_below ho B33, blk_below hr B33, by omega, by omega⟩)
  have HG := Aside0.mk (show g < w.heap.size by obtain ⟨_, _, h, _⟩ := r.blk; exact blk_lt h)
  have HF := Aside0.mk hF
  have RS := Aside0.mk r.size
  have RL := Aside0.mk r.le
  have R3 := Aside0.mk (r.below B3.out)
  clear r hr ho hF B33
  go_enter_defers Try.func70, Try.ntmps70
  go_wp2_with (go_at_call 71; (with_reducible refine (HF.out _ B3.out R3.out).mono ?_); rintro e w4 ⟨rfl, h1, h2⟩; have R4 := Aside0.mk h1; have K4 := Aside0.mk h2; have BX4 := Aside0.mk (BX.out.keep h2.1 HG.out (by have := HG.out; omega) (by have := HG.out; omega)); clear h1 h2)
  refine leaves_cons (f := 80) (args := #[.pointer (some ⟨w.heap.size + 2, 0, none⟩), .pointer (some ⟨w.heap.size + 1, 0, none⟩), .pointer (some ⟨w.heap.size, 0, none⟩)]) (by simp) (by simp [go_sem]) ?_
  refine (cW_caught R4.out BX4.out RL.out (by have := RS.out; omega) (by have := HG.out; omega) x).mono ?_
  rintro e u' w5 ⟨rfl, rfl, ho5, h1, h2, h3⟩
  have dz : w5.cell? ⟨w.heap.size + 1, 0, none⟩ = some (.int .u32 0) := (blk_cell ho5 0).trans rfl
  refine ⟨.int .u32 0, ?_, rfl, h1, kp_caught B3.out RS.out K4.out (Nat.le_succ _) h2 h3⟩
  simp [results, Try.results70, go_sem, dz]


set_option maxHeartbeats 2000000 in
theorem ask_byte1_ok {base g p : Nat} {w : World} {bs : List Int} (r : Rdr 76 base w g bs p 0) {v : Int} {p' : Nat} (hF : ∀ w1, Below w.heap.size w w1 → Rdr 76 base w1 g bs p 0 → Calls Try.prog 65 (#[.pointer (some ⟨g, 0, none⟩)] : Array Value) w1 fun e w' => e = .returned (.int .i64 v) ∧ Rdr 76 base w' g bs p' 0 ∧ Kp base w1 w' g) :
    Calls Try.prog 64 #[.pointer (some ⟨g, 0, none⟩), .func (.func 65) #[] #[]] w fun e w' => e = .returned (.int .i64 v) ∧ Rdr 76 base w' g bs p' 0 ∧ Kp base w w' g := by
  have hmf : ∀ (fn : Fn) (first cap : Array Value) (w : World), (Instr.makeFunc fn first cap).run Try.prog w = .ok (.func fn first cap) w := fun _ _ _ _ => rfl
  obtain ⟨V, hV⟩ : ∃ V, (w.alloc (.cells #[.pointer (some ⟨g, 0, none⟩)] 52)).alloc (.cells #[.int .i64 0] 3) = V := ⟨_, rfl⟩
  have BV : Below w.heap.size w V := by rw [← hV]; exact below_alloc (below_alloc (Below.refl _ _) _) _
  have hr : V.heap[w.heap.size]? = some (.cells #[.pointer (some ⟨g, 0, none⟩)] 52 (0, 0)) := by rw [← hV]; exact two_a w _ _
  have ho : V.heap[w.heap.size + 1]? = some (.cells #[.int .i64 0] 3 (0, 0)) := by rw [← hV]; exact two_b w _ _
  have hs : V.heap.size = w.heap.size + 2 := by rw [← hV]; simp
  have d0 := (blk_cell hr 0).trans rfl
  have d1 := (blk_cell ho 0).trans rfl
  have f1 := blk_frozen ho 0
  have c2 := (r.below BV).c2
  have c1 := (r.below BV).c1
  have B3 := Aside0.mk (below_alloc BV (.cells #[.int .i64 (p : Int)] 3))
  have B33 := below_alloc (Below.refl V.heap.size V) (.cells #[.int .i64 (p : Int)] 3)
  have BX := Aside0.mk (show Box3 (V.alloc (.cells #[.int .i64 (p : Int)] 3)) g (w.heap.size + 2) (w.heap.size + 1) w.heap.size p (.int .i64 0) 3 from ⟨by rw [← hs]; exact blk_new V _, blk_below ho B33, blk_below hr B33, by omega, by omega⟩)
  have HG := Aside0.mk (show g < w.heap.size by obtain ⟨_, _, h, _⟩ := r.blk; exact blk_lt h)
  have HF := Aside0.mk hF
  have RS := Aside0.mk r.size
  have RL := Aside0.mk r.le
  have R3 := Aside0.mk (r.below B3.out)
  clear r hr ho hF B33
  go_enter_defers Try.func64, Try.ntmps64
  go_wp2_with (go_at_call 65; (with_reducible refine (HF.out _ B3.out R3.out).mono ?_); rintro e w4 ⟨rfl, h1, h2⟩; have R4 := Aside0.mk h1; have K4 := Aside0.mk h2; have BX4 := Aside0.mk (BX.out.keep h2.1 HG.out (by have := HG.out; omega) (by have := HG.out; omega)); have x1 := (blk_cell BX4.out.ob 0).trans rfl; have xf := blk_frozen BX4.out.ob 0; clear h1 h2)
  refine leaves_cons (f := 77) (args := #[.pointer (some ⟨w.heap.size + 2, 0, none⟩), .pointer (some ⟨w.heap.size + 1, 0, none⟩), .pointer (some ⟨w.heap.size, 0, none⟩)]) (by simp) (by simp [go_sem]) ?_
  refine (cInt_idle _ _ _ _).mono ?_
  rintro e u' w5 ⟨rfl, rfl, hb⟩
  have dz : w5.cell? ⟨w.heap.size + 1, 0, none⟩ = some (.int .i64 v) := (blk_cell (blk_below (blk_set BX4.out.ob 0 (.int .i64 v)) hb) 0).trans rfl
  refine ⟨.int .i64 v, ?_, rfl, (R4.out.keep ((KeepBut.refl w4 (w.heap.size + 1) none).set_ 0 _) (by have := HG.out; omega) (far1 (by intro q h; cases h) BX4.out.ob)).below hb, kp_out B3.out RS.out K4.out (Nat.le_succ _) hb⟩
  simp [results, Try.results64, go_sem, dz]
set_option maxHeartbeats 2000000 in
theorem ask_byte1_bad {base g p : Nat} {w : World} {bs : List Int} (r : Rdr 76 base w g bs p 0) {x : Int} {p' : Nat} (hF : ∀ w1, Below w.heap.size w w1 → Rdr 76 base w1 g bs p 0 → Calls Try.prog 65 (#[.pointer (some ⟨g, 0, none⟩)] : Array Value) w1 fun e w' => e = .panicked (brk x) ∧ Rdr 76 base w' g bs p' 0 ∧ Kp base w1 w' g) :
    Calls Try.prog 64 #[.pointer (some ⟨g, 0, none⟩), .func (.func 65) #[] #[]] w fun e w' => e = .returned (.int .i64 0) ∧ Rdr 76 base w' g bs p x ∧ Kp base w w' g := by
  have hmf : ∀ (fn : Fn) (first cap : Array Value) (w : World), (Instr.makeFunc fn first cap).run Try.prog w = .ok (.func fn first cap) w := fun _ _ _ _ => rfl
  obtain ⟨V, hV⟩ : ∃ V, (w.alloc (.cells #[.pointer (some ⟨g, 0, none⟩)] 52)).alloc (.cells #[.int .i64 0] 3) = V := ⟨_, rfl⟩
  have BV : Below w.heap.size w V := by rw [← hV]; exact below_alloc (below_alloc (Below.refl _ _) _) _
  have hr : V.heap[w.heap.size]? = some (.cells #[.pointer (some ⟨g, 0, none⟩)] 52 (0, 0)) := by rw [← hV]; exact two_a w _ _
  have ho : V.heap[w.heap.size + 1]? = some (.cells #[.int .i64 0] 3 (0, 0)) := by rw [← hV]; exact two_b w _ _
  have hs : V.heap.size = w.heap.size + 2 := by rw [← hV]; simp
  have d0 := (blk_cell hr 0).trans rfl
  have d1 := (blk_cell ho 0).trans rfl
  have f1 := blk_frozen ho 0
  have c2 := (r.below BV).c2
  have c1 := (r.below BV).c1
  have B3 := Aside0.mk (below_alloc BV (.cells #[.int .i64 (p : Int)] 3))
  have B33 := below_alloc (Below.refl V.heap.size V) (.cells #[.int .i64 (p : Int)] 3)
  have BX := Aside0.mk (show Box3 (V.alloc (.cells #[.int .i64 (p : Int)] 3)) g (w.heap.size + 2) (w.heap.size + 1) w.heap.size p (.int .i64 0) 3 from ⟨by rw [← hs]; exact blk_new V _, blk_below ho B33, blk_below hr B33, by omega, by omega⟩)
  have HG := Aside0.mk (show g < w.heap.size by obtain ⟨_, _, h, _⟩ := r.blk; exact blk_lt h)
  have HF := Aside0.mk hF
  have RS := Aside0.mk r.size
  have RL := Aside0.mk r.le
  have R3 := Aside0.mk (r.below B3.out)
  clear r hr ho hF B33
  go_enter_defers Try.func64, Try.ntmps64
  go_wp2_with (go_at_call 65; (with_reducible refine (HF.out _ B3.out R3.out).mono ?_); rintro e w4 ⟨rfl, h1, h2⟩; have R4 := Aside0.mk h1; have K4 := Aside0.mk h2; have BX4 := Aside0.mk (BX.out.keep h2.1 HG.out (by have := HG.out; omega) (by have := HG.out; omega)); clear h1 h2)
  refine leaves_cons (f := 77) (args := #[.pointer (some ⟨w.heap.size + 2, 0, none⟩), .pointer (some ⟨w.heap.size + 1, 0, none⟩), .pointer (some ⟨w.heap.size, 0, none⟩)]) (by simp) (by simp [go_sem]) ?_
  refine (cInt_caught R4.out BX4.out RL.out (by have := RS.out; omega) (by have := HG.out; omega) x).mono ?_
  rintro e u' w5 ⟨rfl, rfl, ho5, h1, h2, h3⟩
  have dz : w5.cell? ⟨w.heap.size + 1, 0, none⟩ = some (.int .i64 0) := (blk_cell ho5 0).trans rfl
  refine ⟨.int .i64 0, ?_, rfl, h1, kp_caught B3.out RS.out K4.out (Nat.le_succ _) h2 h3⟩
  simp [results, Try.results64, go_sem, dz]


set_option maxHeartbeats 2000000 in
theorem ask_text1_ok {base g p : Nat} {w : World} {bs : List Int} (r : Rdr 76 base w g bs p 0) (q : Nat) {v : ByteArray} {p' : Nat} (hF : ∀ w1, Below w.heap.size w w1 → Rdr 76 base w1 g bs p 0 → Calls Try.prog 68 (#[.pointer (some ⟨g, 0, none⟩), .pointer (some ⟨q, 0, none⟩)] : Array Value) w1 fun e w' => e = .returned (.string v) ∧ Rdr 76 base w' g bs p' 0 ∧ Kp base w1 w' g) :
    Calls Try.prog 67 #[.pointer (some ⟨g, 0, none⟩), .func (.func 68) #[] #[.pointer (some ⟨q, 0, none⟩)]] w fun e w' => e = .returned (.string v) ∧ Rdr 76 base w' g bs p' 0 ∧ Kp base w w' g := by
  have hmf : ∀ (fn : Fn) (first cap : Array Value) (w : World), (Instr.makeFunc fn first cap).run Try.prog w = .ok (.func fn first cap) w := fun _ _ _ _ => rfl
  obtain ⟨V, hV⟩ : ∃ V, (w.alloc (.cells #[.pointer (some ⟨g, 0, none⟩)] 52)).alloc (.cells #[.string ⟨#[]⟩] 9) = V := ⟨_, rfl⟩
  have BV : Below w.heap.size w V := by rw [← hV]; exact below_alloc (below_alloc (Below.refl _ _) _) _
  have hr : V.heap[w.heap.size]? = some (.cells #[.pointer (some ⟨g, 0, none⟩)] 52 (0, 0)) := by rw [← hV]; exact two_a w _ _
  have ho : V.heap[w.heap.size + 1]? = some (.cells #[.string ⟨#[]⟩] 9 (0, 0)) := by rw [← hV]; exact two_b w _ _
  have hs : V.heap.size = w.heap.size + 2 := by rw [← hV]; simp
  have d0 := (blk_cell hr 0).trans rfl
  have d1 := (blk_cell ho 0).trans rfl
  have f1 := blk_frozen ho 0
  have c2 := (r.below BV).c2
  have c1 := (r.below BV).c1
  have B3 := Aside0.mk (below_alloc BV (.cells #[.int .i64 (p : Int)] 3))
  have B33 := below_alloc (Below.refl V.heap.size V) (.cells #[.int .i64 (p : Int)] 3)
  have BX := Aside0.mk (show Box3 (V.alloc (.cells #[.int .i64 (p : Int)] 3)) g (w.heap.size + 2) (w.heap.size + 1) w.heap.size p (.string ⟨#[]⟩) 9 from ⟨by rw [← hs]; exact blk_new V _, blk_below ho B33, blk_below hr B33, by omega, by omega⟩)
  have HG := Aside0.mk (show g < w.heap.size by obtain ⟨_, _, h, _⟩ := r.blk; exact blk_lt h)
  have HF := Aside0.mk hF
  have RS := Aside0.mk r.size
  have RL := Aside0.mk r.le
  have R3 := Aside0.mk (r.below B3.out)
  clear r hr ho hF B33
  go_enter_defers Try.func67, Try.ntmps67
  go_wp2_with (go_at_call 68; (with_reducible refine (HF.out _ B3.out R3.out).mono ?_); rintro e w4 ⟨rfl, h1, h2⟩; have R4 := Aside0.mk h1; have K4 := Aside0.mk h2; have BX4 := Aside0.mk (BX.out.keep h2.1 HG.out (by have := HG.out; omega) (by have := HG.out; omega)); have x1 := (blk_cell BX4.out.ob 0).trans rfl; have xf := blk_frozen BX4.out.ob 0; clear h1 h2)
  refine leaves_cons (f := 78) (args := #[.pointer (some ⟨w.heap.size + 2, 0, none⟩), .pointer (some ⟨w.heap.size + 1, 0, none⟩), .pointer (some ⟨w.heap.size, 0, none⟩)]) (by simp) (by simp [go_sem]) ?_
  refine (cS_idle _ _ _ _).mono ?_
  rintro e u' w5 ⟨rfl, rfl, hb⟩
  have dz : w5.cell? ⟨w.heap.size + 1, 0, none⟩ = some (.string v) := (blk_cell (blk_below (blk_set BX4.out.ob 0 (.string v)) hb) 0).trans rfl
  refine ⟨.string v, ?_, rfl, (R4.out.keep ((KeepBut.refl w4 (w.heap.size + 1) none).set_ 0 _) (by have := HG.out; omega) (far1 (by intro q h; cases h) BX4.out.ob)).below hb, kp_out B3.out RS.out K4.out (Nat.le_succ _) hb⟩
  simp [results, Try.results67, go_sem, dz]
set_option maxHeartbeats 2000000 in
theorem ask_text1_bad {base g p : Nat} {w : World} {bs : List Int} (r : Rdr 76 base w g bs p 0) (q : Nat) {x : Int} {p' : Nat} (hF : ∀ w1, Below w.heap.size w w1 → Rdr 76 base w1 g bs p 0 → Calls Try.prog 68 (#[.pointer (some ⟨g, 0, none⟩), .pointer (some ⟨q, 0, none⟩)] : Array Value) w1 fun e w' => e = .panicked (brk x) ∧ Rdr 76 base w' g bs p' 0 ∧ Kp base w1 w' g) :
    Calls Try.prog 67 #[.pointer (some ⟨g, 0, none⟩), .func (.func 68) #[] #[.pointer (some ⟨q, 0, none⟩)]] w fun e w' => e = .returned (.string ⟨#[]⟩) ∧ Rdr 76 base w' g bs p x ∧ Kp base w w' g := by
  have hmf : ∀ (fn : Fn) (first cap : Array Value) (w : World), (Instr.makeFunc fn first cap).run Try.prog w = .ok (.func fn first cap) w := fun _ _ _ _ => rfl
  obtain ⟨V, hV⟩ : ∃ V, (w.alloc (.cells #[.pointer (some ⟨g, 0, none⟩)] 52)).alloc (.cells #[.string ⟨#[]⟩] 9) = V := ⟨_, rfl⟩
  have BV : Below w.heap.size w V := by rw [← hV]; exact below_alloc (below_alloc (Below.refl _ _) _) _
  have hr : V.heap[w.heap.size]? = some (.cells #[.pointer (some ⟨g, 0, none⟩)] 52 (0, 0)) := by rw [← hV]; exact two_a w _ _
  have ho : V.heap[w.heap.size + 1]? = some (.cells #[.string ⟨#[]⟩] 9 (0, 0)) := by rw [← hV]; exact two_b w _ _
  have hs : V.heap.size = w.heap.size + 2 := by rw [← hV]; simp
  have d0 := (blk_cell hr 0).trans rfl
  have d1 := (blk_cell ho 0).trans rfl
  have f1 := blk_frozen ho 0
  have c2 := (r.below BV).c2
  have c1 := (r.below BV).c1
  have B3 := Aside0.mk (below_alloc BV (.cells #[.int .i64 (p : Int)] 3))
  have B33 := below_alloc (Below.refl V.heap.size V) (.cells #[.int .i64 (p : Int)] 3)
  have BX := Aside0.mk (show Box3 (V.alloc (.cells #[.int .i64 (p : Int)] 3)) g (w.heap.size + 2) (w.heap.size + 1) w.heap.size p (.string ⟨#[]⟩) 9 from ⟨by rw [← hs]; exact blk_new V _, blk_below ho B33, blk_below hr B33, by omega, by omega⟩)
  have HG := Aside0.mk (show g < w.heap.size by obtain ⟨_, _, h, _⟩ := r.blk; exact blk_lt h)
  have HF := Aside0.mk hF
  have RS := Aside0.mk r.size
  have RL := Aside0.mk r.le
  have R3 := Aside0.mk (r.below B3.out)
  clear r hr ho hF B33
  go_enter_defers Try.func67, Try.ntmps67
  go_wp2_with (go_at_call 68; (with_reducible refine (HF.out _ B3.out R3.out).mono ?_); rintro e w4 ⟨rfl, h1, h2⟩; have R4 := Aside0.mk h1; have K4 := Aside0.mk h2; have BX4 := Aside0.mk (BX.out.keep h2.1 HG.out (by have := HG.out; omega) (by have := HG.out; omega)); clear h1 h2)
  refine leaves_cons (f := 78) (args := #[.pointer (some ⟨w.heap.size + 2, 0, none⟩), .pointer (some ⟨w.heap.size + 1, 0, none⟩), .pointer (some ⟨w.heap.size, 0, none⟩)]) (by simp) (by simp [go_sem]) ?_
  refine (cS_caught R4.out BX4.out RL.out (by have := RS.out; omega) (by have := HG.out; omega) x).mono ?_
  rintro e u' w5 ⟨rfl, rfl, ho5, h1, h2, h3⟩
  have dz : w5.cell? ⟨w.heap.size + 1, 0, none⟩ = some (.string ⟨#[]⟩) := (blk_cell ho5 0).trans rfl
  refine ⟨.string ⟨#[]⟩, ?_, rfl, h1, kp_caught B3.out RS.out K4.out (Nat.le_succ _) h2 h3⟩
  simp [results, Try.results67, go_sem, dz]

end Go.Proofs.Ytnohflfpahokiaa.Rd
