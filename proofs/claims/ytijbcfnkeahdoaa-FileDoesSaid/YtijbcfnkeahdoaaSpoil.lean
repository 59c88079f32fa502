/- The walks of a disk's Read, Spoil and Clear, and of a nil disk's methods. -/
import Derived.Test.YtijbcfnkeahdoaaCut
import Derived.Laws.IdiomStrings
set_option linter.unusedVariables false
set_option linter.unusedSimpArgs false
namespace Go.Proofs.Ytijbcfnkeahdoaa.Disk
open Go Go.RowKit Go.Proofs.YtijbcfnkeahdoaaW.PrintWords Go.Proofs.YtijbcfnkeahdoaaW.PrintLast

theorem eql_nil (w : World) (a : Option Addr) (n c n' c' : Nat) : (binOp .eql 30 (.slice a n c) (.slice none n' c')).run Try.prog w = .ok (.bool a.isNone) w := Lib.run_eql_slice_nil w _ _ a n c n' c' Try.underlying30


set_option maxHeartbeats 1000000 in
/-- slices.Clone of a row of bytes: a row of the call's own. -/
theorem clone_calls {w : World} {ys : List Int} {A : Option Addr} {c : Nat} (hr : (Kd.int .u8).C w A ys.length ys) (hc : ys.length ≤ c) (hl : ys.length ≤ 140737488355328) :
    Calls Try.prog 31 #[.slice A ys.length c] w fun e w' => ∃ v, e = .returned v ∧ (Kd.int .u8).R 5 w' w.heap.size (fun _ => True) v ys ∧ Below w.heap.size w w' := by
  have HR := Aside0.mk hr
  clear hr
  have q := eql_nil
  cases A with
  | none =>
    have h0 : ys = [] := by
      rcases Nat.lt_or_ge 0 ys.length with h | h
      · obtain ⟨ad, e, _⟩ := HR.out.2.2 h; cases e
      · exact List.eq_nil_of_length_eq_zero (by omega)
    subst h0
    go_enter Try.func31, Try.ntmps31
    go_wp2
    go_ret
    exact ⟨_, rfl, Kd.R_nil _ _ _ _ _, Below.refl _ _⟩
  | some ad =>
    go_enter Try.func31, Try.ntmps31
    go_wp2_with (first | ((with_reducible refine gate_dst (N := 5) rfl ?_); refine Kd.R_lit (Kd.int .u8) w.heap.size 5 rfl (N := 5) rfl (xs := []) (inner := []) (ok := fun _ => True) (okp := fun _ => True) ?hr (Reps.none _ _) (fun _ hk => hk) trivial (Below.refl _ _) (Nat.le_refl _) (by simp) ?_; (case hr => first | (go_simp; done) | (go_simp; rfl)); intro v1 w1 h1 h2 _ _; have H1 := Aside0.mk h1; have H2 := Aside0.mk h2; obtain ⟨A1, c1, rfl⟩ := Kd.R_slice h1; clear h1 h2) | (at_builtin; refine Kd.R_append_rows (Kd.int .u8) (w0 := w) w.heap.size rfl (.tmp 5) (.tmp 6) 30 5 (.int .u8 0) 1 rfl Try.underlying30 info5 rfl (by decide) (by omega) _ [] ys (some ad) ys.length c (fun _ => True) (fun _ => False) rfl rfl H1.out (Kd.C_below HR.out H2.out) (fun _ _ h => h) (fun _ h => h.elim) (fun _ _ => trivial) H2.out H2.out.size (by simpa using hl) ?_; intro v2 w2 h1 h2 h3 h4; have H3 := Aside0.mk h1; have H4 := Aside0.mk h2; clear h1 h2 h3 h4))
    go_ret
    exact ⟨_, rfl, H3.out, H4.out⟩


set_option maxHeartbeats 1000000 in
theorem clear_said {n : Int} {Q : Ending → World → Prop} {u : Value} {w : World} (h : Calls Try.prog 19 #[u, .int .i64 n, .int .i64 0] w fun e w' => (∃ k, e = .returned (.int .i64 k)) ∧ Q e w') :
    Calls Try.prog 18 #[u, .int .i64 n] w Q := by
  have H := Aside0.mk h
  clear h
  go_enter Try.func18, Try.ntmps18
  go_wp2_with (go_at_call 19; (with_reducible refine H.out.mono ?_); rintro e w1 ⟨⟨k, rfl⟩, hq⟩; have HQ := Aside0.mk hq; clear hq)
  exact HQ.out

set_option maxHeartbeats 1000000 in
theorem read_bad {w : World} {g base : Nat} {v0 v1 : Value} {x : DSt} (h : Dsk w g base v0 v1 x) (n : Int) (hn : x.check n ≠ 0) :
    Calls Try.prog 16 #[.pointer (some ⟨g, 0, none⟩), .int .i64 n] w fun e w' => e = .returned (.tuple #[.slice none 0 0, .int .i64 (x.check n)]) ∧ w = w' := by
  have b1 : (x.check n != 0) = true := bne_iff_ne.mpr hn
  have H := Aside0.mk h
  clear h hn
  go_enter Try.func16, Try.ntmps16
  go_wp2_with (go_at_call 28; (with_reducible refine (check_calls H.out n).mono ?_); rintro e w1 ⟨rfl, rfl⟩)
  go_ret2
  exact ⟨rfl, rfl⟩
theorem slice_hm (A : Option Addr) (l c m : Nat) (h : m ≤ c) (W : World) : (Instr.slice 30 (.slice A l c) none (some (.int .i64 (m : Int))) (some (.int .i64 (m : Int)))).run Try.prog W = .ok (.slice A m m) W := by
  obtain ⟨i0, hi, hzz⟩ := Option.map_eq_some_iff.1 info5
  simp only [Prod.mk.injEq] at hzz
  have hel : Try.prog.elem 30 = 5 := by simp [Program.elem, Try.underlying30]
  have hu : Try.prog.underlying 30 = some (.slice (Try.prog.elem 30)) := by rw [hel]; exact Try.underlying30
  have ha : (A.map fun x => x.add 0) = A := by cases A <;> simp [Addr.add]
  rw [run_slice_hm W 30 A l c hu .i64 .i64 m m (by omega) (by omega) (by omega), hel]
  simp [sizeOf, typeInfo, hi, hzz.2.1, sliced, Result.andThen, ha]


set_option maxHeartbeats 1000000 in
theorem read_ok0 {w : World} {g base : Nat} {v0 v1 : Value} {x : DSt} (h : Dsk w g base v0 v1 x) (hn : x.check 0 = 0) :
    Calls Try.prog 16 #[.pointer (some ⟨g, 0, none⟩), .int .i64 0] w fun e w' => (∃ v, e = .returned (.tuple #[v, .int .i64 0]) ∧ (Kd.int .u8).R 5 w' w.heap.size (fun _ => True) v x.f0) ∧ Below w.heap.size w w' := by
  have dg := h.c0
  have HL := Aside0.mk h.len0
  have H := Aside0.mk h
  obtain ⟨A1, c1, hv, hc1, hC1⟩ := h.r0.reads
  rw [hv] at dg
  have HC := Aside0.mk hC1
  have Hc := Aside0.mk hc1
  clear h hv hc1 hC1
  go_enter Try.func16, Try.ntmps16
  go_wp2_with (first | (go_at_call 28; (with_reducible refine (check_calls H.out 0).mono ?_); rintro e w1 ⟨rfl, rfl⟩; rw [hn]) | (go_at_call 31; (with_reducible refine (clone_calls HC.out Hc.out (by have := HL.out; omega)).mono ?_); rintro e w1 ⟨u, rfl, hr, hb⟩; have H1 := Aside0.mk hr; have H2 := Aside0.mk hb; clear hr hb))
  go_ret2
  exact ⟨⟨_, rfl, H1.out⟩, H2.out⟩

set_option maxHeartbeats 1000000 in
theorem spoil_arg0 {w : World} {g base : Nat} {v0 v1 : Value} {x : DSt} (h : Dsk w g base v0 v1 x) (s : Int) (hs : s < 0 ∨ (x.f0.length : Int) < s) (u : Value) :
    Calls Try.prog 17 #[.pointer (some ⟨g, 0, none⟩), .int .i64 0, .int .i64 s, u] w fun e w' => e = .returned (.int .i64 1) ∧ w = w' := by
  have dg := h.c0
  obtain ⟨A1, c1, hv⟩ := h.r0.slice
  rw [hv] at dg
  by_cases h0 : s < 0
  · have b1 : decide (s < 0) = true := decide_eq_true h0
    clear h hs h0 hv
    go_enter Try.func17, Try.ntmps17
    go_wp2
    go_ret
    exact ⟨rfl, rfl⟩
  · have b1 : decide (s < 0) = false := decide_eq_false h0
    have b2 : decide ((x.f0.length : Int) < s) = true := decide_eq_true (by omega)
    clear h hs h0 hv
    go_enter Try.func17, Try.ntmps17
    go_wp2
    go_ret
    exact ⟨rfl, rfl⟩

set_option maxHeartbeats 1000000 in
theorem spoil_full0 {w : World} {g base : Nat} {v0 v1 : Value} {x : DSt} (h : Dsk w g base v0 v1 x) (s : Nat) (hs : s ≤ x.f0.length) (A : Option Addr) (l c : Nat) (hl : 4194304 < s + l) (hl2 : l ≤ 140737488351232) :
    Calls Try.prog 17 #[.pointer (some ⟨g, 0, none⟩), .int .i64 0, .int .i64 (s : Int), .slice A l c] w fun e w' => e = .returned (.int .i64 2) ∧ w = w' := by
  have dg := h.c0
  have hx := h.len0
  obtain ⟨A1, c1, hv⟩ := h.r0.slice
  rw [hv] at dg
  obtain ⟨z, hz⟩ : ∃ z : Int, (s : Int) = z := ⟨_, rfl⟩
  have b1 : decide (z < 0) = false := decide_eq_false (by omega)
  have b2 : decide ((x.f0.length : Int) < z) = false := decide_eq_false (by omega)
  have hw : wrap64 (z + (l : Int)) = z + (l : Int) := by unfold wrap64; omega
  have b3 : decide ((4194304 : Int) < z + (l : Int)) = true := decide_eq_true (by omega)
  rw [hz]
  clear h hs hl hl2 hv hx hz
  go_enter Try.func17, Try.ntmps17
  go_wp2
  go_ret
  exact ⟨rfl, rfl⟩

set_option maxHeartbeats 2000000 in
set_option maxRecDepth 100000 in
theorem spoil_ok0 {w : World} {g base : Nat} {v0 v1 : Value} {x : DSt} (h : Dsk w g base v0 v1 x) (s : Nat) (hs : s ≤ x.f0.length) {A : Option Addr} {c : Nat} {ys : List Int} (hC : (Kd.int .u8).C w A ys.length ys) (hl : s + ys.length ≤ 4194304) :
    Calls Try.prog 17 #[.pointer (some ⟨g, 0, none⟩), .int .i64 0, .int .i64 (s : Int), .slice A ys.length c] w fun e w' => e = .returned (.int .i64 0) ∧ ∃ v0' v1', Dsk w' g base v0' v1' { x with f0 := x.f0.take s ++ ys } ∧ Below base w w' ∧ Only w w' g ∧ KeepBut w w' g v0.ownBlock := by
  have dg := h.c0
  have hx := h.len0
  obtain ⟨A1, c1, hv⟩ := h.r0.slice
  have hr := h.r0
  rw [hv] at dg hr
  have hc1 : x.f0.length ≤ c1 := by obtain ⟨A2, c2, e2, h2, _⟩ := hr.reads; injection e2 with _ _ e2; omega
  have hml : (x.f0.take s).length = s := by simp; omega
  have hr2 : FRow w base (.slice A1 (x.f0.take s).length s) (x.f0.take s) := by rw [hml]; exact hr.take s s hs (Nat.le_refl _) (by omega)
  rw [hml] at hr2
  have hsl := slice_hm A1 x.f0.length c1 s (by omega)
  have b1 : decide ((s : Int) < 0) = false := decide_eq_false (by omega)
  have b2 : decide ((x.f0.length : Int) < (s : Int)) = false := decide_eq_false (by omega)
  have hw : wrap64 ((s : Int) + (ys.length : Int)) = (s : Int) + (ys.length : Int) := by unfold wrap64; omega
  have b3 : decide ((4194304 : Int) < (s : Int) + (ys.length : Int)) = false := decide_eq_false (by omega)
  have b1n : decide (s < 0) = false := decide_eq_false (by omega)
  have b2n : decide (x.f0.length < s) = false := decide_eq_false (by omega)
  have b3n : decide (4194304 < s + ys.length) = false := decide_eq_false (by omega)
  have own : (Value.slice A1 s s).ownBlock = (Value.slice A1 x.f0.length c1).ownBlock := by cases A1 <;> rfl
  have OWN := Aside0.mk own
  have HV := Aside0.mk hv
  have H := Aside0.mk (h.below ((Below.refl _ _).drew : Below w.heap.size w w.drew))
  have HR2 := Aside0.mk (hr2.below ((Below.refl _ _).drew : Below w.heap.size w w.drew))
  have HC2 := Aside0.mk (Kd.C_drew hC)
  have HL := Aside0.mk hl
  have HML := Aside0.mk hml
  have HBe := Aside0.mk ((Below.refl base w).drew : Below base w w.drew)
  have HBe2 := Aside0.mk ((Below.refl w.heap.size w).drew : Below w.heap.size w w.drew)
  have cg : w.drew.cell? ⟨g, 0, none⟩ = some (.slice A1 x.f0.length c1) := dg
  clear h hs hl hv hx hr hr2 hml hC own hc1
  go_enter Try.func17, Try.ntmps17
  go_wp2
  refine start_ (n := 17) (S := fun w' => w'.cell? ⟨g, 0, none⟩ = some (.slice A1 x.f0.length c1)) (ds := [16]) #[false, false, false, false, false, false, false, false, false, false, false, false, false, false, false, false, false] (by kernel_rfl) rfl rfl (cg) (fun hHeld => ?_)
  refine pure_ (i := 0) (N := some 40) (v := ?_) (a' := ?_) #[true, false, false, false, false, false, false, false, false, false, false, false, false, false, false, false, false] rfl rfl (by kernel_rfl) (fun _ _ _ h => h) (Or.inl ⟨by rfl, ?_⟩) ?_ ?_
  rotate_left
  · intro w'
    go_simp
    with_reducible rfl
  rotate_left
  · simp only [Act.put, List.setIfInBounds_toArray, List.set_cons_zero, List.set_cons_succ, i64_w, i32_w]
    rfl
  refine pure_ (i := 1) (N := some 41) (v := ?_) (a' := ?_) #[true, true, false, false, false, false, false, false, false, false, false, false, false, false, false, false, false] rfl rfl (by kernel_rfl) (fun _ _ _ h => h) (Or.inl ⟨by rfl, ?_⟩) ?_ ?_
  rotate_left
  · intro w'
    go_simp
    with_reducible rfl
  rotate_left
  · simp only [Act.put, List.setIfInBounds_toArray, List.set_cons_zero, List.set_cons_succ, i64_w, i32_w]
    rfl
  refine pure_ (i := 2) (N := some 42) (v := ?_) (a' := ?_) #[true, true, true, false, false, false, false, false, false, false, false, false, false, false, false, false, false] rfl rfl (by kernel_rfl) (fun _ _ _ h => h) (Or.inl ⟨by rfl, ?_⟩) ?_ ?_
  rotate_left
  · intro w'
    go_simp
    with_reducible rfl
  rotate_left
  · simp only [Act.put, List.setIfInBounds_toArray, List.set_cons_zero, List.set_cons_succ, i64_w, i32_w]
    rfl
  refine pure_ (i := 3) (N := some 43) (v := ?_) (a' := ?_) #[true, true, true, true, false, false, false, false, false, false, false, false, false, false, false, false, false] rfl rfl (by kernel_rfl) (fun _ _ _ h => h) (Or.inl ⟨by rfl, ?_⟩) ?_ ?_
  rotate_left
  · intro w'
    go_simp
    with_reducible rfl
  rotate_left
  · simp only [Act.put, List.setIfInBounds_toArray, List.set_cons_zero, List.set_cons_succ, i64_w, i32_w]
    rfl
  refine pure_ (i := 4) (N := some 44) (v := ?_) (a' := ?_) #[true, true, true, true, true, false, false, false, false, false, false, false, false, false, false, false, false] rfl rfl (by kernel_rfl) (fun _ _ _ h => h) (Or.inl ⟨by rfl, ?_⟩) ?_ ?_
  rotate_left
  · intro w'
    go_simp
    with_reducible rfl
  rotate_left
  · simp only [Act.put, List.setIfInBounds_toArray, List.set_cons_zero, List.set_cons_succ, i64_w, i32_w]
    rfl
  refine pure_ (i := 5) (N := some 45) (v := ?_) (a' := ?_) #[true, true, true, true, true, true, false, false, false, false, false, false, false, false, false, false, false] rfl rfl (by kernel_rfl) (fun _ _ _ h => h) (Or.inl ⟨by rfl, ?_⟩) ?_ ?_
  rotate_left
  · intro w'
    go_simp
    with_reducible rfl
  rotate_left
  · simp only [Act.put, List.setIfInBounds_toArray, List.set_cons_zero, List.set_cons_succ, i64_w, i32_w]
    rfl
  refine pure_ (i := 6) (N := some 46) (v := ?_) (a' := ?_) #[true, true, true, true, true, true, true, false, false, false, false, false, false, false, false, false, false] rfl rfl (by kernel_rfl) (fun _ _ _ h => h) (Or.inl ⟨by rfl, ?_⟩) ?_ ?_
  rotate_left
  · intro w'
    go_simp
    with_reducible rfl
  rotate_left
  · simp only [Act.put, List.setIfInBounds_toArray, List.set_cons_zero, List.set_cons_succ, i64_w, i32_w]
    rfl
  refine pure_ (i := 8) (N := some 48) (v := ?_) (a' := ?_) #[true, true, true, true, true, true, true, false, true, false, false, false, false, false, false, false, false] rfl rfl (by kernel_rfl) (fun _ _ _ h => h) (Or.inl ⟨by rfl, ?_⟩) ?_ ?_
  rotate_left
  · intro w'
    go_simp
    with_reducible rfl
  rotate_left
  · simp only [Act.put, List.setIfInBounds_toArray, List.set_cons_zero, List.set_cons_succ, i64_w, i32_w]
    rfl
  refine pure_ (i := 9) (N := some 49) (v := ?_) (a' := ?_) #[true, true, true, true, true, true, true, false, true, true, false, false, false, false, false, false, false] rfl rfl (by kernel_rfl) (fun _ _ _ h => h) (Or.inl ⟨by rfl, ?_⟩) ?_ ?_
  rotate_left
  · intro w'
    go_simp
    with_reducible rfl
  rotate_left
  · simp only [Act.put, List.setIfInBounds_toArray, List.set_cons_zero, List.set_cons_succ, i64_w, i32_w]
    rfl
  refine pure_ (i := 11) (N := some 51) (v := ?_) (a' := ?_) #[true, true, true, true, true, true, true, false, true, true, false, true, false, false, false, false, false] rfl rfl (by kernel_rfl) (fun _ _ _ h => h) (Or.inl ⟨by rfl, ?_⟩) ?_ ?_
  rotate_left
  · intro w'
    go_simp
    with_reducible rfl
  rotate_left
  · simp only [Act.put, List.setIfInBounds_toArray, List.set_cons_zero, List.set_cons_succ, i64_w, i32_w]
    rfl
  refine pure_ (i := 13) (N := some 53) (v := ?_) (a' := ?_) #[true, true, true, true, true, true, true, false, true, true, false, true, false, true, false, false, false] rfl rfl (by kernel_rfl) (fun _ _ _ h => h) (Or.inl ⟨by rfl, ?_⟩) ?_ ?_
  rotate_left
  · intro w'
    go_simp
    with_reducible rfl
  rotate_left
  · simp only [Act.put, List.setIfInBounds_toArray, List.set_cons_zero, List.set_cons_succ, i64_w, i32_w]
    rfl
  refine pure_ (i := 14) (N := some 54) (v := ?_) (a' := ?_) #[true, true, true, true, true, true, true, false, true, true, false, true, false, true, true, false, false] rfl rfl (by kernel_rfl) (fun _ _ _ h => h) (Or.inl ⟨by rfl, ?_⟩) ?_ ?_
  rotate_left
  · intro w'
    go_simp
    with_reducible rfl
  rotate_left
  · simp only [Act.put, List.setIfInBounds_toArray, List.set_cons_zero, List.set_cons_succ, i64_w, i32_w]
    rfl
  refine take_ (i := 7) (N := some 47) (v := ?_) (a' := ?_) #[true, true, true, true, true, true, true, true, true, true, false, true, false, true, true, false, false] rfl rfl (by kernel_rfl) (fun _ _ _ h => h) (Or.inl ⟨by rfl, ?_⟩) hHeld ?_ ?_
  rotate_left
  · intro w' s0
    go_simp
    with_reducible rfl
  rotate_left
  · simp only [Act.put, List.setIfInBounds_toArray, List.set_cons_zero, List.set_cons_succ, i64_w, i32_w]
    rfl
  refine pure_ (i := 10) (N := some 50) (v := ?_) (a' := ?_) #[true, true, true, true, true, true, true, true, true, true, true, true, false, true, true, false, false] rfl rfl (by kernel_rfl) (fun _ _ _ h => h) (Or.inl ⟨by rfl, ?_⟩) ?_ ?_
  rotate_left
  · intro w'
    go_simp
    with_reducible rfl
  rotate_left
  · simp only [Act.put, List.setIfInBounds_toArray, List.set_cons_zero, List.set_cons_succ, i64_w, i32_w]
    rfl
  refine one_ (i := 12) (N := some 52) #[true, true, true, true, true, true, true, true, true, true, true, true, true, true, true, false, false] rfl rfl (by kernel_rfl) (by decide) (fun K hK => ?_)
  refine frow_step (v := .slice A1 s s) (base := base) (xs := x.f0.take s) (by rfl) (ys := ys) (.tmp 50) (.tmp 51) rfl rfl rfl rfl HR2.out HC2.out (by have := HL.out; have := HML.out; omega) H.out.size ?_
  intro v2 w2 h1 h2 h3
  obtain ⟨A2, c2, rfl⟩ := h1.slice
  rw [List.length_append, HML.out] at h1 h3 ⊢
  have hb1 := blk_grown H.out.blk h2 (by rw [OWN.out, ← HV.out]; exact H.out.r0.ne H.out.blk (by decide))
  have qg : w2.cell? ⟨g, 0, none⟩ = some (.slice A1 x.f0.length c1) := (blk_cell hb1 0).trans (by rw [HV.out]; rfl)
  have qf : w2.frozen? ⟨g, 0, none⟩ = false := blk_frozen hb1 0
  have K1 := Aside0.mk h1
  have K2 := Aside0.mk h2
  have K3 := Aside0.mk h3
  clear h1 h2 h3 hb1
  refine hK.out _ _ (qg) (fun hHeld => ?_)
  clear hK K
  refine norm_ (a' := ?_) ?_ ?_
  rotate_left
  · show Act.put _ (some 52) _ = _
    simp only [Act.put, List.setIfInBounds_toArray, List.set_cons_zero, List.set_cons_succ, i64_w, i32_w]
    rfl
  refine pure_ (i := 15) (N := some 55) (v := ?_) (a' := ?_) #[true, true, true, true, true, true, true, true, true, true, true, true, true, true, true, true, false] rfl rfl (by kernel_rfl) (fun _ _ _ h => h) (Or.inl ⟨by rfl, ?_⟩) ?_ ?_
  rotate_left
  · intro w'
    go_simp
    with_reducible rfl
  rotate_left
  · simp only [Act.put, List.setIfInBounds_toArray, List.set_cons_zero, List.set_cons_succ, i64_w, i32_w]
    rfl
  refine last_ (i := 16) (N := none) #[true, true, true, true, true, true, true, true, true, true, true, true, true, true, true, true, true] rfl rfl (by kernel_rfl) (by decide) (fun K hK => ?_)
  refine skip_ (w1 := ?_) (by rfl) rfl ?_ ?_
  rotate_left
  · go_simp
    rfl
  refine hK.out _ _ ?_
  clear hK K
  refine done_ (by kernel_rfl) ?_

  go_wp2
  go_ret
  have hlen : (x.f0.take s ++ ys).length ≤ 4194304 := by rw [List.length_append, HML.out]; exact HL.out
  have hg : w.drew.grownBy w2 v0.ownBlock := by rw [HV.out, ← OWN.out]; exact K2.out
  have hat := K3.out
  rw [OWN.out, ← HV.out] at hat
  exact ⟨rfl, _, _, H.out.file0 K1.out hg hat hlen, ((HBe.out.grown hg (by have := HBe.out.size; have := H.out.size; omega) (fun k hk => H.out.r0.low k hk)).setCell H.out.low _), ((Only.of_below HBe2.out g).trans (Only.of_grown hg H.out.r0 g)).set 0 _, (KeepBut.of_grown hg g).set_ 0 _⟩


set_option maxHeartbeats 1000000 in
theorem read_ok1 {w : World} {g base : Nat} {v0 v1 : Value} {x : DSt} (h : Dsk w g base v0 v1 x) (hn : x.check 1 = 0) :
    Calls Try.prog 16 #[.pointer (some ⟨g, 0, none⟩), .int .i64 1] w fun e w' => (∃ v, e = .returned (.tuple #[v, .int .i64 0]) ∧ (Kd.int .u8).R 5 w' w.heap.size (fun _ => True) v x.f1) ∧ Below w.heap.size w w' := by
  have dg := h.c1
  have HL := Aside0.mk h.len1
  have H := Aside0.mk h
  obtain ⟨A1, c1, hv, hc1, hC1⟩ := h.r1.reads
  rw [hv] at dg
  have HC := Aside0.mk hC1
  have Hc := Aside0.mk hc1
  clear h hv hc1 hC1
  go_enter Try.func16, Try.ntmps16
  go_wp2_with (first | (go_at_call 28; (with_reducible refine (check_calls H.out 1).mono ?_); rintro e w1 ⟨rfl, rfl⟩; rw [hn]) | (go_at_call 31; (with_reducible refine (clone_calls HC.out Hc.out (by have := HL.out; omega)).mono ?_); rintro e w1 ⟨u, rfl, hr, hb⟩; have H1 := Aside0.mk hr; have H2 := Aside0.mk hb; clear hr hb))
  go_ret2
  exact ⟨⟨_, rfl, H1.out⟩, H2.out⟩

set_option maxHeartbeats 1000000 in
theorem spoil_arg1 {w : World} {g base : Nat} {v0 v1 : Value} {x : DSt} (h : Dsk w g base v0 v1 x) (s : Int) (hs : s < 0 ∨ (x.f1.length : Int) < s) (u : Value) :
    Calls Try.prog 17 #[.pointer (some ⟨g, 0, none⟩), .int .i64 1, .int .i64 s, u] w fun e w' => e = .returned (.int .i64 1) ∧ w = w' := by
  have dg := h.c1
  obtain ⟨A1, c1, hv⟩ := h.r1.slice
  rw [hv] at dg
  by_cases h0 : s < 0
  · have b1 : decide (s < 0) = true := decide_eq_true h0
    clear h hs h0 hv
    go_enter Try.func17, Try.ntmps17
    go_wp2
    go_ret
    exact ⟨rfl, rfl⟩
  · have b1 : decide (s < 0) = false := decide_eq_false h0
    have b2 : decide ((x.f1.length : Int) < s) = true := decide_eq_true (by omega)
    clear h hs h0 hv
    go_enter Try.func17, Try.ntmps17
    go_wp2
    go_ret
    exact ⟨rfl, rfl⟩

set_option maxHeartbeats 1000000 in
theorem spoil_full1 {w : World} {g base : Nat} {v0 v1 : Value} {x : DSt} (h : Dsk w g base v0 v1 x) (s : Nat) (hs : s ≤ x.f1.length) (A : Option Addr) (l c : Nat) (hl : 4194304 < s + l) (hl2 : l ≤ 140737488351232) :
    Calls Try.prog 17 #[.pointer (some ⟨g, 0, none⟩), .int .i64 1, .int .i64 (s : Int), .slice A l c] w fun e w' => e = .returned (.int .i64 2) ∧ w = w' := by
  have dg := h.c1
  have hx := h.len1
  obtain ⟨A1, c1, hv⟩ := h.r1.slice
  rw [hv] at dg
  obtain ⟨z, hz⟩ : ∃ z : Int, (s : Int) = z := ⟨_, rfl⟩
  have b1 : decide (z < 0) = false := decide_eq_false (by omega)
  have b2 : decide ((x.f1.length : Int) < z) = false := decide_eq_false (by omega)
  have hw : wrap64 (z + (l : Int)) = z + (l : Int) := by unfold wrap64; omega
  have b3 : decide ((4194304 : Int) < z + (l : Int)) = true := decide_eq_true (by omega)
  rw [hz]
  clear h hs hl hl2 hv hx hz
  go_enter Try.func17, Try.ntmps17
  go_wp2
  go_ret
  exact ⟨rfl, rfl⟩

set_option maxHeartbeats 2000000 in
set_option maxRecDepth 100000 in
theorem spoil_ok1 {w : World} {g base : Nat} {v0 v1 : Value} {x : DSt} (h : Dsk w g base v0 v1 x) (s : Nat) (hs : s ≤ x.f1.length) {A : Option Addr} {c : Nat} {ys : List Int} (hC : (Kd.int .u8).C w A ys.length ys) (hl : s + ys.length ≤ 4194304) :
    Calls Try.prog 17 #[.pointer (some ⟨g, 0, none⟩), .int .i64 1, .int .i64 (s : Int), .slice A ys.length c] w fun e w' => e = .returned (.int .i64 0) ∧ ∃ v0' v1', Dsk w' g base v0' v1' { x with f1 := x.f1.take s ++ ys } ∧ Below base w w' ∧ Only w w' g ∧ KeepBut w w' g v1.ownBlock := by
  have dg := h.c1
  have hx := h.len1
  obtain ⟨A1, c1, hv⟩ := h.r1.slice
  have hr := h.r1
  rw [hv] at dg hr
  have hc1 : x.f1.length ≤ c1 := by obtain ⟨A2, c2, e2, h2, _⟩ := hr.reads; injection e2 with _ _ e2; omega
  have hml : (x.f1.take s).length = s := by simp; omega
  have hr2 : FRow w base (.slice A1 (x.f1.take s).length s) (x.f1.take s) := by rw [hml]; exact hr.take s s hs (Nat.le_refl _) (by omega)
  rw [hml] at hr2
  have hsl := slice_hm A1 x.f1.length c1 s (by omega)
  have b1 : decide ((s : Int) < 0) = false := decide_eq_false (by omega)
  have b2 : decide ((x.f1.length : Int) < (s : Int)) = false := decide_eq_false (by omega)
  have hw : wrap64 ((s : Int) + (ys.length : Int)) = (s : Int) + (ys.length : Int) := by unfold wrap64; omega
  have b3 : decide ((4194304 : Int) < (s : Int) + (ys.length : Int)) = false := decide_eq_false (by omega)
  have b1n : decide (s < 0) = false := decide_eq_false (by omega)
  have b2n : decide (x.f1.length < s) = false := decide_eq_false (by omega)
  have b3n : decide (4194304 < s + ys.length) = false := decide_eq_false (by omega)
  have own : (Value.slice A1 s s).ownBlock = (Value.slice A1 x.f1.length c1).ownBlock := by cases A1 <;> rfl
  have OWN := Aside0.mk own
  have HV := Aside0.mk hv
  have H := Aside0.mk (h.below ((Below.refl _ _).drew : Below w.heap.size w w.drew))
  have HR2 := Aside0.mk (hr2.below ((Below.refl _ _).drew : Below w.heap.size w w.drew))
  have HC2 := Aside0.mk (Kd.C_drew hC)
  have HL := Aside0.mk hl
  have HML := Aside0.mk hml
  have HBe := Aside0.mk ((Below.refl base w).drew : Below base w w.drew)
  have HBe2 := Aside0.mk ((Below.refl w.heap.size w).drew : Below w.heap.size w w.drew)
  have cg : w.drew.cell? ⟨g, 1, none⟩ = some (.slice A1 x.f1.length c1) := dg
  clear h hs hl hv hx hr hr2 hml hC own hc1
  go_enter Try.func17, Try.ntmps17
  go_wp2
  refine start_ (n := 17) (S := fun w' => w'.cell? ⟨g, 1, none⟩ = some (.slice A1 x.f1.length c1)) (ds := [16]) #[false, false, false, false, false, false, false, false, false, false, false, false, false, false, false, false, false] (by kernel_rfl) rfl rfl (cg) (fun hHeld => ?_)
  refine pure_ (i := 0) (N := some 40) (v := ?_) (a' := ?_) #[true, false, false, false, false, false, false, false, false, false, false, false, false, false, false, false, false] rfl rfl (by kernel_rfl) (fun _ _ _ h => h) (Or.inl ⟨by rfl, ?_⟩) ?_ ?_
  rotate_left
  · intro w'
    go_simp
    with_reducible rfl
  rotate_left
  · simp only [Act.put, List.setIfInBounds_toArray, List.set_cons_zero, List.set_cons_succ, i64_w, i32_w]
    rfl
  refine pure_ (i := 1) (N := some 41) (v := ?_) (a' := ?_) #[true, true, false, false, false, false, false, false, false, false, false, false, false, false, false, false, false] rfl rfl (by kernel_rfl) (fun _ _ _ h => h) (Or.inl ⟨by rfl, ?_⟩) ?_ ?_
  rotate_left
  · intro w'
    go_simp
    with_reducible rfl
  rotate_left
  · simp only [Act.put, List.setIfInBounds_toArray, List.set_cons_zero, List.set_cons_succ, i64_w, i32_w]
    rfl
  refine pure_ (i := 2) (N := some 42) (v := ?_) (a' := ?_) #[true, true, true, false, false, false, false, false, false, false, false, false, false, false, false, false, false] rfl rfl (by kernel_rfl) (fun _ _ _ h => h) (Or.inl ⟨by rfl, ?_⟩) ?_ ?_
  rotate_left
  · intro w'
    go_simp
    with_reducible rfl
  rotate_left
  · simp only [Act.put, List.setIfInBounds_toArray, List.set_cons_zero, List.set_cons_succ, i64_w, i32_w]
    rfl
  refine pure_ (i := 3) (N := some 43) (v := ?_) (a' := ?_) #[true, true, true, true, false, false, false, false, false, false, false, false, false, false, false, false, false] rfl rfl (by kernel_rfl) (fun _ _ _ h => h) (Or.inl ⟨by rfl, ?_⟩) ?_ ?_
  rotate_left
  · intro w'
    go_simp
    with_reducible rfl
  rotate_left
  · simp only [Act.put, List.setIfInBounds_toArray, List.set_cons_zero, List.set_cons_succ, i64_w, i32_w]
    rfl
  refine pure_ (i := 4) (N := some 44) (v := ?_) (a' := ?_) #[true, true, true, true, true, false, false, false, false, false, false, false, false, false, false, false, false] rfl rfl (by kernel_rfl) (fun _ _ _ h => h) (Or.inl ⟨by rfl, ?_⟩) ?_ ?_
  rotate_left
  · intro w'
    go_simp
    with_reducible rfl
  rotate_left
  · simp only [Act.put, List.setIfInBounds_toArray, List.set_cons_zero, List.set_cons_succ, i64_w, i32_w]
    rfl
  refine pure_ (i := 5) (N := some 45) (v := ?_) (a' := ?_) #[true, true, true, true, true, true, false, false, false, false, false, false, false, false, false, false, false] rfl rfl (by kernel_rfl) (fun _ _ _ h => h) (Or.inl ⟨by rfl, ?_⟩) ?_ ?_
  rotate_left
  · intro w'
    go_simp
    with_reducible rfl
  rotate_left
  · simp only [Act.put, List.setIfInBounds_toArray, List.set_cons_zero, List.set_cons_succ, i64_w, i32_w]
    rfl
  refine pure_ (i := 6) (N := some 46) (v := ?_) (a' := ?_) #[true, true, true, true, true, true, true, false, false, false, false, false, false, false, false, false, false] rfl rfl (by kernel_rfl) (fun _ _ _ h => h) (Or.inl ⟨by rfl, ?_⟩) ?_ ?_
  rotate_left
  · intro w'
    go_simp
    with_reducible rfl
  rotate_left
  · simp only [Act.put, List.setIfInBounds_toArray, List.set_cons_zero, List.set_cons_succ, i64_w, i32_w]
    rfl
  refine pure_ (i := 8) (N := some 48) (v := ?_) (a' := ?_) #[true, true, true, true, true, true, true, false, true, false, false, false, false, false, false, false, false] rfl rfl (by kernel_rfl) (fun _ _ _ h => h) (Or.inl ⟨by rfl, ?_⟩) ?_ ?_
  rotate_left
  · intro w'
    go_simp
    with_reducible rfl
  rotate_left
  · simp only [Act.put, List.setIfInBounds_toArray, List.set_cons_zero, List.set_cons_succ, i64_w, i32_w]
    rfl
  refine pure_ (i := 9) (N := some 49) (v := ?_) (a' := ?_) #[true, true, true, true, true, true, true, false, true, true, false, false, false, false, false, false, false] rfl rfl (by kernel_rfl) (fun _ _ _ h => h) (Or.inl ⟨by rfl, ?_⟩) ?_ ?_
  rotate_left
  · intro w'
    go_simp
    with_reducible rfl
  rotate_left
  · simp only [Act.put, List.setIfInBounds_toArray, List.set_cons_zero, List.set_cons_succ, i64_w, i32_w]
    rfl
  refine pure_ (i := 11) (N := some 51) (v := ?_) (a' := ?_) #[true, true, true, true, true, true, true, false, true, true, false, true, false, false, false, false, false] rfl rfl (by kernel_rfl) (fun _ _ _ h => h) (Or.inl ⟨by rfl, ?_⟩) ?_ ?_
  rotate_left
  · intro w'
    go_simp
    with_reducible rfl
  rotate_left
  · simp only [Act.put, List.setIfInBounds_toArray, List.set_cons_zero, List.set_cons_succ, i64_w, i32_w]
    rfl
  refine pure_ (i := 13) (N := some 53) (v := ?_) (a' := ?_) #[true, true, true, true, true, true, true, false, true, true, false, true, false, true, false, false, false] rfl rfl (by kernel_rfl) (fun _ _ _ h => h) (Or.inl ⟨by rfl, ?_⟩) ?_ ?_
  rotate_left
  · intro w'
    go_simp
    with_reducible rfl
  rotate_left
  · simp only [Act.put, List.setIfInBounds_toArray, List.set_cons_zero, List.set_cons_succ, i64_w, i32_w]
    rfl
  refine pure_ (i := 14) (N := some 54) (v := ?_) (a' := ?_) #[true, true, true, true, true, true, true, false, true, true, false, true, false, true, true, false, false] rfl rfl (by kernel_rfl) (fun _ _ _ h => h) (Or.inl ⟨by rfl, ?_⟩) ?_ ?_
  rotate_left
  · intro w'
    go_simp
    with_reducible rfl
  rotate_left
  · simp only [Act.put, List.setIfInBounds_toArray, List.set_cons_zero, List.set_cons_succ, i64_w, i32_w]
    rfl
  refine take_ (i := 7) (N := some 47) (v := ?_) (a' := ?_) #[true, true, true, true, true, true, true, true, true, true, false, true, false, true, true, false, false] rfl rfl (by kernel_rfl) (fun _ _ _ h => h) (Or.inl ⟨by rfl, ?_⟩) hHeld ?_ ?_
  rotate_left
  · intro w' s0
    go_simp
    with_reducible rfl
  rotate_left
  · simp only [Act.put, List.setIfInBounds_toArray, List.set_cons_zero, List.set_cons_succ, i64_w, i32_w]
    rfl
  refine pure_ (i := 10) (N := some 50) (v := ?_) (a' := ?_) #[true, true, true, true, true, true, true, true, true, true, true, true, false, true, true, false, false] rfl rfl (by kernel_rfl) (fun _ _ _ h => h) (Or.inl ⟨by rfl, ?_⟩) ?_ ?_
  rotate_left
  · intro w'
    go_simp
    with_reducible rfl
  rotate_left
  · simp only [Act.put, List.setIfInBounds_toArray, List.set_cons_zero, List.set_cons_succ, i64_w, i32_w]
    rfl
  refine one_ (i := 12) (N := some 52) #[true, true, true, true, true, true, true, true, true, true, true, true, true, true, true, false, false] rfl rfl (by kernel_rfl) (by decide) (fun K hK => ?_)
  refine frow_step (v := .slice A1 s s) (base := base) (xs := x.f1.take s) (by rfl) (ys := ys) (.tmp 50) (.tmp 51) rfl rfl rfl rfl HR2.out HC2.out (by have := HL.out; have := HML.out; omega) H.out.size ?_
  intro v2 w2 h1 h2 h3
  obtain ⟨A2, c2, rfl⟩ := h1.slice
  rw [List.length_append, HML.out] at h1 h3 ⊢
  have hb1 := blk_grown H.out.blk h2 (by rw [OWN.out, ← HV.out]; exact H.out.r1.ne H.out.blk (by decide))
  have qg : w2.cell? ⟨g, 1, none⟩ = some (.slice A1 x.f1.length c1) := (blk_cell hb1 1).trans (by rw [HV.out]; rfl)
  have qf : w2.frozen? ⟨g, 1, none⟩ = false := blk_frozen hb1 1
  have K1 := Aside0.mk h1
  have K2 := Aside0.mk h2
  have K3 := Aside0.mk h3
  clear h1 h2 h3 hb1
  refine hK.out _ _ (qg) (fun hHeld => ?_)
  clear hK K
  refine norm_ (a' := ?_) ?_ ?_
  rotate_left
  · show Act.put _ (some 52) _ = _
    simp only [Act.put, List.setIfInBounds_toArray, List.set_cons_zero, List.set_cons_succ, i64_w, i32_w]
    rfl
  refine pure_ (i := 15) (N := some 55) (v := ?_) (a' := ?_) #[true, true, true, true, true, true, true, true, true, true, true, true, true, true, true, true, false] rfl rfl (by kernel_rfl) (fun _ _ _ h => h) (Or.inl ⟨by rfl, ?_⟩) ?_ ?_
  rotate_left
  · intro w'
    go_simp
    with_reducible rfl
  rotate_left
  · simp only [Act.put, List.setIfInBounds_toArray, List.set_cons_zero, List.set_cons_succ, i64_w, i32_w]
    rfl
  refine last_ (i := 16) (N := none) #[true, true, true, true, true, true, true, true, true, true, true, true, true, true, true, true, true] rfl rfl (by kernel_rfl) (by decide) (fun K hK => ?_)
  refine skip_ (w1 := ?_) (by rfl) rfl ?_ ?_
  rotate_left
  · go_simp
    rfl
  refine hK.out _ _ ?_
  clear hK K
  refine done_ (by kernel_rfl) ?_

  go_wp2
  go_ret
  have hlen : (x.f1.take s ++ ys).length ≤ 4194304 := by rw [List.length_append, HML.out]; exact HL.out
  have hg : w.drew.grownBy w2 v1.ownBlock := by rw [HV.out, ← OWN.out]; exact K2.out
  have hat := K3.out
  rw [OWN.out, ← HV.out] at hat
  exact ⟨rfl, _, _, H.out.file1 K1.out hg hat hlen, ((HBe.out.grown hg (by have := HBe.out.size; have := H.out.size; omega) (fun k hk => H.out.r1.low k hk)).setCell H.out.low _), ((Only.of_below HBe2.out g).trans (Only.of_grown hg H.out.r1 g)).set 1 _, (KeepBut.of_grown hg g).set_ 1 _⟩


set_option maxHeartbeats 1000000 in
theorem spoil_num {w : World} {g base : Nat} {v0 v1 : Value} {x : DSt} (h : Dsk w g base v0 v1 x) (n : Int) (hn : n < 0 ∨ 2 ≤ n) (s : Int) (u : Value) :
    Calls Try.prog 17 #[.pointer (some ⟨g, 0, none⟩), .int .i64 n, .int .i64 s, u] w fun e w' => e = .returned (.int .i64 1) ∧ w = w' := by
  clear h
  by_cases h1 : n < 0
  · have b1 : decide (n < 0) = true := decide_eq_true h1
    clear h1 hn
    go_enter Try.func17, Try.ntmps17
    go_wp2
    go_ret
    exact ⟨rfl, rfl⟩
  · have b1 : decide (n < 0) = false := decide_eq_false h1
    have b2 : decide (2 ≤ n) = true := decide_eq_true (by omega)
    clear h1 hn
    go_enter Try.func17, Try.ntmps17
    go_wp2
    go_ret
    exact ⟨rfl, rfl⟩
set_option maxHeartbeats 1000000 in
theorem spoil_nil (n s : Int) (u : Value) (w : World) :
    Calls Try.prog 17 #[.pointer none, .int .i64 n, .int .i64 s, u] w fun e w' => e = .returned (.int .i64 6) ∧ w = w' := by
  go_enter Try.func17, Try.ntmps17
  go_wp2
  go_ret
  exact ⟨rfl, rfl⟩
set_option maxHeartbeats 1000000 in
theorem read_nil (n : Int) (w : World) :
    Calls Try.prog 16 #[.pointer none, .int .i64 n] w fun e w' => e = .returned (.tuple #[.slice none 0 0, .int .i64 6]) ∧ w = w' := by
  go_enter Try.func16, Try.ntmps16
  go_wp2_with (go_at_call 28; (with_reducible refine (check_nil n _).mono ?_); rintro e w1 ⟨rfl, rfl⟩)
  go_ret2
  exact ⟨rfl, rfl⟩
set_option maxHeartbeats 1000000 in
theorem write_nil (n : Int) (A : Option Addr) (l c : Nat) (w : World) :
    Calls Try.prog 14 #[.pointer none, .int .i64 n, .slice A l c] w fun e w' => e = .returned (.int .i64 6) ∧ Below w.heap.size w w' := by
  have BB := Aside0.mk (boxes_below w (.cells #[.pointer none] 25) (.cells #[.int .i64 n] 3) (.cells #[.slice A l c] 30))
  go_enter Try.func14, Try.ntmps14
  go_wp2_with (go_at_call 28; (with_reducible refine (check_nil n _).mono ?_); rintro e w1 ⟨rfl, rfl⟩)
  go_ret
  exact ⟨rfl, BB.out⟩
set_option maxHeartbeats 1000000 in
theorem cut_nil (n s : Int) (w : World) :
    Calls Try.prog 19 #[.pointer none, .int .i64 n, .int .i64 s] w fun e w' => e = .returned (.int .i64 6) ∧ Below w.heap.size w w' := by
  have BB := Aside0.mk (boxes_below w (.cells #[.pointer none] 25) (.cells #[.int .i64 n] 3) (.cells #[.int .i64 s] 3))
  go_enter Try.func19, Try.ntmps19
  go_wp2_with (go_at_call 28; (with_reducible refine (check_nil n _).mono ?_); rintro e w1 ⟨rfl, rfl⟩)
  go_ret
  exact ⟨rfl, BB.out⟩
end Go.Proofs.Ytijbcfnkeahdoaa.Disk
