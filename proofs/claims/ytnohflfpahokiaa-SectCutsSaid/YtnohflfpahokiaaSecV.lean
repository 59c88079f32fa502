/- Sections: the law's lives. -/
import Derived.Test.YtnohflfpahokiaaSecT
set_option linter.unusedVariables false
set_option linter.unusedSimpArgs false
set_option maxRecDepth 20000
namespace Go.Proofs.Ytnohflfpahokiaa.Sec
open Go Go.RowKit Go.Proofs.YtnohflfpahokiaaW.PrintWords Go.Proofs.YtnohflfpahokiaaW.PrintLast Go.Proofs.Ytnohflfpahokiaa.LebM Go.Proofs.Ytnohflfpahokiaa.Leb
open Go.Proofs.Ytnohflfpahokiaa.PAll (S39 k39 z39 rd_T39 at_T39)
open Go.Proofs.Ytnohflfpahokiaa.Rd (info5)
open Go.Proofs.Ytnohflfpahokiaa.Crc (sumI sumI_range)
open Go.Proofs.Ytnohflfpahokiaa.Head (head5 lit_cells)

/-- a row that has been laid, whatever its mark, reads as its numbers -/
theorem C_lit (W : World) (xs : List Int) (e : TypeId) (m : Nat × Nat) (hl : xs.length ≤ 9223372036854775807) : (Kd.int .u8).C (W.alloc (.cells (nums .u8 xs).toArray e m)) (some ⟨W.heap.size, 0, none⟩) xs.length xs := by
  refine ⟨rfl, hl, fun _ => ⟨_, rfl, fun j p hj => ⟨[Value.int .u8 p], rfl, rfl, fun i u hu => ?_⟩⟩⟩
  obtain ⟨hi, hu⟩ := List.getElem?_eq_some_iff.1 hu
  have hi0 : i = 0 := by simpa using hi
  subst hi0
  have hu' : Value.int .u8 p = u := by simpa using hu
  subst hu'
  have hs : (Kd.int .u8).sz = 1 := rfl
  rw [hs, Nat.mul_one, Nat.add_zero]
  refine (cell_of_row (W.alloc (.cells (nums .u8 xs).toArray e m)) W.heap.size j _ e m (heap_alloc_new W _) |> fun h => ?_)
  have ha : (⟨W.heap.size, 0, none⟩ : Addr).add j = ⟨W.heap.size, j, none⟩ := by
    unfold Addr.add
    split
    · rename_i h0; rw [h0]
    · simp
  rw [ha, h]
  simp [nums, hj]
/-- two sections in one block -/
theorem C39_two {V : World} {b : Nat} {t u : Int} {A1 A2 : Option Addr} {c1 c2 : Nat} {ys zs : List Int} {m : Nat × Nat} (hb : V.heap[b]? = some (.cells #[.int .i64 t, .slice A1 ys.length c1, .int .i64 u, .slice A2 zs.length c2] 39 m)) (h1 : ys.length ≤ c1) (g1 : (Kd.int .u8).C V A1 ys.length ys) (h2 : zs.length ≤ c2) (g2 : (Kd.int .u8).C V A2 zs.length zs) :
    Kd.C k39 V (some ⟨b, 0, none⟩) 2 [⟨t, ys⟩, ⟨u, zs⟩] := by
  have ha : ∀ j, (⟨b, 0, none⟩ : Addr).add j = ⟨b, j, none⟩ := fun j => by
    unfold Addr.add
    split
    · rename_i h0; rw [h0]
    · simp
  refine ⟨rfl, by decide, fun _ => ⟨_, rfl, fun j p hj => ?_⟩⟩
  match j with
  | 0 =>
    injection hj with hj
    subst hj
    refine ⟨_, rfl, PAll.k39_mk V ⟨t, ys⟩ h1 g1, fun i w hw => ?_⟩
    rw [ha]
    match i with
    | 0 => simpa [World.cell?, hb] using hw
    | 1 => simpa [World.cell?, hb, show k39.sz = 2 from rfl] using hw
    | i + 2 => simp at hw
  | 1 =>
    injection hj with hj
    subst hj
    refine ⟨_, rfl, PAll.k39_mk V ⟨u, zs⟩ h2 g2, fun i w hw => ?_⟩
    rw [ha]
    match i with
    | 0 => simpa [World.cell?, hb, show k39.sz = 2 from rfl] using hw
    | 1 => simpa [World.cell?, hb, show k39.sz = 2 from rfl] using hw
    | i + 2 => simp at hw
  | j + 2 => simp at hj
/-- an append to a full row that is only read -/
theorem append_full {ops : Array Oper} {Q : Exit → Act → World → Prop} {o : Oper} {rest : List Oper} {a : Act} (W : World) (base : Nat) (s x : Operand) (xs ys : List Int) (ad : Addr) (B : Option Addr) (n q c : Nat) (hgd : o.guard = none)
    (ho : o.op = .call { callee := .builtin .append, args := #[s, x], argTypes := #[25, 25] }) (hs : a.eval s = .slice (some ad) n n) (hn : xs.length = n) (hx : a.eval x = .slice B q c) (hq : ys.length = q)
    (hA : (Kd.int .u8).C W (some ad) xs.length xs) (hB : (Kd.int .u8).C W B ys.length ys) (h0 : 0 < ys.length) (hl : xs.length + ys.length ≤ 140737488355328) (hbase : base ≤ W.heap.size)
    (h : ∀ v1 w1, (Kd.int .u8).R 5 w1 base (fun _ => True) v1 (xs ++ ys) → Below W.heap.size W w1 → wpList Try.prog ops Q rest (a.put o.dst v1) w1) :
    wpList Try.prog ops Q (o :: rest) a W := by
  subst hn
  subst hq
  obtain ⟨i0, hi, hzz⟩ := Option.map_eq_some_iff.1 info5
  simp only [Prod.mk.injEq] at hzz
  obtain ⟨hz0, hz1, hz2⟩ := hzz
  obtain ⟨bd, hBd, _⟩ := Rd.C_at hB 0 h0
  subst hBd
  have hnl : ∀ l : List Int, (nums .u8 l).length = l.length := fun l => by simp [nums]
  have hr := run_append_grow (P := Try.prog) (w := W) 25 o.type 5 i0 (.int .u8 0) Try.underlying25 hi hz0 ad xs.length xs.length (nums .u8 xs) (by rw [hnl, hz1]; omega) (Rd.C_cells hA ad rfl) bd ys.length c (nums .u8 ys) (by rw [hnl, hz1]; omega) (Rd.C_cells hB bd rfl) (by omega) (by omega) (by
    rw [hz2, Nat.mul_one]
    have := nextslicecap_le (show xs.length < xs.length + ys.length by omega)
    omega)
  have hge := grownCap_ge W (xs.length + ys.length) xs.length 5
  have hcm : grownCap W (xs.length + ys.length) xs.length 5 ≤ maxLen := grownCap_le_maxLen W (xs.length + ys.length) xs.length 5 (by simp only [maxLen]; omega)
  refine wpList_plain hgd fun K hK => ?_
  unfold Oper.wp execOp
  simp only [ho, resolve, invoke, builtin, Sem.run_bind, Sem.run_pure, Result.andThen_ok, List.map_toArray, List.map_cons, List.map_nil, hs, hx, hr]
  refine hK _ _ (h _ _ ?_ ?_)
  · refine Kd.R_of_own (enc := Value.int .u8) ?_ (fun _ _ => trivial)
    have e : encs (Value.int .u8) (xs ++ ys) = nums .u8 (xs ++ ys) := rfl
    rw [e, List.length_append]
    refine ⟨by rw [hnl, List.length_append, Nat.mul_one], .inr ⟨W.heap.size, _, _, rfl, hbase, heap_alloc_new W.drew _, hge, hcm, ?_, ?_⟩⟩
    · have hz : (Value.int IntKind.u8 0).cells.size = 1 := rfl
      simp only [Array.size_append, List.size_toArray, size_zeroCells, hz, hnl]
      omega
    · simp only [Array.toList_append, List.append_assoc]
      rw [← List.append_assoc, ← Head.nums_append, Nat.mul_one]
      have : xs.length + ys.length = (nums .u8 (xs ++ ys)).length := by rw [hnl, List.length_append]
      rw [this]
      exact List.take_left
  · exact below_alloc (Below.refl _ _).drew _
def l2 : List S39 := [⟨5, [97]⟩, ⟨6, []⟩]
def l6 : List S39 := [⟨6, []⟩, ⟨6, []⟩]
def b18 : List Int := [65, 73, 82, 88, 1, 5, 1, 97, 8, 29, 244, 219, 6, 0, 224, 38, 174, 152]
theorem put_l2 : putM l2 = b18 := by decide +kernel
theorem bytes_l2 : ∀ s ∈ l2, (∀ x ∈ s.f1, 0 ≤ x ∧ x < 256) ∧ s.f1.length ≤ 1048576 := by
  intro s hs
  simp only [l2, List.mem_cons, List.not_mem_nil, or_false] at hs
  rcases hs with rfl | rfl
  · exact ⟨by decide, by decide⟩
  · exact ⟨by decide, by decide⟩
theorem fine_l2 : Fine 0 l2 := ⟨rfl, bytes_l2⟩
theorem good_of {last : Int} {l : List S39} (h : Fine last l) : Good l := fun s hs => ⟨(h.2 s hs).1, by have := (h.2 s hs).2; omega⟩
theorem get_b18 : getMM b18 = (l2, 18, 0) := by
  have h := get_put_sec fine_l2 (by decide)
  rw [put_l2] at h
  exact h
theorem get_airy : getMM [65, 73, 82, 89] = ([], 3, 40) := rfl
theorem b18_bytes : ∀ x ∈ b18, 0 ≤ x ∧ x < 256 := by decide
theorem LPost.reads {base : Nat} {x : List S39 × Int × Int} {e : Ending} {w' : World} (h : LPost base x e w') : ∃ A c, e = .returned (.tuple #[.slice A x.1.length c, .int .i64 x.2.1, .int .i64 x.2.2]) ∧ x.1.length ≤ c ∧ Kd.C k39 w' A x.1.length x.1 := by
  obtain ⟨v, rfl, h⟩ := h
  obtain ⟨A, c, rfl, h1, h2⟩ := Kd.N_reads h
  exact ⟨A, c, rfl, h1, h2⟩
theorem lv_put {w : World} {A : Option Addr} (hC : Kd.C k39 w A 2 l2) : Calls Try.prog 10 #[.slice A 2 2] w fun e w' => (∃ A c, e = .returned (.tuple #[.slice A 18 c, .int .i64 0]) ∧ (Kd.int .u8).C w' A 18 b18 ∧ 18 ≤ c) ∧ Below w.heap.size w w' := by
  refine (putok_calls (l := l2) (k := 2) hC (by decide) (by decide) (by decide) (good_of fine_l2) rfl rfl).mono ?_
  rintro e w' ⟨⟨v, rfl, h1⟩, h2⟩
  rw [put_l2] at h1
  obtain ⟨A, c, rfl, h3, h4⟩ := Kd.R_reads h1
  exact ⟨⟨A, c, rfl, h4, h3⟩, h2⟩
theorem lv_put6 {w : World} {A : Option Addr} (hC : Kd.C k39 w A 2 l6) : Calls Try.prog 10 #[.slice A 2 2] w fun e w' => e = .returned (.tuple #[.slice none 0 0, .int .i64 41]) ∧ Below w.heap.size w w' :=
  putodd_calls (l := l6) (k := 2) hC (by decide) (by decide) rfl rfl
theorem lv_get {w : World} {A : Option Addr} {c : Nat} (hC : (Kd.int .u8).C w A 18 b18) (hc : 18 ≤ c) : Calls Try.prog 12 #[.slice A 18 c] w fun e w' => (∃ A c, e = .returned (.tuple #[.slice A 2 c, .int .i64 18, .int .i64 0]) ∧ 2 ≤ c ∧ Kd.C k39 w' A 2 l2) ∧ Below w.heap.size w w' := by
  refine (Get_calls (b := b18) hC hc b18_bytes (by decide)).mono ?_
  rintro e w' ⟨h1, h2⟩
  rw [get_b18] at h1
  exact ⟨h1.reads, h2⟩
theorem lv_airy {W : World} {m : Nat × Nat} {b : Nat} (hb : W.heap.size = b) : Calls Try.prog 12 #[.slice (some ⟨b, 0, none⟩) 4 4] (W.alloc (.cells #[.int .u8 65, .int .u8 73, .int .u8 82, .int .u8 89] 5 m)) fun e w' => (∃ A c, e = .returned (.tuple #[.slice A 0 c, .int .i64 3, .int .i64 40])) ∧ Below W.heap.size W w' := by
  subst hb
  refine (Get_calls (b := [65, 73, 82, 89]) (c := 4) (C_lit W [65, 73, 82, 89] 5 m (by decide)) (by decide) (by decide) (by decide)).mono ?_
  rintro e w' ⟨h1, h2⟩
  rw [get_airy] at h1
  obtain ⟨A, c, h3, _⟩ := h1.reads
  exact ⟨⟨A, c, h3⟩, below_then (below_alloc (Below.refl _ _) _) (below_alloc (Below.refl _ _) _).size h2⟩
theorem lv_find {w : World} {A : Option Addr} (hC : Kd.C k39 w A 2 l2) : Calls Try.prog 16 #[.slice A 2 2, .int .i64 5] w fun e w' => (∃ A c, e = .returned (.tuple #[.slice A 1 c, .bool true]) ∧ (Kd.int .u8).C w' A 1 [97]) ∧ Below w.heap.size w w' := by
  refine (find_yes (l := l2) (k := 2) hC (by decide) (by decide) 5 (ys := [97]) rfl (by decide)).mono ?_
  rintro e w' ⟨⟨v, rfl, h1⟩, h2⟩
  obtain ⟨A, c, rfl, h3, h4⟩ := Kd.R_reads h1
  exact ⟨⟨A, c, rfl, h4⟩, h2⟩
theorem lv_find7 {w : World} {A : Option Addr} (hC : Kd.C k39 w A 2 l2) : Calls Try.prog 16 #[.slice A 2 2, .int .i64 7] w fun e w' => e = .returned (.tuple #[.slice none 0 0, .bool false]) ∧ Below w.heap.size w w' :=
  find_no (l := l2) (k := 2) hC (by decide) (by decide) 7 rfl
theorem sum3 : sumI [5, 1, 97] = 3690208520 := by decide +kernel
theorem lv_sum {W : World} {m : Nat × Nat} {b : Nat} (hb : W.heap.size = b) : Calls Try.prog 20 #[.slice (some ⟨b, 0, none⟩) 3 3] (W.alloc (.cells #[.int .u8 5, .int .u8 1, .int .u8 97] 5 m)) fun e w' => e = .returned (.int .u32 3690208520) ∧ Below W.heap.size W w' := by
  subst hb
  refine (Crc.rsum_calls (l := [5, 1, 97]) (c := 3) (C_lit W [5, 1, 97] 5 m (by decide)) (by decide) (by decide) (by decide)).mono ?_
  rintro e w' ⟨h1, h2⟩
  rw [sum3] at h1
  exact ⟨h1, below_then (below_alloc (Below.refl _ _) _) (below_alloc (Below.refl _ _) _).size h2.below⟩
theorem lv_word (w : World) : Calls Try.prog 19 #[.int .u32 3690208520] w fun e w' => (∃ A c, e = .returned (.slice A 4 c) ∧ (Kd.int .u8).C w' A 4 [8, 29, 244, 219]) ∧ Below w.heap.size w w' := by
  refine (Leb.rword_calls 3690208520 w (by decide)).mono ?_
  rintro e w' ⟨v, rfl, h1, h2⟩
  obtain ⟨A, c, rfl, h3, h4⟩ := Kd.R_reads h1
  exact ⟨⟨A, c, rfl, h4⟩, h2⟩
theorem lv_same {w : World} {A B : Option Addr} {c d : Nat} (hA : Kd.C k39 w A 2 l2) (hc : 2 ≤ c) (hB : Kd.C k39 w B 2 l2) (hd : 2 ≤ d) : Calls Try.prog 14 #[.slice A 2 c, .slice B 2 d] w fun e w' => e = .returned (.bool true) ∧ Below w.heap.size w w' := by
  refine (rsame_calls (l := l2) (m := l2) hA hc hB hd (by decide) (fun s hs => (bytes_l2 s hs).1) (fun s hs => (bytes_l2 s hs).1)).mono ?_
  rintro e w' ⟨h1, h2⟩
  rw [sameB_iff.2 rfl] at h1
  exact ⟨h1, h2.below⟩
theorem lv_psame {w : World} {A B : Option Addr} {c d : Nat} (hA : Kd.C k39 w A 2 l2) (hB : Kd.C k39 w B 2 l2) : Calls Try.prog 17 #[.slice A 2 c, .slice B 2 d] w fun e w' => e = .returned (.bool true) ∧ Below w.heap.size w w' := by
  refine (same_calls (l := l2) (m := l2) (c := c) (d := d) hA hB (by decide) (fun s hs => by have := (bytes_l2 s hs).2; omega)).mono ?_
  rintro e w' ⟨h1, h2⟩
  rw [sameB_iff.2 rfl] at h1
  exact ⟨h1, h2⟩
end Go.Proofs.Ytnohflfpahokiaa.Sec
set_option linter.unusedVariables false
set_option linter.unusedSimpArgs false
set_option maxRecDepth 20000
namespace Go.Proofs.Ytnohflfpahokiaa.Sec
open Go Go.RowKit Go.Proofs.YtnohflfpahokiaaW.PrintWords Go.Proofs.YtnohflfpahokiaaW.PrintLast Go.Proofs.Ytnohflfpahokiaa.LebM Go.Proofs.Ytnohflfpahokiaa.Leb
open Go.Proofs.Ytnohflfpahokiaa.PAll (S39 k39 z39 rd_T39 at_T39)
open Go.Proofs.Ytnohflfpahokiaa.Rd (info5)
open Go.Proofs.Ytnohflfpahokiaa.Crc (sumI sumI_range)
open Go.Proofs.Ytnohflfpahokiaa.Head (head5 lit_cells)

set_option maxHeartbeats 8000000 in
theorem lives_calls (w : World) : Calls Try.prog 9 #[] w fun e w' => e = .returned (.bool true) ∧ Below w.heap.size w w' := by
  have kc := fun (w : World) (C : Array Value) (n c : Nat) => Lib.run_convert_bytes_const (P := Try.prog) w 25 5 C n c Try.underlying25 Try.underlying5
  have kc2 := fun (w : World) (o : Obj) (C : Array Value) (n c : Nat) => show Sem.run Try.prog (convert 25 25 (.slice (some ⟨w.heap.size + 1, 0, none⟩) n c)) ((w.alloc o).alloc (.cells C 5)) = .ok (.slice (some ⟨w.heap.size + 1, 0, none⟩) n c) ((w.alloc o).alloc (.cells C 5 (C.size, C.size + 1))) from by
    have h := kc (w.alloc o) C n c
    rw [show (w.alloc o).heap.size = w.heap.size + 1 by simp] at h
    exact h
  obtain ⟨i0, hi, hzz⟩ := Option.map_eq_some_iff.1 info5
  simp only [Prod.mk.injEq] at hzz
  have hsl0 := fun (A : Option Addr) (c : Nat) (hc : 18 ≤ c) (W : World) => (print_take_int (P := Try.prog) (k := .u8) 25 5 Try.underlying25 hi hzz.2.1 A c b18 12 (by decide) (by decide) hc).1 W
  have HSL := Aside0.mk hsl0
  have HRD := Aside0.mk (fun (A : Option Addr) (c : Nat) (hc : 18 ≤ c) (W : World) (hC : (Kd.int .u8).C W A 18 b18) => show (Kd.int .u8).C W A 12 [65, 73, 82, 88, 1, 5, 1, 97, 8, 29, 244, 219] from Kd.C_of_reads (enc := Value.int .u8) (d := (0 : Int)) (h1 := fun _ => rfl) ((print_take_int (P := Try.prog) (k := .u8) 25 5 Try.underlying25 hi hzz.2.1 A c b18 12 (by decide) (by decide) hc).2.1 W (Kd.reads_of_C (enc := Value.int .u8) (d := (0 : Int)) (h1 := fun _ => rfl) hC)))
  obtain ⟨V, hV⟩ : ∃ V, (w.alloc (.cells #[.int .u8 97] 5 (1, 2))).alloc (.cells #[.int .i64 5, .slice (some ⟨w.heap.size, 0, none⟩) 1 1, .int .i64 6, .slice none 0 0] 39) = V := ⟨_, rfl⟩
  have BV := Aside0.mk (show Below w.heap.size w V by rw [← hV]; exact below_alloc (below_alloc (Below.refl _ _) _) _)
  have C1 := Aside0.mk (show Kd.C k39 V (some ⟨w.heap.size + 1, 0, none⟩) 2 l2 by
    rw [← hV]
    refine C39_two (ys := [97]) (zs := []) (c1 := 1) (c2 := 0) (m := (0, 0)) ?_ (by decide) (Kd.C_below (C_lit w [97] 5 (1, 2) (by decide)) (below_alloc (Below.refl _ _) _)) (by decide) (Kd.C_nil _ _)
    have h := blk_new (w.alloc (.cells #[.int .u8 97] 5 (1, 2))) (.cells #[.int .i64 5, .slice (some ⟨w.heap.size, 0, none⟩) 1 1, .int .i64 6, .slice none 0 0] 39)
    rw [show (w.alloc (.cells #[.int .u8 97] 5 (1, 2))).heap.size = w.heap.size + 1 by simp] at h
    exact h)
  have hu39 := Try.underlying39
  clear hsl0 hzz hi
  go_enter Try.func9, Try.ntmps9
  go_wp2_with (first
    | (go_at_call 10; (with_reducible refine (lv_put C1.out).mono ?_); rintro e w2 ⟨⟨A2, c2, rfl, h1, h2⟩, h3⟩; have C2 := Aside0.mk h1; have c2l := Aside0.mk h2; have B2 := Aside0.mk (below_then BV.out BV.out.size h3); have L2 := Aside0.mk (Kd.C_below C1.out h3); clear h1 h2 h3)
    | (go_at_call 12; (with_reducible refine (lv_get C2.out c2l.out).mono ?_); rintro e w3 ⟨⟨A3, c3, rfl, h1, h2⟩, h3⟩; have M3 := Aside0.mk h2; have c3l := Aside0.mk h1; have B3 := Aside0.mk (below_then B2.out B2.out.size h3); have L3 := Aside0.mk (Kd.C_below L2.out h3); have C3 := Aside0.mk (Kd.C_below C2.out h3); clear h1 h2 h3)
    | (go_at_call 12; (with_reducible refine (lv_airy (W := w3) rfl).mono ?_); rintro e w4 ⟨⟨A4, c4, rfl⟩, h3⟩; have B4 := Aside0.mk (below_then B3.out B3.out.size h3); have L4 := Aside0.mk (Kd.C_below L3.out h3); have C4 := Aside0.mk (Kd.C_below C3.out h3); have M4 := Aside0.mk (Kd.C_below M3.out h3); clear h3)
    | (go_at_call 10; (with_reducible refine (lv_put6 (w := w4.alloc (.cells #[.int .i64 6, .slice none 0 0, .int .i64 6, .slice none 0 0] 39)) (A := some ⟨w4.heap.size, 0, none⟩) (C39_two (ys := []) (zs := []) (c1 := 0) (c2 := 0) (blk_new w4 _) (by decide) (Kd.C_nil _ _) (by decide) (Kd.C_nil _ _))).mono ?_); rintro e w5 ⟨rfl, h3⟩; have h4 := below_then (below_alloc (Below.refl w4.heap.size w4) _) (below_alloc (Below.refl _ _) _).size h3; have B5 := Aside0.mk (below_then B4.out B4.out.size h4); have L5 := Aside0.mk (Kd.C_below L4.out h4); have C5 := Aside0.mk (Kd.C_below C4.out h4); have M5 := Aside0.mk (Kd.C_below M4.out h4); clear h3 h4)
    | (go_at_call 16; (with_reducible refine (lv_find L5.out).mono ?_); rintro e w6 ⟨⟨A6, c6, rfl, h1⟩, h3⟩; have X6 := Aside0.mk h1; have B6 := Aside0.mk (below_then B5.out B5.out.size h3); have L6 := Aside0.mk (Kd.C_below L5.out h3); have C6 := Aside0.mk (Kd.C_below C5.out h3); have M6 := Aside0.mk (Kd.C_below M5.out h3); clear h1 h3)
    | (go_at_call 16; (with_reducible refine (lv_find7 L6.out).mono ?_); rintro e w7 ⟨rfl, h3⟩; have B7 := Aside0.mk (below_then B6.out B6.out.size h3); have L7 := Aside0.mk (Kd.C_below L6.out h3); have C7 := Aside0.mk (Kd.C_below C6.out h3); have M7 := Aside0.mk (Kd.C_below M6.out h3); have X7 := Aside0.mk (Kd.C_below X6.out h3); clear h3)
    | (go_at_call 20; (with_reducible refine (lv_sum (b := w7.heap.size + 1) (by simp)).mono ?_); rintro e w8 ⟨rfl, h3⟩; have h4 := below_then (below_alloc (Below.refl w7.heap.size w7) (.cells (nums .u8 [65, 73, 82, 88, 1, 5, 1, 97]).toArray 5 (8, 9))) (below_alloc (Below.refl _ _) _).size h3; have B8 := Aside0.mk (below_then B7.out B7.out.size h4); have L8 := Aside0.mk (Kd.C_below L7.out h4); have C8 := Aside0.mk (Kd.C_below C7.out h4); have M8 := Aside0.mk (Kd.C_below M7.out h4); have X8 := Aside0.mk (Kd.C_below X7.out h4); have K8 := Aside0.mk (Kd.C_below (C_lit w7 [65, 73, 82, 88, 1, 5, 1, 97] 5 (8, 9) (by decide)) h3); clear h3 h4)
    | (go_at_call 19; (with_reducible refine (lv_word _).mono ?_); rintro e w9 ⟨⟨A9, c9, rfl, h1⟩, h3⟩; have B9 := Aside0.mk (below_then B8.out B8.out.size h3); have L9 := Aside0.mk (Kd.C_below L8.out h3); have C9 := Aside0.mk (Kd.C_below C8.out h3); have M9 := Aside0.mk (Kd.C_below M8.out h3); have X9 := Aside0.mk (Kd.C_below X8.out h3); have K9 := Aside0.mk (Kd.C_below K8.out h3); have W9 := Aside0.mk h1; clear h1 h3)
    | (at_builtin; refine append_full w9 w9.heap.size (.tmp 58) (.tmp 62) [65, 73, 82, 88, 1, 5, 1, 97] [8, 29, 244, 219] ⟨w7.heap.size, 0, none⟩ A9 8 4 c9 rfl rfl rfl rfl rfl rfl K9.out W9.out (by decide) (by decide) (Nat.le_refl _) ?_; intro v10 w10 h1 h3; obtain ⟨A10, c10, rfl, h4, h5⟩ := Kd.R_reads h1; have W10 := Aside0.mk (show (Kd.int .u8).C w10 A10 12 [65, 73, 82, 88, 1, 5, 1, 97, 8, 29, 244, 219] from h5); have hv10 : (([65, 73, 82, 88, 1, 5, 1, 97] : List Int) ++ [8, 29, 244, 219]).length = 12 := rfl; have B10 := Aside0.mk (below_then B9.out B9.out.size h3); have L10 := Aside0.mk (Kd.C_below L9.out h3); have C10 := Aside0.mk (Kd.C_below C9.out h3); have M10 := Aside0.mk (Kd.C_below M9.out h3); have X10 := Aside0.mk (Kd.C_below X9.out h3); clear h1 h3 h4 h5))
  have c12 : (12 : Int) ≤ (c2 : Int) := by have := c2l.out; omega
  have c12n : 12 ≤ c2 := by have := c2l.out; omega
  have BD := Aside0.mk (B10.out.drew)
  have L11 := Aside0.mk (Kd.C_below L10.out (Below.refl _ _).drew)
  have M11 := Aside0.mk (Kd.C_below M10.out (Below.refl _ _).drew)
  have F := Aside0.mk (fun (W : World) (hB : Below w10.heap.size w10 W) => show (Sem.run Try.prog (convert 25 9 (.slice A2 12 c2)) W = .ok (.string ⟨#[65, 73, 82, 88, 1, 5, 1, 97, 8, 29, 244, 219]⟩) W) ∧ (Sem.run Try.prog (convert 25 9 (.slice A10 12 c10)) W = .ok (.string ⟨#[65, 73, 82, 88, 1, 5, 1, 97, 8, 29, 244, 219]⟩) W) ∧ (Sem.run Try.prog (convert 25 9 (.slice A6 1 c6)) W = .ok (.string ⟨#[97]⟩) W) from
    ⟨(Kd.C_string (P := Try.prog) (A := A2) (c := c2) Try.underlying25 Try.underlying5 Try.underlying9 (HRD.out A2 c2 c2l.out W (Kd.C_below C10.out hB))).trans rfl,
     (Kd.C_string (P := Try.prog) (A := A10) (c := c10) Try.underlying25 Try.underlying5 Try.underlying9 (Kd.C_below W10.out hB)).trans rfl,
     (Kd.C_string (P := Try.prog) (A := A6) (c := c6) Try.underlying25 Try.underlying5 Try.underlying9 (Kd.C_below X10.out hB)).trans rfl⟩)
  have F0 := F.out _ (Below.refl w10.heap.size w10).drew
  refine start_ (n := 58) (S := fun w' => Sem.run Try.prog (convert 25 9 (.slice A2 12 c2)) w' = .ok (.string ⟨#[65, 73, 82, 88, 1, 5, 1, 97, 8, 29, 244, 219]⟩) w' ∧ Sem.run Try.prog (convert 25 9 (.slice A10 12 c10)) w' = .ok (.string ⟨#[65, 73, 82, 88, 1, 5, 1, 97, 8, 29, 244, 219]⟩) w' ∧ Sem.run Try.prog (convert 25 9 (.slice A6 1 c6)) w' = .ok (.string ⟨#[97]⟩) w') (ds := []) #[false, false, false, false, false, false, false, false, false, false, false, false, false, false, false, false, false, false, false, false, false, false, false, false, false, false, false, false, false, false, false, false, false, false, false, false, false, false, false, false, false, false, false, false, false, false, false, false, false, false, false, false, false, false, false, false, false, false] (by kernel_rfl) rfl rfl ⟨F0.1, F0.2.1, F0.2.2⟩ (fun hHeld => ?_)
  refine pure_ (i := 0) (N := some 64) (v := ?_) (a' := ?_) #[true, false, false, false, false, false, false, false, false, false, false, false, false, false, false, false, false, false, false, false, false, false, false, false, false, false, false, false, false, false, false, false, false, false, false, false, false, false, false, false, false, false, false, false, false, false, false, false, false, false, false, false, false, false, false, false, false, false] rfl rfl (by kernel_rfl) (fun _ _ _ h => h) (Or.inl ⟨by rfl, ?_⟩) ?_ ?_
  rotate_left
  · intro w'
    go_simp
    with_reducible rfl
  rotate_left
  · simp only [Act.put, List.setIfInBounds_toArray, List.set_cons_zero, List.set_cons_succ, i64_w, i32_w]
    rfl
  refine pure_ (i := 1) (N := some 65) (v := ?_) (a' := ?_) #[true, true, false, false, false, false, false, false, false, false, false, false, false, false, false, false, false, false, false, false, false, false, false, false, false, false, false, false, false, false, false, false, false, false, false, false, false, false, false, false, false, false, false, false, false, false, false, false, false, false, false, false, false, false, false, false, false, false] rfl rfl (by kernel_rfl) (fun _ _ _ h => h) (Or.inl ⟨by rfl, ?_⟩) ?_ ?_
  rotate_left
  · intro w'
    go_simp
    with_reducible rfl
  rotate_left
  · simp only [Act.put, List.setIfInBounds_toArray, List.set_cons_zero, List.set_cons_succ, i64_w, i32_w]
    rfl
  refine pure_ (i := 2) (N := some 66) (v := ?_) (a' := ?_) #[true, true, true, false, false, false, false, false, false, false, false, false, false, false, false, false, false, false, false, false, false, false, false, false, false, false, false, false, false, false, false, false, false, false, false, false, false, false, false, false, false, false, false, false, false, false, false, false, false, false, false, false, false, false, false, false, false, false] rfl rfl (by kernel_rfl) (fun _ _ _ h => h) (Or.inl ⟨by rfl, ?_⟩) ?_ ?_
  rotate_left
  · intro w'
    go_simp
    with_reducible rfl
  rotate_left
  · simp only [Act.put, List.setIfInBounds_toArray, List.set_cons_zero, List.set_cons_succ, i64_w, i32_w]
    rfl
  refine pure_ (i := 3) (N := some 67) (v := ?_) (a' := ?_) #[true, true, true, true, false, false, false, false, false, false, false, false, false, false, false, false, false, false, false, false, false, false, false, false, false, false, false, false, false, false, false, false, false, false, false, false, false, false, false, false, false, false, false, false, false, false, false, false, false, false, false, false, false, false, false, false, false, false] rfl rfl (by kernel_rfl) (fun _ _ _ h => h) (Or.inl ⟨by rfl, ?_⟩) ?_ ?_
  rotate_left
  · intro w'
    go_simp
    with_reducible rfl
  rotate_left
  · simp only [Act.put, List.setIfInBounds_toArray, List.set_cons_zero, List.set_cons_succ, i64_w, i32_w]
    rfl
  refine pure_ (i := 4) (N := some 68) (v := ?_) (a' := ?_) #[true, true, true, true, true, false, false, false, false, false, false, false, false, false, false, false, false, false, false, false, false, false, false, false, false, false, false, false, false, false, false, false, false, false, false, false, false, false, false, false, false, false, false, false, false, false, false, false, false, false, false, false, false, false, false, false, false, false] rfl rfl (by kernel_rfl) (fun _ _ _ h => h) (Or.inl ⟨by rfl, ?_⟩) ?_ ?_
  rotate_left
  · intro w'
    go_simp
    with_reducible rfl
  rotate_left
  · simp only [Act.put, List.setIfInBounds_toArray, List.set_cons_zero, List.set_cons_succ, i64_w, i32_w]
    rfl
  refine pure_ (i := 5) (N := some 69) (v := ?_) (a' := ?_) #[true, true, true, true, true, true, false, false, false, false, false, false, false, false, false, false, false, false, false, false, false, false, false, false, false, false, false, false, false, false, false, false, false, false, false, false, false, false, false, false, false, false, false, false, false, false, false, false, false, false, false, false, false, false, false, false, false, false] rfl rfl (by kernel_rfl) (fun _ _ _ h => h) (Or.inl ⟨by rfl, ?_⟩) ?_ ?_
  rotate_left
  · intro w'
    go_simp
    with_reducible rfl
  rotate_left
  · simp only [Act.put, List.setIfInBounds_toArray, List.set_cons_zero, List.set_cons_succ, i64_w, i32_w]
    rfl
  refine pure_ (i := 6) (N := some 70) (v := ?_) (a' := ?_) #[true, true, true, true, true, true, true, false, false, false, false, false, false, false, false, false, false, false, false, false, false, false, false, false, false, false, false, false, false, false, false, false, false, false, false, false, false, false, false, false, false, false, false, false, false, false, false, false, false, false, false, false, false, false, false, false, false, false] rfl rfl (by kernel_rfl) (fun _ _ _ h => h) (Or.inl ⟨by rfl, ?_⟩) ?_ ?_
  rotate_left
  · intro w'
    go_simp
    with_reducible rfl
  rotate_left
  · simp only [Act.put, List.setIfInBounds_toArray, List.set_cons_zero, List.set_cons_succ, i64_w, i32_w]
    rfl
  refine pure_ (i := 7) (N := some 71) (v := ?_) (a' := ?_) #[true, true, true, true, true, true, true, true, false, false, false, false, false, false, false, false, false, false, false, false, false, false, false, false, false, false, false, false, false, false, false, false, false, false, false, false, false, false, false, false, false, false, false, false, false, false, false, false, false, false, false, false, false, false, false, false, false, false] rfl rfl (by kernel_rfl) (fun _ _ _ h => h) (Or.inl ⟨by rfl, ?_⟩) ?_ ?_
  rotate_left
  · intro w'
    go_simp
    with_reducible rfl
  rotate_left
  · simp only [Act.put, List.setIfInBounds_toArray, List.set_cons_zero, List.set_cons_succ, i64_w, i32_w]
    rfl
  refine pure_ (i := 8) (N := some 72) (v := ?_) (a' := ?_) #[true, true, true, true, true, true, true, true, true, false, false, false, false, false, false, false, false, false, false, false, false, false, false, false, false, false, false, false, false, false, false, false, false, false, false, false, false, false, false, false, false, false, false, false, false, false, false, false, false, false, false, false, false, false, false, false, false, false] rfl rfl (by kernel_rfl) (fun _ _ _ h => h) (Or.inl ⟨by rfl, ?_⟩) ?_ ?_
  rotate_left
  · intro w'
    go_simp
    with_reducible rfl
  rotate_left
  · simp only [Act.put, List.setIfInBounds_toArray, List.set_cons_zero, List.set_cons_succ, i64_w, i32_w]
    rfl
  refine pure_ (i := 9) (N := some 73) (v := ?_) (a' := ?_) #[true, true, true, true, true, true, true, true, true, true, false, false, false, false, false, false, false, false, false, false, false, false, false, false, false, false, false, false, false, false, false, false, false, false, false, false, false, false, false, false, false, false, false, false, false, false, false, false, false, false, false, false, false, false, false, false, false, false] rfl rfl (by kernel_rfl) (fun _ _ _ h => h) (Or.inl ⟨by rfl, ?_⟩) ?_ ?_
  rotate_left
  · intro w'
    go_simp
    with_reducible rfl
  rotate_left
  · simp only [Act.put, List.setIfInBounds_toArray, List.set_cons_zero, List.set_cons_succ, i64_w, i32_w]
    rfl
  refine pure_ (i := 11) (N := some 75) (v := ?_) (a' := ?_) #[true, true, true, true, true, true, true, true, true, true, false, true, false, false, false, false, false, false, false, false, false, false, false, false, false, false, false, false, false, false, false, false, false, false, false, false, false, false, false, false, false, false, false, false, false, false, false, false, false, false, false, false, false, false, false, false, false, false] rfl rfl (by kernel_rfl) (fun _ _ _ h => h) (Or.inl ⟨by rfl, ?_⟩) ?_ ?_
  rotate_left
  · intro w'
    go_simp
    with_reducible rfl
  rotate_left
  · simp only [Act.put, List.setIfInBounds_toArray, List.set_cons_zero, List.set_cons_succ, i64_w, i32_w]
    rfl
  refine take_ (i := 10) (N := some 74) (v := ?_) (a' := ?_) #[true, true, true, true, true, true, true, true, true, true, true, true, false, false, false, false, false, false, false, false, false, false, false, false, false, false, false, false, false, false, false, false, false, false, false, false, false, false, false, false, false, false, false, false, false, false, false, false, false, false, false, false, false, false, false, false, false, false] rfl rfl (by kernel_rfl) (fun _ _ _ h => h) (Or.inl ⟨by rfl, ?_⟩) hHeld ?_ ?_
  rotate_left
  · rintro w' ⟨s0, s1, s2⟩
    go_simp
    with_reducible rfl
  rotate_left
  · simp only [Act.put, List.setIfInBounds_toArray, List.set_cons_zero, List.set_cons_succ, i64_w, i32_w]
    rfl
  refine take_ (i := 12) (N := some 76) (v := ?_) (a' := ?_) #[true, true, true, true, true, true, true, true, true, true, true, true, true, false, false, false, false, false, false, false, false, false, false, false, false, false, false, false, false, false, false, false, false, false, false, false, false, false, false, false, false, false, false, false, false, false, false, false, false, false, false, false, false, false, false, false, false, false] rfl rfl (by kernel_rfl) (fun _ _ _ h => h) (Or.inl ⟨by rfl, ?_⟩) hHeld ?_ ?_
  rotate_left
  · rintro w' ⟨s0, s1, s2⟩
    go_simp
    with_reducible rfl
  rotate_left
  · simp only [Act.put, List.setIfInBounds_toArray, List.set_cons_zero, List.set_cons_succ, i64_w, i32_w]
    rfl
  refine pure_ (i := 13) (N := some 77) (v := ?_) (a' := ?_) #[true, true, true, true, true, true, true, true, true, true, true, true, true, true, false, false, false, false, false, false, false, false, false, false, false, false, false, false, false, false, false, false, false, false, false, false, false, false, false, false, false, false, false, false, false, false, false, false, false, false, false, false, false, false, false, false, false, false] rfl rfl (by kernel_rfl) (fun _ _ _ h => h) (Or.inl ⟨by rfl, ?_⟩) ?_ ?_
  rotate_left
  · intro w'
    go_simp
    with_reducible rfl
  rotate_left
  · simp only [Act.put, List.setIfInBounds_toArray, List.set_cons_zero, List.set_cons_succ, i64_w, i32_w]
    rfl
  refine pure_ (i := 14) (N := some 78) (v := ?_) (a' := ?_) #[true, true, true, true, true, true, true, true, true, true, true, true, true, true, true, false, false, false, false, false, false, false, false, false, false, false, false, false, false, false, false, false, false, false, false, false, false, false, false, false, false, false, false, false, false, false, false, false, false, false, false, false, false, false, false, false, false, false] rfl rfl (by kernel_rfl) (fun _ _ _ h => h) (Or.inl ⟨by rfl, ?_⟩) ?_ ?_
  rotate_left
  · intro w'
    go_simp
    with_reducible rfl
  rotate_left
  · simp only [Act.put, List.setIfInBounds_toArray, List.set_cons_zero, List.set_cons_succ, i64_w, i32_w]
    rfl
  refine pure_ (i := 15) (N := some 79) (v := ?_) (a' := ?_) #[true, true, true, true, true, true, true, true, true, true, true, true, true, true, true, true, false, false, false, false, false, false, false, false, false, false, false, false, false, false, false, false, false, false, false, false, false, false, false, false, false, false, false, false, false, false, false, false, false, false, false, false, false, false, false, false, false, false] rfl rfl (by kernel_rfl) (fun _ _ _ h => h) (Or.inl ⟨by rfl, ?_⟩) ?_ ?_
  rotate_left
  · intro w'
    go_simp
    with_reducible rfl
  rotate_left
  · simp only [Act.put, List.setIfInBounds_toArray, List.set_cons_zero, List.set_cons_succ, i64_w, i32_w]
    rfl
  refine pure_ (i := 16) (N := some 80) (v := ?_) (a' := ?_) #[true, true, true, true, true, true, true, true, true, true, true, true, true, true, true, true, true, false, false, false, false, false, false, false, false, false, false, false, false, false, false, false, false, false, false, false, false, false, false, false, false, false, false, false, false, false, false, false, false, false, false, false, false, false, false, false, false, false] rfl rfl (by kernel_rfl) (fun _ _ _ h => h) (Or.inl ⟨by rfl, ?_⟩) ?_ ?_
  rotate_left
  · intro w'
    go_simp
    with_reducible rfl
  rotate_left
  · simp only [Act.put, List.setIfInBounds_toArray, List.set_cons_zero, List.set_cons_succ, i64_w, i32_w]
    rfl
  refine pure_ (i := 17) (N := some 81) (v := ?_) (a' := ?_) #[true, true, true, true, true, true, true, true, true, true, true, true, true, true, true, true, true, true, false, false, false, false, false, false, false, false, false, false, false, false, false, false, false, false, false, false, false, false, false, false, false, false, false, false, false, false, false, false, false, false, false, false, false, false, false, false, false, false] rfl rfl (by kernel_rfl) (fun _ _ _ h => h) (Or.inl ⟨by rfl, ?_⟩) ?_ ?_
  rotate_left
  · intro w'
    go_simp
    with_reducible rfl
  rotate_left
  · simp only [Act.put, List.setIfInBounds_toArray, List.set_cons_zero, List.set_cons_succ, i64_w, i32_w]
    rfl
  refine pure_ (i := 18) (N := some 82) (v := ?_) (a' := ?_) #[true, true, true, true, true, true, true, true, true, true, true, true, true, true, true, true, true, true, true, false, false, false, false, false, false, false, false, false, false, false, false, false, false, false, false, false, false, false, false, false, false, false, false, false, false, false, false, false, false, false, false, false, false, false, false, false, false, false] rfl rfl (by kernel_rfl) (fun _ _ _ h => h) (Or.inl ⟨by rfl, ?_⟩) ?_ ?_
  rotate_left
  · intro w'
    go_simp
    with_reducible rfl
  rotate_left
  · simp only [Act.put, List.setIfInBounds_toArray, List.set_cons_zero, List.set_cons_succ, i64_w, i32_w]
    rfl
  refine pure_ (i := 19) (N := some 83) (v := ?_) (a' := ?_) #[true, true, true, true, true, true, true, true, true, true, true, true, true, true, true, true, true, true, true, true, false, false, false, false, false, false, false, false, false, false, false, false, false, false, false, false, false, false, false, false, false, false, false, false, false, false, false, false, false, false, false, false, false, false, false, false, false, false] rfl rfl (by kernel_rfl) (fun _ _ _ h => h) (Or.inl ⟨by rfl, ?_⟩) ?_ ?_
  rotate_left
  · intro w'
    go_simp
    with_reducible rfl
  rotate_left
  · simp only [Act.put, List.setIfInBounds_toArray, List.set_cons_zero, List.set_cons_succ, i64_w, i32_w]
    rfl
  refine pure_ (i := 20) (N := some 84) (v := ?_) (a' := ?_) #[true, true, true, true, true, true, true, true, true, true, true, true, true, true, true, true, true, true, true, true, true, false, false, false, false, false, false, false, false, false, false, false, false, false, false, false, false, false, false, false, false, false, false, false, false, false, false, false, false, false, false, false, false, false, false, false, false, false] rfl rfl (by kernel_rfl) (fun _ _ _ h => h) (Or.inl ⟨by rfl, ?_⟩) ?_ ?_
  rotate_left
  · intro w'
    go_simp
    with_reducible rfl
  rotate_left
  · simp only [Act.put, List.setIfInBounds_toArray, List.set_cons_zero, List.set_cons_succ, i64_w, i32_w]
    rfl
  refine pure_ (i := 21) (N := some 85) (v := ?_) (a' := ?_) #[true, true, true, true, true, true, true, true, true, true, true, true, true, true, true, true, true, true, true, true, true, true, false, false, false, false, false, false, false, false, false, false, false, false, false, false, false, false, false, false, false, false, false, false, false, false, false, false, false, false, false, false, false, false, false, false, false, false] rfl rfl (by kernel_rfl) (fun _ _ _ h => h) (Or.inl ⟨by rfl, ?_⟩) ?_ ?_
  rotate_left
  · intro w'
    go_simp
    with_reducible rfl
  rotate_left
  · simp only [Act.put, List.setIfInBounds_toArray, List.set_cons_zero, List.set_cons_succ, i64_w, i32_w]
    rfl
  refine pure_ (i := 22) (N := some 86) (v := ?_) (a' := ?_) #[true, true, true, true, true, true, true, true, true, true, true, true, true, true, true, true, true, true, true, true, true, true, true, false, false, false, false, false, false, false, false, false, false, false, false, false, false, false, false, false, false, false, false, false, false, false, false, false, false, false, false, false, false, false, false, false, false, false] rfl rfl (by kernel_rfl) (fun _ _ _ h => h) (Or.inl ⟨by rfl, ?_⟩) ?_ ?_
  rotate_left
  · intro w'
    go_simp
    with_reducible rfl
  rotate_left
  · simp only [Act.put, List.setIfInBounds_toArray, List.set_cons_zero, List.set_cons_succ, i64_w, i32_w]
    rfl
  refine pure_ (i := 23) (N := some 87) (v := ?_) (a' := ?_) #[true, true, true, true, true, true, true, true, true, true, true, true, true, true, true, true, true, true, true, true, true, true, true, true, false, false, false, false, false, false, false, false, false, false, false, false, false, false, false, false, false, false, false, false, false, false, false, false, false, false, false, false, false, false, false, false, false, false] rfl rfl (by kernel_rfl) (fun _ _ _ h => h) (Or.inl ⟨by rfl, ?_⟩) ?_ ?_
  rotate_left
  · intro w'
    go_simp
    with_reducible rfl
  rotate_left
  · simp only [Act.put, List.setIfInBounds_toArray, List.set_cons_zero, List.set_cons_succ, i64_w, i32_w]
    rfl
  refine pure_ (i := 24) (N := some 88) (v := ?_) (a' := ?_) #[true, true, true, true, true, true, true, true, true, true, true, true, true, true, true, true, true, true, true, true, true, true, true, true, true, false, false, false, false, false, false, false, false, false, false, false, false, false, false, false, false, false, false, false, false, false, false, false, false, false, false, false, false, false, false, false, false, false] rfl rfl (by kernel_rfl) (fun _ _ _ h => h) (Or.inl ⟨by rfl, ?_⟩) ?_ ?_
  rotate_left
  · intro w'
    go_simp
    with_reducible rfl
  rotate_left
  · simp only [Act.put, List.setIfInBounds_toArray, List.set_cons_zero, List.set_cons_succ, i64_w, i32_w]
    rfl
  refine pure_ (i := 25) (N := some 89) (v := ?_) (a' := ?_) #[true, true, true, true, true, true, true, true, true, true, true, true, true, true, true, true, true, true, true, true, true, true, true, true, true, true, false, false, false, false, false, false, false, false, false, false, false, false, false, false, false, false, false, false, false, false, false, false, false, false, false, false, false, false, false, false, false, false] rfl rfl (by kernel_rfl) (fun _ _ _ h => h) (Or.inl ⟨by rfl, ?_⟩) ?_ ?_
  rotate_left
  · intro w'
    go_simp
    with_reducible rfl
  rotate_left
  · simp only [Act.put, List.setIfInBounds_toArray, List.set_cons_zero, List.set_cons_succ, i64_w, i32_w]
    rfl
  refine one_ (i := 26) (N := some 90) #[true, true, true, true, true, true, true, true, true, true, true, true, true, true, true, true, true, true, true, true, true, true, true, true, true, true, true, false, false, false, false, false, false, false, false, false, false, false, false, false, false, false, false, false, false, false, false, false, false, false, false, false, false, false, false, false, false, false] rfl rfl (by kernel_rfl) (by decide) (fun K hK => ?_)
  refine goes_ Try.func14 (by kernel_rfl) rfl #[.slice (some ⟨w.heap.size + 1, 0, none⟩) 2 2, .slice A3 2 c3] (by rfl) rfl rfl (by simp only [List.map_toArray, List.map_cons, List.map_nil]; rfl) ?_
  with_reducible refine (lv_same L11.out (by decide) M11.out c3l.out).mono ?_
  rintro e w11 ⟨rfl, h1⟩
  refine ⟨_, rfl, ?_⟩
  have B11 := Aside0.mk (below_then BD.out BD.out.size h1)
  have h2 := below_then (Below.refl w10.heap.size w10).drew (Below.refl w10.heap.size w10).drew.size h1
  have L12 := Aside0.mk (Kd.C_below L11.out h1)
  have M12 := Aside0.mk (Kd.C_below M11.out h1)
  have D11 := Aside0.mk h2
  have F1 := F.out _ h2
  clear h1 h2
  refine hK.out _ _ ⟨F1.1, F1.2.1, F1.2.2⟩ (fun hHeld => ?_)
  clear hK K
  refine norm_ (a' := ?_) ?_ ?_
  rotate_left
  · show Act.put _ (some 90) _ = _
    simp only [Act.put, List.setIfInBounds_toArray, List.set_cons_zero, List.set_cons_succ, i64_w, i32_w]
    rfl
  refine pure_ (i := 27) (N := some 91) (v := ?_) (a' := ?_) #[true, true, true, true, true, true, true, true, true, true, true, true, true, true, true, true, true, true, true, true, true, true, true, true, true, true, true, true, false, false, false, false, false, false, false, false, false, false, false, false, false, false, false, false, false, false, false, false, false, false, false, false, false, false, false, false, false, false] rfl rfl (by kernel_rfl) (fun _ _ _ h => h) (Or.inl ⟨by rfl, ?_⟩) ?_ ?_
  rotate_left
  · intro w'
    go_simp
    with_reducible rfl
  rotate_left
  · simp only [Act.put, List.setIfInBounds_toArray, List.set_cons_zero, List.set_cons_succ, i64_w, i32_w]
    rfl
  refine pure_ (i := 28) (N := some 92) (v := ?_) (a' := ?_) #[true, true, true, true, true, true, true, true, true, true, true, true, true, true, true, true, true, true, true, true, true, true, true, true, true, true, true, true, true, false, false, false, false, false, false, false, false, false, false, false, false, false, false, false, false, false, false, false, false, false, false, false, false, false, false, false, false, false] rfl rfl (by kernel_rfl) (fun _ _ _ h => h) (Or.inl ⟨by rfl, ?_⟩) ?_ ?_
  rotate_left
  · intro w'
    go_simp
    with_reducible rfl
  rotate_left
  · simp only [Act.put, List.setIfInBounds_toArray, List.set_cons_zero, List.set_cons_succ, i64_w, i32_w]
    rfl
  refine pure_ (i := 29) (N := some 93) (v := ?_) (a' := ?_) #[true, true, true, true, true, true, true, true, true, true, true, true, true, true, true, true, true, true, true, true, true, true, true, true, true, true, true, true, true, true, false, false, false, false, false, false, false, false, false, false, false, false, false, false, false, false, false, false, false, false, false, false, false, false, false, false, false, false] rfl rfl (by kernel_rfl) (fun _ _ _ h => h) (Or.inl ⟨by rfl, ?_⟩) ?_ ?_
  rotate_left
  · intro w'
    go_simp
    with_reducible rfl
  rotate_left
  · simp only [Act.put, List.setIfInBounds_toArray, List.set_cons_zero, List.set_cons_succ, i64_w, i32_w]
    rfl
  refine pure_ (i := 30) (N := some 94) (v := ?_) (a' := ?_) #[true, true, true, true, true, true, true, true, true, true, true, true, true, true, true, true, true, true, true, true, true, true, true, true, true, true, true, true, true, true, true, false, false, false, false, false, false, false, false, false, false, false, false, false, false, false, false, false, false, false, false, false, false, false, false, false, false, false] rfl rfl (by kernel_rfl) (fun _ _ _ h => h) (Or.inl ⟨by rfl, ?_⟩) ?_ ?_
  rotate_left
  · intro w'
    go_simp
    with_reducible rfl
  rotate_left
  · simp only [Act.put, List.setIfInBounds_toArray, List.set_cons_zero, List.set_cons_succ, i64_w, i32_w]
    rfl
  refine pure_ (i := 31) (N := some 95) (v := ?_) (a' := ?_) #[true, true, true, true, true, true, true, true, true, true, true, true, true, true, true, true, true, true, true, true, true, true, true, true, true, true, true, true, true, true, true, true, false, false, false, false, false, false, false, false, false, false, false, false, false, false, false, false, false, false, false, false, false, false, false, false, false, false] rfl rfl (by kernel_rfl) (fun _ _ _ h => h) (Or.inl ⟨by rfl, ?_⟩) ?_ ?_
  rotate_left
  · intro w'
    go_simp
    with_reducible rfl
  rotate_left
  · simp only [Act.put, List.setIfInBounds_toArray, List.set_cons_zero, List.set_cons_succ, i64_w, i32_w]
    rfl
  refine pure_ (i := 32) (N := some 96) (v := ?_) (a' := ?_) #[true, true, true, true, true, true, true, true, true, true, true, true, true, true, true, true, true, true, true, true, true, true, true, true, true, true, true, true, true, true, true, true, true, false, false, false, false, false, false, false, false, false, false, false, false, false, false, false, false, false, false, false, false, false, false, false, false, false] rfl rfl (by kernel_rfl) (fun _ _ _ h => h) (Or.inl ⟨by rfl, ?_⟩) ?_ ?_
  rotate_left
  · intro w'
    go_simp
    with_reducible rfl
  rotate_left
  · simp only [Act.put, List.setIfInBounds_toArray, List.set_cons_zero, List.set_cons_succ, i64_w, i32_w]
    rfl
  refine pure_ (i := 33) (N := some 97) (v := ?_) (a' := ?_) #[true, true, true, true, true, true, true, true, true, true, true, true, true, true, true, true, true, true, true, true, true, true, true, true, true, true, true, true, true, true, true, true, true, true, false, false, false, false, false, false, false, false, false, false, false, false, false, false, false, false, false, false, false, false, false, false, false, false] rfl rfl (by kernel_rfl) (fun _ _ _ h => h) (Or.inl ⟨by rfl, ?_⟩) ?_ ?_
  rotate_left
  · intro w'
    go_simp
    with_reducible rfl
  rotate_left
  · simp only [Act.put, List.setIfInBounds_toArray, List.set_cons_zero, List.set_cons_succ, i64_w, i32_w]
    rfl
  refine pure_ (i := 34) (N := some 98) (v := ?_) (a' := ?_) #[true, true, true, true, true, true, true, true, true, true, true, true, true, true, true, true, true, true, true, true, true, true, true, true, true, true, true, true, true, true, true, true, true, true, true, false, false, false, false, false, false, false, false, false, false, false, false, false, false, false, false, false, false, false, false, false, false, false] rfl rfl (by kernel_rfl) (fun _ _ _ h => h) (Or.inl ⟨by rfl, ?_⟩) ?_ ?_
  rotate_left
  · intro w'
    go_simp
    with_reducible rfl
  rotate_left
  · simp only [Act.put, List.setIfInBounds_toArray, List.set_cons_zero, List.set_cons_succ, i64_w, i32_w]
    rfl
  refine pure_ (i := 35) (N := some 99) (v := ?_) (a' := ?_) #[true, true, true, true, true, true, true, true, true, true, true, true, true, true, true, true, true, true, true, true, true, true, true, true, true, true, true, true, true, true, true, true, true, true, true, true, false, false, false, false, false, false, false, false, false, false, false, false, false, false, false, false, false, false, false, false, false, false] rfl rfl (by kernel_rfl) (fun _ _ _ h => h) (Or.inl ⟨by rfl, ?_⟩) ?_ ?_
  rotate_left
  · intro w'
    go_simp
    with_reducible rfl
  rotate_left
  · simp only [Act.put, List.setIfInBounds_toArray, List.set_cons_zero, List.set_cons_succ, i64_w, i32_w]
    rfl
  refine pure_ (i := 36) (N := some 100) (v := ?_) (a' := ?_) #[true, true, true, true, true, true, true, true, true, true, true, true, true, true, true, true, true, true, true, true, true, true, true, true, true, true, true, true, true, true, true, true, true, true, true, true, true, false, false, false, false, false, false, false, false, false, false, false, false, false, false, false, false, false, false, false, false, false] rfl rfl (by kernel_rfl) (fun _ _ _ h => h) (Or.inl ⟨by rfl, ?_⟩) ?_ ?_
  rotate_left
  · intro w'
    go_simp
    with_reducible rfl
  rotate_left
  · simp only [Act.put, List.setIfInBounds_toArray, List.set_cons_zero, List.set_cons_succ, i64_w, i32_w]
    rfl
  refine pure_ (i := 37) (N := some 101) (v := ?_) (a' := ?_) #[true, true, true, true, true, true, true, true, true, true, true, true, true, true, true, true, true, true, true, true, true, true, true, true, true, true, true, true, true, true, true, true, true, true, true, true, true, true, false, false, false, false, false, false, false, false, false, false, false, false, false, false, false, false, false, false, false, false] rfl rfl (by kernel_rfl) (fun _ _ _ h => h) (Or.inl ⟨by rfl, ?_⟩) ?_ ?_
  rotate_left
  · intro w'
    go_simp
    with_reducible rfl
  rotate_left
  · simp only [Act.put, List.setIfInBounds_toArray, List.set_cons_zero, List.set_cons_succ, i64_w, i32_w]
    rfl
  refine pure_ (i := 38) (N := some 102) (v := ?_) (a' := ?_) #[true, true, true, true, true, true, true, true, true, true, true, true, true, true, true, true, true, true, true, true, true, true, true, true, true, true, true, true, true, true, true, true, true, true, true, true, true, true, true, false, false, false, false, false, false, false, false, false, false, false, false, false, false, false, false, false, false, false] rfl rfl (by kernel_rfl) (fun _ _ _ h => h) (Or.inl ⟨by rfl, ?_⟩) ?_ ?_
  rotate_left
  · intro w'
    go_simp
    with_reducible rfl
  rotate_left
  · simp only [Act.put, List.setIfInBounds_toArray, List.set_cons_zero, List.set_cons_succ, i64_w, i32_w]
    rfl
  refine pure_ (i := 39) (N := some 103) (v := ?_) (a' := ?_) #[true, true, true, true, true, true, true, true, true, true, true, true, true, true, true, true, true, true, true, true, true, true, true, true, true, true, true, true, true, true, true, true, true, true, true, true, true, true, true, true, false, false, false, false, false, false, false, false, false, false, false, false, false, false, false, false, false, false] rfl rfl (by kernel_rfl) (fun _ _ _ h => h) (Or.inl ⟨by rfl, ?_⟩) ?_ ?_
  rotate_left
  · intro w'
    go_simp
    with_reducible rfl
  rotate_left
  · simp only [Act.put, List.setIfInBounds_toArray, List.set_cons_zero, List.set_cons_succ, i64_w, i32_w]
    rfl
  refine pure_ (i := 40) (N := some 104) (v := ?_) (a' := ?_) #[true, true, true, true, true, true, true, true, true, true, true, true, true, true, true, true, true, true, true, true, true, true, true, true, true, true, true, true, true, true, true, true, true, true, true, true, true, true, true, true, true, false, false, false, false, false, false, false, false, false, false, false, false, false, false, false, false, false] rfl rfl (by kernel_rfl) (fun _ _ _ h => h) (Or.inl ⟨by rfl, ?_⟩) ?_ ?_
  rotate_left
  · intro w'
    go_simp
    with_reducible rfl
  rotate_left
  · simp only [Act.put, List.setIfInBounds_toArray, List.set_cons_zero, List.set_cons_succ, i64_w, i32_w]
    rfl
  refine pure_ (i := 41) (N := some 105) (v := ?_) (a' := ?_) #[true, true, true, true, true, true, true, true, true, true, true, true, true, true, true, true, true, true, true, true, true, true, true, true, true, true, true, true, true, true, true, true, true, true, true, true, true, true, true, true, true, true, false, false, false, false, false, false, false, false, false, false, false, false, false, false, false, false] rfl rfl (by kernel_rfl) (fun _ _ _ h => h) (Or.inl ⟨by rfl, ?_⟩) ?_ ?_
  rotate_left
  · intro w'
    go_simp
    with_reducible rfl
  rotate_left
  · simp only [Act.put, List.setIfInBounds_toArray, List.set_cons_zero, List.set_cons_succ, i64_w, i32_w]
    rfl
  refine pure_ (i := 42) (N := some 106) (v := ?_) (a' := ?_) #[true, true, true, true, true, true, true, true, true, true, true, true, true, true, true, true, true, true, true, true, true, true, true, true, true, true, true, true, true, true, true, true, true, true, true, true, true, true, true, true, true, true, true, false, false, false, false, false, false, false, false, false, false, false, false, false, false, false] rfl rfl (by kernel_rfl) (fun _ _ _ h => h) (Or.inl ⟨by rfl, ?_⟩) ?_ ?_
  rotate_left
  · intro w'
    go_simp
    with_reducible rfl
  rotate_left
  · simp only [Act.put, List.setIfInBounds_toArray, List.set_cons_zero, List.set_cons_succ, i64_w, i32_w]
    rfl
  refine pure_ (i := 43) (N := some 107) (v := ?_) (a' := ?_) #[true, true, true, true, true, true, true, true, true, true, true, true, true, true, true, true, true, true, true, true, true, true, true, true, true, true, true, true, true, true, true, true, true, true, true, true, true, true, true, true, true, true, true, true, false, false, false, false, false, false, false, false, false, false, false, false, false, false] rfl rfl (by kernel_rfl) (fun _ _ _ h => h) (Or.inl ⟨by rfl, ?_⟩) ?_ ?_
  rotate_left
  · intro w'
    go_simp
    with_reducible rfl
  rotate_left
  · simp only [Act.put, List.setIfInBounds_toArray, List.set_cons_zero, List.set_cons_succ, i64_w, i32_w]
    rfl
  refine pure_ (i := 44) (N := some 108) (v := ?_) (a' := ?_) #[true, true, true, true, true, true, true, true, true, true, true, true, true, true, true, true, true, true, true, true, true, true, true, true, true, true, true, true, true, true, true, true, true, true, true, true, true, true, true, true, true, true, true, true, true, false, false, false, false, false, false, false, false, false, false, false, false, false] rfl rfl (by kernel_rfl) (fun _ _ _ h => h) (Or.inl ⟨by rfl, ?_⟩) ?_ ?_
  rotate_left
  · intro w'
    go_simp
    with_reducible rfl
  rotate_left
  · simp only [Act.put, List.setIfInBounds_toArray, List.set_cons_zero, List.set_cons_succ, i64_w, i32_w]
    rfl
  refine take_ (i := 45) (N := some 109) (v := ?_) (a' := ?_) #[true, true, true, true, true, true, true, true, true, true, true, true, true, true, true, true, true, true, true, true, true, true, true, true, true, true, true, true, true, true, true, true, true, true, true, true, true, true, true, true, true, true, true, true, true, true, false, false, false, false, false, false, false, false, false, false, false, false] rfl rfl (by kernel_rfl) (fun _ _ _ h => h) (Or.inl ⟨by rfl, ?_⟩) hHeld ?_ ?_
  rotate_left
  · rintro w' ⟨s0, s1, s2⟩
    go_simp
    with_reducible rfl
  rotate_left
  · simp only [Act.put, List.setIfInBounds_toArray, List.set_cons_zero, List.set_cons_succ, i64_w, i32_w]
    rfl
  refine pure_ (i := 46) (N := some 110) (v := ?_) (a' := ?_) #[true, true, true, true, true, true, true, true, true, true, true, true, true, true, true, true, true, true, true, true, true, true, true, true, true, true, true, true, true, true, true, true, true, true, true, true, true, true, true, true, true, true, true, true, true, true, true, false, false, false, false, false, false, false, false, false, false, false] rfl rfl (by kernel_rfl) (fun _ _ _ h => h) (Or.inl ⟨by rfl, ?_⟩) ?_ ?_
  rotate_left
  · intro w'
    go_simp
    with_reducible rfl
  rotate_left
  · simp only [Act.put, List.setIfInBounds_toArray, List.set_cons_zero, List.set_cons_succ, i64_w, i32_w]
    rfl
  refine pure_ (i := 47) (N := some 111) (v := ?_) (a' := ?_) #[true, true, true, true, true, true, true, true, true, true, true, true, true, true, true, true, true, true, true, true, true, true, true, true, true, true, true, true, true, true, true, true, true, true, true, true, true, true, true, true, true, true, true, true, true, true, true, true, false, false, false, false, false, false, false, false, false, false] rfl rfl (by kernel_rfl) (fun _ _ _ h => h) (Or.inl ⟨by rfl, ?_⟩) ?_ ?_
  rotate_left
  · intro w'
    go_simp
    with_reducible rfl
  rotate_left
  · simp only [Act.put, List.setIfInBounds_toArray, List.set_cons_zero, List.set_cons_succ, i64_w, i32_w]
    rfl
  refine pure_ (i := 48) (N := some 112) (v := ?_) (a' := ?_) #[true, true, true, true, true, true, true, true, true, true, true, true, true, true, true, true, true, true, true, true, true, true, true, true, true, true, true, true, true, true, true, true, true, true, true, true, true, true, true, true, true, true, true, true, true, true, true, true, true, false, false, false, false, false, false, false, false, false] rfl rfl (by kernel_rfl) (fun _ _ _ h => h) (Or.inl ⟨by rfl, ?_⟩) ?_ ?_
  rotate_left
  · intro w'
    go_simp
    with_reducible rfl
  rotate_left
  · simp only [Act.put, List.setIfInBounds_toArray, List.set_cons_zero, List.set_cons_succ, i64_w, i32_w]
    rfl
  refine pure_ (i := 49) (N := some 113) (v := ?_) (a' := ?_) #[true, true, true, true, true, true, true, true, true, true, true, true, true, true, true, true, true, true, true, true, true, true, true, true, true, true, true, true, true, true, true, true, true, true, true, true, true, true, true, true, true, true, true, true, true, true, true, true, true, true, false, false, false, false, false, false, false, false] rfl rfl (by kernel_rfl) (fun _ _ _ h => h) (Or.inl ⟨by rfl, ?_⟩) ?_ ?_
  rotate_left
  · intro w'
    go_simp
    with_reducible rfl
  rotate_left
  · simp only [Act.put, List.setIfInBounds_toArray, List.set_cons_zero, List.set_cons_succ, i64_w, i32_w]
    rfl
  refine pure_ (i := 50) (N := some 114) (v := ?_) (a' := ?_) #[true, true, true, true, true, true, true, true, true, true, true, true, true, true, true, true, true, true, true, true, true, true, true, true, true, true, true, true, true, true, true, true, true, true, true, true, true, true, true, true, true, true, true, true, true, true, true, true, true, true, true, false, false, false, false, false, false, false] rfl rfl (by kernel_rfl) (fun _ _ _ h => h) (Or.inl ⟨by rfl, ?_⟩) ?_ ?_
  rotate_left
  · intro w'
    go_simp
    with_reducible rfl
  rotate_left
  · simp only [Act.put, List.setIfInBounds_toArray, List.set_cons_zero, List.set_cons_succ, i64_w, i32_w]
    rfl
  refine pure_ (i := 51) (N := some 115) (v := ?_) (a' := ?_) #[true, true, true, true, true, true, true, true, true, true, true, true, true, true, true, true, true, true, true, true, true, true, true, true, true, true, true, true, true, true, true, true, true, true, true, true, true, true, true, true, true, true, true, true, true, true, true, true, true, true, true, true, false, false, false, false, false, false] rfl rfl (by kernel_rfl) (fun _ _ _ h => h) (Or.inl ⟨by rfl, ?_⟩) ?_ ?_
  rotate_left
  · intro w'
    go_simp
    with_reducible rfl
  rotate_left
  · simp only [Act.put, List.setIfInBounds_toArray, List.set_cons_zero, List.set_cons_succ, i64_w, i32_w]
    rfl
  refine pure_ (i := 52) (N := some 116) (v := ?_) (a' := ?_) #[true, true, true, true, true, true, true, true, true, true, true, true, true, true, true, true, true, true, true, true, true, true, true, true, true, true, true, true, true, true, true, true, true, true, true, true, true, true, true, true, true, true, true, true, true, true, true, true, true, true, true, true, true, false, false, false, false, false] rfl rfl (by kernel_rfl) (fun _ _ _ h => h) (Or.inl ⟨by rfl, ?_⟩) ?_ ?_
  rotate_left
  · intro w'
    go_simp
    with_reducible rfl
  rotate_left
  · simp only [Act.put, List.setIfInBounds_toArray, List.set_cons_zero, List.set_cons_succ, i64_w, i32_w]
    rfl
  refine pure_ (i := 53) (N := some 117) (v := ?_) (a' := ?_) #[true, true, true, true, true, true, true, true, true, true, true, true, true, true, true, true, true, true, true, true, true, true, true, true, true, true, true, true, true, true, true, true, true, true, true, true, true, true, true, true, true, true, true, true, true, true, true, true, true, true, true, true, true, true, false, false, false, false] rfl rfl (by kernel_rfl) (fun _ _ _ h => h) (Or.inl ⟨by rfl, ?_⟩) ?_ ?_
  rotate_left
  · intro w'
    go_simp
    with_reducible rfl
  rotate_left
  · simp only [Act.put, List.setIfInBounds_toArray, List.set_cons_zero, List.set_cons_succ, i64_w, i32_w]
    rfl
  refine pure_ (i := 54) (N := some 118) (v := ?_) (a' := ?_) #[true, true, true, true, true, true, true, true, true, true, true, true, true, true, true, true, true, true, true, true, true, true, true, true, true, true, true, true, true, true, true, true, true, true, true, true, true, true, true, true, true, true, true, true, true, true, true, true, true, true, true, true, true, true, true, false, false, false] rfl rfl (by kernel_rfl) (fun _ _ _ h => h) (Or.inl ⟨by rfl, ?_⟩) ?_ ?_
  rotate_left
  · intro w'
    go_simp
    with_reducible rfl
  rotate_left
  · simp only [Act.put, List.setIfInBounds_toArray, List.set_cons_zero, List.set_cons_succ, i64_w, i32_w]
    rfl
  refine one_ (i := 55) (N := some 119) #[true, true, true, true, true, true, true, true, true, true, true, true, true, true, true, true, true, true, true, true, true, true, true, true, true, true, true, true, true, true, true, true, true, true, true, true, true, true, true, true, true, true, true, true, true, true, true, true, true, true, true, true, true, true, true, true, false, false] rfl rfl (by kernel_rfl) (by decide) (fun K hK => ?_)
  refine goes_ Try.func17 (by kernel_rfl) rfl #[.slice (some ⟨w.heap.size + 1, 0, none⟩) 2 2, .slice A3 2 c3] (by rfl) rfl rfl (by simp only [List.map_toArray, List.map_cons, List.map_nil]; rfl) ?_
  with_reducible refine (lv_psame L12.out M12.out).mono ?_
  rintro e w12 ⟨rfl, h1⟩
  refine ⟨_, rfl, ?_⟩
  have B12 := Aside0.mk (below_then B11.out B11.out.size h1)
  have F2 := F.out _ (below_then D11.out D11.out.size h1)
  clear h1
  refine hK.out _ _ ⟨F2.1, F2.2.1, F2.2.2⟩ (fun hHeld => ?_)
  clear hK K
  refine norm_ (a' := ?_) ?_ ?_
  rotate_left
  · show Act.put _ (some 119) _ = _
    simp only [Act.put, List.setIfInBounds_toArray, List.set_cons_zero, List.set_cons_succ, i64_w, i32_w]
    rfl
  refine pure_ (i := 56) (N := some 120) (v := ?_) (a' := ?_) #[true, true, true, true, true, true, true, true, true, true, true, true, true, true, true, true, true, true, true, true, true, true, true, true, true, true, true, true, true, true, true, true, true, true, true, true, true, true, true, true, true, true, true, true, true, true, true, true, true, true, true, true, true, true, true, true, true, false] rfl rfl (by kernel_rfl) (fun _ _ _ h => h) (Or.inl ⟨by rfl, ?_⟩) ?_ ?_
  rotate_left
  · intro w'
    go_simp
    with_reducible rfl
  rotate_left
  · simp only [Act.put, List.setIfInBounds_toArray, List.set_cons_zero, List.set_cons_succ, i64_w, i32_w]
    rfl
  refine pure_ (i := 57) (N := some 0) (v := ?_) (a' := ?_) #[true, true, true, true, true, true, true, true, true, true, true, true, true, true, true, true, true, true, true, true, true, true, true, true, true, true, true, true, true, true, true, true, true, true, true, true, true, true, true, true, true, true, true, true, true, true, true, true, true, true, true, true, true, true, true, true, true, true] rfl rfl (by kernel_rfl) (fun _ _ _ h => h) (Or.inl ⟨by rfl, ?_⟩) ?_ ?_
  rotate_left
  · intro w'
    go_simp
    with_reducible rfl
  rotate_left
  · simp only [Act.put, List.setIfInBounds_toArray, List.set_cons_zero, List.set_cons_succ, i64_w, i32_w]
    rfl
  refine done_ (by kernel_rfl) ?_
  go_wp2
  go_ret
  exact ⟨by first | rfl | simp, B12.out⟩
end Go.Proofs.Ytnohflfpahokiaa.Sec
