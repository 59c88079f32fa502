/- Sections: a section's bytes, the program's and the reference's. -/
import Derived.Test.YtnohflfpahokiaaSec3
set_option linter.unusedVariables false
set_option linter.unusedSimpArgs false
set_option maxRecDepth 20000
namespace Go.Proofs.Ytnohflfpahokiaa.Sec
open Go Go.RowKit Go.Proofs.YtnohflfpahokiaaW.PrintWords Go.Proofs.YtnohflfpahokiaaW.PrintLast Go.Proofs.Ytnohflfpahokiaa.LebM Go.Proofs.Ytnohflfpahokiaa.Leb
open Go.Proofs.Ytnohflfpahokiaa.PAll (S39 k39 z39 rd_T39 at_T39)
open Go.Proofs.Ytnohflfpahokiaa.Rd (Kp info5)
open Go.Proofs.Ytnohflfpahokiaa.Crc (sumI sumI_range)
open Go.Proofs.Ytnohflfpahokiaa.Pen (Buf Moved)

theorem nums_size (ys : List Int) : (strOfNums ys).size = ys.length := by
  show (strOfNums ys).data.size = _
  simp [strOfNums]
theorem bytes_str {ys : List Int} (hb : ∀ x ∈ ys, 0 ≤ x ∧ x < 256) : bytesOf (strOfNums ys) = ys := by
  simp only [strOfNums, bytesOf, List.map_map]
  conv => rhs; rw [← List.map_id ys]
  refine List.map_congr_left fun x hx => ?_
  have := hb x hx
  simp only [Function.comp, UInt8.toNat_ofNat', id]
  omega
theorem bytesOf_range (s : ByteArray) : ∀ x ∈ bytesOf s, 0 ≤ x ∧ x < 256 := by
  intro x hx
  unfold bytesOf at hx
  obtain ⟨b, _, rfl⟩ := List.mem_map.1 hx
  have := b.toNat_lt
  omega
theorem word_lit (n : Int) (h : 0 ≤ n ∧ n < 4294967296) : [n % 256, n / 256 % 256, n / 65536 % 256, n / 16777216] = wordN n := by
  have : n / 16777216 % 256 = n / 16777216 := by omega
  unfold wordN
  rw [this]
/-- what a section's sum is reckoned of -/
def preB (t : Int) (ys : List Int) : List Int := [t % 256] ++ (putN 9 ys.length ++ ys)
/-- a section's bytes -/
def secB (t : Int) (ys : List Int) : List Int := preB t ys ++ wordN (sumI (preB t ys))
theorem preB_range (t : Int) {ys : List Int} (hb : ∀ x ∈ ys, 0 ≤ x ∧ x < 256) (hl : ys.length ≤ 10000000) : ∀ x ∈ preB t ys, 0 ≤ x ∧ x < 256 := by
  intro x hx
  unfold preB at hx
  rcases List.mem_append.1 hx with hx | hx
  · simp at hx; omega
  · rcases List.mem_append.1 hx with hx | hx
    · exact putN_byte 9 _ (by omega) (by omega) x hx
    · exact hb x hx
theorem preB_length (t : Int) (ys : List Int) : (preB t ys).length = 1 + ((putN 9 ys.length).length + ys.length) := by simp [preB]; omega
theorem wordN_range (n : Int) : ∀ x ∈ wordN n, 0 ≤ x ∧ x < 256 := by
  intro x hx
  simp [wordN] at hx
  omega
theorem secB_range (t : Int) {ys : List Int} (hb : ∀ x ∈ ys, 0 ≤ x ∧ x < 256) (hl : ys.length ≤ 10000000) : ∀ x ∈ secB t ys, 0 ≤ x ∧ x < 256 := by
  intro x hx
  unfold secB at hx
  rcases List.mem_append.1 hx with hx | hx
  · exact preB_range t hb hl x hx
  · exact wordN_range _ x hx
theorem secB_length (t : Int) (ys : List Int) : (secB t ys).length ≤ ys.length + 15 := by
  have := putN_le 9 (ys.length : Int)
  unfold secB
  rw [List.length_append, preB_length]
  simp [wordN]
  omega
theorem SBox.keep {w w' : World} {b g : Nat} {t : Int} {A : Option Addr} {n c : Nat} {base : Nat} {v : Value} {xs : List Int} (o : SBox w b t A n c) (h : Buf w 85 #[v] g base v xs) (k : KeepBut w w' g v.ownBlock) : SBox w' b t A n c :=
  ⟨(k.2 b (blk_lt o.blk) (fun e => blk_ne o.blk h.blk (by decide) e) (fun e => by
    obtain ⟨cells, hc⟩ := own_typed (Kd.own_of_R h.row) b e.symm
    rw [o.blk] at hc
    injection hc with hc
    injection hc with _ hc
    cases hc)).trans o.blk⟩
theorem put_said : Pen.PutSaid (putN 9) := Leb.put_calls
set_option maxHeartbeats 4000000 in
theorem put_calls {A : Option Addr} {c : Nat} {ys : List Int} {w : World} (t : Int) (hC : (Kd.int .u8).C w A ys.length ys) (hc : ys.length ≤ c) (hb : ∀ x ∈ ys, 0 ≤ x ∧ x < 256) (hl : ys.length ≤ 10000000) :
    Calls Try.prog 24 #[.agg #[.int .i64 t, .slice A ys.length c]] w fun e w' => ∃ v, e = .returned v ∧ (Kd.int .u8).R 5 w' w.heap.size (fun _ => True) v (secB t ys) ∧ Below w.heap.size w w' := by
  obtain ⟨V, hV⟩ : ∃ V, w.alloc (.cells #[.int .i64 t, .slice A ys.length c] 39) = V := ⟨_, rfl⟩
  have BV := Aside0.mk (show Below w.heap.size w V by rw [← hV]; exact below_alloc (Below.refl _ _) _)
  have O := Aside0.mk (show SBox V w.heap.size t A ys.length c by rw [← hV]; exact ⟨blk_new w _⟩)
  have HC := Aside0.mk hC
  have Hc := Aside0.mk hc
  have HB := Aside0.mk hb
  have HL := Aside0.mk hl
  have HP := Aside0.mk (putN_le 9 (ys.length : Int))
  have BS := Aside0.mk (bytes_str hb)
  have NS := Aside0.mk (nums_size ys)
  clear hC hc hb hl
  go_enter Try.func24, Try.ntmps24
  go_wp2_with (first
    | (go_at_call 45; (with_reducible refine (Pen.new_calls _).mono ?_); rintro e w1 ⟨g, rfl, h1, h2⟩; have P1 := Aside0.mk h1; have O1 := Aside0.mk (O.out.below h2); have B1 := Aside0.mk (below_then BV.out BV.out.size h2); have q0 := O1.out.c0; clear h1 h2)
    | (go_at_call 46; (with_reducible refine (Pen.byte_calls t P1.out (by simp)).mono ?_); rintro e w2 ⟨rfl, v2, h1, h2, h3, h4⟩; rw [List.nil_append] at h1; have P2 := Aside0.mk h1; have O2 := Aside0.mk (O1.out.keep P1.out h2); have B2 := Aside0.mk (B1.out.trans (h4.mono BV.out.size)); have q1 := O2.out.c1; have hcv := Kd.C_string (P := Try.prog) (A := A) (c := c) Try.underlying25 Try.underlying5 Try.underlying9 (Kd.C_below HC.out B2.out); clear h1 h2 h3 h4)
    | (go_at_call 47; (with_reducible refine (Pen.text_calls put_said (strOfNums ys) (by rw [NS.out]; have := HL.out; omega) P2.out (by rw [NS.out]; have := HL.out; have := HP.out; simp; omega)).mono ?_); rintro e w3 ⟨rfl, v3, h1, h2, h3, h4⟩; rw [NS.out, BS.out, List.append_assoc] at h1; have P3 := Aside0.mk (show Buf w3 85 #[v3] g V.heap.size v3 (preB t ys) from h1); have B3 := Aside0.mk (B2.out.trans (h4.mono BV.out.size)); clear h1 h2 h3 h4)
    | (go_at_call 48; (with_reducible refine (Pen.word_calls (sumI (preB t ys)) (sumI_range _) P5.out (by rw [preB_length]; have := HL.out; have := HP.out; omega)).mono ?_); rintro e w6 ⟨rfl, v6, h1, h2, h3, h4⟩; rw [word_lit _ (sumI_range _)] at h1; have P6 := Aside0.mk (show Buf w6 85 #[v6] g V.heap.size v6 (secB t ys) from h1); have B6 := Aside0.mk (B5.out.trans (h4.mono BV.out.size)); clear h1 h2 h3 h4)
    | (go_at_call 50; (with_reducible refine (Pen.bytes_calls P6.out (by have := secB_length t ys; have := HL.out; omega)).mono ?_); rintro e w7 ⟨u7, rfl, h1, h2⟩; have R7 := Aside0.mk (Kd.R_lower h1 B6.out.size); have B7 := Aside0.mk (below_then B6.out B6.out.size h2); clear h1 h2)
    | (go_at_call 50; (with_reducible refine (Pen.bytes_calls P3.out (by rw [preB_length]; have := HL.out; have := HP.out; omega)).mono ?_); rintro e w4 ⟨u4, rfl, h1, h2⟩; obtain ⟨A4, c4, rfl, hc4, hC4⟩ := Kd.R_reads h1; have C4 := Aside0.mk hC4; have c4l := Aside0.mk hc4; have P4 := Aside0.mk (P3.out.below h2); have B4 := Aside0.mk (below_then B3.out B3.out.size h2); clear h1 h2 hC4 hc4)
    | (go_at_call 49; (with_reducible refine (Crc.sum_calls C4.out c4l.out (preB_range t HB.out HL.out) (by rw [preB_length]; have := HL.out; have := HP.out; omega)).mono ?_); rintro e w5 ⟨rfl, h1⟩; have P5 := Aside0.mk (P4.out.below h1.below); have B5 := Aside0.mk (below_then B4.out B4.out.size h1.below); clear h1))
  go_ret
  exact ⟨_, rfl, R7.out, B7.out⟩
set_option maxHeartbeats 1000000 in
/-- the reference's Text -/
theorem rtext56 (s : ByteArray) (hs : s.size ≤ 140737488351232) (w : World) :
    Calls Try.prog 56 #[.string s] w fun e w' => ∃ v, e = .returned v ∧ (Kd.int .u8).R 5 w' w.heap.size (fun _ => True) v (putN 9 s.size ++ bytesOf s) ∧ Below w.heap.size w w' := by
  have HS := Aside0.mk hs
  have L1 := Aside0.mk (putN_le 9 (s.size : Int))
  have hw : IntKind.u64.wrap ((s.size : Nat) : Int) = ((s.size : Nat) : Int) := by simp [IntKind.wrap, IntKind.bits, IntKind.signed]; omega
  clear hs
  go_enter Try.func56, Try.ntmps56
  go_wp2_with (first
    | (go_at_call 72; refine (Leb.rput_calls (s.size : Int) _ (by omega) (by have := HS.out; omega)).mono ?_; rintro e w1 ⟨v1, rfl, h1, h2⟩; have H1 := Aside0.mk h1; have B1 := Aside0.mk h2; clear h1 h2)
    | ((with_reducible refine gate_dst (N := 8) rfl ?_); refine Pen.bytes_event (N := 8) rfl rfl 9 25 5 _ s rfl rfl Try.underlying9 Try.underlying25 Try.underlying5 (by have := HS.out; omega) ?_; intro A c w2 hc hC hb; have Hc := Aside0.mk hc; have HC := Aside0.mk hC; have H2 := Aside0.mk (Kd.R_below H1.out hb); have B2 := Aside0.mk (below_then B1.out (by have := B1.out.size; omega) hb); clear hc hC hb)
    | (at_builtin; refine Kd.R_append_rows (Kd.int .u8) (w0 := w) w.heap.size rfl (.tmp 6) (.tmp 8) 25 5 (.int .u8 0) 1 rfl Try.underlying25 info5 rfl (by decide) (by omega) _ _ (bytesOf s) _ _ _ (fun _ => True) (fun _ => False) rfl rfl H2.out HC.out (fun _ _ h => h) (fun _ h => h.elim) (fun _ _ => trivial) B2.out B2.out.size (by have := L1.out; have := HS.out; simp [bytesOf_length]; omega) ?_; intro v3 w3 h1 h2 h3 h4; have H3 := Aside0.mk h1; have B3 := Aside0.mk h2; clear h1 h2 h3 h4))
  go_ret
  exact ⟨_, rfl, H3.out, B3.out⟩
/-- a literal of one byte -/
theorem lit_R (w : World) (x : Int) : (Kd.int .u8).R 5 (w.alloc (.cells #[.int .u8 x] 5)) w.heap.size (fun _ => True) (.slice (some ⟨w.heap.size, 0, none⟩) 1 1) [x] := by
  refine Kd.R_of_own (enc := Value.int .u8) ?_ (fun _ _ => trivial)
  refine ⟨rfl, .inr ⟨w.heap.size, 1, #[.int .u8 x], rfl, Nat.le_refl _, heap_alloc_new w _, Nat.le_refl _, by simp [maxLen], rfl, rfl⟩⟩
theorem nerow_R {w w1 : World} {b : Nat} {ok ok1 : Nat → Prop} {v v1 : Value} {xs ys : List Int} (h1 : (Kd.int .u8).R 5 w1 w.heap.size ok1 v1 ys) (h : (Kd.int .u8).R 5 w b ok v xs) : NeRow v1 v := by
  obtain ⟨i1, o1⟩ := Kd.R_own h1
  obtain ⟨i2, o2⟩ := Kd.R_own h
  exact ne_below o1 o2
set_option maxHeartbeats 4000000 in
theorem one_calls {A : Option Addr} {c : Nat} {ys : List Int} {w : World} (t : Int) (hC : (Kd.int .u8).C w A ys.length ys) (hc : ys.length ≤ c) (hb : ∀ x ∈ ys, 0 ≤ x ∧ x < 256) (hl : ys.length ≤ 10000000) :
    Calls Try.prog 31 #[.agg #[.int .i64 t, .slice A ys.length c]] w fun e w' => ∃ v, e = .returned v ∧ (Kd.int .u8).R 5 w' w.heap.size (fun _ => True) v (secB t ys) ∧ Below w.heap.size w w' := by
  obtain ⟨V, hV⟩ : ∃ V, w.alloc (.cells #[.int .i64 t, .slice A ys.length c] 39) = V := ⟨_, rfl⟩
  have BV := Aside0.mk (show Below w.heap.size w V by rw [← hV]; exact below_alloc (Below.refl _ _) _)
  have O := Aside0.mk (show SBox V w.heap.size t A ys.length c by rw [← hV]; exact ⟨blk_new w _⟩)
  have BD := Aside0.mk (BV.out.drew)
  have O0 := Aside0.mk (O.out.below (Below.refl _ _).drew)
  have HC := Aside0.mk hC
  have Hc := Aside0.mk hc
  have HB := Aside0.mk hb
  have HL := Aside0.mk hl
  have HP := Aside0.mk (putN_le 9 (ys.length : Int))
  have BS := Aside0.mk (bytes_str hb)
  have NS := Aside0.mk (nums_size ys)
  have q0 := O0.out.c0
  have q1 := O0.out.c1
  have hcv := Kd.C_string (P := Try.prog) (A := A) (c := c) Try.underlying25 Try.underlying5 Try.underlying9 (Kd.C_below HC.out BD.out)
  clear hC hc hb hl
  go_enter Try.func31, Try.ntmps31
  go_wp2
  refine start_ (n := 10) (S := fun w' => w'.cell? ⟨w.heap.size, 0, none⟩ = some (.int .i64 t) ∧ w'.cell? ⟨w.heap.size, 1, none⟩ = some (.slice A ys.length c) ∧ Sem.run Try.prog (convert 25 9 (.slice A ys.length c)) w' = .ok (.string (strOfNums ys)) w') (ds := []) #[false, false, false, false, false, false, false, false, false, false] (by kernel_rfl) rfl rfl ⟨q0, q1, hcv⟩ (fun hHeld => ?_)
  refine pure_ (i := 0) (N := some 4) (v := ?_) (a' := ?_) #[true, false, false, false, false, false, false, false, false, false] rfl rfl (by kernel_rfl) (fun _ _ _ h => h) (Or.inl ⟨by rfl, ?_⟩) ?_ ?_
  rotate_left
  · intro w'
    go_simp
    with_reducible rfl
  rotate_left
  · simp only [Act.put, List.setIfInBounds_toArray, List.set_cons_zero, List.set_cons_succ, i64_w, i32_w]
    rfl
  refine pure_ (i := 4) (N := some 8) (v := ?_) (a' := ?_) #[true, false, false, false, true, false, false, false, false, false] rfl rfl (by kernel_rfl) (fun _ _ _ h => h) (Or.inl ⟨by rfl, ?_⟩) ?_ ?_
  rotate_left
  · intro w'
    go_simp
    with_reducible rfl
  rotate_left
  · simp only [Act.put, List.setIfInBounds_toArray, List.set_cons_zero, List.set_cons_succ, i64_w, i32_w]
    rfl
  refine take_ (i := 1) (N := some 5) (v := ?_) (a' := ?_) #[true, true, false, false, true, false, false, false, false, false] rfl rfl (by kernel_rfl) (fun _ _ _ h => h) (Or.inl ⟨by rfl, ?_⟩) hHeld ?_ ?_
  rotate_left
  · rintro w' ⟨s0, s1, s2⟩
    go_simp
    with_reducible rfl
  rotate_left
  · simp only [Act.put, List.setIfInBounds_toArray, List.set_cons_zero, List.set_cons_succ, i64_w, i32_w]
    rfl
  refine pure_ (i := 2) (N := some 6) (v := ?_) (a' := ?_) #[true, true, true, false, true, false, false, false, false, false] rfl rfl (by kernel_rfl) (fun _ _ _ h => h) (Or.inl ⟨by rfl, ?_⟩) ?_ ?_
  rotate_left
  · intro w'
    go_simp
    with_reducible rfl
  rotate_left
  · simp only [Act.put, List.setIfInBounds_toArray, List.set_cons_zero, List.set_cons_succ, i64_w, i32_w]
    rfl
  refine take_ (i := 5) (N := some 9) (v := ?_) (a' := ?_) #[true, true, true, false, true, true, false, false, false, false] rfl rfl (by kernel_rfl) (fun _ _ _ h => h) (Or.inl ⟨by rfl, ?_⟩) hHeld ?_ ?_
  rotate_left
  · rintro w' ⟨s0, s1, s2⟩
    go_simp
    with_reducible rfl
  rotate_left
  · simp only [Act.put, List.setIfInBounds_toArray, List.set_cons_zero, List.set_cons_succ, i64_w, i32_w]
    rfl
  refine take_ (i := 6) (N := some 10) (v := ?_) (a' := ?_) #[true, true, true, false, true, true, true, false, false, false] rfl rfl (by kernel_rfl) (fun _ _ _ h => h) (Or.inl ⟨by rfl, ?_⟩) hHeld ?_ ?_
  rotate_left
  · rintro w' ⟨s0, s1, s2⟩
    go_simp
    with_reducible rfl
  rotate_left
  · simp only [Act.put, List.setIfInBounds_toArray, List.set_cons_zero, List.set_cons_succ, i64_w, i32_w]
    rfl
  refine join_ (σ := Value × Value) 2 #[true, true, true, true, true, true, true, true, false, false] (fun s => [(7, s.1), (11, s.2)]) (fun s w' => (Kd.int .u8).R 5 w' w.heap.size (fun _ => True) s.1 [t % 256] ∧ (Kd.int .u8).R 5 w' w.heap.size (fun _ => True) s.2 (putN 9 ys.length ++ ys) ∧ NeRow s.1 s.2 ∧ Below w.heap.size w w' ∧ SBox w' w.heap.size t A ys.length c) ?_ ?_
  rotate_left
  · intro hCont
    refine two_ (i := 3) (j := 7) (Ni := some 7) (Nj := some 11) #[true, true, true, true, true, true, true, false, false, false] #[true, true, true, false, true, true, true, true, false, false] rfl rfl rfl rfl (by kernel_rfl) (by decide) (by decide) (fun K hK => ?_) (fun K hK => ?_)
    · skip
      refine value_ (w1 := ?_) (v := ?_) (by rfl) rfl ?_ ?_
      rotate_left 2
      · go_simp
        constructor
        · rfl
        · rfl
      refine hK.out _ _ ⟨(O0.out.below (below_alloc (Below.refl _ _) _)).c0, (O0.out.below (below_alloc (Below.refl _ _) _)).c1, Kd.C_string (P := Try.prog) (A := A) (c := c) Try.underlying25 Try.underlying5 Try.underlying9 (Kd.C_below HC.out (below_alloc BD.out _))⟩ (fun hHeld => ?_)
      clear hK K
      refine norm_ (a' := ?_) ?_ ?_
      rotate_left
      · show Act.put _ (some 7) _ = _
        simp only [Act.put, List.setIfInBounds_toArray, List.set_cons_zero, List.set_cons_succ, i64_w, i32_w]
        rfl
      refine one_ (i := 7) (N := some 11) #[true, true, true, true, true, true, true, true, false, false] rfl rfl (by kernel_rfl) (by decide) (fun K hK => ?_)
      refine goes_ Try.func56 (by kernel_rfl) rfl #[.string (strOfNums ys)] (by rfl) rfl rfl (by simp only [List.map_toArray, List.map_cons, List.map_nil]; rfl) ?_
      with_reducible refine (rtext56 (strOfNums ys) (by rw [NS.out]; have := HL.out; omega) _).mono ?_
      rintro e w6 ⟨v6, rfl, h1, h2⟩
      refine ⟨_, rfl, ?_⟩
      rw [NS.out, BS.out] at h1
      have R6 := Aside0.mk h1
      have L6 := Aside0.mk (Kd.R_below (lit_R V.drew (t % 256)) h2)
      have N6 := Aside0.mk (ne_symm (nerow_R h1 (lit_R V.drew (t % 256))))
      have O6 := Aside0.mk (O0.out.below ((below_alloc (Below.refl _ _) _).trans (h2.mono (by simp))))
      have B6 := Aside0.mk (below_then (below_alloc BD.out (.cells #[.int .u8 (t % 256)] 5)) (below_alloc BD.out (.cells #[.int .u8 (t % 256)] 5)).size h2)
      clear h1 h2
      refine hK.out _ _ ⟨O6.out.c0, O6.out.c1, Kd.C_string (P := Try.prog) (A := A) (c := c) Try.underlying25 Try.underlying5 Try.underlying9 (Kd.C_below HC.out B6.out)⟩ (fun hHeld => ?_)
      clear hK K
      refine norm_ (a' := ?_) ?_ ?_
      rotate_left
      · show Act.put _ (some 11) _ = _
        simp only [Act.put, List.setIfInBounds_toArray, List.set_cons_zero, List.set_cons_succ, i64_w, i32_w]
        rfl
      exact norm_ (by simp only [putAll, Act.put, List.setIfInBounds_toArray, List.set_cons_zero, List.set_cons_succ]) (hCont (.slice (some ⟨V.heap.size, 0, none⟩) 1 1, v6) _ ⟨Kd.R_lower L6.out BD.out.size, Kd.R_lower R6.out (by have := BD.out.size; simp at this ⊢; omega), N6.out, B6.out, O6.out⟩)
    · skip
      refine goes_ Try.func56 (by kernel_rfl) rfl #[.string (strOfNums ys)] (by rfl) rfl rfl (by simp only [List.map_toArray, List.map_cons, List.map_nil]; rfl) ?_
      with_reducible refine (rtext56 (strOfNums ys) (by rw [NS.out]; have := HL.out; omega) _).mono ?_
      rintro e w5 ⟨v5, rfl, h1, h2⟩
      refine ⟨_, rfl, ?_⟩
      rw [NS.out, BS.out] at h1
      have R5 := Aside0.mk h1
      have O5 := Aside0.mk (O0.out.below h2)
      have B5 := Aside0.mk (below_then BD.out BD.out.size h2)
      clear h1 h2
      refine hK.out _ _ ⟨O5.out.c0, O5.out.c1, Kd.C_string (P := Try.prog) (A := A) (c := c) Try.underlying25 Try.underlying5 Try.underlying9 (Kd.C_below HC.out B5.out)⟩ (fun hHeld => ?_)
      clear hK K
      refine norm_ (a' := ?_) ?_ ?_
      rotate_left
      · show Act.put _ (some 11) _ = _
        simp only [Act.put, List.setIfInBounds_toArray, List.set_cons_zero, List.set_cons_succ, i64_w, i32_w]
        rfl
      refine one_ (i := 3) (N := some 7) #[true, true, true, true, true, true, true, true, false, false] rfl rfl (by kernel_rfl) (by decide) (fun K hK => ?_)
      refine value_ (w1 := ?_) (v := ?_) (by rfl) rfl ?_ ?_
      rotate_left 2
      · go_simp
        constructor
        · rfl
        · rfl
      refine hK.out _ _ ⟨(O5.out.below (below_alloc (Below.refl _ _) _)).c0, (O5.out.below (below_alloc (Below.refl _ _) _)).c1, Kd.C_string (P := Try.prog) (A := A) (c := c) Try.underlying25 Try.underlying5 Try.underlying9 (Kd.C_below HC.out (below_alloc B5.out _))⟩ (fun hHeld => ?_)
      clear hK K
      refine norm_ (a' := ?_) ?_ ?_
      rotate_left
      · show Act.put _ (some 7) _ = _
        simp only [Act.put, List.setIfInBounds_toArray, List.set_cons_zero, List.set_cons_succ, i64_w, i32_w]
        rfl
      exact norm_ (by simp only [putAll, Act.put, List.setIfInBounds_toArray, List.set_cons_zero, List.set_cons_succ]) (hCont (.slice (some ⟨w5.heap.size, 0, none⟩) 1 1, v5) _ ⟨Kd.R_lower (lit_R w5 (t % 256)) B5.out.size, Kd.R_lower (Kd.R_below R5.out (below_alloc (Below.refl _ _) _)) BD.out.size, nerow_R (lit_R w5 (t % 256)) R5.out, below_alloc B5.out _, O5.out.below (below_alloc (Below.refl _ _) _)⟩)
  rintro ⟨s7, s11⟩ w8 ⟨h1, h2, h3, h4, h5⟩
  have hHeld : w8.cell? ⟨w.heap.size, 0, none⟩ = some (.int .i64 t) ∧ w8.cell? ⟨w.heap.size, 1, none⟩ = some (.slice A ys.length c) ∧ Sem.run Try.prog (convert 25 9 (.slice A ys.length c)) w8 = .ok (.string (strOfNums ys)) w8 := ⟨h5.c0, h5.c1, Kd.C_string (P := Try.prog) (A := A) (c := c) Try.underlying25 Try.underlying5 Try.underlying9 (Kd.C_below HC.out h4)⟩
  obtain ⟨A8, c8, rfl, hc8, hC8⟩ := Kd.R_reads h2
  have R8 := Aside0.mk h1
  have C8 := Aside0.mk hC8
  have B8 := Aside0.mk h4
  have O8 := Aside0.mk h5
  clear h1 h2 h3 h4 h5 hc8 hC8
  refine norm_ (a' := ?_) ?_ ?_
  rotate_left
  · simp only [putAll, Act.put, List.setIfInBounds_toArray, List.set_cons_zero, List.set_cons_succ]
    rfl
  refine one_ (i := 8) (N := some 12) #[true, true, true, true, true, true, true, true, true, false] rfl rfl (by kernel_rfl) (by decide) (fun K hK => ?_)
  refine Kd.R_append_rows_step (Kd.int .u8) (w0 := w) w.heap.size (by rfl) (.tmp 7) (.tmp 11) 25 5 (.int .u8 0) 1 rfl Try.underlying25 info5 rfl (by decide) (by omega) _ [t % 256] (putN 9 ys.length ++ ys) A8 (putN 9 ys.length ++ ys).length c8 (fun _ => True) (fun _ => False) rfl rfl R8.out C8.out (fun _ _ h => h) (fun _ h => h.elim) (fun _ _ => trivial) B8.out B8.out.size (by have := HL.out; have := HP.out; simp; omega) ?_
  intro v9 w9 h1 h2 h3 h4
  have R9 := Aside0.mk (show (Kd.int .u8).R 5 w9 w.heap.size (fun _ => True) v9 (preB t ys) from h1)
  have B9 := Aside0.mk h2
  have O9 := Aside0.mk (show SBox w9 w.heap.size t A ys.length c from ⟨(h3.block _ (blk_lt O8.out.blk) (Kd.R_ne R8.out O8.out.blk (by decide))).trans O8.out.blk⟩)
  obtain ⟨A9, c9, rfl, hc9, hC9⟩ := Kd.R_reads R9.out
  have C9 := Aside0.mk hC9
  have c9l := Aside0.mk hc9
  clear h1 h2 h3 h4 hC9 hc9
  refine hK.out _ _ ⟨O9.out.c0, O9.out.c1, Kd.C_string (P := Try.prog) (A := A) (c := c) Try.underlying25 Try.underlying5 Try.underlying9 (Kd.C_below HC.out B9.out)⟩ (fun hHeld => ?_)
  clear hK K
  refine norm_ (a' := ?_) ?_ ?_
  rotate_left
  · show Act.put _ (some 12) _ = _
    simp only [Act.put, List.setIfInBounds_toArray, List.set_cons_zero, List.set_cons_succ, i64_w, i32_w]
    rfl
  refine pure_ (i := 9) (N := some 3) (v := ?_) (a' := ?_) #[true, true, true, true, true, true, true, true, true, true] rfl rfl (by kernel_rfl) (fun _ _ _ h => h) (Or.inl ⟨by rfl, ?_⟩) ?_ ?_
  rotate_left
  · intro w'
    go_simp
    with_reducible rfl
  rotate_left
  · simp only [Act.put, List.setIfInBounds_toArray, List.set_cons_zero, List.set_cons_succ, i64_w, i32_w]
    rfl
  refine done_ (by kernel_rfl) ?_
  go_wp2_with (first
    | (go_at_call 20; (with_reducible refine (Crc.rsum_calls C9.out c9l.out (preB_range t HB.out HL.out) (by rw [preB_length]; have := HL.out; have := HP.out; omega)).mono ?_); rintro e w10 ⟨rfl, h1⟩; have R10 := Aside0.mk (Kd.R_below R9.out h1.below); have B10 := Aside0.mk (below_then B9.out B9.out.size h1.below); clear h1)
    | (go_at_call 19; refine (Leb.rword_calls (sumI (preB t ys)) _ (sumI_range _)).mono ?_; rintro e w11 ⟨v11, rfl, h1, h2⟩; obtain ⟨A11, c11, rfl, hc11, hC11⟩ := Kd.R_reads h1; have C11 := Aside0.mk hC11; have R11 := Aside0.mk (Kd.R_below R10.out h2); have B11 := Aside0.mk (below_then B10.out B10.out.size h2); clear h1 h2 hc11 hC11)
    | (at_builtin; refine Kd.R_append_rows (Kd.int .u8) (w0 := w) w.heap.size rfl (.tmp 13) (.tmp 16) 25 5 (.int .u8 0) 1 rfl Try.underlying25 info5 rfl (by decide) (by omega) _ (preB t ys) (wordN (sumI (preB t ys))) A11 _ c11 (fun _ => True) (fun _ => False) rfl rfl R11.out C11.out (fun _ _ h => h) (fun _ h => h.elim) (fun _ _ => trivial) B11.out B11.out.size (by rw [preB_length]; have := HL.out; have := HP.out; simp [wordN]; omega) ?_; intro v12 w12 h1 h2 h3 h4; have R12 := Aside0.mk (show (Kd.int .u8).R 5 w12 w.heap.size (fun _ => True) v12 (secB t ys) from h1); have B12 := Aside0.mk h2; clear h1 h2 h3 h4))
  go_ret
  exact ⟨_, rfl, R12.out, B12.out⟩
end Go.Proofs.Ytnohflfpahokiaa.Sec
