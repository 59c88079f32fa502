/- lex.Tokens, walked. -/
import Derived.Test.YtdgholodogcemaaTok0
set_option linter.unusedVariables false
set_option linter.unusedSimpArgs false
set_option maxRecDepth 20000
namespace Go.Proofs.Ytdgholodogcemaa.Lex
open Go Go.RowKit Go.Proofs.YtdgholodogcemaaW.PrintWords Go.Proofs.YtdgholodogcemaaW.PrintLast
open Go.Proofs.Ytdgholodogcemaa.PAll (S36 k36)

/-- blocks of cells stay -/
def CellsStay (w w' : World) : Prop := w.heap.size ≤ w'.heap.size ∧ ∀ (k : Nat) (cells : Array Value) (t : TypeId) (m : Nat × Nat), w.heap[k]? = some (.cells cells t m) → w'.heap[k]? = some (.cells cells t m)
theorem R_cells {w w' : World} {α : Type} {d : Kd α} {e base : Nat} {ok : Nat → Prop} {v : Value} {xs : List α} (h : d.R e w base ok v xs) (hk : CellsStay w w') : d.R e w' base ok v xs :=
  Kd.R_mono (Kd.R_move (Kd.R_bound h) (fun k hb => by obtain ⟨_, _, _, q, _, cells, hc⟩ := hb; exact (hk.2 k cells q _ hc).trans hc.symm)) (fun _ hk => hk.1)
theorem Lx.cells {w w' : World} {g base : Nat} {vo : Value} {out : List S36} {li co tk tl tc : Int} {tx : ByteArray} {p v : Value} (L : Lx w g base vo out li co tk tl tc tx p v) (h : CellsStay w w') : Lx w' g base vo out li co tk tl tc tx p v := ⟨h.2 _ _ _ _ L.blk, R_cells L.row h, L.low, Nat.le_trans L.size h.1⟩
theorem LDm.cells {m : M} {w w' : World} {g base : Nat} (h : LDm m w g base) (hk : CellsStay w w') : LDm m w' g base := by
  refine ⟨fun hs => ?_, ?_⟩
  · obtain ⟨vo, tx, p, v, L, W⟩ := h.1 hs
    exact ⟨vo, tx, p, v, L.cells hk, W.1, R_cells W.2 hk⟩
  · obtain ⟨vo, tk, tl, tc, tx, p, v, L⟩ := h.2
    exact ⟨vo, tk, tl, tc, tx, p, v, L.cells hk⟩
theorem cells_iterAt {w : World} {k : Nat} {s : ByteArray} {pos : Nat} (hk : w.heap[k]? = some (.stringIter s pos)) (q : Nat) : CellsStay w (w.iterAt k s q) := by
  refine ⟨Nat.le_of_eq (Lib.iterAt_size w k s q).symm, fun j cells t m hj => ?_⟩
  rw [Lib.iterAt_other w k j s q (fun e => by rw [e, hk] at hj; cases hj)]
  exact hj
/-- a column further on -/
theorem LDm.col {m : M} {w : World} {g base : Nat} (h : LDm m w g base) (hb : base ≤ g) : LDm (nextM m) (w.setCell ⟨g, 2, none⟩ (.int .i64 (m.co + 1))) g base := by
  refine ⟨fun hs => ?_, ?_⟩
  · obtain ⟨vo, tx, p, v, L, W⟩ := h.1 hs
    exact ⟨vo, tx, p, v, ⟨blk_set L.blk 2 _, row_set (cs := #[]) L.row _, L.low, by simpa using L.size⟩, W.1, Kd.R_far W.2 (fun k hk => hk) _⟩
  · obtain ⟨vo, tk, tl, tc, tx, p, v, L⟩ := h.2
    exact ⟨vo, tk, tl, tc, tx, p, v, ⟨blk_set L.blk 2 _, row_set (cs := #[]) L.row _, L.low, by simpa using L.size⟩⟩
theorem bytesN_drop {s : ByteArray} {pos : Nat} (h : pos < s.size) : (bytesN s).drop pos = (s[pos]'h).toNat :: (bytesN s).drop (pos + 1) := by
  have hl : pos < (bytesN s).length := by unfold bytesN; rw [List.length_map]; simpa using h
  rw [List.drop_eq_getElem_cons hl]
  have e : (bytesN s)[pos]'hl = (s[pos]'h).toNat := by
    simp only [bytesN, List.getElem_map]
    rfl
  rw [e]
theorem bytesN_end {s : ByteArray} {pos : Nat} (h : ¬ pos < s.size) : (bytesN s).drop pos = [] := by
  refine List.drop_eq_nil_of_le ?_
  unfold bytesN
  rw [List.length_map]
  have : s.data.toList.length = s.size := by simp
  omega
theorem eql_func (w : World) (fn : Fn) (a b : Array Value) : (binOp .eql 47 (.func fn a b) .nilFunc).run Try.prog w = .ok (.bool false) w := by
  have h : ∀ d : Nat, (Op.equalIn (d + 1) 47 (.func fn a b) .nilFunc).run Try.prog w = .ok false w := fun d => by
    simp [Op.equalIn, run_underlying Try.underlying47]
  simp only [binOp]
  simp [Op.equal, Op.maxDepth, h 9999]
theorem eql_nilFunc (w : World) : (binOp .eql 47 .nilFunc .nilFunc).run Try.prog w = .ok (.bool true) w := by
  have h : ∀ d : Nat, (Op.equalIn (d + 1) 47 .nilFunc .nilFunc).run Try.prog w = .ok true w := fun d => by
    simp [Op.equalIn, run_underlying Try.underlying47]
  simp only [binOp]
  simp [Op.equal, Op.maxDepth, h 9999]
def TPost (r : List S36 × Int × Int × Int) (w : World) (e : Ending) (w' : World) : Prop := (∃ v : Value, e = .returned (.tuple #[v, .int .i64 r.2.1, .int .i64 r.2.2.1, .int .i64 r.2.2.2]) ∧ Kd.R k36 36 w' w.heap.size (fun _ => True) v r.1) ∧ Below w.heap.size w w'
set_option maxHeartbeats 8000000 in
theorem tokens_calls (s : ByteArray) (w : World) (hs0 : s.size ≤ 140737488351232) : Calls Try.prog 9 #[.string s] w (TPost (tokensM s) w) := by
  by_cases hs : 1048576 < s.size
  · have d1 : decide ((1048576 : Int) < (s.size : Int)) = true := decide_eq_true (by omega)
    have d1n : decide (1048576 < s.size) = true := decide_eq_true hs
    have e : tokensM s = ([], 0, 0, 3) := by unfold tokensM; rw [if_pos hs]
    rw [e]
    clear hs hs0 e
    go_enter Try.func9, Try.ntmps9
    go_wp2
    (try simp only [Exit.inBlock, Exit.then]); refine bodyPost_ret (results_list (rs := [.tmp 2, .tmp 3, .tmp 4, .tmp 5]) rfl (by simp) (.tmp (.tmp (.tmp (.tmp .nil))))) rfl ?_
    exact ⟨⟨_, rfl, Kd.R_nil _ _ _ _ _⟩, Below.refl _ _⟩
  have d1 : decide ((1048576 : Int) < (s.size : Int)) = false := decide_eq_false (by omega)
  have d1n : decide (1048576 < s.size) = false := decide_eq_false hs
  have e : tokensM s = runM (bytesN s) M0 := by unfold tokensM; rw [if_neg hs]
  rw [e]
  have HS := Aside0.mk (show s.size ≤ 1048576 by omega)
  have hu45 := Try.underlying45
  have hE1 := eql_func
  have hE2 := eql_nilFunc
  clear hs hs0 e
  go_enter Try.func9, Try.ntmps9
  go_wp2
  go_loopg [7] s.size (fun gk v7 w' => ∃ (pos : Nat) (m : M) (n : Nat), v7 = .func (.func n) #[] #[] ∧ Aside0 (gk = s.size - pos ∧ pos ≤ s.size) ∧ Aside0 (fnOk n m.st) ∧ Aside0 (m.Good pos) ∧ Aside0 (LDm m w' w.heap.size w.heap.size) ∧ Aside0 (w'.heap[w.heap.size + 1]? = some (.stringIter s pos)) ∧ Aside0 (Below w.heap.size w w') ∧ Aside0 (runM (bytesN s) M0 = runM ((bytesN s).drop pos) m))
  case atStart =>
    refine ⟨0, M0, 19, rfl, ⟨by omega, Nat.zero_le _⟩, ⟨.inl ⟨rfl, .inl rfl⟩⟩, ⟨⟨by decide, by decide, ⟨by decide, fun x hx => by cases hx⟩, by decide, by decide⟩⟩, ⟨LDm.closed ⟨.slice none 0 0, 0, 0, 0, ⟨#[]⟩, .pointer none, .slice none 0 0, ?_, Kd.R_nil _ _ _ _ _, Nat.le_refl _, (((Below.refl _ w).alloc (Nat.le_refl _) _).alloc (by simp) _).size⟩ (.inl rfl)⟩, ⟨?_⟩, ⟨((Below.refl _ w).alloc (Nat.le_refl _) _).alloc (by simp) _⟩, ⟨rfl⟩⟩
    · exact blk_alloc (blk_new w _) _
    · have := World.iter_heap (w.alloc (.cells #[.slice none 0 0, .int .i64 1, .int .i64 1, .int .i64 0, .int .i64 0, .int .i64 0, .string ⟨#[]⟩, .pointer none, .slice none 0 0] 45)) s 0
      simpa using this
  case round =>
    obtain ⟨pos, m, n, rfl, HGK, HFN, HG, HL, HIT, HBl, HEQ⟩ := hrel
    have hit := HIT.out
    have HN6 := Aside0.mk (show n = 19 ∨ n = 31 ∨ n = 38 ∨ n = 36 ∨ n = 44 ∨ n = 43 by have h := HFN.out; unfold fnOk at h; omega)
    by_cases hp : pos < s.size
    · have HP := Aside0.mk hp
      have HBK := Aside0.mk (show Below w.heap.size w (wr.iterAt (w.heap.size + 1) s (pos + 1)) from Lib.below_iterAt HBl.out (by omega) s _)
      by_cases ha : (s[pos]'hp).toNat < 128
      · have hnx : ∀ ty, (Instr.next (.pointer (some ⟨w.heap.size + 1, 0, none⟩)) true ty).run Try.prog wr = _ := fun ty => Lib.run_next_ascii_at wr (w.heap.size + 1) s pos ty hit hp ha
        obtain ⟨c, hc⟩ : ∃ c, (s[pos]'hp).toNat = c := ⟨_, rfl⟩
        rw [hc] at ha hnx
        have HC := Aside0.mk ha
        have HDR := Aside0.mk (show (bytesN s).drop pos = c :: (bytesN s).drop (pos + 1) by rw [bytesN_drop hp, hc])
        obtain ⟨W2, hW2⟩ : ∃ W, wr.iterAt (w.heap.size + 1) s (pos + 1) = W := ⟨_, rfl⟩
        have L2 := Aside0.mk (show LDm m W2 w.heap.size w.heap.size by rw [← hW2]; exact HL.out.cells (cells_iterAt hit _))
        have IT2 := Aside0.mk (show W2.heap[w.heap.size + 1]? = some (.stringIter s (pos + 1)) by rw [← hW2]; exact Lib.iterAt_heap wr _ s pos _ hit)
        rw [hW2] at HBK hnx
        clear hit ha hc hW2 hp
        cases hst : stepM m c with
        | some m' =>
          have HST := Aside0.mk hst
          have HGS := Aside0.mk (good_step HG.out HC.out hst)
          have hw : wrap64 (m'.co + 1) = m'.co + 1 := w64i (by have h1 := HGS.out.2; have h2 := HGK.out; have h3 := HS.out; have h4 := HP.out; omega)
          clear hst
          rcases HN6.out with rfl | rfl | rfl | rfl | rfl | rfl
          all_goals
            go_wp2_with (first
              | (go_at_call 19; (with_reducible refine (step_any HG.out (by have := HS.out; have := HP.out; omega) HFN.out L2.out HC.out HST.out).mono ?_); rintro e w3 ⟨⟨n3, rfl, h0⟩, h1, h2, h3⟩; have FN3 := Aside0.mk h0; have L3 := Aside0.mk h1; have IT3 := Aside0.mk (h2 _ _ _ IT2.out); have B3 := Aside0.mk (HBK.out.trans h3); obtain ⟨vo, tk, tl, tc, tx, p, v, hL⟩ := h1.2; have q2 := hL.c 2 rfl; have f2 := hL.f 2; have HLX := Aside0.mk hL; clear h0 h1 h2 h3 hL)
              | (go_at_call 31; (with_reducible refine (step_any HG.out (by have := HS.out; have := HP.out; omega) HFN.out L2.out HC.out HST.out).mono ?_); rintro e w3 ⟨⟨n3, rfl, h0⟩, h1, h2, h3⟩; have FN3 := Aside0.mk h0; have L3 := Aside0.mk h1; have IT3 := Aside0.mk (h2 _ _ _ IT2.out); have B3 := Aside0.mk (HBK.out.trans h3); obtain ⟨vo, tk, tl, tc, tx, p, v, hL⟩ := h1.2; have q2 := hL.c 2 rfl; have f2 := hL.f 2; have HLX := Aside0.mk hL; clear h0 h1 h2 h3 hL)
              | (go_at_call 38; (with_reducible refine (step_any HG.out (by have := HS.out; have := HP.out; omega) HFN.out L2.out HC.out HST.out).mono ?_); rintro e w3 ⟨⟨n3, rfl, h0⟩, h1, h2, h3⟩; have FN3 := Aside0.mk h0; have L3 := Aside0.mk h1; have IT3 := Aside0.mk (h2 _ _ _ IT2.out); have B3 := Aside0.mk (HBK.out.trans h3); obtain ⟨vo, tk, tl, tc, tx, p, v, hL⟩ := h1.2; have q2 := hL.c 2 rfl; have f2 := hL.f 2; have HLX := Aside0.mk hL; clear h0 h1 h2 h3 hL)
              | (go_at_call 36; (with_reducible refine (step_any HG.out (by have := HS.out; have := HP.out; omega) HFN.out L2.out HC.out HST.out).mono ?_); rintro e w3 ⟨⟨n3, rfl, h0⟩, h1, h2, h3⟩; have FN3 := Aside0.mk h0; have L3 := Aside0.mk h1; have IT3 := Aside0.mk (h2 _ _ _ IT2.out); have B3 := Aside0.mk (HBK.out.trans h3); obtain ⟨vo, tk, tl, tc, tx, p, v, hL⟩ := h1.2; have q2 := hL.c 2 rfl; have f2 := hL.f 2; have HLX := Aside0.mk hL; clear h0 h1 h2 h3 hL)
              | (go_at_call 44; (with_reducible refine (step_any HG.out (by have := HS.out; have := HP.out; omega) HFN.out L2.out HC.out HST.out).mono ?_); rintro e w3 ⟨⟨n3, rfl, h0⟩, h1, h2, h3⟩; have FN3 := Aside0.mk h0; have L3 := Aside0.mk h1; have IT3 := Aside0.mk (h2 _ _ _ IT2.out); have B3 := Aside0.mk (HBK.out.trans h3); obtain ⟨vo, tk, tl, tc, tx, p, v, hL⟩ := h1.2; have q2 := hL.c 2 rfl; have f2 := hL.f 2; have HLX := Aside0.mk hL; clear h0 h1 h2 h3 hL)
              | (go_at_call 43; (with_reducible refine (step_any HG.out (by have := HS.out; have := HP.out; omega) HFN.out L2.out HC.out HST.out).mono ?_); rintro e w3 ⟨⟨n3, rfl, h0⟩, h1, h2, h3⟩; have FN3 := Aside0.mk h0; have L3 := Aside0.mk h1; have IT3 := Aside0.mk (h2 _ _ _ IT2.out); have B3 := Aside0.mk (HBK.out.trans h3); obtain ⟨vo, tk, tl, tc, tx, p, v, hL⟩ := h1.2; have q2 := hL.c 2 rfl; have f2 := hL.f 2; have HLX := Aside0.mk hL; clear h0 h1 h2 h3 hL))
            go_roundg (s.size - (pos + 1))
            case measure => have := HGK.out; have := HP.out; omega
            case rel =>
              refine ⟨pos + 1, nextM m', n3, rfl, ⟨rfl, HP.out⟩, FN3, ⟨HGS.out.1⟩, ⟨?_⟩, ⟨(IterStay.set _ HLX.out.blk) _ _ _ IT3.out⟩, ⟨?_⟩, ⟨?_⟩⟩
              · first | exact L3.out.col (Nat.le_refl _) | (rw [← hw]; exact L3.out.col (Nat.le_refl _))
              · exact B3.out.setCell (Nat.le_refl _) _
              · rw [HEQ.out, HDR.out]
                conv => lhs; unfold runM
                rw [HST.out]
        | none =>
          have HST := Aside0.mk hst
          clear hst
          obtain ⟨vo, tk, tl, tc, tx, p, v, hL⟩ := L2.out.2
          have HLX := Aside0.mk hL
          have q1 := hL.drew.c 1 rfl
          have q2 := hL.drew.c 2 rfl
          clear hL
          rcases HN6.out with rfl | rfl | rfl | rfl | rfl | rfl
          all_goals
            go_wp2_with (first
              | (go_at_call 19; (with_reducible refine (none_any HFN.out HST.out _).mono ?_); rintro e w3 ⟨rfl, rfl⟩)
              | (go_at_call 31; (with_reducible refine (none_any HFN.out HST.out _).mono ?_); rintro e w3 ⟨rfl, rfl⟩)
              | (go_at_call 38; (with_reducible refine (none_any HFN.out HST.out _).mono ?_); rintro e w3 ⟨rfl, rfl⟩)
              | (go_at_call 36; (with_reducible refine (none_any HFN.out HST.out _).mono ?_); rintro e w3 ⟨rfl, rfl⟩)
              | (go_at_call 44; (with_reducible refine (none_any HFN.out HST.out _).mono ?_); rintro e w3 ⟨rfl, rfl⟩)
              | (go_at_call 43; (with_reducible refine (none_any HFN.out HST.out _).mono ?_); rintro e w3 ⟨rfl, rfl⟩))
            refine start_ (n := 12) (S := fun w' => w'.cell? ⟨w.heap.size, 1, none⟩ = some (.int .i64 m.li) ∧ w'.cell? ⟨w.heap.size, 2, none⟩ = some (.int .i64 m.co)) (ds := []) #[false, false, false, false, false, false, false, false, false, false, false, false] (by kernel_rfl) rfl rfl ⟨q1, q2⟩ (fun hHeld => ?_)
            refine pure_ (i := 0) (N := some 26) (v := ?_) (a' := ?_) #[true, false, false, false, false, false, false, false, false, false, false, false] rfl rfl (by kernel_rfl) (fun _ _ _ h => h) (Or.inl ⟨by rfl, ?_⟩) ?_ ?_
            rotate_left
            · intro w'
              go_simp
              with_reducible rfl
            rotate_left
            · simp only [Act.put, List.setIfInBounds_toArray, List.set_cons_zero, List.set_cons_succ, i64_w, i32_w]
              rfl
            refine pure_ (i := 1) (N := some 27) (v := ?_) (a' := ?_) #[true, true, false, false, false, false, false, false, false, false, false, false] rfl rfl (by kernel_rfl) (fun _ _ _ h => h) (Or.inl ⟨by rfl, ?_⟩) ?_ ?_
            rotate_left
            · intro w'
              go_simp
              with_reducible rfl
            rotate_left
            · simp only [Act.put, List.setIfInBounds_toArray, List.set_cons_zero, List.set_cons_succ, i64_w, i32_w]
              rfl
            refine pure_ (i := 2) (N := some 28) (v := ?_) (a' := ?_) #[true, true, true, false, false, false, false, false, false, false, false, false] rfl rfl (by kernel_rfl) (fun _ _ _ h => h) (Or.inl ⟨by rfl, ?_⟩) ?_ ?_
            rotate_left
            · intro w'
              go_simp
              with_reducible rfl
            rotate_left
            · simp only [Act.put, List.setIfInBounds_toArray, List.set_cons_zero, List.set_cons_succ, i64_w, i32_w]
              rfl
            refine pure_ (i := 4) (N := some 30) (v := ?_) (a' := ?_) #[true, true, true, false, true, false, false, false, false, false, false, false] rfl rfl (by kernel_rfl) (fun _ _ _ h => h) (Or.inl ⟨by rfl, ?_⟩) ?_ ?_
            rotate_left
            · intro w'
              go_simp
              with_reducible rfl
            rotate_left
            · simp only [Act.put, List.setIfInBounds_toArray, List.set_cons_zero, List.set_cons_succ, i64_w, i32_w]
              rfl
            refine pure_ (i := 5) (N := some 31) (v := ?_) (a' := ?_) #[true, true, true, false, true, true, false, false, false, false, false, false] rfl rfl (by kernel_rfl) (fun _ _ _ h => h) (Or.inl ⟨by rfl, ?_⟩) ?_ ?_
            rotate_left
            · intro w'
              go_simp
              with_reducible rfl
            rotate_left
            · simp only [Act.put, List.setIfInBounds_toArray, List.set_cons_zero, List.set_cons_succ, i64_w, i32_w]
              rfl
            refine pure_ (i := 6) (N := some 32) (v := ?_) (a' := ?_) #[true, true, true, false, true, true, true, false, false, false, false, false] rfl rfl (by kernel_rfl) (fun _ _ _ h => h) (Or.inl ⟨by rfl, ?_⟩) ?_ ?_
            rotate_left
            · intro w'
              go_simp
              with_reducible rfl
            rotate_left
            · simp only [Act.put, List.setIfInBounds_toArray, List.set_cons_zero, List.set_cons_succ, i64_w, i32_w]
              rfl
            refine pure_ (i := 8) (N := some 2) (v := ?_) (a' := ?_) #[true, true, true, false, true, true, true, false, true, false, false, false] rfl rfl (by kernel_rfl) (fun _ _ _ h => h) (Or.inl ⟨by rfl, ?_⟩) ?_ ?_
            rotate_left
            · intro w'
              go_simp
              with_reducible rfl
            rotate_left
            · simp only [Act.put, List.setIfInBounds_toArray, List.set_cons_zero, List.set_cons_succ, i64_w, i32_w]
              rfl
            refine take_ (i := 3) (N := some 29) (v := ?_) (a' := ?_) #[true, true, true, true, true, true, true, false, true, false, false, false] rfl rfl (by kernel_rfl) (fun _ _ _ h => h) (Or.inl ⟨by rfl, ?_⟩) hHeld ?_ ?_
            rotate_left
            · rintro w' ⟨s0, s1⟩
              go_simp
              with_reducible rfl
            rotate_left
            · simp only [Act.put, List.setIfInBounds_toArray, List.set_cons_zero, List.set_cons_succ, i64_w, i32_w]
              rfl
            refine pure_ (i := 9) (N := some 3) (v := ?_) (a' := ?_) #[true, true, true, true, true, true, true, false, true, true, false, false] rfl rfl (by kernel_rfl) (fun _ _ _ h => h) (Or.inl ⟨by rfl, ?_⟩) ?_ ?_
            rotate_left
            · intro w'
              go_simp
              with_reducible rfl
            rotate_left
            · simp only [Act.put, List.setIfInBounds_toArray, List.set_cons_zero, List.set_cons_succ, i64_w, i32_w]
              rfl
            refine take_ (i := 7) (N := some 33) (v := ?_) (a' := ?_) #[true, true, true, true, true, true, true, true, true, true, false, false] rfl rfl (by kernel_rfl) (fun _ _ _ h => h) (Or.inl ⟨by rfl, ?_⟩) hHeld ?_ ?_
            rotate_left
            · rintro w' ⟨s0, s1⟩
              go_simp
              with_reducible rfl
            rotate_left
            · simp only [Act.put, List.setIfInBounds_toArray, List.set_cons_zero, List.set_cons_succ, i64_w, i32_w]
              rfl
            refine pure_ (i := 10) (N := some 4) (v := ?_) (a' := ?_) #[true, true, true, true, true, true, true, true, true, true, true, false] rfl rfl (by kernel_rfl) (fun _ _ _ h => h) (Or.inl ⟨by rfl, ?_⟩) ?_ ?_
            rotate_left
            · intro w'
              go_simp
              with_reducible rfl
            rotate_left
            · simp only [Act.put, List.setIfInBounds_toArray, List.set_cons_zero, List.set_cons_succ, i64_w, i32_w]
              rfl
            refine pure_ (i := 11) (N := some 5) (v := ?_) (a' := ?_) #[true, true, true, true, true, true, true, true, true, true, true, true] rfl rfl (by kernel_rfl) (fun _ _ _ h => h) (Or.inl ⟨by rfl, ?_⟩) ?_ ?_
            rotate_left
            · intro w'
              go_simp
              with_reducible rfl
            rotate_left
            · simp only [Act.put, List.setIfInBounds_toArray, List.set_cons_zero, List.set_cons_succ, i64_w, i32_w]
              rfl
            refine done_ (by kernel_rfl) ?_
            go_wp2
            (try simp only [Exit.inBlock, Exit.then]); refine bodyPost_ret (results_list (rs := [.tmp 2, .tmp 3, .tmp 4, .tmp 5]) rfl (by simp) (.tmp (.tmp (.tmp (.tmp .nil))))) rfl ?_
            rw [HEQ.out, HDR.out]
            unfold runM
            rw [HST.out]
            exact ⟨⟨_, rfl, Kd.R_nil _ _ _ _ _⟩, HBK.out.drew⟩
      · have hd := decode_high s pos hp (by omega)
        have hnx : ∀ ty, (Instr.next (.pointer (some ⟨w.heap.size + 1, 0, none⟩)) true ty).run Try.prog wr = _ := fun ty => Lib.run_next_any_at wr (w.heap.size + 1) s pos ty hit hp
        obtain ⟨c, hc⟩ : ∃ c, (Utf8.decode s pos).1 = c := ⟨_, rfl⟩
        obtain ⟨d, hdd⟩ : ∃ c, (Utf8.decode s pos).2 = c := ⟨_, rfl⟩
        rw [hc, hdd] at hnx
        rw [hc] at hd
        have HST := Aside0.mk (step_hi hd.1 m)
        have HRES := Aside0.mk (show runM (bytesN s) M0 = ([], m.li, m.co, 230) by
          rw [HEQ.out, bytesN_drop hp]
          unfold runM
          rw [step_hi (by omega)])
        have HBK2 := Aside0.mk (show Below w.heap.size w (wr.iterAt (w.heap.size + 1) s (pos + d)) from Lib.below_iterAt HBl.out (by omega) s _)
        obtain ⟨W2, hW2⟩ : ∃ W, wr.iterAt (w.heap.size + 1) s (pos + d) = W := ⟨_, rfl⟩
        have L2 := Aside0.mk (show LDm m W2 w.heap.size w.heap.size by rw [← hW2]; exact HL.out.cells (cells_iterAt hit _))
        rw [hW2] at HBK2 hnx
        clear hit ha hc hW2 hp hd hdd HBK
        obtain ⟨vo, tk, tl, tc, tx, p, v, hL⟩ := L2.out.2
        have HLX := Aside0.mk hL
        have q1 := hL.drew.c 1 rfl
        have q2 := hL.drew.c 2 rfl
        clear hL
        rcases HN6.out with rfl | rfl | rfl | rfl | rfl | rfl
        all_goals
          go_wp2_with (first
            | (go_at_call 19; (with_reducible refine (none_any HFN.out HST.out _).mono ?_); rintro e w3 ⟨rfl, rfl⟩)
            | (go_at_call 31; (with_reducible refine (none_any HFN.out HST.out _).mono ?_); rintro e w3 ⟨rfl, rfl⟩)
            | (go_at_call 38; (with_reducible refine (none_any HFN.out HST.out _).mono ?_); rintro e w3 ⟨rfl, rfl⟩)
            | (go_at_call 36; (with_reducible refine (none_any HFN.out HST.out _).mono ?_); rintro e w3 ⟨rfl, rfl⟩)
            | (go_at_call 44; (with_reducible refine (none_any HFN.out HST.out _).mono ?_); rintro e w3 ⟨rfl, rfl⟩)
            | (go_at_call 43; (with_reducible refine (none_any HFN.out HST.out _).mono ?_); rintro e w3 ⟨rfl, rfl⟩))
          refine start_ (n := 12) (S := fun w' => w'.cell? ⟨w.heap.size, 1, none⟩ = some (.int .i64 m.li) ∧ w'.cell? ⟨w.heap.size, 2, none⟩ = some (.int .i64 m.co)) (ds := []) #[false, false, false, false, false, false, false, false, false, false, false, false] (by kernel_rfl) rfl rfl ⟨q1, q2⟩ (fun hHeld => ?_)
          refine pure_ (i := 0) (N := some 26) (v := ?_) (a' := ?_) #[true, false, false, false, false, false, false, false, false, false, false, false] rfl rfl (by kernel_rfl) (fun _ _ _ h => h) (Or.inl ⟨by rfl, ?_⟩) ?_ ?_
          rotate_left
          · intro w'
            go_simp
            with_reducible rfl
          rotate_left
          · simp only [Act.put, List.setIfInBounds_toArray, List.set_cons_zero, List.set_cons_succ, i64_w, i32_w]
            rfl
          refine pure_ (i := 1) (N := some 27) (v := ?_) (a' := ?_) #[true, true, false, false, false, false, false, false, false, false, false, false] rfl rfl (by kernel_rfl) (fun _ _ _ h => h) (Or.inl ⟨by rfl, ?_⟩) ?_ ?_
          rotate_left
          · intro w'
            go_simp
            with_reducible rfl
          rotate_left
          · simp only [Act.put, List.setIfInBounds_toArray, List.set_cons_zero, List.set_cons_succ, i64_w, i32_w]
            rfl
          refine pure_ (i := 2) (N := some 28) (v := ?_) (a' := ?_) #[true, true, true, false, false, false, false, false, false, false, false, false] rfl rfl (by kernel_rfl) (fun _ _ _ h => h) (Or.inl ⟨by rfl, ?_⟩) ?_ ?_
          rotate_left
          · intro w'
            go_simp
            with_reducible rfl
          rotate_left
          · simp only [Act.put, List.setIfInBounds_toArray, List.set_cons_zero, List.set_cons_succ, i64_w, i32_w]
            rfl
          refine pure_ (i := 4) (N := some 30) (v := ?_) (a' := ?_) #[true, true, true, false, true, false, false, false, false, false, false, false] rfl rfl (by kernel_rfl) (fun _ _ _ h => h) (Or.inl ⟨by rfl, ?_⟩) ?_ ?_
          rotate_left
          · intro w'
            go_simp
            with_reducible rfl
          rotate_left
          · simp only [Act.put, List.setIfInBounds_toArray, List.set_cons_zero, List.set_cons_succ, i64_w, i32_w]
            rfl
          refine pure_ (i := 5) (N := some 31) (v := ?_) (a' := ?_) #[true, true, true, false, true, true, false, false, false, false, false, false] rfl rfl (by kernel_rfl) (fun _ _ _ h => h) (Or.inl ⟨by rfl, ?_⟩) ?_ ?_
          rotate_left
          · intro w'
            go_simp
            with_reducible rfl
          rotate_left
          · simp only [Act.put, List.setIfInBounds_toArray, List.set_cons_zero, List.set_cons_succ, i64_w, i32_w]
            rfl
          refine pure_ (i := 6) (N := some 32) (v := ?_) (a' := ?_) #[true, true, true, false, true, true, true, false, false, false, false, false] rfl rfl (by kernel_rfl) (fun _ _ _ h => h) (Or.inl ⟨by rfl, ?_⟩) ?_ ?_
          rotate_left
          · intro w'
            go_simp
            with_reducible rfl
          rotate_left
          · simp only [Act.put, List.setIfInBounds_toArray, List.set_cons_zero, List.set_cons_succ, i64_w, i32_w]
            rfl
          refine pure_ (i := 8) (N := some 2) (v := ?_) (a' := ?_) #[true, true, true, false, true, true, true, false, true, false, false, false] rfl rfl (by kernel_rfl) (fun _ _ _ h => h) (Or.inl ⟨by rfl, ?_⟩) ?_ ?_
          rotate_left
          · intro w'
            go_simp
            with_reducible rfl
          rotate_left
          · simp only [Act.put, List.setIfInBounds_toArray, List.set_cons_zero, List.set_cons_succ, i64_w, i32_w]
            rfl
          refine take_ (i := 3) (N := some 29) (v := ?_) (a' := ?_) #[true, true, true, true, true, true, true, false, true, false, false, false] rfl rfl (by kernel_rfl) (fun _ _ _ h => h) (Or.inl ⟨by rfl, ?_⟩) hHeld ?_ ?_
          rotate_left
          · rintro w' ⟨s0, s1⟩
            go_simp
            with_reducible rfl
          rotate_left
          · simp only [Act.put, List.setIfInBounds_toArray, List.set_cons_zero, List.set_cons_succ, i64_w, i32_w]
            rfl
          refine pure_ (i := 9) (N := some 3) (v := ?_) (a' := ?_) #[true, true, true, true, true, true, true, false, true, true, false, false] rfl rfl (by kernel_rfl) (fun _ _ _ h => h) (Or.inl ⟨by rfl, ?_⟩) ?_ ?_
          rotate_left
          · intro w'
            go_simp
            with_reducible rfl
          rotate_left
          · simp only [Act.put, List.setIfInBounds_toArray, List.set_cons_zero, List.set_cons_succ, i64_w, i32_w]
            rfl
          refine take_ (i := 7) (N := some 33) (v := ?_) (a' := ?_) #[true, true, true, true, true, true, true, true, true, true, false, false] rfl rfl (by kernel_rfl) (fun _ _ _ h => h) (Or.inl ⟨by rfl, ?_⟩) hHeld ?_ ?_
          rotate_left
          · rintro w' ⟨s0, s1⟩
            go_simp
            with_reducible rfl
          rotate_left
          · simp only [Act.put, List.setIfInBounds_toArray, List.set_cons_zero, List.set_cons_succ, i64_w, i32_w]
            rfl
          refine pure_ (i := 10) (N := some 4) (v := ?_) (a' := ?_) #[true, true, true, true, true, true, true, true, true, true, true, false] rfl rfl (by kernel_rfl) (fun _ _ _ h => h) (Or.inl ⟨by rfl, ?_⟩) ?_ ?_
          rotate_left
          · intro w'
            go_simp
            with_reducible rfl
          rotate_left
          · simp only [Act.put, List.setIfInBounds_toArray, List.set_cons_zero, List.set_cons_succ, i64_w, i32_w]
            rfl
          refine pure_ (i := 11) (N := some 5) (v := ?_) (a' := ?_) #[true, true, true, true, true, true, true, true, true, true, true, true] rfl rfl (by kernel_rfl) (fun _ _ _ h => h) (Or.inl ⟨by rfl, ?_⟩) ?_ ?_
          rotate_left
          · intro w'
            go_simp
            with_reducible rfl
          rotate_left
          · simp only [Act.put, List.setIfInBounds_toArray, List.set_cons_zero, List.set_cons_succ, i64_w, i32_w]
            rfl
          refine done_ (by kernel_rfl) ?_
          go_wp2
          (try simp only [Exit.inBlock, Exit.then]); refine bodyPost_ret (results_list (rs := [.tmp 2, .tmp 3, .tmp 4, .tmp 5]) rfl (by simp) (.tmp (.tmp (.tmp (.tmp .nil))))) rfl ?_
          rw [HRES.out]
          exact ⟨⟨_, rfl, Kd.R_nil _ _ _ _ _⟩, HBK2.out.drew⟩
    · have hnx : ∀ ty, (Instr.next (.pointer (some ⟨w.heap.size + 1, 0, none⟩)) true ty).run Try.prog wr = _ := fun ty => Lib.run_next_end_at wr (w.heap.size + 1) s pos ty hit hp
      have HRES := Aside0.mk (show runM (bytesN s) M0 = if m.co ≠ 1 then ([], m.li, m.co, 230) else (m.out, m.li - 1, 0, 0) by
        rw [HEQ.out, bytesN_end hp]
        rfl)
      obtain ⟨vo, tk, tl, tc, tx, p, v, hL⟩ := HL.out.2
      have HLX := Aside0.mk hL
      have q1 := hL.drew.c 1 rfl
      have q2 := hL.drew.c 2 rfl
      have r2 := hL.c 2 rfl
      clear hit hp hL
      by_cases h1 : m.co = 1
      · have b1 : (m.co != 1) = false := by rw [h1]; rfl
        have H1 := Aside0.mk h1
        have hw : wrap64 (m.li - 1) = m.li - 1 := by have h := HG.out.li; have h2 := HGK.out; have h3 := HS.out; unfold wrap64; omega
        obtain ⟨A0, c0, hv0⟩ := Kd.R_slice HLX.out.row
        have q0 := HLX.out.drew.c 0 rfl
        rw [hv0] at q0
        have HV0 := Aside0.mk hv0
        clear h1 hv0
        go_wp2
        refine start_ (n := 13) (S := fun w' => w'.cell? ⟨w.heap.size, 0, none⟩ = some (.slice A0 m.out.length c0) ∧ w'.cell? ⟨w.heap.size, 1, none⟩ = some (.int .i64 m.li)) (ds := []) #[false, false, false, false, false, false, false, false, false, false, false, false, false] (by kernel_rfl) rfl rfl ⟨q0, q1⟩ (fun hHeld => ?_)
        refine pure_ (i := 0) (N := some 54) (v := ?_) (a' := ?_) #[true, false, false, false, false, false, false, false, false, false, false, false, false] rfl rfl (by kernel_rfl) (fun _ _ _ h => h) (Or.inl ⟨by rfl, ?_⟩) ?_ ?_
        rotate_left
        · intro w'
          go_simp
          with_reducible rfl
        rotate_left
        · simp only [Act.put, List.setIfInBounds_toArray, List.set_cons_zero, List.set_cons_succ, i64_w, i32_w]
          rfl
        refine pure_ (i := 1) (N := some 55) (v := ?_) (a' := ?_) #[true, true, false, false, false, false, false, false, false, false, false, false, false] rfl rfl (by kernel_rfl) (fun _ _ _ h => h) (Or.inl ⟨by rfl, ?_⟩) ?_ ?_
        rotate_left
        · intro w'
          go_simp
          with_reducible rfl
        rotate_left
        · simp only [Act.put, List.setIfInBounds_toArray, List.set_cons_zero, List.set_cons_succ, i64_w, i32_w]
          rfl
        refine pure_ (i := 2) (N := some 56) (v := ?_) (a' := ?_) #[true, true, true, false, false, false, false, false, false, false, false, false, false] rfl rfl (by kernel_rfl) (fun _ _ _ h => h) (Or.inl ⟨by rfl, ?_⟩) ?_ ?_
        rotate_left
        · intro w'
          go_simp
          with_reducible rfl
        rotate_left
        · simp only [Act.put, List.setIfInBounds_toArray, List.set_cons_zero, List.set_cons_succ, i64_w, i32_w]
          rfl
        refine pure_ (i := 4) (N := some 58) (v := ?_) (a' := ?_) #[true, true, true, false, true, false, false, false, false, false, false, false, false] rfl rfl (by kernel_rfl) (fun _ _ _ h => h) (Or.inl ⟨by rfl, ?_⟩) ?_ ?_
        rotate_left
        · intro w'
          go_simp
          with_reducible rfl
        rotate_left
        · simp only [Act.put, List.setIfInBounds_toArray, List.set_cons_zero, List.set_cons_succ, i64_w, i32_w]
          rfl
        refine pure_ (i := 5) (N := some 59) (v := ?_) (a' := ?_) #[true, true, true, false, true, true, false, false, false, false, false, false, false] rfl rfl (by kernel_rfl) (fun _ _ _ h => h) (Or.inl ⟨by rfl, ?_⟩) ?_ ?_
        rotate_left
        · intro w'
          go_simp
          with_reducible rfl
        rotate_left
        · simp only [Act.put, List.setIfInBounds_toArray, List.set_cons_zero, List.set_cons_succ, i64_w, i32_w]
          rfl
        refine pure_ (i := 6) (N := some 60) (v := ?_) (a' := ?_) #[true, true, true, false, true, true, true, false, false, false, false, false, false] rfl rfl (by kernel_rfl) (fun _ _ _ h => h) (Or.inl ⟨by rfl, ?_⟩) ?_ ?_
        rotate_left
        · intro w'
          go_simp
          with_reducible rfl
        rotate_left
        · simp only [Act.put, List.setIfInBounds_toArray, List.set_cons_zero, List.set_cons_succ, i64_w, i32_w]
          rfl
        refine take_ (i := 3) (N := some 57) (v := ?_) (a' := ?_) #[true, true, true, true, true, true, true, false, false, false, false, false, false] rfl rfl (by kernel_rfl) (fun _ _ _ h => h) (Or.inl ⟨by rfl, ?_⟩) hHeld ?_ ?_
        rotate_left
        · rintro w' ⟨s0, s1⟩
          go_simp
          with_reducible rfl
        rotate_left
        · simp only [Act.put, List.setIfInBounds_toArray, List.set_cons_zero, List.set_cons_succ, i64_w, i32_w]
          rfl
        refine pure_ (i := 9) (N := some 2) (v := ?_) (a' := ?_) #[true, true, true, true, true, true, true, false, false, true, false, false, false] rfl rfl (by kernel_rfl) (fun _ _ _ h => h) (Or.inl ⟨by rfl, ?_⟩) ?_ ?_
        rotate_left
        · intro w'
          go_simp
          with_reducible rfl
        rotate_left
        · simp only [Act.put, List.setIfInBounds_toArray, List.set_cons_zero, List.set_cons_succ, i64_w, i32_w]
          rfl
        refine take_ (i := 7) (N := some 61) (v := ?_) (a' := ?_) #[true, true, true, true, true, true, true, true, false, true, false, false, false] rfl rfl (by kernel_rfl) (fun _ _ _ h => h) (Or.inl ⟨by rfl, ?_⟩) hHeld ?_ ?_
        rotate_left
        · rintro w' ⟨s0, s1⟩
          go_simp
          with_reducible rfl
        rotate_left
        · simp only [Act.put, List.setIfInBounds_toArray, List.set_cons_zero, List.set_cons_succ, i64_w, i32_w]
          rfl
        refine pure_ (i := 8) (N := some 62) (v := ?_) (a' := ?_) #[true, true, true, true, true, true, true, true, true, true, false, false, false] rfl rfl (by kernel_rfl) (fun _ _ _ h => h) (Or.inl ⟨by rfl, ?_⟩) ?_ ?_
        rotate_left
        · intro w'
          go_simp
          with_reducible rfl
        rotate_left
        · simp only [Act.put, List.setIfInBounds_toArray, List.set_cons_zero, List.set_cons_succ, i64_w, i32_w]
          rfl
        refine pure_ (i := 10) (N := some 3) (v := ?_) (a' := ?_) #[true, true, true, true, true, true, true, true, true, true, true, false, false] rfl rfl (by kernel_rfl) (fun _ _ _ h => h) (Or.inl ⟨by rfl, ?_⟩) ?_ ?_
        rotate_left
        · intro w'
          go_simp
          with_reducible rfl
        rotate_left
        · simp only [Act.put, List.setIfInBounds_toArray, List.set_cons_zero, List.set_cons_succ, i64_w, i32_w]
          rfl
        refine pure_ (i := 11) (N := some 4) (v := ?_) (a' := ?_) #[true, true, true, true, true, true, true, true, true, true, true, true, false] rfl rfl (by kernel_rfl) (fun _ _ _ h => h) (Or.inl ⟨by rfl, ?_⟩) ?_ ?_
        rotate_left
        · intro w'
          go_simp
          with_reducible rfl
        rotate_left
        · simp only [Act.put, List.setIfInBounds_toArray, List.set_cons_zero, List.set_cons_succ, i64_w, i32_w]
          rfl
        refine pure_ (i := 12) (N := some 5) (v := ?_) (a' := ?_) #[true, true, true, true, true, true, true, true, true, true, true, true, true] rfl rfl (by kernel_rfl) (fun _ _ _ h => h) (Or.inl ⟨by rfl, ?_⟩) ?_ ?_
        rotate_left
        · intro w'
          go_simp
          with_reducible rfl
        rotate_left
        · simp only [Act.put, List.setIfInBounds_toArray, List.set_cons_zero, List.set_cons_succ, i64_w, i32_w]
          rfl
        refine done_ (by kernel_rfl) ?_
        go_wp2
        (try simp only [Exit.inBlock, Exit.then]); refine bodyPost_ret (results_list (rs := [.tmp 2, .tmp 3, .tmp 4, .tmp 5]) rfl (by simp) (.tmp (.tmp (.tmp (.tmp .nil))))) rfl ?_
        rw [HRES.out, if_neg (fun h => h H1.out)]
        exact ⟨⟨_, by first | rfl | rw [hw], Kd.R_mono (Kd.R_drew (by have h_ := HLX.out.row; rw [HV0.out] at h_; exact h_)) (fun _ _ => trivial)⟩, HBl.out.drew⟩
      · have b1 : (m.co != 1) = true := bne_iff_ne.mpr h1
        have H1 := Aside0.mk h1
        clear h1
        go_wp2
        refine start_ (n := 12) (S := fun w' => w'.cell? ⟨w.heap.size, 1, none⟩ = some (.int .i64 m.li) ∧ w'.cell? ⟨w.heap.size, 2, none⟩ = some (.int .i64 m.co)) (ds := []) #[false, false, false, false, false, false, false, false, false, false, false, false] (by kernel_rfl) rfl rfl ⟨q1, q2⟩ (fun hHeld => ?_)
        refine pure_ (i := 0) (N := some 46) (v := ?_) (a' := ?_) #[true, false, false, false, false, false, false, false, false, false, false, false] rfl rfl (by kernel_rfl) (fun _ _ _ h => h) (Or.inl ⟨by rfl, ?_⟩) ?_ ?_
        rotate_left
        · intro w'
          go_simp
          with_reducible rfl
        rotate_left
        · simp only [Act.put, List.setIfInBounds_toArray, List.set_cons_zero, List.set_cons_succ, i64_w, i32_w]
          rfl
        refine pure_ (i := 1) (N := some 47) (v := ?_) (a' := ?_) #[true, true, false, false, false, false, false, false, false, false, false, false] rfl rfl (by kernel_rfl) (fun _ _ _ h => h) (Or.inl ⟨by rfl, ?_⟩) ?_ ?_
        rotate_left
        · intro w'
          go_simp
          with_reducible rfl
        rotate_left
        · simp only [Act.put, List.setIfInBounds_toArray, List.set_cons_zero, List.set_cons_succ, i64_w, i32_w]
          rfl
        refine pure_ (i := 2) (N := some 48) (v := ?_) (a' := ?_) #[true, true, true, false, false, false, false, false, false, false, false, false] rfl rfl (by kernel_rfl) (fun _ _ _ h => h) (Or.inl ⟨by rfl, ?_⟩) ?_ ?_
        rotate_left
        · intro w'
          go_simp
          with_reducible rfl
        rotate_left
        · simp only [Act.put, List.setIfInBounds_toArray, List.set_cons_zero, List.set_cons_succ, i64_w, i32_w]
          rfl
        refine pure_ (i := 4) (N := some 50) (v := ?_) (a' := ?_) #[true, true, true, false, true, false, false, false, false, false, false, false] rfl rfl (by kernel_rfl) (fun _ _ _ h => h) (Or.inl ⟨by rfl, ?_⟩) ?_ ?_
        rotate_left
        · intro w'
          go_simp
          with_reducible rfl
        rotate_left
        · simp only [Act.put, List.setIfInBounds_toArray, List.set_cons_zero, List.set_cons_succ, i64_w, i32_w]
          rfl
        refine pure_ (i := 5) (N := some 51) (v := ?_) (a' := ?_) #[true, true, true, false, true, true, false, false, false, false, false, false] rfl rfl (by kernel_rfl) (fun _ _ _ h => h) (Or.inl ⟨by rfl, ?_⟩) ?_ ?_
        rotate_left
        · intro w'
          go_simp
          with_reducible rfl
        rotate_left
        · simp only [Act.put, List.setIfInBounds_toArray, List.set_cons_zero, List.set_cons_succ, i64_w, i32_w]
          rfl
        refine pure_ (i := 6) (N := some 52) (v := ?_) (a' := ?_) #[true, true, true, false, true, true, true, false, false, false, false, false] rfl rfl (by kernel_rfl) (fun _ _ _ h => h) (Or.inl ⟨by rfl, ?_⟩) ?_ ?_
        rotate_left
        · intro w'
          go_simp
          with_reducible rfl
        rotate_left
        · simp only [Act.put, List.setIfInBounds_toArray, List.set_cons_zero, List.set_cons_succ, i64_w, i32_w]
          rfl
        refine pure_ (i := 8) (N := some 2) (v := ?_) (a' := ?_) #[true, true, true, false, true, true, true, false, true, false, false, false] rfl rfl (by kernel_rfl) (fun _ _ _ h => h) (Or.inl ⟨by rfl, ?_⟩) ?_ ?_
        rotate_left
        · intro w'
          go_simp
          with_reducible rfl
        rotate_left
        · simp only [Act.put, List.setIfInBounds_toArray, List.set_cons_zero, List.set_cons_succ, i64_w, i32_w]
          rfl
        refine take_ (i := 3) (N := some 49) (v := ?_) (a' := ?_) #[true, true, true, true, true, true, true, false, true, false, false, false] rfl rfl (by kernel_rfl) (fun _ _ _ h => h) (Or.inl ⟨by rfl, ?_⟩) hHeld ?_ ?_
        rotate_left
        · rintro w' ⟨s0, s1⟩
          go_simp
          with_reducible rfl
        rotate_left
        · simp only [Act.put, List.setIfInBounds_toArray, List.set_cons_zero, List.set_cons_succ, i64_w, i32_w]
          rfl
        refine pure_ (i := 9) (N := some 3) (v := ?_) (a' := ?_) #[true, true, true, true, true, true, true, false, true, true, false, false] rfl rfl (by kernel_rfl) (fun _ _ _ h => h) (Or.inl ⟨by rfl, ?_⟩) ?_ ?_
        rotate_left
        · intro w'
          go_simp
          with_reducible rfl
        rotate_left
        · simp only [Act.put, List.setIfInBounds_toArray, List.set_cons_zero, List.set_cons_succ, i64_w, i32_w]
          rfl
        refine take_ (i := 7) (N := some 53) (v := ?_) (a' := ?_) #[true, true, true, true, true, true, true, true, true, true, false, false] rfl rfl (by kernel_rfl) (fun _ _ _ h => h) (Or.inl ⟨by rfl, ?_⟩) hHeld ?_ ?_
        rotate_left
        · rintro w' ⟨s0, s1⟩
          go_simp
          with_reducible rfl
        rotate_left
        · simp only [Act.put, List.setIfInBounds_toArray, List.set_cons_zero, List.set_cons_succ, i64_w, i32_w]
          rfl
        refine pure_ (i := 10) (N := some 4) (v := ?_) (a' := ?_) #[true, true, true, true, true, true, true, true, true, true, true, false] rfl rfl (by kernel_rfl) (fun _ _ _ h => h) (Or.inl ⟨by rfl, ?_⟩) ?_ ?_
        rotate_left
        · intro w'
          go_simp
          with_reducible rfl
        rotate_left
        · simp only [Act.put, List.setIfInBounds_toArray, List.set_cons_zero, List.set_cons_succ, i64_w, i32_w]
          rfl
        refine pure_ (i := 11) (N := some 5) (v := ?_) (a' := ?_) #[true, true, true, true, true, true, true, true, true, true, true, true] rfl rfl (by kernel_rfl) (fun _ _ _ h => h) (Or.inl ⟨by rfl, ?_⟩) ?_ ?_
        rotate_left
        · intro w'
          go_simp
          with_reducible rfl
        rotate_left
        · simp only [Act.put, List.setIfInBounds_toArray, List.set_cons_zero, List.set_cons_succ, i64_w, i32_w]
          rfl
        refine done_ (by kernel_rfl) ?_
        go_wp2
        (try simp only [Exit.inBlock, Exit.then]); refine bodyPost_ret (results_list (rs := [.tmp 2, .tmp 3, .tmp 4, .tmp 5]) rfl (by simp) (.tmp (.tmp (.tmp (.tmp .nil))))) rfl ?_
        rw [HRES.out, if_pos H1.out]
        exact ⟨⟨_, rfl, Kd.R_nil _ _ _ _ _⟩, HBl.out.drew⟩
end Go.Proofs.Ytdgholodogcemaa.Lex
