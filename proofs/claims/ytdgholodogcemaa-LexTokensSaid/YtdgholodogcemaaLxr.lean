/- A lexer: what is told of it, and the walks of its methods. -/
import Derived.Test.YtdgholodogcemaaPAllx0
import Derived.Test.YtdgholodogcemaaBld
set_option linter.unusedVariables false
set_option linter.unusedSimpArgs false
set_option maxRecDepth 20000
namespace Go.Proofs.Ytdgholodogcemaa.Lex
open Go Go.RowKit Go.Proofs.YtdgholodogcemaaW.PrintWords Go.Proofs.YtdgholodogcemaaW.PrintLast
open Go.Proofs.Ytdgholodogcemaa.PAll (S36 k36 z36 k36_mkM info36)

/-- a lexer at block g: its tokens so far, its line, its column, the token that is read, its builder -/
structure Lx (w : World) (g base : Nat) (vo : Value) (out : List S36) (li co tk tl tc : Int) (tx : ByteArray) (p v : Value) : Prop where
  blk : w.heap[g]? = some (.cells #[vo, .int .i64 li, .int .i64 co, .int .i64 tk, .int .i64 tl, .int .i64 tc, .string tx, p, v] 45 (0, 0))
  row : Kd.R k36 36 w base (fun k => k ≠ g) vo out
  low : base ≤ g
  size : base ≤ w.heap.size
/-- where a range goes on: it stays -/
def IterStay (w w' : World) : Prop := ∀ (k : Nat) (s : ByteArray) (pos : Nat), w.heap[k]? = some (.stringIter s pos) → w'.heap[k]? = some (.stringIter s pos)
theorem IterStay.refl (w : World) : IterStay w w := fun _ _ _ h => h
theorem IterStay.trans {w w1 w2 : World} (h : IterStay w w1) (k : IterStay w1 w2) : IterStay w w2 := fun a s p e => k a s p (h a s p e)
theorem IterStay.of_keep {w w' : World} {g : Nat} {row : Option Nat} {cs : Array Value} {T : TypeId} {m : Nat × Nat} (hk : KeepBut w w' g row) (hg : w.heap[g]? = some (.cells cs T m)) (hr : ∀ q, row = some q → ∃ cells t m, w.heap[q]? = some (.cells cells t m)) : IterStay w w' := by
  intro k s pos h
  have hlt : k < w.heap.size := (Array.getElem?_eq_some_iff.1 h).1
  refine (hk.2 k hlt ?_ ?_).trans h
  · rintro rfl
    rw [hg] at h
    cases h
  · rintro he
    obtain ⟨c, t, m, hc⟩ := hr k he.symm
    rw [hc] at h
    cases h
theorem IterStay.of_others {w w' : World} {row : Option Nat} (hk : OthersStay w w' row) (hr : ∀ q, row = some q → ∃ cells t m, w.heap[q]? = some (.cells cells t m)) : IterStay w w' := by
  intro k s pos h
  have hlt : k < w.heap.size := (Array.getElem?_eq_some_iff.1 h).1
  refine (hk.2 k hlt ?_).trans h
  rintro he
  obtain ⟨c, t, m, hc⟩ := hr k he.symm
  rw [hc] at h
  cases h
theorem IterStay.of_grown {w w' : World} {row : Option Nat} (hk : w.grownBy w' row) (hr : ∀ q, row = some q → ∃ cells t m, w.heap[q]? = some (.cells cells t m)) : IterStay w w' :=
  IterStay.of_others ⟨hk.size, fun k h1 h2 => hk.block k h1 h2⟩ hr
theorem IterStay.of_below {w w' : World} (h : Below w.heap.size w w') : IterStay w w' := fun k s pos e => (h.block k (Array.getElem?_eq_some_iff.1 e).1).trans e
theorem IterStay.set {w : World} {g i : Nat} {cs : Array Value} {T : TypeId} {m : Nat × Nat} (u : Value) (hg : w.heap[g]? = some (.cells cs T m)) : IterStay w (w.setCell ⟨g, i, none⟩ u) :=
  IterStay.of_keep (g := g) (row := none) ((KeepBut.refl w g none).set_ i u) hg (fun q h => by cases h)
section
variable {w w' : World} {g base : Nat} {vo : Value} {out : List S36} {li co tk tl tc : Int} {tx : ByteArray} {p v : Value}
theorem Lx.c (L : Lx w g base vo out li co tk tl tc tx p v) (i : Nat) {u : Value} (h : #[vo, .int .i64 li, .int .i64 co, .int .i64 tk, .int .i64 tl, .int .i64 tc, .string tx, p, v][i]? = some u) : w.cell? ⟨g, i, none⟩ = some u := (blk_cell L.blk i).trans h
theorem Lx.f (L : Lx w g base vo out li co tk tl tc tx p v) (i : Nat) : w.frozen? ⟨g, i, none⟩ = false := blk_frozen L.blk i
theorem Lx.lt (L : Lx w g base vo out li co tk tl tc tx p v) : g < w.heap.size := blk_lt L.blk
theorem Lx.drew (L : Lx w g base vo out li co tk tl tc tx p v) : Lx w.drew g base vo out li co tk tl tc tx p v := ⟨blk_drew L.blk, Kd.R_drew L.row, L.low, L.size⟩
theorem Lx.below (L : Lx w g base vo out li co tk tl tc tx p v) (h : Below w.heap.size w w') : Lx w' g base vo out li co tk tl tc tx p v := ⟨blk_below L.blk h, Kd.R_below L.row h, L.low, Nat.le_trans L.size h.size⟩
/-- another block than the tokens' own may go on as it likes -/
theorem row_ne (L : Lx w g base vo out li co tk tl tc tx p v) {k : Nat} {cells : Array Value} {T : TypeId} (hk : w.heap[k]? = some (.cells cells T (0, 0))) (hT : (36 : Nat) ≠ T) : some k ≠ vo.ownBlock := Kd.R_ne L.row hk hT
theorem types36 {q : Nat} (h : q ∈ (36 : Nat) :: (k36).E) : q = 36 := by simpa [k36, Kd.iso, Kd.pair, Kd.int, Kd.scalar, Kd.string] using h
end
/-- a store into the lexer's own block -/
theorem row_set {w : World} {g base i : Nat} {vo : Value} {out : List S36} {cs : Array Value} (h : Kd.R k36 36 w base (fun k => k ≠ g) vo out) (u : Value) : Kd.R k36 36 (w.setCell ⟨g, i, none⟩ u) base (fun k => k ≠ g) vo out := Kd.R_far h (fun k hk => hk) u
/-- the bytes of a token that is read -/
def Wr (w : World) (g base : Nat) (p v : Value) (xs : List Int) : Prop := (p = .pointer none ∨ p = selfX g) ∧ (Kd.int .u8).R 5 w base (fun k => k ≠ g) v xs
/-- a lexer within a token, and one that is in none -/
def LDo (w : World) (g base : Nat) (out : List S36) (li co tk tl tc : Int) (xs : List Int) : Prop := ∃ vo tx p v, Lx w g base vo out li co tk tl tc tx p v ∧ Wr w g base p v xs
def LDc (w : World) (g base : Nat) (out : List S36) (li co : Int) : Prop := ∃ vo tk tl tc tx p v, Lx w g base vo out li co tk tl tc tx p v
theorem LDo.close {w : World} {g base : Nat} {out : List S36} {li co tk tl tc : Int} {xs : List Int} (h : LDo w g base out li co tk tl tc xs) : LDc w g base out li co := by
  obtain ⟨vo, tx, p, v, h, _⟩ := h
  exact ⟨vo, tk, tl, tc, tx, p, v, h⟩
theorem Wr.bld {w : World} {g base : Nat} {vo : Value} {out : List S36} {li co tk tl tc : Int} {tx : ByteArray} {p v : Value} {xs : List Int} (L : Lx w g base vo out li co tk tl tc tx p v) (h : Wr w g base p v xs) : BldX w vo li co tk tl tc tx g base v xs :=
  ⟨p, h.1, L.blk, h.2, L.low, L.size⟩

set_option maxHeartbeats 4000000 in
theorem begin_calls {w : World} {g base : Nat} {out : List S36} {li co : Int} (h : LDc w g base out li co) (kd : Int) :
    Calls Try.prog 35 #[.pointer (some ⟨g, 0, none⟩), .int .i64 kd] w fun e w' => e = .returned (.tuple #[]) ∧ LDo w' g base out li co kd li co [] ∧ IterStay w w' ∧ Below base w w' := by
  obtain ⟨vo, tk, tl, tc, tx, p, v, hL⟩ := h
  have L := Aside0.mk hL
  have LD := Aside0.mk hL.drew
  have q1 := LD.out.c 1 rfl
  have q2 := LD.out.c 2 rfl
  have q3 := L.out.c 3 rfl
  have q4 := L.out.c 4 rfl
  have q5 := L.out.c 5 rfl
  have q6 := L.out.c 6 rfl
  have f3 := L.out.f 3
  have f4 := L.out.f 4
  have f5 := L.out.f 5
  have f6 := L.out.f 6
  have hu36 := Try.underlying36
  clear hL
  go_enter Try.func35, Try.ntmps35
  go_wp2
  refine start_ (n := 14) (S := fun w' => w'.cell? ⟨g, 1, none⟩ = some (.int .i64 li) ∧ w'.cell? ⟨g, 2, none⟩ = some (.int .i64 co)) (ds := [13]) #[false, false, false, false, false, false, false, false, false, false, false, false, false, false] (by kernel_rfl) rfl rfl ⟨q1, q2⟩ (fun hHeld => ?_)
  refine pure_ (i := 0) (N := some 4) (v := ?_) (a' := ?_) #[true, false, false, false, false, false, false, false, false, false, false, false, false, false] rfl rfl (by kernel_rfl) (fun _ _ _ h => h) (Or.inl ⟨by rfl, ?_⟩) ?_ ?_
  rotate_left
  · intro w'
    go_simp
    with_reducible rfl
  rotate_left
  · simp only [Act.put, List.setIfInBounds_toArray, List.set_cons_zero, List.set_cons_succ, i64_w, i32_w]
    rfl
  refine pure_ (i := 1) (N := some 5) (v := ?_) (a' := ?_) #[true, true, false, false, false, false, false, false, false, false, false, false, false, false] rfl rfl (by kernel_rfl) (fun _ _ _ h => h) (Or.inl ⟨by rfl, ?_⟩) ?_ ?_
  rotate_left
  · intro w'
    go_simp
    with_reducible rfl
  rotate_left
  · simp only [Act.put, List.setIfInBounds_toArray, List.set_cons_zero, List.set_cons_succ, i64_w, i32_w]
    rfl
  refine pure_ (i := 2) (N := some 6) (v := ?_) (a' := ?_) #[true, true, true, false, false, false, false, false, false, false, false, false, false, false] rfl rfl (by kernel_rfl) (fun _ _ _ h => h) (Or.inl ⟨by rfl, ?_⟩) ?_ ?_
  rotate_left
  · intro w'
    go_simp
    with_reducible rfl
  rotate_left
  · simp only [Act.put, List.setIfInBounds_toArray, List.set_cons_zero, List.set_cons_succ, i64_w, i32_w]
    rfl
  refine pure_ (i := 3) (N := some 7) (v := ?_) (a' := ?_) #[true, true, true, true, false, false, false, false, false, false, false, false, false, false] rfl rfl (by kernel_rfl) (fun _ _ _ h => h) (Or.inl ⟨by rfl, ?_⟩) ?_ ?_
  rotate_left
  · intro w'
    go_simp
    with_reducible rfl
  rotate_left
  · simp only [Act.put, List.setIfInBounds_toArray, List.set_cons_zero, List.set_cons_succ, i64_w, i32_w]
    rfl
  refine pure_ (i := 4) (N := some 8) (v := ?_) (a' := ?_) #[true, true, true, true, true, false, false, false, false, false, false, false, false, false] rfl rfl (by kernel_rfl) (fun _ _ _ h => h) (Or.inl ⟨by rfl, ?_⟩) ?_ ?_
  rotate_left
  · intro w'
    go_simp
    with_reducible rfl
  rotate_left
  · simp only [Act.put, List.setIfInBounds_toArray, List.set_cons_zero, List.set_cons_succ, i64_w, i32_w]
    rfl
  refine pure_ (i := 6) (N := some 10) (v := ?_) (a' := ?_) #[true, true, true, true, true, false, true, false, false, false, false, false, false, false] rfl rfl (by kernel_rfl) (fun _ _ _ h => h) (Or.inl ⟨by rfl, ?_⟩) ?_ ?_
  rotate_left
  · intro w'
    go_simp
    with_reducible rfl
  rotate_left
  · simp only [Act.put, List.setIfInBounds_toArray, List.set_cons_zero, List.set_cons_succ, i64_w, i32_w]
    rfl
  refine pure_ (i := 7) (N := some 11) (v := ?_) (a' := ?_) #[true, true, true, true, true, false, true, true, false, false, false, false, false, false] rfl rfl (by kernel_rfl) (fun _ _ _ h => h) (Or.inl ⟨by rfl, ?_⟩) ?_ ?_
  rotate_left
  · intro w'
    go_simp
    with_reducible rfl
  rotate_left
  · simp only [Act.put, List.setIfInBounds_toArray, List.set_cons_zero, List.set_cons_succ, i64_w, i32_w]
    rfl
  refine pure_ (i := 8) (N := some 12) (v := ?_) (a' := ?_) #[true, true, true, true, true, false, true, true, true, false, false, false, false, false] rfl rfl (by kernel_rfl) (fun _ _ _ h => h) (Or.inl ⟨by rfl, ?_⟩) ?_ ?_
  rotate_left
  · intro w'
    go_simp
    with_reducible rfl
  rotate_left
  · simp only [Act.put, List.setIfInBounds_toArray, List.set_cons_zero, List.set_cons_succ, i64_w, i32_w]
    rfl
  refine take_ (i := 5) (N := some 9) (v := ?_) (a' := ?_) #[true, true, true, true, true, true, true, true, true, false, false, false, false, false] rfl rfl (by kernel_rfl) (fun _ _ _ h => h) (Or.inl ⟨by rfl, ?_⟩) hHeld ?_ ?_
  rotate_left
  · rintro w' ⟨s0, s1⟩
    go_simp
    with_reducible rfl
  rotate_left
  · simp only [Act.put, List.setIfInBounds_toArray, List.set_cons_zero, List.set_cons_succ, i64_w, i32_w]
    rfl
  refine take_ (i := 9) (N := some 13) (v := ?_) (a' := ?_) #[true, true, true, true, true, true, true, true, true, true, false, false, false, false] rfl rfl (by kernel_rfl) (fun _ _ _ h => h) (Or.inl ⟨by rfl, ?_⟩) hHeld ?_ ?_
  rotate_left
  · rintro w' ⟨s0, s1⟩
    go_simp
    with_reducible rfl
  rotate_left
  · simp only [Act.put, List.setIfInBounds_toArray, List.set_cons_zero, List.set_cons_succ, i64_w, i32_w]
    rfl
  refine pure_ (i := 10) (N := some 14) (v := ?_) (a' := ?_) #[true, true, true, true, true, true, true, true, true, true, true, false, false, false] rfl rfl (by kernel_rfl) (fun _ _ _ h => h) (Or.inl ⟨by rfl, ?_⟩) ?_ ?_
  rotate_left
  · intro w'
    go_simp
    with_reducible rfl
  rotate_left
  · simp only [Act.put, List.setIfInBounds_toArray, List.set_cons_zero, List.set_cons_succ, i64_w, i32_w]
    rfl
  refine pure_ (i := 11) (N := some 15) (v := ?_) (a' := ?_) #[true, true, true, true, true, true, true, true, true, true, true, true, false, false] rfl rfl (by kernel_rfl) (fun _ _ _ h => h) (Or.inl ⟨by rfl, ?_⟩) ?_ ?_
  rotate_left
  · intro w'
    go_simp
    with_reducible rfl
  rotate_left
  · simp only [Act.put, List.setIfInBounds_toArray, List.set_cons_zero, List.set_cons_succ, i64_w, i32_w]
    rfl
  refine pure_ (i := 12) (N := some 16) (v := ?_) (a' := ?_) #[true, true, true, true, true, true, true, true, true, true, true, true, true, false] rfl rfl (by kernel_rfl) (fun _ _ _ h => h) (Or.inl ⟨by rfl, ?_⟩) ?_ ?_
  rotate_left
  · intro w'
    go_simp
    with_reducible rfl
  rotate_left
  · simp only [Act.put, List.setIfInBounds_toArray, List.set_cons_zero, List.set_cons_succ, i64_w, i32_w]
    rfl
  refine last_ (i := 13) (N := none) #[true, true, true, true, true, true, true, true, true, true, true, true, true, true] rfl rfl (by kernel_rfl) (by decide) (fun K hK => ?_)
  refine skip_ (w1 := ?_) (by rfl) rfl ?_ ?_
  rotate_left
  · go_simp
    rfl
  refine hK.out _ _ ?_
  clear hK K
  refine done_ (by kernel_rfl) ?_
  obtain ⟨V, hV⟩ : ∃ V, ((((w.setCell ⟨g, 3, none⟩ (.int .i64 kd)).setCell ⟨g, 4, none⟩ (.int .i64 li)).setCell ⟨g, 5, none⟩ (.int .i64 co)).setCell ⟨g, 6, none⟩ (.string ⟨#[]⟩)).drew = V := ⟨_, rfl⟩
  have hb : V.heap[g]? = some (.cells #[vo, .int .i64 li, .int .i64 co, .int .i64 kd, .int .i64 li, .int .i64 co, .string ⟨#[]⟩, p, v] 45 (0, 0)) := by
    rw [← hV]
    exact blk_drew (blk_set (blk_set (blk_set (blk_set L.out.blk 3 _) 4 _) 5 _) 6 _)
  have HB := Aside0.mk hb
  have HR := Aside0.mk (show Kd.R k36 36 V base (fun k => k ≠ g) vo out by rw [← hV]; exact Kd.R_drew (row_set (cs := #[]) (row_set (cs := #[]) (row_set (cs := #[]) (row_set (cs := #[]) L.out.row _) _) _) _))
  have HS := Aside0.mk (show base ≤ V.heap.size by rw [← hV]; simpa using L.out.size)
  have HI := Aside0.mk (show IterStay w V from by
    have s1 := blk_set L.out.blk 3 (.int .i64 kd)
    have s2 := blk_set s1 4 (.int .i64 li)
    have s3 := blk_set s2 5 (.int .i64 co)
    rw [← hV]
    exact ((((IterStay.set _ L.out.blk).trans (IterStay.set _ s1)).trans (IterStay.set _ s2)).trans (IterStay.set _ s3)).trans (IterStay.of_below (Below.refl _ _).drew))
  have HBl := Aside0.mk (show Below base w V by rw [← hV]; exact (((((Below.refl _ _).setCell L.out.low _).setCell L.out.low _).setCell L.out.low _).setCell L.out.low _).drew)
  clear hb q1 q2 q3 q4 q5 q6 f3 f4 f5 f6
  go_wp2_with (go_at_call 41; (with_reducible refine (rsX_calls HB.out L.out.low HS.out).mono ?_); rintro e w2 ⟨rfl, h1, h2⟩; have H1 := Aside0.mk h1; have H2 := Aside0.mk h2; clear h1 h2)
  go_end0
  obtain ⟨p2, hp2, hB2⟩ := H2.out
  have e2 := H1.out
  refine ⟨rfl, ⟨vo, ⟨#[]⟩, p2, _, ⟨hB2.blk, ?_, L.out.low, hB2.size⟩, hp2, hB2.row⟩, ?_, ?_⟩
  · rw [e2]; exact row_set (cs := #[]) (row_set (cs := #[]) HR.out _) _
  · rw [e2]; exact (HI.out.trans (IterStay.set _ HB.out)).trans (IterStay.set _ (blk_set HB.out 7 _))
  · rw [e2]; exact (HBl.out.setCell L.out.low _).setCell L.out.low _

theorem own_cells {w : World} {base e : Nat} {α : Type} {d : Kd α} {ok : Nat → Prop} {v : Value} {xs : List α} (h : d.R e w base ok v xs) : ∀ q, v.ownBlock = some q → ∃ cells t m, w.heap[q]? = some (.cells cells t m) := fun q hq => by
  obtain ⟨cells, hc⟩ := own_typed (Kd.R_own h).choose_spec q hq
  exact ⟨cells, _, _, hc⟩
/-- the lexer where String has been called -/
theorem Lx.others {w w' : World} {g base : Nat} {vo : Value} {out : List S36} {li co tk tl tc : Int} {tx : ByteArray} {p v : Value} {xs : List Int} (L : Lx w g base vo out li co tk tl tc tx p v) (hR : (Kd.int .u8).R 5 w base (fun k => k ≠ g) v xs) (h : OthersStay w w' v.ownBlock) : Lx w' g base vo out li co tk tl tc tx p v := by
  refine ⟨(h.2 g L.lt (fun e => hR.1 g e.symm rfl)).trans L.blk, Kd.R_mono (Kd.R_move (Kd.R_bound L.row) (fun k hk => h.2 k hk.2.2.1 ?_)) (fun _ hk => hk.1), L.low, Nat.le_trans L.size h.1⟩
  obtain ⟨_, _, _, q, hq, cells, hc⟩ := hk
  have hq36 := types36 hq
  subst hq36
  exact Kd.R_ne hR hc (by decide)
set_option maxHeartbeats 4000000 in
theorem end_calls {w : World} {g base : Nat} {out : List S36} {li co tk tl tc : Int} {xs : List Int} (h : LDo w g base out li co tk tl tc xs) (s : ByteArray) (hs : xs = bytesOf s) (hl : (out.length + 1) * 40 ≤ 140737488355328) :
    Calls Try.prog 42 #[.pointer (some ⟨g, 0, none⟩)] w fun e w' => e = .returned (.tuple #[]) ∧ LDc w' g base (out ++ [⟨tk, tl, tc, s⟩]) li co ∧ IterStay w w' ∧ Below base w w' := by
  obtain ⟨vo, tx, p, v, hL, hW⟩ := h
  subst hs
  obtain ⟨A0, c0, hv0⟩ := Kd.R_slice hL.row
  have HV0 := Aside0.mk hv0
  have L := Aside0.mk hL
  have W := Aside0.mk hW
  have f6 := hL.f 6
  clear hL hW hv0
  go_enter Try.func42, Try.ntmps42
  go_wp2_with (go_at_call 25; (with_reducible refine (strX_calls s (Wr.bld L.out W.out)).mono ?_); rintro e w1 ⟨rfl, h1, h2⟩; have L1 := Aside0.mk (L.out.others W.out.2 h1); have I1 := Aside0.mk (IterStay.of_others h1 (own_cells W.out.2)); have B1 := Aside0.mk h2; have c6 := L1.out.c 6 rfl; have g6 := L1.out.f 6; clear h1 h2)
  obtain ⟨V, hV⟩ : ∃ V, w1.setCell ⟨g, 6, none⟩ (.string s) = V := ⟨_, rfl⟩
  have L2 := Aside0.mk (show Lx V g base vo out li co tk tl tc s p v by
    rw [← hV]
    exact ⟨blk_set L1.out.blk 6 _, row_set (cs := #[]) L1.out.row _, L1.out.low, by simpa using L1.out.size⟩)
  have I2 := Aside0.mk (show IterStay w V by rw [← hV]; exact I1.out.trans (IterStay.set _ L1.out.blk))
  have B2 := Aside0.mk (show Below base w V by rw [← hV]; exact B1.out.setCell L1.out.low _)
  rw [hV]
  clear c6 g6 f6
  have LD := Aside0.mk L2.out.drew
  have q0 := LD.out.c 0 rfl
  have q3 := LD.out.c 3 rfl
  have q4 := LD.out.c 4 rfl
  have q5 := LD.out.c 5 rfl
  have q6 := LD.out.c 6 rfl
  rw [HV0.out] at q0
  have hu36 := Try.underlying36
  refine start_ (n := 14) (S := fun w' => w'.cell? ⟨g, 0, none⟩ = some (.slice A0 out.length c0) ∧ w'.cell? ⟨g, 3, none⟩ = some (.int .i64 tk) ∧ w'.cell? ⟨g, 4, none⟩ = some (.int .i64 tl) ∧ w'.cell? ⟨g, 5, none⟩ = some (.int .i64 tc) ∧ w'.cell? ⟨g, 6, none⟩ = some (.string s)) (ds := [13]) #[false, false, false, false, false, false, false, false, false, false, false, false, false, false] (by kernel_rfl) rfl rfl ⟨q0, q3, q4, q5, q6⟩ (fun hHeld => ?_)
  refine pure_ (i := 0) (N := some 10) (v := ?_) (a' := ?_) #[true, false, false, false, false, false, false, false, false, false, false, false, false, false] rfl rfl (by kernel_rfl) (fun _ _ _ h => h) (Or.inl ⟨by rfl, ?_⟩) ?_ ?_
  rotate_left
  · intro w'
    go_simp
    with_reducible rfl
  rotate_left
  · simp only [Act.put, List.setIfInBounds_toArray, List.set_cons_zero, List.set_cons_succ, i64_w, i32_w]
    rfl
  refine pure_ (i := 1) (N := some 11) (v := ?_) (a' := ?_) #[true, true, false, false, false, false, false, false, false, false, false, false, false, false] rfl rfl (by kernel_rfl) (fun _ _ _ h => h) (Or.inl ⟨by rfl, ?_⟩) ?_ ?_
  rotate_left
  · intro w'
    go_simp
    with_reducible rfl
  rotate_left
  · simp only [Act.put, List.setIfInBounds_toArray, List.set_cons_zero, List.set_cons_succ, i64_w, i32_w]
    rfl
  refine pure_ (i := 2) (N := some 12) (v := ?_) (a' := ?_) #[true, true, true, false, false, false, false, false, false, false, false, false, false, false] rfl rfl (by kernel_rfl) (fun _ _ _ h => h) (Or.inl ⟨by rfl, ?_⟩) ?_ ?_
  rotate_left
  · intro w'
    go_simp
    with_reducible rfl
  rotate_left
  · simp only [Act.put, List.setIfInBounds_toArray, List.set_cons_zero, List.set_cons_succ, i64_w, i32_w]
    rfl
  refine pure_ (i := 3) (N := some 13) (v := ?_) (a' := ?_) #[true, true, true, true, false, false, false, false, false, false, false, false, false, false] rfl rfl (by kernel_rfl) (fun _ _ _ h => h) (Or.inl ⟨by rfl, ?_⟩) ?_ ?_
  rotate_left
  · intro w'
    go_simp
    with_reducible rfl
  rotate_left
  · simp only [Act.put, List.setIfInBounds_toArray, List.set_cons_zero, List.set_cons_succ, i64_w, i32_w]
    rfl
  refine pure_ (i := 5) (N := some 15) (v := ?_) (a' := ?_) #[true, true, true, true, false, true, false, false, false, false, false, false, false, false] rfl rfl (by kernel_rfl) (fun _ _ _ h => h) (Or.inl ⟨by rfl, ?_⟩) ?_ ?_
  rotate_left
  · intro w'
    go_simp
    with_reducible rfl
  rotate_left
  · simp only [Act.put, List.setIfInBounds_toArray, List.set_cons_zero, List.set_cons_succ, i64_w, i32_w]
    rfl
  refine pure_ (i := 6) (N := some 16) (v := ?_) (a' := ?_) #[true, true, true, true, false, true, true, false, false, false, false, false, false, false] rfl rfl (by kernel_rfl) (fun _ _ _ h => h) (Or.inl ⟨by rfl, ?_⟩) ?_ ?_
  rotate_left
  · intro w'
    go_simp
    with_reducible rfl
  rotate_left
  · simp only [Act.put, List.setIfInBounds_toArray, List.set_cons_zero, List.set_cons_succ, i64_w, i32_w]
    rfl
  refine pure_ (i := 7) (N := some 17) (v := ?_) (a' := ?_) #[true, true, true, true, false, true, true, true, false, false, false, false, false, false] rfl rfl (by kernel_rfl) (fun _ _ _ h => h) (Or.inl ⟨by rfl, ?_⟩) ?_ ?_
  rotate_left
  · intro w'
    go_simp
    with_reducible rfl
  rotate_left
  · simp only [Act.put, List.setIfInBounds_toArray, List.set_cons_zero, List.set_cons_succ, i64_w, i32_w]
    rfl
  refine take_ (i := 4) (N := some 14) (v := ?_) (a' := ?_) #[true, true, true, true, true, true, true, true, false, false, false, false, false, false] rfl rfl (by kernel_rfl) (fun _ _ _ h => h) (Or.inl ⟨by rfl, ?_⟩) hHeld ?_ ?_
  rotate_left
  · rintro w' ⟨s0, s1, s2, s3, s4⟩
    go_simp
    with_reducible rfl
  rotate_left
  · simp only [Act.put, List.setIfInBounds_toArray, List.set_cons_zero, List.set_cons_succ, i64_w, i32_w]
    rfl
  refine take_ (i := 8) (N := some 18) (v := ?_) (a' := ?_) #[true, true, true, true, true, true, true, true, true, false, false, false, false, false] rfl rfl (by kernel_rfl) (fun _ _ _ h => h) (Or.inl ⟨by rfl, ?_⟩) hHeld ?_ ?_
  rotate_left
  · rintro w' ⟨s0, s1, s2, s3, s4⟩
    go_simp
    with_reducible rfl
  rotate_left
  · simp only [Act.put, List.setIfInBounds_toArray, List.set_cons_zero, List.set_cons_succ, i64_w, i32_w]
    rfl
  refine one_ (i := 9) (N := some 19) #[true, true, true, true, true, true, true, true, true, true, false, false, false, false] rfl rfl (by kernel_rfl) (by decide) (fun K hK => ?_)
  refine value_ (w1 := ?_) (v := ?_) (by rfl) rfl ?_ ?_
  rotate_left 2
  · go_simp
    constructor
    · rfl
    · rfl
  refine hK.out _ _ ⟨(by have h_ := (LD.out.below (below_alloc (Below.refl _ _) (.cells #[.int .i64 tk, .int .i64 tl, .int .i64 tc, .string s] 36))).c 0 rfl; rw [HV0.out] at h_; exact h_), (LD.out.below (below_alloc (Below.refl _ _) (.cells #[.int .i64 tk, .int .i64 tl, .int .i64 tc, .string s] 36))).c 3 rfl, (LD.out.below (below_alloc (Below.refl _ _) (.cells #[.int .i64 tk, .int .i64 tl, .int .i64 tc, .string s] 36))).c 4 rfl, (LD.out.below (below_alloc (Below.refl _ _) (.cells #[.int .i64 tk, .int .i64 tl, .int .i64 tc, .string s] 36))).c 5 rfl, (LD.out.below (below_alloc (Below.refl _ _) (.cells #[.int .i64 tk, .int .i64 tl, .int .i64 tc, .string s] 36))).c 6 rfl⟩ (fun hHeld => ?_)
  clear hK K
  refine norm_ (a' := ?_) ?_ ?_
  rotate_left
  · show Act.put _ (some 19) _ = _
    simp only [Act.put, List.setIfInBounds_toArray, List.set_cons_zero, List.set_cons_succ, i64_w, i32_w]
    rfl
  refine one_ (i := 10) (N := some 20) #[true, true, true, true, true, true, true, true, true, true, true, false, false, false] rfl rfl (by kernel_rfl) (by decide) (fun K hK => ?_)
  refine Kd.R_append_step k36 (w0 := V.drew) base (by rfl) (.tmp 14) (.tmp 19) 23 36 (.agg #[(.int .i64 0), (.int .i64 0), (.int .i64 0), (.string ⟨#[]⟩)]) 40 rfl Try.underlying23 info36 rfl (by decide) (by omega) (.slice A0 out.length c0) out ⟨tk, tl, tc, s⟩ [.int .i64 tk, .int .i64 tl, .int .i64 tc, .string s] (fun k => k ≠ g) (fun _ => False) rfl rfl (k36_mkM _ _ _ ⟨tk, tl, tc, s⟩) (fun _ h => h.elim) (fun k hk e => by have := LD.out.lt; omega) (by have h_ := LD.out.row; rw [HV0.out] at h_; exact h_) (Below.refl _ _) LD.out.size hl ?_
  intro v9 w9 h1 h2 h3 h4
  obtain ⟨A9, c9, rfl⟩ := Kd.R_slice h1
  rw [List.length_append] at h1
  have hne : some g ≠ (Value.slice A0 out.length c0).ownBlock := fun e => (by have h_ := LD.out.row; rw [HV0.out] at h_; exact h_.1 g e.symm rfl)
  have hb9 := blk_grown LD.out.blk h3 hne
  have R9 := Aside0.mk h1
  have B9 := Aside0.mk hb9
  have K9 := Aside0.mk ((B2.out.drew).trans h2)
  have S9 := Aside0.mk (Nat.le_trans LD.out.size h3.size)
  have I9 := Aside0.mk ((I2.out.trans (IterStay.of_below (Below.refl _ _).drew)).trans (IterStay.of_grown h3 (by have h_ := own_cells LD.out.row; rw [HV0.out] at h_; exact h_)))
  have c90 := (blk_cell hb9 0).trans rfl
  have f90 := blk_frozen hb9 0
  rw [HV0.out] at c90
  clear h1 h2 h3 h4 hne hb9
  refine hK.out _ _ ⟨c90, (blk_cell B9.out 3).trans rfl, (blk_cell B9.out 4).trans rfl, (blk_cell B9.out 5).trans rfl, (blk_cell B9.out 6).trans rfl⟩ (fun hHeld => ?_)
  clear hK K
  refine norm_ (a' := ?_) ?_ ?_
  rotate_left
  · show Act.put _ (some 20) _ = _
    simp only [Act.put, List.setIfInBounds_toArray, List.set_cons_zero, List.set_cons_succ, i64_w, i32_w]
    rfl
  refine pure_ (i := 11) (N := some 21) (v := ?_) (a' := ?_) #[true, true, true, true, true, true, true, true, true, true, true, true, false, false] rfl rfl (by kernel_rfl) (fun _ _ _ h => h) (Or.inl ⟨by rfl, ?_⟩) ?_ ?_
  rotate_left
  · intro w'
    go_simp
    with_reducible rfl
  rotate_left
  · simp only [Act.put, List.setIfInBounds_toArray, List.set_cons_zero, List.set_cons_succ, i64_w, i32_w]
    rfl
  refine pure_ (i := 12) (N := some 22) (v := ?_) (a' := ?_) #[true, true, true, true, true, true, true, true, true, true, true, true, true, false] rfl rfl (by kernel_rfl) (fun _ _ _ h => h) (Or.inl ⟨by rfl, ?_⟩) ?_ ?_
  rotate_left
  · intro w'
    go_simp
    with_reducible rfl
  rotate_left
  · simp only [Act.put, List.setIfInBounds_toArray, List.set_cons_zero, List.set_cons_succ, i64_w, i32_w]
    rfl
  refine last_ (i := 13) (N := none) #[true, true, true, true, true, true, true, true, true, true, true, true, true, true] rfl rfl (by kernel_rfl) (by decide) (fun K hK => ?_)
  refine skip_ (w1 := ?_) (by rfl) rfl ?_ ?_
  rotate_left
  · go_simp
    rfl
  refine hK.out _ _ ?_
  clear hK K
  refine done_ (by kernel_rfl) ?_
  go_end0
  refine ⟨rfl, ⟨_, tk, tl, tc, s, p, v, blk_set B9.out 0 _, row_set (cs := #[]) R9.out _, L.out.low, by simpa using S9.out⟩, I9.out.trans (IterStay.set _ B9.out), K9.out.setCell L.out.low _⟩
end Go.Proofs.Ytdgholodogcemaa.Lex
