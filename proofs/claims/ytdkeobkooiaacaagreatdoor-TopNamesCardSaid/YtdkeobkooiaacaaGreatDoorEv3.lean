/- Memory: operations that read, lay and change blocks do what the model does (no condition). -/
import Derived.Test.YtdkeobkooiaacaaGreatDoorEv2
import Derived.Laws.Cells
import Derived.Laws.IdiomStrings
import Derived.Laws.LoneSync
import Derived.Lib.UnsafeStr
namespace Go.Proofs.YtdkeobkooiaacaaGreatDoor.Ev
variable {P : Program} {ρ ρ' : Rho}
/-- Which cells of a block may be frozen: none from a place on; or nothing is told. -/
def FrOk (fr : Nat × Nat) (l : Loc) (fz : Nat) (stq : Bool) : Prop :=
  18446744073709551616 ≤ fz ∨ fr.1 = fr.2 ∨ fr.2 ≤ l.o + fz ∨ (stq = true ∧ l.K ≤ fr.1)
def ERs (ρ : Rho) : List Ent → List MapEntry → Prop
  | [], es => es = []
  | e :: l, es => ∃ x xs, es = x :: xs ∧ VR ρ e.key x.key ∧ VR ρ e.val x.val ∧ x.born = e.born ∧ ERs ρ l xs
structure TR (ρ : Rho) (tm : Tr AV) (tmps : Array Value) : Prop where
  val : ∀ t v, tm.get (pos t) = some v → VR ρ v (tmps.getD t undef)
def BR (ρ : Rho) (l : Loc) (w : World) : Blk → Prop
  | .row cs ty _ opn stq fz _ => ∃ (c : Array Value) (fr : Nat × Nat), w.heap[l.B]? = some (.cells c ty fr) ∧ c.size = l.K ∧ l.o + cs.length ≤ l.K ∧ (opn = false → l.o = 0 ∧ cs.length = l.K) ∧
      VRs ρ cs ((c.toList.drop l.o).take cs.length) ∧ FrOk fr l fz stq
  | .mp es clock => ∃ es' : Array MapEntry, w.heap[l.B]? = some (.map es' clock) ∧ ERs ρ es es'.toList
  | .si s p => ∃ t, w.heap[l.B]? = some (.stringIter t p) ∧ bytesNat t = s ∧ l.o = 0
  | .loop busy fn tm ps a b d => ∃ (tmps : Array Value) (ld : Loc) (params : Array Tmp) (fn' : FuncId), ρ d = some ld ∧ params.toList = ps ∧ TR ρ tm tmps ∧ tmps.size = fn ∧
      w.heap[l.B]? = some (.loop { state := if busy then .busy else .ready, pending := none, fn := fn', tmps, params, assign := a, body := b, defers := ld.B })
  | .dfr => w.heap[l.B]? = some (.deferred (some []))
def Linked (h : Heap) (b b' : Pos) : Prop := ∃ cs ty esz opn stq fz, h.get b = some (.row cs ty esz opn stq fz (some b'))
def Owned (ρ : Rho) (h : Heap) (B : Nat) : Prop := ∃ b l, h.get b ≠ none ∧ ρ b = some l ∧ l.B = B
/-- The place of a variable of the program that holds some number throughout. -/
class Glob where
  G : Nat
def GloOk [Glob] (w : World) : Prop := ∃ m t fr cs, w.heap[Glob.G]? = some (.cells cs t fr) ∧ cs[0]? = some (.int .i64 m)
theorem GloOk.keep [Glob] {w w' : World} (h : GloOk w) (e : w'.heap[Glob.G]? = w.heap[Glob.G]?) : GloOk w' := by
  obtain ⟨m, t, fr, cs, h1, h2⟩ := h
  exact ⟨m, t, fr, cs, by rw [e, h1], h2⟩
theorem GloOk.lt [Glob] {w : World} (h : GloOk w) : Glob.G < w.heap.size := by
  obtain ⟨m, t, fr, cs, h1, h2⟩ := h
  exact (Array.getElem?_eq_some_iff.1 h1).1
structure WR [Glob] (ρ : Rho) (h : Heap) (w : World) : Prop where
  blk : ∀ b bl l, h.get b = some bl → ρ b = some l → BR ρ l w bl
  inj : ∀ b b' l l', h.get b ≠ none → h.get b' ≠ none → ρ b = some l → ρ b' = some l' → b ≠ b' → l.B = l'.B → Linked h b b'
  glo : GloOk w
  apart : ∀ b l, h.get b ≠ none → ρ b = some l → l.B ≠ Glob.G
/-- Nothing is said to the world outside. -/
def Mute (w w' : World) : Prop := w'.os = w.os ∧ w'.output = w.output
structure Fr (ρ : Rho) (h : Heap) (w : World) (ρ' : Rho) (h' : Heap) (w' : World) : Prop where
  mute : Mute w w'
  size : w.heap.size ≤ w'.heap.size
  keep : ∀ B, B < w.heap.size → ¬ Owned ρ h B → w'.heap[B]? = w.heap[B]?
  own : ∀ B, Owned ρ' h' B → w.heap.size ≤ B ∨ Owned ρ h B
theorem Fr.refl (ρ : Rho) (h : Heap) (w : World) : Fr ρ h w ρ h w := ⟨⟨rfl, rfl⟩, Nat.le_refl _, fun _ _ _ => rfl, fun _ h => .inr h⟩
theorem Fr.trans {ρ₁ ρ₂ ρ₃ : Rho} {h₁ h₂ h₃ : Heap} {w₁ w₂ w₃ : World} (a : Fr ρ₁ h₁ w₁ ρ₂ h₂ w₂) (b : Fr ρ₂ h₂ w₂ ρ₃ h₃ w₃) : Fr ρ₁ h₁ w₁ ρ₃ h₃ w₃ := by
  refine ⟨⟨b.mute.1.trans a.mute.1, b.mute.2.trans a.mute.2⟩, Nat.le_trans a.size b.size, fun B hB hn => ?_, fun B ho => ?_⟩
  · rw [b.keep B (Nat.lt_of_lt_of_le hB a.size) (fun ho => ?_), a.keep B hB hn]
    rcases a.own B ho with h | h
    · omega
    · exact hn h
  · rcases b.own B ho with h | h
    · exact .inl (Nat.le_trans a.size h)
    · exact a.own B h
/-- New names alone are given, from n on up to n'. -/
def Grow (n n' : Pos) (ρ ρ' : Rho) : Prop := n.toNat ≤ n'.toNat ∧ ∀ b, (b.toNat < n.toNat ∨ n'.toNat ≤ b.toNat) → ρ' b = ρ b
def Fresh (ρ : Rho) (n n' : Pos) : Prop := ∀ b, n.toNat ≤ b.toNat → b.toNat < n'.toNat → ρ b = none
theorem Grow.refl (n : Pos) (ρ : Rho) : Grow n n ρ ρ := ⟨Nat.le_refl _, fun _ _ => rfl⟩
theorem Grow.le {n n' : Pos} (h : Grow n n' ρ ρ') (f : Fresh ρ n n') : ρ.le ρ' := fun b l hb => by
  by_cases h1 : b.toNat < n.toNat
  · rw [h.2 b (.inl h1)]; exact hb
  · by_cases h2 : n'.toNat ≤ b.toNat
    · rw [h.2 b (.inr h2)]; exact hb
    · rw [f b (by omega) (by omega)] at hb; cases hb
theorem Grow.trans {a b c : Pos} {r s t : Rho} (h : Grow a b r s) (k : Grow b c s t) : Grow a c r t :=
  ⟨Nat.le_trans h.1 k.1, fun x hx => by
    have h1 := h.1; have k1 := k.1
    rw [k.2 x (by omega), h.2 x (by omega)]⟩
theorem Fresh.first {a b c : Pos} {r : Rho} (h : Fresh r a c) (hb : b.toNat ≤ c.toNat) : Fresh r a b := fun x h1 h2 => h x h1 (by omega)
theorem Fresh.second {a b c : Pos} {r s : Rho} (h : Fresh r a c) (e : Grow a b r s) : Fresh s b c := fun x h1 h2 => by
  have := e.1
  rw [e.2 x (.inr h1)]
  exact h x (by omega) h2
/-- The same memory, and no more names. -/
theorem BR.mono (h : ρ.le ρ') {l : Loc} {w : World} : ∀ {bl : Blk}, BR ρ l w bl → BR ρ' l w bl
  | .row .., ⟨c, fr, h1, h2, h3, h4, h5, h6⟩ => ⟨c, fr, h1, h2, h3, h4, VRs.mono h _ _ h5, h6⟩
  | .mp es clock, ⟨es', h1, h2⟩ => ⟨es', h1, by
      generalize es'.toList = xs at h2
      clear h1
      induction es generalizing xs with
      | nil => exact h2
      | cons e es ih =>
        obtain ⟨x, ys, rfl, a, b, c, d⟩ := h2
        exact ⟨x, ys, rfl, VR.mono h _ _ a, VR.mono h _ _ b, c, ih _ d⟩⟩
  | .si .., x => x
  | .loop .., ⟨tmps, ld, ps, fn', h1, h2, h3, h4⟩ => ⟨tmps, ld, ps, fn', h _ _ h1, h2, ⟨fun t v hv => VR.mono h _ _ (h3.val t v hv)⟩, h4⟩
  | .dfr, x => x
theorem BR.lt {l : Loc} {w : World} {bl : Blk} (h : BR ρ l w bl) : l.B < w.heap.size := by
  have key : ∀ o, w.heap[l.B]? = some o → l.B < w.heap.size := fun o ho => (Array.getElem?_eq_some_iff.1 ho).1
  cases bl with
  | row cs ty esz opn stq fz link => obtain ⟨c, fr, h1, _⟩ := h; exact key _ h1
  | mp es clock => obtain ⟨es', h1, _⟩ := h; exact key _ h1
  | si s p => obtain ⟨t, h1, _⟩ := h; exact key _ h1
  | loop busy fn tm ps a b d => obtain ⟨tmps, ld, params, _, _, _, _, _, h1⟩ := h; exact key _ h1
  | dfr => exact key _ h
/-- The same block in another world. -/
theorem BR.same {l : Loc} {w w' : World} (hw : w'.heap[l.B]? = w.heap[l.B]?) : ∀ {bl : Blk}, BR ρ l w bl → BR ρ l w' bl
  | .row .., ⟨c, fr, h1, h2⟩ => ⟨c, fr, by rw [hw]; exact h1, h2⟩
  | .mp .., ⟨es', h1, h2⟩ => ⟨es', by rw [hw]; exact h1, h2⟩
  | .si .., ⟨t, h1, h2⟩ => ⟨t, by rw [hw]; exact h1, h2⟩
  | .loop .., ⟨tmps, ld, ps, fn', h1, h2, h3, h4, h5⟩ => ⟨tmps, ld, ps, fn', h1, h2, h3, h4, by rw [hw]; exact h5⟩
  | .dfr, h => by simp only [BR] at h ⊢; rw [hw]; exact h
/-- Less is told of memory. -/
theorem WR.sub [Glob] {h h' : Heap} {w : World} (r : WR ρ h w) (s : ∀ b bl, h'.get b = some bl → h.get b = some bl) : WR ρ h' w := by
  refine ⟨fun b bl l hb hl => r.blk b bl l (s b bl hb) hl, fun b b' l l' hb hb' hl hl' hne he => ?_, r.glo, fun b l hb hl => ?_⟩
  rotate_left
  · obtain ⟨bl, hbl⟩ := Option.ne_none_iff_exists'.1 hb
    exact r.apart b l (by rw [s b bl hbl]; simp) hl
  obtain ⟨bl, hbl⟩ := Option.ne_none_iff_exists'.1 hb
  obtain ⟨bl', hbl'⟩ := Option.ne_none_iff_exists'.1 hb'
  obtain ⟨cs, ty, esz, opn, stq, fz, hg⟩ := r.inj b b' l l' (by rw [s b bl hbl]; simp) (by rw [s b' bl' hbl']; simp) hl hl' hne he
  rw [s b bl hbl] at hg
  cases hg
  exact ⟨cs, ty, esz, opn, stq, fz, hbl⟩
/-- What an operation without a call does. -/
structure Did [Glob] (ρ : Rho) (h : Heap) (n : Pos) (w : World) (v : AV) (h' : Heap) (n' : Pos) (x : Value) (w' : World) (ρ' : Rho) : Prop where
  ext : Grow n n' ρ ρ'
  val : VR ρ' v x
  wr : WR ρ' h' w'
  fr : Fr ρ h w ρ' h' w'
theorem upd_same (ρ : Rho) (n : Pos) (l : Loc) : (fun b => if b = n then some l else ρ b) n = some l := by simp
theorem Fr.glob [Glob] {h h' : Heap} {w w' : World} (fr : Fr ρ h w ρ' h' w') (hw : WR ρ h w) : GloOk w' ∧ ∀ b l, h'.get b ≠ none → ρ' b = some l → l.B ≠ Glob.G := by
  have hno : ¬ Owned ρ h Glob.G := fun ⟨b, l, h1, h2, h3⟩ => hw.apart b l h1 h2 h3
  refine ⟨hw.glo.keep (fr.keep _ hw.glo.lt hno), fun b l h1 h2 h3 => ?_⟩
  rcases fr.own Glob.G ⟨b, l, h1, h2, h3⟩ with h | h
  · have := hw.glo.lt; omega
  · exact hno h
theorem WR.mk' [Glob] {h h' : Heap} {w w' : World} (hw : WR ρ h w) (fr : Fr ρ h w ρ' h' w') (blk : ∀ b bl l, h'.get b = some bl → ρ' b = some l → BR ρ' l w' bl)
    (inj : ∀ b b' l l', h'.get b ≠ none → h'.get b' ≠ none → ρ' b = some l → ρ' b' = some l' → b ≠ b' → l.B = l'.B → Linked h' b b') : WR ρ' h' w' := ⟨blk, inj, (fr.glob hw).1, (fr.glob hw).2⟩
theorem Did.mk' [Glob] {h h' : Heap} {n n' : Pos} {w w' : World} {v : AV} {x : Value} (hw : WR ρ h w) (ext : Grow n n' ρ ρ') (val : VR ρ' v x) (blk : ∀ b bl l, h'.get b = some bl → ρ' b = some l → BR ρ' l w' bl)
    (inj : ∀ b b' l l', h'.get b ≠ none → h'.get b' ≠ none → ρ' b = some l → ρ' b' = some l' → b ≠ b' → l.B = l'.B → Linked h' b b') (fr : Fr ρ h w ρ' h' w') : Did ρ h n w v h' n' x w' ρ' := ⟨ext, val, WR.mk' hw fr blk inj, fr⟩
theorem WF.mk' [Glob] {h h' : Heap} {w w' : World} (hw : WR ρ h w) (blk : ∀ b bl l, h'.get b = some bl → ρ' b = some l → BR ρ' l w' bl)
    (inj : ∀ b b' l l', h'.get b ≠ none → h'.get b' ≠ none → ρ' b = some l → ρ' b' = some l' → b ≠ b' → l.B = l'.B → Linked h' b b') (fr : Fr ρ h w ρ' h' w') : WR ρ' h' w' ∧ Fr ρ h w ρ' h' w' := ⟨WR.mk' hw fr blk inj, fr⟩
/-- A new block, under a new name. -/
theorem alloc_did [Glob] {h : Heap} {n : Pos} {w : World} {bl : Blk} {o : Obj} {l : Loc} {v : AV} {x : Value} (hw : WR ρ h w) (hf : ρ n = none) (hB : l.B = w.heap.size)
    (hbr : ∀ w' : World, w'.heap[l.B]? = some o → BR ρ l w' bl)
    (hv : VR (fun b => if b = n then some l else ρ b) v x) : Did ρ h n w v (h.put n (some bl)) n.succ x { w with heap := w.heap.push o } (fun b => if b = n then some l else ρ b) := by
  have hle : ρ.le (fun b => if b = n then some l else ρ b) := fun b l' hb => by
    by_cases e : b = n
    · subst e; rw [hf] at hb; cases hb
    · simp [e, hb]
  have hnew : ({ w with heap := w.heap.push o } : World).heap[l.B]? = some o := by simp [hB]
  have hold : ∀ B, B < w.heap.size → ({ w with heap := w.heap.push o } : World).heap[B]? = w.heap[B]? := fun B hB => by
    simp only [Array.getElem?_push]
    rw [if_neg (by omega)]
  refine Did.mk' hw ⟨by rw [Pos.succ_toNat]; omega, fun b hb => ?_⟩ hv (fun b bl' l' hb hl => ?_) (fun b b' l1 l2 hb hb' hl hl' hne he => ?_) ⟨⟨rfl, rfl⟩, by simp, fun B hB hn => hold B hB, fun B ho => ?_⟩
  · have : b ≠ n := fun e => by subst e; rw [Pos.succ_toNat] at hb; omega
    simp [this]
  · rw [Tr.get_put] at hb
    by_cases e : b = n
    · subst e
      simp only [if_true, Option.some.injEq] at hb hl
      subst hb hl
      exact (hbr _ hnew).mono hle
    · simp only [e, if_false] at hb hl
      have := hw.blk b bl' l' hb hl
      exact (this.same (hold _ this.lt)).mono hle
  · rw [Tr.get_put] at hb hb'
    have ltof : ∀ {b l}, h.get b ≠ none → ρ b = some l → l.B < w.heap.size := fun {b l} hb hl => by
      obtain ⟨bl, hbl⟩ := Option.ne_none_iff_exists'.1 hb
      exact (hw.blk b bl l hbl hl).lt
    by_cases e : b = n
    · subst e
      have e' : b' ≠ b := fun x => hne x.symm
      simp only [if_true, Option.some.injEq] at hl
      simp only [e', if_false] at hb' hl'
      have := ltof hb' hl'
      subst hl
      omega
    · simp only [e, if_false] at hb hl
      by_cases e' : b' = n
      · subst e'
        simp only [if_true, Option.some.injEq] at hl'
        have := ltof hb hl
        subst hl'
        omega
      · simp only [e', if_false] at hb' hl'
        obtain ⟨cs, ty, esz, opn, stq, fz, hg⟩ := hw.inj b b' l1 l2 hb hb' hl hl' hne he
        exact ⟨cs, ty, esz, opn, stq, fz, by rw [Tr.get_put]; simp [e, hg]⟩
  · obtain ⟨b, l', hb, hl, he⟩ := ho
    rw [Tr.get_put] at hb
    by_cases e : b = n
    · subst e
      simp only [if_true, Option.some.injEq] at hl
      subst hl
      left; omega
    · simp only [e, if_false] at hb hl
      exact .inr ⟨b, l', hb, hl, he⟩
end Go.Proofs.YtdkeobkooiaacaaGreatDoor.Ev
namespace Go.Proofs.YtdkeobkooiaacaaGreatDoor.Ev
variable {P : Program} {ρ : Rho} {tm : Tr AV} {e : Operand → Value}
theorem row_get [Glob] {h : Heap} {w : World} (hw : WR ρ h w) {b : Pos} {cs : List AV} {ty : TypeId} {esz : Nat} {opn stq : Bool} {fz : Nat} {link : Option Pos} (hg : h.get b = some (.row cs ty esz opn stq fz link)) {l : Loc} (hl : ρ b = some l) :
    BR ρ l w (.row cs ty esz opn stq fz link) := hw.blk b _ l hg hl
theorem cell_of {l : Loc} {w : World} {c : Array Value} {ty : TypeId} {fr : Nat × Nat} (h : w.heap[l.B]? = some (.cells c ty fr)) (i : Nat) : w.cell? ⟨l.B, i, none⟩ = c[i]? := by
  simp [World.cell?, h]
theorem VRs.at {a : List AV} {c : List Value} {o n : Nat} (h : VRs ρ a ((c.drop o).take n)) {i : Nat} {x : AV} (hx : Ev.nth i a = some x) : ∃ y, c[o + i]? = some y ∧ VR ρ x y := by
  obtain ⟨y, hy, hv⟩ := VRs.nth i h hx
  rw [List.getElem?_take] at hy
  split at hy
  · rw [List.getElem?_drop] at hy
    exact ⟨y, hy, hv⟩
  · cases hy
theorem cellAt_ok [Glob] {h : Heap} {w : World} (hw : WR ρ h w) {b : Pos} {off : Nat} {a : AV} (hc : cellAt h b off = some a) {l : Loc} (hl : ρ b = some l) : ∃ y, w.cell? ⟨l.B, l.o + off, none⟩ = some y ∧ VR ρ a y := by
  unfold cellAt at hc
  split at hc
  · rename_i cs _ _ _ _ _ _ hg
    obtain ⟨c, fr, h1, h2, h3, h4, h5, h6⟩ := row_get hw hg hl
    obtain ⟨y, hy, hv⟩ := h5.at hc
    exact ⟨y, by rw [cell_of h1]; simpa using hy, hv⟩
  · cases hc
theorem cellsAt_ok [Glob] {h : Heap} {w : World} (hw : WR ρ h w) {b : Pos} {off n : Nat} {as : List AV} (hc : cellsAt h b off n = some as) {l : Loc} (hl : ρ b = some l) :
    ∃ vs : List Value, vs.length = n ∧ VRs ρ as vs ∧ ∀ j v, vs[j]? = some v → w.cell? ((⟨l.B, l.o + off, none⟩ : Addr).add j) = some v := by
  unfold cellsAt at hc
  split at hc
  · rename_i cs _ _ _ _ _ _ hg
    obtain ⟨c, fr, h1, h2, h3, h4, h5, h6⟩ := row_get hw hg hl
    obtain ⟨g1, g2, g3⟩ := VRs.take n (VRs.drop off h5) hc
    refine ⟨_, ?_, g1, fun j v hj => ?_⟩
    · simp only [List.length_take]; omega
    · rw [add_addr, cell_of h1]
      rw [List.getElem?_take] at hj
      split at hj
      · rw [List.getElem?_drop, List.getElem?_take] at hj
        split at hj
        · rw [List.getElem?_drop] at hj
          rw [show l.o + off + j = l.o + (off + j) by omega]
          simpa using hj
        · cases hj
      · cases hj
  · cases hc
theorem aLoad_ok [Glob] {h : Heap} {w : World} (hw : WR ρ h w) {t : TypeId} {b : Pos} {off : Nat} {a : AV} (hc : aLoad P h t b off = some a) {l : Loc} (hl : ρ b = some l) : ∃ y, (loadVar t ⟨l.B, l.o + off, none⟩).run P w = .ok y w ∧ VR ρ a y := by
  unfold aLoad at hc
  split at hc
  · rename_i hg
    obtain ⟨y, hy, hv⟩ := cellAt_ok hw hc hl
    exact ⟨y, by simp [loadVar, aggOf_run hg, hy], hv⟩
  · rename_i hg
    cases hs : szOf P t with
    | none => simp [hs] at hc
    | some n =>
      simp only [hs, Option.map_eq_some_iff] at hc
      obtain ⟨as, ha, rfl⟩ := hc
      obtain ⟨vs, hn, hv, hcell⟩ := cellsAt_ok hw ha hl
      subst hn
      exact ⟨.agg vs.toArray, by simp [loadVar, aggOf_run hg, szOf_run hs, run_loadCells_list w _ vs hcell], _, rfl, hv⟩
  · cases hc
theorem bytesOfCells_ok : ∀ {cs : List AV} {s : List Nat} {vs : List Value}, bytesOfCells cs = some s → VRs ρ cs vs → ∃ bs : List UInt8, bs.map (·.toNat) = s ∧ vs = bs.map fun b => Value.int .u8 (b.toNat : Int)
  | [], s, vs, h, hv => by
    simp only [bytesOfCells, Option.some.injEq] at h
    simp only [VRs] at hv
    subst h hv
    exact ⟨[], rfl, rfl⟩
  | c :: cs, s, vs, h, hv => by
    obtain ⟨x, xs, rfl, hx, hxs⟩ := hv
    unfold bytesOfCells at h
    split at h
    · rename_i heq; cases heq
    · rename_i n l heq
      cases heq
      cases hb : Nat.blt n 256 with
      | false => simp [hb] at h
      | true =>
        have hlt : n < 256 := by simpa [Nat.blt_eq] using hb
        simp only [hb, cond_true, Option.map_eq_some_iff] at h
        obtain ⟨s', hs', rfl⟩ := h
        obtain ⟨bs, h1, h2⟩ := bytesOfCells_ok hs' hxs
        have : (UInt8.ofNat n).toNat = n := by simp; omega
        refine ⟨UInt8.ofNat n :: bs, by simp only [List.map_cons, this, h1], ?_⟩
        simp only [List.map_cons, this, h2]
        congr 1
    · cases h
theorem keyBeq_ok {k a : AV} {vk va : Value} {b : Bool} {t : TypeId} (hk : VR ρ k vk) (ha : VR ρ a va) (hf : keyFits P t k = true) (h : keyBeq k a = some b) :
    ∃ d, P.underlying t = some d ∧ Instr.sameNow d vk va = some b := by
  unfold keyBeq at h
  split at h
  · rename_i j x i y
    simp only [VR] at hk ha; subst hk ha
    cases hkb : kindBeq j i with
    | false => simp [hkb] at h
    | true =>
      have := kindBeq_iff.1 hkb; subst this
      simp only [hkb, cond_true, Option.some.injEq] at h
      subst h
      simp only [keyFits] at hf
      split at hf
      · rename_i j' hu
        refine ⟨_, hu, ?_⟩
        have : (x == y) = intBeq x y := by rw [Bool.eq_iff_iff, intBeq_iff]; simp
        simp [Instr.sameNow, this]
      · cases hf
  · rename_i x y
    obtain ⟨s, rfl, hs⟩ := hk
    obtain ⟨s', rfl, hs'⟩ := ha
    simp only [Option.some.injEq] at h
    subst h
    simp only [keyFits] at hf
    split at hf
    · rename_i hu
      refine ⟨_, hu, ?_⟩
      have : (s == s') = natsBeq x y := by
        rw [beq_toListBytes, Bool.eq_iff_iff, natsBeq_iff, ← hs, ← hs', ByteArray.toList_eq, ByteArray.toList_eq]
        constructor
        · intro e; have e' := eq_of_beq e; unfold bytesNat; rw [e']
        · intro e; rw [bytesNat_inj e]; simp
      simp [Instr.sameNow, this]
    · cases hf
  · cases h
/-- What is found is found. -/
def FoundR (ρ : Rho) : Option (Nat × AV) → Option (Nat × Value) → Prop
  | none, r => r = none
  | some (i, a), r => ∃ x, r = some (i, x) ∧ VR ρ a x
theorem findEnt_ok {k : AV} {vk : Value} {t : TypeId} {d : TypeDesc} (hk : VR ρ k vk) (hf : keyFits P t k = true) (hd : P.underlying t = some d) : ∀ (es : List Ent) (es' : List MapEntry) (i : Nat) (r : Option (Nat × AV)),
    ERs ρ es es' → findEnt k es i = some r → ∃ r', Instr.findNow d vk es' i = some r' ∧ FoundR ρ r r'
  | [], es', i, r, he, h => by
    simp only [ERs] at he; subst he
    simp only [findEnt, Option.some.injEq] at h; subst h
    exact ⟨none, rfl, rfl⟩
  | en :: es, es', i, r, he, h => by
    obtain ⟨x, xs, rfl, h1, h2, h3, h4⟩ := he
    simp only [findEnt] at h
    cases hb : keyBeq k en.key with
    | none => simp [hb] at h
    | some b =>
      obtain ⟨d', hd', hs⟩ := keyBeq_ok (P := P) hk h1 hf hb
      rw [hd] at hd'; cases hd'
      cases b with
      | true =>
        simp only [hb, Option.some.injEq] at h; subst h
        exact ⟨some (i, x.val), by simp [Instr.findNow, hs], x.val, rfl, h2⟩
      | false =>
        simp only [hb] at h
        obtain ⟨r', hr, hf'⟩ := findEnt_ok hk hf hd es xs (i + 1) r h4 h
        exact ⟨r', by simp [Instr.findNow, hs, hr], hf'⟩
theorem ERs.length : ∀ {es : List Ent} {es' : List MapEntry}, ERs ρ es es' → es'.length = es.length
  | [], _, h => by simp [ERs] at h; simp [h]
  | _ :: _, _, ⟨x, xs, e, _, _, _, h⟩ => by subst e; simp [ERs.length h]
theorem checkKey_aux {k : AV} {vk : Value} {t : TypeId} (hk : VR ρ k vk) (hf : keyFits P t k = true) (b : Bool) (w : World) (n : Nat) : (Instr.checkKey b (n + 1) t vk).run P w = .ok () w := by
  unfold keyFits at hf
  split at hf
  · simp only [VR] at hk; subst hk
    split at hf
    · rename_i hu
      simp [Instr.checkKey, run_und hu]
    · cases hf
  · obtain ⟨s, rfl, _⟩ := hk
    split at hf
    · rename_i hu
      simp [Instr.checkKey, run_und hu]
    · cases hf
  · cases hf
theorem checkKey_ok {k : AV} {vk : Value} {t : TypeId} (hk : VR ρ k vk) (hf : keyFits P t k = true) (b : Bool) (w : World) : (Instr.checkKey b 10000 t vk).run P w = .ok () w := checkKey_aux hk hf b w 9999
theorem keyFits_und {k : AV} {t : TypeId} (hf : keyFits P t k = true) : ∃ d, P.underlying t = some d := by
  cases hu : P.underlying t with
  | some d => exact ⟨d, rfl⟩
  | none => cases k <;> simp [keyFits, hu] at hf
theorem isMap_und {t kt et : TypeId} (h : isMap P t = some (kt, et)) : P.underlying t = some (.map kt et) := by
  unfold isMap at h
  split at h
  · rename_i hu; simp only [Option.some.injEq, Prod.mk.injEq] at h; obtain ⟨rfl, rfl⟩ := h; exact hu
  · cases h
theorem entsOf_ok [Glob] {h : Heap} {w : World} (hw : WR ρ h w) {m : AV} {vm : Value} {es : List Ent} (hm : VR ρ m vm) (he : entsOf h m = some es) :
    (vm = .map none ∧ es = []) ∨ ∃ (B : Nat) (es' : Array MapEntry) (clock : Nat), vm = .map (some B) ∧ w.heap[B]? = some (.map es' clock) ∧ ERs ρ es es'.toList := by
  unfold entsOf at he
  split at he
  · simp only [VR] at hm; simp only [Option.some.injEq] at he
    exact .inl ⟨hm, he.symm⟩
  · rename_i b
    split at he
    · rename_i es0 clock hg
      simp only [Option.some.injEq] at he; subst he
      obtain ⟨l, hl, rfl⟩ := hm
      obtain ⟨es', h1, h2⟩ := hw.blk b _ l hg hl
      exact .inr ⟨l.B, es', clock, rfl, h1, h2⟩
    · cases he
  · cases he
theorem run_getMap {w : World} {B : Nat} {es : Array MapEntry} {clock : Nat} (h : w.heap[B]? = some (.map es clock)) : (getObj B).run P w = .ok (.map es clock) w := by simp [getObj, Sem.run, h]
theorem rLookup_ok [Glob] {h : Heap} {w : World} (hw : WR ρ h w) {t : TypeId} {x i : Operand} {ok : Bool} {v : AV} (hx : XR ρ tm e x) (hi : XR ρ tm e i) (hr : rLookup P tm h t x i ok = some v) : ∃ y, (Instr.lookup t (e x) (e i) ok).run P w = .ok y w ∧ VR ρ v y := by
  unfold rLookup at hr
  split at hr
  · rename_i kt et m k hmap hm hk
    cases hf : keyFits P kt k with
    | false => simp [hf] at hr
    | true =>
      simp only [hf, cond_true] at hr
      have hu := isMap_und hmap
      obtain ⟨d, hd⟩ := keyFits_und hf
      have vk := hi _ hk
      split at hr
      · rename_i es hes
        have hget : ∃ es' : List MapEntry, ERs ρ es es' ∧ (∀ j y, (Instr.findKey kt (e i) es').run P w = .ok (some (j, y)) w → (Instr.lookup t (e x) (e i) ok).run P w = .ok (if ok then .tuple #[y, .bool true] else y) w) ∧
            (∀ z, (Instr.findKey kt (e i) es').run P w = .ok none w → (zeroValue et).run P w = .ok z w → (Instr.lookup t (e x) (e i) ok).run P w = .ok (if ok then .tuple #[z, .bool false] else z) w) := by
          rcases entsOf_ok hw (hx _ hm) hes with ⟨h1, h2⟩ | ⟨B, es', clock, h1, h2, h3⟩
          · subst h2
            exact ⟨[], rfl, fun j y hj => by simp [Instr.lookup, run_und hu, h1, checkKey_ok vk hf, hj], fun z hj hz => by simp [Instr.lookup, run_und hu, h1, checkKey_ok vk hf, hj, hz]⟩
          · exact ⟨es'.toList, h3, fun j y hj => by simp [Instr.lookup, run_und hu, h1, run_getMap h2, checkKey_ok vk hf, hj], fun z hj hz => by simp [Instr.lookup, run_und hu, h1, run_getMap h2, checkKey_ok vk hf, hj, hz]⟩
        obtain ⟨es', he', hfound, hnot⟩ := hget
        split at hr
        · rename_i j a hj
          obtain ⟨r', hr', y, rfl, hy⟩ := findEnt_ok vk hf hd es es' 0 _ he' hj
          simp only [Option.some.injEq] at hr; subst hr
          refine ⟨if ok then .tuple #[y, .bool true] else y, hfound j y (by simp [Instr.findKey, run_und hd, hr']), ?_⟩
          cases ok with
          | true => exact ⟨_, rfl, _, _, rfl, hy, _, _, rfl, rfl, rfl⟩
          | false => exact hy
        · rename_i hj
          obtain ⟨r', hr', hnone⟩ := findEnt_ok vk hf hd es es' 0 _ he' hj
          simp only [FoundR] at hnone; subst hnone
          split at hr
          · rename_i z hz
            obtain ⟨zv, hzv, hzr, _⟩ := zeroOf_run (ρ := ρ) hz w
            simp only [Option.some.injEq] at hr; subst hr
            refine ⟨if ok then .tuple #[zv, .bool false] else zv, hnot zv (by simp [Instr.findKey, run_und hd, hr']) hzv, ?_⟩
            cases ok with
            | true => exact ⟨_, rfl, _, _, rfl, hzr, _, _, rfl, rfl, rfl⟩
            | false => exact hzr
          · cases hr
        · cases hr
      · cases hr
  · cases hr
theorem intOf_und {t : TypeId} {k : IntKind} (h : intOf P t = some k) : P.underlying t = some (.int k) := by
  unfold intOf at h
  split at h
  · rename_i hu; simp only [Option.some.injEq] at h; subst h; exact hu
  · cases h
theorem szOf_info {t : TypeId} {n : Nat} (h : szOf P t = some n) : ∃ i, P.info? t = some i ∧ i.size = n := by
  unfold szOf at h
  simpa using h
theorem rConv_ok [Glob] {h : Heap} {w : World} (hw : WR ρ h w) {s d : TypeId} {x : Operand} {v : AV} (hx : XR ρ tm e x) (hr : rConv P tm h s d x = some v) : ∃ y, (convert s d (e x)).run P w = .ok y w ∧ VR ρ v y := by
  unfold rConv at hr
  split at hr
  · rename_i el a hs hd ha
    split at hr
    · rename_i hk
      have hel := intOf_und hk
      split at hr
      · simp only [Option.some.injEq] at hr; subst hr
        have : e x = .slice none 0 0 := hx _ ha
        refine ⟨.string .empty, ?_, .empty, rfl, rfl⟩
        rw [this, run_convert_bytes_string w s d el none 0 0 hs hel hd]
        simp [Conv.bytesToString]
      · rename_i b off len cap
        obtain ⟨l, c, hl, he, hc⟩ := hx _ ha
        split at hr
        · rename_i cs hcs
          simp only [Option.map_eq_some_iff] at hr
          obtain ⟨bs, hb, rfl⟩ := hr
          obtain ⟨vs, hn, hv, hcell⟩ := cellsAt_ok hw hcs hl
          obtain ⟨ub, h1, h2⟩ := bytesOfCells_ok hb hv
          have hlen : ub.length = len := by rw [← hn, h2]; simp
          refine ⟨.string ⟨ub.toArray⟩, ?_, _, rfl, by simpa [bytesNat] using h1⟩
          rw [he, ← hlen]
          refine run_convert_bytes_back w s d el _ c ub hs hel hd (fun j hj => ?_)
          exact hcell j _ (by rw [h2]; simp [hj])
        · cases hr
      · cases hr
    · cases hr
  · rename_i el b off hs hd ha
    split at hr
    · rename_i m cs ty esz opn stq fz link hsz hg
      cases hlt : Nat.blt off cs.length with
      | false => simp [hlt] at hr
      | true =>
        have hlt' : off < cs.length := by simpa [Nat.blt_eq] using hlt
        simp only [hlt, cond_true, Option.some.injEq] at hr; subst hr
        obtain ⟨l, hl, he⟩ := hx _ ha
        obtain ⟨c, fr, h1, h2, h3, h4, h5, h6⟩ := row_get hw hg hl
        have hcell : w.cell? ⟨l.B, l.o + off, none⟩ = some (c[l.o + off]'(by omega)) := by
          rw [cell_of h1]; simp
        obtain ⟨i, hi, hi2⟩ := szOf_info hsz
        refine ⟨.pointer (some ⟨l.B, l.o + off, none⟩), ?_, l, hl, rfl⟩
        rw [he]
        exact run_convert_to_unsafe hs hd (by simp [hi, hi2]) hcell
    · cases hr
  · rename_i u b off hs hd ha
    split at hr
    · rename_i m cs ty esz stq fz link hsz hg
      split at hr
      · rename_i hlies
        simp only [Option.some.injEq] at hr; subst hr
        obtain ⟨l, hl, he⟩ := hx _ ha
        obtain ⟨c, fr, h1, h2, h3, h4, h5, h6⟩ := row_get hw hg hl
        obtain ⟨ho, hk⟩ := h4 rfl
        have hsh : w.shape? l.B = some (ty, cs.length) := by simp [World.shape?, h1]; omega
        refine ⟨.pointer (some ⟨l.B, l.o + off, none⟩), ?_, l, hl, rfl⟩
        rw [he, ho, Nat.zero_add]
        have hsz' := szOf_run hsz w
        simp [convert, Conv.unsafePointer, Conv.seenAt, viewAt, run_und hs, run_und hd, hsz', hsh, variablesAt, hlies]
      · cases hr
    · cases hr
  · cases hr
theorem rLen_ok [Glob] {h : Heap} {w : World} (hw : WR ρ h w) {c : Call} {t : TypeId} {v : AV} (hx : ∀ x ∈ c.args.toList, XR ρ tm e x) (hr : rLen P tm h c.argTypes.toList c.args.toList = some v) : ∃ y, (Builtin.len_ c.argTypes t (c.args.map e)).run P w = .ok y w ∧ VR ρ v y := by
  unfold rLen at hr
  split at hr
  · rename_i t0 ts a as hts hargs
    have hs := evs_ok _ _ hx hargs
    obtain ⟨x, xs, hxs, hx1, hx2⟩ := hs
    have g1 : c.argTypes[0]? = some t0 := by rw [← Array.getElem?_toList, hts]; rfl
    have g2 : (c.args.map e)[0]? = some x := by rw [← Array.getElem?_toList, Array.toList_map, hxs]; rfl
    split at hr
    · rename_i s hu
      obtain ⟨s', rfl, hb⟩ := hx1
      simp only [Option.some.injEq] at hr; subst hr
      refine ⟨goInt s'.size, by simp only [Builtin.len_, g1, g2]; simp [run_und hu], ?_⟩
      rw [← hb, bytesNat_length]; rfl
    · rename_i el hu
      simp only [VR] at hx1; subst hx1
      simp only [Option.some.injEq] at hr; subst hr
      exact ⟨goInt 0, by simp only [Builtin.len_, g1, g2]; simp [run_und hu], rfl⟩
    · rename_i el b off n cap hu
      obtain ⟨l, cc, hl, rfl, hc⟩ := hx1
      simp only [Option.some.injEq] at hr; subst hr
      exact ⟨goInt n, by simp only [Builtin.len_, g1, g2]; simp [run_und hu], rfl⟩
    · rename_i kt et hu
      simp only [Option.map_eq_some_iff] at hr
      obtain ⟨es, hes, rfl⟩ := hr
      rcases entsOf_ok hw hx1 hes with ⟨h1, h2⟩ | ⟨B, es', clock, h1, h2, h3⟩
      · subst h1 h2
        exact ⟨goInt 0, by simp only [Builtin.len_, g1, g2]; simp [run_und hu], rfl⟩
      · subst h1
        have := h3.length
        simp only [Array.length_toList] at this
        refine ⟨goInt es'.size, by simp only [Builtin.len_, g1, g2]; simp [run_und hu, run_getMap h2], ?_⟩
        rw [this]; rfl
    · cases hr
  · cases hr
theorem read_ok [Glob] {h : Heap} {w : World} (hw : WR ρ h w) {o : Oper} {v : AV} (hx : ∀ x ∈ o.op.operands, XR ρ tm e x) (hr : aRead P tm h o = some v) : ∃ y, (execOp e o).run P w = .ok (.value y) w ∧ VR ρ v y := by
  obtain ⟨dst, op, type, pos, after, guard⟩ := o
  have fin : ∀ {s : Sem Value}, (∃ y, s.run P w = .ok y w ∧ VR ρ v y) → ∃ y, (do pure (.value (← s)) : Sem Next).run P w = .ok (.value y) w ∧ VR ρ v y := by
    rintro s ⟨y, hy, hv⟩
    exact ⟨y, by simp [hy], hv⟩
  cases op <;> simp only [aRead, reduceCtorEq] at hr <;> simp only [Op.operands] at hx
  case load t a =>
    unfold rLoad at hr
    split at hr
    · rename_i b off ha
      obtain ⟨l, hl, he⟩ := hx a (by simp) _ ha
      obtain ⟨y, hy, hv⟩ := aLoad_ok hw hr hl
      refine fin ⟨y, ?_, hv⟩
      simp [Instr.loadAt, he, Instr.sureAddr, hy]
    · cases hr
  case lookup t x i ok => exact fin (rLookup_ok hw (hx x (by simp)) (hx i (by simp)) hr)
  case convert s d x => exact fin (rConv_ok hw (hx x (by simp)) hr)
  case call c =>
    unfold rCall at hr
    split at hr
    · rename_i hc
      obtain ⟨y, hy, hv⟩ := rLen_ok (P := P) (e := e) (t := type) hw (fun x hm => hx x (by simp [Call.operands, hc]; simpa using hm)) hr
      exact ⟨y, by simp [execOp, resolve, hc, invoke, builtin, hy], hv⟩
    · rename_i hc
      unfold rSlData at hr
      have hs : ∀ as, evs tm c.args.toList = some as → VRs ρ as (c.args.map e).toList := fun as ha => by
        rw [Array.toList_map]
        exact evs_ok _ _ (fun x hm => hx x (by simp [Call.operands, hc]; simpa using hm)) ha
      split at hr
      · rename_i ha
        obtain ⟨x, xs, hxs, hx1, hx2⟩ := hs _ ha
        simp only [VR] at hx1; simp only [VRs] at hx2; subst hx1 hx2
        have he : c.args.map e = #[.slice none 0 0] := Array.toList_inj.1 hxs
        simp only [Option.some.injEq] at hr; subst hr
        exact ⟨.pointer none, by simp [execOp, resolve, hc, invoke, builtin, he, Lib.run_unsafeSliceData_nil], rfl⟩
      · rename_i b off n es ha
        obtain ⟨x, xs, hxs, ⟨l, cc, hl, rfl, hcap, _⟩, hx2⟩ := hs _ ha
        simp only [VRs] at hx2; subst hx2
        have he : c.args.map e = #[.slice (some ⟨l.B, l.o + off, none⟩) (n + 1) cc] := Array.toList_inj.1 hxs
        simp only [Option.some.injEq] at hr; subst hr
        have hne : cc ≠ 0 := by omega
        exact ⟨.pointer (some ⟨l.B, l.o + off, none⟩), by simp [execOp, resolve, hc, invoke, builtin, he, Lib.run_unsafeSliceData_row _ _ _ _ _ _ hne], l, hl, rfl⟩
      · cases hr
    · cases hr
end Go.Proofs.YtdkeobkooiaacaaGreatDoor.Ev
namespace Go.Proofs.YtdkeobkooiaacaaGreatDoor.Ev
variable {P : Program} {ρ : Rho} {tm : Tr AV} {e : Operand → Value}
theorem VRs.of_get : ∀ {as : List AV} {xs : List Value}, as.length = xs.length → (∀ (i : Nat) (a : AV), as[i]? = some a → ∃ x, xs[i]? = some x ∧ VR ρ a x) → VRs ρ as xs
  | [], [], _, _ => rfl
  | [], _ :: _, h, _ => by simp at h
  | _ :: _, [], h, _ => by simp at h
  | a :: as, x :: xs, h, hg => by
    refine ⟨x, xs, rfl, ?_, VRs.of_get (by simpa using h) fun i b hb => ?_⟩
    · obtain ⟨y, hy, hv⟩ := hg 0 a rfl
      simp at hy; subst hy; exact hv
    · obtain ⟨y, hy, hv⟩ := hg (i + 1) b (by simpa using hb)
      exact ⟨y, by simpa using hy, hv⟩
theorem VRs.get {as : List AV} {xs : List Value} (h : VRs ρ as xs) {i : Nat} {a : AV} (ha : as[i]? = some a) : ∃ x, xs[i]? = some x ∧ VR ρ a x := VRs.nth i h (by rw [nth_eq]; exact ha)
theorem repCells_length (z : List AV) : ∀ n, (repCells z n).length = n * z.length
  | 0 => by simp [repCells]
  | n + 1 => by simp [repCells, repCells_length z n, Nat.succ_mul]; omega
theorem repCells_get (z : List AV) : ∀ (n i : Nat), i < n * z.length → (repCells z n)[i]? = z[i % z.length]?
  | 0, i, h => by simp at h
  | n + 1, i, h => by
    simp only [repCells]
    by_cases hi : i < z.length
    · rw [List.getElem?_append_left hi, Nat.mod_eq_of_lt hi]
    · have hz : 0 < z.length := by
        rcases Nat.eq_zero_or_pos z.length with h0 | h0
        · simp [h0] at h
        · exact h0
      rw [List.getElem?_append_right (by omega), repCells_get z n (i - z.length) (by rw [Nat.succ_mul] at h; omega)]
      congr 1
      exact (Nat.mod_eq_sub_mod (by omega)).symm
theorem rep_ok {z : List AV} {zv : Array Value} (h : VRs ρ z zv.toList) (n : Nat) : VRs ρ (repCells z n) ((Array.range (n * zv.size)).map (zv[· % zv.size]!)).toList := by
  have hl := h.length
  simp only [Array.length_toList] at hl
  refine VRs.of_get ?_ fun i a ha => ?_
  · rw [repCells_length, ← hl]; simp
  · have hi : i < n * z.length := by
      have := (List.getElem?_eq_some_iff.1 ha).1
      rwa [repCells_length] at this
    have hz : 0 < z.length := by
      rcases Nat.eq_zero_or_pos z.length with h0 | h0
      · simp [h0] at hi
      · exact h0
    rw [repCells_get z n i hi] at ha
    obtain ⟨x, hx, hv⟩ := h.get ha
    refine ⟨x, ?_, hv⟩
    have hi' : i < n * zv.size := by rw [hl]; exact hi
    have hm : i % zv.size < zv.size := Nat.mod_lt _ (by omega)
    have hx' : zv[i % zv.size]? = some x := by rw [hl]; simpa using hx
    simp only [Array.toList_map, Array.toList_range, List.getElem?_map, List.getElem?_range hi', Option.map_some, Option.some.injEq]
    rw [getElem!_pos zv (i % zv.size) hm]
    exact (Array.getElem?_eq_some_iff.1 hx').2
/-- What an operation that lays a block does. -/
structure Lays (P : Program) (ρ : Rho) (w : World) (n : Pos) (s : Sem Value) (v : AV) (bl : Blk) : Prop where
  ok : ∃ (o : Obj) (l : Loc) (y : Value), s.run P w = .ok y { w with heap := w.heap.push o } ∧ l.B = w.heap.size ∧ (∀ w' : World, w'.heap[l.B]? = some o → BR ρ l w' bl) ∧ VR (fun b => if b = n then some l else ρ b) v y
  link : ∀ cs ty esz opn stq fz link, bl = .row cs ty esz opn stq fz link → link = none
theorem row_lays {s : Sem Value} {w : World} {n : Pos} {cs : List AV} {c : Array Value} {t : TypeId} {sz : Nat} {v : AV} {y : Value} (hc : VRs ρ cs c.toList) (hs : s.run P w = .ok y { w with heap := w.heap.push (.cells c t) })
    (hv : VR (fun b => if b = n then some ⟨w.heap.size, 0, c.size⟩ else ρ b) v y) : Lays P ρ w n s v (.row cs t sz false false 0 none) := by
  have hl := hc.length
  simp only [Array.length_toList] at hl
  refine ⟨⟨.cells c t, ⟨w.heap.size, 0, c.size⟩, y, hs, rfl, fun w' hw' => ⟨c, (0, 0), hw', rfl, by simp; omega, fun _ => ⟨rfl, hl.symm⟩, ?_, .inr (.inl rfl)⟩, hv⟩, ?_⟩
  · simp only [List.drop_zero]
    rw [List.take_of_length_le (by simp; omega)]
    exact hc
  · rintro _ _ _ _ _ _ _ h; cases h; rfl
theorem splice_length {α : Type} : ∀ (n : Nat) (xs cs : List α), n + xs.length ≤ cs.length → (splice n xs cs).length = cs.length
  | n, [], cs, _ => by cases n <;> cases cs <;> rfl
  | 0, x :: xs, [], h => by simp at h
  | 0, x :: xs, y :: cs, h => by simp [splice, splice_length 0 xs cs (by simpa using h)]
  | n + 1, x :: xs, [], h => by simp at h
  | n + 1, x :: xs, y :: cs, h => by simp [splice, splice_length n (x :: xs) cs (by simp at h ⊢; omega)]
theorem aArrFill_length {size : Nat} : ∀ (ps : List (Nat × AV)) (cs r : List AV), aArrFill size cs ps = some r → r.length = cs.length
  | [], cs, r, h => by simp [aArrFill] at h; simp [h]
  | (i, a) :: ps, cs, r, h => by
    simp only [aArrFill] at h
    cases hb : (Nat.beq a.cells.length size && Nat.ble (i * size + size) cs.length) with
    | false => simp [hb] at h
    | true =>
      simp only [hb, cond_true] at h
      simp only [Bool.and_eq_true] at hb
      have h1 := Nat.eq_of_beq_eq_true hb.1
      have h2 := Nat.le_of_ble_eq_true hb.2
      rw [aArrFill_length ps _ r h, splice_length _ _ _ (by omega)]
theorem bif_some {α : Type} {b : Bool} {x : α} {r : α} (h : (bif b then some x else none) = some r) : b = true ∧ x = r := by
  cases b <;> simp at h; exact ⟨rfl, h⟩
theorem lAlloc_ok {t : TypeId} {n : Pos} {v : AV} {bl : Blk} (h : lAlloc P n t = some (v, bl)) (w : World) : Lays P ρ w n (Instr.alloc t true (.tuple #[])) v bl := by
  unfold lAlloc at h
  split at h
  · rename_i z sz hz hsz
    obtain ⟨hb, he⟩ := bif_some h
    cases he
    obtain ⟨zv, hzv, hzr, _⟩ := zeroCells_run (ρ := ρ) hz w
    refine row_lays hzr (y := .pointer (some ⟨w.heap.size, 0, none⟩)) ?_ ⟨_, if_pos rfl, rfl⟩
    simp [Instr.alloc, hzv, newVar, newRow]
  · cases h
theorem lBox_ok {t : TypeId} {x : Operand} {n : Pos} {v : AV} {bl : Blk} (hx : XR ρ tm e x) (h : lBox P tm n t x = some (v, bl)) (w : World) : Lays P ρ w n (Instr.box t (e x)) v bl := by
  unfold lBox at h
  split at h
  · rename_i a sz ha hsz
    obtain ⟨hb, he⟩ := bif_some h
    cases he
    refine row_lays (cells_ok (hx _ ha)) (y := .pointer (some ⟨w.heap.size, 0, none⟩)) ?_ ⟨_, if_pos rfl, rfl⟩
    simp [Instr.box, newVar, newRow]
  · cases h
theorem elemOf_und {t el : TypeId} (h : elemOf P t = some el) : P.underlying t = some (.slice el) := by
  unfold elemOf at h
  split at h
  · rename_i hu; simp only [Option.some.injEq] at h; subst h; exact hu
  · cases h
theorem lSlice_ok {t : TypeId} {len : Nat} {parts : Array (Nat × Operand)} {n : Pos} {v : AV} {bl : Blk} (hx : ∀ p ∈ parts.toList, XR ρ tm e p.2) (h : lSlice P tm n t len parts.toList = some (v, bl)) (w : World) :
    Lays P ρ w n (Instr.buildSlice t len (parts.map fun (i, x) => (i, e x))) v bl := by
  have hl : (parts.map fun (i, x) => (i, e x)).toList = parts.toList.map fun p => (p.1, e p.2) := by simp
  unfold lSlice at h
  split at h
  · rename_i el hel
    have hu := elemOf_und hel
    split at h
    · rename_i sz z ps hsz hz hp
      cases hb : (Nat.beq z.length sz && Nat.blt 0 sz && Nat.ble (len * sz) 16777216) with
      | false => simp [hb] at h
      | true =>
        simp only [hb, cond_true, Option.map_eq_some_iff] at h
        obtain ⟨r, hr, he⟩ := h
        cases he
        simp only [Bool.and_eq_true, Nat.blt_eq] at hb
        have h1 := Nat.eq_of_beq_eq_true hb.1.1
        have h2 := hb.1.2
        have h3 := Nat.le_of_ble_eq_true hb.2
        obtain ⟨zv, hzv, hzr, _⟩ := zeroCells_run (ρ := ρ) hz w
        have hzl := hzr.length
        simp only [Array.length_toList] at hzl
        have hpr := evParts_ok (ρ := ρ) (tm := tm) (e := e) _ _ hx hp
        have hcells : VRs ρ (repCells z len) ((Array.range (len * sz)).map ((if len * sz = 0 then #[] else zv.cells)[· % (if len * sz = 0 then #[] else zv.cells).size]!)).toList := by
          by_cases h0 : len * sz = 0
          · have : len = 0 := by
              rcases Nat.mul_eq_zero.1 h0 with h | h
              · exact h
              · omega
            subst this
            simp [repCells, VRs]
          · simp only [h0, if_false]
            have := rep_ok hzr len
            rw [hzl, h1] at this
            rw [hzl, h1]
            exact this
        obtain ⟨ws, hw, hwr⟩ := aArrFill_ok (ρ := ρ) (size := sz) ps _ _ r _ hpr hcells hr
        refine row_lays hwr (y := .slice (some ⟨w.heap.size, 0, none⟩) len len) ?_ ⟨_, len, if_pos rfl, rfl, Nat.le_refl _, h2, ?_⟩
        · rw [← hl] at hw
          have h3' : ¬ (len * sz > 2 ^ 24) := by omega
          by_cases h0 : len * sz = 0
          · simp only [h0, if_true] at hw
            simp only [Instr.buildSlice, Sem.run_bind, run_und hu, Result.andThen_ok, szOf_run hsz, h3', if_false]
            have hr0 : ∀ f : Nat → Value, (Array.range 0).map f = #[] := fun f => by simp
            rw [hr0] at hw
            simp only [h0, if_true, hr0, hw]
            simp [newRow]
          · simp only [h0, if_false] at hw
            simp only [Instr.buildSlice, Sem.run_bind, run_und hu, Result.andThen_ok, szOf_run hsz, h3', h0, if_false, Sem.run_pure, hzv, hw]
            simp [newRow]
        · have h4 := hwr.length
          have h5 := aArrFill_length _ _ _ hr
          rw [repCells_length, h1] at h5
          simp only [Array.length_toList] at h4
          simp only [Nat.add_zero]
          rw [h4, h5, Nat.mul_comm]
    · cases h
  · cases h
theorem wrap_small {n : Nat} (h : n < 65536) : IntKind.i64.wrap (n : Int) = n := by
  rw [← awrap_eq]
  have : Nat.blt n (halfOf .i64) = true := by rw [Nat.blt_eq]; simp [halfOf]; omega
  show (bif Nat.blt n (halfOf .i64) then _ else _) = _
  rw [this]; rfl
theorem lMake_ok {t : TypeId} {l c : Operand} {n : Pos} {v : AV} {bl : Blk} (hl : XR ρ tm e l) (hc : XR ρ tm e c) (h : lMake P tm n t l c = some (v, bl)) (w : World) : Lays P ρ w n (Instr.makeSlice t (e l) (e c)) v bl := by
  unfold lMake at h
  split at h
  · rename_i el _ ln _ cn hel hln hcn
    have hu := elemOf_und hel
    have e1 := ev_int hl hln
    have e2 := ev_int hc hcn
    split at h
    · rename_i sz z by_ hsz hz hby
      obtain ⟨hb, he⟩ := bif_some h
      cases he
      simp only [Bool.and_eq_true, Nat.blt_eq] at hb
      have h1 := Nat.eq_of_beq_eq_true hb.1.1.1.1
      have h2 := hb.1.1.1.2
      have h3 := Nat.le_of_ble_eq_true hb.1.1.2
      have h4 := hb.1.2
      have h5 := hb.2
      obtain ⟨zv, hzv, hzr, _⟩ := zeroCells_run (ρ := ρ) hz w
      have hzl := hzr.length
      simp only [Array.length_toList] at hzl
      obtain ⟨i, hi, hib⟩ : ∃ i, P.info? el = some i ∧ i.bytes = by_ := by simpa using hby
      have hcells : VRs ρ (repCells z cn) ((Array.range (cn * sz)).map ((if cn * sz = 0 then #[] else zv.cells)[· % (if cn * sz = 0 then #[] else zv.cells).size]!)).toList := by
        by_cases h0 : cn * sz = 0
        · have : cn = 0 := by
            rcases Nat.mul_eq_zero.1 h0 with h | h
            · exact h
            · omega
          subst this
          simp [repCells, VRs]
        · simp only [h0, if_false]
          have := rep_ok hzr cn
          rw [hzl, h1] at this
          rw [hzl, h1]
          exact this
      have hw1 := wrap_small (n := ln) (by omega)
      have hw2 := wrap_small h4
      have hprod : (i.bytes : Int) * cn ≤ 2 ^ 48 := by
        have : i.bytes * cn ≤ 65536 * 65536 := Nat.mul_le_mul (by omega) (by omega)
        have h' : ((i.bytes * cn : Nat) : Int) ≤ ((65536 * 65536 : Nat) : Int) := by exact_mod_cast this
        have h'' : ((i.bytes * cn : Nat) : Int) = (i.bytes : Int) * cn := by push_cast; rfl
        rw [← h'']
        calc _ ≤ _ := h'
          _ ≤ _ := by decide
      refine row_lays hcells (y := .slice (some ⟨w.heap.size, 0, none⟩) ln cn) ?_ ⟨_, cn, if_pos rfl, rfl, h3, h2, ?_⟩
      · have n1 : ¬ ((cn : Int) < 0) := by omega
        have n2 : ¬ ((ln : Int) < 0) := by omega
        have n3 : ¬ ((ln : Int) > cn) := by omega
        have n4 : ((281474976710656 : Int) < (i.bytes : Int) * cn) = False := by
          have : (2 : Int) ^ 48 = 281474976710656 := by decide
          rw [this] at hprod
          simp; omega
        by_cases h0 : cn * sz = 0
        · simp only [Instr.makeSlice, Sem.run_bind, run_und hu, Result.andThen_ok, e1, e2, asInt, asIntOf, typeInfo, run_program, hi, Sem.run_pure, Int.ofNat_eq_natCast, hw1, hw2]
          simp [n1, n2, n3, n4, h0, newRow, szOf_run hsz]
        · simp only [Instr.makeSlice, Sem.run_bind, run_und hu, Result.andThen_ok, e1, e2, asInt, asIntOf, typeInfo, run_program, hi, Sem.run_pure, Int.ofNat_eq_natCast, hw1, hw2]
          simp [n1, n2, n3, n4, h0, newRow, szOf_run hsz, hzv]
      · simp only [Nat.add_zero]
        simp [Nat.mul_comm]
    · cases h
  · cases h
theorem lMap_ok {t : TypeId} {r : Option Operand} {n : Pos} {v : AV} {bl : Blk} (hx : ∀ y, r = some y → XR ρ tm e y) (h : lMap P tm n t r = some (v, bl)) (w : World) : Lays P ρ w n (Instr.makeMap t (r.map e)) v bl := by
  have key : v = .map n ∧ bl = .mp [] 0 ∧ (Instr.makeMap t (r.map e)).run P w = .ok (.map (some w.heap.size)) { w with heap := w.heap.push (.map #[] 0) } := by
    cases r with
    | none =>
      simp only [lMap, Option.some.injEq, Prod.mk.injEq] at h
      exact ⟨h.1.symm, h.2.symm, by simp [Instr.makeMap]⟩
    | some x =>
      simp only [lMap] at h
      split at h
      · rename_i kt k z hm hn
        simp only [Option.some.injEq, Prod.mk.injEq] at h
        have e1 := ev_int (hx x rfl) hn
        have hu := isMap_und (kt := kt.1) (et := kt.2) hm
        exact ⟨h.1.symm, h.2.symm, by simp [Instr.makeMap, e1, asInt, asIntOf, run_und hu]⟩
      · cases h
  obtain ⟨rfl, rfl, hrun⟩ := key
  exact ⟨⟨_, ⟨w.heap.size, 0, 0⟩, _, hrun, rfl, fun w' hw' => ⟨#[], hw', rfl⟩, ⟨_, if_pos rfl, rfl⟩⟩, fun _ _ _ _ _ _ _ h => by cases h⟩
theorem lRange_ok {t : TypeId} {x : Operand} {n : Pos} {v : AV} {bl : Blk} (hx : XR ρ tm e x) (h : lRange P tm n t x = some (v, bl)) (w : World) : Lays P ρ w n (Instr.range t (e x)) v bl := by
  unfold lRange at h
  split at h
  · rename_i s hu hs
    simp only [Option.some.injEq, Prod.mk.injEq] at h
    obtain ⟨rfl, rfl⟩ := h
    obtain ⟨s', he, hb⟩ := hx _ hs
    refine ⟨⟨.stringIter s' 0, ⟨w.heap.size, 0, 0⟩, .pointer (some ⟨w.heap.size, 0, none⟩), ?_, rfl, fun w' hw' => ⟨s', hw', hb, rfl⟩, ⟨_, if_pos rfl, rfl⟩⟩, fun _ _ _ _ _ _ _ h => by cases h⟩
    rw [he]
    simp [Instr.range, run_und hu]
  · cases h
theorem alloc_ok {o : Oper} {n : Pos} {v : AV} {bl : Blk} (hx : ∀ x ∈ o.op.operands, XR ρ tm e x) (h : aAlloc P tm n o = some (v, bl)) (w : World) : ∃ s : Sem Value, execOp e o = (do pure (.value (← s))) ∧ Lays P ρ w n s v bl := by
  obtain ⟨dst, op, type, pos, after, guard⟩ := o
  cases op <;> simp only [aAlloc, reduceCtorEq] at h <;> simp only [Op.operands] at hx
  case alloc t => exact ⟨_, rfl, lAlloc_ok h w⟩
  case box t x => exact ⟨_, rfl, lBox_ok (hx x (by simp)) h w⟩
  case buildSlice t len ps => exact ⟨_, rfl, lSlice_ok (fun p hp => hx p.2 (by simp; exact ⟨p.1, by simpa using hp⟩)) h w⟩
  case makeSlice t l c => exact ⟨_, rfl, lMake_ok (hx l (by simp)) (hx c (by simp)) h w⟩
  case makeMap t r => exact ⟨_, rfl, lMap_ok (fun y hy => hx y (by subst hy; simp)) h w⟩
  case range t x => exact ⟨_, rfl, lRange_ok (hx x (by simp)) h w⟩
end Go.Proofs.YtdkeobkooiaacaaGreatDoor.Ev
namespace Go.Proofs.YtdkeobkooiaacaaGreatDoor.Ev
variable {P : Program} {ρ : Rho} {tm : Tr AV} {e : Operand → Value}
def Blk.lnk : Blk → Option Pos
  | .row _ _ _ _ _ _ link => link
  | _ => none
theorem kill_get (l : Option Pos) (h : Heap) (b : Pos) : (kill l h).get b = if l = some b then none else h.get b := by
  cases l with
  | none => simp [kill]
  | some p =>
    simp only [kill, Tr.get_put, Option.some.injEq]
    by_cases e : b = p
    · simp [e]
    · rw [if_neg e, if_neg (fun x => e x.symm)]
/-- One block is changed. -/
theorem mod_wr [Glob] {h : Heap} {w w' : World} (hw : WR ρ h w) {b : Pos} {bl bl' : Blk} {l : Loc} (hg : h.get b = some bl) (hl : ρ b = some l) (hs : Mute w w' ∧ w'.heap.size = w.heap.size) (ho : ∀ B, B ≠ l.B → w'.heap[B]? = w.heap[B]?)
    (hbr : BR ρ l w' bl') : WR ρ ((kill bl.lnk h).put b (some bl')) w' ∧ Fr ρ h w ρ ((kill bl.lnk h).put b (some bl')) w' := by
  have hget : ∀ b', ((kill bl.lnk h).put b (some bl')).get b' = if b' = b then some bl' else if bl.lnk = some b' then none else h.get b' := fun b' => by
    rw [Tr.get_put, kill_get]
  have hother : ∀ b' l', b' ≠ b → bl.lnk ≠ some b' → h.get b' ≠ none → ρ b' = some l' → l'.B ≠ l.B := fun b' l' hne hk hb' hl' heq => by
    obtain ⟨cs, ty, esz, opn, stq, fz, hx⟩ := hw.inj b b' l l' (by rw [hg]; simp) hb' hl hl' (fun x => hne x.symm) heq.symm
    rw [hg] at hx
    cases hx
    exact hk rfl
  refine WF.mk' hw (fun b' x l' hb hl' => ?_) (fun b1 b2 l1 l2 hb1 hb2 hl1 hl2 hne heq => ?_) ⟨hs.1, by have := hs.2; omega, fun B hB hn => ho B fun x => hn ⟨b, l, by rw [hg]; simp, hl, x.symm⟩, fun B hB => .inr ?_⟩
  · rw [hget] at hb
    split at hb
    · rename_i hbb
      subst hbb
      rw [hl] at hl'; cases hl'; cases hb
      exact hbr
    · rename_i hbb
      split at hb
      · cases hb
      · rename_i hk
        have := hother b' l' hbb hk (by rw [hb]; simp) hl'
        exact (hw.blk b' x l' hb hl').same (ho _ this)
  · rw [hget] at hb1 hb2
    by_cases e1 : b1 = b
    · subst e1
      rw [hl] at hl1; cases hl1
      have e2 : b2 ≠ b1 := fun x => hne x.symm
      simp only [e2, if_false] at hb2
      split at hb2
      · exact absurd rfl hb2
      · rename_i hk
        exact absurd heq.symm (hother b2 l2 e2 hk hb2 hl2)
    · simp only [e1, if_false] at hb1
      split at hb1
      · exact absurd rfl hb1
      · rename_i hk1
        by_cases e2 : b2 = b
        · subst e2
          rw [hl] at hl2; cases hl2
          exact absurd heq (hother b1 l1 e1 hk1 hb1 hl1)
        · simp only [e2, if_false] at hb2
          split at hb2
          · exact absurd rfl hb2
          · obtain ⟨cs, ty, esz, opn, stq, fz, hx⟩ := hw.inj b1 b2 l1 l2 hb1 hb2 hl1 hl2 hne heq
            exact ⟨cs, ty, esz, opn, stq, fz, by rw [hget]; simp only [e1, if_false, hk1]; exact hx⟩
  · obtain ⟨b', l', hb, hl', he⟩ := hB
    rw [hget] at hb
    by_cases e1 : b' = b
    · subst e1; exact ⟨b', l', by rw [hg]; simp, hl', he⟩
    · simp only [e1, if_false] at hb
      split at hb
      · exact absurd rfl hb
      · exact ⟨b', l', hb, hl', he⟩
theorem one_ok {a : AV} {x : Value} (h : VR ρ a x) (ho : a.one = true) : x.oneCell' = true := by
  cases a
  case agg cs => cases ho
  case tuple cs => cases ho
  case bool b => simp only [VR] at h; subst h; rfl
  case int k n => simp only [VR] at h; subst h; rfl
  case str s => obtain ⟨t, rfl, ht⟩ := h; rfl
  case ptr0 => simp only [VR] at h; subst h; rfl
  case ptr b o => obtain ⟨l, hl, rfl⟩ := h; rfl
  case slice0 => simp only [VR] at h; subst h; rfl
  case slice b o n c => obtain ⟨l, k, hl, rfl, hc⟩ := h; rfl
  case map0 => simp only [VR] at h; subst h; rfl
  case map b => obtain ⟨l, hl, rfl⟩ := h; rfl
  case func0 => simp only [VR] at h; subst h; rfl
  case func f a c => obtain ⟨va, vc, rfl, h1, h2⟩ := h; rfl
  case yield b => obtain ⟨l, hl, rfl⟩ := h; rfl
  case iface0 => simp only [VR] at h; subst h; rfl
  case iface t v => obtain ⟨y, rfl, hy⟩ := h; rfl
theorem oneAll_ok : ∀ {as : List AV} {xs : List Value}, VRs ρ as xs → oneAll as = true → ∀ x ∈ xs, x.oneCell' = true
  | [], xs, h, _, x, hx => by simp only [VRs] at h; subst h; simp at hx
  | a :: as, xs, ⟨y, ys, e, h1, h2⟩, ho, x, hx => by
    subst e
    simp only [oneAll] at ho
    cases ha : a.one with
    | false => simp [ha] at ho
    | true =>
      simp only [ha, cond_true] at ho
      rcases List.mem_cons.1 hx with rfl | hx
      · exact one_ok h1 ha
      · exact oneAll_ok h2 ho x hx
theorem setCell_heap (w : World) (B i : Nat) (v : Value) (c : Array Value) (ty : TypeId) (fr : Nat × Nat) (h : w.heap[B]? = some (.cells c ty fr)) :
    (w.setCell ⟨B, i, none⟩ v).heap[B]? = some (.cells (c.setIfInBounds i v) ty fr) ∧ (w.setCell ⟨B, i, none⟩ v).heap.size = w.heap.size ∧ ∀ B', B' ≠ B → (w.setCell ⟨B, i, none⟩ v).heap[B']? = w.heap[B']? := by
  refine ⟨?_, by simp [World.setCell], fun B' hne => ?_⟩
  · simp [World.setCell, Array.getElem?_modify, h]
  · simp only [World.setCell, Array.getElem?_modify]
    rw [if_neg (fun x => hne x.symm)]
theorem storeCells_run (B off : Nat) (ty : TypeId) (fr : Nat × Nat) : ∀ (vs : List Value) (i : Nat) (w : World) (c : Array Value), w.heap[B]? = some (.cells c ty fr) → off + i + vs.length ≤ c.size → (∀ x ∈ vs, x.oneCell' = true) →
    (∀ j, off ≤ j → j < c.size → ¬ (fr.1 ≤ j ∧ j < fr.2)) →
    ∃ w', (storeCells ⟨B, off, none⟩ vs i).run P w = .ok () w' ∧ (Mute w w' ∧ w'.heap.size = w.heap.size) ∧ (∀ B', B' ≠ B → w'.heap[B']? = w.heap[B']?) ∧
      ∃ c' : Array Value, w'.heap[B]? = some (.cells c' ty fr) ∧ c'.toList = c.toList.take (off + i) ++ vs ++ c.toList.drop (off + i + vs.length)
  | [], i, w, c, h, _, _, _ => ⟨w, rfl, ⟨⟨rfl, rfl⟩, rfl⟩, fun _ _ => rfl, c, h, by simp⟩
  | v :: vs, i, w, c, h, hl, ho, hf => by
    simp only [List.length_cons] at hl
    obtain ⟨h1, h2, h3⟩ := setCell_heap w B (off + i) v c ty fr h
    obtain ⟨w', hr, hs, hoth, c', hc, hct⟩ := storeCells_run B off ty fr vs (i + 1) (w.setCell ⟨B, off + i, none⟩ v) (c.setIfInBounds (off + i) v) h1 (by simp; omega) (fun x hx => ho x (by simp [hx])) (by simpa using hf)
    have hcell : w.cell? ⟨B, off + i, none⟩ = some (c[off + i]'(by omega)) := by simp [World.cell?, h]
    have hfz : w.frozen? ⟨B, off + i, none⟩ = false := by
      simp only [World.frozen?, h]
      have := hf (off + i) (by omega) (by omega)
      simp only [Bool.and_eq_false_iff, decide_eq_false_iff_not]
      omega
    refine ⟨w', ?_, ⟨hs.1, hs.2.trans h2⟩, fun B' hne => (hoth B' hne).trans (h3 B' hne), c', hc, ?_⟩
    · simp only [storeCells, add_addr, Sem.run_bind]
      rw [run_store P w _ v _ (ho v (by simp)), hcell]
      simp only [hfz, Bool.false_eq_true, if_false, Result.andThen_ok]
      exact hr
    · rw [hct]
      have hl' : off + i < c.toList.length := by simp; omega
      simp only [Array.toList_setIfInBounds, List.length_cons]
      rw [show off + (i + 1) = off + i + 1 by omega, List.take_add_one, List.take_set_of_le (by omega), List.getElem?_set_self hl', List.drop_set_of_lt (by omega)]
      simp [Nat.add_right_comm, Nat.add_assoc]
      omega
theorem win_splice {α : Type} (c vs : List α) (o off n : Nat) (h : off + vs.length ≤ n) (h2 : o + n ≤ c.length) :
    ((c.take (o + off) ++ vs ++ c.drop (o + off + vs.length)).drop o).take n = ((c.drop o).take n).take off ++ vs ++ ((c.drop o).take n).drop (off + vs.length) := by
  have e1 : (c.take (o + off) ++ vs ++ c.drop (o + off + vs.length)).drop o = (c.drop o).take off ++ vs ++ c.drop (o + off + vs.length) := by
    rw [List.append_assoc, List.drop_append_of_le_length (by simp; omega), List.drop_take, ← List.append_assoc]
    congr 3; omega
  rw [e1, List.take_append, List.take_of_length_le (by simp; omega), List.take_take, Nat.min_eq_left (by omega), List.drop_take, List.drop_drop]
  congr 1
  have : ((c.drop o).take off ++ vs).length = off + vs.length := by simp; omega
  rw [this, show o + (off + vs.length) = o + off + vs.length by omega]
/-- Cells are written. -/
theorem writeAt_ok [Glob] {h h' : Heap} {w : World} (hw : WR ρ h w) {b : Pos} {off : Nat} {xs : List AV} {vs : List Value} (hx : VRs ρ xs vs) (hwr : writeAt h b off xs = some h') {l : Loc} (hl : ρ b = some l) :
    ∃ w', (storeCells ⟨l.B, l.o + off, none⟩ vs).run P w = .ok () w' ∧ WR ρ h' w' ∧ Fr ρ h w ρ h' w' := by
  unfold writeAt at hwr
  split at hwr
  · rename_i cs ty esz opn stq fz link hg
    obtain ⟨hb, he⟩ := bif_some hwr
    subst he
    simp only [Bool.and_eq_true] at hb
    have h1 := Nat.le_of_ble_eq_true hb.1.1.1
    have h2 := Nat.le_of_ble_eq_true hb.1.1.2
    have hone := hb.1.2
    have hsm : off < 1099511627776 := by simpa [Nat.blt_eq] using hb.2
    obtain ⟨c, fr, g1, g2, g3, g4, g5, g6⟩ := row_get hw hg hl
    have hlen := hx.length
    have hbig : off + xs.length ≤ cs.length := h2
    by_cases hvs : vs = []
    · subst hvs
      have hxs : xs = [] := by cases xs with | nil => rfl | cons a as => simp at hlen
      subst hxs
      refine ⟨w, rfl, ?_⟩
      have : splice off [] cs = cs := by cases off <;> cases cs <;> rfl
      rw [this]
      exact mod_wr hw (bl := .row cs ty esz opn stq fz link) hg hl ⟨⟨rfl, rfl⟩, rfl⟩ (fun _ _ => rfl) ⟨c, fr, g1, g2, g3, g4, g5, g6⟩
    · obtain ⟨w', hr, hs, hoth, c', hc, hct⟩ := storeCells_run (P := P) l.B (l.o + off) ty fr vs 0 w c g1 (by omega) (oneAll_ok hx hone) (fun j hj1 hj2 => by
        rcases g6 with g | g | g | ⟨_, g⟩
        · omega
        · omega
        · omega
        · omega)
      have hcs : c'.size = c.size := by
        have := congrArg List.length hct
        simp at this
        omega
      refine ⟨w', hr, ?_⟩
      refine mod_wr hw (bl := .row cs ty esz opn stq fz link) hg hl hs hoth ⟨c', fr, hc, by omega, by rw [splice_length _ _ _ hbig]; exact g3, fun ho => ?_, ?_, g6⟩
      · rw [splice_length _ _ _ hbig]; exact g4 ho
      · rw [splice_length _ _ _ hbig, hct]
        have := VRs.splice off hx g5 hbig
        rw [Nat.add_zero, win_splice _ _ _ _ _ (by omega) (by simp; omega)]
        exact this
  · cases hwr
end Go.Proofs.YtdkeobkooiaacaaGreatDoor.Ev
namespace Go.Proofs.YtdkeobkooiaacaaGreatDoor.Ev
variable {P : Program} {ρ : Rho} {tm : Tr AV} {e : Operand → Value}
theorem WR.heap [Glob] {h : Heap} {w w' : World} (hw : WR ρ h w) (he : w'.heap = w.heap) : WR ρ h w' :=
  ⟨fun b bl l hb hl => (hw.blk b bl l hb hl).same (by rw [he]), hw.inj, hw.glo.keep (by rw [he]), hw.apart⟩
theorem Fr.heap {ρ ρ' : Rho} {h h' : Heap} {w w₁ w₂ : World} (f : Fr ρ h w ρ' h' w₂) (he : w.heap = w₁.heap) (hm : Mute w₁ w) : Fr ρ h w₁ ρ' h' w₂ := ⟨⟨f.mute.1.trans hm.1, f.mute.2.trans hm.2⟩, he ▸ f.size, fun B hB hn => by rw [← he] at hB ⊢; exact f.keep B hB hn, fun B ho => he ▸ f.own B ho⟩
/-- What an operation does that calls nothing. -/
def EffOk [Glob] (P : Program) (ρ : Rho) (h : Heap) (n : Pos) (w : World) (s : Sem Next) (v : AV) (h' : Heap) (n' : Pos) : Prop :=
  ∃ nx w' ρ' x, s.run P w = .ok nx w' ∧ (nx = .value x ∨ (nx = .skip ∧ x = undef)) ∧ Did ρ h n w v h' n' x w' ρ'
theorem Did.stay [Glob] {h h' : Heap} {n : Pos} {w w' : World} {v : AV} {x : Value} (hw : WR ρ h' w') (hf : Fr ρ h w ρ h' w') (hv : VR ρ v x) : Did ρ h n w v h' n x w' ρ := ⟨Grow.refl n ρ, hv, hw, hf⟩
theorem undef_ok : VR ρ (.tuple []) undef := ⟨#[], rfl, rfl⟩
theorem eStore_ok [Glob] {h : Heap} {n : Pos} {w : World} (hw : WR ρ h w) {t : TypeId} {a x : Operand} {r : Eff} (ha : XR ρ tm e a) (hx : XR ρ tm e x) (hr : eStore P tm h n t a x = some r) :
    EffOk P ρ h n w (do Instr.storeAt t (e a) (e x); pure .skip) r.v r.h r.n := by
  unfold eStore at hr
  split at hr
  · rename_i b off v sz hb hv hs
    cases hl : Nat.beq v.cells.length sz with
    | false => simp [hl] at hr
    | true =>
      simp only [hl, cond_true, Option.map_eq_some_iff] at hr
      obtain ⟨h', hh, rfl⟩ := hr
      have hl' := Nat.eq_of_beq_eq_true hl
      obtain ⟨l, hl1, he1⟩ := ha _ hb
      have hv1 := hx _ hv
      have hsz := cellsSize_ok hv1
      obtain ⟨w', hrun, hw', hf⟩ := writeAt_ok (P := P) hw (cells_ok hv1) hh hl1
      refine ⟨.skip, w', ρ, undef, ?_, .inr ⟨rfl, rfl⟩, .stay hw' hf undef_ok⟩
      have : ¬ ((e x).cells.size ≠ sz) := by omega
      simp only [Instr.storeAt, he1, Instr.sureAddr, storeVar, Sem.run_bind, Sem.run_pure, Result.andThen_ok, szOf_run hs, this, if_false, hrun]
  · cases hr
theorem setEnt_ok {k v : AV} {vk vv : Value} (hk : VR ρ k vk) (hv : VR ρ v vv) : ∀ (es : List Ent) (es' : List MapEntry) (i : Nat), ERs ρ es es' → ERs ρ (setEnt k v es i) (es'.modify i fun e => { e with key := vk, val := vv })
  | [], es', i, h => by simp only [ERs] at h; subst h; simp [setEnt, ERs]
  | en :: es, es', 0, h => by
    obtain ⟨x, xs, rfl, h1, h2, h3, h4⟩ := h
    exact ⟨{ key := vk, val := vv, born := x.born }, xs, by simp, hk, hv, h3, h4⟩
  | en :: es, es', i + 1, h => by
    obtain ⟨x, xs, rfl, h1, h2, h3, h4⟩ := h
    exact ⟨x, _, by simp only [List.modify_succ_cons], h1, h2, h3, setEnt_ok hk hv es xs i h4⟩
theorem delEnt_ok : ∀ (es : List Ent) (es' : List MapEntry) (i : Nat), ERs ρ es es' → ERs ρ (delEnt es i) (es'.eraseIdx i)
  | [], es', i, h => by simp only [ERs] at h; subst h; simp [delEnt, ERs]
  | en :: es, es', 0, h => by
    obtain ⟨x, xs, rfl, h1, h2, h3, h4⟩ := h
    simpa [delEnt] using h4
  | en :: es, es', i + 1, h => by
    obtain ⟨x, xs, rfl, h1, h2, h3, h4⟩ := h
    exact ⟨x, _, by simp only [List.eraseIdx_cons_succ], h1, h2, h3, delEnt_ok es xs i h4⟩
theorem ERs.push {en : Ent} {x : MapEntry} (h1 : VR ρ en.key x.key) (h2 : VR ρ en.val x.val) (h3 : x.born = en.born) : ∀ {es : List Ent} {es' : List MapEntry}, ERs ρ es es' → ERs ρ (es ++ [en]) (es' ++ [x])
  | [], _, h => by simp only [ERs] at h; subst h; exact ⟨x, [], rfl, h1, h2, h3, rfl⟩
  | _ :: _, _, ⟨y, ys, e, a, b, c, d⟩ => by subst e; exact ⟨y, ys ++ [x], rfl, a, b, c, ERs.push h1 h2 h3 d⟩
theorem setObj_run {w : World} {B : Nat} {o o' : Obj} (h : w.heap[B]? = some o) (hc : ∀ c t f, o ≠ .cells c t f) : (setObj B o').run P w = .ok () { w with heap := w.heap.setIfInBounds B o' } := by
  cases o <;> first | exact absurd rfl (hc _ _ _) | simp [setObj, Sem.run, h]
theorem setObj_heap {w : World} {B : Nat} {o o' : Obj} (h : w.heap[B]? = some o) : ({ w with heap := w.heap.setIfInBounds B o' } : World).heap[B]? = some o' ∧ ∀ B', B' ≠ B → ({ w with heap := w.heap.setIfInBounds B o' } : World).heap[B']? = w.heap[B']? := by
  have hlt := (Array.getElem?_eq_some_iff.1 h).1
  refine ⟨by simp [hlt], fun B' hne => ?_⟩
  show (w.heap.setIfInBounds B o')[B']? = _
  rw [Array.getElem?_setIfInBounds, if_neg (fun x => hne x.symm)]
/-- A map's, or a walk's, block is changed. -/
theorem obj_did [Glob] {h : Heap} {n : Pos} {w : World} (hw : WR ρ h w) {b : Pos} {bl bl' : Blk} {l : Loc} {o o' : Obj} {v : AV} {x : Value} (hg : h.get b = some bl) (hl : ρ b = some l) (ho : w.heap[l.B]? = some o) (hlk : bl.lnk = none)
    (hbr : ∀ w' : World, w'.heap[l.B]? = some o' → BR ρ l w' bl') (hv : VR ρ v x) : Did ρ h n w v (h.put b (some bl')) n x { w with heap := w.heap.setIfInBounds l.B o' } ρ := by
  obtain ⟨h1, h2⟩ := setObj_heap (o' := o') ho
  have := mod_wr hw (w' := { w with heap := w.heap.setIfInBounds l.B o' }) hg hl ⟨⟨rfl, rfl⟩, by simp⟩ h2 (hbr _ h1)
  rw [hlk] at this
  exact .stay this.1 this.2 hv
theorem bytes_beq {a b : ByteArray} : (a == b) = true ↔ a = b := by
  rw [beq_toListBytes, ByteArray.toList_eq, ByteArray.toList_eq]
  constructor
  · intro h
    have := eq_of_beq h
    exact bytesNat_inj (by unfold bytesNat; rw [this])
  · intro h; subst h; simp
theorem keyStays {vk vo : Value} {d : TypeDesc} (hs : Instr.sameNow d vk vo = some true) (w : World) : (Instr.keyThatStays vo vk).run P w = .ok vk w := by
  have : Instr.sameBits (9999 + 1) vo vk = true := by
    unfold Instr.sameNow at hs
    split at hs
    · split at hs
      · rename_i hkk
        subst hkk
        simp at hs; subst hs
        simp [Instr.sameBits]
      · cases hs
    · simp only [Option.some.injEq] at hs
      have := bytes_beq.1 hs
      subst this
      simp only [Instr.sameBits]
      exact bytes_beq.2 rfl
    · simp only [Option.some.injEq] at hs
      have := eq_of_beq hs
      subst this
      simp [Instr.sameBits]
    · cases hs
  unfold Instr.keyThatStays
  rw [show Instr.sameBits 10000 vo vk = true from this]
  rfl
theorem findEnt_at {k : AV} {vk : Value} {t : TypeId} {d : TypeDesc} (hk : VR ρ k vk) (hf : keyFits P t k = true) (hd : P.underlying t = some d) : ∀ (es : List Ent) (es' : List MapEntry) (i j : Nat) (a : AV),
    ERs ρ es es' → findEnt k es i = some (some (j, a)) → i ≤ j ∧ ∃ en, es'[j - i]? = some en ∧ Instr.sameNow d vk en.key = some true
  | [], es', i, j, a, he, h => by simp [findEnt] at h
  | en :: es, es', i, j, a, he, h => by
    obtain ⟨x, xs, rfl, h1, h2, h3, h4⟩ := he
    simp only [findEnt] at h
    cases hb : keyBeq k en.key with
    | none => simp [hb] at h
    | some b =>
      obtain ⟨d', hd', hs⟩ := keyBeq_ok (P := P) hk h1 hf hb
      rw [hd] at hd'; cases hd'
      cases b with
      | true =>
        simp only [hb, Option.some.injEq, Prod.mk.injEq] at h
        obtain ⟨rfl, _⟩ := h
        exact ⟨Nat.le_refl _, x, by simp, hs⟩
      | false =>
        simp only [hb] at h
        obtain ⟨g1, en', g2, g3⟩ := findEnt_at hk hf hd es xs (i + 1) j a h4 h
        refine ⟨by omega, en', ?_, g3⟩
        rw [show j - i = (j - (i + 1)) + 1 by omega]
        simpa using g2
theorem aUpdate_ok [Glob] {h : Heap} {n : Pos} {w : World} (hw : WR ρ h w) {t : TypeId} {m k v : AV} {vm vk vv : Value} {r : Eff} (hm : VR ρ m vm) (hk : VR ρ k vk) (hv : VR ρ v vv) (hr : aUpdate P h n t m k v = some r) :
    EffOk P ρ h n w (do Instr.mapUpdate t vm vk vv; pure .skip) r.v r.h r.n := by
  unfold aUpdate at hr
  split at hr
  · rename_i kt et b hmap
    have hu := isMap_und (kt := kt) (et := et) hmap
    cases hf : keyFits P kt k with
    | false => simp [hf] at hr
    | true =>
      simp only [hf, cond_true] at hr
      obtain ⟨d, hd⟩ := keyFits_und hf
      split at hr
      · rename_i es clock hg
        obtain ⟨l, hl, rfl⟩ := hm
        obtain ⟨es', g1, g2⟩ := hw.blk b _ l hg hl
        have hset : ∀ o', (setObj l.B o').run P w = .ok () { w with heap := w.heap.setIfInBounds l.B o' } := fun o' => setObj_run g1 (by intro c t f h; cases h)
        split at hr
        · rename_i j a hj
          simp only [Option.some.injEq] at hr; subst hr
          obtain ⟨r', hr', y, rfl, hy⟩ := findEnt_ok hk hf hd es es'.toList 0 _ g2 hj
          obtain ⟨_, en, hen, hsame⟩ := findEnt_at hk hf hd es es'.toList 0 j a g2 hj
          have hen' : es'[j]? = some en := by simpa using hen
          refine ⟨.skip, _, ρ, undef, ?_, .inr ⟨rfl, rfl⟩, obj_did hw (o' := .map (es'.modify j fun e => { e with key := vk, val := vv }) clock) hg hl g1 rfl (fun w' hw' => ⟨_, hw', ?_⟩) undef_ok⟩
          · have hks : (Instr.keyThatStays en.key vk).run P w = .ok vk w := keyStays hsame w
            have hks' : (Instr.keyThatStays (((es'[j]?).map (·.key)).getD vk) vk).run P w = .ok vk w := by rw [hen']; exact hks
            simp only [Instr.mapUpdate, Sem.run_bind, run_und hu, Result.andThen_ok, run_getMap g1, checkKey_ok hk hf, Instr.findKey, run_und hd, hr', Sem.run_pure, hks', hset]
          · rw [Array.toList_modify]
            exact setEnt_ok hk hv es es'.toList j g2
        · rename_i hj
          simp only [Option.some.injEq] at hr; subst hr
          obtain ⟨r', hr', hnone⟩ := findEnt_ok hk hf hd es es'.toList 0 _ g2 hj
          simp only [FoundR] at hnone; subst hnone
          refine ⟨.skip, _, ρ, undef, ?_, .inr ⟨rfl, rfl⟩, obj_did hw (o' := .map (es'.push { key := vk, val := vv, born := clock }) (clock + 1)) hg hl g1 rfl (fun w' hw' => ⟨_, hw', ?_⟩) undef_ok⟩
          · simp only [Instr.mapUpdate, Sem.run_bind, run_und hu, Result.andThen_ok, run_getMap g1, checkKey_ok hk hf, Instr.findKey, run_und hd, hr', Sem.run_pure, hset]
          · rw [Array.toList_push]
            exact ERs.push hk hv rfl g2
        · cases hr
      · cases hr
  · cases hr
theorem eUpdate_ok [Glob] {h : Heap} {n : Pos} {w : World} (hw : WR ρ h w) {t : TypeId} {m k x : Operand} {r : Eff} (hm : XR ρ tm e m) (hk : XR ρ tm e k) (hx : XR ρ tm e x) (hr : eUpdate P tm h n t m k x = some r) :
    EffOk P ρ h n w (do Instr.mapUpdate t (e m) (e k) (e x); pure .skip) r.v r.h r.n := by
  unfold eUpdate at hr
  split at hr
  · rename_i a b c ha hb hc
    exact aUpdate_ok hw (hm _ ha) (hk _ hb) (hx _ hc) hr
  · cases hr
end Go.Proofs.YtdkeobkooiaacaaGreatDoor.Ev
namespace Go.Proofs.YtdkeobkooiaacaaGreatDoor.Ev
variable {P : Program} {ρ : Rho} {tm : Tr AV} {e : Operand → Value}
theorem Did.heap [Glob] {h h' : Heap} {n n' : Pos} {w w₁ w' : World} {v : AV} {x : Value} {ρ' : Rho} (d : Did ρ h n w v h' n' x w' ρ') (he : w.heap = w₁.heap) (hm : Mute w₁ w) : Did ρ h n w₁ v h' n' x w' ρ' := ⟨d.ext, d.val, d.wr, d.fr.heap he hm⟩
theorem fresh_at {n : Pos} (hf : Fresh ρ n n.succ) : ρ n = none := hf n (Nat.le_refl _) (by rw [Pos.succ_toNat]; omega)
theorem byteCells_ok (s : ByteArray) : VRs ρ (byteCells (bytesNat s)) (s.data.toList.map fun b => Value.int .u8 (b.toNat : Int)) := by
  unfold byteCells bytesNat
  generalize s.data.toList = l
  induction l with
  | nil => rfl
  | cons b l ih => exact ⟨_, _, rfl, rfl, ih⟩
theorem cap_ge (w : World) (need old : Nat) (t : TypeId) : need ≤ grownCap w need old t := by
  simp [grownCap, Question.cut]
theorem freeze_heap (w : World) (B i n : Nat) (c : Array Value) (ty : TypeId) (fr : Nat × Nat) (h : w.heap[B]? = some (.cells c ty fr)) (hn : n ≠ 0) :
    (∃ fr', (w.freeze ⟨B, i, none⟩ n).heap[B]? = some (.cells c ty fr') ∧ fr' = if fr.1 = fr.2 then (i, i + n) else (min fr.1 i, max fr.2 (i + n))) ∧ (w.freeze ⟨B, i, none⟩ n).heap.size = w.heap.size ∧ ∀ B', B' ≠ B → (w.freeze ⟨B, i, none⟩ n).heap[B']? = w.heap[B']? := by
  refine ⟨⟨_, ?_, rfl⟩, by simp only [World.freeze, if_neg hn, Array.size_modify], fun B' hne => ?_⟩
  · obtain ⟨lo, hi⟩ := fr
    simp only [World.freeze, if_neg hn, Array.getElem?_modify, h, if_true, Option.map_some]
    by_cases he : lo = hi
    · simp [he]
    · simp [he]
  · simp only [World.freeze, if_neg hn, Array.getElem?_modify]
    rw [if_neg (fun x => hne x.symm)]
theorem eConv_ok [Glob] {h : Heap} {n : Pos} {w : World} (hw : WR ρ h w) {s d : TypeId} {x : Operand} {r : Eff} (hx : XR ρ tm e x) (hr : eConv P tm h n s d x = some r) (hf : Fresh ρ n r.n) :
    EffOk P ρ h n w (do pure (.value (← convert s d (e x)))) r.v r.h r.n := by
  unfold eConv at hr
  split at hr
  · rename_i el t hs hd ht
    split at hr
    · rename_i hi hz
      simp only [Option.some.injEq] at hr; subst hr
      obtain ⟨t', he, hb⟩ := hx _ ht
      have hrun := run_bytes_of_string w s d el t' hs hd (intOf_und hi)
      generalize hcap : grownCap w t'.size 0 el = cap at hrun
      have hge : t'.size ≤ cap := by rw [← hcap]; exact cap_ge _ _ _ _
      have hsz : (bytesRow t' cap).size = cap := by
        have : t'.data.size = t'.size := rfl
        simp [bytesRow, this]; omega
      have hd' := alloc_did (ρ := ρ) (h := h) (n := n) (w := w.drew) (bl := .row (byteCells t) el 1 true true 0 none) (o := .cells (bytesRow t' cap) el ((bytesRow t' cap).size, (bytesRow t' cap).size + 1)) (l := ⟨w.heap.size, 0, cap⟩)
        (v := .slice n 0 t.length (.rest 1)) (x := .slice (some ⟨w.heap.size, 0, none⟩) t'.size cap) (hw.heap rfl) (fresh_at hf) rfl (fun w' hw' => ⟨_, _, hw', hsz, ?_, (fun h => by cases h), ?_, .inr (.inr (.inr ⟨rfl, by simp [hsz]⟩))⟩) ⟨_, cap, if_pos rfl, ?_, ?_, by omega, ?_⟩
      · refine ⟨.value (.slice (some ⟨w.heap.size, 0, none⟩) t'.size cap), _, _, _, ?_, .inl rfl, hd'.heap rfl ⟨rfl, rfl⟩⟩
        rw [he]
        simp only [Sem.run_bind, hrun, Result.andThen_ok, Sem.run_pure]
        rfl
      · rw [← hb]; simp [byteCells, bytesNat_length]; exact hge
      · rw [← hb]
        have hl : (byteCells (bytesNat t')).length = t'.size := by simp [byteCells, bytesNat_length]
        rw [hl]
        have : ((bytesRow t' cap).toList.drop 0).take t'.size = t'.data.toList.map fun b => Value.int .u8 (b.toNat : Int) := by
          have h1 : t'.data.toList.length = t'.size := by rw [Array.length_toList]; rfl
          simp only [bytesRow, Array.toList_append, Array.toList_map, List.drop_zero]
          rw [List.take_left' (by simp)]
        rw [this]
        exact byteCells_ok t'
      · rw [← hb, bytesNat_length]
      · rw [← hb, bytesNat_length]; exact hge
      · show 1 * cap + (0 + 0) = cap
        omega
    · cases hr
  · rename_i e1 el b off len cap hs hd hb
    cases hsd : Nat.beq s d with
    | false => simp [hsd] at hr
    | true =>
      simp only [hsd, cond_true] at hr
      have := Nat.eq_of_beq_eq_true hsd; subst this
      split at hr
      · rename_i cs ty esz opn stq fz link hi hg
        simp only [Option.some.injEq] at hr; subst hr
        have hv := hx _ hb
        obtain ⟨l, c, hl, he, hc⟩ := hv
        obtain ⟨cc, fr, g1, g2, g3, g4, g5, g6⟩ := row_get hw hg hl
        obtain ⟨⟨fr', f1, _⟩, f2, f3⟩ := freeze_heap w l.B cc.size 1 cc ty fr g1 (by omega)
        have hm := mod_wr hw (w' := w.freeze ⟨l.B, cc.size, none⟩ 1) (bl' := .row cs ty esz opn true 18446744073709551616 none) hg hl ⟨⟨rfl, rfl⟩, f2⟩ f3 ⟨cc, fr', f1, g2, g3, g4, g5, .inl (Nat.le_refl _)⟩
        refine ⟨.value (e x), w.freeze ⟨l.B, cc.size, none⟩ 1, ρ, e x, ?_, .inl rfl, .stay hm.1 hm.2 (hx _ hb)⟩
        have hsh : w.shape? l.B = some (ty, cc.size) := by simp [World.shape?, g1]
        rw [he]
        rw [hs] at hd; cases hd
        simp [convert, run_und hs, run_und (intOf_und hi), markStringish, hsh]
      · cases hr
  · cases hr
theorem decodeAt_ok {s : ByteArray} {p c k : Nat} (h : decodeAt (bytesNat s) p = some (c, k)) : Utf8.decode s p = (c, k) := by
  unfold decodeAt at h
  simp only [Option.bind_eq_some_iff] at h
  obtain ⟨a, ha, hb⟩ := h
  obtain ⟨hlt, he⟩ := bif_some hb
  cases he
  have hlt' : c < 128 := by simpa [Nat.blt_eq] using hlt
  obtain ⟨b, hb1, hb2⟩ := bytes_get ha
  have hg : s.get! p = b := by
    have hlt2 : p < s.size := by
      by_cases hp : p < s.size
      · exact hp
      · rw [ByteArray.getElem?_ge' s _ hp] at hb1; cases hb1
    rw [ByteArray.getElem?_lt' s _ hlt2] at hb1
    simp only [Option.some.injEq] at hb1
    rw [← hb1]
    show s.data[p]! = _
    rw [getElem!_pos s.data p hlt2]
    rfl
  simp [Utf8.decode, hg, hb2]
  omega
theorem eNext_ok [Glob] {h : Heap} {n : Pos} {w : World} (hw : WR ρ h w) {x : Operand} {t : TypeId} {r : Eff} (hx : XR ρ tm e x) (hr : eNext tm h n x = some r) :
    EffOk P ρ h n w (do pure (.value (← Instr.next (e x) true t))) r.v r.h r.n := by
  unfold eNext at hr
  split at hr
  · rename_i b hb
    split at hr
    · rename_i s p hg
      obtain ⟨l, hl, he⟩ := hx _ hb
      obtain ⟨s', g1, g2, g3⟩ := hw.blk b _ l hg hl
      have hget : (getObj l.B).run P w = .ok (.stringIter s' p) w := by simp [getObj, Sem.run, g1]
      have hlen : s.length = s'.size := by rw [← g2, bytesNat_length]
      cases hlt : Nat.blt p s.length with
      | true =>
        have hlt' : p < s'.size := by rw [← hlen]; simpa [Nat.blt_eq] using hlt
        simp only [hlt, cond_true] at hr
        split at hr
        · rename_i c k hc
          simp only [Option.some.injEq] at hr; subst hr
          rw [← g2] at hc
          have hdec := decodeAt_ok hc
          refine ⟨.value (.tuple #[.bool true, goInt p, .int .i32 c]), _, ρ, _, ?_, .inl rfl, obj_did hw (o' := .stringIter s' (p + k)) hg hl g1 rfl (fun w' hw' => ⟨s', hw', g2, g3⟩) ⟨_, rfl, _, _, rfl, rfl, _, _, rfl, rfl, _, _, rfl, rfl, rfl⟩⟩
          rw [he, g3]
          simp [Instr.next, hget, hlt', hdec, setObj_run (P := P) g1 (by intro c t f h; cases h)]
        · cases hr
      | false =>
        have hlt' : ¬ p < s'.size := by rw [← hlen]; exact blt_false hlt
        simp only [hlt, cond_false, Option.some.injEq] at hr; subst hr
        refine ⟨.value (.tuple #[.bool false]), w, ρ, _, ?_, .inl rfl, .stay hw (Fr.refl _ _ _) ⟨_, rfl, _, _, rfl, rfl, rfl⟩⟩
        rw [he, g3]
        simp [Instr.next, hget, hlt']
    · cases hr
  · cases hr
end Go.Proofs.YtdkeobkooiaacaaGreatDoor.Ev
namespace Go.Proofs.YtdkeobkooiaacaaGreatDoor.Ev
variable {P : Program} {ρ : Rho} {tm : Tr AV} {e : Operand → Value}
theorem appCells_ok [Glob] {h : Heap} {w : World} (hw : WR ρ h w) {esz k : Nat} {x : AV} {vx : Value} {xs : List AV} (hx : VR ρ x vx) (hc : appCells h esz x = some (xs, k)) :
    (Builtin.lenOf vx).run P w = .ok k w ∧ ∃ new : Array Value, VRs ρ xs new.toList ∧ (Builtin.firstCells esz k vx).run P w = .ok new w ∧ xs.length = k * esz := by
  unfold appCells at hc
  split at hc
  · simp only [VR] at hx; subst hx
    simp only [Option.some.injEq, Prod.mk.injEq] at hc
    obtain ⟨rfl, rfl⟩ := hc
    exact ⟨by simp [Builtin.lenOf], #[], rfl, by simp [Builtin.firstCells], by simp⟩
  · rename_i b off len cap
    obtain ⟨l, c, hl, rfl, hcap⟩ := hx
    simp only [Option.map_eq_some_iff, Prod.mk.injEq] at hc
    obtain ⟨cs, hcs, rfl, rfl⟩ := hc
    obtain ⟨vs, hn, hv, hcell⟩ := cellsAt_ok hw hcs hl
    refine ⟨by simp [Builtin.lenOf], vs.toArray, hv, ?_, by rw [← hn]; exact hv.length.symm⟩
    simp only [Builtin.firstCells, ← hn]
    exact run_loadCells_list w _ vs hcell
  · rename_i s
    obtain ⟨t, rfl, hb⟩ := hx
    obtain ⟨h1, hc⟩ := bif_some hc
    have h1 := Nat.eq_of_beq_eq_true h1
    subst h1
    cases hc
    have hlen : s.length = t.size := by rw [← hb, bytesNat_length]
    refine ⟨by simp [Builtin.lenOf, hlen], t.data.map fun b => .int .u8 b.toNat, ?_, ?_, by simp⟩
    · rw [← hb, Array.toList_map]
      exact byteCells_ok t
    · have : t.extract 0 t.size = t := by
        apply bytesNat_inj
        rw [bytes_extract]
        simp [← bytesNat_length]
      simp [Builtin.firstCells, hlen, this]
  · cases hc
theorem fits_aux (q s bb : Nat) (hn : q ≤ (s + 768) * 16) (hsm : s < 16777216) (hb : bb < 65536) : ¬ (281474976710656 < q * bb) := by
  have hA : q ≤ 300000000 := by
    have := Nat.mul_le_mul_right 16 (show s + 768 ≤ 16777984 by omega)
    exact Nat.le_trans hn (Nat.le_trans this (Nat.le_of_ble_eq_true rfl))
  have h1 : q * bb ≤ 300000000 * bb := Nat.mul_le_mul_right bb hA
  omega
theorem growBy_le (newLen : Nat) : ∀ (r c : Nat), Builtin.growBy newLen r c + 768 ≤ (c + 768) * 2 ^ r
  | 0, c => by simp [Builtin.growBy]
  | r + 1, c => by
    simp only [Builtin.growBy]
    split
    · have : 1 ≤ 2 ^ (r + 1) := Nat.one_le_two_pow
      calc c + 768 = (c + 768) * 1 := by omega
        _ ≤ (c + 768) * 2 ^ (r + 1) := Nat.mul_le_mul_left _ this
    · have := growBy_le newLen r (c + (c + 768) / 4)
      refine Nat.le_trans this ?_
      rw [Nat.pow_succ, ← Nat.mul_assoc, Nat.mul_comm ((c + 768) * 2 ^ r) 2, ← Nat.mul_assoc]
      exact Nat.mul_le_mul_right _ (by omega)
theorem next_le {need c : Nat} (h : ¬ need ≤ c) : Builtin.nextslicecap need c ≤ (need + 768) * 16 := by
  unfold Builtin.nextslicecap
  split
  · omega
  · split
    · omega
    · have := growBy_le need 4 c
      omega
set_option maxHeartbeats 1000000 in
/-- The run of append, where there is room. -/
theorem append_room {w w' : World} {tys : Array TypeId} {args : Array Value} {t xt el ty : TypeId} {base : Option Addr} {len cap esz k : Nat} {vx : Value} {new : Array Value}
    (h1 : tys[0]? = some t) (h2 : args[0]? = some (.slice base len cap)) (h3 : args[1]? = some vx) (h4 : tys[1]? = some xt) (hu : P.underlying t = some (.slice el)) (hx : notInt P xt = true) (hs : szOf P el = some esz)
    (hl : (Builtin.lenOf vx).run P w = .ok k w) (hc : (Builtin.firstCells esz k vx).run P w = .ok new w) (hr : len + k ≤ cap)
    (hst : ∀ a, base = some a → (storeCells (a.add (len * esz)) new.toList).run P w = .ok () w') (hnone : base = none → w' = w) :
    (Builtin.append_ tys ty args).run P w = .ok (.slice base (len + k) cap) w' := by
  have hd : ∃ d, P.underlying xt = some d ∧ (d = .string ∨ ∃ y, d = .slice y) := by
    unfold notInt at hx
    split at hx
    · rename_i y hy; exact ⟨_, hy, .inr ⟨y, rfl⟩⟩
    · rename_i hy; exact ⟨_, hy, .inl rfl⟩
    · cases hx
  obtain ⟨d, hd, hdd⟩ := hd
  cases base with
  | none =>
    have := hnone rfl; subst this
    rcases hdd with rfl | ⟨y, rfl⟩ <;> simp [Builtin.append_, h1, h2, h3, h4, run_und hu, run_und hd, szOf_run hs, hl, hc, hr]
  | some a =>
    have := hst a rfl
    rcases hdd with rfl | ⟨y, rfl⟩ <;> simp [Builtin.append_, h1, h2, h3, h4, run_und hu, run_und hd, szOf_run hs, hl, hc, hr, this]
set_option maxHeartbeats 1000000 in
/-- The run of append, where there is none. -/
theorem append_grow {w : World} {tys : Array TypeId} {args : Array Value} {t xt el ty : TypeId} {base : Option Addr} {len cap esz k by_ : Nat} {vx : Value} {old new : Array Value} {zv : Value} {i : TypeInfo}
    (h1 : tys[0]? = some t) (h2 : args[0]? = some (.slice base len cap)) (h3 : args[1]? = some vx) (h4 : tys[1]? = some xt) (hu : P.underlying t = some (.slice el)) (hx : notInt P xt = true) (hs : szOf P el = some esz)
    (hi : P.info? el = some i) (hb : i.bytes = by_) (hb1 : by_ < 65536) (hb0 : 0 < by_) (hz : (zeroValue el).run P w.drew = .ok zv w.drew)
    (hl : (Builtin.lenOf vx).run P w = .ok k w) (hc : (Builtin.firstCells esz k vx).run P w.drew = .ok new w.drew) (ho : (Builtin.firstCells esz len (.slice base len cap)).run P w.drew = .ok old w.drew) (hr : ¬ len + k ≤ cap) (hsm : len + k < 16777216) :
    ∃ nc, len + k ≤ nc ∧ (Builtin.append_ tys ty args).run P w = .ok (.slice (some ⟨w.heap.size, 0, none⟩) (len + k) nc) (w.drew.alloc (.cells (old ++ new ++ Builtin.zeroCells zv.cells (nc - (len + k))) el)) := by
  refine ⟨grownCap w (len + k) cap el, cap_ge _ _ _ _, ?_⟩
  have hn := next_le hr
  have hb48 : ¬ (281474976710656 < Builtin.nextslicecap (len + k) cap * i.bytes) := fits_aux _ (len + k) _ hn hsm (by rw [hb]; exact hb1)
  have hd : ∃ d, P.underlying xt = some d ∧ (d = .string ∨ ∃ y, d = .slice y) := by
    unfold notInt at hx
    split at hx
    · rename_i y hy; exact ⟨_, hy, .inr ⟨y, rfl⟩⟩
    · rename_i hy; exact ⟨_, hy, .inl rfl⟩
    · cases hx
  obtain ⟨d, hd, hdd⟩ := hd
  have hi0 : i.bytes ≠ 0 := by omega
  have hi1 : ¬ (9223372036854775807 < ((len : Int) + (k : Int))) := by omega
  rcases hdd with rfl | ⟨y, rfl⟩ <;> simp [Builtin.append_, h1, h2, h3, h4, run_und hu, run_und hd, szOf_run hs, hl, hr, typeInfo, hi, hi0, hb48, Question.forced, ho, hc, hz, grownCap, newRow]
end Go.Proofs.YtdkeobkooiaacaaGreatDoor.Ev
namespace Go.Proofs.YtdkeobkooiaacaaGreatDoor.Ev
variable {P : Program} {ρ : Rho} {tm : Tr AV} {e : Operand → Value}
theorem VRs.nil_of {as : List AV} {xs : List Value} (h : VRs ρ as xs) (hl : as.length = 0) : xs = [] := by
  have := h.length
  rw [hl] at this
  exact List.length_eq_zero_iff.1 this
/-- A new row, with cells behind those that are told. -/
theorem fresh_did [Glob] {h : Heap} {n : Pos} {w : World} (hw : WR ρ h w) (hf : Fresh ρ n n.succ) {ty : TypeId} {esz len nc : Nat} {cs : List AV} {c rest : Array Value} (hc : VRs ρ cs c.toList) (hlen : cs.length = len * esz) (hz : 0 < esz) (hge : len ≤ nc) (hr : rest.size = (nc - len) * esz) :
    Did ρ h n w (appFresh h n ty esz len cs).v (appFresh h n ty esz len cs).h (appFresh h n ty esz len cs).n (.slice (some ⟨w.heap.size, 0, none⟩) len nc) (w.drew.alloc (.cells (c ++ rest) ty)) (fun b => if b = n then some ⟨w.heap.size, 0, (c ++ rest).size⟩ else ρ b) := by
  have hcl := hc.length
  simp only [Array.length_toList] at hcl
  refine (alloc_did (ρ := ρ) (h := h) (n := n) (w := w.drew) (o := .cells (c ++ rest) ty) (bl := .row cs ty esz true false 0 none) (l := ⟨w.heap.size, 0, (c ++ rest).size⟩) (v := .slice n 0 len (.rest esz)) (x := .slice (some ⟨w.heap.size, 0, none⟩) len nc) (hw.heap rfl) (fresh_at hf) rfl (fun w' hw' => ⟨_, _, hw', rfl, ?_, (fun h => by cases h), ?_, .inr (.inl rfl)⟩) ⟨_, nc, if_pos rfl, rfl, hge, hz, ?_⟩).heap rfl ⟨rfl, rfl⟩
  · simp [hcl]
  · have : ((c ++ rest).toList.drop 0).take cs.length = c.toList := by
      simp only [Array.toList_append, List.drop_zero]
      rw [List.take_left' (by simpa using hcl)]
    rw [this]; exact hc
  · simp only [Array.size_append, hcl, hlen, hr, Nat.add_zero]
    rw [← Nat.add_mul, Nat.mul_comm]
    congr 1; omega
theorem zeroCells_size (z : Array Value) (n : Nat) : (Builtin.zeroCells z n).size = n * z.size := by simp [Builtin.zeroCells]
theorem BR.cut {l : Loc} {w : World} {cs : List AV} {ty : TypeId} {esz : Nat} {opn stq : Bool} {fz : Nat} {link link' : Option Pos} (m : Nat) (h : BR ρ l w (.row cs ty esz opn stq fz link)) : BR ρ l w (.row (cs.take m) ty esz true stq fz link') := by
  obtain ⟨c, fr, g1, g2, g3, g4, g5, g6⟩ := h
  refine ⟨c, fr, g1, g2, by simp; omega, (fun h => by cases h), ?_, g6⟩
  have hl := g5.length
  refine VRs.of_get ?_ fun i a ha => ?_
  · simp only [List.length_take, List.length_drop] at hl ⊢
    omega
  · rw [List.getElem?_take] at ha
    split at ha
    · rename_i him
      obtain ⟨x, hx, hv⟩ := g5.get ha
      refine ⟨x, ?_, hv⟩
      have hics : i < cs.length := (List.getElem?_eq_some_iff.1 ha).1
      rw [List.getElem?_take, if_pos (by simp; omega)]
      rw [List.getElem?_take, if_pos hics] at hx
      exact hx
    · cases ha
/-- A second name for a block. -/
theorem alias_wr [Glob] {h : Heap} {w : World} (hw : WR ρ h w) {b n : Pos} {l ln : Loc} {cs cs' : List AV} {ty ty' : TypeId} {esz esz' : Nat} {opn opn' stq stq' : Bool} {fz fz' : Nat} (hg : h.get b = some (.row cs ty esz opn stq fz (some n))) (hl : ρ b = some l) (hn : ρ n = none) (hB : ln.B = l.B)
    (hbr : BR (fun x => if x = n then some ln else ρ x) ln w (.row cs' ty' esz' opn' stq' fz' (some b))) (hx : ∀ b' l', b' ≠ b → h.get b' ≠ none → ρ b' = some l' → l'.B ≠ l.B) :
    WR (fun x => if x = n then some ln else ρ x) (h.put n (some (.row cs' ty' esz' opn' stq' fz' (some b)))) w := by
  have hbn : b ≠ n := fun x => by subst x; rw [hl] at hn; cases hn
  have hle : ρ.le (fun x => if x = n then some ln else ρ x) := fun x l' hx' => by
    by_cases e : x = n
    · subst e; rw [hn] at hx'; cases hx'
    · simp [e, hx']
  refine ⟨fun b' x l' hb hl' => ?_, fun b1 b2 l1 l2 hb1 hb2 hl1 hl2 hne heq => ?_, hw.glo, fun b' l' hb hl' => ?_⟩
  rotate_right
  · by_cases e : b' = n
    · subst e
      simp only [if_true, Option.some.injEq] at hl'
      subst hl'
      rw [hB]
      exact hw.apart b l (by rw [hg]; simp) hl
    · rw [Tr.get_put, if_neg e] at hb
      simp only [if_neg e] at hl'
      exact hw.apart b' l' hb hl'
  · rw [Tr.get_put] at hb
    by_cases e : b' = n
    · subst e
      simp only [if_true, Option.some.injEq] at hb hl'
      subst hb hl'
      exact hbr
    · simp only [e, if_false] at hb hl'
      exact (hw.blk b' x l' hb hl').mono hle
  · rw [Tr.get_put] at hb1 hb2
    by_cases e1 : b1 = n
    · subst e1
      have e2 : b2 ≠ b1 := fun x => hne x.symm
      simp only [if_true, Option.some.injEq] at hl1
      simp only [e2, if_false] at hb2 hl2
      subst hl1
      by_cases e3 : b2 = b
      · subst e3
        exact ⟨cs', ty', esz', opn', stq', fz', by rw [Tr.get_put]; simp⟩
      · exact absurd (heq.symm.trans hB) (hx b2 l2 e3 hb2 hl2)
    · simp only [e1, if_false] at hb1 hl1
      by_cases e2 : b2 = n
      · subst e2
        simp only [if_true, Option.some.injEq] at hl2
        subst hl2
        by_cases e3 : b1 = b
        · subst e3
          exact ⟨cs, ty, esz, opn, stq, fz, by rw [Tr.get_put]; simp [e1, hg]⟩
        · exact absurd (heq.trans hB) (hx b1 l1 e3 hb1 hl1)
      · simp only [e2, if_false] at hb2 hl2
        obtain ⟨a1, a2, a3, a4, a5, a6, a7⟩ := hw.inj b1 b2 l1 l2 hb1 hb2 hl1 hl2 hne heq
        exact ⟨a1, a2, a3, a4, a5, a6, by rw [Tr.get_put]; simp [e1, a7]⟩
end Go.Proofs.YtdkeobkooiaacaaGreatDoor.Ev
namespace Go.Proofs.YtdkeobkooiaacaaGreatDoor.Ev
variable {P : Program} {ρ : Rho} {tm : Tr AV} {e : Operand → Value}
theorem grow_inj {w : World} {x : Value} {w' : World} {s : Sem Value} (h : s.run P w = .ok x w') : (do pure (.value (← s)) : Sem Next).run P w = .ok (.value x) w' := by simp [h]
theorem either_grow [Glob] {h : Heap} {n : Pos} {w : World} (hw : WR ρ h w) {b : Pos} {cs : List AV} {ty : TypeId} {besz : Nat} {stq : Bool} {fz : Nat} {link : Option Pos} {l : Loc} (hg : h.get b = some (.row cs ty besz true stq fz link)) (hl : ρ b = some l)
    (row : BR ρ l w (.row cs ty besz true stq fz link)) (hf : Fresh ρ n n.succ) {off at_ esz len nc : Nat} {old xs : List AV} {c rest : Array Value} (hc : VRs ρ (old ++ xs) c.toList) (hlen : (old ++ xs).length = len * esz) (hz : 0 < esz) (hge : len ≤ nc) (hr : rest.size = (nc - len) * esz) :
    Did ρ h n w (appEither h n b off len at_ ty esz cs old xs stq fz link).v (appEither h n b off len at_ ty esz cs old xs stq fz link).h (appEither h n b off len at_ ty esz cs old xs stq fz link).n (.slice (some ⟨w.heap.size, 0, none⟩) len nc) (w.drew.alloc (.cells (c ++ rest) ty)) (fun b => if b = n then some ⟨w.heap.size, 0, (c ++ rest).size⟩ else ρ b) := by
  have hcl := hc.length
  simp only [Array.length_toList] at hcl
  have hm := mod_wr hw (w' := w) (bl' := .row (cs.take at_) ty esz true stq fz (some n)) hg hl ⟨⟨rfl, rfl⟩, rfl⟩ (fun _ _ => rfl) (row.cut (link' := some n) at_)
  have hd := alloc_did (ρ := ρ) (h := (kill link h).put b (some (.row (cs.take at_) ty esz true stq fz (some n)))) (n := n) (w := w.drew) (o := .cells (c ++ rest) ty) (bl := .row (old ++ xs) ty esz true stq (fz - off) (some b)) (l := ⟨w.heap.size, 0, (c ++ rest).size⟩) (v := .slice n 0 len (.rest esz)) (x := .slice (some ⟨w.heap.size, 0, none⟩) len nc)
    (hm.1.heap rfl) (fresh_at hf) rfl (fun w' hw' => ⟨_, _, hw', rfl, ?_, (fun h => by cases h), ?_, .inr (.inl rfl)⟩) ⟨_, nc, if_pos rfl, rfl, hge, hz, ?_⟩
  · exact ⟨hd.ext, hd.val, hd.wr, hm.2.trans (hd.fr.heap rfl ⟨rfl, rfl⟩)⟩
  · simp [hcl]
  · have : ((c ++ rest).toList.drop 0).take (old ++ xs).length = c.toList := by
      simp only [Array.toList_append, List.drop_zero]
      rw [List.take_left' (by simpa using hcl)]
    rw [this]; exact hc
  · simp only [Array.size_append, hcl, hlen, hr, Nat.add_zero]
    rw [← Nat.add_mul, Nat.mul_comm]
    congr 1; omega
theorem either_room [Glob] {h : Heap} {n : Pos} {w : World} (hw : WR ρ h w) {b : Pos} {cs : List AV} {ty : TypeId} {besz : Nat} {stq : Bool} {fz : Nat} {link : Option Pos} {l : Loc} (hg : h.get b = some (.row cs ty besz true stq fz link)) (hl : ρ b = some l)
    {off len es k c : Nat} {old xs : List AV} {new : Array Value} (hold : takeN (len * es) (dropN off cs) = some old) (hnew : VRs ρ xs new.toList) (hxl : xs.length = k * es) (hfz : fz ≤ off + len * es) (hone : oneAll xs = true) (hsm : off + len * es < 1099511627776)
    (hyes : len + k ≤ c) (he : 0 < es) (hK : es * c + (l.o + off) = l.K) (hf : Fresh ρ n n.succ) (row : BR ρ l w (.row cs ty besz true stq fz link)) :
    ∃ w', (storeCells ⟨l.B, l.o + (off + len * es), none⟩ new.toList).run P w = .ok () w' ∧
      Did ρ h n w (appEither h n b off (len + k) (off + len * es) ty es cs old xs stq fz link).v (appEither h n b off (len + k) (off + len * es) ty es cs old xs stq fz link).h (appEither h n b off (len + k) (off + len * es) ty es cs old xs stq fz link).n (.slice (some ⟨l.B, l.o + off, none⟩) (len + k) c) w' (fun x => if x = n then some ⟨l.B, l.o + off, l.K⟩ else ρ x) := by
  obtain ⟨cc, fr, g1, g2, g3, g4, g5, g6⟩ := row
  have hnl : new.size = k * es := by have := hnew.length; simp only [Array.length_toList] at this; omega
  have hkc : (len + k) * es ≤ c * es := Nat.mul_le_mul_right _ hyes
  rw [Nat.add_mul, Nat.mul_comm c es] at hkc
  have hfro : ∀ j, l.o + (off + len * es) ≤ j → j < cc.size → ¬ (fr.1 ≤ j ∧ j < fr.2) := fun j hj1 hj2 => by
    rcases g6 with g | g | g | ⟨_, g⟩ <;> omega
  obtain ⟨w', hst, hws, hwo, c', hc1, hc2⟩ := storeCells_run (P := P) l.B (l.o + (off + len * es)) ty fr new.toList 0 w cc g1 (by simp; omega) (oneAll_ok hnew hone) hfro
  refine ⟨w', hst, ?_⟩
  rw [Nat.add_zero] at hc2
  have hcs : c'.size = cc.size := by
    have := congrArg List.length hc2
    simp at this
    omega
  have hlow : ∀ i, i < l.o + (off + len * es) → c'.toList[i]? = cc.toList[i]? := fun i hi => by
    rw [hc2, List.append_assoc, List.getElem?_append_left (by simp; omega), List.getElem?_take, if_pos hi]
  have hmid : ∀ i, i < new.size → c'.toList[l.o + (off + len * es) + i]? = new.toList[i]? := fun i hi => by
    have hle : (cc.toList.take (l.o + (off + len * es))).length = l.o + (off + len * es) := by simp; omega
    rw [hc2, List.append_assoc, List.getElem?_append_right (by omega), hle, Nat.add_sub_cancel_left, List.getElem?_append_left (by simpa using hi)]
  have hcut : BR ρ l w' (.row (cs.take (off + len * es)) ty es true stq fz (some n)) := by
    refine ⟨c', fr, hc1, by omega, by simp; omega, (fun h => by cases h), VRs.of_get ?_ fun i a ha => ?_, g6⟩
    · simp; omega
    · have hi : i < (cs.take (off + len * es)).length := (List.getElem?_eq_some_iff.1 ha).1
      simp only [List.length_take] at hi
      rw [List.getElem?_take, if_pos (by omega)] at ha
      obtain ⟨x, hx, hv⟩ := g5.get ha
      refine ⟨x, ?_, hv⟩
      rw [List.getElem?_take, if_pos (by omega), List.getElem?_drop] at hx
      rw [List.getElem?_take, if_pos (by simp; omega), List.getElem?_drop, hlow _ (by omega)]
      exact hx
  have hm := mod_wr hw (w' := w') (bl' := .row (cs.take (off + len * es)) ty es true stq fz (some n)) hg hl hws hwo hcut
  have hn := fresh_at hf
  have hbn : b ≠ n := fun x => by subst x; rw [hl] at hn; cases hn
  have hle : ρ.le (fun x => if x = n then some ⟨l.B, l.o + off, l.K⟩ else ρ x) := fun x l' hx' => by
    by_cases e : x = n
    · subst e; rw [hn] at hx'; cases hx'
    · simp [e, hx']
  have hol : old.length = len * es ∧ old = (dropN off cs).take (len * es) := by
    obtain ⟨a1, a2⟩ := takeN_eq _ _ _ hold
    exact ⟨by rw [a1]; simp; omega, a1⟩
  have hnrow : BR ρ ⟨l.B, l.o + off, l.K⟩ w' (.row (old ++ xs) ty es true stq (fz - off) (some b)) := by
    refine ⟨c', fr, hc1, (by show c'.size = l.K; omega), by simp [hol.1, hxl]; omega, (fun h => by cases h), VRs.of_get ?_ fun i a ha => ?_, ?_⟩
    · simp [hol.1, hxl]; omega
    · have hi : i < (old ++ xs).length := (List.getElem?_eq_some_iff.1 ha).1
      rw [List.getElem?_take, if_pos hi, List.getElem?_drop]
      by_cases hio : i < old.length
      · rw [List.getElem?_append_left hio, hol.2, List.getElem?_take, if_pos (by omega), dropN_eq, List.getElem?_drop] at ha
        obtain ⟨x, hx, hv⟩ := g5.get ha
        refine ⟨x, ?_, hv⟩
        have hoc : off + i < cs.length := (List.getElem?_eq_some_iff.1 ha).1
        rw [List.getElem?_take, if_pos hoc, List.getElem?_drop] at hx
        simp only
        rw [hlow _ (by omega), show l.o + off + i = l.o + (off + i) by omega]
        exact hx
      · rw [List.getElem?_append_right (by omega)] at ha
        obtain ⟨x, hx, hv⟩ := hnew.get ha
        refine ⟨x, ?_, hv⟩
        have hil : i - old.length < new.size := by simpa using (List.getElem?_eq_some_iff.1 hx).1
        simp only
        rw [show l.o + off + i = l.o + (off + len * es) + (i - old.length) by omega, hmid _ hil]
        exact hx
    · rcases g6 with g | g | g | g
      · omega
      · exact .inr (.inl g)
      · exact .inr (.inr (.inl (by simp only; omega)))
      · exact .inr (.inr (.inr g))
  have hget : ((kill link h).put b (some (.row (cs.take (off + len * es)) ty es true stq fz (some n)))).get b = some (.row (cs.take (off + len * es)) ty es true stq fz (some n)) := by rw [Tr.get_put]; simp
  have hal := alias_wr (n := n) (ln := ⟨l.B, l.o + off, l.K⟩) hm.1 hget hl hn rfl (hnrow.mono hle) (fun b' l' hne hb' hl' heq => by
    rw [Tr.get_put, if_neg hne] at hb'
    change (kill link h).get b' ≠ none at hb'
    rw [kill_get] at hb'
    split at hb'
    · exact hb' rfl
    · rename_i hk
      obtain ⟨a1, a2, a3, a4, a5, a6, a7⟩ := hw.inj b b' l l' (by rw [hg]; simp) hb' hl hl' (fun x => hne x.symm) heq.symm
      rw [hg] at a7
      cases a7
      exact hk rfl)
  refine ⟨⟨by simp only [appEither]; rw [Pos.succ_toNat]; omega, fun x hx => ?_⟩, ⟨_, c, if_pos rfl, rfl, by omega, he, by simp only; omega⟩, hal, ⟨hm.2.mute, hm.2.size, hm.2.keep, fun B hB => ?_⟩⟩
  · have : x ≠ n := fun e => by subst e; simp only [appEither] at hx; rw [Pos.succ_toNat] at hx; omega
    simp [this]
  · obtain ⟨x, l', hx1, hx2, hx3⟩ := hB
    by_cases e : x = n
    · subst e
      simp only [if_true, Option.some.injEq] at hx2
      subst hx2
      exact .inr ⟨b, l, by rw [hg]; simp, hl, hx3⟩
    · simp only [e, if_false] at hx2
      simp only [appEither, Tr.get_put, e, if_false] at hx1
      exact hm.2.own B ⟨x, l', by rw [Tr.get_put]; exact hx1, hx2, hx3⟩
theorem appTo_ok [Glob] {h : Heap} {n : Pos} {w : World} (hw : WR ρ h w) {tys : Array TypeId} {args : Array Value} {t xt el ty : TypeId} {esz k by_ : Nat} {vx : Value} {b : Pos} {off len : Nat} {cap : Cap} {vs : Value} {xs z : List AV} {r : Eff}
    (h1 : tys[0]? = some t) (h2 : args[0]? = some vs) (h3 : args[1]? = some vx) (h4 : tys[1]? = some xt) (hu : P.underlying t = some (.slice el)) (hx : notInt P xt = true) (hs : szOf P el = some esz)
    (hby : (P.info? el).map (·.bytes) = some by_) (hb0 : 0 < by_) (hb1 : by_ < 65536) (hz : zeroCells P el = some z) (hzl : z.length = esz) (he0 : 0 < esz) (hv : VR ρ (.slice b off len cap) vs)
    {x : AV} (hxv : VR ρ x vx) (hxs : appCells h esz x = some (xs, k)) (hr : appTo h n el esz b off len cap xs k = some r) (hf : Fresh ρ n r.n) :
    EffOk P ρ h n w (do pure (.value (← Builtin.append_ tys ty args))) r.v r.h r.n := by
  obtain ⟨l, c, hl, rfl, hc1, hc2⟩ := hv
  obtain ⟨hlen, new, hnew, hfc, hxl⟩ := appCells_ok (P := P) hw hxv hxs
  obtain ⟨i, hi, hib⟩ : ∃ i, P.info? el = some i ∧ i.bytes = by_ := by simpa using hby
  obtain ⟨zv, hzv, hzr, _⟩ := zeroCells_run (ρ := ρ) hz w.drew
  have hzs : zv.cells.size = esz := by have := hzr.length; simp only [Array.length_toList] at this; omega
  obtain ⟨_, new', hnew', hfc', _⟩ := appCells_ok (P := P) (hw.heap (w' := w.drew) rfl) hxv hxs
  unfold appTo at hr
  split at hr
  · rename_i cs bty besz opn stq fz link hg
    cases hbe : Nat.beq besz esz with
    | false => rw [hbe] at hr; cases hr
    | true =>
      simp only [hbe, cond_true] at hr
      split at hr
      · cases hr
      · rename_i old hold
        cases hsm : Nat.blt (len + k) 16777216 with
        | false => rw [hsm] at hr; cases hr
        | true =>
          have hsm' : len + k < 16777216 := by simpa [Nat.blt_eq] using hsm
          simp only [hsm, cond_true] at hr
          have hcells : cellsAt h b off (len * esz) = some old := by unfold cellsAt; rw [hg]; exact hold
          obtain ⟨ov, hov, hovr, hovc⟩ := cellsAt_ok (hw.heap (w' := w.drew) rfl) hcells hl
          have hfo : (Builtin.firstCells esz len (.slice (some ⟨l.B, l.o + off, none⟩) len c)).run P w.drew = .ok ov.toArray w.drew := by
            simp only [Builtin.firstCells, ← hov]
            exact run_loadCells_list w.drew _ ov hovc
          have holen : old.length = len * esz := by rw [← hov]; exact hovr.length.symm
          have row := row_get hw hg hl
          -- a new row
          have fresh : ¬ len + k ≤ c → r = appFresh h n el esz (len + k) (old ++ xs) → EffOk P ρ h n w (do pure (.value (← Builtin.append_ tys ty args))) r.v r.h r.n := by
            intro hno hre
            subst hre
            obtain ⟨nc, hnc, hrun⟩ := append_grow (P := P) (w := w) (tys := tys) (args := args) (ty := ty) (old := ov.toArray) (new := new') h1 h2 h3 h4 hu hx hs hi hib hb1 hb0 hzv hlen hfc' hfo hno hsm'
            have hd := fresh_did (ρ := ρ) (h := h) (n := n) (w := w) hw hf (ty := el) (esz := esz) (len := len + k) (nc := nc) (cs := old ++ xs) (c := ov.toArray ++ new') (rest := Builtin.zeroCells zv.cells (nc - (len + k)))
              (by simpa using hovr.append hnew') (by simp [holen, hxl, Nat.add_mul]) he0 hnc (by rw [zeroCells_size, hzs])
            exact ⟨_, _, _, _, grow_inj hrun, .inl rfl, hd⟩
          -- in its place
          have room : ∀ cap', len + k ≤ c → CapOk l off (len + k) cap' c → appInPlace h n b off (len + k) (off + len * esz) cap' xs = some r → EffOk P ρ h n w (do pure (.value (← Builtin.append_ tys ty args))) r.v r.h r.n := by
            intro cap' hyes hcap' hre
            unfold appInPlace at hre
            simp only [Option.map_eq_some_iff] at hre
            obtain ⟨h', hh, rfl⟩ := hre
            obtain ⟨w', hst, hw', hfr⟩ := writeAt_ok (P := P) hw hnew hh hl
            have hrun := append_room (P := P) (w := w) (w' := w') (tys := tys) (args := args) (ty := ty) h1 h2 h3 h4 hu hx hs hlen hfc hyes (fun a ha => by
              cases ha
              rw [add_addr, show l.o + off + len * esz = l.o + (off + len * esz) by omega]
              exact hst) (fun h => by cases h)
            exact ⟨_, _, _, _, grow_inj hrun, .inl rfl, .stay hw' hfr ⟨l, c, hl, rfl, hcap'⟩⟩
          split at hr
          · rename_i cc
            simp only at hc2
            subst hc2
            cases hle : Nat.ble (len + k) c with
            | true =>
              simp only [hle, cond_true] at hr
              exact room (.exact c) (Nat.le_of_ble_eq_true hle) ⟨Nat.le_of_ble_eq_true hle, rfl⟩ hr
            | false =>
              simp only [hle, cond_false, Option.some.injEq] at hr
              refine fresh (fun x => ?_) hr.symm
              have := Nat.ble_eq_true_of_le x
              rw [hle] at this; cases this
          · rename_i es
            obtain ⟨hes0, hK⟩ := hc2
            cases hee : Nat.beq es esz with
            | false => rw [hee] at hr; cases hr
            | true =>
              have := Nat.eq_of_beq_eq_true hee; subst this
              simp only [hee, cond_true] at hr
              obtain ⟨cc, fr, g1, g2, g3, g4, g5, g6⟩ := row
              cases hle : Nat.ble (off + (len + k) * es) cs.length with
              | true =>
                simp only [hle, cond_true] at hr
                have hle' := Nat.le_of_ble_eq_true hle
                have hyes : len + k ≤ c := by
                  have : (len + k) * es ≤ c * es := by rw [Nat.mul_comm c es]; omega
                  exact Nat.le_of_mul_le_mul_right this he0
                exact room (.rest es) hyes ⟨hyes, hes0, hK⟩ hr
              | false =>
                simp only [hle, cond_false] at hr
                have hgt : cs.length < off + (len + k) * es := by
                  rcases Nat.lt_or_ge cs.length (off + (len + k) * es) with x | x
                  · exact x
                  · have := Nat.ble_eq_true_of_le x; rw [hle] at this; cases this
                cases opn with
                | false =>
                  simp only [cond_false, Option.some.injEq] at hr
                  obtain ⟨ho, hk⟩ := g4 rfl
                  refine fresh (fun x => ?_) hr.symm
                  have : (len + k) * es ≤ c * es := Nat.mul_le_mul_right _ x
                  rw [Nat.mul_comm c es] at this
                  omega
                | true =>
                  simp only [cond_true] at hr
                  obtain ⟨hb, hre⟩ := bif_some hr
                  subst hre
                  simp only [Bool.and_eq_true] at hb
                  have b1 := Nat.eq_of_beq_eq_true hb.1.1.1
                  have b2 := Nat.le_of_ble_eq_true hb.1.1.2
                  have b3 := hb.1.2
                  have b4 : off + len * es < 1099511627776 := by simpa [Nat.blt_eq] using hb.2
                  subst b1
                  have row : BR ρ l w (.row cs bty besz true stq fz link) := ⟨cc, fr, g1, g2, g3, g4, g5, g6⟩
                  by_cases hyes : len + k ≤ c
                  · obtain ⟨w', hst, hd⟩ := either_room (P := P) hw hg hl hold hnew hxl b2 b3 b4 hyes hes0 hK hf row
                    have hrun := append_room (P := P) (w := w) (w' := w') (tys := tys) (args := args) (ty := ty) h1 h2 h3 h4 hu hx hs hlen hfc hyes (fun a ha => by
                      cases ha
                      rw [add_addr, show l.o + off + len * es = l.o + (off + len * es) by omega]
                      exact hst) (fun h => by cases h)
                    exact ⟨_, _, _, _, grow_inj hrun, .inl rfl, hd⟩
                  · obtain ⟨nc, hnc, hrun⟩ := append_grow (P := P) (w := w) (tys := tys) (args := args) (ty := ty) (old := ov.toArray) (new := new') h1 h2 h3 h4 hu hx hs hi hib hb1 hb0 hzv hlen hfc' hfo hyes hsm'
                    have hd := either_grow (ρ := ρ) (h := h) (n := n) (w := w) hw hg hl row hf (off := off) (at_ := off + len * es) (esz := es) (len := len + k) (nc := nc) (old := old) (xs := xs) (c := ov.toArray ++ new') (rest := Builtin.zeroCells zv.cells (nc - (len + k)))
                      (by simpa using hovr.append hnew') (by simp [holen, hxl, Nat.add_mul]) he0 hnc (by rw [zeroCells_size, hzs])
                    exact ⟨_, _, _, _, grow_inj hrun, .inl rfl, hd⟩
  · cases hr
end Go.Proofs.YtdkeobkooiaacaaGreatDoor.Ev
namespace Go.Proofs.YtdkeobkooiaacaaGreatDoor.Ev
variable {P : Program} {ρ : Rho} {tm : Tr AV} {e : Operand → Value}
theorem args_first {c : Call} {t : TypeId} {ts : List TypeId} {a : AV} {as : List AV} (hx : ∀ x ∈ c.args.toList, XR ρ tm e x) (h1 : c.argTypes.toList = t :: ts) (h2 : evs tm c.args.toList = some (a :: as)) :
    c.argTypes[0]? = some t ∧ ∃ x xs, (c.args.map e).toList = x :: xs ∧ (c.args.map e)[0]? = some x ∧ VR ρ a x ∧ VRs ρ as xs := by
  obtain ⟨x, xs, hxs, hx1, hx2⟩ := evs_ok _ _ hx h2
  exact ⟨by rw [← Array.getElem?_toList, h1]; rfl, x, xs, by rw [Array.toList_map, hxs], by rw [← Array.getElem?_toList, Array.toList_map, hxs]; rfl, hx1, hx2⟩
theorem eAppend_ok [Glob] {h : Heap} {n : Pos} {w : World} (hw : WR ρ h w) {c : Call} {ty : TypeId} {r : Eff} (hx : ∀ x ∈ c.args.toList, XR ρ tm e x) (hr : eAppend P tm h n c.argTypes.toList c.args.toList = some r) (hf : Fresh ρ n r.n) :
    EffOk P ρ h n w (do pure (.value (← Builtin.append_ c.argTypes ty (c.args.map e)))) r.v r.h r.n := by
  unfold eAppend at hr
  split at hr
  · rename_i t xt ts s x as hts hargs
    obtain ⟨h1, vs, xs0, hl0, h2, hs, hxs0⟩ := args_first hx hts hargs
    obtain ⟨vx, xs1, rfl, hxv, _⟩ := hxs0
    have h4 : c.argTypes[1]? = some xt := by rw [← Array.getElem?_toList, hts]; rfl
    have h3 : (c.args.map e)[1]? = some vx := by rw [← Array.getElem?_toList, hl0]; rfl
    split at hr
    · rename_i el hel
      have hu := elemOf_und hel
      cases hni : notInt P xt with
      | false => rw [hni] at hr; cases hr
      | true =>
        simp only [hni, cond_true] at hr
        unfold aAppend at hr
        split at hr
        · rename_i esz by_ z hsz hby hz
          cases hb : (Nat.blt 0 esz && Nat.blt by_ 65536 && Nat.blt 0 by_ && Nat.beq z.length esz) with
          | false => rw [hb] at hr; cases hr
          | true =>
            simp only [hb, cond_true] at hr
            simp only [Bool.and_eq_true, Nat.blt_eq] at hb
            have he0 := hb.1.1.1
            have hb1 := hb.1.1.2
            have hb0 := hb.1.2
            have hzl := Nat.eq_of_beq_eq_true hb.2
            split at hr
            · cases hr
            · rename_i xs k hxs
              obtain ⟨hlen, new, hnew, hfc, hxl⟩ := appCells_ok (P := P) hw hxv hxs
              have stay : ∀ {base len cap}, vs = .slice base len cap → len ≤ cap → k = 0 → VR ρ s vs → EffOk P ρ h n w (do pure (.value (← Builtin.append_ c.argTypes ty (c.args.map e)))) s h n := by
                intro base len cap hv hle hk0 hs
                subst hk0 hv
                have hnn : new.toList = [] := hnew.nil_of (by simpa using hxl)
                have hrun := append_room (P := P) (w := w) (w' := w) (tys := c.argTypes) (args := c.args.map e) (ty := ty) h1 h2 h3 h4 hu hni hsz hlen hfc hle (fun a _ => by rw [hnn]; rfl) (fun _ => rfl)
                exact ⟨_, _, _, _, grow_inj hrun, .inl rfl, .stay hw (Fr.refl _ _ _) hs⟩
              split at hr
              · cases hk : Nat.beq k 0 with
                | true =>
                  simp only [hk, cond_true, Option.some.injEq] at hr
                  subst hr
                  exact stay (by simpa only [VR] using hs) (Nat.le_refl _) (Nat.eq_of_beq_eq_true hk) hs
                | false =>
                  simp only [hk, cond_false] at hr
                  obtain ⟨hb, hre⟩ := bif_some hr
                  subst hre
                  have hsm : k < 16777216 := by simpa [Nat.blt_eq] using hb
                  simp only [VR] at hs; subst hs
                  obtain ⟨i, hi, hib⟩ : ∃ i, P.info? el = some i ∧ i.bytes = by_ := by simpa using hby
                  obtain ⟨zv, hzv, hzr, _⟩ := zeroCells_run (ρ := ρ) hz w.drew
                  have hzs : zv.cells.size = esz := by have := hzr.length; simp only [Array.length_toList] at this; omega
                  obtain ⟨_, new', hnew', hfc', _⟩ := appCells_ok (P := P) (hw.heap (w' := w.drew) rfl) hxv hxs
                  have hk0 : k ≠ 0 := fun x => by subst x; simp at hk
                  obtain ⟨nc, hnc, hrun⟩ := append_grow (P := P) (w := w) (tys := c.argTypes) (args := c.args.map e) (ty := ty) (old := #[]) (new := new') h1 h2 h3 h4 hu hni hsz hi hib hb1 hb0 hzv hlen hfc' (by simp [Builtin.firstCells]) (by omega) (by omega)
                  rw [show 0 + k = k by omega] at hnc hrun
                  have hd := fresh_did (ρ := ρ) (h := h) (n := n) (w := w) hw hf (ty := el) (esz := esz) (len := k) (nc := nc) (cs := xs) (c := #[] ++ new') (rest := Builtin.zeroCells zv.cells (nc - k)) (by simpa using hnew') hxl he0 (by omega) (by rw [zeroCells_size, hzs])
                  exact ⟨_, _, _, _, grow_inj hrun, .inl rfl, hd⟩
              · cases hk : Nat.beq k 0 with
                | true =>
                  simp only [hk, cond_true, Option.some.injEq] at hr
                  subst hr
                  obtain ⟨l, cc, _, rfl, hle, _⟩ := hs
                  exact stay rfl hle (Nat.eq_of_beq_eq_true hk) (by simp only [VR]; exact ⟨l, cc, ‹_›, rfl, hle, ‹_›⟩)
                | false =>
                  simp only [hk, cond_false] at hr
                  exact appTo_ok hw h1 h2 h3 h4 hu hni hsz hby hb0 hb1 hz hzl he0 hs hxv hxs hr hf
              · cases hr
        · cases hr
    · cases hr
  · cases hr
end Go.Proofs.YtdkeobkooiaacaaGreatDoor.Ev
namespace Go.Proofs.YtdkeobkooiaacaaGreatDoor.Ev
variable {P : Program} {ρ : Rho} {tm : Tr AV} {e : Operand → Value}
theorem slSize_und {t : TypeId} {k : Nat} (h : slSize P t = some k) : ∃ el, P.underlying t = some (.slice el) ∧ szOf P el = some k := by
  unfold slSize at h
  split at h
  · rename_i el hel
    exact ⟨el, elemOf_und hel, h⟩
  · cases h
theorem args_two {c : Call} {t : TypeId} {ts : List TypeId} {a b : AV} {as : List AV} (hx : ∀ x ∈ c.args.toList, XR ρ tm e x) (h1 : c.argTypes.toList = t :: ts) (h2 : evs tm c.args.toList = some (a :: b :: as)) :
    c.argTypes[0]? = some t ∧ ∃ x y xs, (c.args.map e).toList = x :: y :: xs ∧ (c.args.map e)[0]? = some x ∧ (c.args.map e)[1]? = some y ∧ VR ρ a x ∧ VR ρ b y ∧ VRs ρ as xs := by
  obtain ⟨g, x, xs, hl, g2, g3, y, ys, rfl, g4, g5⟩ := args_first hx h1 h2
  exact ⟨g, x, y, ys, hl, g2, by rw [← Array.getElem?_toList, hl]; rfl, g3, g4, g5⟩
theorem eCopy_ok [Glob] {h : Heap} {n : Pos} {w : World} (hw : WR ρ h w) {c : Call} {ty : TypeId} {r : Eff} (hx : ∀ x ∈ c.args.toList, XR ρ tm e x) (hr : eCopy P tm h n c.argTypes.toList c.args.toList = some r) :
    EffOk P ρ h n w (do pure (.value (← Builtin.copy_ c.argTypes ty (c.args.map e)))) r.v r.h r.n := by
  unfold eCopy at hr
  split at hr
  · rename_i t ts d x as hts hargs
    obtain ⟨h1, vd, vx, xs, hl0, h2, h3, hd, hxv, _⟩ := args_two hx hts hargs
    split at hr
    · rename_i b off len cap hsl
      obtain ⟨el, hu, hsz⟩ := slSize_und hsl
      split at hr
      · rename_i xs k hxs
        obtain ⟨hlen, new, hnew, hfc, hxl⟩ := appCells_ok (P := P) hw hxv hxs
        cases hb : Nat.ble k len with
        | false => simp [hb] at hr
        | true =>
          simp only [hb, cond_true, Option.map_eq_some_iff] at hr
          obtain ⟨h', hh, rfl⟩ := hr
          obtain ⟨l, cc, hl, rfl, hcap⟩ := hd
          obtain ⟨w', hrun, hw', hf⟩ := writeAt_ok (P := P) hw hnew hh hl
          have hmin : Nat.min k len = k := Nat.min_eq_left (Nat.le_of_ble_eq_true hb)
          refine ⟨.value (goInt k), w', ρ, goInt k, ?_, .inl rfl, .stay hw' hf rfl⟩
          simp only [Builtin.copy_, h1, h2, h3, Sem.run_bind, run_und hu, Result.andThen_ok, hlen, hmin, szOf_run hsz, hfc, hrun, Sem.run_pure]
      · cases hr
    · cases hr
  · cases hr
theorem eDelete_ok [Glob] {h : Heap} {n : Pos} {w : World} (hw : WR ρ h w) {c : Call} {ty : TypeId} {r : Eff} (hx : ∀ x ∈ c.args.toList, XR ρ tm e x) (hr : eDelete P tm h n c.argTypes.toList c.args.toList = some r) :
    EffOk P ρ h n w (do pure (.value (← Builtin.delete_ c.argTypes ty (c.args.map e)))) r.v r.h r.n := by
  unfold eDelete at hr
  split at hr
  · rename_i t ts m k as hts hargs
    obtain ⟨h1, vm, vk, xs, hl0, h2, h3, hm, hk, _⟩ := args_two hx hts hargs
    split at hr
    · rename_i kt et b hmap
      have hu := isMap_und (kt := kt) (et := et) hmap
      cases hf : keyFits P kt k with
      | false => simp [hf] at hr
      | true =>
        simp only [hf, cond_true] at hr
        obtain ⟨d, hd⟩ := keyFits_und hf
        split at hr
        · rename_i es clock hg
          obtain ⟨l, hl, rfl⟩ := hm
          obtain ⟨es', g1, g2⟩ := hw.blk b _ l hg hl
          have hset : ∀ o', (setObj l.B o').run P w = .ok () { w with heap := w.heap.setIfInBounds l.B o' } := fun o' => setObj_run g1 (by intro c t f h; cases h)
          split at hr
          · rename_i j a hj
            simp only [Option.some.injEq] at hr; subst hr
            obtain ⟨r', hr', y, rfl, hy⟩ := findEnt_ok hk hf hd es es'.toList 0 _ g2 hj
            refine ⟨.value (.tuple #[]), _, ρ, .tuple #[], ?_, .inl rfl, obj_did hw (o' := .map (es'.eraseIdxIfInBounds j) clock) hg hl g1 rfl (fun w' hw' => ⟨_, hw', ?_⟩) undef_ok⟩
            · simp only [Builtin.delete_, h1, h2, h3, Sem.run_bind, run_und hu, Result.andThen_ok, run_getMap g1, checkKey_ok hk hf, Instr.findKey, run_und hd, hr', Sem.run_pure, hset]
            · have := delEnt_ok es es'.toList j g2
              have he : (es'.eraseIdxIfInBounds j).toList = es'.toList.eraseIdx j := by
                unfold Array.eraseIdxIfInBounds
                split
                · rw [Array.toList_eraseIdx]
                · rw [List.eraseIdx_of_length_le (by simp; omega)]
              rw [he]; exact this
          · rename_i hj
            simp only [Option.some.injEq] at hr; subst hr
            obtain ⟨r', hr', hnone⟩ := findEnt_ok hk hf hd es es'.toList 0 _ g2 hj
            simp only [FoundR] at hnone; subst hnone
            refine ⟨.value (.tuple #[]), _, ρ, .tuple #[], ?_, .inl rfl, .stay (w' := { w with heap := w.heap.setIfInBounds l.B (.map es' clock) }) (hw.heap ?_) ((Fr.refl ρ h w).trans ⟨⟨rfl, rfl⟩, ?_, ?_, fun B hB => .inr hB⟩) undef_ok⟩
            · simp only [Builtin.delete_, h1, h2, h3, Sem.run_bind, run_und hu, Result.andThen_ok, run_getMap g1, checkKey_ok hk hf, Instr.findKey, run_und hd, hr', Sem.run_pure, hset]
            · exact Array.ext_getElem? fun i => by
                rw [Array.getElem?_setIfInBounds]
                split
                · rename_i hi; subst hi; rw [g1]; split <;> simp_all
                · rfl
            · simp
            · intro B hB hn
              obtain ⟨_, q⟩ := setObj_heap (w := w) (B := l.B) (o' := .map es' clock) g1
              exact q B fun x => hn ⟨b, l, by rw [hg]; simp, hl, x.symm⟩
          · cases hr
        · cases hr
    · cases hr
  · cases hr
theorem eClear_ok [Glob] {h : Heap} {n : Pos} {w : World} (hw : WR ρ h w) {c : Call} {ty : TypeId} {r : Eff} (hx : ∀ x ∈ c.args.toList, XR ρ tm e x) (hr : eClear P tm h n c.argTypes.toList c.args.toList = some r) :
    EffOk P ρ h n w (do pure (.value (← Builtin.clear_ c.argTypes ty (c.args.map e)))) r.v r.h r.n := by
  unfold eClear at hr
  split at hr
  · rename_i t ts v as hts hargs
    obtain ⟨h1, vx, xs, hl0, h2, hv, _⟩ := args_first hx hts hargs
    split at hr
    · rename_i el hel
      have hu := elemOf_und hel
      simp only [Option.some.injEq] at hr; subst hr
      simp only [VR] at hv; subst hv
      exact ⟨.value (.tuple #[]), w, ρ, .tuple #[], by simp only [Builtin.clear_, h1, h2, Sem.run_bind, run_und hu, Result.andThen_ok, Sem.run_pure], .inl rfl, .stay hw (Fr.refl _ _ _) undef_ok⟩
    · rename_i b off cap hel
      have hu := elemOf_und hel
      simp only [Option.some.injEq] at hr; subst hr
      obtain ⟨l, cc, hl, rfl, hcap⟩ := hv
      exact ⟨.value (.tuple #[]), w, ρ, .tuple #[], by simp only [Builtin.clear_, h1, h2, Sem.run_bind, run_und hu, Result.andThen_ok, Sem.run_pure], .inl rfl, .stay hw (Fr.refl _ _ _) undef_ok⟩
    · rename_i el b off len cap hel
      have hu := elemOf_und hel
      obtain ⟨l, cc, hl, rfl, hcap⟩ := hv
      split at hr
      · rename_i z hz
        simp only [Option.map_eq_some_iff] at hr
        obtain ⟨h', hh, rfl⟩ := hr
        obtain ⟨zv, hzv, hzr, _⟩ := zeroCells_run (ρ := ρ) hz w
        obtain ⟨w', hrun, hw', hf⟩ := writeAt_ok (P := P) hw (rep_ok hzr (len + 1)) hh hl
        exact ⟨.value (.tuple #[]), w', ρ, .tuple #[], by simp only [Builtin.clear_, h1, h2, Sem.run_bind, run_und hu, Result.andThen_ok, hzv, Builtin.zeroCells, hrun, Sem.run_pure], .inl rfl, .stay hw' hf undef_ok⟩
      · cases hr
    · cases hr
  · cases hr
theorem liesAt_row {e : TypeId} (hc : P.cellsOf e = 1) (count off n : Nat) (hn : off + n ≤ count) : liesAt P P.depth e count off e n = true := by
  have hd : P.depth = (2 * (P.types.size + Made.depth) + 1) + 1 := rfl
  rw [hd]
  simp only [liesAt, Bool.or_eq_true]
  left
  rw [hd]
  simp [rowAt, hc, hn, sameLayout, Nat.mod_one]
theorem isPtr_und {t el : TypeId} (h : isPtr P t = some el) : P.underlying t = some (.pointer el) := by
  unfold isPtr at h
  split at h
  · rename_i hu; cases h; exact hu
  · cases h
theorem szOf_cells {t : TypeId} {n : Nat} (h : szOf P t = some n) : P.cellsOf t = n := by
  obtain ⟨i, h1, h2⟩ := szOf_info h
  simp [Program.cellsOf, h1, h2]
theorem str_run (ts : Array TypeId) (pt ty el : TypeId) (h0 : ts[0]? = some pt) (w : World) (hp : P.underlying pt = some (.pointer el)) (hc : P.cellsOf el = 1) (g off cells : Nat) (hsh : w.shape? g = some (el, cells)) (k : IntKind) (l : List UInt8) (hn : off + l.length ≤ cells) (h63 : l.length < 16777216) (hl : l.length ≠ 0)
    (hcell : ∀ j x, l[j]? = some x → w.cell? ((⟨g, off, none⟩ : Addr).add j) = some (.int .u8 x.toNat)) :
    (Builtin.unsafeString_ ts ty #[.pointer (some ⟨g, off, none⟩), .int k l.length]).run P w = .ok (.string ⟨l.toArray⟩) (w.freeze ⟨g, off, none⟩ l.length) := by
  have hlb := Lib.run_loadBytes (P := P) w l ⟨g, off, none⟩ .empty hcell
  have hlies := liesAt_row (P := P) hc (cells / P.cellsOf el) off l.length (by rw [hc]; simpa using hn)
  have hmax : IntKind.i64.max = 9223372036854775807 := rfl
  have h63' : ¬ (9223372036854775807 : Int) < (l.length : Int) := by omega
  have hneg : ¬ (l.length : Int) < 0 := by omega
  change Sem.run P (asInt (.int k l.length) >>= _) w = _
  rw [h0]
  simp [asInt, asIntOf, hmax, h63', hneg, hl, variablesAt, hsh, Go.elemOf, run_underlying hp, hlies, hlb]
theorem str_run0 (ts : Array TypeId) (pt ty : TypeId) (h0 : ts[0]? = some pt) (w : World) (p : Option Addr) (k : IntKind) :
    (Builtin.unsafeString_ ts ty #[.pointer p, .int k 0]).run P w = .ok (.string .empty) w := by
  have hmax : IntKind.i64.max = 9223372036854775807 := rfl
  change Sem.run P (asInt (.int k 0) >>= _) w = _
  rw [h0]
  cases p <;> simp [asInt, asIntOf, hmax]
theorem freezeAt_ok [Glob] {h : Heap} {n : Pos} {w : World} (hw : WR ρ h w) {ts : Array TypeId} {pt ty : TypeId} (h0 : ts[0]? = some pt) {b : Pos} {off k : Nat} (hk : k ≠ 0) {l : Loc} (hl : ρ b = some l) {ik : IntKind} {r : Eff} (hr : freezeAt P h n pt b off k = some r) :
    EffOk P ρ h n w (do pure (.value (← Builtin.unsafeString_ ts ty #[.pointer (some ⟨l.B, l.o + off, none⟩), .int ik k]))) r.v r.h r.n := by
  unfold freezeAt at hr
  split at hr
  · rename_i u cs ty' esz opn fz link hp hg
    have hu := isPtr_und hp
    obtain ⟨hb, hr⟩ : (Nat.beq u ty' && Nat.beq esz 1 && Nat.blt k 16777216) = true ∧ _ := by
      cases hb : (Nat.beq u ty' && Nat.beq esz 1 && Nat.blt k 16777216) with
      | false => rw [hb] at hr; cases hr
      | true => rw [hb] at hr; exact ⟨rfl, hr⟩
    simp only [Bool.and_eq_true, Nat.blt_eq] at hb
    have := Nat.eq_of_beq_eq_true hb.1.1; subst this
    simp only [cond_true] at hr
    split at hr
    · rename_i xs hsz hxs
      simp only [Option.map_eq_some_iff] at hr
      obtain ⟨s, hs, rfl⟩ := hr
      obtain ⟨c, fr, g1, g2, g3, g4, g5, g6⟩ := row_get hw hg hl
      obtain ⟨a1, a2⟩ := takeN_eq _ _ _ hxs
      rw [dropN_eq] at a1 a2
      simp only [List.length_drop] at a2
      obtain ⟨vs, hn, hv, hcell⟩ := cellsAt_ok (n := k) (as := xs) hw (by unfold cellsAt; rw [hg]; exact hxs) hl
      obtain ⟨bs, hbs, rfl⟩ := bytesOfCells_ok hs hv
      simp only [List.length_map] at hn
      have hrun := str_run (P := P) ts pt ty u h0 w hu (szOf_cells hsz) l.B (l.o + off) c.size (by simp [World.shape?, g1]) ik bs (by omega) (by omega) (by omega) (fun j x hj => hcell j _ (by simp [hj]))
      rw [hn] at hrun
      obtain ⟨⟨fr', f1, f1'⟩, f2, f3⟩ := freeze_heap w l.B (l.o + off) k c u fr g1 hk
      have hm := mod_wr hw (w' := w.freeze ⟨l.B, l.o + off, none⟩ k) (bl' := .row cs u esz opn false (Nat.max fz (off + k)) none) hg hl ⟨⟨by unfold World.freeze; split <;> rfl, by unfold World.freeze; split <;> rfl⟩, f2⟩ f3 ⟨c, fr', f1, g2, g3, g4, g5, ?_⟩
      · refine ⟨.value (.string ⟨bs.toArray⟩), _, ρ, .string ⟨bs.toArray⟩, ?_, .inl rfl, .stay hm.1 hm.2 ⟨_, rfl, by rw [← hbs]; rfl⟩⟩
        simp only [Sem.run_bind, hrun, Result.andThen_ok, Sem.run_pure]
      · have h1 : off + k ≤ Nat.max fz (off + k) := Nat.le_max_right fz (off + k)
        have h2 : fz ≤ Nat.max fz (off + k) := Nat.le_max_left fz (off + k)
        generalize Nat.max fz (off + k) = mx at h1 h2 ⊢
        rcases g6 with g | g | g | ⟨g, _⟩
        · exact .inl (Nat.le_trans g h2)
        · refine .inr (.inr (.inl ?_))
          rw [f1', if_pos g]
          show l.o + off + k ≤ l.o + mx
          omega
        · refine .inr (.inr (.inl ?_))
          rw [f1']
          split
          · show l.o + off + k ≤ l.o + mx
            omega
          · exact Nat.max_le.2 ⟨by omega, by omega⟩
        · cases g
    · cases hr
  · cases hr
theorem eUnsafeStr_ok [Glob] {h : Heap} {n : Pos} {w : World} (hw : WR ρ h w) {c : Call} {ty : TypeId} {r : Eff} (hx : ∀ x ∈ c.args.toList, XR ρ tm e x) (hr : eUnsafeStr P tm h n c.argTypes.toList c.args.toList = some r) :
    EffOk P ρ h n w (do pure (.value (← Builtin.unsafeString_ c.argTypes ty (c.args.map e)))) r.v r.h r.n := by
  unfold eUnsafeStr at hr
  split at hr
  · rename_i pt ts p ik k hts hargs
    obtain ⟨h1, vp, vk, xs, hl0, h2, h3, hp, hk, hxs⟩ := args_two hx hts hargs
    simp only [VRs] at hxs; subst hxs
    simp only [VR] at hk; subst hk
    have he : c.args.map e = #[vp, .int ik (Int.ofNat k)] := Array.toList_inj.1 hl0
    rw [he]
    have zero : ∀ (q : Option Addr), k = 0 → EffOk P ρ h n w (do pure (.value (← Builtin.unsafeString_ c.argTypes ty #[.pointer q, .int ik (Int.ofNat k)]))) (.str []) h n := by
      intro q hk0
      subst hk0
      exact ⟨.value (.string .empty), w, ρ, .string .empty, by simp only [Sem.run_bind, str_run0 c.argTypes pt ty h1 w q ik, Result.andThen_ok, Sem.run_pure, Int.ofNat_eq_natCast, Int.natCast_zero], .inl rfl, .stay hw (Fr.refl _ _ _) ⟨_, rfl, rfl⟩⟩
    split at hr
    · simp only [VR] at hp; subst hp
      obtain ⟨hb, hre⟩ := bif_some hr
      subst hre
      exact zero none (Nat.eq_of_beq_eq_true hb)
    · rename_i b off
      obtain ⟨l, hl, rfl⟩ := hp
      cases hb : Nat.beq k 0 with
      | true =>
        simp only [hb, cond_true, Option.some.injEq] at hr
        subst hr
        exact zero _ (Nat.eq_of_beq_eq_true hb)
      | false =>
        simp only [hb, cond_false] at hr
        exact freezeAt_ok hw h1 (fun hk0 => by subst hk0; simp at hb) hl hr
    · cases hr
  · cases hr
/-- The operations that write. -/
theorem eff_ok [Glob] {h : Heap} {n : Pos} {w : World} (hw : WR ρ h w) {o : Oper} {r : Eff} (hx : ∀ x ∈ o.op.operands, XR ρ tm e x) (hr : aEff P tm h n o = some r) (hf : Fresh ρ n r.n) : EffOk P ρ h n w (execOp e o) r.v r.h r.n := by
  obtain ⟨dst, op, type, pos, after, guard⟩ := o
  cases op <;> simp only [aEff, reduceCtorEq] at hr <;> simp only [Op.operands] at hx
  case store t a x => exact eStore_ok hw (hx a (by simp)) (hx x (by simp)) hr
  case mapUpdate t m k x => exact eUpdate_ok hw (hx m (by simp)) (hx k (by simp)) (hx x (by simp)) hr
  case insert t m k x => exact eUpdate_ok hw (hx m (by simp)) (hx k (by simp)) (hx x (by simp)) hr
  case convert s d x => exact eConv_ok hw (hx x (by simp)) hr hf
  case next x str =>
    cases str with
    | false => simp at hr
    | true => exact eNext_ok hw (hx x (by simp)) hr
  case call c =>
    unfold eCall at hr
    have hxa : ∀ {b}, c.callee = .builtin b → ∀ x ∈ c.args.toList, XR ρ tm e x := fun hc x hm => hx x (by simp [Call.operands, hc]; simpa using hm)
    split at hr
    · rename_i hc
      have := eAppend_ok (ty := type) hw (hxa hc) hr hf
      simpa [execOp, resolve, hc, invoke, builtin] using this
    · rename_i hc
      have := eCopy_ok (ty := type) hw (hxa hc) hr
      simpa [execOp, resolve, hc, invoke, builtin] using this
    · rename_i hc
      have := eDelete_ok (ty := type) hw (hxa hc) hr
      simpa [execOp, resolve, hc, invoke, builtin] using this
    · rename_i hc
      have := eClear_ok (ty := type) hw (hxa hc) hr
      simpa [execOp, resolve, hc, invoke, builtin] using this
    · rename_i hc
      have := eUnsafeStr_ok (ty := type) hw (hxa hc) hr
      simpa [execOp, resolve, hc, invoke, builtin] using this
    · cases hr
end Go.Proofs.YtdkeobkooiaacaaGreatDoor.Ev
