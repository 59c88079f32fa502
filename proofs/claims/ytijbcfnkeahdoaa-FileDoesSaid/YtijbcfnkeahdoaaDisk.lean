/- The walks of a disk's methods that call no closure. -/
import Derived.Test.YtijbcfnkeahdoaaRow
set_option linter.unusedVariables false
set_option linter.unusedSimpArgs false
namespace Go.Proofs.Ytijbcfnkeahdoaa.Disk
open Go Go.RowKit Go.Proofs.YtijbcfnkeahdoaaW.PrintWords

/-- what a disk holds -/
structure DSt where
  f0 : List Int
  f1 : List Int
  armed : Bool
  left : Int
  off : Bool

structure Dsk (w : World) (g base : Nat) (v0 v1 : Value) (x : DSt) : Prop where
  blk : w.heap[g]? = some (.cells #[v0, v1, .bool x.armed, .int .i64 x.left, .bool x.off] 47 (0, 0))
  r0 : FRow w base v0 x.f0
  r1 : FRow w base v1 x.f1
  apart : ∀ k, v0.ownBlock = some k → v1.ownBlock ≠ some k
  low : base ≤ g
  size : base ≤ w.heap.size
  left0 : 0 ≤ x.left
  left1 : x.left < 9223372036854775808
  len0 : x.f0.length ≤ 4194304
  len1 : x.f1.length ≤ 4194304

/-- what a call of the disk at g leaves as it was: whatever is neither the disk nor a row of bytes -/
def Only (w w' : World) (g : Nat) : Prop := w.heap.size ≤ w'.heap.size ∧ ∀ k, k < w.heap.size → k ≠ g → (∀ cur, w.heap[k]? ≠ some (.cells cur 5 (0, 0))) → w'.heap[k]? = w.heap[k]?
theorem Only.refl (w : World) (g : Nat) : Only w w g := ⟨Nat.le_refl _, fun _ _ _ _ => rfl⟩
theorem Only.trans {w w1 w2 : World} {g : Nat} (h : Only w w1 g) (k : Only w1 w2 g) : Only w w2 g :=
  ⟨Nat.le_trans h.1 k.1, fun i hi hg h5 => by
    have e := h.2 i hi hg h5
    exact (k.2 i (Nat.lt_of_lt_of_le hi h.1) hg (by rw [e]; exact h5)).trans e⟩
theorem Only.of_below {w w1 : World} (h : Below w.heap.size w w1) (g : Nat) : Only w w1 g := ⟨h.size, fun i hi _ _ => h.block i hi⟩
theorem Only.of_grown {w w1 : World} {base : Nat} {v : Value} {xs : List Int} (h : w.grownBy w1 v.ownBlock) (hr : FRow w base v xs) (g : Nat) : Only w w1 g :=
  ⟨h.size, fun i hi _ h5 => h.block i hi (fun e => by obtain ⟨cur, hc⟩ := hr.typed i e.symm; exact h5 cur hc)⟩
theorem Only.set {w w1 : World} {g : Nat} (h : Only w w1 g) (i : Nat) (u : Value) : Only w (w1.setCell ⟨g, i, none⟩ u) g :=
  ⟨by simpa using h.1, fun k hk hg h5 => (Below.heap_setCell w1 ⟨g, i, none⟩ u k hg).trans (h.2 k hk hg h5)⟩

theorem Dsk.below {w w' : World} {g base : Nat} {v0 v1 : Value} {x : DSt} (h : Dsk w g base v0 v1 x) (hb : Below w.heap.size w w') : Dsk w' g base v0 v1 x :=
  ⟨blk_below h.blk hb, h.r0.below hb, h.r1.below hb, h.apart, h.low, Nat.le_trans h.size hb.size, h.left0, h.left1, h.len0, h.len1⟩
theorem Dsk.c0 {w : World} {g base : Nat} {v0 v1 : Value} {x : DSt} (h : Dsk w g base v0 v1 x) : w.cell? ⟨g, 0, none⟩ = some v0 := (blk_cell h.blk 0).trans rfl
theorem Dsk.c1 {w : World} {g base : Nat} {v0 v1 : Value} {x : DSt} (h : Dsk w g base v0 v1 x) : w.cell? ⟨g, 1, none⟩ = some v1 := (blk_cell h.blk 1).trans rfl
theorem Dsk.c2 {w : World} {g base : Nat} {v0 v1 : Value} {x : DSt} (h : Dsk w g base v0 v1 x) : w.cell? ⟨g, 2, none⟩ = some (.bool x.armed) := (blk_cell h.blk 2).trans rfl
theorem Dsk.c3 {w : World} {g base : Nat} {v0 v1 : Value} {x : DSt} (h : Dsk w g base v0 v1 x) : w.cell? ⟨g, 3, none⟩ = some (.int .i64 x.left) := (blk_cell h.blk 3).trans rfl
theorem Dsk.c4 {w : World} {g base : Nat} {v0 v1 : Value} {x : DSt} (h : Dsk w g base v0 v1 x) : w.cell? ⟨g, 4, none⟩ = some (.bool x.off) := (blk_cell h.blk 4).trans rfl
theorem Dsk.fz {w : World} {g base : Nat} {v0 v1 : Value} {x : DSt} (h : Dsk w g base v0 v1 x) (i : Nat) : w.frozen? ⟨g, i, none⟩ = false := blk_frozen h.blk i
/-- a field of the disk's is written -/
theorem Dsk.set {w : World} {g base : Nat} {v0 v1 : Value} {x : DSt} (h : Dsk w g base v0 v1 x) (i : Nat) (u : Value) (y : DSt) (hc : (#[v0, v1, .bool x.armed, .int .i64 x.left, .bool x.off] : Array Value).setIfInBounds i u = #[v0, v1, .bool y.armed, .int .i64 y.left, .bool y.off]) (h0 : y.f0 = x.f0) (h1 : y.f1 = x.f1) (hl0 : 0 ≤ y.left) (hl1 : y.left < 9223372036854775808) :
    Dsk (w.setCell ⟨g, i, none⟩ u) g base v0 v1 y :=
  ⟨by rw [← hc]; exact blk_set h.blk i u, by rw [h0]; exact h.r0.set h.blk (by decide) i u, by rw [h1]; exact h.r1.set h.blk (by decide) i u, h.apart, h.low, by simpa using h.size, hl0, hl1, by rw [h0]; exact h.len0, by rw [h1]; exact h.len1⟩

def DSt.check (x : DSt) (n : Int) : Int := if x.off = true then 280 else if n < 0 ∨ 2 ≤ n then 1 else 0

set_option maxHeartbeats 1000000 in
theorem check_calls {w : World} {g base : Nat} {v0 v1 : Value} {x : DSt} (h : Dsk w g base v0 v1 x) (n : Int) :
    Calls Try.prog 28 #[.pointer (some ⟨g, 0, none⟩), .int .i64 n] w fun e w' => e = .returned (.int .i64 (x.check n)) ∧ w = w' := by
  have h4 := h.c4
  have H := Aside0.mk h
  clear h
  unfold DSt.check
  generalize x.off = o at h4 ⊢
  cases o
  · by_cases h1 : n < 0
    · have b1 : decide (n < 0) = true := decide_eq_true h1
      rw [if_neg (by simp), if_pos (.inl h1)]
      clear h1
      go_enter Try.func28, Try.ntmps28
      go_wp2
      go_ret
      exact ⟨rfl, rfl⟩
    · have b1 : decide (n < 0) = false := decide_eq_false h1
      by_cases h2 : 2 ≤ n
      · have b2 : decide (2 ≤ n) = true := decide_eq_true h2
        rw [if_neg (by simp), if_pos (.inr h2)]
        clear h1 h2
        go_enter Try.func28, Try.ntmps28
        go_wp2
        go_ret
        exact ⟨rfl, rfl⟩
      · have b2 : decide (2 ≤ n) = false := decide_eq_false h2
        rw [if_neg (by simp), if_neg (by omega)]
        clear h1 h2
        go_enter Try.func28, Try.ntmps28
        go_wp2
        go_ret
        exact ⟨rfl, rfl⟩
  · rw [if_pos rfl]
    go_enter Try.func28, Try.ntmps28
    go_wp2
    go_ret
    exact ⟨rfl, rfl⟩
set_option maxHeartbeats 1000000 in
theorem check_nil (n : Int) (w : World) :
    Calls Try.prog 28 #[.pointer none, .int .i64 n] w fun e w' => e = .returned (.int .i64 6) ∧ w = w' := by
  go_enter Try.func28, Try.ntmps28
  go_wp2
  go_ret
  exact ⟨rfl, rfl⟩
set_option maxHeartbeats 1000000 in
theorem off_calls {w : World} {g base : Nat} {v0 v1 : Value} {x : DSt} (h : Dsk w g base v0 v1 x) :
    Calls Try.prog 20 #[.pointer (some ⟨g, 0, none⟩)] w fun e w' => e = .returned (.bool x.off) ∧ w = w' := by
  have h4 := h.c4
  clear h
  go_enter Try.func20, Try.ntmps20
  go_wp2
  go_ret
  exact ⟨rfl, rfl⟩
set_option maxHeartbeats 1000000 in
theorem off_nil (w : World) :
    Calls Try.prog 20 #[.pointer none] w fun e w' => e = .returned (.bool true) ∧ w = w' := by
  go_enter Try.func20, Try.ntmps20
  go_wp2
  go_ret
  exact ⟨rfl, rfl⟩
set_option maxHeartbeats 1000000 in
theorem arm_calls {w : World} {g base : Nat} {v0 v1 : Value} {x : DSt} (h : Dsk w g base v0 v1 x) (k : Int) (hk : k < 9223372036854775808) :
    Calls Try.prog 13 #[.pointer (some ⟨g, 0, none⟩), .int .i64 k] w fun e w' => e = .returned (.tuple #[]) ∧ Dsk w' g base v0 v1 { x with armed := true, left := max k 0 } ∧ Below base w w' ∧ Only w w' g := by
  obtain ⟨m, hm⟩ : ∃ m, max k 0 = m := ⟨_, rfl⟩
  have hmx : (if k < 0 then (0 : Int) else k) = m := by split <;> omega
  have c2 := h.c2
  have c3 := h.c3
  have f2 := h.fz 2
  have f3 := h.fz 3
  have f32 : (w.setCell ⟨g, 2, none⟩ (.bool true)).frozen? ⟨g, 3, none⟩ = false := blk_frozen (blk_set h.blk 2 _) 3
  have H := Aside0.mk h
  have HM := Aside0.mk hm
  have HK := Aside0.mk hk
  clear h hm hk
  go_enter Try.func13, Try.ntmps13
  go_wp2
  go_end0
  rw [HM.out]
  have h1 := H.out.set 2 (.bool true) { x with armed := true } rfl rfl rfl H.out.left0 H.out.left1
  have h2 := h1.set 3 (.int .i64 m) { x with armed := true, left := m } rfl rfl rfl (by have := HM.out; show 0 ≤ m; omega) (by have := HM.out; have := HK.out; show m < _; omega)
  exact ⟨rfl, h2, ((Below.refl base w).setCell H.out.low _).setCell H.out.low _, ((Only.refl w g).set 2 _).set 3 _⟩
set_option maxHeartbeats 1000000 in
theorem arm_nil (k : Int) (w : World) :
    Calls Try.prog 13 #[.pointer none, .int .i64 k] w fun e w' => e = .returned (.tuple #[]) ∧ w = w' := by
  go_enter Try.func13, Try.ntmps13
  go_wp2
  go_end0
  exact ⟨rfl, rfl⟩
set_option maxHeartbeats 1000000 in
theorem wake_calls {w : World} {g base : Nat} {v0 v1 : Value} {x : DSt} (h : Dsk w g base v0 v1 x) :
    Calls Try.prog 15 #[.pointer (some ⟨g, 0, none⟩)] w fun e w' => e = .returned (.tuple #[]) ∧ Dsk w' g base v0 v1 { x with armed := false, off := false } ∧ Below base w w' ∧ Only w w' g := by
  have c2 := h.c2
  have c4 := h.c4
  have f2 := h.fz 2
  have f4 := h.fz 4
  have f32 : (w.setCell ⟨g, 2, none⟩ (.bool false)).frozen? ⟨g, 4, none⟩ = false := blk_frozen (blk_set h.blk 2 _) 4
  have H := Aside0.mk h
  clear h
  go_enter Try.func15, Try.ntmps15
  go_wp2
  go_end0
  have h1 := H.out.set 2 (.bool false) { x with armed := false } rfl rfl rfl H.out.left0 H.out.left1
  have h2 := h1.set 4 (.bool false) { x with armed := false, off := false } rfl rfl rfl H.out.left0 H.out.left1
  exact ⟨rfl, h2, ((Below.refl base w).setCell H.out.low _).setCell H.out.low _, ((Only.refl w g).set 2 _).set 4 _⟩
set_option maxHeartbeats 1000000 in
theorem wake_nil (w : World) :
    Calls Try.prog 15 #[.pointer none] w fun e w' => e = .returned (.tuple #[]) ∧ w = w' := by
  go_enter Try.func15, Try.ntmps15
  go_wp2
  go_end0
  exact ⟨rfl, rfl⟩
set_option maxHeartbeats 1000000 in
theorem new_calls (w : World) : Calls Try.prog 9 #[] w fun e w' => ∃ g, e = .returned (.pointer (some ⟨g, 0, none⟩)) ∧ Dsk w' g w.heap.size (.slice none 0 0) (.slice none 0 0) ⟨[], [], false, 0, false⟩ ∧ Below w.heap.size w w' := by
  go_enter Try.func9, Try.ntmps9
  go_wp2
  go_ret
  exact ⟨_, rfl, ⟨blk_new w _, FRow.nil _ _, FRow.nil _ _, by simp [Value.ownBlock], Nat.le_refl _, by simp, by decide, by decide, by simp, by simp⟩, (Below.refl _ _).alloc (Nat.le_refl _) _⟩
end Go.Proofs.Ytijbcfnkeahdoaa.Disk
