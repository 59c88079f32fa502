/- The heads: four bytes of a constant and one more. -/
import Derived.Test.YtnohflfpahokiaaProg
import Derived.Test.YtnohflfpahokiaaMine
import Derived.Test.YtnohflfpahokiaaWMore
import Derived.Test.YtnohflfpahokiaaWLast
import Derived.Lib.SlBytesConst
set_option linter.unusedVariables false
set_option linter.unusedSimpArgs false
namespace Go.Proofs.Ytnohflfpahokiaa.Head
open Go Go.RowKit Go.Proofs.YtnohflfpahokiaaW.PrintWords Go.Proofs.YtnohflfpahokiaaW.PrintLast
theorem info5 : (Try.prog.info? 5).map (fun i => (i.zero, i.size, i.bytes)) = some (some (.int .u8 0), 1, 1) := by kernel_rfl
theorem nums_length (k : IntKind) (xs : List Int) : (nums k xs).length = xs.length := by simp [nums]
theorem nums_append (k : IntKind) (xs ys : List Int) : nums k (xs ++ ys) = nums k xs ++ nums k ys := by simp [nums]
/-- a literal row stands in its block -/
theorem lit_cells (w : World) (k : IntKind) (xs : List Int) (t : TypeId) (m : Nat × Nat) : ∀ j v, (nums k xs)[j]? = some v → (w.alloc (.cells (nums k xs).toArray t m)).cell? ((⟨w.heap.size, 0, none⟩ : Addr).add j) = some v := by
  intro j v h
  have hb : (w.alloc (.cells (nums k xs).toArray t m)).heap[w.heap.size]? = some (.cells (nums k xs).toArray t m) := heap_alloc_new w _
  have ha : ((⟨w.heap.size, 0, none⟩ : Addr).add j) = ⟨w.heap.size, j, none⟩ := by
    unfold Addr.add
    split
    · rename_i h0; rw [h0]
    · simp
  rw [ha]
  simp only [World.cell?, hb]
  simpa using h
theorem append_const {ops : Array Oper} {Q : Exit → Act → World → Prop} {o : Oper} {rest : List Oper} {a : Act} (w : World) (s x : Operand) (xs ys : List Int) (m : Nat × Nat) (hgd : o.guard = none)
    (ho : o.op = .call { callee := .builtin .append, args := #[s, x], argTypes := #[25, 25] }) (hs : a.eval s = .slice (some ⟨w.heap.size, 0, none⟩) xs.length xs.length) (hx : a.eval x = .slice (some ⟨w.heap.size + 1, 0, none⟩) ys.length ys.length)
    (h0 : 0 < ys.length) (hl : xs.length + ys.length ≤ 140737488355328)
    (h : ∀ v1 w1, (Kd.int .u8).R 5 w1 w.heap.size (fun _ => True) v1 (xs ++ ys) → Below w.heap.size w w1 → wpList Try.prog ops Q rest (a.put o.dst v1) w1) :
    wpList Try.prog ops Q (o :: rest) a ((w.alloc (.cells (nums .u8 xs).toArray 5 m)).alloc (.cells (nums .u8 ys).toArray 5)) := by
  obtain ⟨i0, hi, hzz⟩ := Option.map_eq_some_iff.1 info5
  simp only [Prod.mk.injEq] at hzz
  obtain ⟨hz0, hz1, hz2⟩ := hzz
  have hW1 : (w.alloc (.cells (nums .u8 xs).toArray 5 m)).heap.size = w.heap.size + 1 := by simp
  obtain ⟨W, hW⟩ : ∃ W, (w.alloc (.cells (nums .u8 xs).toArray 5 m)).alloc (.cells (nums .u8 ys).toArray 5) = W := ⟨_, rfl⟩
  have holds : ∀ j v, (nums .u8 xs)[j]? = some v → W.cell? ((⟨w.heap.size, 0, none⟩ : Addr).add j) = some v := by
    intro j v hv
    have h1 := lit_cells w .u8 xs 5 m j v hv
    rw [← hW]
    exact ((below_alloc (Below.refl _ _) _).cell (World.block_lt_of_cell? _ _ h1)).trans h1
  have hnews : ∀ j v, (nums .u8 ys)[j]? = some v → W.cell? ((⟨w.heap.size + 1, 0, none⟩ : Addr).add j) = some v := by
    intro j v hv
    have h1 := lit_cells (w.alloc (.cells (nums .u8 xs).toArray 5 m)) .u8 ys 5 (0, 0) j v hv
    rw [hW1] at h1
    rw [← hW]
    exact h1
  have hr := run_append_grow (P := Try.prog) (w := W) 25 o.type 5 i0 (.int .u8 0) Try.underlying25 hi hz0 ⟨w.heap.size, 0, none⟩ xs.length xs.length (nums .u8 xs) (by rw [nums_length, hz1]; omega) holds ⟨w.heap.size + 1, 0, none⟩ ys.length ys.length (nums .u8 ys) (by rw [nums_length, hz1]; omega) hnews (by omega) (by omega) (by
    rw [hz2, Nat.mul_one]
    have := nextslicecap_le (show xs.length < xs.length + ys.length by omega)
    omega)
  have hge := grownCap_ge W (xs.length + ys.length) xs.length 5
  have hcm : grownCap W (xs.length + ys.length) xs.length 5 ≤ maxLen := grownCap_le_maxLen W (xs.length + ys.length) xs.length 5 (by simp only [maxLen]; omega)
  have hBW : Below w.heap.size w W := by rw [← hW]; exact below_alloc (below_alloc (Below.refl _ _) _) _
  have hs2 : W.heap.size = w.heap.size + 2 := by rw [← hW]; simp
  rw [hW]
  refine wpList_plain hgd fun K hK => ?_
  unfold Oper.wp execOp
  simp only [ho, resolve, invoke, builtin, Sem.run_bind, Sem.run_pure, Result.andThen_ok, List.map_toArray, List.map_cons, List.map_nil, hs, hx, hr]
  refine hK _ _ (h _ _ ?_ ?_)
  · refine Kd.R_of_own (enc := Value.int .u8) ?_ (fun _ _ => trivial)
    have e : encs (Value.int .u8) (xs ++ ys) = nums .u8 (xs ++ ys) := rfl
    rw [e, List.length_append]
    refine ⟨by rw [nums_length, List.length_append, Nat.mul_one], .inr ⟨W.heap.size, _, _, rfl, by omega, heap_alloc_new W.drew _, hge, hcm, ?_, ?_⟩⟩
    · have hz : (Value.int IntKind.u8 0).cells.size = 1 := rfl
      simp only [Array.size_append, List.size_toArray, size_zeroCells, hz, nums_length]
      omega
    · simp only [Array.toList_append, List.append_assoc]
      rw [← List.append_assoc, ← nums_append, Nat.mul_one]
      have : xs.length + ys.length = (nums .u8 (xs ++ ys)).length := by rw [nums_length, List.length_append]
      rw [this]
      exact List.take_left
  · exact below_alloc hBW.drew _
def head5 : List Int := [65, 73, 82, 88, 1]
set_option maxHeartbeats 2000000 in
theorem head_calls (w : World) : Calls Try.prog 23 #[] w fun e w' => ∃ v : Value, e = .returned v ∧ (Kd.int .u8).R 5 w' w.heap.size (fun _ => True) v head5 ∧ Below w.heap.size w w' := by
  have kc := fun (w : World) (C : Array Value) (n c : Nat) => Lib.run_convert_bytes_const (P := Try.prog) w 25 5 C n c Try.underlying25 Try.underlying5
  go_enter Try.func23, Try.ntmps23
  go_wp2_with (at_builtin; refine append_const w (.tmp 2) (.tmp 3) [65, 73, 82, 88] [1] (4, 5) rfl rfl rfl rfl (by decide) (by decide) ?_; intro v1 w1 h1 h2; have H1 := Aside0.mk h1; have B1 := Aside0.mk h2; clear h1 h2)
  go_ret
  exact ⟨_, rfl, H1.out, B1.out⟩
set_option maxHeartbeats 2000000 in
theorem rhead_calls (w : World) : Calls Try.prog 30 #[] w fun e w' => ∃ v : Value, e = .returned v ∧ (Kd.int .u8).R 5 w' w.heap.size (fun _ => True) v head5 ∧ Below w.heap.size w w' := by
  have kc := fun (w : World) (C : Array Value) (n c : Nat) => Lib.run_convert_bytes_const (P := Try.prog) w 25 5 C n c Try.underlying25 Try.underlying5
  go_enter Try.func30, Try.ntmps30
  go_wp2_with (at_builtin; refine append_const w (.tmp 2) (.tmp 3) [65, 73, 82, 88] [1] (4, 5) rfl rfl rfl rfl (by decide) (by decide) ?_; intro v1 w1 h1 h2; have H1 := Aside0.mk h1; have B1 := Aside0.mk h2; clear h1 h2)
  go_ret
  exact ⟨_, rfl, H1.out, B1.out⟩
end Go.Proofs.Ytnohflfpahokiaa.Head
