/- The walk of the law's lives. -/
import Derived.Test.YtijbcfnkeahdoaaSpoil
import Derived.Lib.SlBytesConst
set_option linter.unusedVariables false
set_option linter.unusedSimpArgs false
namespace Go.Proofs.Ytijbcfnkeahdoaa.Disk
open Go Go.RowKit Go.Proofs.YtijbcfnkeahdoaaW.PrintWords

/-- A row that has just been laid, whatever its mark, reads as its numbers. -/
theorem C_lit (k : IntKind) (W : World) (xs : List Int) (e : TypeId) (m : Nat × Nat) (hl : xs.length ≤ 9223372036854775807) : (Kd.int k).C (W.alloc (.cells (xs.map (Value.int k)).toArray e m)) (some ⟨W.heap.size, 0, none⟩) xs.length xs := by
  refine ⟨rfl, hl, fun _ => ⟨_, rfl, fun j p hj => ⟨[Value.int k p], rfl, rfl, fun i u hu => ?_⟩⟩⟩
  obtain ⟨hi, hu⟩ := List.getElem?_eq_some_iff.1 hu
  have hi0 : i = 0 := by simpa using hi
  subst hi0
  have hu' : Value.int k p = u := by simpa using hu
  subst hu'
  have hs : (Kd.int k).sz = 1 := rfl
  rw [hs, Nat.mul_one, Nat.add_zero]
  have := cell_of_row (W.alloc (.cells (xs.map (Value.int k)).toArray e m)) W.heap.size j _ e m (heap_alloc_new W _)
  have ha : (⟨W.heap.size, 0, none⟩ : Addr).add j = ⟨W.heap.size, j, none⟩ := by
    unfold Addr.add
    split
    · rename_i h0; rw [h0]
    · simp
  rw [ha, this]
  simp [hj]

theorem lit_below {W : World} (o : Obj) : Below W.heap.size W (W.alloc o) := (Below.refl _ _).alloc (Nat.le_refl _) o
theorem lv_write {W : World} {g base : Nat} {v0 v1 : Value} (h : Dsk W g base v0 v1 ⟨[], [], true, 2, false⟩) :
    Calls Try.prog 14 #[.pointer (some ⟨g, 0, none⟩), .int .i64 1, .slice (some ⟨W.heap.size, 0, none⟩) 3 3] (W.alloc (.cells #[.int .u8 97, .int .u8 98, .int .u8 99] 5 (3, 4))) fun e w' => e = .returned (.int .i64 280) ∧ ∃ v0' v1', Dsk w' g base v0' v1' ⟨[], [97, 98], false, 0, true⟩ ∧ Below base W w' := by
  refine (write_ok1 (h.below (lit_below _)) rfl (C_lit .u8 W [97, 98, 99] 5 (3, 4) (by decide)) (by decide) (by decide)).mono ?_
  rintro e w' ⟨rfl, v0', v1', h1, h2, h3⟩
  exact ⟨rfl, v0', v1', h1, ((Below.refl _ _).alloc h.size _).trans h2⟩
theorem lv_spoil {W : World} {g base : Nat} {v0 v1 : Value} (h : Dsk W g base v0 v1 ⟨[], [97, 98], false, 0, false⟩) :
    Calls Try.prog 17 #[.pointer (some ⟨g, 0, none⟩), .int .i64 1, .int .i64 1, .slice (some ⟨W.heap.size, 0, none⟩) 3 3] (W.alloc (.cells #[.int .u8 120, .int .u8 121, .int .u8 122] 5 (3, 4))) fun e w' => e = .returned (.int .i64 0) ∧ ∃ v0' v1', Dsk w' g base v0' v1' ⟨[], [97, 120, 121, 122], false, 0, false⟩ ∧ Below base W w' ∧ KeepBut W w' g v1.ownBlock := by
  refine (spoil_ok1 (h.below (lit_below _)) 1 (by decide) (C_lit .u8 W [120, 121, 122] 5 (3, 4) (by decide)) (by decide)).mono ?_
  rintro e w' ⟨rfl, v0', v1', h1, h2, h3, h4⟩
  exact ⟨rfl, v0', v1', h1, ((Below.refl _ _).alloc h.size _).trans h2, (KeepBut.of_below (lit_below _) g v1.ownBlock).trans h4 (.inl rfl)⟩
theorem lv_clear {W : World} {g base : Nat} {v0 v1 : Value} {l : List Int} (h : Dsk W g base v0 v1 ⟨[], l, false, 0, false⟩) :
    Calls Try.prog 18 #[.pointer (some ⟨g, 0, none⟩), .int .i64 1] W fun e w' => e = .returned (.int .i64 0) ∧ ∃ v0' v1', Dsk w' g base v0' v1' ⟨[], [], false, 0, false⟩ ∧ Below base W w' := by
  refine clear_said ((cut_ok1 h rfl 0 (Nat.zero_le _)).mono ?_)
  rintro e w' ⟨rfl, v0', v1', h1, h2, h3⟩
  exact ⟨⟨_, rfl⟩, rfl, v0', v1', h1, h2⟩
/-- a row of bytes that the call made stays when a disk's method runs whose base lies above it, or that only writes bytes of its own -/
theorem str_of {W : World} {base : Nat} {A : Option Addr} {c : Nat} {xs : List Int} (h : (Kd.int .u8).R 5 W base (fun _ => True) (.slice A xs.length c) xs) : (convert 30 9 (.slice A xs.length c)).run Try.prog W = .ok (.string (strOfNums xs)) W :=
  own_string (P := Try.prog) Try.underlying30 Try.underlying5 Try.underlying9 (Kd.own_of_R h)
theorem R_new_keep {W W1 : World} {b g : Nat} {row : Option Nat} {v : Value} {xs : List Int} (h : (Kd.int .u8).R 5 W b (fun _ => True) v xs) (hk : KeepBut W W1 g row) (hg : g < b) (hr : ∀ k, row = some k → k < b) : (Kd.int .u8).R 5 W1 b (fun _ => True) v xs := by
  refine Kd.R_mono (Kd.R_move (Kd.R_bound h) (fun k hk2 => ?_)) (fun _ _ => trivial)
  refine hk.2 k hk2.2.2.1 (by have := hk2.2.1; omega) (fun e => ?_)
  have h1 := hr k e.symm
  have h2 := hk2.2.1
  omega

set_option maxHeartbeats 1000000 in
theorem lives_calls (w : World) : Calls Try.prog 8 #[] w fun e w' => e = .returned (.bool true) ∧ Below w.heap.size w w' := by
  have kc := fun (w : World) (C : Array Value) (n c : Nat) => Lib.run_convert_bytes_const (P := Try.prog) w 30 5 C n c Try.underlying30 Try.underlying5
  have e97 : (strOfNums [97, 98]) = ⟨#[97, 98]⟩ := rfl
  have e120 : (strOfNums [97, 120, 121, 122]) = ⟨#[97, 120, 121, 122]⟩ := rfl
  go_enter Try.func8, Try.ntmps8
  go_wp2_with (first
    | (go_at_call 9; (with_reducible refine (new_calls _).mono ?_); rintro e w1 ⟨g, rfl, h1, h2⟩; have D1 := Aside0.mk h1; have B1 := Aside0.mk h2; clear h1 h2)
    | (go_at_call 13; (with_reducible refine (arm_calls D1.out 2 (by omega)).mono ?_); rintro e w2 ⟨rfl, h1, h2, h3⟩; have D2 := Aside0.mk h1; have B2 := Aside0.mk (B1.out.trans h2); clear h1 h2 h3)
    | (go_at_call 14; (with_reducible refine (lv_write D2.out).mono ?_); rintro e w3 ⟨rfl, v0', v1', h1, h2⟩; have D3 := Aside0.mk h1; have B3 := Aside0.mk (B2.out.trans h2); clear h1 h2)
    | (go_at_call 16; (with_reducible refine (read_bad D3.out 1 (by decide)).mono ?_); rintro e w4 ⟨rfl, rfl⟩)
    | (go_at_call 20; (with_reducible refine (off_calls D3.out).mono ?_); rintro e w5 ⟨rfl, rfl⟩)
    | (go_at_call 20; (with_reducible refine (off_calls D10.out).mono ?_); rintro e w11 ⟨rfl, rfl⟩)
    | (go_at_call 18; (with_reducible refine (lv_clear D10.out).mono ?_); rintro e w12 ⟨rfl, v0c, v1c, h1, h2⟩; have D12 := Aside0.mk h1; have B12 := Aside0.mk (B10.out.trans h2); clear h1 h2)
    | (go_at_call 14; (with_reducible refine (write_bad D12.out 2 (by decide) none 0 0).mono ?_); rintro e w13 ⟨rfl, h1⟩; have B13 := Aside0.mk (below_then B12.out B12.out.size h1); clear h1)
    | (go_at_call 15; (with_reducible refine (wake_calls D3.out).mono ?_); rintro e w6 ⟨rfl, h1, h2, h3⟩; have D6 := Aside0.mk h1; have B6 := Aside0.mk (B3.out.trans h2); clear h1 h2 h3)
    | (go_at_call 16; (with_reducible refine (read_ok1 D6.out rfl).mono ?_); rintro e w7 ⟨⟨u7, rfl, h1⟩, h2⟩; have R7 := Aside0.mk h1; have D7 := Aside0.mk (D6.out.below h2); have B7 := Aside0.mk (below_then B6.out B6.out.size h2); clear h1 h2)
    | (go_at_call 17; (with_reducible refine (lv_spoil D7.out).mono ?_); rintro e w8 ⟨rfl, v0'', v1'', h1, h2, h3⟩; have D8 := Aside0.mk h1; have B8 := Aside0.mk (B7.out.trans h2); have K8 := Aside0.mk h3; clear h1 h2 h3)
    | (go_at_call 16; (with_reducible refine (read_ok1 D8.out rfl).mono ?_); rintro e w9 ⟨⟨u9, rfl, h1⟩, h2⟩; have R9 := Aside0.mk h1; have D9 := Aside0.mk (D8.out.below h2); have B9 := Aside0.mk (below_then B8.out B8.out.size h2); have L9 := Aside0.mk h2; clear h1 h2)
    | (go_at_call 19; (with_reducible refine (cut_arg1 D9.out rfl 5 (.inr (by decide))).mono ?_); rintro e w10 ⟨rfl, h1⟩; have D10 := Aside0.mk (D9.out.below h1); have B10 := Aside0.mk (below_then B9.out B9.out.size h1); have L10 := Aside0.mk h1; clear h1; have R7w := Kd.R_below (Kd.R_below (R_new_keep R7.out K8.out (blk_lt D6.out.blk) (fun k hk => D6.out.r1.lt k hk)) L9.out) L10.out; have R9w := Kd.R_below R9.out L10.out; have q7 : (convert 30 9 u7).run Try.prog w10 = .ok (.string ⟨#[97, 98]⟩) w10 := (own_string (P := Try.prog) Try.underlying30 Try.underlying5 Try.underlying9 (Kd.own_of_R R7w)).trans (by rw [e97]); have q9 : (convert 30 9 u9).run Try.prog w10 = .ok (.string ⟨#[97, 120, 121, 122]⟩) w10 := (own_string (P := Try.prog) Try.underlying30 Try.underlying5 Try.underlying9 (Kd.own_of_R R9w)).trans (by rw [e120]); clear R7w R9w))
  go_ret
  exact ⟨by first | rfl | simp, B13.out⟩
end Go.Proofs.Ytijbcfnkeahdoaa.Disk
