/- strings.Builder's methods in the form of Buf (its cells: its own address or none, its row). -/
import Derived.Test.YtgecigndgkcpkaaPen
import Derived.Lib.Builder
import Derived.Lib.UnsafeStr
import Derived.Lib.AppendStr
import Derived.Laws.Externs
set_option linter.unusedVariables false
set_option linter.unusedSimpArgs false
namespace Go.Proofs.Ytgecigndgkcpkaa.Pen
open Go Go.RowKit Go.Proofs.YtgecigndgkcpkaaW.PrintWords

def self (g : Nat) : Value := .pointer (some ⟨g, 0, none⟩)

/-- a builder at g holds the bytes xs -/
def Bld (w : World) (g base : Nat) (v : Value) (xs : List Int) : Prop := ∃ p, (p = .pointer none ∨ p = self g) ∧ Buf w 35 #[p, v] g base v xs

theorem sizeB : (Try.prog.info? 35).map (·.size) = some 2 := by kernel_rfl
theorem liesB : liesAt Try.prog Try.prog.depth 35 (2 / Try.prog.cellsOf 35) 0 35 1 = true := by kernel_rfl
theorem cells5 : Try.prog.cellsOf 5 = 1 := by kernel_rfl

theorem Buf.set_low {w : World} {T : TypeId} {cs : Array Value} {g base : Nat} {v : Value} {xs : List Int} (h : Buf w T cs g base v xs) (hT : (5 : Nat) ≠ T) (i : Nat) (u : Value) : Buf (w.setCell ⟨g, i, none⟩ u) T (cs.setIfInBounds i u) g base v xs :=
  ⟨blk_set h.blk i u, Kd.R_set h.row h.blk (by simpa [Kd.int, Kd.scalar] using hT) i u, h.low, by simpa using h.size⟩

set_option maxHeartbeats 1000000 in
theorem cc_calls {w : World} {g base : Nat} {v : Value} {xs : List Int} (h : Bld w g base v xs) :
    Calls Try.prog 28 #[.pointer (some ⟨g, 0, none⟩)] w fun e w' => e = .returned (.tuple #[]) ∧ Buf w' 35 #[self g, v] g base v xs ∧ KeepBut w w' g v.ownBlock ∧ Below base w w' := by
  obtain ⟨p, hp, hB⟩ := h
  obtain ⟨j, hj, hjs⟩ := Option.map_eq_some_iff.1 sizeB
  have h0 : w.cell? ⟨g, 0, none⟩ = some p := (blk_cell hB.blk 0).trans rfl
  have hfz : w.frozen? ⟨g, 0, none⟩ = false := blk_frozen hB.blk 0
  have hsh : w.shape? g = some (35, 2) := by have := hB.blk; simp [World.shape?, this]
  have H := Aside0.mk hB
  rcases hp with rfl | rfl
  · clear hB
    go_enter Try.func28, Try.ntmps28
    go_wp2
    rw [Lib.run_to_unsafe w ⟨g, 0, none⟩ Try.underlying33 Try.underlying57 hj (by rw [hjs]; decide) hsh (Nat.zero_lt_succ 1)]
    simp only [Result.andThen]
    rw [Oper.upon_value]
    go_wp2
    rw [run_callFunc_extern Try.func34 (by kernel_rfl) (by kernel_rfl) (by kernel_rfl) (e := Extern.AbiNoEscape.same) (by kernel_rfl)]
    rw [Lib.run_noEscape]
    simp only [Result.andThen]
    rw [Oper.upon_value]
    go_wp2
    rw [Lib.run_from_unsafe w ⟨g, 0, none⟩ Try.underlying57 Try.underlying33 hj hsh liesB]
    simp only [Result.andThen]
    rw [Oper.upon_value]
    go_wp2
    go_end0
    exact ⟨rfl, H.out.set_low (by decide) 0 _, (KeepBut.refl _ _ _).set_ 0 _, (Below.refl _ _).setCell H.out.low _⟩
  · clear hB
    unfold self at *
    go_enter Try.func28, Try.ntmps28
    go_wp2
    rw [Lib.run_neq_ptr_same w _ Try.underlying33 hj]
    go_wp2
    go_end0
    exact ⟨rfl, H.out, KeepBut.refl _ _ _, Below.refl _ _⟩

set_option maxHeartbeats 2000000 in
theorem wb_calls {w : World} {g base : Nat} {v : Value} {xs : List Int} (h : Bld w g base v xs) (c : Int) (hl : xs.length + 1 ≤ 140737488355328) :
    Calls Try.prog 17 #[.pointer (some ⟨g, 0, none⟩), .int .u8 c] w fun e w' => e = .returned .nilIface ∧ ∃ v', Bld w' g base v' (xs ++ [c]) ∧ KeepBut w w' g v.ownBlock ∧ Below base w w' := by
  have H := Aside0.mk h
  clear h
  go_enter Try.func17, Try.ntmps17
  go_wp2_with (first | (go_at_call 28; (with_reducible refine (cc_calls H.out).mono ?_); rintro e w1 ⟨rfl, h1, h2, h3⟩; have hcell : w1.cell? ⟨g, 1, none⟩ = some v := (blk_cell h1.blk 1).trans rfl; have H1 := Aside0.mk h1; have H2 := Aside0.mk h2; have H3 := Aside0.mk h3; clear h1 h2 h3) | (at_builtin; refine Kd.R_append (Kd.int .u8) (w0 := w1) base rfl (.tmp 11) (.tmp 13) 30 5 (.int .u8 0) 1 rfl Try.underlying30 info5 rfl (by decide) (by omega) v xs c [.int .u8 c] (fun k => k ≠ g) (fun _ => False) rfl rfl rfl (fun _ h => h.elim) ?f1 H1.out.row (Below.refl _ _) H1.out.size (by omega) ?_; (case f1 => intro k hk e; have := blk_lt H1.out.blk; omega); intro v1 w2 h1 h2 h3 h4; obtain ⟨A1, c1, rfl⟩ := Kd.R_slice h1; rw [List.length_append] at h1 h4; have K1 := Aside0.mk h1; have K2 := Aside0.mk h2; have K3 := Aside0.mk h3; have hb1 := blk_grown H1.out.blk h3 H1.out.ne; have hfr1 : w2.frozen? ⟨g, 1, none⟩ = false := blk_frozen hb1 1; have hcell1 : w2.cell? ⟨g, 1, none⟩ = some v := (blk_cell hb1 1).trans rfl; have HB1 := Aside0.mk hb1; clear h1 h2 h3 h4 hb1))
  go_ret
  refine ⟨rfl, _, ⟨_, .inr rfl, blk_set HB1.out 1 _, ?_, H1.out.low, ?_⟩, ?_, ?_⟩
  · exact Kd.R_set K1.out HB1.out (by decide) 1 _
  · simp only [World.size_setCell]; exact Nat.le_trans H1.out.size K3.out.size
  · exact (H2.out.trans (KeepBut.of_grown K3.out g) (.inl rfl)).set_ 1 _
  · exact (H3.out.trans K2.out).setCell H1.out.low _

set_option maxHeartbeats 2000000 in
theorem ws_calls {w : World} {g base : Nat} {v : Value} {xs : List Int} (h : Bld w g base v xs) (s : ByteArray) (hl : xs.length + s.size ≤ 140737488355328) :
    Calls Try.prog 18 #[.pointer (some ⟨g, 0, none⟩), .string s] w fun e w' => e = .returned (.tuple #[.int .i64 s.size, .nilIface]) ∧ ∃ v', Bld w' g base v' (xs ++ bytesOf s) ∧ KeepBut w w' g v.ownBlock ∧ Below base w w' := by
  have H := Aside0.mk h
  clear h
  go_enter Try.func18, Try.ntmps18
  go_wp2_with (first | (go_at_call 28; (with_reducible refine (cc_calls H.out).mono ?_); rintro e w1 ⟨rfl, h1, h2, h3⟩; have hcell : w1.cell? ⟨g, 1, none⟩ = some v := (blk_cell h1.blk 1).trans rfl; have H1 := Aside0.mk h1; have H2 := Aside0.mk h2; have H3 := Aside0.mk h3; clear h1 h2 h3) | (at_builtin; refine print_append_str (w0 := w1) base rfl (.tmp 12) (.tmp 13) 30 9 5 rfl Try.underlying30 Try.underlying9 info5 v xs s rfl rfl (Kd.own_of_R H1.out.row) (Below.refl _ _) H1.out.size hl ?_; intro v1 w2 h1 h2 h3; have hb1 := blk_grown H1.out.blk h3 H1.out.ne; have h4 : (Kd.int .u8).R 5 w2 base (fun k => k ≠ g) v1 (xs ++ bytesOf s) := Kd.R_mono (Kd.R_types (Kd.R_of_own (ok := fun _ => True) h1 (fun _ _ => trivial)) hb1 (by decide)) (fun _ h => h.2); obtain ⟨A1, c1, rfl⟩ := Kd.R_slice h4; rw [List.length_append] at h4; have K1 := Aside0.mk h4; have K2 := Aside0.mk h2; have K3 := Aside0.mk h3; have hfr1 : w2.frozen? ⟨g, 1, none⟩ = false := blk_frozen hb1 1; have hcell1 : w2.cell? ⟨g, 1, none⟩ = some v := (blk_cell hb1 1).trans rfl; have HB1 := Aside0.mk hb1; clear h1 h2 h3 h4 hb1))
  go_ret2
  refine ⟨rfl, _, ⟨_, .inr rfl, blk_set HB1.out 1 _, ?_, H1.out.low, ?_⟩, ?_, ?_⟩
  · exact Kd.R_set K1.out HB1.out (by decide) 1 _
  · simp only [World.size_setCell]; exact Nat.le_trans H1.out.size K3.out.size
  · exact (H2.out.trans (KeepBut.of_grown K3.out g) (.inl rfl)).set_ 1 _
  · exact (H3.out.trans K2.out).setCell H1.out.low _

theorem unsafeString_none (W : World) (q : Option Addr) : (Builtin.unsafeString_ #[51, 3] 9 #[.pointer q, .int .i64 0]).run Try.prog W = .ok (.string .empty) W :=
  Lib.run_unsafeString_none W _ _ _ q

set_option maxHeartbeats 2000000 in
theorem str_calls {w : World} {g base : Nat} {v : Value} (s : ByteArray) (h : Bld w g base v (bytesOf s)) :
    Calls Try.prog 19 #[.pointer (some ⟨g, 0, none⟩)] w fun e w' => e = .returned (.string s) ∧ Below base w w' := by
  obtain ⟨p, hp, hB⟩ := h
  have hL : (bytesOf s).length = s.size := bytesOf_length s
  have hown := Kd.own_of_R hB.row
  rw [hL] at hown
  have c1 : w.drew.cell? ⟨g, 1, none⟩ = some v := (blk_cell (blk_drew hB.blk) 1).trans rfl
  rcases hown.2 with ⟨rfl, hz⟩ | ⟨q, cap, cur, rfl, hbg, hg, hnc, hcm, hcs, htake⟩
  · have hse : s = .empty := by
      have : s.data.size = 0 := hz
      cases s with | mk d => cases d with | mk l => cases l with | nil => rfl | cons a b => simp at this
    subst hse
    have hUS := unsafeString_none
    have hSD : (Builtin.unsafeSliceData_ #[30] 51 #[.slice none 0 0]).run Try.prog w.drew = .ok (.pointer none) w.drew := rfl
    go_enter Try.func19, Try.ntmps19
    go_wp2
    go_region
    all_goals (go_wp2; go_ret; exact ⟨rfl, Below.drew (Below.refl _ w)⟩)
  · by_cases hs0 : s.size = 0
    · have hse : s = .empty := by
        have : s.data.size = 0 := hs0
        cases s with | mk d => cases d with | mk l => cases l with | nil => rfl | cons a b => simp at this
      subst hse
      have hUS := unsafeString_none
      have hsz : ByteArray.empty.size = 0 := rfl
      rw [hsz] at c1
      by_cases hc0 : cap = 0
      · subst hc0
        have hSD : (Builtin.unsafeSliceData_ #[30] 51 #[.slice (some ⟨q, 0, none⟩) 0 0]).run Try.prog w.drew = .ok (.pointer (some ⟨w.drew.heap.size, 0, none⟩)) (w.drew.alloc (.view ⟨q, 0, none⟩ 5)) :=
          Lib.run_unsafeSliceData_zero w.drew _ _ 5 Try.underlying51 ⟨q, 0, none⟩ 0 (5, cur.size) (by have hg' : w.drew.heap[q]? = some (.cells cur 5 (0, 0)) := hg; simp [World.shape?, hg'])
        have c2 : (w.drew.alloc (.view ⟨q, 0, none⟩ 5)).cell? ⟨g, 1, none⟩ = some (.slice (some ⟨q, 0, none⟩) 0 0) := (blk_cell (blk_alloc (blk_drew hB.blk) _) 1).trans rfl
        have c3 : (w.alloc (.view ⟨q, 0, none⟩ 5)).drew.cell? ⟨g, 1, none⟩ = some (.slice (some ⟨q, 0, none⟩) 0 0) := c2
        have c0 : w.cell? ⟨g, 1, none⟩ = some (.slice (some ⟨q, 0, none⟩) 0 0) := c1
        have HS := Aside0.mk hB.size
        clear hB hown hUS
        have hUS := unsafeString_none
        go_enter Try.func19, Try.ntmps19
        go_wp2
        go_region
        all_goals (go_wp2; go_ret; exact ⟨rfl, (Below.drew (Below.refl _ w)).alloc HS.out _⟩)
      · have hSD : (Builtin.unsafeSliceData_ #[30] 51 #[.slice (some ⟨q, 0, none⟩) 0 cap]).run Try.prog w.drew = .ok (.pointer (some ⟨q, 0, none⟩)) w.drew :=
          Lib.run_unsafeSliceData_row _ _ _ _ _ _ hc0
        clear hc0
        go_enter Try.func19, Try.ntmps19
        go_wp2
        go_region
        all_goals (go_wp2; go_ret; exact ⟨rfl, Below.drew (Below.refl _ w)⟩)
    · have hs1 : s.data.toList.length = s.size := data_length s
      have hSD : (Builtin.unsafeSliceData_ #[30] 51 #[.slice (some ⟨q, 0, none⟩) s.size cap]).run Try.prog w.drew = .ok (.pointer (some ⟨q, 0, none⟩)) w.drew :=
        Lib.run_unsafeSliceData_row _ _ _ _ _ _ (by omega)
      have hUS : (Builtin.unsafeString_ #[51, 3] 9 #[.pointer (some ⟨q, 0, none⟩), .int .i64 s.size]).run Try.prog w.drew = .ok (.string s) (w.drew.freeze ⟨q, 0, none⟩ s.size) := by
        have := Lib.run_unsafeString_row (P := Try.prog) w.drew 51 3 9 5 Try.underlying51 cells5 q cur.size (by have hg' : w.drew.heap[q]? = some (.cells cur 5 (0, 0)) := hg; simp [World.shape?, hg']) s.data.toList (by intro e; rw [e] at hs1; simp at hs1; omega) (by omega) (by unfold maxLen at hcm; omega) (by
          intro j x hx
          exact hown.cells (g := q) rfl j (.int .u8 x.toNat) (by simp [Kd.int, Kd.scalar, encs, bytesOf, hx]))
        rw [hs1] at this
        exact this
      clear hB hown hnc hcm hcs htake
      have HB := Aside0.mk hbg
      go_enter Try.func19, Try.ntmps19
      go_wp2
      go_region
      all_goals (go_wp2; go_ret; exact ⟨rfl, Lib.below_freeze (Below.drew (Below.refl _ w)) (p := ⟨q, 0, none⟩) HB.out _⟩)
end Go.Proofs.Ytgecigndgkcpkaa.Pen
