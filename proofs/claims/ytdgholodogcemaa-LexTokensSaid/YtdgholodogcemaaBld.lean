/- Bytes that are written behind each other by a strings.Builder, alone or within a lexer: the walks of its methods. -/
import Derived.Test.YtdgholodogcemaaProg
import Derived.Test.YtdgholodogcemaaMine
import Derived.Test.YtdgholodogcemaaWMore
import Derived.Test.YtdgholodogcemaaWLast
import Derived.Lib.SliceRun
import Derived.Laws.IdiomStrings
import Derived.Lib.Builder
import Derived.Lib.UnsafeStr
import Derived.Lib.AppendStr
import Derived.Laws.Externs
import Derived.Deep.LoopGhost
set_option linter.unusedVariables false
set_option linter.unusedSimpArgs false
namespace Go.Proofs.Ytdgholodogcemaa.Lex
open Go Go.RowKit Go.Proofs.YtdgholodogcemaaW.PrintWords Go.Proofs.YtdgholodogcemaaW.PrintLast

theorem info5 : (Try.prog.info? 5).map (fun i => (i.zero, i.size, i.bytes)) = some (some (.int .u8 0), 1, 1) := by kernel_rfl

/-- the block g holds cells cs, and v is a row of bytes of its own, from base on -/
structure Buf (w : World) (T : TypeId) (cs : Array Value) (g base : Nat) (v : Value) (xs : List Int) : Prop where
  blk : w.heap[g]? = some (.cells cs T (0, 0))
  row : (Kd.int .u8).R 5 w base (fun k => k ≠ g) v xs
  low : base ≤ g
  size : base ≤ w.heap.size

theorem Buf.ne {w : World} {T : TypeId} {cs : Array Value} {g base : Nat} {v : Value} {xs : List Int} (h : Buf w T cs g base v xs) : some g ≠ v.ownBlock := fun e => h.row.1 g e.symm rfl

theorem Buf.below {w w' : World} {T : TypeId} {cs : Array Value} {g base : Nat} {v : Value} {xs : List Int} (h : Buf w T cs g base v xs) (hb : Below w.heap.size w w') : Buf w' T cs g base v xs :=
  ⟨blk_below h.blk hb, Kd.R_below h.row hb, h.low, Nat.le_trans h.size hb.size⟩


theorem cells5 : Try.prog.cellsOf 5 = 1 := by kernel_rfl
theorem size43 : (Try.prog.info? 43).map (·.size) = some 2 := by kernel_rfl
theorem Buf.set_low {w : World} {T : TypeId} {cs : Array Value} {g base : Nat} {v : Value} {xs : List Int} (h : Buf w T cs g base v xs) (hT : (5 : Nat) ≠ T) (i : Nat) (u : Value) : Buf (w.setCell ⟨g, i, none⟩ u) T (cs.setIfInBounds i u) g base v xs :=
  ⟨blk_set h.blk i u, Kd.R_set h.row h.blk (by simpa [Kd.int, Kd.scalar] using hT) i u, h.low, by simpa using h.size⟩
/-- a byte behind a row of the call's own -/
theorem i32_wrap {c : Nat} (hc : c < 128) : IntKind.u32.wrap (c : Int) = (c : Int) ∧ IntKind.u8.wrap (c : Int) = (c : Int) := by
  constructor <;> (simp [IntKind.wrap, IntKind.bits, IntKind.signed]; omega)
set_option maxHeartbeats 2000000 in
theorem arune_calls {w : World} {g base : Nat} {v : Value} {xs : List Int} (hR : (Kd.int .u8).R 5 w base (fun k => k ≠ g) v xs) (hg : g < w.heap.size) (hs : base ≤ w.heap.size) {c : Nat} (hc : c < 128) (hl : xs.length + 1 ≤ 140737488355328) :
    Calls Try.prog 45 #[v, .int .i32 (c : Int)] w fun e w' => ∃ v', e = .returned v' ∧ (Kd.int .u8).R 5 w' base (fun k => k ≠ g) v' (xs ++ [(c : Int)]) ∧ Below base w w' ∧ w.grownBy w' v.ownBlock := by
  have HR := Aside0.mk hR
  have HG := Aside0.mk hg
  have HS := Aside0.mk hs
  have HC := Aside0.mk hc
  have e1 := (i32_wrap hc).1
  have e2 := (i32_wrap hc).2
  have d1 : decide ((c : Int) ≤ 127) = true := decide_eq_true (by omega)
  have d1n : decide (c ≤ 127) = true := decide_eq_true (by omega)
  have m1 : (c : Int) % 4294967296 = (c : Int) := by omega
  have m2 : (c : Int) % 256 = (c : Int) := by omega
  clear hR hg hs hc
  go_enter Try.func45, Try.ntmps45
  go_wp2_with (at_builtin; refine Kd.R_append (Kd.int .u8) (w0 := w) base rfl (.tmp 8) (.tmp 11) 38 5 (.int .u8 0) 1 rfl Try.underlying38 info5 rfl (by decide) (by omega) v xs (c : Int) [.int .u8 (c : Int)] (fun k => k ≠ g) (fun _ => False) rfl rfl rfl (fun _ h => h.elim) ?f1 HR.out (Below.refl _ _) HS.out (by omega) ?_; (case f1 => intro k hk e; have := HG.out; omega); intro v1 w2 h1 h2 h3 h4; have K1 := Aside0.mk h1; have K2 := Aside0.mk h2; have K3 := Aside0.mk h3; clear h1 h2 h3 h4)
  go_ret
  exact ⟨_, rfl, K1.out, K2.out, K3.out⟩
theorem unsafeString_none (W : World) (q : Option Addr) : (Builtin.unsafeString_ #[61, 3] 9 #[.pointer q, .int .i64 0]).run Try.prog W = .ok (.string .empty) W :=
  Lib.run_unsafeString_none W _ _ _ q
/-- what String leaves: all but the builder's own row -/
def OthersStay (w w' : World) (row : Option Nat) : Prop := w.heap.size ≤ w'.heap.size ∧ ∀ k, k < w.heap.size → some k ≠ row → w'.heap[k]? = w.heap[k]?

theorem freeze_other (w : World) (q n k : Nat) (h : k ≠ q) : (w.freeze ⟨q, 0, none⟩ n).heap[k]? = w.heap[k]? := by
  unfold World.freeze
  split
  · rfl
  · simp only [Array.getElem?_modify]
    rw [if_neg (fun e => h e.symm)]
theorem freeze_size (w : World) (q n : Nat) : (w.freeze ⟨q, 0, none⟩ n).heap.size = w.heap.size := by
  unfold World.freeze
  split
  · rfl
  · simp


def selfA (g : Nat) : Value := .pointer (some ⟨g, 0, none⟩)
theorem liesA : liesAt Try.prog Try.prog.depth 43 (2 / Try.prog.cellsOf 43) 0 43 1 = true := by kernel_rfl
/-- a builder holds the bytes xs -/
def BldA (w : World) (g base : Nat) (v : Value) (xs : List Int) : Prop := ∃ p, (p = .pointer none ∨ p = selfA g) ∧ Buf w 43 #[p, v] g base v xs
set_option maxHeartbeats 1000000 in
theorem ccA_calls {w : World} {g base : Nat} {v : Value} {xs : List Int} (h : BldA w g base v xs) :
    Calls Try.prog 32 #[.pointer (some ⟨g, 0, none⟩)] w fun e w' => e = .returned (.tuple #[]) ∧ Buf w' 43 #[selfA g, v] g base v xs ∧ KeepBut w w' g v.ownBlock ∧ Below base w w' := by
  obtain ⟨p, hp, hB⟩ := h
  obtain ⟨j, hj, hjs⟩ := Option.map_eq_some_iff.1 size43
  have h0 : w.cell? ⟨g, 0, none⟩ = some p := (blk_cell hB.blk 0).trans rfl
  have hfz : w.frozen? ⟨g, 0, none⟩ = false := blk_frozen hB.blk 0
  have hsh : w.shape? g = some (43, 2) := by have := hB.blk; simp [World.shape?, this]
  have H := Aside0.mk hB
  rcases hp with rfl | rfl
  · clear hB
    go_enter Try.func32, Try.ntmps32
    go_wp2
    rw [Lib.run_to_unsafe w ⟨g, 0, none⟩ Try.underlying41 Try.underlying64 hj (by rw [hjs]; decide) hsh (show 0 < 2 by decide)]
    simp only [Result.andThen]
    rw [Oper.upon_value]
    go_wp2
    rw [run_callFunc_extern Try.func39 (by kernel_rfl) (by kernel_rfl) (by kernel_rfl) (e := Extern.AbiNoEscape.same) (by kernel_rfl)]
    rw [Lib.run_noEscape]
    simp only [Result.andThen]
    rw [Oper.upon_value]
    go_wp2
    rw [Lib.run_from_unsafe w ⟨g, 0, none⟩ Try.underlying64 Try.underlying41 hj hsh liesA]
    simp only [Result.andThen]
    rw [Oper.upon_value]
    go_wp2
    go_end0
    exact ⟨rfl, H.out.set_low (by decide) 0 _, (KeepBut.refl _ _ _).set_ 0 _, (Below.refl _ _).setCell H.out.low _⟩
  · clear hB
    unfold selfA at *
    go_enter Try.func32, Try.ntmps32
    go_wp2
    rw [Lib.run_neq_ptr_same w _ Try.underlying41 hj]
    go_wp2
    go_end0
    exact ⟨rfl, H.out, KeepBut.refl _ _ _, Below.refl _ _⟩


set_option maxHeartbeats 2000000 in
theorem wbA_calls {w : World} {g base : Nat} {v : Value} {xs : List Int} (h : BldA w g base v xs) (c : Int) (hl : xs.length + 1 ≤ 140737488355328) :
    Calls Try.prog 22 #[.pointer (some ⟨g, 0, none⟩), .int .u8 c] w fun e w' => e = .returned .nilIface ∧ ∃ v', BldA w' g base v' (xs ++ [c]) ∧ KeepBut w w' g v.ownBlock ∧ Below base w w' := by
  have H := Aside0.mk h
  clear h
  go_enter Try.func22, Try.ntmps22
  go_wp2_with (first | (go_at_call 32; (with_reducible refine (ccA_calls H.out).mono ?_); rintro e w1 ⟨rfl, h1, h2, h3⟩; have hcell : w1.cell? ⟨g, 1, none⟩ = some v := (blk_cell h1.blk 1).trans rfl; have H1 := Aside0.mk h1; have H2 := Aside0.mk h2; have H3 := Aside0.mk h3; clear h1 h2 h3) | (at_builtin; refine Kd.R_append (Kd.int .u8) (w0 := w1) base rfl (.tmp 11) (.tmp 13) 38 5 (.int .u8 0) 1 rfl Try.underlying38 info5 rfl (by decide) (by omega) v xs c [.int .u8 c] (fun k => k ≠ g) (fun _ => False) rfl rfl rfl (fun _ h => h.elim) ?f1 H1.out.row (Below.refl _ _) H1.out.size (by omega) ?_; (case f1 => intro k hk e; have := blk_lt H1.out.blk; omega); intro v1 w2 h1 h2 h3 h4; have hb1 := blk_grown H1.out.blk h3 H1.out.ne; have hfr1 : w2.frozen? ⟨g, 1, none⟩ = false := blk_frozen hb1 1; have hcell1 : w2.cell? ⟨g, 1, none⟩ = some v := (blk_cell hb1 1).trans rfl; have HB1 := Aside0.mk hb1; obtain ⟨A1, c1, rfl⟩ := Kd.R_slice h1; rw [List.length_append] at h1; have K1 := Aside0.mk h1; have K2 := Aside0.mk h2; have K3 := Aside0.mk h3; clear h1 h2 h3 h4 hb1))
  go_ret
  refine ⟨rfl, _, ⟨_, .inr rfl, blk_set HB1.out 1 _, ?_, H1.out.low, ?_⟩, ?_, ?_⟩
  · exact Kd.R_set K1.out HB1.out (by decide) 1 _
  · simp only [World.size_setCell]; exact Nat.le_trans H1.out.size K3.out.size
  · exact (H2.out.trans (KeepBut.of_grown K3.out g) (.inl rfl)).set_ 1 _
  · exact (H3.out.trans K2.out).setCell H1.out.low _


set_option maxHeartbeats 2000000 in
theorem wsA_calls {w : World} {g base : Nat} {v : Value} {xs : List Int} (h : BldA w g base v xs) (s : ByteArray) (hl : xs.length + s.size ≤ 140737488355328) :
    Calls Try.prog 23 #[.pointer (some ⟨g, 0, none⟩), .string s] w fun e w' => e = .returned (.tuple #[.int .i64 s.size, .nilIface]) ∧ ∃ v', BldA w' g base v' (xs ++ bytesOf s) ∧ KeepBut w w' g v.ownBlock ∧ Below base w w' := by
  have H := Aside0.mk h
  clear h
  go_enter Try.func23, Try.ntmps23
  go_wp2_with (first | (go_at_call 32; (with_reducible refine (ccA_calls H.out).mono ?_); rintro e w1 ⟨rfl, h1, h2, h3⟩; have hcell : w1.cell? ⟨g, 1, none⟩ = some v := (blk_cell h1.blk 1).trans rfl; have H1 := Aside0.mk h1; have H2 := Aside0.mk h2; have H3 := Aside0.mk h3; clear h1 h2 h3) | (at_builtin; refine print_append_str (w0 := w1) base rfl (.tmp 12) (.tmp 13) 38 9 5 rfl Try.underlying38 Try.underlying9 info5 v xs s rfl rfl (Kd.own_of_R H1.out.row) (Below.refl _ _) H1.out.size hl ?_; intro v1 w2 h1 h2 h3; have hb1 := blk_grown H1.out.blk h3 H1.out.ne; have hfr1 : w2.frozen? ⟨g, 1, none⟩ = false := blk_frozen hb1 1; have hcell1 : w2.cell? ⟨g, 1, none⟩ = some v := (blk_cell hb1 1).trans rfl; have HB1 := Aside0.mk hb1; have h4 : (Kd.int .u8).R 5 w2 base (fun k => k ≠ g) v1 (xs ++ bytesOf s) := Kd.R_mono (Kd.R_types (Kd.R_of_own (ok := fun _ => True) h1 (fun _ _ => trivial)) hb1 (by decide)) (fun _ h => h.2); obtain ⟨A1, c1, rfl⟩ := Kd.R_slice h4; rw [List.length_append] at h4; have K1 := Aside0.mk h4; have K2 := Aside0.mk h2; have K3 := Aside0.mk h3; clear h1 h2 h3 h4 hb1))
  go_ret2
  refine ⟨rfl, _, ⟨_, .inr rfl, blk_set HB1.out 1 _, ?_, H1.out.low, ?_⟩, ?_, ?_⟩
  · exact Kd.R_set K1.out HB1.out (by decide) 1 _
  · simp only [World.size_setCell]; exact Nat.le_trans H1.out.size K3.out.size
  · exact (H2.out.trans (KeepBut.of_grown K3.out g) (.inl rfl)).set_ 1 _
  · exact (H3.out.trans K2.out).setCell H1.out.low _


set_option maxHeartbeats 2000000 in
theorem strA_calls {w : World} {g base : Nat} {v : Value} (s : ByteArray) (h : BldA w g base v (bytesOf s)) :
    Calls Try.prog 25 #[.pointer (some ⟨g, 0, none⟩)] w fun e w' => e = .returned (.string s) ∧ OthersStay w w' v.ownBlock ∧ Below base w w' := by
  obtain ⟨p, hp, hB⟩ := h
  have hL : (bytesOf s).length = s.size := bytesOf_length s
  have hown := Kd.own_of_R hB.row
  rw [hL] at hown
  have c1 : w.drew.cell? ⟨g, 1, none⟩ = some v := (blk_cell (blk_drew hB.blk) 1).trans rfl
  rcases hown.2 with ⟨rfl, hz⟩ | ⟨q, cap, cur, rfl, hbg, hg, hnc, hcm, hcs, htake⟩
  · have hse : s = .empty := by
      have : s.data.size = 0 := hz
      cases s with | mk d => cases d with | mk l => cases l with | nil => rfl | cons a b => simp at this
    subst hse
    have hUS := unsafeString_none
    have hSD : (Builtin.unsafeSliceData_ #[38] 61 #[.slice none 0 0]).run Try.prog w.drew = .ok (.pointer none) w.drew := rfl
    go_enter Try.func25, Try.ntmps25
    go_wp2
    go_region
    all_goals (go_wp2; go_ret; exact ⟨rfl, ⟨Nat.le_refl _, fun _ _ _ => rfl⟩, Below.drew (Below.refl _ w)⟩)
  · by_cases hs0 : s.size = 0
    · have hse : s = .empty := by
        have : s.data.size = 0 := hs0
        cases s with | mk d => cases d with | mk l => cases l with | nil => rfl | cons a b => simp at this
      subst hse
      have hUS := unsafeString_none
      have hsz : ByteArray.empty.size = 0 := rfl
      rw [hsz] at c1
      by_cases hc0 : cap = 0
      · subst hc0
        have hSD : (Builtin.unsafeSliceData_ #[38] 61 #[.slice (some ⟨q, 0, none⟩) 0 0]).run Try.prog w.drew = .ok (.pointer (some ⟨w.drew.heap.size, 0, none⟩)) (w.drew.alloc (.view ⟨q, 0, none⟩ 5)) :=
          Lib.run_unsafeSliceData_zero w.drew _ _ 5 Try.underlying61 ⟨q, 0, none⟩ 0 (5, cur.size) (by have hg' : w.drew.heap[q]? = some (.cells cur 5 (0, 0)) := hg; simp [World.shape?, hg'])
        have c2 : (w.drew.alloc (.view ⟨q, 0, none⟩ 5)).cell? ⟨g, 1, none⟩ = some (.slice (some ⟨q, 0, none⟩) 0 0) := (blk_cell (blk_alloc (blk_drew hB.blk) _) 1).trans rfl
        have c3 : (w.alloc (.view ⟨q, 0, none⟩ 5)).drew.cell? ⟨g, 1, none⟩ = some (.slice (some ⟨q, 0, none⟩) 0 0) := c2
        have c0 : w.cell? ⟨g, 1, none⟩ = some (.slice (some ⟨q, 0, none⟩) 0 0) := c1
        have HS := Aside0.mk hB.size
        clear hB hown hUS
        have hUS := unsafeString_none
        go_enter Try.func25, Try.ntmps25
        go_wp2
        go_region
        all_goals (go_wp2; go_ret; exact ⟨rfl, ⟨by simp, fun k hk _ => (below_alloc (Below.refl w.heap.size w) (.view ⟨q, 0, none⟩ 5)).block k hk⟩, (Below.drew (Below.refl _ w)).alloc HS.out _⟩)
      · have hSD : (Builtin.unsafeSliceData_ #[38] 61 #[.slice (some ⟨q, 0, none⟩) 0 cap]).run Try.prog w.drew = .ok (.pointer (some ⟨q, 0, none⟩)) w.drew :=
          Lib.run_unsafeSliceData_row _ _ _ _ _ _ hc0
        clear hc0
        go_enter Try.func25, Try.ntmps25
        go_wp2
        go_region
        all_goals (go_wp2; go_ret; exact ⟨rfl, ⟨Nat.le_refl _, fun _ _ _ => rfl⟩, Below.drew (Below.refl _ w)⟩)
    · have hs1 : s.data.toList.length = s.size := data_length s
      have hSD : (Builtin.unsafeSliceData_ #[38] 61 #[.slice (some ⟨q, 0, none⟩) s.size cap]).run Try.prog w.drew = .ok (.pointer (some ⟨q, 0, none⟩)) w.drew :=
        Lib.run_unsafeSliceData_row _ _ _ _ _ _ (by omega)
      have hUS : (Builtin.unsafeString_ #[61, 3] 9 #[.pointer (some ⟨q, 0, none⟩), .int .i64 s.size]).run Try.prog w.drew = .ok (.string s) (w.drew.freeze ⟨q, 0, none⟩ s.size) := by
        have := Lib.run_unsafeString_row (P := Try.prog) w.drew 61 3 9 5 Try.underlying61 cells5 q cur.size (by have hg' : w.drew.heap[q]? = some (.cells cur 5 (0, 0)) := hg; simp [World.shape?, hg']) s.data.toList (by intro e; rw [e] at hs1; simp at hs1; omega) (by omega) (by unfold maxLen at hcm; omega) (by
          intro j x hx
          exact hown.cells (g := q) rfl j (.int .u8 x.toNat) (by simp [Kd.int, Kd.scalar, encs, bytesOf, hx]))
        rw [hs1] at this
        exact this
      clear hB hown hnc hcm hcs htake
      have HB := Aside0.mk hbg
      go_enter Try.func25, Try.ntmps25
      go_wp2
      go_region
      all_goals (go_wp2; go_ret; exact ⟨rfl, ⟨Nat.le_of_eq (freeze_size w.drew _ _).symm, fun k hk hr => freeze_other w.drew q _ k (fun e => hr (by rw [e]; rfl))⟩, Lib.below_freeze (Below.drew (Below.refl _ w)) (p := ⟨q, 0, none⟩) HB.out _⟩)


set_option maxHeartbeats 1000000 in
theorem lenA_calls {w : World} {g base : Nat} {v : Value} {xs : List Int} (h : BldA w g base v xs) :
    Calls Try.prog 24 #[.pointer (some ⟨g, 0, none⟩)] w fun e w' => e = .returned (.int .i64 xs.length) ∧ w = w' := by
  obtain ⟨p, hp, hB⟩ := h
  obtain ⟨A0, c0, rfl⟩ := Kd.R_slice hB.row
  have hcell : w.cell? ⟨g, 1, none⟩ = some (.slice A0 xs.length c0) := (blk_cell hB.blk 1).trans rfl
  clear hB
  go_enter Try.func24, Try.ntmps24
  go_wp2
  go_ret
  exact ⟨rfl, rfl⟩


def selfX (g : Nat) : Value := .pointer (some ⟨g, 7, none⟩)
theorem liesX : liesAt Try.prog Try.prog.depth 45 (9 / Try.prog.cellsOf 45) 7 43 1 = true := by kernel_rfl
/-- a builder holds the bytes xs -/
def BldX (w : World) (vo : Value) (li co tk tl tc : Int) (tx : ByteArray) (g base : Nat) (v : Value) (xs : List Int) : Prop := ∃ p, (p = .pointer none ∨ p = selfX g) ∧ Buf w 45 #[vo, .int .i64 li, .int .i64 co, .int .i64 tk, .int .i64 tl, .int .i64 tc, .string tx, p, v] g base v xs
set_option maxHeartbeats 1000000 in
theorem ccX_calls {w : World} {vo : Value} {li co tk tl tc : Int} {tx : ByteArray} {g base : Nat} {v : Value} {xs : List Int} (h : BldX w vo li co tk tl tc tx g base v xs) :
    Calls Try.prog 32 #[.pointer (some ⟨g, 7, none⟩)] w fun e w' => e = .returned (.tuple #[]) ∧ Buf w' 45 #[vo, .int .i64 li, .int .i64 co, .int .i64 tk, .int .i64 tl, .int .i64 tc, .string tx, selfX g, v] g base v xs ∧ KeepBut w w' g v.ownBlock ∧ Below base w w' := by
  obtain ⟨p, hp, hB⟩ := h
  obtain ⟨j, hj, hjs⟩ := Option.map_eq_some_iff.1 size43
  have h0 : w.cell? ⟨g, 7, none⟩ = some p := (blk_cell hB.blk 7).trans rfl
  have hfz : w.frozen? ⟨g, 7, none⟩ = false := blk_frozen hB.blk 7
  have hsh : w.shape? g = some (45, 9) := by have := hB.blk; simp [World.shape?, this]
  have H := Aside0.mk hB
  rcases hp with rfl | rfl
  · clear hB
    go_enter Try.func32, Try.ntmps32
    go_wp2
    rw [Lib.run_to_unsafe w ⟨g, 7, none⟩ Try.underlying41 Try.underlying64 hj (by rw [hjs]; decide) hsh (show 7 < 9 by decide)]
    simp only [Result.andThen]
    rw [Oper.upon_value]
    go_wp2
    rw [run_callFunc_extern Try.func39 (by kernel_rfl) (by kernel_rfl) (by kernel_rfl) (e := Extern.AbiNoEscape.same) (by kernel_rfl)]
    rw [Lib.run_noEscape]
    simp only [Result.andThen]
    rw [Oper.upon_value]
    go_wp2
    rw [Lib.run_from_unsafe w ⟨g, 7, none⟩ Try.underlying64 Try.underlying41 hj hsh liesX]
    simp only [Result.andThen]
    rw [Oper.upon_value]
    go_wp2
    go_end0
    exact ⟨rfl, H.out.set_low (by decide) 7 _, (KeepBut.refl _ _ _).set_ 7 _, (Below.refl _ _).setCell H.out.low _⟩
  · clear hB
    unfold selfX at *
    go_enter Try.func32, Try.ntmps32
    go_wp2
    rw [Lib.run_neq_ptr_same w _ Try.underlying41 hj]
    go_wp2
    go_end0
    exact ⟨rfl, H.out, KeepBut.refl _ _ _, Below.refl _ _⟩


set_option maxHeartbeats 2000000 in
theorem wrX_calls {w : World} {vo : Value} {li co tk tl tc : Int} {tx : ByteArray} {g base : Nat} {v : Value} {xs : List Int} (h : BldX w vo li co tk tl tc tx g base v xs) {c : Nat} (hc : c < 128) (hl : xs.length + 1 ≤ 140737488355328) :
    Calls Try.prog 37 #[.pointer (some ⟨g, 7, none⟩), .int .i32 (c : Int)] w fun e w' => (∃ n, e = .returned (.tuple #[.int .i64 n, .nilIface])) ∧ ∃ v', BldX w' vo li co tk tl tc tx g base v' (xs ++ [(c : Int)]) ∧ KeepBut w w' g v.ownBlock ∧ Below base w w' := by
  have H := Aside0.mk h
  have HC := Aside0.mk hc
  obtain ⟨A0, c0, rfl⟩ : ∃ A c, v = .slice A xs.length c := by obtain ⟨p, hp, hB⟩ := h; exact Kd.R_slice hB.row
  obtain ⟨v, hv⟩ : ∃ v, Value.slice A0 xs.length c0 = v := ⟨_, rfl⟩
  have HV := Aside0.mk hv
  clear h hc
  rw [hv] at H ⊢
  clear hv
  go_enter Try.func37, Try.ntmps37
  go_wp2_with (first | (go_at_call 32; (with_reducible refine (ccX_calls H.out).mono ?_); rintro e w1 ⟨rfl, h1, h2, h3⟩; have hcell : w1.cell? ⟨g, 8, none⟩ = some v := (blk_cell h1.blk 8).trans rfl; rw [← HV.out] at hcell; have H1 := Aside0.mk h1; have H2 := Aside0.mk h2; have H3 := Aside0.mk h3; clear h1 h2 h3) | (go_at_call 45; (with_reducible refine (arune_calls (v := .slice A0 xs.length c0) (by rw [HV.out]; exact H1.out.row) (blk_lt H1.out.blk) H1.out.size HC.out hl).mono ?_); rintro e w2 ⟨v1, rfl, h1, h2, h3⟩; rw [HV.out] at h3; obtain ⟨A1, c1, rfl⟩ := Kd.R_slice h1; rw [List.length_append] at h1; have K1 := Aside0.mk h1; have K2 := Aside0.mk h2; have K3 := Aside0.mk h3; have hb1 := blk_grown H1.out.blk h3 H1.out.ne; have hfr1 : w2.frozen? ⟨g, 8, none⟩ = false := blk_frozen hb1 8; have hcell1 : w2.cell? ⟨g, 8, none⟩ = some v := (blk_cell hb1 8).trans rfl; rw [← HV.out] at hcell1; have HB1 := Aside0.mk hb1;  clear h1 h2 h3 hb1))
  go_ret2
  refine ⟨⟨_, rfl⟩, _, ⟨_, .inr rfl, blk_set HB1.out 8 _, ?_, H1.out.low, ?_⟩, ?_, ?_⟩
  · exact Kd.R_set K1.out HB1.out (by decide) 8 _
  · simp only [World.size_setCell]; exact Nat.le_trans H1.out.size K3.out.size
  · exact (H2.out.trans (KeepBut.of_grown K3.out g) (.inl rfl)).set_ 8 _
  · exact (H3.out.trans K2.out).setCell H1.out.low _


set_option maxHeartbeats 1000000 in
theorem rsX_calls {w : World} {vo : Value} {li co tk tl tc : Int} {tx : ByteArray} {g base : Nat} {p v : Value} (hb : w.heap[g]? = some (.cells #[vo, .int .i64 li, .int .i64 co, .int .i64 tk, .int .i64 tl, .int .i64 tc, .string tx, p, v] 45 (0, 0))) (hl : base ≤ g) (hs : base ≤ w.heap.size) :
    Calls Try.prog 41 #[.pointer (some ⟨g, 7, none⟩)] w fun e w' => e = .returned (.tuple #[]) ∧ w' = (w.setCell ⟨g, 7, none⟩ (.pointer none)).setCell ⟨g, 8, none⟩ (.slice none 0 0) ∧ BldX w' vo li co tk tl tc tx g base (.slice none 0 0) [] := by
  have f0 := blk_frozen hb 7
  have b1 := blk_set hb 7 (.pointer none)
  have f1 := blk_frozen b1 8
  have h0 : w.cell? ⟨g, 7, none⟩ = some p := (blk_cell hb 7).trans rfl
  have h1 : (w.setCell ⟨g, 7, none⟩ (.pointer none)).cell? ⟨g, 8, none⟩ = some v := (blk_cell b1 8).trans rfl
  have H := Aside0.mk hb
  have B1 := Aside0.mk b1
  clear hb b1
  go_enter Try.func41, Try.ntmps41
  go_wp2
  go_end0
  exact ⟨rfl, rfl, _, .inl rfl, blk_set B1.out 8 _, Kd.R_nil _ _ _ _ _, hl, by simpa using hs⟩


set_option maxHeartbeats 2000000 in
theorem strX_calls {w : World} {vo : Value} {li co tk tl tc : Int} {tx : ByteArray} {g base : Nat} {v : Value} (s : ByteArray) (h : BldX w vo li co tk tl tc tx g base v (bytesOf s)) :
    Calls Try.prog 25 #[.pointer (some ⟨g, 7, none⟩)] w fun e w' => e = .returned (.string s) ∧ OthersStay w w' v.ownBlock ∧ Below base w w' := by
  obtain ⟨p, hp, hB⟩ := h
  have hL : (bytesOf s).length = s.size := bytesOf_length s
  have hown := Kd.own_of_R hB.row
  rw [hL] at hown
  have c1 : w.drew.cell? ⟨g, 8, none⟩ = some v := (blk_cell (blk_drew hB.blk) 8).trans rfl
  rcases hown.2 with ⟨rfl, hz⟩ | ⟨q, cap, cur, rfl, hbg, hg, hnc, hcm, hcs, htake⟩
  · have hse : s = .empty := by
      have : s.data.size = 0 := hz
      cases s with | mk d => cases d with | mk l => cases l with | nil => rfl | cons a b => simp at this
    subst hse
    have hUS := unsafeString_none
    have hSD : (Builtin.unsafeSliceData_ #[38] 61 #[.slice none 0 0]).run Try.prog w.drew = .ok (.pointer none) w.drew := rfl
    go_enter Try.func25, Try.ntmps25
    go_wp2
    go_region
    all_goals (go_wp2; go_ret; exact ⟨rfl, ⟨Nat.le_refl _, fun _ _ _ => rfl⟩, Below.drew (Below.refl _ w)⟩)
  · by_cases hs0 : s.size = 0
    · have hse : s = .empty := by
        have : s.data.size = 0 := hs0
        cases s with | mk d => cases d with | mk l => cases l with | nil => rfl | cons a b => simp at this
      subst hse
      have hUS := unsafeString_none
      have hsz : ByteArray.empty.size = 0 := rfl
      rw [hsz] at c1
      by_cases hc0 : cap = 0
      · subst hc0
        have hSD : (Builtin.unsafeSliceData_ #[38] 61 #[.slice (some ⟨q, 0, none⟩) 0 0]).run Try.prog w.drew = .ok (.pointer (some ⟨w.drew.heap.size, 0, none⟩)) (w.drew.alloc (.view ⟨q, 0, none⟩ 5)) :=
          Lib.run_unsafeSliceData_zero w.drew _ _ 5 Try.underlying61 ⟨q, 0, none⟩ 0 (5, cur.size) (by have hg' : w.drew.heap[q]? = some (.cells cur 5 (0, 0)) := hg; simp [World.shape?, hg'])
        have c2 : (w.drew.alloc (.view ⟨q, 0, none⟩ 5)).cell? ⟨g, 8, none⟩ = some (.slice (some ⟨q, 0, none⟩) 0 0) := (blk_cell (blk_alloc (blk_drew hB.blk) _) 8).trans rfl
        have c3 : (w.alloc (.view ⟨q, 0, none⟩ 5)).drew.cell? ⟨g, 8, none⟩ = some (.slice (some ⟨q, 0, none⟩) 0 0) := c2
        have c0 : w.cell? ⟨g, 8, none⟩ = some (.slice (some ⟨q, 0, none⟩) 0 0) := c1
        have HS := Aside0.mk hB.size
        clear hB hown hUS
        have hUS := unsafeString_none
        go_enter Try.func25, Try.ntmps25
        go_wp2
        go_region
        all_goals (go_wp2; go_ret; exact ⟨rfl, ⟨by simp, fun k hk _ => (below_alloc (Below.refl w.heap.size w) (.view ⟨q, 0, none⟩ 5)).block k hk⟩, (Below.drew (Below.refl _ w)).alloc HS.out _⟩)
      · have hSD : (Builtin.unsafeSliceData_ #[38] 61 #[.slice (some ⟨q, 0, none⟩) 0 cap]).run Try.prog w.drew = .ok (.pointer (some ⟨q, 0, none⟩)) w.drew :=
          Lib.run_unsafeSliceData_row _ _ _ _ _ _ hc0
        clear hc0
        go_enter Try.func25, Try.ntmps25
        go_wp2
        go_region
        all_goals (go_wp2; go_ret; exact ⟨rfl, ⟨Nat.le_refl _, fun _ _ _ => rfl⟩, Below.drew (Below.refl _ w)⟩)
    · have hs1 : s.data.toList.length = s.size := data_length s
      have hSD : (Builtin.unsafeSliceData_ #[38] 61 #[.slice (some ⟨q, 0, none⟩) s.size cap]).run Try.prog w.drew = .ok (.pointer (some ⟨q, 0, none⟩)) w.drew :=
        Lib.run_unsafeSliceData_row _ _ _ _ _ _ (by omega)
      have hUS : (Builtin.unsafeString_ #[61, 3] 9 #[.pointer (some ⟨q, 0, none⟩), .int .i64 s.size]).run Try.prog w.drew = .ok (.string s) (w.drew.freeze ⟨q, 0, none⟩ s.size) := by
        have := Lib.run_unsafeString_row (P := Try.prog) w.drew 61 3 9 5 Try.underlying61 cells5 q cur.size (by have hg' : w.drew.heap[q]? = some (.cells cur 5 (0, 0)) := hg; simp [World.shape?, hg']) s.data.toList (by intro e; rw [e] at hs1; simp at hs1; omega) (by omega) (by unfold maxLen at hcm; omega) (by
          intro j x hx
          exact hown.cells (g := q) rfl j (.int .u8 x.toNat) (by simp [Kd.int, Kd.scalar, encs, bytesOf, hx]))
        rw [hs1] at this
        exact this
      clear hB hown hnc hcm hcs htake
      have HB := Aside0.mk hbg
      go_enter Try.func25, Try.ntmps25
      go_wp2
      go_region
      all_goals (go_wp2; go_ret; exact ⟨rfl, ⟨Nat.le_of_eq (freeze_size w.drew _ _).symm, fun k hk hr => freeze_other w.drew q _ k (fun e => hr (by rw [e]; rfl))⟩, Lib.below_freeze (Below.drew (Below.refl _ w)) (p := ⟨q, 0, none⟩) HB.out _⟩)

end Go.Proofs.Ytdgholodogcemaa.Lex
