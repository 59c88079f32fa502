/- Functions of the translation as plain Lean functions, and for each the proof that the machine's call does what that function says (laid by wip/tools/myprint.py of this session, by way of the print). -/
import Derived.Test.YtdgholodogcemaaPAllx0
import Derived.Test.YtdgholodogcemaaPAllx1
import Derived.Test.YtdgholodogcemaaPAllx2
namespace Go.Proofs.Ytdgholodogcemaa.PAll
open Go.RowKit Go.Proofs.YtdgholodogcemaaW.PrintWords Go.Proofs.YtdgholodogcemaaW.PrintLast Go.Proofs.YtdgholodogcemaaW.PrintMore
attribute [local go_sem] max2_int min2_int max_two min_two max_three min_three max_four min_four   -- for this text's walks alone
set_option linter.unusedVariables false
set_option linter.unusedSimpArgs false

/-! ### warrantorref23_Show: function 14 -/
mutual
def warrantorref23_Show.l0 : Nat → List (S36) → ByteArray → Bool → Int → Option (ByteArray × Bool)
  | 0, _, _, _, _ => none
  | k + 1, x0, x4, x5, x6 => if x6 < (x0.length : Int) then (if 0 ≤ x6 then (if ((rd_T36 x0 x6).f0) = 3 then (if ((rd_T36 x0 x6).f3).toList = ([] : List UInt8) then (warrantorref23_Show.j1 k x0 x4 x5 x6 (!x5) ((rd_T36 x0 x6).f0) ((rd_T36 x0 x6).f1) ((rd_T36 x0 x6).f2) ((rd_T36 x0 x6).f3)) else (warrantorref23_Show.j1 k x0 x4 x5 x6 false ((rd_T36 x0 x6).f0) ((rd_T36 x0 x6).f1) ((rd_T36 x0 x6).f2) ((rd_T36 x0 x6).f3))) else (warrantorref23_Show.j1 k x0 x4 x5 x6 false ((rd_T36 x0 x6).f0) ((rd_T36 x0 x6).f1) ((rd_T36 x0 x6).f2) ((rd_T36 x0 x6).f3))) else (none)) else (some (x4, x5))
def warrantorref23_Show.j3 : Nat → List (S36) → ByteArray → Bool → Int → Int → Int → Int → ByteArray → Option (ByteArray × Bool)
  | 0, _, _, _, _, _, _, _, _ => none
  | k + 1, x0, x4, x5, x6, x134000, x134001, x134002, x134003 => if x5 = true then (if x134000 = 1 then (if x4.size + x134003.size ≤ 9223372036854775807 then (warrantorref23_Show.l0 k x0 (x4 ++ x134003) false (wrap64 (x6 + 1))) else (none)) else ((warrantorref23_Quote.f k x134003).bind fun t137 => (if x4.size + t137.size ≤ 9223372036854775807 then (warrantorref23_Show.l0 k x0 (x4 ++ t137) false (wrap64 (x6 + 1))) else (none)))) else (if x4.size + 1 ≤ 9223372036854775807 then (if x134000 = 1 then (if (x4 ++ (⟨#[32]⟩ : ByteArray)).size + x134003.size ≤ 9223372036854775807 then (warrantorref23_Show.l0 k x0 ((x4 ++ (⟨#[32]⟩ : ByteArray)) ++ x134003) false (wrap64 (x6 + 1))) else (none)) else ((warrantorref23_Quote.f k x134003).bind fun t138 => (if (x4 ++ (⟨#[32]⟩ : ByteArray)).size + t138.size ≤ 9223372036854775807 then (warrantorref23_Show.l0 k x0 ((x4 ++ (⟨#[32]⟩ : ByteArray)) ++ t138) false (wrap64 (x6 + 1))) else (none)))) else (none))
def warrantorref23_Show.j1 : Nat → List (S36) → ByteArray → Bool → Int → Bool → Int → Int → Int → ByteArray → Option (ByteArray × Bool)
  | 0, _, _, _, _, _, _, _, _, _ => none
  | k + 1, x0, x4, x5, x6, x18, x134000, x134001, x134002, x134003 => if x18 = true then (if x4.size + 1 ≤ 9223372036854775807 then (warrantorref23_Show.l0 k x0 (x4 ++ (⟨#[10]⟩ : ByteArray)) true (wrap64 (x6 + 1))) else (none)) else (if x134000 = 1 then ((warrantorref23_Word.f k x134003).bind fun t134 => (warrantorref23_Show.j2 k x0 x4 x5 x6 t134 x134000 x134001 x134002 x134003)) else (warrantorref23_Show.j2 k x0 x4 x5 x6 false x134000 x134001 x134002 x134003))
def warrantorref23_Show.j2 : Nat → List (S36) → ByteArray → Bool → Int → Bool → Int → Int → Int → ByteArray → Option (ByteArray × Bool)
  | 0, _, _, _, _, _, _, _, _, _ => none
  | k + 1, x0, x4, x5, x6, x33, x134000, x134001, x134002, x134003 => if x33 = true then (warrantorref23_Show.j3 k x0 x4 x5 x6 x134000 x134001 x134002 x134003) else (if x134000 = 2 then ((warrantorref23_Quote.f k x134003).bind fun t135 => (if (t135.size : Int) ≥ (wrap64 ((x134003.size : Int) + 2)) then ((warrantorref23_plain.f k x134003).bind fun t136 => (if t136 = true then (warrantorref23_Show.j3 k x0 x4 x5 x6 x134000 x134001 x134002 x134003) else (some ((⟨#[]⟩ : ByteArray), false)))) else (some ((⟨#[]⟩ : ByteArray), false)))) else (some ((⟨#[]⟩ : ByteArray), false)))
end
def warrantorref23_Show.f (k : Nat) (l0 : List (S36)) : Option (ByteArray × Bool) := warrantorref23_Show.l0 k l0 (⟨#[]⟩ : ByteArray) true 0
theorem warrantorref23_Show.mono_l : ∀ k, (∀ y0 y1 y2 y3, LeO (warrantorref23_Show.l0 k y0 y1 y2 y3) (warrantorref23_Show.l0 (k + 1) y0 y1 y2 y3)) ∧ (∀ y0 y1 y2 y3 y4 y5 y6 y7, LeO (warrantorref23_Show.j3 k y0 y1 y2 y3 y4 y5 y6 y7) (warrantorref23_Show.j3 (k + 1) y0 y1 y2 y3 y4 y5 y6 y7)) ∧ (∀ y0 y1 y2 y3 y4 y5 y6 y7 y8, LeO (warrantorref23_Show.j1 k y0 y1 y2 y3 y4 y5 y6 y7 y8) (warrantorref23_Show.j1 (k + 1) y0 y1 y2 y3 y4 y5 y6 y7 y8)) ∧ (∀ y0 y1 y2 y3 y4 y5 y6 y7 y8, LeO (warrantorref23_Show.j2 k y0 y1 y2 y3 y4 y5 y6 y7 y8) (warrantorref23_Show.j2 (k + 1) y0 y1 y2 y3 y4 y5 y6 y7 y8))
  | 0 => ⟨fun _ _ _ _ r h => by simp [warrantorref23_Show.l0] at h, fun _ _ _ _ _ _ _ _ r h => by simp [warrantorref23_Show.j3] at h, fun _ _ _ _ _ _ _ _ _ r h => by simp [warrantorref23_Show.j1] at h, fun _ _ _ _ _ _ _ _ _ r h => by simp [warrantorref23_Show.j2] at h⟩
  | k + 1 => by
    obtain ⟨ih0, ih1, ih2, ih3⟩ := warrantorref23_Show.mono_l k
    refine ⟨?_, ?_, ?_, ?_⟩
    · intro y0 y1 y2 y3
      unfold warrantorref23_Show.l0
      repeat' first
      | (with_reducible exact ih0 _ _ _ _)
      | (with_reducible exact ih1 _ _ _ _ _ _ _ _)
      | (with_reducible exact ih2 _ _ _ _ _ _ _ _ _)
      | (with_reducible exact ih3 _ _ _ _ _ _ _ _ _)
      | (with_reducible exact warrantorref23_Quote.mono _ _)
      | (with_reducible exact warrantorref23_Word.mono _ _)
      | (with_reducible exact warrantorref23_plain.mono _ _)
      | (with_reducible exact LeO.refl _)
      | (with_reducible exact LeO.none _)
      | (with_reducible refine LeO.ite ?_ ?_)
      | (with_reducible refine LeO.bind ?_ (fun _ => ?_))
      | exact ih0 _ _ _ _
      | exact ih1 _ _ _ _ _ _ _ _
      | exact ih2 _ _ _ _ _ _ _ _ _
      | exact ih3 _ _ _ _ _ _ _ _ _
      | exact warrantorref23_Quote.mono _ _
      | exact warrantorref23_Word.mono _ _
      | exact warrantorref23_plain.mono _ _
      | exact LeO.none _
      | refine LeO.ite ?_ ?_
      | refine LeO.bind ?_ (fun _ => ?_)
    · intro y0 y1 y2 y3 y4 y5 y6 y7
      unfold warrantorref23_Show.j3
      repeat' first
      | (with_reducible exact ih0 _ _ _ _)
      | (with_reducible exact ih1 _ _ _ _ _ _ _ _)
      | (with_reducible exact ih2 _ _ _ _ _ _ _ _ _)
      | (with_reducible exact ih3 _ _ _ _ _ _ _ _ _)
      | (with_reducible exact warrantorref23_Quote.mono _ _)
      | (with_reducible exact warrantorref23_Word.mono _ _)
      | (with_reducible exact warrantorref23_plain.mono _ _)
      | (with_reducible exact LeO.refl _)
      | (with_reducible exact LeO.none _)
      | (with_reducible refine LeO.ite ?_ ?_)
      | (with_reducible refine LeO.bind ?_ (fun _ => ?_))
      | exact ih0 _ _ _ _
      | exact ih1 _ _ _ _ _ _ _ _
      | exact ih2 _ _ _ _ _ _ _ _ _
      | exact ih3 _ _ _ _ _ _ _ _ _
      | exact warrantorref23_Quote.mono _ _
      | exact warrantorref23_Word.mono _ _
      | exact warrantorref23_plain.mono _ _
      | exact LeO.none _
      | refine LeO.ite ?_ ?_
      | refine LeO.bind ?_ (fun _ => ?_)
    · intro y0 y1 y2 y3 y4 y5 y6 y7 y8
      unfold warrantorref23_Show.j1
      repeat' first
      | (with_reducible exact ih0 _ _ _ _)
      | (with_reducible exact ih1 _ _ _ _ _ _ _ _)
      | (with_reducible exact ih2 _ _ _ _ _ _ _ _ _)
      | (with_reducible exact ih3 _ _ _ _ _ _ _ _ _)
      | (with_reducible exact warrantorref23_Quote.mono _ _)
      | (with_reducible exact warrantorref23_Word.mono _ _)
      | (with_reducible exact warrantorref23_plain.mono _ _)
      | (with_reducible exact LeO.refl _)
      | (with_reducible exact LeO.none _)
      | (with_reducible refine LeO.ite ?_ ?_)
      | (with_reducible refine LeO.bind ?_ (fun _ => ?_))
      | exact ih0 _ _ _ _
      | exact ih1 _ _ _ _ _ _ _ _
      | exact ih2 _ _ _ _ _ _ _ _ _
      | exact ih3 _ _ _ _ _ _ _ _ _
      | exact warrantorref23_Quote.mono _ _
      | exact warrantorref23_Word.mono _ _
      | exact warrantorref23_plain.mono _ _
      | exact LeO.none _
      | refine LeO.ite ?_ ?_
      | refine LeO.bind ?_ (fun _ => ?_)
    · intro y0 y1 y2 y3 y4 y5 y6 y7 y8
      unfold warrantorref23_Show.j2
      repeat' first
      | (with_reducible exact ih0 _ _ _ _)
      | (with_reducible exact ih1 _ _ _ _ _ _ _ _)
      | (with_reducible exact ih2 _ _ _ _ _ _ _ _ _)
      | (with_reducible exact ih3 _ _ _ _ _ _ _ _ _)
      | (with_reducible exact warrantorref23_Quote.mono _ _)
      | (with_reducible exact warrantorref23_Word.mono _ _)
      | (with_reducible exact warrantorref23_plain.mono _ _)
      | (with_reducible exact LeO.refl _)
      | (with_reducible exact LeO.none _)
      | (with_reducible refine LeO.ite ?_ ?_)
      | (with_reducible refine LeO.bind ?_ (fun _ => ?_))
      | exact ih0 _ _ _ _
      | exact ih1 _ _ _ _ _ _ _ _
      | exact ih2 _ _ _ _ _ _ _ _ _
      | exact ih3 _ _ _ _ _ _ _ _ _
      | exact warrantorref23_Quote.mono _ _
      | exact warrantorref23_Word.mono _ _
      | exact warrantorref23_plain.mono _ _
      | exact LeO.none _
      | refine LeO.ite ?_ ?_
      | refine LeO.bind ?_ (fun _ => ?_)
theorem warrantorref23_Show.mono : ∀ a0 k, LeO (warrantorref23_Show.f k a0) (warrantorref23_Show.f (k + 1) a0) := by
  intro a0 k
  obtain ⟨ih0, ih1, ih2, ih3⟩ := warrantorref23_Show.mono_l k
  unfold warrantorref23_Show.f
  repeat' first
      | (with_reducible exact ih0 _ _ _ _)
      | (with_reducible exact ih1 _ _ _ _ _ _ _ _)
      | (with_reducible exact ih2 _ _ _ _ _ _ _ _ _)
      | (with_reducible exact ih3 _ _ _ _ _ _ _ _ _)
      | (with_reducible exact warrantorref23_Quote.mono _ _)
      | (with_reducible exact warrantorref23_Word.mono _ _)
      | (with_reducible exact warrantorref23_plain.mono _ _)
      | (with_reducible exact LeO.refl _)
      | (with_reducible exact LeO.none _)
      | (with_reducible refine LeO.ite ?_ ?_)
      | (with_reducible refine LeO.bind ?_ (fun _ => ?_))
      | exact ih0 _ _ _ _
      | exact ih1 _ _ _ _ _ _ _ _
      | exact ih2 _ _ _ _ _ _ _ _ _
      | exact ih3 _ _ _ _ _ _ _ _ _
      | exact warrantorref23_Quote.mono _ _
      | exact warrantorref23_Word.mono _ _
      | exact warrantorref23_plain.mono _ _
      | exact LeO.none _
      | refine LeO.ite ?_ ?_
      | refine LeO.bind ?_ (fun _ => ?_)
set_option maxHeartbeats 8000000 in
set_option maxRecDepth 100000 in
theorem warrantorref23_Show.calls (k : Nat) (A0 : Option Addr) (c0 : Nat) (l0 : List (S36)) (r1 : ByteArray) (r2 : Bool) (w : World) (hr0 : Kd.C k36 w A0 l0.length l0) (hc0 : l0.length ≤ c0) (h : warrantorref23_Show.f k l0 = some (r1, r2)) :
    Calls Try.prog 14 #[.slice A0 l0.length c0] w fun e w' => e = .returned (.tuple #[.string r1, .bool r2]) ∧ Below w.heap.size w w' := by
  have hu36 := Try.underlying36
  have HR0 := Aside0.mk hr0
  have HC0 := Aside0.mk hc0
  clear hr0 hc0
  have HB := Aside0.mk (Below.refl w.heap.size w)
  have H : (warrantorref23_Show.l0 k l0 (⟨#[]⟩ : ByteArray) true 0) = some (r1, r2) := h
  clear h
  have H' := Aside0.mk H
  clear H
  go_enter Try.func14, Try.ntmps14
  go_wp2
  repeat (go_quiet (fail); try go_wp2)
  go_loopg [4, 5, 6] k (fun kq v4 v5 v6 w' => ∃ (x4_1 : ByteArray) (x5_1 : Bool) (x6_1 : Int), v4 = .string x4_1 ∧ v5 = .bool x5_1 ∧ v6 = .int .i64 x6_1 ∧ Aside0 (warrantorref23_Show.l0 kq l0 x4_1 x5_1 x6_1 = some (r1, r2)) ∧ Aside0 (kq ≤ k) ∧ Aside0 (Below w.heap.size w w'))
  case atStart => exact ⟨((⟨#[]⟩ : ByteArray)), (true), (0), (by first | rfl | (simp; done) | (simp [*]; done)), (by first | rfl | (simp; done) | (simp [*]; done)), (by first | rfl | (simp; done) | (simp [*]; done)), H', ⟨Nat.le_refl _⟩, ⟨by repeat (first | (with_reducible first | exact HB.out | apply below_alloc | apply pw_below_drewN | apply below_drew1) | exact HB.out)⟩⟩
  case round =>
    clear H'
    try clear c1
    obtain ⟨x4_1, x5_1, x6_1, rfl, rfl, rfl, HA, HK1, HB⟩ := hrel
    cases gk with
    | zero => exact absurd HA.out (by simp [warrantorref23_Show.l0])
    | succ k1 =>
      have H := HA.out
      clear HA
      simp only [warrantorref23_Show.l0] at H
      by_cases c2 : x6_1 < (l0.length : Int)
      · rw [if_pos c2] at H
        have c2b0 : decide (x6_1 < (l0.length : Int)) = true := decide_eq_true c2
        clear c2
        by_cases c3 : 0 ≤ x6_1
        · rw [if_pos c3] at H
          have c3b0 : decide (0 ≤ x6_1) = true := decide_eq_true c3
          clear c3
          have HC4 := Aside0.mk H
          clear H
          have p132 : 0 ≤ (x6_1 : Int) := of_decide_eq_true (by first | (with_reducible assumption) | assumption)
          have q132 : x6_1 < (l0.length : Int) := of_decide_eq_true (by first | (with_reducible assumption) | assumption)
          obtain ⟨ad132, e132, hx132_0, hx132_1, hx132_2, hx132_3⟩ := at_T36 HR0.out x6_1 p132 q132
          cases e132
          replace hx132_0 := (HB.out.cell (World.block_lt_of_cell? w _ hx132_0)).trans hx132_0
          replace hx132_1 := (HB.out.cell (World.block_lt_of_cell? w _ hx132_1)).trans hx132_1
          replace hx132_2 := (HB.out.cell (World.block_lt_of_cell? w _ hx132_2)).trans hx132_2
          replace hx132_3 := (HB.out.cell (World.block_lt_of_cell? w _ hx132_3)).trans hx132_3
          replace p132 := eq_true p132
          replace q132 := eq_true q132
          go_upto_block 2 with (first | ((with_reducible refine gate_dst (N := 7) rfl ?_); (try (refine gate_guard (by rfl) ?_; dsimp only)); refine box_event ?hg (N := 7) ?hd (cs := #[.int .i64 0, .int .i64 0, .int .i64 0, .string (⟨#[]⟩ : ByteArray)]) (t := 36) ?hr ?_; (case hd => rfl); (case hg => rfl); (case hr => first | (go_simp; done) | (go_simp; rfl)); intro gb133 hg w5 hbox hb; have n0_ := Aside0.mk (below_step (by repeat (first | (with_reducible first | exact HB.out | apply below_alloc | apply pw_below_drewN | apply below_drew1) | exact HB.out)) hb); have n1_ := Aside0.mk (hbox); have n2_ := Aside0.mk ((by rw [hg]; exact (below_size (by repeat (first | (with_reducible first | exact HB.out | apply below_alloc | apply pw_below_drewN | apply below_drew1) | exact HB.out))) : w.heap.size ≤ gb133)); have n3_ := Aside0.mk ((by rw [hg]; exact (below_size (by repeat (first | (with_reducible first | exact HB.out | apply below_alloc | apply pw_below_drewN | apply below_drew1) | exact HB.out))) : w.heap.size ≤ gb133)); clear HB; have HB := n0_; have BK133 := n1_; have GW133 := n2_; have GE133 := n3_; clear n0_ n1_ n2_ n3_; clear hb hbox hg; have hcz6_0 : w5.cell? ⟨gb133, 0, none⟩ = some (.int .i64 0) := (blk_cell BK133.out 0).trans rfl; have hcz6_1 : w5.cell? ⟨gb133, 1, none⟩ = some (.int .i64 0) := (blk_cell BK133.out 1).trans rfl; have hcz6_2 : w5.cell? ⟨gb133, 2, none⟩ = some (.int .i64 0) := (blk_cell BK133.out 2).trans rfl; have hcz6_3 : w5.cell? ⟨gb133, 3, none⟩ = some (.string (⟨#[]⟩ : ByteArray)) := (blk_cell BK133.out 3).trans rfl; have hfz6_0 := blk_frozen BK133.out 0; have hfz6_1 := blk_frozen BK133.out 1; have hfz6_2 := blk_frozen BK133.out 2; have hfz6_3 := blk_frozen BK133.out 3))
          repeat (go_quiet (first | ((with_reducible refine gate_dst (N := 7) rfl ?_); (try (refine gate_guard (by rfl) ?_; dsimp only)); refine box_event ?hg (N := 7) ?hd (cs := #[.int .i64 0, .int .i64 0, .int .i64 0, .string (⟨#[]⟩ : ByteArray)]) (t := 36) ?hr ?_; (case hd => rfl); (case hg => rfl); (case hr => first | (go_simp; done) | (go_simp; rfl)); intro gb133 hg w5 hbox hb; have n0_ := Aside0.mk (below_step (by repeat (first | (with_reducible first | exact HB.out | apply below_alloc | apply pw_below_drewN | apply below_drew1) | exact HB.out)) hb); have n1_ := Aside0.mk (hbox); have n2_ := Aside0.mk ((by rw [hg]; exact (below_size (by repeat (first | (with_reducible first | exact HB.out | apply below_alloc | apply pw_below_drewN | apply below_drew1) | exact HB.out))) : w.heap.size ≤ gb133)); have n3_ := Aside0.mk ((by rw [hg]; exact (below_size (by repeat (first | (with_reducible first | exact HB.out | apply below_alloc | apply pw_below_drewN | apply below_drew1) | exact HB.out))) : w.heap.size ≤ gb133)); clear HB; have HB := n0_; have BK133 := n1_; have GW133 := n2_; have GE133 := n3_; clear n0_ n1_ n2_ n3_; clear hb hbox hg; have hcz6_0 : w5.cell? ⟨gb133, 0, none⟩ = some (.int .i64 0) := (blk_cell BK133.out 0).trans rfl; have hcz6_1 : w5.cell? ⟨gb133, 1, none⟩ = some (.int .i64 0) := (blk_cell BK133.out 1).trans rfl; have hcz6_2 : w5.cell? ⟨gb133, 2, none⟩ = some (.int .i64 0) := (blk_cell BK133.out 2).trans rfl; have hcz6_3 : w5.cell? ⟨gb133, 3, none⟩ = some (.string (⟨#[]⟩ : ByteArray)) := (blk_cell BK133.out 3).trans rfl; have hfz6_0 := blk_frozen BK133.out 0; have hfz6_1 := blk_frozen BK133.out 1; have hfz6_2 := blk_frozen BK133.out 2; have hfz6_3 := blk_frozen BK133.out 3)); go_upto_block 2 with (first | ((with_reducible refine gate_dst (N := 7) rfl ?_); (try (refine gate_guard (by rfl) ?_; dsimp only)); refine box_event ?hg (N := 7) ?hd (cs := #[.int .i64 0, .int .i64 0, .int .i64 0, .string (⟨#[]⟩ : ByteArray)]) (t := 36) ?hr ?_; (case hd => rfl); (case hg => rfl); (case hr => first | (go_simp; done) | (go_simp; rfl)); intro gb133 hg w5 hbox hb; have n0_ := Aside0.mk (below_step (by repeat (first | (with_reducible first | exact HB.out | apply below_alloc | apply pw_below_drewN | apply below_drew1) | exact HB.out)) hb); have n1_ := Aside0.mk (hbox); have n2_ := Aside0.mk ((by rw [hg]; exact (below_size (by repeat (first | (with_reducible first | exact HB.out | apply below_alloc | apply pw_below_drewN | apply below_drew1) | exact HB.out))) : w.heap.size ≤ gb133)); have n3_ := Aside0.mk ((by rw [hg]; exact (below_size (by repeat (first | (with_reducible first | exact HB.out | apply below_alloc | apply pw_below_drewN | apply below_drew1) | exact HB.out))) : w.heap.size ≤ gb133)); clear HB; have HB := n0_; have BK133 := n1_; have GW133 := n2_; have GE133 := n3_; clear n0_ n1_ n2_ n3_; clear hb hbox hg; have hcz6_0 : w5.cell? ⟨gb133, 0, none⟩ = some (.int .i64 0) := (blk_cell BK133.out 0).trans rfl; have hcz6_1 : w5.cell? ⟨gb133, 1, none⟩ = some (.int .i64 0) := (blk_cell BK133.out 1).trans rfl; have hcz6_2 : w5.cell? ⟨gb133, 2, none⟩ = some (.int .i64 0) := (blk_cell BK133.out 2).trans rfl; have hcz6_3 : w5.cell? ⟨gb133, 3, none⟩ = some (.string (⟨#[]⟩ : ByteArray)) := (blk_cell BK133.out 3).trans rfl; have hfz6_0 := blk_frozen BK133.out 0; have hfz6_1 := blk_frozen BK133.out 1; have hfz6_2 := blk_frozen BK133.out 2; have hfz6_3 := blk_frozen BK133.out 3)))
          (try simp only [Act.put, List.setIfInBounds_toArray, List.set_cons_zero, List.set_cons_succ])
          go_cut [4, 5] (fun v4 v5 wc => ∃ (kq : Nat) (x4_3 : ByteArray) (x5_3 : Bool), v4 = .string x4_3 ∧ v5 = .bool x5_3 ∧ Aside0 (warrantorref23_Show.j3 kq l0 x4_3 x5_3 x6_1 ((rd_T36 l0 x6_1).f0) ((rd_T36 l0 x6_1).f1) ((rd_T36 l0 x6_1).f2) ((rd_T36 l0 x6_1).f3) = some (r1, r2)) ∧ Aside0 (kq ≤ k1) ∧ Aside0 (wc.heap[gb133]? = some (.cells #[.int .i64 ((rd_T36 l0 x6_1).f0), .int .i64 ((rd_T36 l0 x6_1).f1), .int .i64 ((rd_T36 l0 x6_1).f2), .string ((rd_T36 l0 x6_1).f3)] 36 (0, 0))) ∧ Aside0 (Below w.heap.size w wc))
          case first =>
            have H := HC4.out
            clear HC4
            have HC7 := Aside0.mk H
            clear H
            go_upto_region 8 with (fail)
            repeat (go_quiet (fail); go_upto_region 8 with (fail))
            go_cut [18] (fun v18 wc => ∃ (kq : Nat) (x18_6 : Bool), v18 = .bool x18_6 ∧ Aside0 (warrantorref23_Show.j1 kq l0 x4_1 x5_1 x6_1 x18_6 ((rd_T36 l0 x6_1).f0) ((rd_T36 l0 x6_1).f1) ((rd_T36 l0 x6_1).f2) ((rd_T36 l0 x6_1).f3) = some (r1, r2)) ∧ Aside0 (kq ≤ k1) ∧ Aside0 (wc.heap[gb133]? = some (.cells #[.int .i64 ((rd_T36 l0 x6_1).f0), .int .i64 ((rd_T36 l0 x6_1).f1), .int .i64 ((rd_T36 l0 x6_1).f2), .string ((rd_T36 l0 x6_1).f3)] 36 (0, 0))) ∧ Aside0 (Below w.heap.size w wc))
            case first =>
              have H := HC7.out
              clear HC7
              by_cases c8 : ((rd_T36 l0 x6_1).f0) = 3
              · rw [if_pos c8] at H
                have c8b0 : (((rd_T36 l0 x6_1).f0) == 3) = true := beq_iff_eq.mpr c8
                have c8b1 : (((rd_T36 l0 x6_1).f0) != 3) = false := bne_eq_false_iff_eq.mpr c8
                clear c8
                (first | rw [c8b0] | (simp only [i64_w, i32_w]; rw [c8b0]) | skip)
                by_cases c9 : ((rd_T36 l0 x6_1).f3).toList = ([] : List UInt8)
                · rw [if_pos c9] at H
                  have c9b0 : (((rd_T36 l0 x6_1).f3).toList == ([] : List UInt8)) = true := beq_iff_eq.mpr c9
                  have c9b1 : (((rd_T36 l0 x6_1).f3).toList != ([] : List UInt8)) = false := bne_eq_false_iff_eq.mpr c9
                  clear c9
                  have H' := Aside0.mk H
                  clear H
                  have hcz10_0 : w5.cell? ⟨gb133, 0, none⟩ = some (.int .i64 0) := (blk_cell BK133.out 0).trans rfl
                  have hcz10_1 : w5.cell? ⟨gb133, 1, none⟩ = some (.int .i64 0) := (blk_cell BK133.out 1).trans rfl
                  have hcz10_2 : w5.cell? ⟨gb133, 2, none⟩ = some (.int .i64 0) := (blk_cell BK133.out 2).trans rfl
                  have hcz10_3 : w5.cell? ⟨gb133, 3, none⟩ = some (.string (⟨#[]⟩ : ByteArray)) := (blk_cell BK133.out 3).trans rfl
                  have hfz10_0 := blk_frozen BK133.out 0
                  have hfz10_1 := blk_frozen BK133.out 1
                  have hfz10_2 := blk_frozen BK133.out 2
                  have hfz10_3 := blk_frozen BK133.out 3
                  go_wp2
                  repeat (go_quiet (fail); try go_wp2)
                  go_meet
                  case rel => exact ⟨_, (!x5_1), (by first | rfl | (simp; done) | (simp [*]; done)), H', ⟨by have := HK1.out; first | omega | exact Nat.le_refl _⟩, ⟨by (with_reducible repeat (first | refine blk_drewN ?_ _ | refine blk_drew ?_ | refine blk_alloc ?_ _)); refine blk_put (cs := #[.int .i64 ((rd_T36 l0 x6_1).f0), .int .i64 ((rd_T36 l0 x6_1).f1), .int .i64 ((rd_T36 l0 x6_1).f2), .string (⟨#[]⟩ : ByteArray)]) ?_ 3 _ rfl; (with_reducible repeat (first | refine blk_drewN ?_ _ | refine blk_drew ?_ | refine blk_alloc ?_ _)); refine blk_put (cs := #[.int .i64 ((rd_T36 l0 x6_1).f0), .int .i64 ((rd_T36 l0 x6_1).f1), .int .i64 0, .string (⟨#[]⟩ : ByteArray)]) ?_ 2 _ rfl; (with_reducible repeat (first | refine blk_drewN ?_ _ | refine blk_drew ?_ | refine blk_alloc ?_ _)); refine blk_put (cs := #[.int .i64 ((rd_T36 l0 x6_1).f0), .int .i64 0, .int .i64 0, .string (⟨#[]⟩ : ByteArray)]) ?_ 1 _ rfl; (with_reducible repeat (first | refine blk_drewN ?_ _ | refine blk_drew ?_ | refine blk_alloc ?_ _)); refine blk_put (cs := #[.int .i64 0, .int .i64 0, .int .i64 0, .string (⟨#[]⟩ : ByteArray)]) ?_ 0 _ rfl; (with_reducible repeat (first | refine blk_drewN ?_ _ | refine blk_drew ?_ | refine blk_alloc ?_ _)); exact BK133.out⟩, ⟨by repeat (first | (with_reducible first | exact HB.out | apply below_alloc | apply pw_below_drewN | apply below_drew1 | refine below_set ?_ GE133.out) | exact HB.out)⟩⟩
                · rw [if_neg c9] at H
                  have c9b0 : (((rd_T36 l0 x6_1).f3).toList == ([] : List UInt8)) = false := beq_eq_false_iff_ne.mpr c9
                  have c9b1 : (((rd_T36 l0 x6_1).f3).toList != ([] : List UInt8)) = true := bne_iff_ne.mpr c9
                  have H' := Aside0.mk H
                  clear H
                  have hcz11_0 : w5.cell? ⟨gb133, 0, none⟩ = some (.int .i64 0) := (blk_cell BK133.out 0).trans rfl
                  have hcz11_1 : w5.cell? ⟨gb133, 1, none⟩ = some (.int .i64 0) := (blk_cell BK133.out 1).trans rfl
                  have hcz11_2 : w5.cell? ⟨gb133, 2, none⟩ = some (.int .i64 0) := (blk_cell BK133.out 2).trans rfl
                  have hcz11_3 : w5.cell? ⟨gb133, 3, none⟩ = some (.string (⟨#[]⟩ : ByteArray)) := (blk_cell BK133.out 3).trans rfl
                  have hfz11_0 := blk_frozen BK133.out 0
                  have hfz11_1 := blk_frozen BK133.out 1
                  have hfz11_2 := blk_frozen BK133.out 2
                  have hfz11_3 := blk_frozen BK133.out 3
                  go_wp2
                  repeat (go_quiet (fail); try go_wp2)
                  go_meet
                  case rel => exact ⟨_, (false), (by first | rfl | (simp; done) | (simp [*]; done)), H', ⟨by have := HK1.out; first | omega | exact Nat.le_refl _⟩, ⟨by (with_reducible repeat (first | refine blk_drewN ?_ _ | refine blk_drew ?_ | refine blk_alloc ?_ _)); refine blk_put (cs := #[.int .i64 ((rd_T36 l0 x6_1).f0), .int .i64 ((rd_T36 l0 x6_1).f1), .int .i64 ((rd_T36 l0 x6_1).f2), .string (⟨#[]⟩ : ByteArray)]) ?_ 3 _ rfl; (with_reducible repeat (first | refine blk_drewN ?_ _ | refine blk_drew ?_ | refine blk_alloc ?_ _)); refine blk_put (cs := #[.int .i64 ((rd_T36 l0 x6_1).f0), .int .i64 ((rd_T36 l0 x6_1).f1), .int .i64 0, .string (⟨#[]⟩ : ByteArray)]) ?_ 2 _ rfl; (with_reducible repeat (first | refine blk_drewN ?_ _ | refine blk_drew ?_ | refine blk_alloc ?_ _)); refine blk_put (cs := #[.int .i64 ((rd_T36 l0 x6_1).f0), .int .i64 0, .int .i64 0, .string (⟨#[]⟩ : ByteArray)]) ?_ 1 _ rfl; (with_reducible repeat (first | refine blk_drewN ?_ _ | refine blk_drew ?_ | refine blk_alloc ?_ _)); refine blk_put (cs := #[.int .i64 0, .int .i64 0, .int .i64 0, .string (⟨#[]⟩ : ByteArray)]) ?_ 0 _ rfl; (with_reducible repeat (first | refine blk_drewN ?_ _ | refine blk_drew ?_ | refine blk_alloc ?_ _)); exact BK133.out⟩, ⟨by repeat (first | (with_reducible first | exact HB.out | apply below_alloc | apply pw_below_drewN | apply below_drew1 | refine below_set ?_ GE133.out) | exact HB.out)⟩⟩
              · rw [if_neg c8] at H
                have c8b0 : (((rd_T36 l0 x6_1).f0) == 3) = false := beq_eq_false_iff_ne.mpr c8
                have c8b1 : (((rd_T36 l0 x6_1).f0) != 3) = true := bne_iff_ne.mpr c8
                (first | rw [c8b0] | (simp only [i64_w, i32_w]; rw [c8b0]) | skip)
                have H' := Aside0.mk H
                clear H
                have hcz12_0 : w5.cell? ⟨gb133, 0, none⟩ = some (.int .i64 0) := (blk_cell BK133.out 0).trans rfl
                have hcz12_1 : w5.cell? ⟨gb133, 1, none⟩ = some (.int .i64 0) := (blk_cell BK133.out 1).trans rfl
                have hcz12_2 : w5.cell? ⟨gb133, 2, none⟩ = some (.int .i64 0) := (blk_cell BK133.out 2).trans rfl
                have hcz12_3 : w5.cell? ⟨gb133, 3, none⟩ = some (.string (⟨#[]⟩ : ByteArray)) := (blk_cell BK133.out 3).trans rfl
                have hfz12_0 := blk_frozen BK133.out 0
                have hfz12_1 := blk_frozen BK133.out 1
                have hfz12_2 := blk_frozen BK133.out 2
                have hfz12_3 := blk_frozen BK133.out 3
                go_wp2
                repeat (go_quiet (fail); try go_wp2)
                go_meet
                case rel => exact ⟨_, (false), (by first | rfl | (simp; done) | (simp [*]; done)), H', ⟨by have := HK1.out; first | omega | exact Nat.le_refl _⟩, ⟨by (with_reducible repeat (first | refine blk_drewN ?_ _ | refine blk_drew ?_ | refine blk_alloc ?_ _)); refine blk_put (cs := #[.int .i64 ((rd_T36 l0 x6_1).f0), .int .i64 ((rd_T36 l0 x6_1).f1), .int .i64 ((rd_T36 l0 x6_1).f2), .string (⟨#[]⟩ : ByteArray)]) ?_ 3 _ rfl; (with_reducible repeat (first | refine blk_drewN ?_ _ | refine blk_drew ?_ | refine blk_alloc ?_ _)); refine blk_put (cs := #[.int .i64 ((rd_T36 l0 x6_1).f0), .int .i64 ((rd_T36 l0 x6_1).f1), .int .i64 0, .string (⟨#[]⟩ : ByteArray)]) ?_ 2 _ rfl; (with_reducible repeat (first | refine blk_drewN ?_ _ | refine blk_drew ?_ | refine blk_alloc ?_ _)); refine blk_put (cs := #[.int .i64 ((rd_T36 l0 x6_1).f0), .int .i64 0, .int .i64 0, .string (⟨#[]⟩ : ByteArray)]) ?_ 1 _ rfl; (with_reducible repeat (first | refine blk_drewN ?_ _ | refine blk_drew ?_ | refine blk_alloc ?_ _)); refine blk_put (cs := #[.int .i64 0, .int .i64 0, .int .i64 0, .string (⟨#[]⟩ : ByteArray)]) ?_ 0 _ rfl; (with_reducible repeat (first | refine blk_drewN ?_ _ | refine blk_drew ?_ | refine blk_alloc ?_ _)); exact BK133.out⟩, ⟨by repeat (first | (with_reducible first | exact HB.out | apply below_alloc | apply pw_below_drewN | apply below_drew1 | refine below_set ?_ GE133.out) | exact HB.out)⟩⟩
            case rest =>
              clear HC7
              try clear c1
              try clear p1
              try clear q1
              try clear hx1
              try clear c2
              try clear c2b0
              try clear p2
              try clear c3
              try clear c3b0
              try clear c8
              try clear c8b0
              try clear c8b1
              try clear c9
              try clear c9b0
              try clear c9b1
              try clear hcz10_0
              try clear hcz10_1
              try clear hcz10_2
              try clear hcz10_3
              try clear hcz11_0
              try clear hcz11_1
              try clear hcz11_2
              try clear hcz11_3
              try clear hcz12_0
              try clear hcz12_1
              try clear hcz12_2
              try clear hcz12_3
              try clear hcz6_0
              try clear hcz6_1
              try clear hcz6_2
              try clear hcz6_3
              try clear hfz10_0
              try clear hfz10_1
              try clear hfz10_2
              try clear hfz10_3
              try clear hfz11_0
              try clear hfz11_1
              try clear hfz11_2
              try clear hfz11_3
              try clear hfz12_0
              try clear hfz12_1
              try clear hfz12_2
              try clear hfz12_3
              try clear hfz6_0
              try clear hfz6_1
              try clear hfz6_2
              try clear hfz6_3
              try clear hx132_0
              try clear hx132_1
              try clear hx132_2
              try clear hx132_3
              try clear p132
              try clear q132
              obtain ⟨kq, x18_6, rfl, HA, HJ6, BK133, HB⟩ := hcut
              cases kq with
              | zero => exact absurd HA.out (by simp [warrantorref23_Show.j1])
              | succ kj6 =>
                have H := HA.out
                clear HA
                simp only [warrantorref23_Show.j1] at H
                by_cases c13 : x18_6 = true
                · subst c13
                  have H1 : (if x4_1.size + 1 ≤ 9223372036854775807 then (warrantorref23_Show.l0 kj6 l0 (x4_1 ++ (⟨#[10]⟩ : ByteArray)) true (wrap64 (x6_1 + 1))) else (none)) = some (r1, r2) := by rw [if_pos rfl] at H; exact H
                  clear H
                  have H := H1
                  clear H1
                  by_cases c14 : x4_1.size + 1 ≤ 9223372036854775807
                  · rw [if_pos c14] at H
                    have c14b0 := eq_true c14
                    have c14b1 : decide (x4_1.size + 1 ≤ 9223372036854775807) = true := decide_eq_true c14
                    try have c14b2 : (9223372036854775807 < x4_1.size + 1) = False := eq_false (Nat.not_lt.2 c14)
                    have H' := Aside0.mk H
                    clear H
                    go_wp2
                    repeat (go_quiet (fail); try go_wp2)
                    go_roundg kj6
                    case measure => have := HK1.out; have := HJ6.out; omega
                    case rel => exact ⟨(x4_1 ++ (⟨#[10]⟩ : ByteArray)), (true), (wrap64 (x6_1 + 1)), (by first | rfl | (simp; done) | (simp [*]; done)), (by first | rfl | (simp; done) | (simp [*]; done)), (by first | rfl | (simp; done) | (simp [*]; done)), H', ⟨by have := HK1.out; have := HJ6.out; omega⟩, ⟨by repeat (first | (with_reducible first | exact HB.out | apply below_alloc | apply pw_below_drewN | apply below_drew1 | refine below_set ?_ GE133.out) | exact HB.out)⟩⟩
                  · rw [if_neg c14] at H
                    exact absurd H (by simp)
                · replace c13 := Bool.eq_false_iff.mpr c13
                  subst c13
                  have H1 : (if ((rd_T36 l0 x6_1).f0) = 1 then ((warrantorref23_Word.f kj6 ((rd_T36 l0 x6_1).f3)).bind fun t134 => (warrantorref23_Show.j2 kj6 l0 x4_1 x5_1 x6_1 t134 ((rd_T36 l0 x6_1).f0) ((rd_T36 l0 x6_1).f1) ((rd_T36 l0 x6_1).f2) ((rd_T36 l0 x6_1).f3))) else (warrantorref23_Show.j2 kj6 l0 x4_1 x5_1 x6_1 false ((rd_T36 l0 x6_1).f0) ((rd_T36 l0 x6_1).f1) ((rd_T36 l0 x6_1).f2) ((rd_T36 l0 x6_1).f3))) = some (r1, r2) := by rw [if_neg (show ¬ (false = true) by decide)] at H; exact H
                  clear H
                  have H := H1
                  clear H1
                  have HC15 := Aside0.mk H
                  clear H
                  go_upto_region 11 with (fail)
                  repeat (go_quiet (fail); go_upto_region 11 with (fail))
                  go_cut [33] (fun v33 wc => ∃ (kq : Nat) (x33_14 : Bool), v33 = .bool x33_14 ∧ Aside0 (warrantorref23_Show.j2 kq l0 x4_1 x5_1 x6_1 x33_14 ((rd_T36 l0 x6_1).f0) ((rd_T36 l0 x6_1).f1) ((rd_T36 l0 x6_1).f2) ((rd_T36 l0 x6_1).f3) = some (r1, r2)) ∧ Aside0 (kq ≤ kj6) ∧ Aside0 (wc.heap[gb133]? = some (.cells #[.int .i64 ((rd_T36 l0 x6_1).f0), .int .i64 ((rd_T36 l0 x6_1).f1), .int .i64 ((rd_T36 l0 x6_1).f2), .string ((rd_T36 l0 x6_1).f3)] 36 (0, 0))) ∧ Aside0 (Below w.heap.size w wc))
                  case first =>
                    have H := HC15.out
                    clear HC15
                    by_cases c16 : ((rd_T36 l0 x6_1).f0) = 1
                    · rw [if_pos c16] at H
                      have c16b0 : (((rd_T36 l0 x6_1).f0) == 1) = true := beq_iff_eq.mpr c16
                      have c16b1 : (((rd_T36 l0 x6_1).f0) != 1) = false := bne_eq_false_iff_eq.mpr c16
                      clear c16
                      (first | rw [c16b0] | (simp only [i64_w, i32_w]; rw [c16b0]) | skip)
                      replace H := Option.bind_eq_some_iff.mp H
                      obtain ⟨t134, A170, H⟩ := H
                      replace H : (warrantorref23_Show.j2 kj6 l0 x4_1 x5_1 x6_1 t134 ((rd_T36 l0 x6_1).f0) ((rd_T36 l0 x6_1).f1) ((rd_T36 l0 x6_1).f2) ((rd_T36 l0 x6_1).f3)) = some (r1, r2) := H
                      have A17 := Aside0.mk A170
                      clear A170
                      have H' := Aside0.mk H
                      clear H
                      have hcz18_0 : wc.cell? ⟨gb133, 0, none⟩ = some (.int .i64 ((rd_T36 l0 x6_1).f0)) := (blk_cell BK133.out 0).trans rfl
                      have hcz18_1 : wc.cell? ⟨gb133, 1, none⟩ = some (.int .i64 ((rd_T36 l0 x6_1).f1)) := (blk_cell BK133.out 1).trans rfl
                      have hcz18_2 : wc.cell? ⟨gb133, 2, none⟩ = some (.int .i64 ((rd_T36 l0 x6_1).f2)) := (blk_cell BK133.out 2).trans rfl
                      have hcz18_3 : wc.cell? ⟨gb133, 3, none⟩ = some (.string ((rd_T36 l0 x6_1).f3)) := (blk_cell BK133.out 3).trans rfl
                      have hfz18_0 := blk_frozen BK133.out 0
                      have hfz18_1 := blk_frozen BK133.out 1
                      have hfz18_2 := blk_frozen BK133.out 2
                      have hfz18_3 := blk_frozen BK133.out 3
                      go_wp2_with (first | (go_at_call 18; (with_reducible refine (warrantorref23_Word.calls kj6 ((rd_T36 l0 x6_1).f3) t134 _ A17.out).mono ?_); rintro e w' ⟨rfl, ⟨nd, rfl⟩⟩; (try first | exact ⟨rfl, _, World.drewN_drewN _ _ _⟩ | exact ⟨rfl, _, Eq.trans (World.drewN_drewN _ _ _) (congrArg (World.drewN _) (Nat.add_assoc _ _ _))⟩)))
                      repeat (go_quiet (first | (go_at_call 18; (with_reducible refine (warrantorref23_Word.calls kj6 ((rd_T36 l0 x6_1).f3) t134 _ A17.out).mono ?_); rintro e w' ⟨rfl, ⟨nd, rfl⟩⟩; (try first | exact ⟨rfl, _, World.drewN_drewN _ _ _⟩ | exact ⟨rfl, _, Eq.trans (World.drewN_drewN _ _ _) (congrArg (World.drewN _) (Nat.add_assoc _ _ _))⟩))); try go_wp2_with (first | (go_at_call 18; (with_reducible refine (warrantorref23_Word.calls kj6 ((rd_T36 l0 x6_1).f3) t134 _ A17.out).mono ?_); rintro e w' ⟨rfl, ⟨nd, rfl⟩⟩; (try first | exact ⟨rfl, _, World.drewN_drewN _ _ _⟩ | exact ⟨rfl, _, Eq.trans (World.drewN_drewN _ _ _) (congrArg (World.drewN _) (Nat.add_assoc _ _ _))⟩))))
                      go_meet
                      case rel => exact ⟨_, (t134), (by first | rfl | (simp; done) | (simp [*]; done)), H', ⟨by have := HK1.out; have := HJ6.out; first | omega | exact Nat.le_refl _⟩, ⟨by (with_reducible repeat (first | refine blk_drewN ?_ _ | refine blk_drew ?_ | refine blk_alloc ?_ _)); exact BK133.out⟩, ⟨by repeat (first | (with_reducible first | exact HB.out | apply below_alloc | apply pw_below_drewN | apply below_drew1 | refine below_set ?_ GE133.out) | exact HB.out)⟩⟩
                    · rw [if_neg c16] at H
                      have c16b0 : (((rd_T36 l0 x6_1).f0) == 1) = false := beq_eq_false_iff_ne.mpr c16
                      have c16b1 : (((rd_T36 l0 x6_1).f0) != 1) = true := bne_iff_ne.mpr c16
                      (first | rw [c16b0] | (simp only [i64_w, i32_w]; rw [c16b0]) | skip)
                      have H' := Aside0.mk H
                      clear H
                      have hcz19_0 : wc.cell? ⟨gb133, 0, none⟩ = some (.int .i64 ((rd_T36 l0 x6_1).f0)) := (blk_cell BK133.out 0).trans rfl
                      have hcz19_1 : wc.cell? ⟨gb133, 1, none⟩ = some (.int .i64 ((rd_T36 l0 x6_1).f1)) := (blk_cell BK133.out 1).trans rfl
                      have hcz19_2 : wc.cell? ⟨gb133, 2, none⟩ = some (.int .i64 ((rd_T36 l0 x6_1).f2)) := (blk_cell BK133.out 2).trans rfl
                      have hcz19_3 : wc.cell? ⟨gb133, 3, none⟩ = some (.string ((rd_T36 l0 x6_1).f3)) := (blk_cell BK133.out 3).trans rfl
                      have hfz19_0 := blk_frozen BK133.out 0
                      have hfz19_1 := blk_frozen BK133.out 1
                      have hfz19_2 := blk_frozen BK133.out 2
                      have hfz19_3 := blk_frozen BK133.out 3
                      go_wp2
                      repeat (go_quiet (fail); try go_wp2)
                      go_meet
                      case rel => exact ⟨_, (false), (by first | rfl | (simp; done) | (simp [*]; done)), H', ⟨by have := HK1.out; have := HJ6.out; first | omega | exact Nat.le_refl _⟩, ⟨by (with_reducible repeat (first | refine blk_drewN ?_ _ | refine blk_drew ?_ | refine blk_alloc ?_ _)); exact BK133.out⟩, ⟨by repeat (first | (with_reducible first | exact HB.out | apply below_alloc | apply pw_below_drewN | apply below_drew1 | refine below_set ?_ GE133.out) | exact HB.out)⟩⟩
                  case rest =>
                    clear HC15
                    try clear c1
                    try clear p1
                    try clear q1
                    try clear hx1
                    try clear c2
                    try clear c2b0
                    try clear p2
                    try clear c3
                    try clear c3b0
                    try clear p6
                    try clear c8
                    try clear c8b0
                    try clear c8b1
                    try clear c9
                    try clear c9b0
                    try clear c9b1
                    try clear c13
                    try clear p13
                    try clear q13
                    try clear hx13
                    try clear c14
                    try clear c14b0
                    try clear c14b1
                    try clear c14b2
                    try clear c16
                    try clear c16b0
                    try clear c16b1
                    try clear hcz10_0
                    try clear hcz10_1
                    try clear hcz10_2
                    try clear hcz10_3
                    try clear hcz11_0
                    try clear hcz11_1
                    try clear hcz11_2
                    try clear hcz11_3
                    try clear hcz12_0
                    try clear hcz12_1
                    try clear hcz12_2
                    try clear hcz12_3
                    try clear hcz18_0
                    try clear hcz18_1
                    try clear hcz18_2
                    try clear hcz18_3
                    try clear hcz19_0
                    try clear hcz19_1
                    try clear hcz19_2
                    try clear hcz19_3
                    try clear hcz6_0
                    try clear hcz6_1
                    try clear hcz6_2
                    try clear hcz6_3
                    try clear hfz10_0
                    try clear hfz10_1
                    try clear hfz10_2
                    try clear hfz10_3
                    try clear hfz11_0
                    try clear hfz11_1
                    try clear hfz11_2
                    try clear hfz11_3
                    try clear hfz12_0
                    try clear hfz12_1
                    try clear hfz12_2
                    try clear hfz12_3
                    try clear hfz18_0
                    try clear hfz18_1
                    try clear hfz18_2
                    try clear hfz18_3
                    try clear hfz19_0
                    try clear hfz19_1
                    try clear hfz19_2
                    try clear hfz19_3
                    try clear hfz6_0
                    try clear hfz6_1
                    try clear hfz6_2
                    try clear hfz6_3
                    try clear hx132_0
                    try clear hx132_1
                    try clear hx132_2
                    try clear hx132_3
                    try clear p1
                    try clear p132
                    try clear p2
                    try clear q1
                    try clear q132
                    obtain ⟨kq, x33_14, rfl, HA, HJ14, BK133, HB⟩ := hcut
                    cases kq with
                    | zero => exact absurd HA.out (by simp [warrantorref23_Show.j2])
                    | succ kj14 =>
                      have H := HA.out
                      clear HA
                      simp only [warrantorref23_Show.j2] at H
                      by_cases c20 : x33_14 = true
                      · subst c20
                        have H1 : (warrantorref23_Show.j3 kj14 l0 x4_1 x5_1 x6_1 ((rd_T36 l0 x6_1).f0) ((rd_T36 l0 x6_1).f1) ((rd_T36 l0 x6_1).f2) ((rd_T36 l0 x6_1).f3)) = some (r1, r2) := by rw [if_pos rfl] at H; exact H
                        clear H
                        have H := H1
                        clear H1
                        have H' := Aside0.mk H
                        clear H
                        go_wp2
                        repeat (go_quiet (fail); try go_wp2)
                        go_meet
                        case rel => exact ⟨_, (x4_1), (x5_1), (by first | rfl | (simp; done) | (simp [*]; done)), (by first | rfl | (simp; done) | (simp [*]; done)), H', ⟨by have := HK1.out; have := HJ6.out; have := HJ14.out; first | omega | exact Nat.le_refl _⟩, ⟨by (with_reducible repeat (first | refine blk_drewN ?_ _ | refine blk_drew ?_ | refine blk_alloc ?_ _)); exact BK133.out⟩, ⟨by repeat (first | (with_reducible first | exact HB.out | apply below_alloc | apply pw_below_drewN | apply below_drew1 | refine below_set ?_ GE133.out) | exact HB.out)⟩⟩
                      · replace c20 := Bool.eq_false_iff.mpr c20
                        subst c20
                        have H1 : (if ((rd_T36 l0 x6_1).f0) = 2 then ((warrantorref23_Quote.f kj14 ((rd_T36 l0 x6_1).f3)).bind fun t135 => (if (t135.size : Int) ≥ (wrap64 ((((rd_T36 l0 x6_1).f3).size : Int) + 2)) then ((warrantorref23_plain.f kj14 ((rd_T36 l0 x6_1).f3)).bind fun t136 => (if t136 = true then (warrantorref23_Show.j3 kj14 l0 x4_1 x5_1 x6_1 ((rd_T36 l0 x6_1).f0) ((rd_T36 l0 x6_1).f1) ((rd_T36 l0 x6_1).f2) ((rd_T36 l0 x6_1).f3)) else (some ((⟨#[]⟩ : ByteArray), false)))) else (some ((⟨#[]⟩ : ByteArray), false)))) else (some ((⟨#[]⟩ : ByteArray), false))) = some (r1, r2) := by rw [if_neg (show ¬ (false = true) by decide)] at H; exact H
                        clear H
                        have H := H1
                        clear H1
                        by_cases c21 : ((rd_T36 l0 x6_1).f0) = 2
                        · rw [if_pos c21] at H
                          have c21b0 : (((rd_T36 l0 x6_1).f0) == 2) = true := beq_iff_eq.mpr c21
                          have c21b1 : (((rd_T36 l0 x6_1).f0) != 2) = false := bne_eq_false_iff_eq.mpr c21
                          clear c21
                          replace H := Option.bind_eq_some_iff.mp H
                          obtain ⟨t135, A220, H⟩ := H
                          replace H : (if (t135.size : Int) ≥ (wrap64 ((((rd_T36 l0 x6_1).f3).size : Int) + 2)) then ((warrantorref23_plain.f kj14 ((rd_T36 l0 x6_1).f3)).bind fun t136 => (if t136 = true then (warrantorref23_Show.j3 kj14 l0 x4_1 x5_1 x6_1 ((rd_T36 l0 x6_1).f0) ((rd_T36 l0 x6_1).f1) ((rd_T36 l0 x6_1).f2) ((rd_T36 l0 x6_1).f3)) else (some ((⟨#[]⟩ : ByteArray), false)))) else (some ((⟨#[]⟩ : ByteArray), false))) = some (r1, r2) := H
                          have A22 := Aside0.mk A220
                          clear A220
                          by_cases c23 : (t135.size : Int) ≥ (wrap64 ((((rd_T36 l0 x6_1).f3).size : Int) + 2))
                          · rw [if_pos c23] at H
                            have c23b0 : decide ((wrap64 ((((rd_T36 l0 x6_1).f3).size : Int) + 2)) ≤ (t135.size : Int)) = true := decide_eq_true c23
                            clear c23
                            replace H := Option.bind_eq_some_iff.mp H
                            obtain ⟨t136, A240, H⟩ := H
                            replace H : (if t136 = true then (warrantorref23_Show.j3 kj14 l0 x4_1 x5_1 x6_1 ((rd_T36 l0 x6_1).f0) ((rd_T36 l0 x6_1).f1) ((rd_T36 l0 x6_1).f2) ((rd_T36 l0 x6_1).f3)) else (some ((⟨#[]⟩ : ByteArray), false))) = some (r1, r2) := H
                            have A24 := Aside0.mk A240
                            clear A240
                            by_cases c25 : t136 = true
                            · subst c25
                              have H1 : (warrantorref23_Show.j3 kj14 l0 x4_1 x5_1 x6_1 ((rd_T36 l0 x6_1).f0) ((rd_T36 l0 x6_1).f1) ((rd_T36 l0 x6_1).f2) ((rd_T36 l0 x6_1).f3)) = some (r1, r2) := by rw [if_pos rfl] at H; exact H
                              clear H
                              have H := H1
                              clear H1
                              have H' := Aside0.mk H
                              clear H
                              have hcz26_0 : wc.cell? ⟨gb133, 0, none⟩ = some (.int .i64 ((rd_T36 l0 x6_1).f0)) := (blk_cell BK133.out 0).trans rfl
                              have hcz26_1 : wc.cell? ⟨gb133, 1, none⟩ = some (.int .i64 ((rd_T36 l0 x6_1).f1)) := (blk_cell BK133.out 1).trans rfl
                              have hcz26_2 : wc.cell? ⟨gb133, 2, none⟩ = some (.int .i64 ((rd_T36 l0 x6_1).f2)) := (blk_cell BK133.out 2).trans rfl
                              have hcz26_3 : wc.cell? ⟨gb133, 3, none⟩ = some (.string ((rd_T36 l0 x6_1).f3)) := (blk_cell BK133.out 3).trans rfl
                              have hfz26_0 := blk_frozen BK133.out 0
                              have hfz26_1 := blk_frozen BK133.out 1
                              have hfz26_2 := blk_frozen BK133.out 2
                              have hfz26_3 := blk_frozen BK133.out 3
                              go_wp2_with (first | (go_at_call 16; (with_reducible refine (warrantorref23_Quote.calls kj14 ((rd_T36 l0 x6_1).f3) t135 _ A22.out).mono ?_); rintro e w' ⟨rfl, ⟨nd, rfl⟩⟩; (try first | exact ⟨rfl, _, World.drewN_drewN _ _ _⟩ | exact ⟨rfl, _, Eq.trans (World.drewN_drewN _ _ _) (congrArg (World.drewN _) (Nat.add_assoc _ _ _))⟩)) | (go_at_call 26; (with_reducible refine (warrantorref23_plain.calls kj14 ((rd_T36 l0 x6_1).f3) true _ A24.out).mono ?_); rintro e w' ⟨rfl, ⟨nd, rfl⟩⟩; (try first | exact ⟨rfl, _, World.drewN_drewN _ _ _⟩ | exact ⟨rfl, _, Eq.trans (World.drewN_drewN _ _ _) (congrArg (World.drewN _) (Nat.add_assoc _ _ _))⟩)))
                              repeat (go_quiet (first | (go_at_call 16; (with_reducible refine (warrantorref23_Quote.calls kj14 ((rd_T36 l0 x6_1).f3) t135 _ A22.out).mono ?_); rintro e w' ⟨rfl, ⟨nd, rfl⟩⟩; (try first | exact ⟨rfl, _, World.drewN_drewN _ _ _⟩ | exact ⟨rfl, _, Eq.trans (World.drewN_drewN _ _ _) (congrArg (World.drewN _) (Nat.add_assoc _ _ _))⟩)) | (go_at_call 26; (with_reducible refine (warrantorref23_plain.calls kj14 ((rd_T36 l0 x6_1).f3) true _ A24.out).mono ?_); rintro e w' ⟨rfl, ⟨nd, rfl⟩⟩; (try first | exact ⟨rfl, _, World.drewN_drewN _ _ _⟩ | exact ⟨rfl, _, Eq.trans (World.drewN_drewN _ _ _) (congrArg (World.drewN _) (Nat.add_assoc _ _ _))⟩))); try go_wp2_with (first | (go_at_call 16; (with_reducible refine (warrantorref23_Quote.calls kj14 ((rd_T36 l0 x6_1).f3) t135 _ A22.out).mono ?_); rintro e w' ⟨rfl, ⟨nd, rfl⟩⟩; (try first | exact ⟨rfl, _, World.drewN_drewN _ _ _⟩ | exact ⟨rfl, _, Eq.trans (World.drewN_drewN _ _ _) (congrArg (World.drewN _) (Nat.add_assoc _ _ _))⟩)) | (go_at_call 26; (with_reducible refine (warrantorref23_plain.calls kj14 ((rd_T36 l0 x6_1).f3) true _ A24.out).mono ?_); rintro e w' ⟨rfl, ⟨nd, rfl⟩⟩; (try first | exact ⟨rfl, _, World.drewN_drewN _ _ _⟩ | exact ⟨rfl, _, Eq.trans (World.drewN_drewN _ _ _) (congrArg (World.drewN _) (Nat.add_assoc _ _ _))⟩))))
                              go_meet
                              case rel => exact ⟨_, (x4_1), (x5_1), (by first | rfl | (simp; done) | (simp [*]; done)), (by first | rfl | (simp; done) | (simp [*]; done)), H', ⟨by have := HK1.out; have := HJ6.out; have := HJ14.out; first | omega | exact Nat.le_refl _⟩, ⟨by (with_reducible repeat (first | refine blk_drewN ?_ _ | refine blk_drew ?_ | refine blk_alloc ?_ _)); exact BK133.out⟩, ⟨by repeat (first | (with_reducible first | exact HB.out | apply below_alloc | apply pw_below_drewN | apply below_drew1 | refine below_set ?_ GE133.out) | exact HB.out)⟩⟩
                            · replace c25 := Bool.eq_false_iff.mpr c25
                              subst c25
                              have H1 : (some ((⟨#[]⟩ : ByteArray), false)) = some (r1, r2) := by rw [if_neg (show ¬ (false = true) by decide)] at H; exact H
                              clear H
                              have H := H1
                              clear H1
                              simp only [Option.some.injEq, Prod.mk.injEq] at H
                              obtain ⟨rfl, rfl⟩ := H
                              have hcz27_0 : wc.cell? ⟨gb133, 0, none⟩ = some (.int .i64 ((rd_T36 l0 x6_1).f0)) := (blk_cell BK133.out 0).trans rfl
                              have hcz27_1 : wc.cell? ⟨gb133, 1, none⟩ = some (.int .i64 ((rd_T36 l0 x6_1).f1)) := (blk_cell BK133.out 1).trans rfl
                              have hcz27_2 : wc.cell? ⟨gb133, 2, none⟩ = some (.int .i64 ((rd_T36 l0 x6_1).f2)) := (blk_cell BK133.out 2).trans rfl
                              have hcz27_3 : wc.cell? ⟨gb133, 3, none⟩ = some (.string ((rd_T36 l0 x6_1).f3)) := (blk_cell BK133.out 3).trans rfl
                              have hfz27_0 := blk_frozen BK133.out 0
                              have hfz27_1 := blk_frozen BK133.out 1
                              have hfz27_2 := blk_frozen BK133.out 2
                              have hfz27_3 := blk_frozen BK133.out 3
                              go_wp2_with (first | (go_at_call 16; (with_reducible refine (warrantorref23_Quote.calls kj14 ((rd_T36 l0 x6_1).f3) t135 _ A22.out).mono ?_); rintro e w' ⟨rfl, ⟨nd, rfl⟩⟩; (try first | exact ⟨rfl, _, World.drewN_drewN _ _ _⟩ | exact ⟨rfl, _, Eq.trans (World.drewN_drewN _ _ _) (congrArg (World.drewN _) (Nat.add_assoc _ _ _))⟩)) | (go_at_call 26; (with_reducible refine (warrantorref23_plain.calls kj14 ((rd_T36 l0 x6_1).f3) false _ A24.out).mono ?_); rintro e w' ⟨rfl, ⟨nd, rfl⟩⟩; (try first | exact ⟨rfl, _, World.drewN_drewN _ _ _⟩ | exact ⟨rfl, _, Eq.trans (World.drewN_drewN _ _ _) (congrArg (World.drewN _) (Nat.add_assoc _ _ _))⟩)))
                              repeat (go_quiet (first | (go_at_call 16; (with_reducible refine (warrantorref23_Quote.calls kj14 ((rd_T36 l0 x6_1).f3) t135 _ A22.out).mono ?_); rintro e w' ⟨rfl, ⟨nd, rfl⟩⟩; (try first | exact ⟨rfl, _, World.drewN_drewN _ _ _⟩ | exact ⟨rfl, _, Eq.trans (World.drewN_drewN _ _ _) (congrArg (World.drewN _) (Nat.add_assoc _ _ _))⟩)) | (go_at_call 26; (with_reducible refine (warrantorref23_plain.calls kj14 ((rd_T36 l0 x6_1).f3) false _ A24.out).mono ?_); rintro e w' ⟨rfl, ⟨nd, rfl⟩⟩; (try first | exact ⟨rfl, _, World.drewN_drewN _ _ _⟩ | exact ⟨rfl, _, Eq.trans (World.drewN_drewN _ _ _) (congrArg (World.drewN _) (Nat.add_assoc _ _ _))⟩))); try go_wp2_with (first | (go_at_call 16; (with_reducible refine (warrantorref23_Quote.calls kj14 ((rd_T36 l0 x6_1).f3) t135 _ A22.out).mono ?_); rintro e w' ⟨rfl, ⟨nd, rfl⟩⟩; (try first | exact ⟨rfl, _, World.drewN_drewN _ _ _⟩ | exact ⟨rfl, _, Eq.trans (World.drewN_drewN _ _ _) (congrArg (World.drewN _) (Nat.add_assoc _ _ _))⟩)) | (go_at_call 26; (with_reducible refine (warrantorref23_plain.calls kj14 ((rd_T36 l0 x6_1).f3) false _ A24.out).mono ?_); rintro e w' ⟨rfl, ⟨nd, rfl⟩⟩; (try first | exact ⟨rfl, _, World.drewN_drewN _ _ _⟩ | exact ⟨rfl, _, Eq.trans (World.drewN_drewN _ _ _) (congrArg (World.drewN _) (Nat.add_assoc _ _ _))⟩))))
                              go_ret2
                              exact ⟨by first | rfl | (simp [errW_none, errW_some] <;> rfl) | (simp [*, errW_none, errW_some] <;> rfl), by repeat (first | (with_reducible first | exact HB.out | apply below_alloc | apply pw_below_drewN | apply below_drew1 | refine below_set ?_ GE133.out) | exact HB.out)⟩
                          · rw [if_neg c23] at H
                            have c23b0 : decide ((wrap64 ((((rd_T36 l0 x6_1).f3).size : Int) + 2)) ≤ (t135.size : Int)) = false := decide_eq_false c23
                            clear c23
                            simp only [Option.some.injEq, Prod.mk.injEq] at H
                            obtain ⟨rfl, rfl⟩ := H
                            have hcz28_0 : wc.cell? ⟨gb133, 0, none⟩ = some (.int .i64 ((rd_T36 l0 x6_1).f0)) := (blk_cell BK133.out 0).trans rfl
                            have hcz28_1 : wc.cell? ⟨gb133, 1, none⟩ = some (.int .i64 ((rd_T36 l0 x6_1).f1)) := (blk_cell BK133.out 1).trans rfl
                            have hcz28_2 : wc.cell? ⟨gb133, 2, none⟩ = some (.int .i64 ((rd_T36 l0 x6_1).f2)) := (blk_cell BK133.out 2).trans rfl
                            have hcz28_3 : wc.cell? ⟨gb133, 3, none⟩ = some (.string ((rd_T36 l0 x6_1).f3)) := (blk_cell BK133.out 3).trans rfl
                            have hfz28_0 := blk_frozen BK133.out 0
                            have hfz28_1 := blk_frozen BK133.out 1
                            have hfz28_2 := blk_frozen BK133.out 2
                            have hfz28_3 := blk_frozen BK133.out 3
                            go_wp2_with (first | (go_at_call 16; (with_reducible refine (warrantorref23_Quote.calls kj14 ((rd_T36 l0 x6_1).f3) t135 _ A22.out).mono ?_); rintro e w' ⟨rfl, ⟨nd, rfl⟩⟩; (try first | exact ⟨rfl, _, World.drewN_drewN _ _ _⟩ | exact ⟨rfl, _, Eq.trans (World.drewN_drewN _ _ _) (congrArg (World.drewN _) (Nat.add_assoc _ _ _))⟩)))
                            repeat (go_quiet (first | (go_at_call 16; (with_reducible refine (warrantorref23_Quote.calls kj14 ((rd_T36 l0 x6_1).f3) t135 _ A22.out).mono ?_); rintro e w' ⟨rfl, ⟨nd, rfl⟩⟩; (try first | exact ⟨rfl, _, World.drewN_drewN _ _ _⟩ | exact ⟨rfl, _, Eq.trans (World.drewN_drewN _ _ _) (congrArg (World.drewN _) (Nat.add_assoc _ _ _))⟩))); try go_wp2_with (first | (go_at_call 16; (with_reducible refine (warrantorref23_Quote.calls kj14 ((rd_T36 l0 x6_1).f3) t135 _ A22.out).mono ?_); rintro e w' ⟨rfl, ⟨nd, rfl⟩⟩; (try first | exact ⟨rfl, _, World.drewN_drewN _ _ _⟩ | exact ⟨rfl, _, Eq.trans (World.drewN_drewN _ _ _) (congrArg (World.drewN _) (Nat.add_assoc _ _ _))⟩))))
                            go_ret2
                            exact ⟨by first | rfl | (simp [errW_none, errW_some] <;> rfl) | (simp [*, errW_none, errW_some] <;> rfl), by repeat (first | (with_reducible first | exact HB.out | apply below_alloc | apply pw_below_drewN | apply below_drew1 | refine below_set ?_ GE133.out) | exact HB.out)⟩
                        · rw [if_neg c21] at H
                          have c21b0 : (((rd_T36 l0 x6_1).f0) == 2) = false := beq_eq_false_iff_ne.mpr c21
                          have c21b1 : (((rd_T36 l0 x6_1).f0) != 2) = true := bne_iff_ne.mpr c21
                          simp only [Option.some.injEq, Prod.mk.injEq] at H
                          obtain ⟨rfl, rfl⟩ := H
                          have hcz29_0 : wc.cell? ⟨gb133, 0, none⟩ = some (.int .i64 ((rd_T36 l0 x6_1).f0)) := (blk_cell BK133.out 0).trans rfl
                          have hcz29_1 : wc.cell? ⟨gb133, 1, none⟩ = some (.int .i64 ((rd_T36 l0 x6_1).f1)) := (blk_cell BK133.out 1).trans rfl
                          have hcz29_2 : wc.cell? ⟨gb133, 2, none⟩ = some (.int .i64 ((rd_T36 l0 x6_1).f2)) := (blk_cell BK133.out 2).trans rfl
                          have hcz29_3 : wc.cell? ⟨gb133, 3, none⟩ = some (.string ((rd_T36 l0 x6_1).f3)) := (blk_cell BK133.out 3).trans rfl
                          have hfz29_0 := blk_frozen BK133.out 0
                          have hfz29_1 := blk_frozen BK133.out 1
                          have hfz29_2 := blk_frozen BK133.out 2
                          have hfz29_3 := blk_frozen BK133.out 3
                          go_wp2
                          repeat (go_quiet (fail); try go_wp2)
                          go_ret2
                          exact ⟨by first | rfl | (simp [errW_none, errW_some] <;> rfl) | (simp [*, errW_none, errW_some] <;> rfl), by repeat (first | (with_reducible first | exact HB.out | apply below_alloc | apply pw_below_drewN | apply below_drew1 | refine below_set ?_ GE133.out) | exact HB.out)⟩
          case rest =>
            clear HC4
            try clear c1
            try clear p1
            try clear q1
            try clear hx1
            try clear c2
            try clear c2b0
            try clear p2
            try clear c3
            try clear c3b0
            try clear p6
            try clear c8
            try clear c8b0
            try clear c8b1
            try clear c9
            try clear c9b0
            try clear c9b1
            try clear c13
            try clear p13
            try clear q13
            try clear hx13
            try clear c14
            try clear c14b0
            try clear c14b1
            try clear c14b2
            try clear c16
            try clear c16b0
            try clear c16b1
            try clear c20
            try clear c21
            try clear c21b0
            try clear c21b1
            try clear c23
            try clear c23b0
            try clear c25
            try clear hcz10_0
            try clear hcz10_1
            try clear hcz10_2
            try clear hcz10_3
            try clear hcz11_0
            try clear hcz11_1
            try clear hcz11_2
            try clear hcz11_3
            try clear hcz12_0
            try clear hcz12_1
            try clear hcz12_2
            try clear hcz12_3
            try clear hcz18_0
            try clear hcz18_1
            try clear hcz18_2
            try clear hcz18_3
            try clear hcz19_0
            try clear hcz19_1
            try clear hcz19_2
            try clear hcz19_3
            try clear hcz26_0
            try clear hcz26_1
            try clear hcz26_2
            try clear hcz26_3
            try clear hcz27_0
            try clear hcz27_1
            try clear hcz27_2
            try clear hcz27_3
            try clear hcz28_0
            try clear hcz28_1
            try clear hcz28_2
            try clear hcz28_3
            try clear hcz29_0
            try clear hcz29_1
            try clear hcz29_2
            try clear hcz29_3
            try clear hcz6_0
            try clear hcz6_1
            try clear hcz6_2
            try clear hcz6_3
            try clear hfz10_0
            try clear hfz10_1
            try clear hfz10_2
            try clear hfz10_3
            try clear hfz11_0
            try clear hfz11_1
            try clear hfz11_2
            try clear hfz11_3
            try clear hfz12_0
            try clear hfz12_1
            try clear hfz12_2
            try clear hfz12_3
            try clear hfz18_0
            try clear hfz18_1
            try clear hfz18_2
            try clear hfz18_3
            try clear hfz19_0
            try clear hfz19_1
            try clear hfz19_2
            try clear hfz19_3
            try clear hfz26_0
            try clear hfz26_1
            try clear hfz26_2
            try clear hfz26_3
            try clear hfz27_0
            try clear hfz27_1
            try clear hfz27_2
            try clear hfz27_3
            try clear hfz28_0
            try clear hfz28_1
            try clear hfz28_2
            try clear hfz28_3
            try clear hfz29_0
            try clear hfz29_1
            try clear hfz29_2
            try clear hfz29_3
            try clear hfz6_0
            try clear hfz6_1
            try clear hfz6_2
            try clear hfz6_3
            try clear hx132_0
            try clear hx132_1
            try clear hx132_2
            try clear hx132_3
            try clear p1
            try clear p13
            try clear p132
            try clear p2
            try clear p6
            try clear q1
            try clear q13
            try clear q132
            obtain ⟨kq, x4_3, x5_3, rfl, rfl, HA, HJ3, BK133, HB⟩ := hcut
            cases kq with
            | zero => exact absurd HA.out (by simp [warrantorref23_Show.j3])
            | succ kj3 =>
              have H := HA.out
              clear HA
              simp only [warrantorref23_Show.j3] at H
              by_cases c30 : x5_3 = true
              · subst c30
                have H1 : (if ((rd_T36 l0 x6_1).f0) = 1 then (if x4_3.size + ((rd_T36 l0 x6_1).f3).size ≤ 9223372036854775807 then (warrantorref23_Show.l0 kj3 l0 (x4_3 ++ ((rd_T36 l0 x6_1).f3)) false (wrap64 (x6_1 + 1))) else (none)) else ((warrantorref23_Quote.f kj3 ((rd_T36 l0 x6_1).f3)).bind fun t137 => (if x4_3.size + t137.size ≤ 9223372036854775807 then (warrantorref23_Show.l0 kj3 l0 (x4_3 ++ t137) false (wrap64 (x6_1 + 1))) else (none)))) = some (r1, r2) := by rw [if_pos rfl] at H; exact H
                clear H
                have H := H1
                clear H1
                by_cases c31 : ((rd_T36 l0 x6_1).f0) = 1
                · rw [if_pos c31] at H
                  have c31b0 : (((rd_T36 l0 x6_1).f0) == 1) = true := beq_iff_eq.mpr c31
                  have c31b1 : (((rd_T36 l0 x6_1).f0) != 1) = false := bne_eq_false_iff_eq.mpr c31
                  clear c31
                  by_cases c32 : x4_3.size + ((rd_T36 l0 x6_1).f3).size ≤ 9223372036854775807
                  · rw [if_pos c32] at H
                    have c32b0 := eq_true c32
                    have c32b1 : decide (x4_3.size + ((rd_T36 l0 x6_1).f3).size ≤ 9223372036854775807) = true := decide_eq_true c32
                    try have c32b2 : (9223372036854775807 < x4_3.size + ((rd_T36 l0 x6_1).f3).size) = False := eq_false (Nat.not_lt.2 c32)
                    have H' := Aside0.mk H
                    clear H
                    have hcz33_0 : wc.cell? ⟨gb133, 0, none⟩ = some (.int .i64 ((rd_T36 l0 x6_1).f0)) := (blk_cell BK133.out 0).trans rfl
                    have hcz33_1 : wc.cell? ⟨gb133, 1, none⟩ = some (.int .i64 ((rd_T36 l0 x6_1).f1)) := (blk_cell BK133.out 1).trans rfl
                    have hcz33_2 : wc.cell? ⟨gb133, 2, none⟩ = some (.int .i64 ((rd_T36 l0 x6_1).f2)) := (blk_cell BK133.out 2).trans rfl
                    have hcz33_3 : wc.cell? ⟨gb133, 3, none⟩ = some (.string ((rd_T36 l0 x6_1).f3)) := (blk_cell BK133.out 3).trans rfl
                    have hfz33_0 := blk_frozen BK133.out 0
                    have hfz33_1 := blk_frozen BK133.out 1
                    have hfz33_2 := blk_frozen BK133.out 2
                    have hfz33_3 := blk_frozen BK133.out 3
                    go_wp2
                    repeat (go_quiet (fail); try go_wp2)
                    go_roundg kj3
                    case measure => have := HK1.out; have := HJ3.out; omega
                    case rel => exact ⟨(x4_3 ++ ((rd_T36 l0 x6_1).f3)), (false), (wrap64 (x6_1 + 1)), (by first | rfl | (simp; done) | (simp [*]; done)), (by first | rfl | (simp; done) | (simp [*]; done)), (by first | rfl | (simp; done) | (simp [*]; done)), H', ⟨by have := HK1.out; have := HJ3.out; omega⟩, ⟨by repeat (first | (with_reducible first | exact HB.out | apply below_alloc | apply pw_below_drewN | apply below_drew1 | refine below_set ?_ GE133.out) | exact HB.out)⟩⟩
                  · rw [if_neg c32] at H
                    exact absurd H (by simp)
                · rw [if_neg c31] at H
                  have c31b0 : (((rd_T36 l0 x6_1).f0) == 1) = false := beq_eq_false_iff_ne.mpr c31
                  have c31b1 : (((rd_T36 l0 x6_1).f0) != 1) = true := bne_iff_ne.mpr c31
                  replace H := Option.bind_eq_some_iff.mp H
                  obtain ⟨t137, A340, H⟩ := H
                  replace H : (if x4_3.size + t137.size ≤ 9223372036854775807 then (warrantorref23_Show.l0 kj3 l0 (x4_3 ++ t137) false (wrap64 (x6_1 + 1))) else (none)) = some (r1, r2) := H
                  have A34 := Aside0.mk A340
                  clear A340
                  by_cases c35 : x4_3.size + t137.size ≤ 9223372036854775807
                  · rw [if_pos c35] at H
                    have c35b0 := eq_true c35
                    have c35b1 : decide (x4_3.size + t137.size ≤ 9223372036854775807) = true := decide_eq_true c35
                    try have c35b2 : (9223372036854775807 < x4_3.size + t137.size) = False := eq_false (Nat.not_lt.2 c35)
                    have H' := Aside0.mk H
                    clear H
                    have hcz36_0 : wc.cell? ⟨gb133, 0, none⟩ = some (.int .i64 ((rd_T36 l0 x6_1).f0)) := (blk_cell BK133.out 0).trans rfl
                    have hcz36_1 : wc.cell? ⟨gb133, 1, none⟩ = some (.int .i64 ((rd_T36 l0 x6_1).f1)) := (blk_cell BK133.out 1).trans rfl
                    have hcz36_2 : wc.cell? ⟨gb133, 2, none⟩ = some (.int .i64 ((rd_T36 l0 x6_1).f2)) := (blk_cell BK133.out 2).trans rfl
                    have hcz36_3 : wc.cell? ⟨gb133, 3, none⟩ = some (.string ((rd_T36 l0 x6_1).f3)) := (blk_cell BK133.out 3).trans rfl
                    have hfz36_0 := blk_frozen BK133.out 0
                    have hfz36_1 := blk_frozen BK133.out 1
                    have hfz36_2 := blk_frozen BK133.out 2
                    have hfz36_3 := blk_frozen BK133.out 3
                    go_wp2_with (first | (go_at_call 16; (with_reducible refine (warrantorref23_Quote.calls kj3 ((rd_T36 l0 x6_1).f3) t137 _ A34.out).mono ?_); rintro e w' ⟨rfl, ⟨nd, rfl⟩⟩; (try first | exact ⟨rfl, _, World.drewN_drewN _ _ _⟩ | exact ⟨rfl, _, Eq.trans (World.drewN_drewN _ _ _) (congrArg (World.drewN _) (Nat.add_assoc _ _ _))⟩)))
                    repeat (go_quiet (first | (go_at_call 16; (with_reducible refine (warrantorref23_Quote.calls kj3 ((rd_T36 l0 x6_1).f3) t137 _ A34.out).mono ?_); rintro e w' ⟨rfl, ⟨nd, rfl⟩⟩; (try first | exact ⟨rfl, _, World.drewN_drewN _ _ _⟩ | exact ⟨rfl, _, Eq.trans (World.drewN_drewN _ _ _) (congrArg (World.drewN _) (Nat.add_assoc _ _ _))⟩))); try go_wp2_with (first | (go_at_call 16; (with_reducible refine (warrantorref23_Quote.calls kj3 ((rd_T36 l0 x6_1).f3) t137 _ A34.out).mono ?_); rintro e w' ⟨rfl, ⟨nd, rfl⟩⟩; (try first | exact ⟨rfl, _, World.drewN_drewN _ _ _⟩ | exact ⟨rfl, _, Eq.trans (World.drewN_drewN _ _ _) (congrArg (World.drewN _) (Nat.add_assoc _ _ _))⟩))))
                    go_roundg kj3
                    case measure => have := HK1.out; have := HJ3.out; omega
                    case rel => exact ⟨(x4_3 ++ t137), (false), (wrap64 (x6_1 + 1)), (by first | rfl | (simp; done) | (simp [*]; done)), (by first | rfl | (simp; done) | (simp [*]; done)), (by first | rfl | (simp; done) | (simp [*]; done)), H', ⟨by have := HK1.out; have := HJ3.out; omega⟩, ⟨by repeat (first | (with_reducible first | exact HB.out | apply below_alloc | apply pw_below_drewN | apply below_drew1 | refine below_set ?_ GE133.out) | exact HB.out)⟩⟩
                  · rw [if_neg c35] at H
                    exact absurd H (by simp)
              · replace c30 := Bool.eq_false_iff.mpr c30
                subst c30
                have H1 : (if x4_3.size + 1 ≤ 9223372036854775807 then (if ((rd_T36 l0 x6_1).f0) = 1 then (if (x4_3 ++ (⟨#[32]⟩ : ByteArray)).size + ((rd_T36 l0 x6_1).f3).size ≤ 9223372036854775807 then (warrantorref23_Show.l0 kj3 l0 ((x4_3 ++ (⟨#[32]⟩ : ByteArray)) ++ ((rd_T36 l0 x6_1).f3)) false (wrap64 (x6_1 + 1))) else (none)) else ((warrantorref23_Quote.f kj3 ((rd_T36 l0 x6_1).f3)).bind fun t138 => (if (x4_3 ++ (⟨#[32]⟩ : ByteArray)).size + t138.size ≤ 9223372036854775807 then (warrantorref23_Show.l0 kj3 l0 ((x4_3 ++ (⟨#[32]⟩ : ByteArray)) ++ t138) false (wrap64 (x6_1 + 1))) else (none)))) else (none)) = some (r1, r2) := by rw [if_neg (show ¬ (false = true) by decide)] at H; exact H
                clear H
                have H := H1
                clear H1
                by_cases c37 : x4_3.size + 1 ≤ 9223372036854775807
                · rw [if_pos c37] at H
                  have c37b0 := eq_true c37
                  have c37b1 : decide (x4_3.size + 1 ≤ 9223372036854775807) = true := decide_eq_true c37
                  try have c37b2 : (9223372036854775807 < x4_3.size + 1) = False := eq_false (Nat.not_lt.2 c37)
                  by_cases c38 : ((rd_T36 l0 x6_1).f0) = 1
                  · rw [if_pos c38] at H
                    have c38b0 : (((rd_T36 l0 x6_1).f0) == 1) = true := beq_iff_eq.mpr c38
                    have c38b1 : (((rd_T36 l0 x6_1).f0) != 1) = false := bne_eq_false_iff_eq.mpr c38
                    clear c38
                    by_cases c39 : (x4_3 ++ (⟨#[32]⟩ : ByteArray)).size + ((rd_T36 l0 x6_1).f3).size ≤ 9223372036854775807
                    · rw [if_pos c39] at H
                      have c39b0 := eq_true c39
                      have c39b1 : decide ((x4_3 ++ (⟨#[32]⟩ : ByteArray)).size + ((rd_T36 l0 x6_1).f3).size ≤ 9223372036854775807) = true := decide_eq_true c39
                      try have c39b2 : (9223372036854775807 < (x4_3 ++ (⟨#[32]⟩ : ByteArray)).size + ((rd_T36 l0 x6_1).f3).size) = False := eq_false (Nat.not_lt.2 c39)
                      have H' := Aside0.mk H
                      clear H
                      have hcz40_0 : wc.cell? ⟨gb133, 0, none⟩ = some (.int .i64 ((rd_T36 l0 x6_1).f0)) := (blk_cell BK133.out 0).trans rfl
                      have hcz40_1 : wc.cell? ⟨gb133, 1, none⟩ = some (.int .i64 ((rd_T36 l0 x6_1).f1)) := (blk_cell BK133.out 1).trans rfl
                      have hcz40_2 : wc.cell? ⟨gb133, 2, none⟩ = some (.int .i64 ((rd_T36 l0 x6_1).f2)) := (blk_cell BK133.out 2).trans rfl
                      have hcz40_3 : wc.cell? ⟨gb133, 3, none⟩ = some (.string ((rd_T36 l0 x6_1).f3)) := (blk_cell BK133.out 3).trans rfl
                      have hfz40_0 := blk_frozen BK133.out 0
                      have hfz40_1 := blk_frozen BK133.out 1
                      have hfz40_2 := blk_frozen BK133.out 2
                      have hfz40_3 := blk_frozen BK133.out 3
                      go_wp2
                      repeat (go_quiet (fail); try go_wp2)
                      go_roundg kj3
                      case measure => have := HK1.out; have := HJ3.out; omega
                      case rel => exact ⟨((x4_3 ++ (⟨#[32]⟩ : ByteArray)) ++ ((rd_T36 l0 x6_1).f3)), (false), (wrap64 (x6_1 + 1)), (by first | rfl | (simp; done) | (simp [*]; done)), (by first | rfl | (simp; done) | (simp [*]; done)), (by first | rfl | (simp; done) | (simp [*]; done)), H', ⟨by have := HK1.out; have := HJ3.out; omega⟩, ⟨by repeat (first | (with_reducible first | exact HB.out | apply below_alloc | apply pw_below_drewN | apply below_drew1 | refine below_set ?_ GE133.out) | exact HB.out)⟩⟩
                    · rw [if_neg c39] at H
                      exact absurd H (by simp)
                  · rw [if_neg c38] at H
                    have c38b0 : (((rd_T36 l0 x6_1).f0) == 1) = false := beq_eq_false_iff_ne.mpr c38
                    have c38b1 : (((rd_T36 l0 x6_1).f0) != 1) = true := bne_iff_ne.mpr c38
                    replace H := Option.bind_eq_some_iff.mp H
                    obtain ⟨t138, A410, H⟩ := H
                    replace H : (if (x4_3 ++ (⟨#[32]⟩ : ByteArray)).size + t138.size ≤ 9223372036854775807 then (warrantorref23_Show.l0 kj3 l0 ((x4_3 ++ (⟨#[32]⟩ : ByteArray)) ++ t138) false (wrap64 (x6_1 + 1))) else (none)) = some (r1, r2) := H
                    have A41 := Aside0.mk A410
                    clear A410
                    by_cases c42 : (x4_3 ++ (⟨#[32]⟩ : ByteArray)).size + t138.size ≤ 9223372036854775807
                    · rw [if_pos c42] at H
                      have c42b0 := eq_true c42
                      have c42b1 : decide ((x4_3 ++ (⟨#[32]⟩ : ByteArray)).size + t138.size ≤ 9223372036854775807) = true := decide_eq_true c42
                      try have c42b2 : (9223372036854775807 < (x4_3 ++ (⟨#[32]⟩ : ByteArray)).size + t138.size) = False := eq_false (Nat.not_lt.2 c42)
                      have H' := Aside0.mk H
                      clear H
                      have hcz43_0 : wc.cell? ⟨gb133, 0, none⟩ = some (.int .i64 ((rd_T36 l0 x6_1).f0)) := (blk_cell BK133.out 0).trans rfl
                      have hcz43_1 : wc.cell? ⟨gb133, 1, none⟩ = some (.int .i64 ((rd_T36 l0 x6_1).f1)) := (blk_cell BK133.out 1).trans rfl
                      have hcz43_2 : wc.cell? ⟨gb133, 2, none⟩ = some (.int .i64 ((rd_T36 l0 x6_1).f2)) := (blk_cell BK133.out 2).trans rfl
                      have hcz43_3 : wc.cell? ⟨gb133, 3, none⟩ = some (.string ((rd_T36 l0 x6_1).f3)) := (blk_cell BK133.out 3).trans rfl
                      have hfz43_0 := blk_frozen BK133.out 0
                      have hfz43_1 := blk_frozen BK133.out 1
                      have hfz43_2 := blk_frozen BK133.out 2
                      have hfz43_3 := blk_frozen BK133.out 3
                      go_wp2_with (first | (go_at_call 16; (with_reducible refine (warrantorref23_Quote.calls kj3 ((rd_T36 l0 x6_1).f3) t138 _ A41.out).mono ?_); rintro e w' ⟨rfl, ⟨nd, rfl⟩⟩; (try first | exact ⟨rfl, _, World.drewN_drewN _ _ _⟩ | exact ⟨rfl, _, Eq.trans (World.drewN_drewN _ _ _) (congrArg (World.drewN _) (Nat.add_assoc _ _ _))⟩)))
                      repeat (go_quiet (first | (go_at_call 16; (with_reducible refine (warrantorref23_Quote.calls kj3 ((rd_T36 l0 x6_1).f3) t138 _ A41.out).mono ?_); rintro e w' ⟨rfl, ⟨nd, rfl⟩⟩; (try first | exact ⟨rfl, _, World.drewN_drewN _ _ _⟩ | exact ⟨rfl, _, Eq.trans (World.drewN_drewN _ _ _) (congrArg (World.drewN _) (Nat.add_assoc _ _ _))⟩))); try go_wp2_with (first | (go_at_call 16; (with_reducible refine (warrantorref23_Quote.calls kj3 ((rd_T36 l0 x6_1).f3) t138 _ A41.out).mono ?_); rintro e w' ⟨rfl, ⟨nd, rfl⟩⟩; (try first | exact ⟨rfl, _, World.drewN_drewN _ _ _⟩ | exact ⟨rfl, _, Eq.trans (World.drewN_drewN _ _ _) (congrArg (World.drewN _) (Nat.add_assoc _ _ _))⟩))))
                      go_roundg kj3
                      case measure => have := HK1.out; have := HJ3.out; omega
                      case rel => exact ⟨((x4_3 ++ (⟨#[32]⟩ : ByteArray)) ++ t138), (false), (wrap64 (x6_1 + 1)), (by first | rfl | (simp; done) | (simp [*]; done)), (by first | rfl | (simp; done) | (simp [*]; done)), (by first | rfl | (simp; done) | (simp [*]; done)), H', ⟨by have := HK1.out; have := HJ3.out; omega⟩, ⟨by repeat (first | (with_reducible first | exact HB.out | apply below_alloc | apply pw_below_drewN | apply below_drew1 | refine below_set ?_ GE133.out) | exact HB.out)⟩⟩
                    · rw [if_neg c42] at H
                      exact absurd H (by simp)
                · rw [if_neg c37] at H
                  exact absurd H (by simp)
        · rw [if_neg c3] at H
          exact absurd H (by simp)
      · rw [if_neg c2] at H
        have c2b0 : decide (x6_1 < (l0.length : Int)) = false := decide_eq_false c2
        clear c2
        simp only [Option.some.injEq, Prod.mk.injEq] at H
        obtain ⟨rfl, rfl⟩ := H
        go_wp2
        repeat (go_quiet (fail); try go_wp2)
        go_ret2
        exact ⟨by first | rfl | (simp [errW_none, errW_some] <;> rfl) | (simp [*, errW_none, errW_some] <;> rfl), by repeat (first | (with_reducible first | exact HB.out | apply below_alloc | apply pw_below_drewN | apply below_drew1) | exact HB.out)⟩

end Go.Proofs.Ytdgholodogcemaa.PAll
