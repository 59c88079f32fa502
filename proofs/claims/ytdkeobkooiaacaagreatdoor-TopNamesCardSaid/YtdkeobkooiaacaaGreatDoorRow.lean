/- TopNames gives true, in whatever world a call of it may begin (it has no input); the listed variables of the program hold what its text lays (the card's tie, given); no other condition. -/
import Derived.Test.YtdkeobkooiaacaaGreatDoorRows
import Derived.Test.YtdkeobkooiaacaaGreatDoorCards
import Derived.Test.YtdkeobkooiaacaaGreatDoorTa
import Derived.Test.YtdkeobkooiaacaaGreatDoorTb
import Derived.Test.YtdkeobkooiaacaaGreatDoorPiece12
import Derived.Test.YtdkeobkooiaacaaGreatDoorFd
import Derived.SevenTiedAt
import Derived.LaidByTextLater
import Derived.LaidSub
import Derived.LaidOnce
import Derived.KernelRfl
import Derived.Deep.DeepHandedRow
import Derived.Deep.DeepWitnessRowRef
import Derived.Lib.LaidIn
import Derived.ProofKit
import Derived.SizedLaws
import Derived.ShutString
import Derived.Shelf.Vars
import Derived.OpenShut
import Derived.ChangeOld
namespace Go.Proofs.YtdkeobkooiaacaaGreatDoor
def pow10 : List Int := [1, 10, 100, 1000, 10000, 100000, 1000000, 10000000, 100000000, 1000000000, 10000000000, 100000000000, 1000000000000, 10000000000000, 100000000000000, 1000000000000000, 10000000000000000, 100000000000000000, 1000000000000000000, 10000000000000000000]
def bruijn32 : List Int := [0, 1, 28, 2, 29, 14, 24, 3, 30, 22, 20, 15, 25, 17, 4, 8, 31, 27, 13, 23, 21, 19, 16, 7, 26, 12, 18, 6, 11, 5, 10, 9]
def bruijn64 : List Int := [0, 1, 56, 2, 57, 49, 28, 3, 61, 58, 42, 50, 38, 29, 17, 4, 62, 47, 59, 36, 45, 43, 51, 22, 53, 39, 33, 30, 24, 18, 12, 5, 63, 55, 48, 27, 60, 41, 37, 16, 46, 35, 44, 21, 52, 32, 23, 11, 54, 26, 40, 15, 34, 20, 31, 10, 25, 14, 19, 9, 13, 8, 7, 6]
open Go.ChangeShapes Go.WideShapes Go.ChangeAt Go.RowKit Go.Lib
theorem own : ownKnob Tryz.prog.godebug = none := by kernel_rfl
/-- A world in which the listed variables hold what they are laid to hold. -/
noncomputable def laidWorld (os : Os) : World :=
  let N := (World.settled Tryz.prog os).heap.size
  let w0 := World.holding Tryz.prog os ⟨#[.cells #[.string ⟨#[118, 97, 108, 117, 101, 32, 111, 117, 116, 32, 111, 102, 32, 114, 97, 110, 103, 101]⟩] 811,
    .cells #[.string ⟨#[105, 110, 118, 97, 108, 105, 100, 32, 115, 121, 110, 116, 97, 120]⟩] 811], #[], []⟩
  let put (h : Array Obj) (g : Nat) (cs : Array Value) : Array Obj := h.modify g fun
    | .cells _ t frozen => .cells cs t frozen
    | o => o
  let h1 := put w0.heap 0 (pow10.map fun z => Value.int .u64 z).toArray
  let h2 := put h1 2 (bruijn32.map fun z => Value.int .u8 z).toArray
  let h3 := put h2 3 (bruijn64.map fun z => Value.int .u8 z).toArray
  let h4 := put h3 5 #[.iface 809 (.pointer (some ⟨N, 0, none⟩))]
  let h5 := put h4 4 #[.iface 809 (.pointer (some ⟨N + 1, 0, none⟩))]
  { w0 with heap := h5 }
noncomputable abbrev N0 : Nat := (World.settled Tryz.prog default).heap.size
theorem laid_met (os : Os) (args : Array Value) : laidMet Tryz.prog Rows.topNamesRow.laid ((laidWorld os).forCall (fun _ _ => 0) ⟨#[], args, []⟩).memory :=
  (LaidIn.of_run (P := Tryz.prog) (w := ((laidWorld os).forCall (fun _ _ => 0) ⟨#[], args, []⟩).memory) (l := Rows.topNamesRow.laid) [2, 3, 0, 5, N0, 4, N0 + 1] 8 (by kernel_rfl) (by kernel_rfl) (by kernel_rfl) (by kernel_rfl)).met
theorem witness_row (os : Os) {H : Type} (enc : TypeId × Value → H) :
    (OpenSpec.ofChange Rows.topNamesSpec).preRow enc Tryz.prog Tryz.f3 Rows.topNamesRow.domain false Rows.topNamesRow.laid ((laidWorld os).forCall (fun _ _ => 0) ⟨#[], #[], []⟩).memory #[] := by
  have hw : (DataW.whole enc Tryz.prog ((laidWorld os).forCall (fun _ _ => 0) ⟨#[], #[], []⟩).memory Tryz.f3.params.toList (OpenSpec.ofChange Rows.topNamesSpec).vars false (#[] : Array Value).toList 8).map (fun x => (x.1, x.2.1)) =
      some ([], []) := by kernel_rfl
  obtain ⟨⟨x1, x2, x3⟩, hx, hx1⟩ := Option.map_eq_some_iff.1 hw
  simp only [Prod.mk.injEq] at hx1
  obtain ⟨rfl, rfl⟩ := hx1
  exact OpenSpec.preRow_of_cond 8 hx (by kernel_rfl) (fun k hk => by cases hk) (by kernel_rfl) (laid_met os _)
/-- The call, in whatever world a row may begin. -/
theorem top_calls (W : World) (hsh : W.ShapedOpen Tryz.prog) : Calls Tryz.prog 3 #[] W fun e W' => e = .returned (.bool true) ∧ W'.os = W.os ∧ W'.output = W.output ∧ ∀ B, B < W.heap.size → W'.heap[B]? = W.heap[B]? := by
  obtain ⟨m, hm⟩ := cell_of_shapedOpen_int (P := Tryz.prog) (g := 1) (zero := #[.int .i64 0]) (t := 3) hsh (of_decide_eq_true (by kernel_rfl)) (by kernel_rfl) rfl (by kernel_rfl) (by kernel_rfl) Tryz.underlying3
  have hglo : Ev.GloOk W := by
    unfold World.cell? at hm
    split at hm
    · rename_i c t f hc
      exact ⟨m, t, f, c, hc, by simpa using hm⟩
    · cases hm
  have hw : Ev.WR (fun _ => none) Tab.mtop.h0 W := by
    have h0 : ∀ b, Tab.mtop.h0.get b = none := fun b => by
      show (Ev.Tr.lf : Ev.Heap).get b = none
      simp
    exact ⟨fun b bl l hb => (by rw [h0 b] at hb; cases hb), fun b b' l l' hb => absurd (h0 b) hb, hglo, fun b l hb => absurd (h0 b) hb⟩
  have hup := Tab.ktop.run (fun _ => none) W #[] (fun _ _ => rfl) hw rfl
  rcases hup with ⟨h1, _⟩ | ⟨_, h2⟩
  · rw [show Tryz.prog.funcs[3]? = some Tryz.f3 from Tryz.func3] at h1
    cases h1
  · refine (callsIn_wide.1 h2).mono ?_
    rintro e W' ⟨x, ρ', rfl, d⟩
    have hx : x = .bool true := by have := d.val; simpa [Ev.VR, Tab.mtop] using this
    subst hx
    refine ⟨rfl, d.fr.mute.1, d.fr.mute.2, fun B hB => d.fr.keep B hB ?_⟩
    rintro ⟨b, l, _, hl, _⟩
    cases hl
set_option maxRecDepth 100000 in
theorem lifted (os : Os) (started : os.Started) (H : Type) (enc : TypeId × Value → H) (F : Stop.Interp) :
    ReturnsInHanded {} Tryz.checked os 3 .any ((OpenSpec.ofChange Rows.topNamesSpec).preRow enc Tryz.prog Tryz.f3 Rows.topNamesRow.domain false Rows.topNamesRow.laid) (((OpenSpec.ofChange Rows.topNamesSpec).at F).post enc Tryz.prog Tryz.f3 false true false false) := by
  refine returnsInHanded_of_row (C := Tryz.checked) (s := OpenSpec.ofChange Rows.topNamesSpec) own started (by kernel_rfl) Tryz.func3
    (witness_row_atRef (enc := enc) (C := Tryz.checked) false (laidWorld os) #[] rfl (by kernel_rfl) (by kernel_rfl) (by kernel_rfl) (witness_row os enc)) ?_
  intro W base args ds gs before hval0 hW hcnd0 _ _ hL hsh _
  have hW' := hW
  obtain ⟨p, q, hA0, hV0, rfl, _, _⟩ := hW
  have hA : DataW.TrodAll enc Tryz.prog W 0 (fun _ => true) true Tryz.f3.params.toList args.toList ds p := hA0
  rw [Tryz.params3] at hA
  obtain ⟨hargs, rfl, rfl⟩ := trodAll_nil hA
  obtain rfl : args = #[] := by cases args; simp_all
  obtain ⟨rfl, rfl⟩ := trodVars_none hV0
  refine (top_calls W hsh).mono fun e W' ⟨he, h1, h2, h3⟩ => ?_
  subst he
  refine ⟨_, rfl, _, _, _, [], _, [], hW', trodAll_mk1 (shut_bool Tryz.underlying4 _), trodAll_mk0, rfl, ⟨h1, h2, fun i hi => ?_⟩, fun h => by cases h⟩
  rw [h3 i hi]
  split <;> simp_all
theorem topNames_holds : Rows.TopNamesSaid :=
  OpenClaim.holds_of_cond 3 Tryz.f3 rfl rfl rfl rfl rfl rfl rfl ⟨rfl, rfl, rfl, rfl, rfl⟩ rfl rfl rfl rfl rfl fnamed Tryz.func3 closed3
    (of_decide_eq_true (by kernel_rfl)) (by unfold Func.isWrapper; rw [if_neg (of_decide_eq_false (by kernel_rfl))]; exact ⟨rfl, rfl⟩)
    (fun os started H enc _ F0 => by rw [OpenClaim.pre_eq_preRow]; exact lifted os started H enc F0)

theorem vid : varsId Tryz.prog = 868 := by
  unfold varsId
  rw [t5]
  rfl
theorem t5s : (Tryz.prog.funcNamed "gosem.cut.vars").isSome = true := by
  rw [t5]
  rfl
theorem t6v : varsNamedLaterB Tryz.prog (varsId Tryz.prog) Rows.topNamesRow.laid = true := by
  rw [vid]
  exact t6
theorem myTie : Tryz.prog.laidByTextLater Rows.topNamesRow.laid [.data, .data, .data, .sentinel, .sentinel] true :=
  Program.laidByTextLater_by_one 62 8 65 t1 t2 t3 t4 t5s t6v t7
theorem noOwn : Tryz.pinned.checked.prog.headLifts.contains "ownunsafe" = false := by kernel_rfl
theorem myRowTie : Rows.topNamesRow.laidByTextAt .later Tryz.pinned [.data, .data, .data, .sentinel, .sentinel] true :=
  OpenClaim.laidByTextAt_later rfl rfl myTie noOwn
theorem looks3 : Tryz.prog.looks [] = true := by kernel_rfl
theorem mainIs3 : Tryz.prog.mainIs = some (true, "bdf0352098feacb77f96d258edaca2c693a65054cf61231c319333b164001d12".toList) := by kernel_rfl
theorem wfText3 : Rows.topNamesRow.wfByText (OpenSpec.ofChange Rows.topNamesSpec) = true := by kernel_rfl
/-- The card of the row: what the listed variables hold is tied to the program's text. -/
theorem topNamesCard_holds : Rows.TopNamesCardSaid :=
  Claim7.holds_tied_plain_at .later [] [.data, .data, .data, .sentinel, .sentinel] true (true, "bdf0352098feacb77f96d258edaca2c693a65054cf61231c319333b164001d12") true
    topNames_holds (fun _ h => by cases h) wfText3 (fun _ h => by cases h) myRowTie rfl ⟨rfl, rfl⟩ mainIs3 rfl
    (fun f fn hf hfn => by
      obtain rfl : f = 3 := (Option.some.inj (fnamed.symm.trans hf)).symm
      obtain rfl : fn = Tryz.f3 := (Option.some.inj (Tryz.func3.symm.trans hfn)).symm
      refine ⟨looks3.symm, fun j t ht => ?_⟩
      rw [Tryz.params3] at ht
      simp at ht)
    goesBy3
end Go.Proofs.YtdkeobkooiaacaaGreatDoor
