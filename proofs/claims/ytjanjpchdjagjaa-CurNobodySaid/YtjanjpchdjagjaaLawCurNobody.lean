/- Nobody's pen and nobody's readers lose what is handed to them and hold nothing; the law returns true for every input; no condition. -/
import Derived.Test.YtjanjpchdjagjaaRows
import Derived.Test.YtjanjpchdjagjaaOpens
import Derived.Test.YtjanjpchdjagjaaNobody
import Derived.WalkKit
import Derived.ProofKit
import Derived.OpenShut
import Derived.ShutString
import Derived.ChangeOld
import Derived.Below
import Derived.SizedLaws
namespace Go.Proofs.Ytjanjpchdjagjaa.curNobody
open Go.ChangeShapes Go.WideShapes Go.ChangeAt Go.RowKit Go.Proofs.YtjanjpchdjagjaaW.PrintWords
open Go.ChangeMaps (open_string shut_string)
set_option linter.unusedVariables false
theorem own : ownKnob Try.prog.godebug = none := by kernel_rfl
theorem laidOut : laidOutB Try.prog = true := by kernel_rfl
set_option maxRecDepth 100000 in
theorem lifted (os : Os) (started : os.Started) (H : Type) (enc : TypeId × Value → H) :
    ReturnsInHanded {} Try.checked os 5 .any (Rows.curNobodySpec.pre6 enc Try.prog Try.f5 Rows.curNobodyRow.domain false) (Rows.curNobodySpec.post enc Try.prog Try.f5 false true false false) := by
  refine returnsInHanded_of_change_sized (C := Try.checked) own started (by kernel_rfl) Try.func5
    (ChangeSpec.witness6 (enc := enc) (C := Try.checked) false ⟨#[], #[.agg #[.int .i64 0, .int .i64 0, .string ByteArray.empty]], []⟩ 8 (by kernel_rfl) (by kernel_rfl) (by kernel_rfl) (by kernel_rfl)) ?_
  intro W base args ds gs before hval0 hW hcnd hsz0 _
  have hsz : (DataW.weightsEach Try.prog (Try.f5.params.toList ++ Rows.curNobodySpec.plain.varTypes Try.prog) (ds ++ gs)).all (· ≤ reachBytes) = true := hsz0
  have hval : ∀ (j : Nat) t v, Try.f5.params[j]? = some t → args[j]? = some v → Value.okWide Try.prog W .any base t v := hval0
  have hW' := hW
  obtain ⟨p, q, hA0, hV, rfl, hfz, hnd⟩ := hW
  have hA : DataW.TrodAll enc Try.prog W 0 (fun _ => true) true Try.f5.params.toList args.toList ds p := hA0
  rw [Try.params5] at hA hval hsz
  obtain ⟨v0, vs0, d0, ds0, p0, q0, hargs, rfl, rfl, h0, r0⟩ := trodAll_cons hA
  obtain ⟨rfl, rfl, rfl⟩ := trodAll_nil r0
  obtain rfl : args = #[v0] := by cases args; simp_all
  obtain ⟨rfl, rfl⟩ := trodVars_none hV
  obtain ⟨c0, rfl, z0⟩ := okWide_struct Try.underlying28 (hval 0 28 v0 rfl rfl)
  have k0 := h0
  have lt0 : ∀ x ∈ p0, x.block < W.heap.size := by obtain ⟨m, hm⟩ := k0; exact DataW.trod_lt m _ _ _ hm
  obtain ⟨f0, hf0⟩ := h0
  obtain ⟨⟨a0, b0, e0⟩, hk0, g0⟩ := (Opens.opens_struct3 (fun x : Int × Int × ByteArray => x) (fun a b c => (a, b, c)) (fun _ _ _ => rfl) Try.underlying28 (by kernel_rfl) (by kernel_rfl) (Opens.opens_int Try.underlying3) (Opens.opens_int Try.underlying3) (Opens.opens_string Try.underlying9)) hf0 (fun n hn => by simpa using List.all_eq_true.1 hsz n (DataW.weights_mem_each (j := 0) (t := 28) rfl rfl n hn))
  obtain ⟨_, _, he0, hu0, _, _, hx0, hy0, hz0⟩ := hk0
  rw [hx0, show _ = _ from hy0, show _ = _ from hz0] at he0
  rw [show _ = _ from hu0] at he0
  obtain rfl : c0 = #[.int .i64 a0, .int .i64 b0, .string e0] := by
    have : c0.toList = [.int .i64 a0, .int .i64 b0, .string e0] := by simpa [Value.cells] using he0
    exact Array.toList_inj.1 this
  clear hA0 hval0 hsz0 hsz
  refine (Rd.nobody_calls a0 b0 (Opens.i64_of g0.2.1) e0 g0.2.2 _).mono fun e W' ⟨he, bel⟩ => ?_
  subst he
  exact ⟨_, rfl, _, _, _, [], _, [], hW', trodAll_mk1 (shut_bool Try.underlying4 _), (trodAll_cons_mk (Below.trod laidOut (by kernel_rfl) (of_decide_eq_true (by kernel_rfl)) k0 bel lt0) trodAll_mk0), rfl, bel.frame _, fun h => by cases h⟩
theorem over : Rows.curNobodyRow.holds Try.pinned (OpenSpec.ofChange Rows.curNobodySpec) :=
  OpenClaim.holds_of_wide 5 Try.f5 rfl rfl rfl rfl rfl rfl rfl ⟨rfl, rfl, rfl, rfl, rfl⟩ rfl rfl rfl rfl rfl (by kernel_rfl) Try.func5 (by kernel_rfl)
    (of_decide_eq_true (by kernel_rfl)) (by unfold Func.isWrapper; first | (rw [if_pos (by decide +kernel)]; kernel_rfl) | (rw [if_neg (by decide +kernel)]; exact ⟨rfl, rfl⟩))
    (fun os started H enc _ => lifted os started H enc)
theorem proved : Rows.CurNobodySaid := over
#print axioms proved
end Go.Proofs.Ytjanjpchdjagjaa.curNobody
namespace Go.Proofs.Ytjanjpchdjagjaa
/-- The row, under a short name, for the claim. -/
theorem curNobody_holds : Rows.CurNobodySaid := curNobody.proved
end Go.Proofs.Ytjanjpchdjagjaa
