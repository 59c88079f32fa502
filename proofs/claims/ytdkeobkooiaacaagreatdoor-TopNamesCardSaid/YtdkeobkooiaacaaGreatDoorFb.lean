/- The program's types are laid out as the row asks (no condition). -/
import Derived.Test.YtdkeobkooiaacaaGreatDoorRows
import Derived.JoinedOf
import Derived.JoinedCond
import Derived.KernelRfl
namespace Go.Proofs.YtdkeobkooiaacaaGreatDoor
open Go
set_option linter.unusedVariables false
theorem la : (List.range Tryz.prog.types.size).all (rowFine Tryz.prog) = true := by kernel_rfl
theorem lb : Tryz.prog.globals.all (fun g => decide (g.type < Tryz.prog.types.size)) = true := by kernel_rfl
theorem lc : Tryz.prog.funcs.all (fun f => f.params.all fun t => decide (t < Tryz.prog.types.size)) = true := by kernel_rfl
theorem laidOut_of {P : Program} (h1 : (List.range P.types.size).all (rowFine P) = true) (h2 : P.globals.all (fun g => decide (g.type < P.types.size)) = true) (h3 : P.funcs.all (fun f => f.params.all fun t => decide (t < P.types.size)) = true) : laidOutB P = true := by
  unfold laidOutB
  rw [h1, h2, h3]
  rfl
theorem laidOut3 : laidOutB Tryz.prog = true := laidOut_of la lb lc
set_option maxRecDepth 1000000 in
theorem j2 : (fun (P : Program) (f : FuncId) (fn : Func) (s : ChangeSpec) (c : OpenClaim) => (mapsRowed P : Bool)) Tryz.prog 3 Tryz.f3 (OpenSpec.ofChange Rows.topNamesSpec).bare Rows.topNamesRow = true := by kernel_rfl
end Go.Proofs.YtdkeobkooiaacaaGreatDoor
