/- What the card asks of the words of the program's head and of the function that lays the listed variables (no condition). -/
import Derived.Test.YtdkeobkooiaacaaGreatDoorRows
import Derived.LaidByTextLater
import Derived.SevenTiedAt
import Derived.LaidSub
import Derived.LaidOnce
import Derived.KernelRfl
namespace Go.Proofs.YtdkeobkooiaacaaGreatDoor
open Go
set_option maxRecDepth 1000000 in
theorem t1 : Tryz.prog.worded (varsWordLater true) = true := by kernel_rfl
set_option maxRecDepth 1000000 in
theorem t2 : Tryz.prog.worded (varsWordLater !true) = false := by kernel_rfl
set_option maxRecDepth 1000000 in
theorem t3 : Tryz.prog.worded rootWordLater = true := by kernel_rfl
set_option maxRecDepth 1000000 in
theorem t4 : Rows.topNamesRow.laid.map (fun x => Tryz.prog.kindOfLater x.1) = [LaidKind.data, .data, .data, .sentinel, .sentinel].map some := by kernel_rfl
set_option maxRecDepth 1000000 in
theorem t5 : Tryz.prog.funcNamed "gosem.cut.vars" = some 868 := by kernel_rfl
set_option maxRecDepth 1000000 in
theorem t6 : varsNamedLaterB Tryz.prog 868 Rows.topNamesRow.laid = true := by kernel_rfl
end Go.Proofs.YtdkeobkooiaacaaGreatDoor
