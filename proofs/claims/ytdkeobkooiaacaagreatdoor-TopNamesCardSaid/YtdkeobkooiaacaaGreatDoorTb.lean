/- The function that lays the listed variables, run: they hold what the row lists (no condition). -/
import Derived.Test.YtdkeobkooiaacaaGreatDoorRows
import Derived.LaidByTextLater
import Derived.SevenTiedAt
import Derived.LaidSub
import Derived.LaidOnce
import Derived.KernelRfl
namespace Go.Proofs.YtdkeobkooiaacaaGreatDoor
open Go
set_option maxRecDepth 1000000 in
theorem t7 : ∀ os tape, doorLeaves Tryz.prog 62 8 65 Rows.topNamesRow.laid os tape = some (Rows.topNamesRow.laid.filter fun x => x.2.handleName?.isNone, (funcsListed Rows.topNamesRow.laid).map (·.2.funcsOut)) := fun _ _ => by kernel_rfl
end Go.Proofs.YtdkeobkooiaacaaGreatDoor
