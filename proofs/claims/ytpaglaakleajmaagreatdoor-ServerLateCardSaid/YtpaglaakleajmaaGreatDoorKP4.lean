/- Closed facts of the program: its entry, its looks. -/
import Derived.Test.YtpaglaakleajmaaGreatDoorK1
set_option maxRecDepth 100000
set_option linter.unusedVariables false
set_option linter.unusedSimpArgs false
namespace Go.Proofs.YtpaglaakleajmaaGreatDoor
open Go.ChangeShapes Go.WideShapes Go.ChangeAt Go.RowKit Go.Lib
theorem kLooks : false = Tryz.pinned.checked.prog.looks [] := by kernel_rfl
theorem kMain : Tryz.pinned.checked.prog.mainIs = some (Rows.serverByeCard.stood.harness.1, Rows.serverByeCard.stood.harness.2.toList) := by kernel_rfl
end Go.Proofs.YtpaglaakleajmaaGreatDoor
