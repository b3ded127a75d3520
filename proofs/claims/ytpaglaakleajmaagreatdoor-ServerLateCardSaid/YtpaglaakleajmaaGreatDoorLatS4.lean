/- A closed fact of the card. -/
import Derived.Test.YtpaglaakleajmaaGreatDoorK1
set_option maxRecDepth 100000
set_option linter.unusedVariables false
set_option linter.unusedSimpArgs false
namespace Go.Proofs.YtpaglaakleajmaaGreatDoor
open Go.ChangeShapes Go.WideShapes Go.ChangeAt Go.RowKit Go.Lib
theorem aLatgoes : false = Rows.serverLateRow.goesBy Tryz.pinned.checked.prog := by kernel_rfl
end Go.Proofs.YtpaglaakleajmaaGreatDoor
