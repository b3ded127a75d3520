/- Closed facts of the row. -/
import Derived.Test.YtpaglaakleajmaaGreatDoorK1
set_option maxRecDepth 100000
set_option linter.unusedVariables false
set_option linter.unusedSimpArgs false
namespace Go.Proofs.YtpaglaakleajmaaGreatDoor
open Go.ChangeShapes Go.WideShapes Go.ChangeAt Go.RowKit Go.Lib
theorem aLat9 : (fun (P : Program) (f : FuncId) (fn : Func) (s : ChangeSpec) (c : OpenClaim) => ((c.inPlace == P.inPlace f) : Bool)) Tryz.pinned.checked.prog 9 Tryz.f9 (OpenSpec.ofChange Rows.serverLateSpec).bare Rows.serverLateRow = true := by kernel_rfl
theorem aLat10 : (fun (P : Program) (f : FuncId) (fn : Func) (s : ChangeSpec) (c : OpenClaim) => ((c.unfollowed == P.unfollowed f) : Bool)) Tryz.pinned.checked.prog 9 Tryz.f9 (OpenSpec.ofChange Rows.serverLateSpec).bare Rows.serverLateRow = true := by kernel_rfl
end Go.Proofs.YtpaglaakleajmaaGreatDoor
