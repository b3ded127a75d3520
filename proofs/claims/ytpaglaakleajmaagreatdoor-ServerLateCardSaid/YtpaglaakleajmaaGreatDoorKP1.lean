/- Closed facts of the program. -/
import Derived.Test.YtpaglaakleajmaaGreatDoorK1
set_option maxRecDepth 100000
set_option linter.unusedVariables false
set_option linter.unusedSimpArgs false
namespace Go.Proofs.YtpaglaakleajmaaGreatDoor
open Go.ChangeShapes Go.WideShapes Go.ChangeAt Go.RowKit Go.Lib
theorem k1 : (fun (P : Program) (f : FuncId) (fn : Func) (s : ChangeSpec) (c : OpenClaim) => (laidOutB P : Bool)) Tryz.pinned.checked.prog 4 Tryz.f4 (OpenSpec.ofChange Rows.serverByeSpec).bare Rows.serverByeRow = true := by kernel_rfl
theorem k2 : (fun (P : Program) (f : FuncId) (fn : Func) (s : ChangeSpec) (c : OpenClaim) => (mapsRowed P : Bool)) Tryz.pinned.checked.prog 4 Tryz.f4 (OpenSpec.ofChange Rows.serverByeSpec).bare Rows.serverByeRow = true := by kernel_rfl
theorem k24 : (fun (P : Program) (f : FuncId) (fn : Func) (s : ChangeSpec) (c : OpenClaim) => (P.stopsHeard : Bool)) Tryz.pinned.checked.prog 4 Tryz.f4 (OpenSpec.ofChange Rows.serverByeSpec).bare Rows.serverByeRow = true := by kernel_rfl
end Go.Proofs.YtpaglaakleajmaaGreatDoor
