/- ServerKeeps: the whole run. -/
import Derived.Test.YtpaglaakleajmaaGreatDoorKeeL
set_option maxRecDepth 100000
set_option linter.unusedVariables false
set_option linter.unusedSimpArgs false
namespace Go.Cx
open Go.Proofs
theorem kee_r3 : saysTrue (runH keeF extN 11 Tryz.f11 (hk1 0 (loopHook keeI keeO (fun b => b) (sb 9 (0, 0)))) hk0 [lockS (.int .i64 0 2), .a (.s (.int .i64 4 0))] .e 0) = true := by decide +kernel
end Go.Cx
