/- ServerAsks: the whole run. -/
import Derived.Test.YtpaglaakleajmaaGreatDoorAsk2L
set_option maxRecDepth 100000
set_option linter.unusedVariables false
set_option linter.unusedSimpArgs false
namespace Go.Cx
open Go.Proofs
theorem ask2_r3 : saysTrue (runH ask2F extN 6 Tryz.f6 (hk1 0 (loopHook ask2I ask2O (fun b => b) (sb 9 (0, 0)))) hk0 [lockS (.int .i64 0 2), .a (.s (.int .i64 4 0))] .e 0) = true := by decide +kernel
end Go.Cx
