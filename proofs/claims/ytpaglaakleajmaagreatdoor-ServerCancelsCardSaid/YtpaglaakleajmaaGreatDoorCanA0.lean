/- ServerCancels: the main run. -/
import Derived.Test.YtpaglaakleajmaaGreatDoorCanA
set_option maxRecDepth 100000
set_option linter.unusedVariables false
set_option linter.unusedSimpArgs false
namespace Go.Cx
open Go.Proofs
theorem can0 : lawT extJ 5 [(1, 0, 4095), (2, 1, 4096), (4, 2, 1000)] [(1, 2, -1), (2, 1, 4096)] [] [lockS (.int .i64 0 2), .a (.s (.int .i64 4 0))] = true := by decide +kernel
end Go.Cx
