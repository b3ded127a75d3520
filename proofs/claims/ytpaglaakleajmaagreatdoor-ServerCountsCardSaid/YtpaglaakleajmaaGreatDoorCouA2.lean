/- ServerCounts: a main run. -/
import Derived.Test.YtpaglaakleajmaaGreatDoorCouA1
set_option maxRecDepth 100000
set_option linter.unusedVariables false
set_option linter.unusedSimpArgs false
namespace Go.Cx
open Go.Proofs
theorem couM2 : lawT extJ 8 [(1, 0, 3999), (2, 1, 4000)] [(1, 2, -1), (2, 1, 4000)] [] [lockS (.int .i64 0 2), .a (.s (.int .i64 0 2))] = true := by decide +kernel
end Go.Cx
