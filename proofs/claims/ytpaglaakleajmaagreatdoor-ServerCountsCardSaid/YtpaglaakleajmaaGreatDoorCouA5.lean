/- ServerCounts: a main run. -/
import Derived.Test.YtpaglaakleajmaaGreatDoorCouA4
set_option maxRecDepth 100000
set_option linter.unusedVariables false
set_option linter.unusedSimpArgs false
namespace Go.Cx
open Go.Proofs
theorem couM5 : lawT extJ 8 [(1, 0, 3999), (2, 1, 4000)] [(1, 2, -1), (2, 1, 4000)] [] [lockS (.int .i64 0 2), .a (.s (.int .i64 0 5))] = true := by decide +kernel
end Go.Cx
