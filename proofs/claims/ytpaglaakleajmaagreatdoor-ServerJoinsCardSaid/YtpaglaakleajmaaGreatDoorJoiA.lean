/- ServerJoins: its runs. -/
import Derived.Test.YtpaglaakleajmaaGreatDoorL1
set_option maxRecDepth 100000
set_option linter.unusedVariables false
set_option linter.unusedSimpArgs false
namespace Go.Cx
open Go.Proofs
theorem joi1 : lawT extJ 3 [(1, minI, 0)] [] [] [.a (.s (.int .i64 1 0)), .a (.s (.int .i64 2 0))] = true := by decide +kernel
theorem joi2 : lawT extJ 3 [(1, 4, maxI)] [] [] [.a (.s (.int .i64 1 0)), .a (.s (.int .i64 2 0))] = true := by decide +kernel
theorem joi3 : lawT extJ 3 [(1, 1, 3), (2, minI, 0)] [] [] [.a (.s (.int .i64 1 0)), .a (.s (.int .i64 2 0))] = true := by decide +kernel
theorem joi4 : lawT extJ 3 [(1, 1, 3), (2, 1001, maxI)] [] [] [.a (.s (.int .i64 1 0)), .a (.s (.int .i64 2 0))] = true := by decide +kernel
end Go.Cx
