/- ServerCounts: its runs. -/
import Derived.Test.YtpaglaakleajmaaGreatDoorL1
set_option maxRecDepth 100000
set_option linter.unusedVariables false
set_option linter.unusedSimpArgs false
namespace Go.Cx
open Go.Proofs
theorem cou1 : lawT extJ 8 [(1, minI, -1)] [] [] [lockS (.int .i64 3 0), .a (.s (.int .i64 4 0))] = true := by decide +kernel
theorem cou2 : lawT extJ 8 [(1, 0, maxI)] [(2, 1, 0)] [] [lockS (.int .i64 3 0), .a (.s (.int .i64 4 0))] = true := by decide +kernel
theorem cou3 : lawT extJ 8 [(1, 0, maxI), (2, 4001, maxI)] [(1, 2, -1)] [] [lockS (.int .i64 3 0), .a (.s (.int .i64 4 0))] = true := by decide +kernel
theorem cou4 : lawT extJ 8 [(1, 0, 3999), (2, 1, 4000), (3, minI, 1)] [(1, 2, -1)] [] [lockS (.int .i64 3 0), .a (.s (.int .i64 4 0))] = true := by decide +kernel
theorem cou5 : lawT extJ 8 [(1, 0, 3999), (2, 1, 4000), (3, 3, maxI)] [(1, 2, -1)] [] [lockS (.int .i64 3 0), .a (.s (.int .i64 4 0))] = true := by decide +kernel
theorem cou6 : lawT extJ 8 [(1, 0, 3999), (2, 1, 4000), (4, minI, -1)] [(1, 2, -1)] [] [lockS (.int .i64 0 2), .a (.s (.int .i64 4 0))] = true := by decide +kernel
theorem cou7 : lawT extJ 8 [(1, 0, 3999), (2, 1, 4000), (4, 6, maxI)] [(1, 2, -1)] [] [lockS (.int .i64 0 2), .a (.s (.int .i64 4 0))] = true := by decide +kernel
end Go.Cx
