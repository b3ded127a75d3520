/- ServerCancels: its runs. -/
import Derived.Test.YtpaglaakleajmaaGreatDoorL1
set_option maxRecDepth 100000
set_option linter.unusedVariables false
set_option linter.unusedSimpArgs false
namespace Go.Cx
open Go.Proofs
theorem can1 : lawT extJ 5 [(1, minI, -1)] [] [] [lockS (.int .i64 3 0), .a (.s (.int .i64 4 0))] = true := by decide +kernel
theorem can2 : lawT extJ 5 [(1, 0, maxI)] [(2, 1, 0)] [] [lockS (.int .i64 3 0), .a (.s (.int .i64 4 0))] = true := by decide +kernel
theorem can3 : lawT extJ 5 [(1, 0, maxI), (2, 4097, maxI)] [(1, 2, -1)] [] [lockS (.int .i64 3 0), .a (.s (.int .i64 4 0))] = true := by decide +kernel
theorem can4 : lawT extJ 5 [(1, 0, 4095), (2, 1, 4096), (3, minI, 1)] [(1, 2, -1)] [] [lockS (.int .i64 3 0), .a (.s (.int .i64 4 0))] = true := by decide +kernel
theorem can5 : lawT extJ 5 [(1, 0, 4095), (2, 1, 4096), (3, 3, maxI)] [(1, 2, -1)] [] [lockS (.int .i64 3 0), .a (.s (.int .i64 4 0))] = true := by decide +kernel
theorem can6 : lawT extJ 5 [(1, 0, 4095), (2, 1, 4096), (4, minI, 1)] [(1, 2, -1)] [] [lockS (.int .i64 0 2), .a (.s (.int .i64 4 0))] = true := by decide +kernel
theorem can7 : lawT extJ 5 [(1, 0, 4095), (2, 1, 4096), (4, 1001, maxI)] [(1, 2, -1)] [] [lockS (.int .i64 0 2), .a (.s (.int .i64 4 0))] = true := by decide +kernel
end Go.Cx
