/- ServerAsks: the inputs that it answers by alive. -/
import Derived.Test.YtpaglaakleajmaaGreatDoorL1
set_option maxRecDepth 100000
set_option linter.unusedVariables false
set_option linter.unusedSimpArgs false
namespace Go.Cx
open Go.Proofs
theorem askA1 : lawT extJ 6 [(1, minI, -1)] [] [] [lockS (.int .i64 3 0), .a (.s (.int .i64 4 0))] = true := by decide +kernel
theorem askA2 : lawT extJ 6 [(1, 0, maxI)] [(2, 1, 0)] [] [lockS (.int .i64 3 0), .a (.s (.int .i64 4 0))] = true := by decide +kernel
theorem askA3 : lawT extJ 6 [(1, 0, maxI), (2, 4097, maxI)] [(1, 2, -1)] [] [lockS (.int .i64 3 0), .a (.s (.int .i64 4 0))] = true := by decide +kernel
theorem askA4 : lawT extJ 6 [(1, 0, 4095), (2, 1, 4096), (3, minI, 0)] [(1, 2, -1)] [] [lockS (.int .i64 3 0), .a (.s (.int .i64 4 0))] = true := by decide +kernel
theorem askA5 : lawT extJ 6 [(1, 0, 4095), (2, 1, 4096), (3, 3, maxI)] [(1, 2, -1)] [] [lockS (.int .i64 3 0), .a (.s (.int .i64 4 0))] = true := by decide +kernel
theorem askA6 : lawT extJ 6 [(1, 0, 4095), (2, 1, 4096), (3, 1, 2), (4, minI, -1)] [(1, 2, -1)] [] [lockS (.int .i64 3 0), .a (.s (.int .i64 4 0))] = true := by decide +kernel
theorem askA7 : lawT extJ 6 [(1, 0, 4095), (2, 1, 4096), (3, 1, 2), (4, 41, maxI)] [(1, 2, -1)] [] [lockS (.int .i64 3 0), .a (.s (.int .i64 4 0))] = true := by decide +kernel
end Go.Cx
