/- ServerBye: its runs. -/
import Derived.Test.YtpaglaakleajmaaGreatDoorL1
set_option maxRecDepth 100000
set_option linter.unusedVariables false
set_option linter.unusedSimpArgs false
namespace Go.Cx
open Go.Proofs
theorem bye1 : lawT extJ 4 [(1, minI, -1)] [] [] [lockS (.int .i64 3 0)] = true := by decide +kernel
theorem bye2 : lawT extJ 4 [(1, 0, maxI)] [(2, 1, 0)] [] [lockS (.int .i64 3 0)] = true := by decide +kernel
theorem bye3 : lawT extJ 4 [(1, 0, maxI), (2, 4097, maxI)] [(1, 2, -1)] [] [lockS (.int .i64 3 0)] = true := by decide +kernel
theorem bye4 : lawT extJ 4 [(1, 0, 4095), (2, 1, 4096), (3, minI, 1)] [(1, 2, -1)] [] [lockS (.int .i64 3 0)] = true := by decide +kernel
theorem bye5 : lawT extJ 4 [(1, 0, 4095), (2, 1, 4096), (3, 3, maxI)] [(1, 2, -1)] [] [lockS (.int .i64 3 0)] = true := by decide +kernel
theorem bye0 : lawT extJ 4 [(1, 0, 4095), (2, 1, 4096)] [(1, 2, -1), (2, 1, 4096)] [] [lockS (.int .i64 0 2)] = true := by decide +kernel
end Go.Cx
