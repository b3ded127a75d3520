/- ServerNone: its runs. -/
import Derived.Test.YtpaglaakleajmaaGreatDoorM1
set_option maxRecDepth 100000
set_option linter.unusedVariables false
set_option linter.unusedSimpArgs false
namespace Go.Cx
open Go.Proofs
theorem non1 : lawT extJ 10 [(8, 21, maxI)] [] [(1, 8)] [msgS (.int .i64 1 0) (.int .i64 4 0) (.int .u64 6 0), .a (.s (.int .i64 9 0))] = true := by decide +kernel
theorem non2 : lawT extJ 10 [(8, 0, 20), (9, minI, 0)] [] [(1, 8)] [msgS (.int .i64 1 0) (.int .i64 4 0) (.int .u64 6 0), .a (.s (.int .i64 9 0))] = true := by decide +kernel
theorem non3 : lawT extJ 10 [(8, 0, 20), (9, 1, maxI)] [] [(1, 8)] [msgS (.int .i64 1 0) (.int .i64 4 0) (.int .u64 6 0), .a (.s (.int .i64 9 0))] = true := by decide +kernel
end Go.Cx
