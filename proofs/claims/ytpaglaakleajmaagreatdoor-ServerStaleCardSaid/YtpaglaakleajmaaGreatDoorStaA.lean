/- ServerStale: runs that end with alive. -/
import Derived.Test.YtpaglaakleajmaaGreatDoorV4
set_option maxRecDepth 100000
set_option linter.unusedVariables false
set_option linter.unusedSimpArgs false
namespace Go.Cx
open Go.Proofs
theorem sta_k1 : staJ (.int .i64 0 1) (.int .i64 4 0) (.int .u64 6 0) [] = true := by decide +kernel
theorem sta_e3a : staJ (.int .i64 1 0) (.int .i64 0 1) (.int .u64 0 3) [(1, minI, 0)] = true := by decide +kernel
theorem sta_e3b : staJ (.int .i64 1 0) (.int .i64 0 1) (.int .u64 0 3) [(1, 2, maxI)] = true := by decide +kernel
theorem sta_r13a : staJ (.int .i64 0 13) (.int .i64 0 1) (.int .u64 6 0) [(6, 0, 2)] = true := by decide +kernel
theorem sta_r13b : staJ (.int .i64 0 13) (.int .i64 0 1) (.int .u64 6 0) [(6, 4, 18446744073709551615)] = true := by decide +kernel
end Go.Cx
