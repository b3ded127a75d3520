/- ServerStale: messages of another generation. -/
import Derived.Test.YtpaglaakleajmaaGreatDoorV4
set_option maxRecDepth 100000
set_option linter.unusedVariables false
set_option linter.unusedSimpArgs false
namespace Go.Cx
open Go.Proofs
theorem sta_l0 : staV (.int .i64 1 0) (.int .i64 4 0) (.int .u64 6 0) [(4, minI, 0), (1, minI, 0)] = true := by decide +kernel
theorem sta_lF : staV (.int .i64 1 0) (.int .i64 4 0) (.int .u64 6 0) [(4, minI, 0), (1, 2, maxI)] = true := by decide +kernel
theorem sta_lN : staU false (.int .i64 1 0) (.int .i64 4 0) (.int .u64 6 0) [(4, minI, 0), (1, 2, maxI)] = true := by decide +kernel
theorem sta_lU : staU true (.int .i64 1 0) (.int .i64 4 0) (.int .u64 6 0) [(4, minI, 0), (1, 2, maxI)] = true := by decide +kernel
theorem sta_g0 : staV (.int .i64 1 0) (.int .i64 4 0) (.int .u64 6 0) [(4, 2, maxI), (1, minI, 0)] = true := by decide +kernel
theorem sta_gF : staV (.int .i64 1 0) (.int .i64 4 0) (.int .u64 6 0) [(4, 2, maxI), (1, 2, maxI)] = true := by decide +kernel
theorem sta_gN : staU false (.int .i64 1 0) (.int .i64 4 0) (.int .u64 6 0) [(4, 2, maxI), (1, 2, maxI)] = true := by decide +kernel
theorem sta_gU : staU true (.int .i64 1 0) (.int .i64 4 0) (.int .u64 6 0) [(4, 2, maxI), (1, 2, maxI)] = true := by decide +kernel
end Go.Cx
