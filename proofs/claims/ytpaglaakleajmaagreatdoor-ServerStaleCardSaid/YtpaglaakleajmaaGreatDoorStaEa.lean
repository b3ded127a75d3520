/- ServerStale: messages of another epoch. -/
import Derived.Test.YtpaglaakleajmaaGreatDoorV4
set_option maxRecDepth 100000
set_option linter.unusedVariables false
set_option linter.unusedSimpArgs false
namespace Go.Cx
open Go.Proofs
theorem sta_ea0 : staV (.int .i64 1 0) (.int .i64 0 1) (.int .u64 0 0) [(1, minI, 0)] = true := by decide +kernel
theorem sta_ea1F : staV (.int .i64 1 0) (.int .i64 0 1) (.int .u64 0 0) [(1, 2, 12)] = true := by decide +kernel
theorem sta_ea1N : staU false (.int .i64 1 0) (.int .i64 0 1) (.int .u64 0 0) [(1, 2, 12)] = true := by decide +kernel
theorem sta_ea1U : staU true (.int .i64 1 0) (.int .i64 0 1) (.int .u64 0 0) [(1, 2, 12)] = true := by decide +kernel
theorem sta_ea2F : staV (.int .i64 1 0) (.int .i64 0 1) (.int .u64 0 0) [(1, 14, maxI)] = true := by decide +kernel
theorem sta_ea2N : staU false (.int .i64 1 0) (.int .i64 0 1) (.int .u64 0 0) [(1, 14, maxI)] = true := by decide +kernel
theorem sta_ea2U : staU true (.int .i64 1 0) (.int .i64 0 1) (.int .u64 0 0) [(1, 14, maxI)] = true := by decide +kernel
end Go.Cx
