/- ServerStale: messages of another epoch. -/
import Derived.Test.YtpaglaakleajmaaGreatDoorV4
set_option maxRecDepth 100000
set_option linter.unusedVariables false
set_option linter.unusedSimpArgs false
namespace Go.Cx
open Go.Proofs
theorem sta_ec0 : staV (.int .i64 1 0) (.int .i64 0 1) (.int .u64 6 0) [(6, 4, 18446744073709551615), (1, minI, 0)] = true := by decide +kernel
theorem sta_ec1F : staV (.int .i64 1 0) (.int .i64 0 1) (.int .u64 6 0) [(6, 4, 18446744073709551615), (1, 2, 12)] = true := by decide +kernel
theorem sta_ec1N : staU false (.int .i64 1 0) (.int .i64 0 1) (.int .u64 6 0) [(6, 4, 18446744073709551615), (1, 2, 12)] = true := by decide +kernel
theorem sta_ec1U : staU true (.int .i64 1 0) (.int .i64 0 1) (.int .u64 6 0) [(6, 4, 18446744073709551615), (1, 2, 12)] = true := by decide +kernel
theorem sta_ec2F : staV (.int .i64 1 0) (.int .i64 0 1) (.int .u64 6 0) [(6, 4, 18446744073709551615), (1, 14, maxI)] = true := by decide +kernel
theorem sta_ec2N : staU false (.int .i64 1 0) (.int .i64 0 1) (.int .u64 6 0) [(6, 4, 18446744073709551615), (1, 14, maxI)] = true := by decide +kernel
theorem sta_ec2U : staU true (.int .i64 1 0) (.int .i64 0 1) (.int .u64 6 0) [(6, 4, 18446744073709551615), (1, 14, maxI)] = true := by decide +kernel
end Go.Cx
