/- ServerJoins: a main run. -/
import Derived.Test.YtpaglaakleajmaaGreatDoorJoiA
set_option maxRecDepth 100000
set_option linter.unusedVariables false
set_option linter.unusedSimpArgs false
namespace Go.Cx
open Go.Proofs
theorem joiM1 : lawT extJ 3 [(2, 1, 1000)] [] [] [.a (.s (.int .i64 0 1)), .a (.s (.int .i64 2 0))] = true := by decide +kernel
end Go.Cx
