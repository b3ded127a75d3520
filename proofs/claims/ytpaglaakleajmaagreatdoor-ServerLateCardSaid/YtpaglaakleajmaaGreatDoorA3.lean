/- The sum of the head's bytes, by the other one. -/
import Derived.Test.YtpaglaakleajmaaGreatDoorA2
set_option maxRecDepth 100000
set_option linter.unusedVariables false
set_option linter.unusedSimpArgs false
namespace Go.Cx
open Go.Proofs
def ctSum : Ct := { args := [.a (.s (.str headS))], pre := [], n0 := 0, v := .a (.s (.int .u32 0 3867149172)), post := [], n1 := 0 }
theorem ctSum_good : ctSum.good (runT F0 noExt 152) = true := by decide +kernel
end Go.Cx
