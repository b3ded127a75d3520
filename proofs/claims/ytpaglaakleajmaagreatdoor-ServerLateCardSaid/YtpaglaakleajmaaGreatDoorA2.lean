/- The sum of the head's bytes, by the program's two functions. -/
import Derived.Test.YtpaglaakleajmaaGreatDoorA1
set_option maxRecDepth 100000
set_option linter.unusedVariables false
set_option linter.unusedSimpArgs false
namespace Go.Cx
open Go.Proofs
def headS : List Nat := [67, 79, 77, 77, 79, 78, 83, 49, 3, 0, 0, 0, 12, 0, 0, 0, 12, 0, 0, 0, 6, 0, 0, 0, 32, 0, 0, 0, 0, 0, 0, 0, 0, 0, 0, 0, 0, 0, 0, 0, 0, 0, 0, 0, 0, 0, 0, 0, 0, 0, 0, 0, 0, 0, 0, 0, 0, 0, 0, 0]
def ctOf : Ct := { args := [.a (.s (.sl 0 0 1 1 1 true))], pre := [(0, .cells [.str headS] 1 9)], n0 := 1, v := .a (.s (.int .u32 0 3867149172)), post := [(0, .cells [.str headS] 1 9)], n1 := 1 }
def noExt : Nat → Option (List SV → Hp → Nat → Option (SV × Hp × Nat)) := fun _ => none
theorem ctOf_good : ctOf.good (runT F0 noExt 189) = true := by decide +kernel
end Go.Cx
