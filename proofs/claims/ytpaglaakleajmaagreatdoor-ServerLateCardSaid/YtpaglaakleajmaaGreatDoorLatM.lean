/- ServerLate: the inner loop. -/
import Derived.Test.YtpaglaakleajmaaGreatDoorLatL
set_option maxRecDepth 100000
set_option linter.unusedVariables false
set_option linter.unusedSimpArgs false
namespace Go.Cx
open Go.Proofs
theorem lat_i1 : rndOk latJ (fun b => b) lj1 vAll (latT latFi lat2 latJ.st) = true := by decide +kernel
theorem lat_i2 : endOk latO (fun b => b) lj2 ljV (some 2) (latT latFe lat2 latJ.st) = true := by decide +kernel
theorem lat_o2 : endOk latZ (fun b => b) lo0 vNo (some 0) (latT latFz lat0 latI.st) = true := by decide +kernel
end Go.Cx
