/- ServerLate: the outer loop; the whole. -/
import Derived.Test.YtpaglaakleajmaaGreatDoorLatM
set_option maxRecDepth 100000
set_option linter.unusedVariables false
set_option linter.unusedSimpArgs false
namespace Go.Cx
open Go.Proofs
theorem lat_o1 : rndOk latI (fun b => 703 + b) lo1 loV (latH latI.st) = true := by decide +kernel
theorem lat_w : saysTrue (runH latF extN 9 Tryz.f9 (hk1 0 latOut) hk0 [.a (.s (.opq 1))] .e 0) = true := by decide +kernel
end Go.Cx
