/- Can: the row. -/
import Derived.Test.YtpaglaakleajmaaGreatDoorCanD
import Derived.Test.YtpaglaakleajmaaGreatDoorCanS1
import Derived.Test.YtpaglaakleajmaaGreatDoorCanS2
import Derived.Test.YtpaglaakleajmaaGreatDoorCanS3
import Derived.Test.YtpaglaakleajmaaGreatDoorKP1
import Derived.Test.YtpaglaakleajmaaGreatDoorKP2
import Derived.Test.YtpaglaakleajmaaGreatDoorKP3
set_option maxRecDepth 100000
set_option linter.unusedVariables false
set_option linter.unusedSimpArgs false
namespace Go.Proofs.YtpaglaakleajmaaGreatDoor
open Go.ChangeShapes Go.WideShapes Go.ChangeAt Go.RowKit Go.Lib
theorem aCanclosed : joinedFacts Tryz.pinned.checked.prog 5 Tryz.f5 (OpenSpec.ofChange Rows.serverCancelsSpec).bare Rows.serverCancelsRow = true := by
  have and_t : ∀ {a b : Bool}, a = true → b = true → (a && b) = true := fun h1 h2 => by rw [h1, h2]; rfl
  unfold joinedFacts
  exact (and_t (and_t (and_t (and_t (and_t (and_t (and_t (and_t (and_t (and_t (and_t (and_t (and_t (and_t (and_t (and_t (and_t (and_t (and_t (and_t (and_t (and_t (and_t (and_t (and_t (and_t (and_t (and_t (and_t (and_t (and_t aCan0 k1) k2) aCan3) aCan4) aCan5) aCan6) aCan7) aCan8) aCan9) aCan10) aCan11) aCan12) aCan13) aCan14) aCan15) aCan16) aCan17) aCan18) aCan19) aCan20) aCan21) k22) aCan23) k24) k25) k26) k27) aCan28) aCan29) aCan30) aCan31)
theorem aCannamed : Tryz.pinned.checked.prog.funcNamed "commons/commonslaw21.ServerCancels" = some 5 := by kernel_rfl
theorem aCansaid : Rows.ServerCancelsSaid :=
  OpenClaim.holds_of_cond 5 Tryz.f5 rfl rfl rfl rfl rfl rfl rfl ⟨rfl, rfl, rfl, rfl, rfl⟩ rfl rfl rfl rfl rfl aCannamed Tryz.func5 aCanclosed
    (of_decide_eq_true (by kernel_rfl)) (by unfold Func.isWrapper; first | (rw [if_pos (by decide +kernel)]; kernel_rfl) | (rw [if_neg (by decide +kernel)]; exact ⟨rfl, rfl⟩))
    (fun os started H enc _ F => by rw [OpenClaim.pre_eq_preRow]; exact aCanlifted os started H enc F)
end Go.Proofs.YtpaglaakleajmaaGreatDoor
