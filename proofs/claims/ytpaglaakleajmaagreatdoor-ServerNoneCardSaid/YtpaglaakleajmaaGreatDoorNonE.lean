/- Non: the row. -/
import Derived.Test.YtpaglaakleajmaaGreatDoorNonD
import Derived.Test.YtpaglaakleajmaaGreatDoorNonS1
import Derived.Test.YtpaglaakleajmaaGreatDoorNonS2
import Derived.Test.YtpaglaakleajmaaGreatDoorNonS3
import Derived.Test.YtpaglaakleajmaaGreatDoorKP1
import Derived.Test.YtpaglaakleajmaaGreatDoorKP2
import Derived.Test.YtpaglaakleajmaaGreatDoorKP3
set_option maxRecDepth 100000
set_option linter.unusedVariables false
set_option linter.unusedSimpArgs false
namespace Go.Proofs.YtpaglaakleajmaaGreatDoor
open Go.ChangeShapes Go.WideShapes Go.ChangeAt Go.RowKit Go.Lib
theorem aNonclosed : joinedFacts Tryz.pinned.checked.prog 10 Tryz.f10 (OpenSpec.ofChange Rows.serverNoneSpec).bare Rows.serverNoneRow = true := by
  have and_t : ∀ {a b : Bool}, a = true → b = true → (a && b) = true := fun h1 h2 => by rw [h1, h2]; rfl
  unfold joinedFacts
  exact (and_t (and_t (and_t (and_t (and_t (and_t (and_t (and_t (and_t (and_t (and_t (and_t (and_t (and_t (and_t (and_t (and_t (and_t (and_t (and_t (and_t (and_t (and_t (and_t (and_t (and_t (and_t (and_t (and_t (and_t (and_t aNon0 k1) k2) aNon3) aNon4) aNon5) aNon6) aNon7) aNon8) aNon9) aNon10) aNon11) aNon12) aNon13) aNon14) aNon15) aNon16) aNon17) aNon18) aNon19) aNon20) aNon21) k22) aNon23) k24) k25) k26) k27) aNon28) aNon29) aNon30) aNon31)
theorem aNonnamed : Tryz.pinned.checked.prog.funcNamed "commons/commonslaw21.ServerNone" = some 10 := by kernel_rfl
theorem aNonsaid : Rows.ServerNoneSaid :=
  OpenClaim.holds_of_cond 10 Tryz.f10 rfl rfl rfl rfl rfl rfl rfl ⟨rfl, rfl, rfl, rfl, rfl⟩ rfl rfl rfl rfl rfl aNonnamed Tryz.func10 aNonclosed
    (of_decide_eq_true (by kernel_rfl)) (by unfold Func.isWrapper; first | (rw [if_pos (by decide +kernel)]; kernel_rfl) | (rw [if_neg (by decide +kernel)]; exact ⟨rfl, rfl⟩))
    (fun os started H enc _ F => by rw [OpenClaim.pre_eq_preRow]; exact aNonlifted os started H enc F)
end Go.Proofs.YtpaglaakleajmaaGreatDoor
