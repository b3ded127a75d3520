/- Bye: the row. -/
import Derived.Test.YtpaglaakleajmaaGreatDoorByeD
import Derived.Test.YtpaglaakleajmaaGreatDoorByeS1
import Derived.Test.YtpaglaakleajmaaGreatDoorByeS2
import Derived.Test.YtpaglaakleajmaaGreatDoorByeS3
import Derived.Test.YtpaglaakleajmaaGreatDoorKP1
import Derived.Test.YtpaglaakleajmaaGreatDoorKP2
import Derived.Test.YtpaglaakleajmaaGreatDoorKP3
set_option maxRecDepth 100000
set_option linter.unusedVariables false
set_option linter.unusedSimpArgs false
namespace Go.Proofs.YtpaglaakleajmaaGreatDoor
open Go.ChangeShapes Go.WideShapes Go.ChangeAt Go.RowKit Go.Lib
theorem aByeclosed : joinedFacts Tryz.pinned.checked.prog 4 Tryz.f4 (OpenSpec.ofChange Rows.serverByeSpec).bare Rows.serverByeRow = true := by
  have and_t : ∀ {a b : Bool}, a = true → b = true → (a && b) = true := fun h1 h2 => by rw [h1, h2]; rfl
  unfold joinedFacts
  exact (and_t (and_t (and_t (and_t (and_t (and_t (and_t (and_t (and_t (and_t (and_t (and_t (and_t (and_t (and_t (and_t (and_t (and_t (and_t (and_t (and_t (and_t (and_t (and_t (and_t (and_t (and_t (and_t (and_t (and_t (and_t aBye0 k1) k2) aBye3) aBye4) aBye5) aBye6) aBye7) aBye8) aBye9) aBye10) aBye11) aBye12) aBye13) aBye14) aBye15) aBye16) aBye17) aBye18) aBye19) aBye20) aBye21) k22) aBye23) k24) k25) k26) k27) aBye28) aBye29) aBye30) aBye31)
theorem aByenamed : Tryz.pinned.checked.prog.funcNamed "commons/commonslaw21.ServerBye" = some 4 := by kernel_rfl
theorem aByesaid : Rows.ServerByeSaid :=
  OpenClaim.holds_of_cond 4 Tryz.f4 rfl rfl rfl rfl rfl rfl rfl ⟨rfl, rfl, rfl, rfl, rfl⟩ rfl rfl rfl rfl rfl aByenamed Tryz.func4 aByeclosed
    (of_decide_eq_true (by kernel_rfl)) (by unfold Func.isWrapper; first | (rw [if_pos (by decide +kernel)]; kernel_rfl) | (rw [if_neg (by decide +kernel)]; exact ⟨rfl, rfl⟩))
    (fun os started H enc _ F => by rw [OpenClaim.pre_eq_preRow]; exact aByelifted os started H enc F)
end Go.Proofs.YtpaglaakleajmaaGreatDoor
