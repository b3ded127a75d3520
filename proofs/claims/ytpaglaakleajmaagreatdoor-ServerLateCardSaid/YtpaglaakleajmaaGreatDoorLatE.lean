/- Lat: the row. -/
import Derived.Test.YtpaglaakleajmaaGreatDoorLatD
import Derived.Test.YtpaglaakleajmaaGreatDoorLatS1
import Derived.Test.YtpaglaakleajmaaGreatDoorLatS2
import Derived.Test.YtpaglaakleajmaaGreatDoorLatS3
import Derived.Test.YtpaglaakleajmaaGreatDoorKP1
import Derived.Test.YtpaglaakleajmaaGreatDoorKP2
import Derived.Test.YtpaglaakleajmaaGreatDoorKP3
set_option maxRecDepth 100000
set_option linter.unusedVariables false
set_option linter.unusedSimpArgs false
namespace Go.Proofs.YtpaglaakleajmaaGreatDoor
open Go.ChangeShapes Go.WideShapes Go.ChangeAt Go.RowKit Go.Lib
theorem aLatclosed : joinedFacts Tryz.pinned.checked.prog 9 Tryz.f9 (OpenSpec.ofChange Rows.serverLateSpec).bare Rows.serverLateRow = true := by
  have and_t : ∀ {a b : Bool}, a = true → b = true → (a && b) = true := fun h1 h2 => by rw [h1, h2]; rfl
  unfold joinedFacts
  exact (and_t (and_t (and_t (and_t (and_t (and_t (and_t (and_t (and_t (and_t (and_t (and_t (and_t (and_t (and_t (and_t (and_t (and_t (and_t (and_t (and_t (and_t (and_t (and_t (and_t (and_t (and_t (and_t (and_t (and_t (and_t aLat0 k1) k2) aLat3) aLat4) aLat5) aLat6) aLat7) aLat8) aLat9) aLat10) aLat11) aLat12) aLat13) aLat14) aLat15) aLat16) aLat17) aLat18) aLat19) aLat20) aLat21) k22) aLat23) k24) k25) k26) k27) aLat28) aLat29) aLat30) aLat31)
theorem aLatnamed : Tryz.pinned.checked.prog.funcNamed "commons/commonslaw21.ServerLate" = some 9 := by kernel_rfl
theorem aLatsaid : Rows.ServerLateSaid :=
  OpenClaim.holds_of_cond 9 Tryz.f9 rfl rfl rfl rfl rfl rfl rfl ⟨rfl, rfl, rfl, rfl, rfl⟩ rfl rfl rfl rfl rfl aLatnamed Tryz.func9 aLatclosed
    (of_decide_eq_true (by kernel_rfl)) (by unfold Func.isWrapper; first | (rw [if_pos (by decide +kernel)]; kernel_rfl) | (rw [if_neg (by decide +kernel)]; exact ⟨rfl, rfl⟩))
    (fun os started H enc _ F => by rw [OpenClaim.pre_eq_preRow]; exact aLatlifted os started H enc F)
end Go.Proofs.YtpaglaakleajmaaGreatDoor
