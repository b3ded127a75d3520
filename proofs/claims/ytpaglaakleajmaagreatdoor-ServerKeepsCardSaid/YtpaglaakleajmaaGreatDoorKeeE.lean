/- Kee: the row. -/
import Derived.Test.YtpaglaakleajmaaGreatDoorKeeD
import Derived.Test.YtpaglaakleajmaaGreatDoorKeeS1
import Derived.Test.YtpaglaakleajmaaGreatDoorKeeS2
import Derived.Test.YtpaglaakleajmaaGreatDoorKeeS3
import Derived.Test.YtpaglaakleajmaaGreatDoorKP1
import Derived.Test.YtpaglaakleajmaaGreatDoorKP2
import Derived.Test.YtpaglaakleajmaaGreatDoorKP3
set_option maxRecDepth 100000
set_option linter.unusedVariables false
set_option linter.unusedSimpArgs false
namespace Go.Proofs.YtpaglaakleajmaaGreatDoor
open Go.ChangeShapes Go.WideShapes Go.ChangeAt Go.RowKit Go.Lib
theorem aKeeclosed : joinedFacts Tryz.pinned.checked.prog 11 Tryz.f11 (OpenSpec.ofChange Rows.serverKeepsSpec).bare Rows.serverKeepsRow = true := by
  have and_t : ∀ {a b : Bool}, a = true → b = true → (a && b) = true := fun h1 h2 => by rw [h1, h2]; rfl
  unfold joinedFacts
  exact (and_t (and_t (and_t (and_t (and_t (and_t (and_t (and_t (and_t (and_t (and_t (and_t (and_t (and_t (and_t (and_t (and_t (and_t (and_t (and_t (and_t (and_t (and_t (and_t (and_t (and_t (and_t (and_t (and_t (and_t (and_t aKee0 k1) k2) aKee3) aKee4) aKee5) aKee6) aKee7) aKee8) aKee9) aKee10) aKee11) aKee12) aKee13) aKee14) aKee15) aKee16) aKee17) aKee18) aKee19) aKee20) aKee21) k22) aKee23) k24) k25) k26) k27) aKee28) aKee29) aKee30) aKee31)
theorem aKeenamed : Tryz.pinned.checked.prog.funcNamed "commons/commonslaw21.ServerKeeps" = some 11 := by kernel_rfl
theorem aKeesaid : Rows.ServerKeepsSaid :=
  OpenClaim.holds_of_cond 11 Tryz.f11 rfl rfl rfl rfl rfl rfl rfl ⟨rfl, rfl, rfl, rfl, rfl⟩ rfl rfl rfl rfl rfl aKeenamed Tryz.func11 aKeeclosed
    (of_decide_eq_true (by kernel_rfl)) (by unfold Func.isWrapper; first | (rw [if_pos (by decide +kernel)]; kernel_rfl) | (rw [if_neg (by decide +kernel)]; exact ⟨rfl, rfl⟩))
    (fun os started H enc _ F => by rw [OpenClaim.pre_eq_preRow]; exact aKeelifted os started H enc F)
end Go.Proofs.YtpaglaakleajmaaGreatDoor
