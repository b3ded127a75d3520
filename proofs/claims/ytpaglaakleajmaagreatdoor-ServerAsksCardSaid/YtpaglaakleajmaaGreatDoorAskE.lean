/- Ask: the row. -/
import Derived.Test.YtpaglaakleajmaaGreatDoorAskD
import Derived.Test.YtpaglaakleajmaaGreatDoorAskS1
import Derived.Test.YtpaglaakleajmaaGreatDoorAskS2
import Derived.Test.YtpaglaakleajmaaGreatDoorAskS3
import Derived.Test.YtpaglaakleajmaaGreatDoorKP1
import Derived.Test.YtpaglaakleajmaaGreatDoorKP2
import Derived.Test.YtpaglaakleajmaaGreatDoorKP3
set_option maxRecDepth 100000
set_option linter.unusedVariables false
set_option linter.unusedSimpArgs false
namespace Go.Proofs.YtpaglaakleajmaaGreatDoor
open Go.ChangeShapes Go.WideShapes Go.ChangeAt Go.RowKit Go.Lib
theorem aAskclosed : joinedFacts Tryz.pinned.checked.prog 6 Tryz.f6 (OpenSpec.ofChange Rows.serverAsksSpec).bare Rows.serverAsksRow = true := by
  have and_t : ∀ {a b : Bool}, a = true → b = true → (a && b) = true := fun h1 h2 => by rw [h1, h2]; rfl
  unfold joinedFacts
  exact (and_t (and_t (and_t (and_t (and_t (and_t (and_t (and_t (and_t (and_t (and_t (and_t (and_t (and_t (and_t (and_t (and_t (and_t (and_t (and_t (and_t (and_t (and_t (and_t (and_t (and_t (and_t (and_t (and_t (and_t (and_t aAsk0 k1) k2) aAsk3) aAsk4) aAsk5) aAsk6) aAsk7) aAsk8) aAsk9) aAsk10) aAsk11) aAsk12) aAsk13) aAsk14) aAsk15) aAsk16) aAsk17) aAsk18) aAsk19) aAsk20) aAsk21) k22) aAsk23) k24) k25) k26) k27) aAsk28) aAsk29) aAsk30) aAsk31)
theorem aAsknamed : Tryz.pinned.checked.prog.funcNamed "commons/commonslaw21.ServerAsks" = some 6 := by kernel_rfl
theorem aAsksaid : Rows.ServerAsksSaid :=
  OpenClaim.holds_of_cond 6 Tryz.f6 rfl rfl rfl rfl rfl rfl rfl ⟨rfl, rfl, rfl, rfl, rfl⟩ rfl rfl rfl rfl rfl aAsknamed Tryz.func6 aAskclosed
    (of_decide_eq_true (by kernel_rfl)) (by unfold Func.isWrapper; first | (rw [if_pos (by decide +kernel)]; kernel_rfl) | (rw [if_neg (by decide +kernel)]; exact ⟨rfl, rfl⟩))
    (fun os started H enc _ F => by rw [OpenClaim.pre_eq_preRow]; exact aAsklifted os started H enc F)
end Go.Proofs.YtpaglaakleajmaaGreatDoor
