/- Joi: the row. -/
import Derived.Test.YtpaglaakleajmaaGreatDoorJoiD
import Derived.Test.YtpaglaakleajmaaGreatDoorJoiS1
import Derived.Test.YtpaglaakleajmaaGreatDoorJoiS2
import Derived.Test.YtpaglaakleajmaaGreatDoorJoiS3
import Derived.Test.YtpaglaakleajmaaGreatDoorKP1
import Derived.Test.YtpaglaakleajmaaGreatDoorKP2
import Derived.Test.YtpaglaakleajmaaGreatDoorKP3
set_option maxRecDepth 100000
set_option linter.unusedVariables false
set_option linter.unusedSimpArgs false
namespace Go.Proofs.YtpaglaakleajmaaGreatDoor
open Go.ChangeShapes Go.WideShapes Go.ChangeAt Go.RowKit Go.Lib
theorem aJoiclosed : joinedFacts Tryz.pinned.checked.prog 3 Tryz.f3 (OpenSpec.ofChange Rows.serverJoinsSpec).bare Rows.serverJoinsRow = true := by
  have and_t : ∀ {a b : Bool}, a = true → b = true → (a && b) = true := fun h1 h2 => by rw [h1, h2]; rfl
  unfold joinedFacts
  exact (and_t (and_t (and_t (and_t (and_t (and_t (and_t (and_t (and_t (and_t (and_t (and_t (and_t (and_t (and_t (and_t (and_t (and_t (and_t (and_t (and_t (and_t (and_t (and_t (and_t (and_t (and_t (and_t (and_t (and_t (and_t aJoi0 k1) k2) aJoi3) aJoi4) aJoi5) aJoi6) aJoi7) aJoi8) aJoi9) aJoi10) aJoi11) aJoi12) aJoi13) aJoi14) aJoi15) aJoi16) aJoi17) aJoi18) aJoi19) aJoi20) aJoi21) k22) aJoi23) k24) k25) k26) k27) aJoi28) aJoi29) aJoi30) aJoi31)
theorem aJoinamed : Tryz.pinned.checked.prog.funcNamed "commons/commonslaw21.ServerJoins" = some 3 := by kernel_rfl
theorem aJoisaid : Rows.ServerJoinsSaid :=
  OpenClaim.holds_of_cond 3 Tryz.f3 rfl rfl rfl rfl rfl rfl rfl ⟨rfl, rfl, rfl, rfl, rfl⟩ rfl rfl rfl rfl rfl aJoinamed Tryz.func3 aJoiclosed
    (of_decide_eq_true (by kernel_rfl)) (by unfold Func.isWrapper; first | (rw [if_pos (by decide +kernel)]; kernel_rfl) | (rw [if_neg (by decide +kernel)]; exact ⟨rfl, rfl⟩))
    (fun os started H enc _ F => by rw [OpenClaim.pre_eq_preRow]; exact aJoilifted os started H enc F)
end Go.Proofs.YtpaglaakleajmaaGreatDoor
