/- Cou: the row. -/
import Derived.Test.YtpaglaakleajmaaGreatDoorCouD
import Derived.Test.YtpaglaakleajmaaGreatDoorCouS1
import Derived.Test.YtpaglaakleajmaaGreatDoorCouS2
import Derived.Test.YtpaglaakleajmaaGreatDoorCouS3
import Derived.Test.YtpaglaakleajmaaGreatDoorKP1
import Derived.Test.YtpaglaakleajmaaGreatDoorKP2
import Derived.Test.YtpaglaakleajmaaGreatDoorKP3
set_option maxRecDepth 100000
set_option linter.unusedVariables false
set_option linter.unusedSimpArgs false
namespace Go.Proofs.YtpaglaakleajmaaGreatDoor
open Go.ChangeShapes Go.WideShapes Go.ChangeAt Go.RowKit Go.Lib
theorem aCouclosed : joinedFacts Tryz.pinned.checked.prog 8 Tryz.f8 (OpenSpec.ofChange Rows.serverCountsSpec).bare Rows.serverCountsRow = true := by
  have and_t : ∀ {a b : Bool}, a = true → b = true → (a && b) = true := fun h1 h2 => by rw [h1, h2]; rfl
  unfold joinedFacts
  exact (and_t (and_t (and_t (and_t (and_t (and_t (and_t (and_t (and_t (and_t (and_t (and_t (and_t (and_t (and_t (and_t (and_t (and_t (and_t (and_t (and_t (and_t (and_t (and_t (and_t (and_t (and_t (and_t (and_t (and_t (and_t aCou0 k1) k2) aCou3) aCou4) aCou5) aCou6) aCou7) aCou8) aCou9) aCou10) aCou11) aCou12) aCou13) aCou14) aCou15) aCou16) aCou17) aCou18) aCou19) aCou20) aCou21) k22) aCou23) k24) k25) k26) k27) aCou28) aCou29) aCou30) aCou31)
theorem aCounamed : Tryz.pinned.checked.prog.funcNamed "commons/commonslaw21.ServerCounts" = some 8 := by kernel_rfl
theorem aCousaid : Rows.ServerCountsSaid :=
  OpenClaim.holds_of_cond 8 Tryz.f8 rfl rfl rfl rfl rfl rfl rfl ⟨rfl, rfl, rfl, rfl, rfl⟩ rfl rfl rfl rfl rfl aCounamed Tryz.func8 aCouclosed
    (of_decide_eq_true (by kernel_rfl)) (by unfold Func.isWrapper; first | (rw [if_pos (by decide +kernel)]; kernel_rfl) | (rw [if_neg (by decide +kernel)]; exact ⟨rfl, rfl⟩))
    (fun os started H enc _ F => by rw [OpenClaim.pre_eq_preRow]; exact aCoulifted os started H enc F)
end Go.Proofs.YtpaglaakleajmaaGreatDoor
