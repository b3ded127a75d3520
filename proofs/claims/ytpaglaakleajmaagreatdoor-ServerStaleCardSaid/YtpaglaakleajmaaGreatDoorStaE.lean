/- Sta: the row. -/
import Derived.Test.YtpaglaakleajmaaGreatDoorStaD
import Derived.Test.YtpaglaakleajmaaGreatDoorStaS1
import Derived.Test.YtpaglaakleajmaaGreatDoorStaS2
import Derived.Test.YtpaglaakleajmaaGreatDoorStaS3
import Derived.Test.YtpaglaakleajmaaGreatDoorKP1
import Derived.Test.YtpaglaakleajmaaGreatDoorKP2
import Derived.Test.YtpaglaakleajmaaGreatDoorKP3
set_option maxRecDepth 100000
set_option linter.unusedVariables false
set_option linter.unusedSimpArgs false
namespace Go.Proofs.YtpaglaakleajmaaGreatDoor
open Go.ChangeShapes Go.WideShapes Go.ChangeAt Go.RowKit Go.Lib
theorem aStaclosed : joinedFacts Tryz.pinned.checked.prog 7 Tryz.f7 (OpenSpec.ofChange Rows.serverStaleSpec).bare Rows.serverStaleRow = true := by
  have and_t : ∀ {a b : Bool}, a = true → b = true → (a && b) = true := fun h1 h2 => by rw [h1, h2]; rfl
  unfold joinedFacts
  exact (and_t (and_t (and_t (and_t (and_t (and_t (and_t (and_t (and_t (and_t (and_t (and_t (and_t (and_t (and_t (and_t (and_t (and_t (and_t (and_t (and_t (and_t (and_t (and_t (and_t (and_t (and_t (and_t (and_t (and_t (and_t aSta0 k1) k2) aSta3) aSta4) aSta5) aSta6) aSta7) aSta8) aSta9) aSta10) aSta11) aSta12) aSta13) aSta14) aSta15) aSta16) aSta17) aSta18) aSta19) aSta20) aSta21) k22) aSta23) k24) k25) k26) k27) aSta28) aSta29) aSta30) aSta31)
theorem aStanamed : Tryz.pinned.checked.prog.funcNamed "commons/commonslaw21.ServerStale" = some 7 := by kernel_rfl
theorem aStasaid : Rows.ServerStaleSaid :=
  OpenClaim.holds_of_cond 7 Tryz.f7 rfl rfl rfl rfl rfl rfl rfl ⟨rfl, rfl, rfl, rfl, rfl⟩ rfl rfl rfl rfl rfl aStanamed Tryz.func7 aStaclosed
    (of_decide_eq_true (by kernel_rfl)) (by unfold Func.isWrapper; first | (rw [if_pos (by decide +kernel)]; kernel_rfl) | (rw [if_neg (by decide +kernel)]; exact ⟨rfl, rfl⟩))
    (fun os started H enc _ F => by rw [OpenClaim.pre_eq_preRow]; exact aStalifted os started H enc F)
end Go.Proofs.YtpaglaakleajmaaGreatDoor
