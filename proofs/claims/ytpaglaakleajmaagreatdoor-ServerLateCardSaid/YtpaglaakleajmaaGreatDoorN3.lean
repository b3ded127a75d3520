/- The contracts that the laws with ticks use. -/
import Derived.Test.YtpaglaakleajmaaGreatDoorN2
set_option maxRecDepth 100000
set_option linter.unusedVariables false
set_option linter.unusedSimpArgs false
namespace Go.Cx
open Go.Proofs
def extN (f : Nat) : Option (List SV → Hp → Nat → Option (SV × Hp × Nat)) :=
  match Nat.beq f 138 with
  | true => some (eSorted 183 66)
  | false => extJ f
theorem extN_ok (E : Env) : ∀ f e, extN f = some e → CallOk Tryz.prog E f e := by
  intro f e h
  unfold extN at h
  split at h
  · rename_i hf
    cases Nat.eq_of_beq_eq_true hf; cases h
    exact sorted_ok E
  · exact extJ_ok E f e h
end Go.Cx
