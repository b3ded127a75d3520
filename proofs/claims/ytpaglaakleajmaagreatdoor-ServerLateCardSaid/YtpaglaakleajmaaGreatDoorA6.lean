/- alive: one run. -/
import Derived.Test.YtpaglaakleajmaaGreatDoorA5
set_option maxRecDepth 100000
set_option linter.unusedVariables false
set_option linter.unusedSimpArgs false
namespace Go.Cx
open Go.Proofs
theorem ctAlive_good : ctAlive.good (runT F0 extB 13) = true := by decide +kernel
theorem alive_ok (E : Env) : CallOk Tryz.prog E 13 (ctAlive.use find0) := reloc (runT_ok (F0_ok E) (extB_ok E) 13) ctAlive_good find0
def extC (f : Nat) : Option (List SV → Hp → Nat → Option (SV × Hp × Nat)) :=
  match Nat.beq f 13 with
  | true => some (ctAlive.use find0)
  | false => extB f
theorem extC_ok (E : Env) : ∀ f e, extC f = some e → CallOk Tryz.prog E f e := by
  intro f e h
  unfold extC at h
  split at h
  · rename_i hf
    cases Nat.eq_of_beq_eq_true hf; cases h
    exact alive_ok E
  · exact extB_ok E f e h
end Go.Cx
