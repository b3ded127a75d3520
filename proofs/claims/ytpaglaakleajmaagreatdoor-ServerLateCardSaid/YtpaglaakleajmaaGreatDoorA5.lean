/- alive: true, from the empty heap. -/
import Derived.Test.YtpaglaakleajmaaGreatDoorA4
set_option maxRecDepth 100000
set_option linter.unusedVariables false
set_option linter.unusedSimpArgs false
namespace Go.Cx
open Go.Proofs
def extB (f : Nat) : Option (List SV → Hp → Nat → Option (SV × Hp × Nat)) :=
  match Nat.beq f 26 with
  | true => some (ctReady.use find0)
  | false => extA f
theorem extB_ok (E : Env) : ∀ f e, extB f = some e → CallOk Tryz.prog E f e := by
  intro f e h
  unfold extB at h
  split at h
  · rename_i hf
    cases Nat.eq_of_beq_eq_true hf; cases h
    exact ready_ok E
  · exact extA_ok E f e h
def ctAlive : Ct := { args := [], pre := [], n0 := 0, v := .a (.s (.bool true)), post := [], n1 := 777 }
end Go.Cx
