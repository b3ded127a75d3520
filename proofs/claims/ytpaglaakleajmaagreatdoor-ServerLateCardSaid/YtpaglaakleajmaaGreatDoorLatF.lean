/- ServerLate answers true at every input, and each argument reads behind the call as it read before; the listed tables lie as the program's text lays them. -/
import Derived.Test.YtpaglaakleajmaaGreatDoorLatE
import Derived.Test.YtpaglaakleajmaaGreatDoorLatS4
import Derived.Test.YtpaglaakleajmaaGreatDoorKP4
set_option maxRecDepth 100000
set_option linter.unusedVariables false
set_option linter.unusedSimpArgs false
namespace Go.Proofs.YtpaglaakleajmaaGreatDoor
open Go.ChangeShapes Go.WideShapes Go.ChangeAt Go.RowKit Go.Lib
theorem aLatplain (f : FuncId) (fn : Func) (hf : Tryz.pinned.checked.prog.funcNamed "commons/commonslaw21.ServerLate" = some f) (hfn : Tryz.pinned.checked.prog.funcs[f]? = some fn) :
    false = Tryz.pinned.checked.prog.looks [] ∧ ∀ (j : Nat) t, fn.params[j]? = some t → Tryz.pinned.checked.prog.wantsStandIn t = false := by
  obtain rfl : f = 9 := Option.some.inj (aLatnamed.symm.trans hf) |>.symm
  obtain rfl : fn = Tryz.f9 := (Option.some.inj (Tryz.func9.symm.trans hfn)).symm
  refine ⟨kLooks, fun j t ht => ?_⟩
  rw [Tryz.params9] at ht
  have t0 : Tryz.prog.wantsStandIn 57 = false := by kernel_rfl
  have ht := Array.mem_of_getElem? ht
  simp only [List.mem_toArray, List.mem_cons, List.not_mem_nil, or_false] at ht
  subst ht
  exact t0
theorem serverLate_holds : Rows.ServerLateCardSaid :=
  Claim7.holds_tied_plain_at .later [] _ _ _ _ aLatsaid (fun _ h => by cases h) (by kernel_rfl) (fun _ h => by cases h) serverLate_row_tie rfl ⟨rfl, rfl⟩ kMain rfl aLatplain aLatgoes
#print axioms serverLate_holds
end Go.Proofs.YtpaglaakleajmaaGreatDoor
