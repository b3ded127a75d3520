/- ServerAsks answers true at every input, and each argument reads behind the call as it read before; the listed tables lie as the program's text lays them. -/
import Derived.Test.YtpaglaakleajmaaGreatDoorAskE
import Derived.Test.YtpaglaakleajmaaGreatDoorAskS4
import Derived.Test.YtpaglaakleajmaaGreatDoorKP4
set_option maxRecDepth 100000
set_option linter.unusedVariables false
set_option linter.unusedSimpArgs false
namespace Go.Proofs.YtpaglaakleajmaaGreatDoor
open Go.ChangeShapes Go.WideShapes Go.ChangeAt Go.RowKit Go.Lib
theorem aAskplain (f : FuncId) (fn : Func) (hf : Tryz.pinned.checked.prog.funcNamed "commons/commonslaw21.ServerAsks" = some f) (hfn : Tryz.pinned.checked.prog.funcs[f]? = some fn) :
    false = Tryz.pinned.checked.prog.looks [] ∧ ∀ (j : Nat) t, fn.params[j]? = some t → Tryz.pinned.checked.prog.wantsStandIn t = false := by
  obtain rfl : f = 6 := Option.some.inj (aAsknamed.symm.trans hf) |>.symm
  obtain rfl : fn = Tryz.f6 := (Option.some.inj (Tryz.func6.symm.trans hfn)).symm
  refine ⟨kLooks, fun j t ht => ?_⟩
  rw [Tryz.params6] at ht
  have t0 : Tryz.prog.wantsStandIn 3 = false := by kernel_rfl
  have t1 : Tryz.prog.wantsStandIn 47 = false := by kernel_rfl
  have ht := Array.mem_of_getElem? ht
  simp only [List.mem_toArray, List.mem_cons, List.not_mem_nil, or_false] at ht
  obtain rfl | rfl := ht
  · exact t1
  · exact t0
theorem serverAsks_holds : Rows.ServerAsksCardSaid :=
  Claim7.holds_tied_plain_at .later [] _ _ _ _ aAsksaid (fun _ h => by cases h) (by kernel_rfl) (fun _ h => by cases h) serverAsks_row_tie rfl ⟨rfl, rfl⟩ kMain rfl aAskplain aAskgoes
#print axioms serverAsks_holds
end Go.Proofs.YtpaglaakleajmaaGreatDoor
