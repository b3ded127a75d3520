/- ServerStale answers true at every input, and each argument reads behind the call as it read before; the listed tables lie as the program's text lays them. -/
import Derived.Test.YtpaglaakleajmaaGreatDoorStaE
import Derived.Test.YtpaglaakleajmaaGreatDoorStaS4
import Derived.Test.YtpaglaakleajmaaGreatDoorKP4
set_option maxRecDepth 100000
set_option linter.unusedVariables false
set_option linter.unusedSimpArgs false
namespace Go.Proofs.YtpaglaakleajmaaGreatDoor
open Go.ChangeShapes Go.WideShapes Go.ChangeAt Go.RowKit Go.Lib
theorem aStaplain (f : FuncId) (fn : Func) (hf : Tryz.pinned.checked.prog.funcNamed "commons/commonslaw21.ServerStale" = some f) (hfn : Tryz.pinned.checked.prog.funcs[f]? = some fn) :
    false = Tryz.pinned.checked.prog.looks [] ∧ ∀ (j : Nat) t, fn.params[j]? = some t → Tryz.pinned.checked.prog.wantsStandIn t = false := by
  obtain rfl : f = 7 := Option.some.inj (aStanamed.symm.trans hf) |>.symm
  obtain rfl : fn = Tryz.f7 := (Option.some.inj (Tryz.func7.symm.trans hfn)).symm
  refine ⟨kLooks, fun j t ht => ?_⟩
  rw [Tryz.params7] at ht
  have t0 : Tryz.prog.wantsStandIn 38 = false := by kernel_rfl
  have t1 : Tryz.prog.wantsStandIn 47 = false := by kernel_rfl
  have ht := Array.mem_of_getElem? ht
  simp only [List.mem_toArray, List.mem_cons, List.not_mem_nil, or_false] at ht
  obtain rfl | rfl := ht
  · exact t0
  · exact t1
theorem serverStale_holds : Rows.ServerStaleCardSaid :=
  Claim7.holds_tied_plain_at .later [] _ _ _ _ aStasaid (fun _ h => by cases h) (by kernel_rfl) (fun _ h => by cases h) serverStale_row_tie rfl ⟨rfl, rfl⟩ kMain rfl aStaplain aStagoes
#print axioms serverStale_holds
end Go.Proofs.YtpaglaakleajmaaGreatDoor
