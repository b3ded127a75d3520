/- ServerBye: at whatever lock, in whatever world: true. -/
import Derived.Test.YtpaglaakleajmaaGreatDoorByeA
import Derived.Test.YtpaglaakleajmaaGreatDoorK1
set_option maxRecDepth 100000
set_option linter.unusedVariables false
set_option linter.unusedSimpArgs false
namespace Go.Cx
open Go.Proofs Go.RowKit
theorem bye_all (x y m : Int) (hx : minI ≤ x ∧ x ≤ maxI) (hy : minI ≤ y ∧ y ≤ maxI) (hm : minI ≤ m ∧ m ≤ maxI) (W : World) :
    Calls Tryz.prog 4 #[.agg #[.int .i64 x, .int .i64 y, .int .i64 m]] W fun e w' => e = .returned (.bool true) ∧ Below W.heap.size W w' := by
  have hmin : minI = -9223372036854775808 := rfl
  have hmax : maxI = 9223372036854775807 := rfl
  have args : LR (VV (envL [x, y, m] fun _ => default) be0 0) [lockS (.int .i64 3 0)] (#[.agg #[.int .i64 x, .int .i64 y, .int .i64 m]] : Array Value).toList :=
    ⟨⟨_, rfl, by simp [VC, Env.val, envL], by simp [VC, Env.val, envL], by simp [VC, Env.val, envL], trivial⟩, trivial⟩
  by_cases h1 : x < 0
  · exact law_all bye1 [x, y, m] _ extJ_ok W _ (by simp [Env.val, envL]; omega) (by simp) (by simp) args
  by_cases h2 : y ≤ x
  · exact law_all bye2 [x, y, m] _ extJ_ok W _ (by simp [Env.val, envL]; omega) (by simp [Env.val, envL]; omega) (by simp) args
  by_cases h3 : 4096 < y
  · exact law_all bye3 [x, y, m] _ extJ_ok W _ (by simp [Env.val, envL]; omega) (by simp [Env.val, envL]; omega) (by simp) args
  by_cases h4 : m = 2
  · subst h4
    exact law_all bye0 [x, y, 2] (fun _ => default) extJ_ok W _ (by simp [Env.val, envL]; omega) (by simp [Env.val, envL]; omega) (by simp)
      ⟨⟨_, rfl, by simp [VC, Env.val, envL], by simp [VC, Env.val, envL], by simp [VC, Env.val, envL], trivial⟩, trivial⟩
  by_cases h5 : m < 2
  · exact law_all bye4 [x, y, m] _ extJ_ok W _ (by simp [Env.val, envL]; omega) (by simp [Env.val, envL]; omega) (by simp) args
  · exact law_all bye5 [x, y, m] _ extJ_ok W _ (by simp [Env.val, envL]; omega) (by simp [Env.val, envL]; omega) (by simp) args
end Go.Cx
namespace Go.Proofs.YtpaglaakleajmaaGreatDoor
open Go.ChangeShapes Go.WideShapes Go.ChangeAt Go.RowKit Go.Lib
theorem aByecontract (H : Type) (enc : TypeId × Value → H) (W : World) (base : Nat) (args : Array Value) (ds gs : List (DataW H)) (before : List MemPlace)
    (hval : ∀ (j : Nat) t v, Tryz.f4.params[j]? = some t → args[j]? = some v → Value.okWide Tryz.prog W .any base t v)
    (hW : DataW.Whole enc Tryz.prog Tryz.f4.params.toList Rows.serverByeSpec.vars false W args.toList ds gs before) :
    Calls Tryz.prog 4 args W fun e W' => ∃ v, e = .returned v ∧ Rows.serverByeSpec.post enc Tryz.prog Tryz.f4 false true false false W args v W' := by
  have hW' := hW
  obtain ⟨p, q, hA0, hV, rfl, hfz, hnd⟩ := hW
  have hA : DataW.TrodAll enc Tryz.prog W 0 (fun _ => true) true Tryz.f4.params.toList args.toList ds p := hA0
  rw [Tryz.params4] at hA hval
  obtain ⟨v0, vs0, d0, ds0, p0, q0, hargs, rfl, rfl, h0, r0⟩ := trodAll_cons hA
  obtain ⟨rfl, rfl, rfl⟩ := trodAll_nil r0
  obtain rfl : args = #[v0] := by cases args; simp_all
  obtain ⟨rfl, rfl⟩ := trodVars_none hV
  obtain ⟨x, y, m, rfl, rfl, rfl, wx, wy, wm⟩ := open_lock (hval 0 47 v0 rfl rfl) h0
  clear hA0
  simp only [List.append_nil] at hW'
  refine (Cx.bye_all x y m (wf_range wx) (wf_range wy) (wf_range wm) W).mono fun e W' ⟨he, hb⟩ => ?_
  subst he
  exact ⟨_, rfl, _, _, _, [], [], [], hW', trodAll_cons_mk (shut_bool Tryz.underlying4 _) trodAll_mk0, trodAll_cons_mk (shut_lock wx wy wm) trodAll_mk0, rfl, hb.frame _, fun h => by cases h⟩
end Go.Proofs.YtpaglaakleajmaaGreatDoor
