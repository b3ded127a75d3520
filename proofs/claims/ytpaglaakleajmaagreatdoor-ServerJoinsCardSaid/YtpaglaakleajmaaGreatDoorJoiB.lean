/- ServerJoins: at whatever input, in whatever world: true. -/
import Derived.Test.YtpaglaakleajmaaGreatDoorJoiA3
import Derived.Test.YtpaglaakleajmaaGreatDoorK1
set_option maxRecDepth 100000
set_option linter.unusedVariables false
set_option linter.unusedSimpArgs false
namespace Go.Cx
open Go.Proofs Go.RowKit
theorem joi_all (x y : Int) (hx : minI ≤ x ∧ x ≤ maxI) (hy : minI ≤ y ∧ y ≤ maxI) (W : World) :
    Calls Tryz.prog 3 #[.int .i64 x, .int .i64 y] W fun e w' => e = .returned (.bool true) ∧ Below W.heap.size W w' := by
  have hmin : minI = -9223372036854775808 := rfl
  have hmax : maxI = 9223372036854775807 := rfl
  have args : LR (VV (envL [x, y] fun _ => default) be0 0) [.a (.s (.int .i64 1 0)), .a (.s (.int .i64 2 0))] (#[.int .i64 x, .int .i64 y] : Array Value).toList :=
    ⟨by simp [VV, VA, VC, Env.val, envL], by simp [VV, VA, VC, Env.val, envL], trivial⟩
  by_cases h1 : x < 1
  · exact law_all joi1 [x, y] _ extJ_ok W _ (by simp [Env.val, envL]; omega) (by simp) (by simp) args
  by_cases h2 : 3 < x
  · exact law_all joi2 [x, y] _ extJ_ok W _ (by simp [Env.val, envL]; omega) (by simp) (by simp) args
  by_cases h3 : y < 1
  · exact law_all joi3 [x, y] _ extJ_ok W _ (by simp [Env.val, envL]; omega) (by simp) (by simp) args
  by_cases h4 : 1000 < y
  · exact law_all joi4 [x, y] _ extJ_ok W _ (by simp [Env.val, envL]; omega) (by simp) (by simp) args
  have args2 : ∀ c : Int, LR (VV (envL [c, y] fun _ => default) be0 0) [.a (.s (.int .i64 0 c)), .a (.s (.int .i64 2 0))] (#[.int .i64 c, .int .i64 y] : Array Value).toList := fun c =>
    ⟨by simp [VV, VA, VC, Env.val, envL], by simp [VV, VA, VC, Env.val, envL], trivial⟩
  rcases (by omega : x = 1 ∨ x = 2 ∨ x = 3) with rfl | rfl | rfl
  · exact law_all joiM1 [1, y] _ extJ_ok W _ (by simp [Env.val, envL]; omega) (by simp) (by simp) (args2 1)
  · exact law_all joiM2 [2, y] _ extJ_ok W _ (by simp [Env.val, envL]; omega) (by simp) (by simp) (args2 2)
  · exact law_all joiM3 [3, y] _ extJ_ok W _ (by simp [Env.val, envL]; omega) (by simp) (by simp) (args2 3)
end Go.Cx
namespace Go.Proofs.YtpaglaakleajmaaGreatDoor
open Go.ChangeShapes Go.WideShapes Go.ChangeAt Go.RowKit Go.Lib
theorem aJoicontract (H : Type) (enc : TypeId × Value → H) (W : World) (base : Nat) (args : Array Value) (ds gs : List (DataW H)) (before : List MemPlace)
    (hval : ∀ (j : Nat) t v, Tryz.f3.params[j]? = some t → args[j]? = some v → Value.okWide Tryz.prog W .any base t v)
    (hW : DataW.Whole enc Tryz.prog Tryz.f3.params.toList Rows.serverJoinsSpec.vars false W args.toList ds gs before) :
    Calls Tryz.prog 3 args W fun e W' => ∃ v, e = .returned v ∧ Rows.serverJoinsSpec.post enc Tryz.prog Tryz.f3 false true false false W args v W' := by
  have hW' := hW
  obtain ⟨p, q, hA0, hV, rfl, hfz, hnd⟩ := hW
  have hA : DataW.TrodAll enc Tryz.prog W 0 (fun _ => true) true Tryz.f3.params.toList args.toList ds p := hA0
  rw [Tryz.params3] at hA hval
  obtain ⟨v0, vs0, d0, ds0, p0, q0, hargs, rfl, rfl, h0, r0⟩ := trodAll_cons hA
  obtain ⟨v1, vs1, d1, ds1, p1, q1, rfl, rfl, rfl, h1, r1⟩ := trodAll_cons r0
  obtain ⟨rfl, rfl, rfl⟩ := trodAll_nil r1
  obtain rfl : args = #[v0, v1] := by cases args; simp_all
  obtain ⟨rfl, rfl⟩ := trodVars_none hV
  obtain ⟨i0, rfl, rfl, rfl, wi0⟩ := open_int Tryz.underlying3 (hval 0 3 v0 rfl rfl) h0
  obtain ⟨i1, rfl, rfl, rfl, wi1⟩ := open_int Tryz.underlying3 (hval 1 3 v1 rfl rfl) h1
  clear hA0
  simp only [List.append_nil] at hW'
  refine (Cx.joi_all _ _ (wf_range wi0) (wf_range wi1) W).mono fun e W' ⟨he, hb⟩ => ?_
  subst he
  exact ⟨_, rfl, _, _, _, [], [], [], hW', trodAll_cons_mk (shut_bool Tryz.underlying4 _) trodAll_mk0, (trodAll_cons_mk (shut_int Tryz.underlying3 wi0) (trodAll_cons_mk (shut_int Tryz.underlying3 wi1) trodAll_mk0)), rfl, hb.frame _, fun h => by cases h⟩
end Go.Proofs.YtpaglaakleajmaaGreatDoor
