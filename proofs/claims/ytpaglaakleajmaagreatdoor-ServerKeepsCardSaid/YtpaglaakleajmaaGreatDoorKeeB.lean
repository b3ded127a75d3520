/- ServerKeeps: at whatever input, in whatever world: true. -/
import Derived.Test.YtpaglaakleajmaaGreatDoorKeeA
import Derived.Test.YtpaglaakleajmaaGreatDoorKeeM
import Derived.Test.YtpaglaakleajmaaGreatDoorK3
set_option maxRecDepth 100000
set_option linter.unusedVariables false
set_option linter.unusedSimpArgs false
namespace Go.Cx
open Go.Proofs Go.RowKit
theorem kee_main (x y : Int) (T : Nat) (hx : 0 ≤ x) (hxy : x < y) (hy : y ≤ 4096) (hT : T ≤ 30) (W : World) :
    Calls Tryz.prog 11 #[.agg #[.int .i64 x, .int .i64 y, .int .i64 2], .int .i64 T] W fun e w' => e = .returned (.bool true) ∧ Below W.heap.size W w' := by
  refine law_loop (E := envL [x, y, 2, T, T] fun _ => default) (F := keeF) (F1 := keeF1) (F2 := keeF2) (ext := extN) (k := 9) (o := 5) (T := T) (I := keeI) (O := keeO) Tryz.func11 kee_body kee_call extN_ok (by omega) (by simp [Env.val, envL]) (by simp [Env.val, envL]) ?_ (fun i hi => ?_) ?_ kee_cnt kee_isL kee_r1 kee_r2 kee_r3 ?_
  · exact fxL_ok (by simp [Env.val, envL]; omega) (by simp [Env.val, envL]; omega) (by simp)
  · exact fxL_ok (by simp [Env.set, Env.val, envL]; omega) (by simp [Env.set, Env.val, envL]; omega) (by simp)
  · exact fxL_ok (by simp [Env.set, Env.val, envL]; omega) (by simp [Env.set, Env.val, envL]; omega) (by simp)
  · exact ⟨⟨_, rfl, by simp [VC, Env.val, envL], by simp [VC, Env.val, envL], by simp [VC, Env.val, envL], trivial⟩, by simp [VV, VA, VC, Env.val, envL], trivial⟩
theorem kee_all (x y m i : Int) (hx : minI ≤ x ∧ x ≤ maxI) (hy : minI ≤ y ∧ y ≤ maxI) (hm : minI ≤ m ∧ m ≤ maxI) (hi : minI ≤ i ∧ i ≤ maxI) (W : World) :
    Calls Tryz.prog 11 #[.agg #[.int .i64 x, .int .i64 y, .int .i64 m], .int .i64 i] W fun e w' => e = .returned (.bool true) ∧ Below W.heap.size W w' := by
  have hmin : minI = -9223372036854775808 := rfl
  have hmax : maxI = 9223372036854775807 := rfl
  have args : LR (VV (envL [x, y, m, i] fun _ => default) be0 0) [lockS (.int .i64 3 0), .a (.s (.int .i64 4 0))] (#[.agg #[.int .i64 x, .int .i64 y, .int .i64 m], .int .i64 i] : Array Value).toList :=
    ⟨⟨_, rfl, by simp [VC, Env.val, envL], by simp [VC, Env.val, envL], by simp [VC, Env.val, envL], trivial⟩, by simp [VV, VA, VC, Env.val, envL], trivial⟩
  by_cases h1 : x < 0
  · exact law_all keeA1 [x, y, m, i] _ extJ_ok W _ (by simp [Env.val, envL]; omega) (by simp) (by simp) args
  by_cases h2 : y ≤ x
  · exact law_all keeA2 [x, y, m, i] _ extJ_ok W _ (by simp [Env.val, envL]; omega) (by simp [Env.val, envL]; omega) (by simp) args
  by_cases h3 : 4096 < y
  · exact law_all keeA3 [x, y, m, i] _ extJ_ok W _ (by simp [Env.val, envL]; omega) (by simp [Env.val, envL]; omega) (by simp) args
  by_cases h4 : m < 2
  · exact law_all keeA4 [x, y, m, i] _ extJ_ok W _ (by simp [Env.val, envL]; omega) (by simp [Env.val, envL]; omega) (by simp) args
  by_cases h5 : 2 < m
  · exact law_all keeA5 [x, y, m, i] _ extJ_ok W _ (by simp [Env.val, envL]; omega) (by simp [Env.val, envL]; omega) (by simp) args
  obtain rfl : m = 2 := by omega
  have args2 : LR (VV (envL [x, y, 2, i] fun _ => default) be0 0) [lockS (.int .i64 0 2), .a (.s (.int .i64 4 0))] (#[.agg #[.int .i64 x, .int .i64 y, .int .i64 2], .int .i64 i] : Array Value).toList :=
    ⟨⟨_, rfl, by simp [VC, Env.val, envL], by simp [VC, Env.val, envL], by simp [VC, Env.val, envL], trivial⟩, by simp [VV, VA, VC, Env.val, envL], trivial⟩
  by_cases h6 : i < 0
  · exact law_all keeA6 [x, y, 2, i] _ extJ_ok W _ (by simp [Env.val, envL]; omega) (by simp [Env.val, envL]; omega) (by simp) args2
  by_cases h7 : 30 < i
  · exact law_all keeA7 [x, y, 2, i] _ extJ_ok W _ (by simp [Env.val, envL]; omega) (by simp [Env.val, envL]; omega) (by simp) args2
  · obtain ⟨T, rfl⟩ := Int.eq_ofNat_of_zero_le (by omega : 0 ≤ i)
    exact kee_main x y T (by omega) (by omega) (by omega) (by omega) W
end Go.Cx
namespace Go.Proofs.YtpaglaakleajmaaGreatDoor
open Go.ChangeShapes Go.WideShapes Go.ChangeAt Go.RowKit Go.Lib
theorem aKeecontract (H : Type) (enc : TypeId × Value → H) (W : World) (base : Nat) (args : Array Value) (ds gs : List (DataW H)) (before : List MemPlace)
    (hval : ∀ (j : Nat) t v, Tryz.f11.params[j]? = some t → args[j]? = some v → Value.okWide Tryz.prog W .any base t v)
    (hW : DataW.Whole enc Tryz.prog Tryz.f11.params.toList Rows.serverKeepsSpec.vars false W args.toList ds gs before) :
    Calls Tryz.prog 11 args W fun e W' => ∃ v, e = .returned v ∧ Rows.serverKeepsSpec.post enc Tryz.prog Tryz.f11 false true false false W args v W' := by
  have hW' := hW
  obtain ⟨p, q, hA0, hV, rfl, hfz, hnd⟩ := hW
  have hA : DataW.TrodAll enc Tryz.prog W 0 (fun _ => true) true Tryz.f11.params.toList args.toList ds p := hA0
  rw [Tryz.params11] at hA hval
  obtain ⟨v0, vs0, d0, ds0, p0, q0, hargs, rfl, rfl, h0, r0⟩ := trodAll_cons hA
  obtain ⟨v1, vs1, d1, ds1, p1, q1, rfl, rfl, rfl, h1, r1⟩ := trodAll_cons r0
  obtain ⟨rfl, rfl, rfl⟩ := trodAll_nil r1
  obtain rfl : args = #[v0, v1] := by cases args; simp_all
  obtain ⟨rfl, rfl⟩ := trodVars_none hV
  obtain ⟨x0, y0, m0, rfl, rfl, rfl, wx0, wy0, wm0⟩ := open_lock (hval 0 47 v0 rfl rfl) h0
  obtain ⟨i1, rfl, rfl, rfl, wi1⟩ := open_int Tryz.underlying3 (hval 1 3 v1 rfl rfl) h1
  clear hA0
  simp only [List.append_nil] at hW'
  refine (Cx.kee_all _ _ _ _ (wf_range wx0) (wf_range wy0) (wf_range wm0) (wf_range wi1) W).mono fun e W' ⟨he, hb⟩ => ?_
  subst he
  exact ⟨_, rfl, _, _, _, [], [], [], hW', trodAll_cons_mk (shut_bool Tryz.underlying4 _) trodAll_mk0, (trodAll_cons_mk (shut_lock wx0 wy0 wm0) (trodAll_cons_mk (shut_int Tryz.underlying3 wi1) trodAll_mk0)), rfl, hb.frame _, fun h => by cases h⟩
end Go.Proofs.YtpaglaakleajmaaGreatDoor
