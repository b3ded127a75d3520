/- ServerAsks: at whatever input, in whatever world: true. -/
import Derived.Test.YtpaglaakleajmaaGreatDoorAskA
import Derived.Test.YtpaglaakleajmaaGreatDoorAsk1M
import Derived.Test.YtpaglaakleajmaaGreatDoorAsk2M
import Derived.Test.YtpaglaakleajmaaGreatDoorK3
set_option maxRecDepth 100000
set_option linter.unusedVariables false
set_option linter.unusedSimpArgs false
namespace Go.Cx
open Go.Proofs Go.RowKit
theorem ask_main1 (x y : Int) (T : Nat) (hx : 0 ≤ x) (hxy : x < y) (hy : y ≤ 4096) (hT : T ≤ 40) (W : World) :
    Calls Tryz.prog 6 #[.agg #[.int .i64 x, .int .i64 y, .int .i64 1], .int .i64 T] W fun e w' => e = .returned (.bool true) ∧ Below W.heap.size W w' := by
  refine law_loop (E := envL [x, y, 1, T, T] fun _ => default) (F := ask1F) (F1 := fun i => ask1F1 (i % 8)) (F2 := ask1F2) (ext := extN) (k := 9) (o := 5) (T := T) (I := ask1I) (O := ask1O) Tryz.func6 ask1_body ask1_call extN_ok (by omega) (by simp [Env.val, envL]) (by simp [Env.val, envL]) ?_ (fun i hi => ?_) ?_ ask1_cnt ask1_isL (fun i _ => ?_) ask1_r2 ask1_r3 ?_
  · exact fxL_ok (by simp [Env.val, envL]; omega) (by simp [Env.val, envL]; omega) (by simp)
  · exact fxM_ok (by simp [Env.set, Env.val, envL]; omega) (by simp [Env.set, Env.val, envL]; omega) (by simp [Env.set, Env.val])
  · exact fxL_ok (by simp [Env.set, Env.val, envL]; omega) (by simp [Env.set, Env.val, envL]; omega) (by simp)
  · rcases (by omega : i % 8 = 0 ∨ i % 8 = 1 ∨ i % 8 = 2 ∨ i % 8 = 3 ∨ i % 8 = 4 ∨ i % 8 = 5 ∨ i % 8 = 6 ∨ i % 8 = 7) with h | h | h | h | h | h | h | h <;> rw [h]
    · exact ask1_r1_0
    · exact ask1_r1_1
    · exact ask1_r1_2
    · exact ask1_r1_3
    · exact ask1_r1_4
    · exact ask1_r1_5
    · exact ask1_r1_6
    · exact ask1_r1_7
  · exact ⟨⟨_, rfl, by simp [VC, Env.val, envL], by simp [VC, Env.val, envL], by simp [VC, Env.val, envL], trivial⟩, by simp [VV, VA, VC, Env.val, envL], trivial⟩
theorem ask_main2 (x y : Int) (T : Nat) (hx : 0 ≤ x) (hxy : x < y) (hy : y ≤ 4096) (hT : T ≤ 40) (W : World) :
    Calls Tryz.prog 6 #[.agg #[.int .i64 x, .int .i64 y, .int .i64 2], .int .i64 T] W fun e w' => e = .returned (.bool true) ∧ Below W.heap.size W w' := by
  refine law_loop (E := envL [x, y, 2, T, T] fun _ => default) (F := ask2F) (F1 := fun i => ask2F1 (i % 8)) (F2 := ask2F2) (ext := extN) (k := 9) (o := 5) (T := T) (I := ask2I) (O := ask2O) Tryz.func6 ask2_body ask2_call extN_ok (by omega) (by simp [Env.val, envL]) (by simp [Env.val, envL]) ?_ (fun i hi => ?_) ?_ ask2_cnt ask2_isL (fun i _ => ?_) ask2_r2 ask2_r3 ?_
  · exact fxL_ok (by simp [Env.val, envL]; omega) (by simp [Env.val, envL]; omega) (by simp)
  · exact fxM_ok (by simp [Env.set, Env.val, envL]; omega) (by simp [Env.set, Env.val, envL]; omega) (by simp [Env.set, Env.val])
  · exact fxL_ok (by simp [Env.set, Env.val, envL]; omega) (by simp [Env.set, Env.val, envL]; omega) (by simp)
  · rcases (by omega : i % 8 = 0 ∨ i % 8 = 1 ∨ i % 8 = 2 ∨ i % 8 = 3 ∨ i % 8 = 4 ∨ i % 8 = 5 ∨ i % 8 = 6 ∨ i % 8 = 7) with h | h | h | h | h | h | h | h <;> rw [h]
    · exact ask2_r1_0
    · exact ask2_r1_1
    · exact ask2_r1_2
    · exact ask2_r1_3
    · exact ask2_r1_4
    · exact ask2_r1_5
    · exact ask2_r1_6
    · exact ask2_r1_7
  · exact ⟨⟨_, rfl, by simp [VC, Env.val, envL], by simp [VC, Env.val, envL], by simp [VC, Env.val, envL], trivial⟩, by simp [VV, VA, VC, Env.val, envL], trivial⟩
theorem ask_all (x y m i : Int) (hx : minI ≤ x ∧ x ≤ maxI) (hy : minI ≤ y ∧ y ≤ maxI) (hm : minI ≤ m ∧ m ≤ maxI) (hi : minI ≤ i ∧ i ≤ maxI) (W : World) :
    Calls Tryz.prog 6 #[.agg #[.int .i64 x, .int .i64 y, .int .i64 m], .int .i64 i] W fun e w' => e = .returned (.bool true) ∧ Below W.heap.size W w' := by
  have hmin : minI = -9223372036854775808 := rfl
  have hmax : maxI = 9223372036854775807 := rfl
  have args : LR (VV (envL [x, y, m, i] fun _ => default) be0 0) [lockS (.int .i64 3 0), .a (.s (.int .i64 4 0))] (#[.agg #[.int .i64 x, .int .i64 y, .int .i64 m], .int .i64 i] : Array Value).toList :=
    ⟨⟨_, rfl, by simp [VC, Env.val, envL], by simp [VC, Env.val, envL], by simp [VC, Env.val, envL], trivial⟩, by simp [VV, VA, VC, Env.val, envL], trivial⟩
  by_cases h1 : x < 0
  · exact law_all askA1 [x, y, m, i] _ extJ_ok W _ (by simp [Env.val, envL]; omega) (by simp) (by simp) args
  by_cases h2 : y ≤ x
  · exact law_all askA2 [x, y, m, i] _ extJ_ok W _ (by simp [Env.val, envL]; omega) (by simp [Env.val, envL]; omega) (by simp) args
  by_cases h3 : 4096 < y
  · exact law_all askA3 [x, y, m, i] _ extJ_ok W _ (by simp [Env.val, envL]; omega) (by simp [Env.val, envL]; omega) (by simp) args
  by_cases h4 : m < 1
  · exact law_all askA4 [x, y, m, i] _ extJ_ok W _ (by simp [Env.val, envL]; omega) (by simp [Env.val, envL]; omega) (by simp) args
  by_cases h5 : 2 < m
  · exact law_all askA5 [x, y, m, i] _ extJ_ok W _ (by simp [Env.val, envL]; omega) (by simp [Env.val, envL]; omega) (by simp) args
  by_cases h6 : i < 0
  · exact law_all askA6 [x, y, m, i] _ extJ_ok W _ (by simp [Env.val, envL]; omega) (by simp [Env.val, envL]; omega) (by simp) args
  by_cases h7 : 40 < i
  · exact law_all askA7 [x, y, m, i] _ extJ_ok W _ (by simp [Env.val, envL]; omega) (by simp [Env.val, envL]; omega) (by simp) args
  obtain ⟨T, rfl⟩ := Int.eq_ofNat_of_zero_le (by omega : 0 ≤ i)
  rcases (by omega : m = 1 ∨ m = 2) with rfl | rfl
  · exact ask_main1 x y T (by omega) (by omega) (by omega) (by omega) W
  · exact ask_main2 x y T (by omega) (by omega) (by omega) (by omega) W
end Go.Cx
namespace Go.Proofs.YtpaglaakleajmaaGreatDoor
open Go.ChangeShapes Go.WideShapes Go.ChangeAt Go.RowKit Go.Lib
theorem aAskcontract (H : Type) (enc : TypeId × Value → H) (W : World) (base : Nat) (args : Array Value) (ds gs : List (DataW H)) (before : List MemPlace)
    (hval : ∀ (j : Nat) t v, Tryz.f6.params[j]? = some t → args[j]? = some v → Value.okWide Tryz.prog W .any base t v)
    (hW : DataW.Whole enc Tryz.prog Tryz.f6.params.toList Rows.serverAsksSpec.vars false W args.toList ds gs before) :
    Calls Tryz.prog 6 args W fun e W' => ∃ v, e = .returned v ∧ Rows.serverAsksSpec.post enc Tryz.prog Tryz.f6 false true false false W args v W' := by
  have hW' := hW
  obtain ⟨p, q, hA0, hV, rfl, hfz, hnd⟩ := hW
  have hA : DataW.TrodAll enc Tryz.prog W 0 (fun _ => true) true Tryz.f6.params.toList args.toList ds p := hA0
  rw [Tryz.params6] at hA hval
  obtain ⟨v0, vs0, d0, ds0, p0, q0, hargs, rfl, rfl, h0, r0⟩ := trodAll_cons hA
  obtain ⟨v1, vs1, d1, ds1, p1, q1, rfl, rfl, rfl, h1, r1⟩ := trodAll_cons r0
  obtain ⟨rfl, rfl, rfl⟩ := trodAll_nil r1
  obtain rfl : args = #[v0, v1] := by cases args; simp_all
  obtain ⟨rfl, rfl⟩ := trodVars_none hV
  obtain ⟨x0, y0, m0, rfl, rfl, rfl, wx0, wy0, wm0⟩ := open_lock (hval 0 47 v0 rfl rfl) h0
  obtain ⟨i1, rfl, rfl, rfl, wi1⟩ := open_int Tryz.underlying3 (hval 1 3 v1 rfl rfl) h1
  clear hA0
  simp only [List.append_nil] at hW'
  refine (Cx.ask_all _ _ _ _ (wf_range wx0) (wf_range wy0) (wf_range wm0) (wf_range wi1) W).mono fun e W' ⟨he, hb⟩ => ?_
  subst he
  exact ⟨_, rfl, _, _, _, [], [], [], hW', trodAll_cons_mk (shut_bool Tryz.underlying4 _) trodAll_mk0, (trodAll_cons_mk (shut_lock wx0 wy0 wm0) (trodAll_cons_mk (shut_int Tryz.underlying3 wi1) trodAll_mk0)), rfl, hb.frame _, fun h => by cases h⟩
end Go.Proofs.YtpaglaakleajmaaGreatDoor
