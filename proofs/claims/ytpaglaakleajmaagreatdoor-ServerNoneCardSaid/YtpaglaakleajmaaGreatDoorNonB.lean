/- ServerNone: at whatever input, in whatever world: true. -/
import Derived.Test.YtpaglaakleajmaaGreatDoorNonA
import Derived.Test.YtpaglaakleajmaaGreatDoorK3
import Derived.Test.YtpaglaakleajmaaGreatDoorK4
set_option maxRecDepth 100000
set_option linter.unusedVariables false
set_option linter.unusedSimpArgs false
namespace Go.Cx
open Go.Proofs Go.RowKit
theorem non_all (k i nd g st ep er : Int) (a : Option Addr) (len cap : Nat) (gen : Int) (hlen : (len : Int) ≤ maxI) (hg : minI ≤ gen ∧ gen ≤ maxI) (W : World) :
    Calls Tryz.prog 10 #[.agg #[.int .i64 k, .int .i64 i, .int .i64 nd, .int .i64 g, .int .i64 st, .int .u64 ep, .int .i64 er, .slice a len cap], .int .i64 gen] W fun e w' => e = .returned (.bool true) ∧ Below W.heap.size W w' := by
  have hmin : minI = -9223372036854775808 := rfl
  have hmax : maxI = 9223372036854775807 := rfl
  have args : LR (VV (envL [k, i, nd, g, st, ep, er, len, gen] (etaS a len cap)) be0 0) [msgS (.int .i64 1 0) (.int .i64 4 0) (.int .u64 6 0), .a (.s (.int .i64 9 0))] (#[.agg #[.int .i64 k, .int .i64 i, .int .i64 nd, .int .i64 g, .int .i64 st, .int .u64 ep, .int .i64 er, .slice a len cap], .int .i64 gen] : Array Value).toList :=
    ⟨⟨_, rfl, by simp [VC, Env.val, envL], by simp [VC, Env.val, envL], by simp [VC, Env.val, envL], by simp [VC, Env.val, envL], by simp [VC, Env.val, envL], by simp [VC, Env.val, envL], by simp [VC, Env.val, envL], ⟨rfl, rfl⟩, trivial⟩, by simp [VV, VA, VC, Env.val, envL], trivial⟩
  have h8 : (envL [k, i, nd, g, st, ep, er, len, gen] (etaS a len cap)).val 8 = len := by simp [Env.val, envL]
  by_cases h1 : 20 < len
  · exact law_all non1 _ _ extJ_ok W _ (by simp [Env.val, envL]; omega) (by simp) (lenS h8) args
  by_cases h2 : gen ≤ 0
  · exact law_all non2 _ _ extJ_ok W _ (by simp [Env.val, envL]; omega) (by simp) (lenS h8) args
  · exact law_all non3 _ _ extJ_ok W _ (by simp [Env.val, envL]; omega) (by simp) (lenS h8) args
end Go.Cx
namespace Go.Proofs.YtpaglaakleajmaaGreatDoor
open Go.ChangeShapes Go.WideShapes Go.ChangeAt Go.RowKit Go.Lib
theorem rows38 : ∀ t ∈ ([38, 3] : List Nat), Tryz.prog.readableRec t = true ∧ t < Tryz.prog.types.size := by
  have h1 : Tryz.prog.readableRec 38 = true := by kernel_rfl
  have h2 : Tryz.prog.readableRec 3 = true := by kernel_rfl
  have h3 : Nat.blt 38 Tryz.prog.types.size = true := by kernel_rfl
  have h3 : 38 < Tryz.prog.types.size := Nat.le_of_ble_eq_true h3
  intro t ht
  simp only [List.mem_cons, List.not_mem_nil, or_false] at ht
  rcases ht with rfl | rfl
  · exact ⟨h1, h3⟩
  · exact ⟨h2, by omega⟩
theorem aNoncontract (H : Type) (enc : TypeId × Value → H) (W : World) (base : Nat) (args : Array Value) (ds gs : List (DataW H)) (before : List MemPlace)
    (hval : ∀ (j : Nat) t v, Tryz.f10.params[j]? = some t → args[j]? = some v → Value.okWide Tryz.prog W .any base t v)
    (hW : DataW.Whole enc Tryz.prog Tryz.f10.params.toList Rows.serverNoneSpec.vars false W args.toList ds gs before) :
    Calls Tryz.prog 10 args W fun e W' => ∃ v, e = .returned v ∧ Rows.serverNoneSpec.post enc Tryz.prog Tryz.f10 false true false false W args v W' := by
  refine close_law (ts := [38, 3]) (by rw [Tryz.params10]) rfl rfl (fun H ds h => ?_) rows38 hW ?_
  · match ds, h with
    | [d1, d2], _ => rfl
  · obtain ⟨p, q, hA0, _, _, _, _⟩ := hW
    have hA : DataW.TrodAll enc Tryz.prog W 0 (fun _ => true) true Tryz.f10.params.toList args.toList ds p := hA0
    rw [Tryz.params10] at hA hval
    obtain ⟨v0, vs0, d0, ds0, p0, q0, hargs, rfl, rfl, h0, r0⟩ := trodAll_cons hA
    obtain ⟨v1, vs1, d1, ds1, p1, q1, rfl, rfl, rfl, h1, r1⟩ := trodAll_cons r0
    obtain ⟨rfl, rfl, rfl⟩ := trodAll_nil r1
    obtain rfl : args = #[v0, v1] := by cases args; simp_all
    obtain ⟨k, i, nd, g, st, ep, er, a, len, cap, rfl, hlen, _⟩ := open_msg (hval 0 38 v0 rfl rfl)
    obtain ⟨gen, rfl, rfl, rfl, wg⟩ := open_int Tryz.underlying3 (hval 1 3 v1 rfl rfl) h1
    exact Cx.non_all k i nd g st ep er a len cap gen hlen (wf_range wg) W
end Go.Proofs.YtpaglaakleajmaaGreatDoor
