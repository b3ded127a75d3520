/- The contracts that ServerStale uses: msg.Valid and msg.Up at its message. -/
import Derived.Test.YtpaglaakleajmaaGreatDoorV3
import Derived.Test.YtpaglaakleajmaaGreatDoorN3
set_option maxRecDepth 100000
set_option linter.unusedVariables false
set_option linter.unusedSimpArgs false
namespace Go.Cx
open Go.Proofs Go.RowKit
def eVal (m0 : SV) (b : Bool) (args : List SV) (h : Hp) (n : Nat) : Option (SV × Hp × Nat) := match args with
  | [x] => match svEq x m0 with
    | true => some (sc (.bool b), h, n)
    | false => none
  | _ => none
theorem eVal_ok {E : Env} {f : Nat} {m0 : SV} {mv : Value} {b : Bool} (hca : callable Tryz.prog f = true) (hm : ∀ B n v, VV E B n m0 v → v = mv)
    (hc : ∀ w : World, (∀ r o, E.fx r = some o → w.heap[r]? = some o) → Calls Tryz.prog f #[mv] w fun e w' => e = .returned (.bool b) ∧ Below w.heap.size w w') : CallOk Tryz.prog E f (eVal m0 b) := by
  intro args h n v h' n' hr B X w vs H hl
  refine ⟨run_callable hca vs w, ?_⟩
  unfold eVal at hr
  split at hr
  · rename_i x
    split at hr
    · rename_i he
      have he := svEq_ok he
      subst he
      simp only [Option.some.injEq, Prod.mk.injEq] at hr
      obtain ⟨rfl, rfl, rfl⟩ := hr
      obtain ⟨u, e1, hu⟩ := hl.one
      have hu := hm _ _ _ hu
      have hvs : vs = #[mv] := Array.ext' (by rw [e1, hu])
      subst hvs
      refine (hc w fun r o ho => (H.fix r o ho).2).mono ?_
      rintro e w' ⟨rfl, hb⟩
      obtain ⟨H', F'⟩ := H.below hb
      exact ⟨_, B, rfl, Ext.refl _ _, Nat.le_refl _, H', F', rfl⟩
    · cases hr
  · cases hr
/-! ### msg.Up -/
noncomputable def upT (b : Bool) (c : Int) : Bool := saysB b (runT F0 noE 35 [.a (.s (.int .i64 0 c))] .e 0)
theorem up2 : upT false 2 = true := by decide +kernel
theorem up3 : upT true 3 = true := by decide +kernel
theorem up4 : upT false 4 = true := by decide +kernel
theorem up5 : upT true 5 = true := by decide +kernel
theorem up6 : upT false 6 = true := by decide +kernel
theorem up7 : upT false 7 = true := by decide +kernel
theorem up8 : upT false 8 = true := by decide +kernel
theorem up9 : upT true 9 = true := by decide +kernel
theorem up10 : upT false 10 = true := by decide +kernel
theorem up11 : upT true 11 = true := by decide +kernel
theorem up12 : upT false 12 = true := by decide +kernel
theorem up13 : upT true 13 = true := by decide +kernel
theorem up14 : upT true 14 = true := by decide +kernel
theorem up15 : upT true 15 = true := by decide +kernel
theorem up_run {b : Bool} {c : Int} (h : upT b c = true) (w : World) : Calls Tryz.prog 35 #[.int .i64 c] w fun e w' => e = .returned (.bool b) ∧ Below w.heap.size w w' := by
  refine saysB_run (E := envL [] fun _ => default) (runT_ok (F0_ok _) (noE_ok _) 35) h w _ ⟨by simp [VV, VA, VC, Env.val], trivial⟩ envL_fx
theorem up_some {k : Int} (h : 2 ≤ k ∧ k ≤ 15) : ∃ b, ∀ w : World, Calls Tryz.prog 35 #[.int .i64 k] w fun e w' => e = .returned (.bool b) ∧ Below w.heap.size w w' := by
  rcases (by omega : k = 2 ∨ k = 3 ∨ k = 4 ∨ k = 5 ∨ k = 6 ∨ k = 7 ∨ k = 8 ∨ k = 9 ∨ k = 10 ∨ k = 11 ∨ k = 12 ∨ k = 13 ∨ k = 14 ∨ k = 15) with rfl | rfl | rfl | rfl | rfl | rfl | rfl | rfl | rfl | rfl | rfl | rfl | rfl | rfl
  · exact ⟨_, up_run up2⟩
  · exact ⟨_, up_run up3⟩
  · exact ⟨_, up_run up4⟩
  · exact ⟨_, up_run up5⟩
  · exact ⟨_, up_run up6⟩
  · exact ⟨_, up_run up7⟩
  · exact ⟨_, up_run up8⟩
  · exact ⟨_, up_run up9⟩
  · exact ⟨_, up_run up10⟩
  · exact ⟨_, up_run up11⟩
  · exact ⟨_, up_run up12⟩
  · exact ⟨_, up_run up13⟩
  · exact ⟨_, up_run up14⟩
  · exact ⟨_, up_run up15⟩
/-! ### the runs' contracts -/
noncomputable def extS (F : Fx) (m0 : SV) (b : Bool) (k0 : SV) (u : Bool) (f : Nat) : Option (List SV → Hp → Nat → Option (SV × Hp × Nat)) :=
  match Nat.beq f 34 with
  | true => some (orE (eVal m0 b) (runT F extJ 34))
  | false => match Nat.beq f 35 with
    | true => some (orE (eVal k0 u) (runT F extJ 35))
    | false => extJ f
theorem extS_ok {E : Env} {F : Fx} (hF : FxOk F E) {m0 k0 : SV} {b u : Bool} (h1 : CallOk Tryz.prog E 34 (eVal m0 b)) (h2 : CallOk Tryz.prog E 35 (eVal k0 u)) : ∀ f e, extS F m0 b k0 u f = some e → CallOk Tryz.prog E f e := by
  intro f e h
  unfold extS at h
  split at h
  · rename_i hf
    cases Nat.eq_of_beq_eq_true hf; cases h
    exact orE_ok h1 (runT_ok hF (extJ_ok E) 34)
  · split at h
    · rename_i hf
      cases Nat.eq_of_beq_eq_true hf; cases h
      exact orE_ok h2 (runT_ok hF (extJ_ok E) 35)
    · exact extJ_ok E f e h
def lockS2 : SV := .a (.g [.int .i64 11 0, .int .i64 12 0, .int .i64 13 0])
def staF (r : List (Nat × Int × Int)) : Fx := fxL ((8, 0, 20) :: (11, 0, 4095) :: (12, 1, 4096) :: r) [(11, 12, -1), (12, 11, 4096)] [(1, 8)]
noncomputable def extV (F : Fx) (m0 : SV) (f : Nat) : Option (List SV → Hp → Nat → Option (SV × Hp × Nat)) :=
  match Nat.beq f 34 with
  | true => some (orE (eVal m0 false) (runT F extJ 34))
  | false => extJ f
theorem extV_ok {E : Env} {F : Fx} (hF : FxOk F E) {m0 : SV} (h1 : CallOk Tryz.prog E 34 (eVal m0 false)) : ∀ f e, extV F m0 f = some e → CallOk Tryz.prog E f e := by
  intro f e h
  unfold extV at h
  split at h
  · rename_i hf
    cases Nat.eq_of_beq_eq_true hf; cases h
    exact orE_ok h1 (runT_ok hF (extJ_ok E) 34)
  · exact extJ_ok E f e h
noncomputable def staJ (K G P : SC) (r : List (Nat × Int × Int)) : Bool := saysTrue (runT (staF r) extJ 7 [msgS K G P, lockS2] .e 0)
noncomputable def staV (K G P : SC) (r : List (Nat × Int × Int)) : Bool := saysTrue (runT (staF r) (extV (staF r) (msgS K G P)) 7 [msgS K G P, lockS2] .e 0)
noncomputable def staU (u : Bool) (K G P : SC) (r : List (Nat × Int × Int)) : Bool := saysTrue (runT (staF r) (extS (staF r) (msgS K G P) true (.a (.s K)) u) 7 [msgS K G P, lockS2] .e 0)
theorem sta_1 : lawT extJ 7 [(8, 21, maxI)] [] [(1, 8)] [msgV, lockS2] = true := by decide +kernel
theorem sta_2 : lawT extJ 7 [(8, 0, 20), (11, minI, -1)] [] [(1, 8)] [msgV, lockS2] = true := by decide +kernel
theorem sta_3 : lawT extJ 7 [(8, 0, 20), (11, 0, maxI)] [(12, 11, 0)] [(1, 8)] [msgV, lockS2] = true := by decide +kernel
theorem sta_4 : lawT extJ 7 [(8, 0, 20), (11, 0, maxI), (12, 4097, maxI)] [(11, 12, -1)] [(1, 8)] [msgV, lockS2] = true := by decide +kernel
end Go.Cx
