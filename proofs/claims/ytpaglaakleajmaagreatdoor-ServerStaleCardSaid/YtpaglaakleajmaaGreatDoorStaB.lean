/- ServerStale: at whatever input, in whatever world: true. -/
import Derived.Test.YtpaglaakleajmaaGreatDoorStaA
import Derived.Test.YtpaglaakleajmaaGreatDoorStaG
import Derived.Test.YtpaglaakleajmaaGreatDoorStaEa
import Derived.Test.YtpaglaakleajmaaGreatDoorStaEb
import Derived.Test.YtpaglaakleajmaaGreatDoorStaEc
import Derived.Test.YtpaglaakleajmaaGreatDoorV5
set_option maxRecDepth 100000
set_option linter.unusedVariables false
set_option linter.unusedSimpArgs false
namespace Go.Cx
open Go.Proofs Go.RowKit
section
variable {k i nd g st ep er x y mo : Int} {a : Option Addr} {len cap : Nat} {ob : Option Obj} {L : Nat → Int × Int × Int}
abbrev staE (k i nd g st ep er x y mo : Int) (a : Option Addr) (len cap : Nat) (ob : Option Obj) : Env := valE [k, i, nd, g, st, ep, er, len, 0, 0, x, y, mo] a len cap ob
theorem sta_msg {kv gv pv : Nat} {kc gc pc : Int} (hK : (staE k i nd g st ep er x y mo a len cap ob).val kv + kc = k) (hG : (staE k i nd g st ep er x y mo a len cap ob).val gv + gc = g) (hP : (staE k i nd g st ep er x y mo a len cap ob).val pv + pc = ep) (B : Be) (n : Nat) (v : Value)
    (h : VV (staE k i nd g st ep er x y mo a len cap ob) B n (msgS (.int .i64 kv kc) (.int .i64 gv gc) (.int .u64 pv pc)) v) : v = .agg #[.int .i64 k, .int .i64 i, .int .i64 nd, .int .i64 g, .int .i64 st, .int .u64 ep, .int .i64 er, .slice a len cap] := by
  obtain ⟨vs, rfl, hl⟩ := h
  obtain ⟨v0, r0, e0, h0, hl⟩ := hl.cons
  obtain ⟨v1, r1, rfl, h1, hl⟩ := hl.cons
  obtain ⟨v2, r2, rfl, h2, hl⟩ := hl.cons
  obtain ⟨v3, r3, rfl, h3, hl⟩ := hl.cons
  obtain ⟨v4, r4, rfl, h4, hl⟩ := hl.cons
  obtain ⟨v5, r5, rfl, h5, hl⟩ := hl.cons
  obtain ⟨v6, r6, rfl, h6, hl⟩ := hl.cons
  obtain ⟨v7, r7, rfl, h7, hl⟩ := hl.cons
  have := hl.nil
  subst this
  simp only [VC] at h0 h1 h2 h3 h4 h5 h6 h7
  rw [hK] at h0; rw [hG] at h3; rw [hP] at h5
  have q1 : (staE k i nd g st ep er x y mo a len cap ob).val 2 + 0 = i := by simp [Env.val, valE]
  have q2 : (staE k i nd g st ep er x y mo a len cap ob).val 3 + 0 = nd := by simp [Env.val, valE]
  have q4 : (staE k i nd g st ep er x y mo a len cap ob).val 5 + 0 = st := by simp [Env.val, valE]
  have q6 : (staE k i nd g st ep er x y mo a len cap ob).val 7 + 0 = er := by simp [Env.val, valE]
  rw [q1] at h1; rw [q2] at h2; rw [q4] at h4; rw [q6] at h6
  have h7 : v7 = .slice a len cap := h7.1
  congr 1
  exact Array.ext' (by rw [e0, h0, h1, h2, h3, h4, h5, h6, h7])
theorem sta_args {kv gv pv : Nat} {kc gc pc : Int} (hK : (staE k i nd g st ep er x y mo a len cap ob).val kv + kc = k) (hG : (staE k i nd g st ep er x y mo a len cap ob).val gv + gc = g) (hP : (staE k i nd g st ep er x y mo a len cap ob).val pv + pc = ep) :
    LR (VV (staE k i nd g st ep er x y mo a len cap ob) be0 0) [msgS (.int .i64 kv kc) (.int .i64 gv gc) (.int .u64 pv pc), lockS2] (#[.agg #[.int .i64 k, .int .i64 i, .int .i64 nd, .int .i64 g, .int .i64 st, .int .u64 ep, .int .i64 er, .slice a len cap], .agg #[.int .i64 x, .int .i64 y, .int .i64 mo]] : Array Value).toList :=
  ⟨⟨_, rfl, by simp only [VC]; rw [hK], by simp [VC, Env.val, valE], by simp [VC, Env.val, valE], by simp only [VC]; rw [hG], by simp [VC, Env.val, valE], by simp only [VC]; rw [hP], by simp [VC, Env.val, valE], ⟨rfl, rfl⟩, trivial⟩, ⟨_, rfl, by simp [VC, Env.val, valE], by simp [VC, Env.val, valE], by simp [VC, Env.val, valE], trivial⟩, trivial⟩
theorem sta_len : ∀ p ∈ [(1, 8)], ∃ a' len' cap', (staE k i nd g st ep er x y mo a len cap ob).η p.1 = .slice a' len' cap' ∧ (staE k i nd g st ep er x y mo a len cap ob).val p.2 = len' := by
  intro p hp
  simp only [List.mem_singleton] at hp
  subst hp
  exact ⟨a, len, cap, rfl, by simp [Env.val, valE]⟩
theorem sta_F {r : List (Nat × Int × Int)} (hl : len ≤ 20) (hx : 0 ≤ x) (hxy : x < y) (hy : y ≤ 4096) (hr : ∀ p ∈ r, p.2.1 ≤ (staE k i nd g st ep er x y mo a len cap ob).val p.1 ∧ (staE k i nd g st ep er x y mo a len cap ob).val p.1 ≤ p.2.2) : FxOk (staF r) (staE k i nd g st ep er x y mo a len cap ob) := by
  refine fxL_ok (fun p hp => ?_) (by simp [Env.val, valE]; omega) sta_len
  rcases List.mem_cons.1 hp with rfl | hp
  · simp [Env.val, valE]; omega
  rcases List.mem_cons.1 hp with rfl | hp
  · simp [Env.val, valE]; omega
  rcases List.mem_cons.1 hp with rfl | hp
  · simp [Env.val, valE]; omega
  · exact hr p hp
abbrev staV' (k i nd g st ep er x y mo : Int) (a : Option Addr) (len cap : Nat) : Array Value := #[.agg #[.int .i64 k, .int .i64 i, .int .i64 nd, .int .i64 g, .int .i64 st, .int .u64 ep, .int .i64 er, .slice a len cap], .agg #[.int .i64 x, .int .i64 y, .int .i64 mo]]
variable {kv gv pv : Nat} {kc gc pc : Int} {r : List (Nat × Int × Int)}
theorem sta_J (h : staJ (.int .i64 kv kc) (.int .i64 gv gc) (.int .u64 pv pc) r = true) (hK : (staE k i nd g st ep er x y mo a len cap ob).val kv + kc = k) (hG : (staE k i nd g st ep er x y mo a len cap ob).val gv + gc = g) (hP : (staE k i nd g st ep er x y mo a len cap ob).val pv + pc = ep)
    (hF : FxOk (staF r) (staE k i nd g st ep er x y mo a len cap ob)) (W : World) (hW : ∀ r o, fxOf a ob r = some o → W.heap[r]? = some o) : Calls Tryz.prog 7 (staV' k i nd g st ep er x y mo a len cap) W fun e w' => e = .returned (.bool true) ∧ Below W.heap.size W w' :=
  law_run hF (extJ_ok _) h W _ (sta_args hK hG hP) hW
theorem sta_V (h : staV (.int .i64 kv kc) (.int .i64 gv gc) (.int .u64 pv pc) r = true) (hK : (staE k i nd g st ep er x y mo a len cap ob).val kv + kc = k) (hG : (staE k i nd g st ep er x y mo a len cap ob).val gv + gc = g) (hP : (staE k i nd g st ep er x y mo a len cap ob).val pv + pc = ep)
    (hF : FxOk (staF r) (staE k i nd g st ep er x y mo a len cap ob)) (W : World) (hW : ∀ r o, fxOf a ob r = some o → W.heap[r]? = some o)
    (hv : ∀ w : World, (∀ r o, fxOf a ob r = some o → w.heap[r]? = some o) → Calls Tryz.prog 34 #[.agg #[.int .i64 k, .int .i64 i, .int .i64 nd, .int .i64 g, .int .i64 st, .int .u64 ep, .int .i64 er, .slice a len cap]] w fun e w' => e = .returned (.bool false) ∧ Below w.heap.size w w') :
    Calls Tryz.prog 7 (staV' k i nd g st ep er x y mo a len cap) W fun e w' => e = .returned (.bool true) ∧ Below W.heap.size W w' :=
  law_run hF (extV_ok hF (eVal_ok val_call (sta_msg hK hG hP) hv)) h W _ (sta_args hK hG hP) hW
theorem up_call : callable Tryz.prog 35 = true := by decide +kernel
theorem sta_U {u : Bool} (h : staU u (.int .i64 kv kc) (.int .i64 gv gc) (.int .u64 pv pc) r = true) (hK : (staE k i nd g st ep er x y mo a len cap ob).val kv + kc = k) (hG : (staE k i nd g st ep er x y mo a len cap ob).val gv + gc = g) (hP : (staE k i nd g st ep er x y mo a len cap ob).val pv + pc = ep)
    (hF : FxOk (staF r) (staE k i nd g st ep er x y mo a len cap ob)) (W : World) (hW : ∀ r o, fxOf a ob r = some o → W.heap[r]? = some o)
    (hv : ∀ w : World, (∀ r o, fxOf a ob r = some o → w.heap[r]? = some o) → Calls Tryz.prog 34 #[.agg #[.int .i64 k, .int .i64 i, .int .i64 nd, .int .i64 g, .int .i64 st, .int .u64 ep, .int .i64 er, .slice a len cap]] w fun e w' => e = .returned (.bool true) ∧ Below w.heap.size w w')
    (hu : ∀ w : World, Calls Tryz.prog 35 #[.int .i64 k] w fun e w' => e = .returned (.bool u) ∧ Below w.heap.size w w') :
    Calls Tryz.prog 7 (staV' k i nd g st ep er x y mo a len cap) W fun e w' => e = .returned (.bool true) ∧ Below W.heap.size W w' :=
  law_run hF (extS_ok hF (eVal_ok val_call (sta_msg hK hG hP) hv) (eVal_ok up_call (fun B n v hv => by simp only [VV, VA, VC] at hv; rw [hK] at hv; exact hv) fun w _ => hu w)) h W _ (sta_args hK hG hP) hW
/-- what is left of the message when the server takes it: whatever msg.Valid and msg.Up say -/
theorem sta_take (hF0 : staV (.int .i64 kv kc) (.int .i64 gv gc) (.int .u64 pv pc) r = true) (hN : staU false (.int .i64 kv kc) (.int .i64 gv gc) (.int .u64 pv pc) r = true) (hU : staU true (.int .i64 kv kc) (.int .i64 gv gc) (.int .u64 pv pc) r = true)
    (hK : (staE k i nd g st ep er x y mo a len cap ob).val kv + kc = k) (hG : (staE k i nd g st ep er x y mo a len cap ob).val gv + gc = g) (hP : (staE k i nd g st ep er x y mo a len cap ob).val pv + pc = ep)
    (hF : FxOk (staF r) (staE k i nd g st ep er x y mo a len cap ob)) (W : World) (hW : ∀ r o, fxOf a ob r = some o → W.heap[r]? = some o) (hl : len ≤ 20) (hL : LocksAt a len ob L) (hk2 : 2 ≤ k)
    (rk : minI ≤ k ∧ k ≤ maxI) (ri : minI ≤ i ∧ i ≤ maxI) (rnd : minI ≤ nd ∧ nd ≤ maxI) (rg : minI ≤ g ∧ g ≤ maxI) (rst : minI ≤ st ∧ st ≤ maxI) (rer : minI ≤ er ∧ er ≤ maxI)
    (rl : ∀ j, j < len → (minI ≤ (L j).1 ∧ (L j).1 ≤ maxI) ∧ (minI ≤ (L j).2.1 ∧ (L j).2.1 ≤ maxI) ∧ (minI ≤ (L j).2.2 ∧ (L j).2.2 ≤ maxI)) :
    Calls Tryz.prog 7 (staV' k i nd g st ep er x y mo a len cap) W fun e w' => e = .returned (.bool true) ∧ Below W.heap.size W w' := by
  by_cases hm : MsgOk k i nd g st er len L
  · obtain ⟨u, hu⟩ := up_some ⟨hk2, hm.k.2⟩
    cases u with
    | false => exact sta_U hN hK hG hP hF W hW (fun w hw => valid_good hm hl hL w hw) hu
    | true => exact sta_U hU hK hG hP hF W hW (fun w hw => valid_good hm hl hL w hw) hu
  · exact sta_V hF0 hK hG hP hF W hW fun w hw => valid_bad hm hl hL rk ri rnd rg rst rer rl w hw
theorem sta_all (hlen : (len : Int) ≤ maxI) (rk : minI ≤ k ∧ k ≤ maxI) (ri : minI ≤ i ∧ i ≤ maxI) (rnd : minI ≤ nd ∧ nd ≤ maxI) (rg : minI ≤ g ∧ g ≤ maxI) (rst : minI ≤ st ∧ st ≤ maxI) (rep : 0 ≤ ep ∧ ep ≤ 18446744073709551615) (rer : minI ≤ er ∧ er ≤ maxI)
    (rx : minI ≤ x ∧ x ≤ maxI) (ry : minI ≤ y ∧ y ≤ maxI) (hL : LocksAt a len ob L) (rl : ∀ j, j < len → (minI ≤ (L j).1 ∧ (L j).1 ≤ maxI) ∧ (minI ≤ (L j).2.1 ∧ (L j).2.1 ≤ maxI) ∧ (minI ≤ (L j).2.2 ∧ (L j).2.2 ≤ maxI)) (W : World) (hW : ∀ r o, fxOf a ob r = some o → W.heap[r]? = some o) :
    Calls Tryz.prog 7 (staV' k i nd g st ep er x y mo a len cap) W fun e w' => e = .returned (.bool true) ∧ Below W.heap.size W w' := by
  have hmin : minI = -9223372036854775808 := rfl
  have hmax : maxI = 9223372036854775807 := rfl
  have v1 : (staE k i nd g st ep er x y mo a len cap ob).val 1 + 0 = k := by simp [Env.val, valE]
  have v4 : (staE k i nd g st ep er x y mo a len cap ob).val 4 + 0 = g := by simp [Env.val, valE]
  have v6 : (staE k i nd g st ep er x y mo a len cap ob).val 6 + 0 = ep := by simp [Env.val, valE]
  have c0 : ∀ c : Int, (staE k i nd g st ep er x y mo a len cap ob).val 0 + c = c := fun c => by simp [Env.val]
  by_cases h1 : 20 < len
  · exact law_run (fxL_ok (by simp [Env.val, valE]; omega) (by simp) sta_len) (extJ_ok _) sta_1 W _ (sta_args v1 v4 v6) hW
  by_cases h2 : x < 0
  · exact law_run (fxL_ok (by simp [Env.val, valE]; omega) (by simp) sta_len) (extJ_ok _) sta_2 W _ (sta_args v1 v4 v6) hW
  by_cases h3 : y ≤ x
  · exact law_run (fxL_ok (by simp [Env.val, valE]; omega) (by simp [Env.val, valE]; omega) sta_len) (extJ_ok _) sta_3 W _ (sta_args v1 v4 v6) hW
  by_cases h4 : 4096 < y
  · exact law_run (fxL_ok (by simp [Env.val, valE]; omega) (by simp [Env.val, valE]; omega) sta_len) (extJ_ok _) sta_4 W _ (sta_args v1 v4 v6) hW
  have hl : len ≤ 20 := by omega
  have fk : ∀ {r : List (Nat × Int × Int)}, (∀ p ∈ r, p.2.1 ≤ (staE k i nd g st ep er x y mo a len cap ob).val p.1 ∧ (staE k i nd g st ep er x y mo a len cap ob).val p.1 ≤ p.2.2) → FxOk (staF r) (staE k i nd g st ep er x y mo a len cap ob) := fun hr => sta_F hl (by omega) (by omega) (by omega) hr
  by_cases hk1 : k = 1
  · exact sta_J sta_k1 (by rw [c0, hk1]) v4 v6 (fk (by simp)) W hW
  have hbad : k ≤ 0 → ¬ MsgOk k i nd g st er len L := fun h hm => by have := hm.k; omega
  by_cases g0 : g ≤ 0
  · by_cases hk0 : k ≤ 0
    · exact sta_V sta_l0 v1 v4 v6 (fk (by simp [Env.val, valE]; omega)) W hW fun w hw => valid_bad (hbad hk0) hl hL rk ri rnd rg rst rer rl w hw
    · exact sta_take sta_lF sta_lN sta_lU v1 v4 v6 (fk (by simp [Env.val, valE]; omega)) W hW hl hL (by omega) rk ri rnd rg rst rer rl
  by_cases g2 : 2 ≤ g
  · by_cases hk0 : k ≤ 0
    · exact sta_V sta_g0 v1 v4 v6 (fk (by simp [Env.val, valE]; omega)) W hW fun w hw => valid_bad (hbad hk0) hl hL rk ri rnd rg rst rer rl w hw
    · exact sta_take sta_gF sta_gN sta_gU v1 v4 v6 (fk (by simp [Env.val, valE]; omega)) W hW hl hL (by omega) rk ri rnd rg rst rer rl
  have g1 : g = 1 := by omega
  by_cases e3 : ep = 3
  · by_cases hk0 : k ≤ 0
    · exact sta_J sta_e3a v1 (by rw [c0, g1]) (by rw [c0, e3]) (fk (by simp [Env.val, valE]; omega)) W hW
    · exact sta_J sta_e3b v1 (by rw [c0, g1]) (by rw [c0, e3]) (fk (by simp [Env.val, valE]; omega)) W hW
  by_cases k13 : k = 13
  · by_cases e2 : ep ≤ 2
    · exact sta_J sta_r13a (by rw [c0, k13]) (by rw [c0, g1]) v6 (fk (by simp [Env.val, valE]; omega)) W hW
    · exact sta_J sta_r13b (by rw [c0, k13]) (by rw [c0, g1]) v6 (fk (by simp [Env.val, valE]; omega)) W hW
  by_cases e0 : ep = 0
  · by_cases hk0 : k ≤ 0
    · exact sta_V sta_ea0 v1 (by rw [c0, g1]) (by rw [c0, e0]) (fk (by simp [Env.val, valE]; omega)) W hW fun w hw => valid_bad (hbad hk0) hl hL rk ri rnd rg rst rer rl w hw
    by_cases k12 : k ≤ 12
    · exact sta_take sta_ea1F sta_ea1N sta_ea1U v1 (by rw [c0, g1]) (by rw [c0, e0]) (fk (by simp [Env.val, valE]; omega)) W hW hl hL (by omega) rk ri rnd rg rst rer rl
    · exact sta_take sta_ea2F sta_ea2N sta_ea2U v1 (by rw [c0, g1]) (by rw [c0, e0]) (fk (by simp [Env.val, valE]; omega)) W hW hl hL (by omega) rk ri rnd rg rst rer rl
  by_cases e2 : ep ≤ 2
  · by_cases hk0 : k ≤ 0
    · exact sta_V sta_eb0 v1 (by rw [c0, g1]) v6 (fk (by simp [Env.val, valE]; omega)) W hW fun w hw => valid_bad (hbad hk0) hl hL rk ri rnd rg rst rer rl w hw
    by_cases k12 : k ≤ 12
    · exact sta_take sta_eb1F sta_eb1N sta_eb1U v1 (by rw [c0, g1]) v6 (fk (by simp [Env.val, valE]; omega)) W hW hl hL (by omega) rk ri rnd rg rst rer rl
    · exact sta_take sta_eb2F sta_eb2N sta_eb2U v1 (by rw [c0, g1]) v6 (fk (by simp [Env.val, valE]; omega)) W hW hl hL (by omega) rk ri rnd rg rst rer rl
  · by_cases hk0 : k ≤ 0
    · exact sta_V sta_ec0 v1 (by rw [c0, g1]) v6 (fk (by simp [Env.val, valE]; omega)) W hW fun w hw => valid_bad (hbad hk0) hl hL rk ri rnd rg rst rer rl w hw
    by_cases k12 : k ≤ 12
    · exact sta_take sta_ec1F sta_ec1N sta_ec1U v1 (by rw [c0, g1]) v6 (fk (by simp [Env.val, valE]; omega)) W hW hl hL (by omega) rk ri rnd rg rst rer rl
    · exact sta_take sta_ec2F sta_ec2N sta_ec2U v1 (by rw [c0, g1]) v6 (fk (by simp [Env.val, valE]; omega)) W hW hl hL (by omega) rk ri rnd rg rst rer rl
end
end Go.Cx
namespace Go.Proofs.YtpaglaakleajmaaGreatDoor
open Go.ChangeShapes Go.WideShapes Go.ChangeAt Go.RowKit Go.Lib
theorem rows3847 : ∀ t ∈ ([38, 47] : List Nat), Tryz.prog.readableRec t = true ∧ t < Tryz.prog.types.size := by
  have h1 : Tryz.prog.readableRec 38 = true := by kernel_rfl
  have h2 : Tryz.prog.readableRec 47 = true := by kernel_rfl
  have h3 : Nat.blt 47 Tryz.prog.types.size = true := by kernel_rfl
  have h3 : 47 < Tryz.prog.types.size := Nat.le_of_ble_eq_true h3
  intro t ht
  simp only [List.mem_cons, List.not_mem_nil, or_false] at ht
  rcases ht with rfl | rfl
  · exact ⟨h1, by omega⟩
  · exact ⟨h2, h3⟩
theorem aStacontract (H : Type) (enc : TypeId × Value → H) (W : World) (base : Nat) (args : Array Value) (ds gs : List (DataW H)) (before : List MemPlace)
    (hval : ∀ (j : Nat) t v, Tryz.f7.params[j]? = some t → args[j]? = some v → Value.okWide Tryz.prog W .any base t v)
    (hW : DataW.Whole enc Tryz.prog Tryz.f7.params.toList Rows.serverStaleSpec.vars false W args.toList ds gs before) :
    Calls Tryz.prog 7 args W fun e W' => ∃ v, e = .returned v ∧ Rows.serverStaleSpec.post enc Tryz.prog Tryz.f7 false true false false W args v W' := by
  refine close_law (ts := [38, 47]) (by rw [Tryz.params7]) rfl rfl (fun H ds h => ?_) rows3847 hW ?_
  · match ds, h with
    | [d1, d2], _ => rfl
  · obtain ⟨p, q, hA0, _, _, _, _⟩ := hW
    have hA : DataW.TrodAll enc Tryz.prog W 0 (fun _ => true) true Tryz.f7.params.toList args.toList ds p := hA0
    rw [Tryz.params7] at hA hval
    obtain ⟨v0, vs0, d0, ds0, p0, q0, hargs, rfl, rfl, h0, r0⟩ := trodAll_cons hA
    obtain ⟨v1, vs1, d1, ds1, p1, q1, rfl, rfl, rfl, h1, r1⟩ := trodAll_cons r0
    obtain ⟨rfl, rfl, rfl⟩ := trodAll_nil r1
    obtain rfl : args = #[v0, v1] := by cases args; simp_all
    have hv0 := hval 0 38 v0 rfl rfl
    obtain ⟨k, i, nd, g, st, ep, er, a, len, cap, rfl, hlen, rk, ri, rnd, rg, rst, rep, rer⟩ := open_msg hv0
    obtain ⟨x, y, m, rfl, _, _, wx, wy, wm⟩ := open_lock (hval 1 47 v1 rfl rfl) h1
    obtain ⟨ob, L, hL, hob, hrl⟩ := locks_at hv0 h0
    exact Cx.sta_all hlen rk ri rnd rg rst rep rer (wf_range wx) (wf_range wy) hL hrl W hob
end Go.Proofs.YtpaglaakleajmaaGreatDoor
