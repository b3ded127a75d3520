/- What a run of a law shows: at all inputs that its facts allow, in whatever world, it answers true. -/
import Derived.Test.YtpaglaakleajmaaGreatDoorJ1
import Derived.RowKit
set_option maxRecDepth 100000
set_option linter.unusedVariables false
set_option linter.unusedSimpArgs false
namespace Go.Cx
open Go.Proofs Go.RowKit
def saysTrue (r : Option (SV × Hp × Nat)) : Bool := match r with
  | some (.a (.s (.bool b)), _, _) => b
  | _ => false
def minI : Int := -9223372036854775808
def maxI : Int := 9223372036854775807
def be0 : Be := ⟨fun _ => 0, fun _ => 0⟩
theorem HR.start (E : Env) (W : World) (hfx : ∀ r o, E.fx r = some o → W.heap[r]? = some o) : HR E be0 (fun r => r < W.heap.size) 0 .e W :=
  ⟨fun b o h => by simp [Tr.get] at h, fun b b' o o' h => by simp [Tr.get] at h, Nat.zero_le _, fun r hr => hr, fun r o ho => ⟨(Array.getElem?_eq_some_iff.1 (hfx r o ho)).1, hfx r o ho⟩⟩
theorem law_run {E : Env} {F : Fx} (hF : FxOk F E) {ext : Nat → Option (List SV → Hp → Nat → Option (SV × Hp × Nat))} (hext : ∀ f e, ext f = some e → CallOk Tryz.prog E f e) {f : Nat} {args : List SV} (h : saysTrue (runT F ext f args .e 0) = true) (W : World) (vs : Array Value) (hl : LR (VV E be0 0) args vs.toList) (hfx : ∀ r o, E.fx r = some o → W.heap[r]? = some o) :
    Calls Tryz.prog f vs W fun e w' => e = .returned (.bool true) ∧ Below W.heap.size W w' := by
  cases hr : runT F ext f args .e 0 with
  | none => rw [hr] at h; simp [saysTrue] at h
  | some p =>
    obtain ⟨v, h', n'⟩ := p
    rw [hr] at h
    obtain ⟨_, h2⟩ := runT_ok hF hext f _ _ _ _ _ _ hr be0 _ W vs (HR.start E W hfx) hl
    refine Calls.mono h2 fun e w' he => ?_
    obtain ⟨v', B', rfl, _, _, _, hf, hv⟩ := he
    refine ⟨?_, ⟨hf.os, hf.tape, hf.output, hf.size, fun k hk => hf.block k hk⟩⟩
    unfold saysTrue at h
    split at h
    · rename_i b q1 q2 e
      simp only [Option.some.injEq, Prod.mk.injEq] at e
      obtain ⟨rfl, _⟩ := e
      subst h
      simp only [VV, VA, VC] at hv
      rw [hv]
    · cases h
/-! ### facts as lists -/
def lkR : List (Nat × Int × Int) → Nat → Option (Int × Int)
  | [], _ => none
  | (k, lo, hi) :: r, v => match Nat.beq k v with | true => some (lo, hi) | false => lkR r v
def lkD : List (Nat × Nat × Int) → Nat → Nat → Option Int
  | [], _, _ => none
  | (k, l, d) :: r, x, y => match Nat.beq k x && Nat.beq l y with | true => some d | false => lkD r x y
def lkO : List (Nat × Nat) → Nat → Option Nat
  | [], _ => none
  | (k, w) :: r, v => match Nat.beq k v with | true => some w | false => lkO r v
def fxL (r : List (Nat × Int × Int)) (d : List (Nat × Nat × Int)) (o : List (Nat × Nat)) : Fx := { rng := lkR r, dif := lkD d, opl := lkO o }
theorem lkR_ok {E : Env} {v : Nat} {lo hi : Int} : ∀ {r : List (Nat × Int × Int)}, (∀ p ∈ r, p.2.1 ≤ E.val p.1 ∧ E.val p.1 ≤ p.2.2) → lkR r v = some (lo, hi) → lo ≤ E.val v ∧ E.val v ≤ hi
  | [], _, h => by cases h
  | (k, a, b) :: r, hr, h => by
    simp only [lkR] at h
    split at h
    · rename_i e
      have e := Nat.eq_of_beq_eq_true e
      subst e
      simp only [Option.some.injEq, Prod.mk.injEq] at h
      obtain ⟨rfl, rfl⟩ := h
      exact hr _ (List.mem_cons_self ..)
    · exact lkR_ok (fun p hp => hr p (List.mem_cons_of_mem _ hp)) h
theorem lkD_ok {E : Env} {x y : Nat} {d : Int} : ∀ {r : List (Nat × Nat × Int)}, (∀ p ∈ r, E.val p.1 - E.val p.2.1 ≤ p.2.2) → lkD r x y = some d → E.val x - E.val y ≤ d
  | [], _, h => by cases h
  | (k, l, a) :: r, hr, h => by
    simp only [lkD] at h
    split at h
    · rename_i e
      simp only [Bool.and_eq_true] at e
      have e1 := Nat.eq_of_beq_eq_true e.1
      have e2 := Nat.eq_of_beq_eq_true e.2
      subst e1; subst e2
      simp only [Option.some.injEq] at h
      subst h
      exact hr _ (List.mem_cons_self ..)
    · exact lkD_ok (fun p hp => hr p (List.mem_cons_of_mem _ hp)) h
theorem lkO_ok {E : Env} {i v : Nat} : ∀ {r : List (Nat × Nat)}, (∀ p ∈ r, ∃ a len cap, E.η p.1 = .slice a len cap ∧ E.val p.2 = len) → lkO r i = some v → ∃ a len cap, E.η i = .slice a len cap ∧ E.val v = len
  | [], _, h => by cases h
  | (k, w) :: r, hr, h => by
    simp only [lkO] at h
    split at h
    · rename_i e
      have e := Nat.eq_of_beq_eq_true e
      subst e
      simp only [Option.some.injEq] at h
      subst h
      exact hr _ (List.mem_cons_self ..)
    · exact lkO_ok (fun p hp => hr p (List.mem_cons_of_mem _ hp)) h
theorem fxL_ok {E : Env} {r : List (Nat × Int × Int)} {d : List (Nat × Nat × Int)} {o : List (Nat × Nat)} (h1 : ∀ p ∈ r, p.2.1 ≤ E.val p.1 ∧ E.val p.1 ≤ p.2.2) (h2 : ∀ p ∈ d, E.val p.1 - E.val p.2.1 ≤ p.2.2) (h3 : ∀ p ∈ o, ∃ a len cap, E.η p.1 = .slice a len cap ∧ E.val p.2 = len) : FxOk (fxL r d o) E :=
  ⟨fun _ _ _ h => lkR_ok h1 h, fun _ _ _ h => lkD_ok h2 h, fun _ _ h => lkO_ok h3 h, fun _ _ _ h => (by cases h), fun _ _ _ _ h => (by cases h), fun _ _ _ h => by cases h⟩
/-- .. and a variable's rest -/
def fxM (r : List (Nat × Int × Int)) (d : List (Nat × Nat × Int)) (v : Nat) (m x : Int) : Fx := { rng := lkR r, dif := lkD d, opl := fun _ => none, rem := fun u => match Nat.beq u v with | true => some (m, x) | false => none }
theorem fxM_ok {E : Env} {r : List (Nat × Int × Int)} {d : List (Nat × Nat × Int)} {v : Nat} {m x : Int} (h1 : ∀ p ∈ r, p.2.1 ≤ E.val p.1 ∧ E.val p.1 ≤ p.2.2) (h2 : ∀ p ∈ d, E.val p.1 - E.val p.2.1 ≤ p.2.2) (h3 : E.val v % m = x) : FxOk (fxM r d v m x) E := by
  refine ⟨fun _ _ _ h => lkR_ok h1 h, fun _ _ _ h => lkD_ok h2 h, fun _ _ h => (by cases h), fun u m' r' h => ?_, fun _ _ _ _ h => (by cases h), fun _ _ _ h => by cases h⟩
  simp only [fxM] at h
  split at h
  · rename_i hb
    have e := Nat.eq_of_beq_eq_true hb
    subst e
    simp only [Option.some.injEq, Prod.mk.injEq] at h
    obtain ⟨rfl, rfl⟩ := h
    exact h3
  · cases h
/-- the variables 1, 2, .. -/
def envL (l : List Int) (η : Nat → Value) : Env := ⟨fun v => l.getD (v - 1) 0, η, fun _ => none⟩
theorem envL_fx {l : List Int} {η : Nat → Value} {W : World} : ∀ r o, (envL l η).fx r = some o → W.heap[r]? = some o := fun r o h => nomatch h
/-- a lock, of variables 1, 2 and a mode -/
def lockS (m : SC) : SV := .a (.g [.int .i64 1 0, .int .i64 2 0, m])
noncomputable def lawT (ext : Nat → Option (List SV → Hp → Nat → Option (SV × Hp × Nat))) (f : Nat) (r : List (Nat × Int × Int)) (d : List (Nat × Nat × Int)) (o : List (Nat × Nat)) (args : List SV) : Bool := saysTrue (runT (fxL r d o) ext f args .e 0)
theorem law_all {ext : Nat → Option (List SV → Hp → Nat → Option (SV × Hp × Nat))} {f : Nat} {r : List (Nat × Int × Int)} {d : List (Nat × Nat × Int)} {o : List (Nat × Nat)} {args : List SV} (h : lawT ext f r d o args = true)
    (l : List Int) (η : Nat → Value) (hext : ∀ E f e, ext f = some e → CallOk Tryz.prog E f e) (W : World) (vs : Array Value)
    (h1 : ∀ p ∈ r, p.2.1 ≤ (envL l η).val p.1 ∧ (envL l η).val p.1 ≤ p.2.2) (h2 : ∀ p ∈ d, (envL l η).val p.1 - (envL l η).val p.2.1 ≤ p.2.2) (h3 : ∀ p ∈ o, ∃ a len cap, (envL l η).η p.1 = .slice a len cap ∧ (envL l η).val p.2 = len)
    (hl : LR (VV (envL l η) be0 0) args vs.toList) : Calls Tryz.prog f vs W fun e w' => e = .returned (.bool true) ∧ Below W.heap.size W w' :=
  law_run (fxL_ok h1 h2 h3) (hext _) h W vs hl envL_fx
end Go.Cx
