/- Facts on an opaque slice's elements; runs that answer a bool. -/
import Derived.Test.YtpaglaakleajmaaGreatDoorL2
set_option maxRecDepth 100000
set_option linter.unusedVariables false
set_option linter.unusedSimpArgs false
namespace Go.Cx
open Go.Proofs Go.RowKit
/-- el: the cells of the element at variable 9 of the opaque slice 1; mk: a variable under a mask -/
def fxE (r : List (Nat × Int × Int)) (d : List (Nat × Nat × Int)) (o : List (Nat × Nat)) (el : List SC) (mk : Option (Nat × Int × Nat)) : Fx := {
  rng := lkR r
  dif := lkD d
  opl := lkO o
  rem := fun _ => none
  elt := fun i v c => match Nat.beq i 1 && (Nat.beq v 9 && natEq c 0) with | true => some el | false => none
  msk := fun v m => match mk with | none => none | some (u, q, w) => match Nat.beq v u && natEq m q with | true => some w | false => none }
theorem natEq_e {a b : Int} (h : natEq a b = true) : a = b := natEq_iff.1 h
theorem fxE_ok {E : Env} {r : List (Nat × Int × Int)} {d : List (Nat × Nat × Int)} {o : List (Nat × Nat)} {el : List SC} {mk : Option (Nat × Int × Nat)} (h1 : ∀ p ∈ r, p.2.1 ≤ E.val p.1 ∧ E.val p.1 ≤ p.2.2) (h2 : ∀ p ∈ d, E.val p.1 - E.val p.2.1 ≤ p.2.2) (h3 : ∀ p ∈ o, ∃ a len cap, E.η p.1 = .slice a len cap ∧ E.val p.2 = len)
    (h4 : ∃ b off len cap cs e fr, E.η 1 = .slice (some ⟨b, off, none⟩) len cap ∧ E.fx b = some (.cells cs e fr) ∧ ∀ (j : Nat) (k : IntKind) (x : Nat) (q : Int), el[j]? = some (.int k x q) → cs[off + (E.val 9).toNat * el.length + j]? = some (.int k (E.val x + q)))
    (h5 : ∀ u q w, mk = some (u, q, w) → IntKind.i64.wrap (BitVec.ofInt 64 (E.val u) &&& BitVec.ofInt 64 q).toNat = E.val w) : FxOk (fxE r d o el mk) E := by
  refine ⟨fun _ _ _ h => lkR_ok h1 h, fun _ _ _ h => lkD_ok h2 h, fun _ _ h => lkO_ok h3 h, fun _ _ _ h => (by cases h), fun i v c l h => ?_, fun v m w h => ?_⟩
  · simp only [fxE] at h
    split at h
    · rename_i hc
      simp only [Bool.and_eq_true] at hc
      obtain ⟨c1, c2, c3⟩ := hc
      have c1 := Nat.eq_of_beq_eq_true c1
      have c2 := Nat.eq_of_beq_eq_true c2
      have c3 := natEq_e c3
      subst c1; subst c2; subst c3
      simp only [Option.some.injEq] at h; subst h
      rw [Int.add_zero]
      exact h4
    · cases h
  · simp only [fxE] at h
    split at h
    · cases h
    · rename_i u q w' 
      split at h
      · rename_i hc
        simp only [Bool.and_eq_true] at hc
        have c1 := Nat.eq_of_beq_eq_true hc.1
        have c2 := natEq_e hc.2
        subst c1; subst c2
        simp only [Option.some.injEq] at h; subst h
        exact h5 _ _ _ rfl
      · cases h
def saysB (b : Bool) (r : Option (SV × Hp × Nat)) : Bool := match r with
  | some (.a (.s (.bool c)), _, _) => b == c
  | _ => false
theorem saysB_run {E : Env} {f : Nat} {cl : List SV → Hp → Nat → Option (SV × Hp × Nat)} (hcl : CallOk Tryz.prog E f cl) {b : Bool} {args : List SV} (h : saysB b (cl args .e 0) = true) (W : World) (vs : Array Value) (hl : LR (VV E be0 0) args vs.toList) (hfx : ∀ r o, E.fx r = some o → W.heap[r]? = some o) :
    Calls Tryz.prog f vs W fun e w' => e = .returned (.bool b) ∧ Below W.heap.size W w' := by
  cases hr : cl args .e 0 with
  | none => rw [hr] at h; simp [saysB] at h
  | some p =>
    obtain ⟨v, h', n'⟩ := p
    rw [hr] at h
    obtain ⟨_, h2⟩ := hcl _ _ _ _ _ _ hr be0 _ W vs (HR.start E W hfx) hl
    refine Calls.mono h2 fun e w' he => ?_
    obtain ⟨v', B', rfl, _, _, _, hf, hv⟩ := he
    refine ⟨?_, ⟨hf.os, hf.tape, hf.output, hf.size, fun k hk => hf.block k hk⟩⟩
    unfold saysB at h
    split at h
    · rename_i c q1 q2 e
      simp only [Option.some.injEq, Prod.mk.injEq] at e
      obtain ⟨rfl, _⟩ := e
      have h := eq_of_beq h
      subst h
      simp only [VV, VA, VC] at hv
      rw [hv]
    · cases h
end Go.Cx
