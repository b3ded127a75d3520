/- What the rows of this seat have in common: how a lock opens and shuts; the world of their witnesses. -/
import Derived.Test.YtpaglaakleajmaaGreatDoorCards
import Derived.Test.YtpaglaakleajmaaGreatDoorTie
import Derived.WalkKit
import Derived.ProofKit
import Derived.OpenShut
import Derived.Deep.DeepHandedRow
import Derived.Lib.LaidTab
import Derived.Lib.SmallJoins
set_option maxRecDepth 100000
set_option linter.unusedVariables false
set_option linter.unusedSimpArgs false
namespace Go.Proofs.YtpaglaakleajmaaGreatDoor
open Go.ChangeShapes Go.WideShapes Go.ChangeAt Go.RowKit Go.Lib
theorem own : ownKnob Tryz.prog.godebug = none := by kernel_rfl
theorem c47 : Tryz.prog.cellsOf 47 = 3 := by kernel_rfl
theorem c45 : Tryz.prog.cellsOf 45 = 2 := by kernel_rfl
theorem c3 : Tryz.prog.cellsOf 3 = 1 := by kernel_rfl
section
variable {H : Type} {enc : TypeId × Value → H} {W : World} {base b : Nat} {sp : Nat → Bool} {hd : Bool} {r : Reach}
/-- a lock, by value -/
theorem open_lock {v : Value} {d : DataW H} {p : List MemPlace} (hv : Value.okWide Tryz.prog W r b 47 v) (h : DataW.Trod enc Tryz.prog W base sp hd 47 v d p) :
    ∃ x y m : Int, v = .agg #[.int .i64 x, .int .i64 y, .int .i64 m] ∧ d = .agg [.agg [.lit (.int .i64 x), .lit (.int .i64 y)], .lit (.int .i64 m)] ∧ p = [] ∧ (Lit.int .i64 x).wf = true ∧ (Lit.int .i64 y).wf = true ∧ (Lit.int .i64 m).wf = true := by
  obtain ⟨cs, rfl, hsz⟩ := okWide_struct Tryz.underlying47 hv
  obtain ⟨c0, c1, c2, rfl⟩ : ∃ c0 c1 c2, cs = #[c0, c1, c2] := by
    obtain ⟨l⟩ := cs
    match l, hsz.trans c47 with
    | [c0, c1, c2], _ => exact ⟨c0, c1, c2, rfl⟩
  obtain ⟨fuel, hf⟩ := h
  obtain ⟨y0, y1, n, hx, _, h0, h1⟩ := trod_struct2 Tryz.underlying47 hf
  simp only [Value.cells, c45, c3, List.drop_zero, List.take_succ_cons, List.take_zero, List.drop_succ_cons] at h0 h1
  obtain ⟨z0, z1, n', hx', _, g0, g1⟩ := trod_struct2 Tryz.underlying45 h0
  simp only [c3, List.drop_zero, List.take_succ_cons, List.take_zero, List.drop_succ_cons] at g0 g1
  obtain ⟨x, e1, e2, e3⟩ := DataW.trod_int Tryz.underlying3 g0
  obtain ⟨y, f1, f2, f3⟩ := DataW.trod_int Tryz.underlying3 g1
  obtain ⟨m, k1, k2, k3⟩ := DataW.trod_int Tryz.underlying3 h1
  simp only [List.cons.injEq, and_true] at e1 f1 k1
  subst e1; subst f1; subst k1; subst e2; subst f2; subst k2; subst hx'
  simp only [Prod.mk.injEq] at hx
  exact ⟨x, y, m, rfl, hx.1, by simpa using hx.2, e3, f3, k3⟩
theorem shut_lock {x y m : Int} (hx : (Lit.int .i64 x).wf = true) (hy : (Lit.int .i64 y).wf = true) (hm : (Lit.int .i64 m).wf = true) :
    DataW.Trod enc Tryz.prog W base sp hd 47 (.agg #[.int .i64 x, .int .i64 y, .int .i64 m]) (.agg [.agg [.lit (.int .i64 x), .lit (.int .i64 y)], .lit (.int .i64 m)]) [] := by
  have h45 : DataW.trod enc Tryz.prog W base sp hd 2 45 [.int .i64 x, .int .i64 y] = some (.agg [.lit (.int .i64 x), .lit (.int .i64 y)], []) := by
    have := trod_struct2_mk (enc := enc) (w := W) (base := base) (spare := sp) (held := hd) (n := 1) (cs := [.int .i64 x, .int .i64 y]) (y0 := (.lit (.int .i64 x), [])) (y1 := (.lit (.int .i64 y), [])) Tryz.underlying45 (by simp [c45])
      (by simpa [c3] using trod_int_mk 0 Tryz.underlying3 hx) (by simpa [c3] using trod_int_mk 0 Tryz.underlying3 hy)
    simpa using this
  have := trod_struct2_mk (enc := enc) (w := W) (base := base) (spare := sp) (held := hd) (n := 2) (cs := [.int .i64 x, .int .i64 y, .int .i64 m]) (y0 := (.agg [.lit (.int .i64 x), .lit (.int .i64 y)], [])) (y1 := (.lit (.int .i64 m), [])) Tryz.underlying47 (by simp [c47])
    (by simpa [c45] using h45) (by simpa [c3] using trod_int_mk 1 Tryz.underlying3 hm)
  exact ⟨3, by simpa [Value.cells] using this⟩
end
theorem wf_range {x : Int} (h : (Lit.int .i64 x).wf = true) : -9223372036854775808 ≤ x ∧ x ≤ 9223372036854775807 := by
  simp only [Lit.wf, Bool.and_eq_true, decide_eq_true_eq] at h
  exact h
end Go.Proofs.YtpaglaakleajmaaGreatDoor
