/- A message, by value. -/
import Derived.Test.YtpaglaakleajmaaGreatDoorK1
set_option maxRecDepth 100000
set_option linter.unusedVariables false
set_option linter.unusedSimpArgs false
namespace Go.Proofs.YtpaglaakleajmaaGreatDoor
open Go.ChangeShapes Go.WideShapes Go.ChangeAt Go.RowKit Go.Lib
theorem cts38 : Tryz.prog.cellTypes Tryz.prog.depth 38 = some [3, 3, 3, 3, 3, 34, 35, 36] := by kernel_rfl
theorem c38 : Tryz.prog.cellsOf 38 = 8 := by kernel_rfl
theorem cell_int {W : World} {r : Reach} {b t : Nat} {k : IntKind} (ht : Tryz.prog.underlying t = some (.int k)) {v : Value} (h : Cell.okWide Tryz.prog W r b t v) : ∃ n, v = .int k n ∧ k.min ≤ n ∧ n ≤ k.max := by
  simp only [Cell.okWide, ht] at h
  cases v <;> simp_all [Cell.ok]
  rename_i k' n
  obtain ⟨rfl, h⟩ := h
  simpa [IntKind.has] using h
theorem cell_slice {W : World} {r : Reach} {b t e : Nat} (ht : Tryz.prog.underlying t = some (.slice e)) {v : Value} (h : Cell.okWide Tryz.prog W r b t v) : ∃ a len cap, v = .slice a len cap ∧ (len : Int) ≤ 9223372036854775807 := by
  have hv : Value.okWide Tryz.prog W r b t v := by simp only [Value.okWide, ht]; exact h
  obtain ⟨a, len, cap, rfl⟩ := okWide_slice ht hv
  refine ⟨a, len, cap, rfl, ?_⟩
  have hm : IntKind.max .i64 = 9223372036854775807 := by decide
  simp only [Cell.okWide, ht] at h
  cases a with
  | none =>
    cases len with
    | zero => simp
    | succ n => simp [Cell.ok, ht] at h
  | some a =>
    simp only [Cell.ok, ht] at h
    have h1 := h.1
    have h2 := h.2.1
    omega
/-- a message, by value -/
theorem open_msg {W : World} {r : Reach} {b : Nat} {v : Value} (hv : Value.okWide Tryz.prog W r b 38 v) :
    ∃ (k i nd g st ep er : Int) (a : Option Addr) (len cap : Nat), v = .agg #[.int .i64 k, .int .i64 i, .int .i64 nd, .int .i64 g, .int .i64 st, .int .u64 ep, .int .i64 er, .slice a len cap] ∧ (len : Int) ≤ 9223372036854775807 ∧
      (-9223372036854775808 ≤ k ∧ k ≤ 9223372036854775807) ∧ (-9223372036854775808 ≤ i ∧ i ≤ 9223372036854775807) ∧ (-9223372036854775808 ≤ nd ∧ nd ≤ 9223372036854775807) ∧ (-9223372036854775808 ≤ g ∧ g ≤ 9223372036854775807) ∧ (-9223372036854775808 ≤ st ∧ st ≤ 9223372036854775807) ∧ (0 ≤ ep ∧ ep ≤ 18446744073709551615) ∧ (-9223372036854775808 ≤ er ∧ er ≤ 9223372036854775807) := by
  simp only [Value.okWide, Tryz.underlying38] at hv
  obtain ⟨cs, rfl, hsz, ts, hts, _, hcell⟩ := hv
  rw [cts38] at hts
  simp only [Option.some.injEq] at hts
  subst hts
  obtain ⟨c0, c1, c2, c3, c4, c5, c6, c7, rfl⟩ : ∃ c0 c1 c2 c3 c4 c5 c6 c7, cs = #[c0, c1, c2, c3, c4, c5, c6, c7] := by
    obtain ⟨l⟩ := cs
    match l, hsz.trans c38 with
    | [c0, c1, c2, c3, c4, c5, c6, c7], _ => exact ⟨c0, c1, c2, c3, c4, c5, c6, c7, rfl⟩
  have g : ∀ (i : Nat) (v : Value), #[c0, c1, c2, c3, c4, c5, c6, c7][i]? = some v → ∃ u, [3, 3, 3, 3, 3, 34, 35, 36][i % 8]? = some u ∧ Cell.okWide Tryz.prog W r b u v := hcell
  obtain ⟨u0, e0, q0⟩ := g 0 c0 rfl
  obtain ⟨u1, e1, q1⟩ := g 1 c1 rfl
  obtain ⟨u2, e2, q2⟩ := g 2 c2 rfl
  obtain ⟨u3, e3, q3⟩ := g 3 c3 rfl
  obtain ⟨u4, e4, q4⟩ := g 4 c4 rfl
  obtain ⟨u5, e5, q5⟩ := g 5 c5 rfl
  obtain ⟨u6, e6, q6⟩ := g 6 c6 rfl
  obtain ⟨u7, e7, q7⟩ := g 7 c7 rfl
  cases e0; cases e1; cases e2; cases e3; cases e4; cases e5; cases e6; cases e7
  have hmin : IntKind.min .i64 = -9223372036854775808 := by decide
  have hmax : IntKind.max .i64 = 9223372036854775807 := by decide
  have umin : IntKind.min .u64 = 0 := by decide
  have umax : IntKind.max .u64 = 18446744073709551615 := by decide
  obtain ⟨n0, rfl, a0, b0⟩ := cell_int Tryz.underlying3 q0
  obtain ⟨n1, rfl, a1, b1⟩ := cell_int Tryz.underlying3 q1
  obtain ⟨n2, rfl, a2, b2⟩ := cell_int Tryz.underlying3 q2
  obtain ⟨n3, rfl, a3, b3⟩ := cell_int Tryz.underlying3 q3
  obtain ⟨n4, rfl, a4, b4⟩ := cell_int Tryz.underlying3 q4
  obtain ⟨n5, rfl, a5, b5⟩ := cell_int Tryz.underlying34 q5
  obtain ⟨n6, rfl, a6, b6⟩ := cell_int Tryz.underlying35 q6
  obtain ⟨a, len, cap, rfl, hlen⟩ := cell_slice Tryz.underlying36 q7
  exact ⟨n0, n1, n2, n3, n4, n5, n6, a, len, cap, rfl, hlen, by omega, by omega, by omega, by omega, by omega, by omega, by omega⟩
end Go.Proofs.YtpaglaakleajmaaGreatDoor
