/- A message of variables 1 to 7, its locks opaque (their number: variable 8). -/
import Derived.Test.YtpaglaakleajmaaGreatDoorL1
set_option maxRecDepth 100000
set_option linter.unusedVariables false
set_option linter.unusedSimpArgs false
namespace Go.Cx
open Go.Proofs Go.RowKit
def msgS (k g e : SC) : SV := .a (.g [k, .int .i64 2 0, .int .i64 3 0, g, .int .i64 5 0, e, .int .i64 7 0, .opq 1])
def etaS (a : Option Addr) (len cap : Nat) : Nat → Value := fun _ => .slice a len cap
theorem lenS {l : List Int} {a : Option Addr} {len cap : Nat} (h : (envL l (etaS a len cap)).val 8 = len) : ∀ p ∈ [(1, 8)], ∃ a' len' cap', (envL l (etaS a len cap)).η p.1 = .slice a' len' cap' ∧ (envL l (etaS a len cap)).val p.2 = len' := by
  intro p hp
  simp only [List.mem_singleton] at hp
  subst hp
  exact ⟨a, len, cap, rfl, h⟩
end Go.Cx
