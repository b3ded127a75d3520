/- msg.Valid: its runs. -/
import Derived.Test.YtpaglaakleajmaaGreatDoorL3
import Derived.Test.YtpaglaakleajmaaGreatDoorM1
set_option maxRecDepth 100000
set_option linter.unusedVariables false
set_option linter.unusedSimpArgs false
namespace Go.Cx
open Go.Proofs
def msgV : SV := msgS (.int .i64 1 0) (.int .i64 4 0) (.int .u64 6 0)
def noE : Ext0 := fun _ => none
noncomputable def valT (b : Bool) (r : List (Nat × Int × Int)) : Bool := saysB b (runT (fxL ((8, 0, 20) :: r) [] [(1, 8)]) noE 34 [msgV] .e 0)
theorem val1 : valT false [(1, minI, 0)] = true := by decide +kernel
theorem val2 : valT false [(1, 16, maxI)] = true := by decide +kernel
def okI (v : Nat) : Nat × Int × Int := (v, 0, 2147483647)
theorem val3 : valT false [(1, 1, 15), (2, minI, -1)] = true := by decide +kernel
theorem val4 : valT false [(1, 1, 15), (2, 2147483648, maxI)] = true := by decide +kernel
theorem val5 : valT false [(1, 1, 15), okI 2, (3, minI, -1)] = true := by decide +kernel
theorem val6 : valT false [(1, 1, 15), okI 2, (3, 2147483648, maxI)] = true := by decide +kernel
theorem val7 : valT false [(1, 1, 15), okI 2, okI 3, (4, minI, -1)] = true := by decide +kernel
theorem val8 : valT false [(1, 1, 15), okI 2, okI 3, (4, 2147483648, maxI)] = true := by decide +kernel
theorem val9 : valT false [(1, 1, 15), okI 2, okI 3, okI 4, (5, minI, -1)] = true := by decide +kernel
theorem val10 : valT false [(1, 1, 15), okI 2, okI 3, okI 4, (5, 2147483648, maxI)] = true := by decide +kernel
theorem val11 : valT false [(1, 1, 15), okI 2, okI 3, okI 4, okI 5, (7, minI, -1)] = true := by decide +kernel
theorem val12 : valT false [(1, 1, 15), okI 2, okI 3, okI 4, okI 5, (7, 2147483648, maxI)] = true := by decide +kernel
/-! ### the loop over the locks -/
def valI : LI := { t := [(45, .a (.s (.opq 1))), (46, .a (.s (.int .i64 8 0))), (47, .a (.s (.int .i64 9 0)))], h := [], n := 0 }
def valO : LI := { t := [], h := [], n := 0 }
def valN : LI := { t := [(2, .a (.s (.bool false)))], h := [], n := 0 }
def lockEl : List SC := [.int .i64 20 0, .int .i64 21 0, .int .i64 22 0]
def valR : List (Nat × Int × Int) := [(8, 0, 20), (1, 1, 15), okI 2, okI 3, okI 4, okI 5, okI 7]
def valV (v : Nat) : Bool := !(Nat.beq v 20) && (!(Nat.beq v 21) && !(Nat.beq v 22))
def vNone (_ : Nat) : Bool := false
/-- a lock that is right -/
def valF1 : Fx := fxE ((9, 0, 19) :: (20, 0, 4095) :: (21, 1, 4096) :: (22, 0, 2) :: valR) [(9, 8, -1), (20, 21, -1)] [(1, 8)] lockEl none
def valF2 : Fx := fxL ((9, 0, 20) :: valR) [(9, 8, 0), (8, 9, 0)] [(1, 8)]
/-- one that is wrong -/
def valW1 : Fx := fxE ((9, 0, 19) :: (20, minI, -1) :: valR) [(9, 8, -1)] [(1, 8)] lockEl none
def valW2 : Fx := fxE ((9, 0, 19) :: (20, 0, maxI) :: valR) [(9, 8, -1), (21, 20, 0)] [(1, 8)] lockEl none
def valW3 : Fx := fxE ((9, 0, 19) :: (20, 0, maxI) :: (21, 4097, maxI) :: valR) [(9, 8, -1), (20, 21, -1)] [(1, 8)] lockEl none
def valW4 : Fx := fxE ((9, 0, 19) :: (20, 0, 4095) :: (21, 1, 4096) :: (22, minI, -1) :: valR) [(9, 8, -1), (20, 21, -1)] [(1, 8)] lockEl none
def valW5 : Fx := fxE ((9, 0, 19) :: (20, 0, 4095) :: (21, 1, 4096) :: (22, 3, maxI) :: valR) [(9, 8, -1), (20, 21, -1)] [(1, 8)] lockEl none
theorem val_cnt : cntB 2 (codeF Tryz.f34) = 1 := by decide +kernel
theorem val_isL : isL (blkC 2 (codeF Tryz.f34)) = true := by decide +kernel
theorem val_body : Tryz.f34.body.isSome = true := by decide +kernel
theorem val_call : callable Tryz.prog 34 = true := by decide +kernel
noncomputable def valB (F : Fx) : Res := bodyT F noE 34 Tryz.f34 (rndC Tryz.f34 2) valI.st
theorem val_r1 : rndOk valI (fun b => b) (sb 9 (9, 1)) valV (valB valF1) = true := by decide +kernel
theorem val_r2 : endOk valO (fun b => b) (sb 9 (0, 0)) vNone (some 2) (valB valF2) = true := by decide +kernel
theorem val_w1 : endOk valN (fun b => b) (sb 9 (0, 0)) vNone none (valB valW1) = true := by decide +kernel
theorem val_w2 : endOk valN (fun b => b) (sb 9 (0, 0)) vNone none (valB valW2) = true := by decide +kernel
theorem val_w3 : endOk valN (fun b => b) (sb 9 (0, 0)) vNone none (valB valW3) = true := by decide +kernel
theorem val_w4 : endOk valN (fun b => b) (sb 9 (0, 0)) vNone none (valB valW4) = true := by decide +kernel
theorem val_w5 : endOk valN (fun b => b) (sb 9 (0, 0)) vNone none (valB valW5) = true := by decide +kernel
def valF : Fx := fxL valR [] [(1, 8)]
theorem val_t : saysB true (runH valF noE 34 Tryz.f34 (hk1 2 (loopHook valI valO (fun b => b) (sb 9 (0, 0)) valV (some 2))) hk0 [msgV] .e 0) = true := by decide +kernel
theorem val_f : saysB false (runH valF noE 34 Tryz.f34 (hk1 2 (loopHook valI valN (fun b => b) (sb 9 (0, 0)) valV none)) hk0 [msgV] .e 0) = true := by decide +kernel
end Go.Cx
