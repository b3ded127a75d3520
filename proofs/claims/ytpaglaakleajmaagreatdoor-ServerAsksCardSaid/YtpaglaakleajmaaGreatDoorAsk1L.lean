/- ServerAsks: the state that its loop keeps. -/
import Derived.Test.YtpaglaakleajmaaGreatDoorL2
import Derived.Test.YtpaglaakleajmaaGreatDoorN3
set_option maxRecDepth 100000
set_option linter.unusedVariables false
set_option linter.unusedSimpArgs false
namespace Go.Cx
open Go.Proofs
def ask1I : LI := {
  t := [(1, .a (.s (.int .i64 4 0))), (2, .a (.s (.ptr 0 0))), (8, .a (.s (.sl 701 0 3 3 1 false))), (10, .a (.s (.ptr 833 0))), (12, .a (.s (.snil))), (13, .a (.s (.snil))), (14, .a (.s (.int .i64 9 0)))],
  h := [(0, .cells [.int .i64 1 0, .int .i64 2 0, .int .i64 0 1] 3 47)
, (8, .cells [.int .i64 0 61, .bool true, .int .i64 0 62, .map 6, .map 7, .snil, .int .u64 0 5, .int .u64 0 3, .int .u64 0 4, .int .u64 0 0, .int .u64 0 0, .int .u64 0 0, .int .u64 0 0, .int .u64 0 0, .int .u64 0 0, .int .u64 0 0, .int .u64 0 0, .int .u64 0 0, .int .u64 0 0, .int .u64 0 0, .int .u64 0 0, .int .u64 0 0, .int .u64 0 0, .int .u64 0 0, .int .u64 0 3, .int .u64 0 4, .int .u64 0 0, .int .u64 0 0, .int .u64 0 0, .int .u64 0 0, .int .u64 0 0, .int .u64 0 0, .int .u64 0 0, .int .u64 0 0, .int .u64 0 0, .int .u64 0 0, .int .u64 0 0, .int .u64 0 0, .int .u64 0 0, .int .u64 0 0, .int .u64 0 5, .bool false, .int .i64 0 0, .snil] 44 91)
, (701, .cells [.int .u64 0 0, .int .u64 0 3, .int .u64 0 4] 0 34)
, (812, .map [(.s (.int .i64 0 1), .s (.int .i64 0 64), 0), (.s (.int .i64 0 2), .s (.int .i64 0 64), 2)] 3)
, (813, .cells [.int .i64 0 64, .map 812] 2 138)
, (814, .cells [.int .i64 0 3, .ptr 815 0, .ptr 816 0, .ptr 817 0, .ptr 818 0, .ptr 819 0, .ptr 820 0, .ptr 821 0, .ptr 822 0, .ptr 823 0, .ptr 824 0, .ptr 825 0, .ptr 826 0, .ptr 827 0, .ptr 828 0, .ptr 829 0, .ptr 830 0, .ptr 831 0, .snil, .int .i64 0 0] 20 107)
, (815, .cells [.snil] 1 146)
, (816, .cells [.snil] 1 146)
, (817, .cells [.snil] 1 146)
, (818, .cells [.snil] 1 146)
, (819, .cells [.snil] 1 146)
, (820, .cells [.snil] 1 146)
, (821, .cells [.snil] 1 146)
, (822, .cells [.snil] 1 146)
, (823, .cells [.snil] 1 146)
, (824, .cells [.snil] 1 146)
, (825, .cells [.snil] 1 146)
, (826, .cells [.snil] 1 146)
, (827, .cells [.snil] 1 146)
, (828, .cells [.snil] 1 146)
, (829, .cells [.snil] 1 146)
, (830, .cells [.snil] 1 146)
, (831, .cells [.snil] 1 146)
, (832, .map [] 0)
, (833, .cells [.ptr 8 0, .int .i64 0 3, .int .i64 0 12, .int .i64 0 12, .int .i64 0 6, .int .i64 0 32, .int .i64 0 2, .int .u64 0 5, .int .i64 9 0, .bool false, .int .i64 0 0, .int .u64 0 0, .int .i64 0 0, .int .i64 0 0, .bool false, .int .i64 0 0, .int .i64 0 0, .int .i64 0 0, .mnil, .int .i64 0 2, .int .u64 0 3, .int .i64 0 (-1), .int .i64 0 (-1), .bool false, .int .i64 0 0, .int .i64 0 0, .int .i64 0 0, .map 834, .int .i64 0 1, .int .u64 0 4, .int .i64 0 (-1), .int .i64 0 (-1), .bool false, .int .i64 0 0, .int .i64 0 0, .int .i64 0 0, .map 843, .int .i64 0 0, .int .u64 0 0, .int .i64 0 (-1), .int .i64 0 (-1), .bool false, .int .i64 0 0, .int .i64 0 0, .int .i64 0 0, .map 836, .int .i64 0 0, .int .u64 0 0, .int .i64 0 0, .int .i64 0 0, .bool false, .int .i64 0 0, .int .i64 0 0, .int .i64 0 0, .mnil, .int .i64 0 0, .int .u64 0 0, .int .i64 0 0, .int .i64 0 0, .bool false, .int .i64 0 0, .int .i64 0 0, .int .i64 0 0, .mnil, .int .i64 0 0, .int .u64 0 0, .int .i64 0 0, .int .i64 0 0, .bool false, .int .i64 0 0, .int .i64 0 0, .int .i64 0 0, .mnil, .int .i64 0 0, .int .u64 0 0, .int .i64 0 0, .int .i64 0 0, .bool false, .int .i64 0 0, .int .i64 0 0, .int .i64 0 0, .mnil, .int .i64 0 0, .int .u64 0 0, .int .i64 0 0, .int .i64 0 0, .bool false, .int .i64 0 0, .int .i64 0 0, .int .i64 0 0, .mnil, .int .i64 0 0, .int .u64 0 0, .int .i64 0 0, .int .i64 0 0, .bool false, .int .i64 0 0, .int .i64 0 0, .int .i64 0 0, .mnil, .int .i64 0 0, .int .u64 0 0, .int .i64 0 0, .int .i64 0 0, .bool false, .int .i64 0 0, .int .i64 0 0, .int .i64 0 0, .mnil, .int .i64 0 0, .int .u64 0 0, .int .i64 0 0, .int .i64 0 0, .bool false, .int .i64 0 0, .int .i64 0 0, .int .i64 0 0, .mnil, .int .i64 0 0, .int .u64 0 0, .int .i64 0 0, .int .i64 0 0, .bool false, .int .i64 0 0, .int .i64 0 0, .int .i64 0 0, .mnil, .int .i64 0 0, .int .u64 0 0, .int .i64 0 0, .int .i64 0 0, .bool false, .int .i64 0 0, .int .i64 0 0, .int .i64 0 0, .mnil, .int .i64 0 0, .int .u64 0 0, .int .i64 0 0, .int .i64 0 0, .bool false, .int .i64 0 0, .int .i64 0 0, .int .i64 0 0, .mnil, .int .i64 0 0, .int .u64 0 0, .int .i64 0 0, .int .i64 0 0, .bool false, .int .i64 0 0, .int .i64 0 0, .int .i64 0 0, .mnil, .int .i64 0 0, .int .u64 0 0, .int .i64 0 0, .int .i64 0 0, .bool false, .int .i64 0 0, .int .i64 0 0, .int .i64 0 0, .mnil, .ptr 813 0, .ptr 814 0, .map 832, .sl 876 0 1 1 9 false, .snil, .int .i64 0 0, .snil] 170 70)
, (834, .map [] 0)
, (836, .map [] 0)
, (843, .map [] 0)
, (874, .cells [.int .i64 1 0, .int .i64 2 0, .int .i64 0 2] 0 47)
, (876, .cells [.int .i64 0 2, .int .i64 0 5, .int .i64 0 9, .int .i64 0 0, .int .i64 0 2, .int .i64 0 0, .int .u64 0 4, .int .i64 0 0, .sl 874 0 1 1 3 false] 0 131)],
  n := 897 }
def ask1O : LI := {
  t := [(1, .a (.s (.int .i64 4 0))), (2, .a (.s (.ptr 0 0))), (8, .a (.s (.sl 701 0 3 3 1 false))), (10, .a (.s (.ptr 833 0))), (12, .a (.s (.snil))), (13, .a (.s (.snil))), (14, .a (.s (.int .i64 5 0)))],
  h := [(0, .cells [.int .i64 1 0, .int .i64 2 0, .int .i64 0 1] 3 47)
, (8, .cells [.int .i64 0 61, .bool true, .int .i64 0 62, .map 6, .map 7, .snil, .int .u64 0 5, .int .u64 0 3, .int .u64 0 4, .int .u64 0 0, .int .u64 0 0, .int .u64 0 0, .int .u64 0 0, .int .u64 0 0, .int .u64 0 0, .int .u64 0 0, .int .u64 0 0, .int .u64 0 0, .int .u64 0 0, .int .u64 0 0, .int .u64 0 0, .int .u64 0 0, .int .u64 0 0, .int .u64 0 0, .int .u64 0 3, .int .u64 0 4, .int .u64 0 0, .int .u64 0 0, .int .u64 0 0, .int .u64 0 0, .int .u64 0 0, .int .u64 0 0, .int .u64 0 0, .int .u64 0 0, .int .u64 0 0, .int .u64 0 0, .int .u64 0 0, .int .u64 0 0, .int .u64 0 0, .int .u64 0 0, .int .u64 0 5, .bool false, .int .i64 0 0, .snil] 44 91)
, (701, .cells [.int .u64 0 0, .int .u64 0 3, .int .u64 0 4] 0 34)
, (812, .map [(.s (.int .i64 0 1), .s (.int .i64 0 64), 0), (.s (.int .i64 0 2), .s (.int .i64 0 64), 2)] 3)
, (813, .cells [.int .i64 0 64, .map 812] 2 138)
, (814, .cells [.int .i64 0 3, .ptr 815 0, .ptr 816 0, .ptr 817 0, .ptr 818 0, .ptr 819 0, .ptr 820 0, .ptr 821 0, .ptr 822 0, .ptr 823 0, .ptr 824 0, .ptr 825 0, .ptr 826 0, .ptr 827 0, .ptr 828 0, .ptr 829 0, .ptr 830 0, .ptr 831 0, .snil, .int .i64 0 0] 20 107)
, (815, .cells [.snil] 1 146)
, (816, .cells [.snil] 1 146)
, (817, .cells [.snil] 1 146)
, (818, .cells [.snil] 1 146)
, (819, .cells [.snil] 1 146)
, (820, .cells [.snil] 1 146)
, (821, .cells [.snil] 1 146)
, (822, .cells [.snil] 1 146)
, (823, .cells [.snil] 1 146)
, (824, .cells [.snil] 1 146)
, (825, .cells [.snil] 1 146)
, (826, .cells [.snil] 1 146)
, (827, .cells [.snil] 1 146)
, (828, .cells [.snil] 1 146)
, (829, .cells [.snil] 1 146)
, (830, .cells [.snil] 1 146)
, (831, .cells [.snil] 1 146)
, (832, .map [] 0)
, (833, .cells [.ptr 8 0, .int .i64 0 3, .int .i64 0 12, .int .i64 0 12, .int .i64 0 6, .int .i64 0 32, .int .i64 0 2, .int .u64 0 5, .int .i64 5 0, .bool false, .int .i64 0 0, .int .u64 0 0, .int .i64 0 0, .int .i64 0 0, .bool false, .int .i64 0 0, .int .i64 0 0, .int .i64 0 0, .mnil, .int .i64 0 2, .int .u64 0 3, .int .i64 0 (-1), .int .i64 0 (-1), .bool false, .int .i64 0 0, .int .i64 0 0, .int .i64 0 0, .map 834, .int .i64 0 1, .int .u64 0 4, .int .i64 0 (-1), .int .i64 0 (-1), .bool false, .int .i64 0 0, .int .i64 0 0, .int .i64 0 0, .map 843, .int .i64 0 0, .int .u64 0 0, .int .i64 0 (-1), .int .i64 0 (-1), .bool false, .int .i64 0 0, .int .i64 0 0, .int .i64 0 0, .map 836, .int .i64 0 0, .int .u64 0 0, .int .i64 0 0, .int .i64 0 0, .bool false, .int .i64 0 0, .int .i64 0 0, .int .i64 0 0, .mnil, .int .i64 0 0, .int .u64 0 0, .int .i64 0 0, .int .i64 0 0, .bool false, .int .i64 0 0, .int .i64 0 0, .int .i64 0 0, .mnil, .int .i64 0 0, .int .u64 0 0, .int .i64 0 0, .int .i64 0 0, .bool false, .int .i64 0 0, .int .i64 0 0, .int .i64 0 0, .mnil, .int .i64 0 0, .int .u64 0 0, .int .i64 0 0, .int .i64 0 0, .bool false, .int .i64 0 0, .int .i64 0 0, .int .i64 0 0, .mnil, .int .i64 0 0, .int .u64 0 0, .int .i64 0 0, .int .i64 0 0, .bool false, .int .i64 0 0, .int .i64 0 0, .int .i64 0 0, .mnil, .int .i64 0 0, .int .u64 0 0, .int .i64 0 0, .int .i64 0 0, .bool false, .int .i64 0 0, .int .i64 0 0, .int .i64 0 0, .mnil, .int .i64 0 0, .int .u64 0 0, .int .i64 0 0, .int .i64 0 0, .bool false, .int .i64 0 0, .int .i64 0 0, .int .i64 0 0, .mnil, .int .i64 0 0, .int .u64 0 0, .int .i64 0 0, .int .i64 0 0, .bool false, .int .i64 0 0, .int .i64 0 0, .int .i64 0 0, .mnil, .int .i64 0 0, .int .u64 0 0, .int .i64 0 0, .int .i64 0 0, .bool false, .int .i64 0 0, .int .i64 0 0, .int .i64 0 0, .mnil, .int .i64 0 0, .int .u64 0 0, .int .i64 0 0, .int .i64 0 0, .bool false, .int .i64 0 0, .int .i64 0 0, .int .i64 0 0, .mnil, .int .i64 0 0, .int .u64 0 0, .int .i64 0 0, .int .i64 0 0, .bool false, .int .i64 0 0, .int .i64 0 0, .int .i64 0 0, .mnil, .int .i64 0 0, .int .u64 0 0, .int .i64 0 0, .int .i64 0 0, .bool false, .int .i64 0 0, .int .i64 0 0, .int .i64 0 0, .mnil, .int .i64 0 0, .int .u64 0 0, .int .i64 0 0, .int .i64 0 0, .bool false, .int .i64 0 0, .int .i64 0 0, .int .i64 0 0, .mnil, .ptr 813 0, .ptr 814 0, .map 832, .sl 876 0 1 1 9 false, .snil, .int .i64 0 0, .snil] 170 70)
, (834, .map [] 0)
, (836, .map [] 0)
, (843, .map [] 0)
, (874, .cells [.int .i64 1 0, .int .i64 2 0, .int .i64 0 2] 0 47)
, (876, .cells [.int .i64 0 2, .int .i64 0 5, .int .i64 0 9, .int .i64 0 0, .int .i64 0 2, .int .i64 0 0, .int .u64 0 4, .int .i64 0 0, .sl 874 0 1 1 3 false] 0 131)],
  n := 897 }
def ask1F : Fx := fxL [(1, 0, 4095), (2, 1, 4096), (4, 0, 40), (5, 0, 40)] [(1, 2, -1), (2, 1, 4096)] []
def ask1F1 (i : Nat) : Fx := fxM [(9, 0, 39), (1, 0, 4095), (2, 1, 4096), (4, 0, 40), (5, 0, 40)] [(9, 4, -1), (4, 9, 40), (1, 2, -1), (2, 1, 4096)] 9 8 i
def ask1F2 : Fx := fxL [(9, 0, 40), (1, 0, 4095), (2, 1, 4096), (4, 0, 40), (5, 0, 40)] [(9, 4, 0), (4, 9, 0), (1, 2, -1), (2, 1, 4096)] []
theorem ask1_cnt : cntB 0 (codeF Tryz.f6) = 1 := by decide +kernel
theorem ask1_isL : isL (blkC 0 (codeF Tryz.f6)) = true := by decide +kernel
theorem ask1_body : Tryz.f6.body.isSome = true := by decide +kernel
theorem ask1_call : callable Tryz.prog 6 = true := by decide +kernel
theorem ask1_r1_0 : rndOk ask1I (fun b => b) (sb 9 (9, 1)) (bodyT (ask1F1 0) extN 6 Tryz.f6 (rndC Tryz.f6 0) ask1I.st) = true := by decide +kernel
theorem ask1_r1_1 : rndOk ask1I (fun b => b) (sb 9 (9, 1)) (bodyT (ask1F1 1) extN 6 Tryz.f6 (rndC Tryz.f6 0) ask1I.st) = true := by decide +kernel
theorem ask1_r1_2 : rndOk ask1I (fun b => b) (sb 9 (9, 1)) (bodyT (ask1F1 2) extN 6 Tryz.f6 (rndC Tryz.f6 0) ask1I.st) = true := by decide +kernel
theorem ask1_r1_3 : rndOk ask1I (fun b => b) (sb 9 (9, 1)) (bodyT (ask1F1 3) extN 6 Tryz.f6 (rndC Tryz.f6 0) ask1I.st) = true := by decide +kernel
theorem ask1_r1_4 : rndOk ask1I (fun b => b) (sb 9 (9, 1)) (bodyT (ask1F1 4) extN 6 Tryz.f6 (rndC Tryz.f6 0) ask1I.st) = true := by decide +kernel
theorem ask1_r1_5 : rndOk ask1I (fun b => b) (sb 9 (9, 1)) (bodyT (ask1F1 5) extN 6 Tryz.f6 (rndC Tryz.f6 0) ask1I.st) = true := by decide +kernel
theorem ask1_r1_6 : rndOk ask1I (fun b => b) (sb 9 (9, 1)) (bodyT (ask1F1 6) extN 6 Tryz.f6 (rndC Tryz.f6 0) ask1I.st) = true := by decide +kernel
theorem ask1_r1_7 : rndOk ask1I (fun b => b) (sb 9 (9, 1)) (bodyT (ask1F1 7) extN 6 Tryz.f6 (rndC Tryz.f6 0) ask1I.st) = true := by decide +kernel
theorem ask1_r2 : endOk ask1O (fun b => b) (sb2 5 9) 0 (bodyT ask1F2 extN 6 Tryz.f6 (rndC Tryz.f6 0) ask1I.st) = true := by decide +kernel
end Go.Cx
