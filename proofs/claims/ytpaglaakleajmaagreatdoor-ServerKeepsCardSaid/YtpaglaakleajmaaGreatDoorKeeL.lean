/- ServerKeeps: the state that its loop keeps. -/
import Derived.Test.YtpaglaakleajmaaGreatDoorL2
import Derived.Test.YtpaglaakleajmaaGreatDoorN3
set_option maxRecDepth 100000
set_option linter.unusedVariables false
set_option linter.unusedSimpArgs false
namespace Go.Cx
open Go.Proofs
def keeI : LI := {
  t := [(1, .a (.s (.int .i64 4 0))), (2, .a (.s (.ptr 0 0))), (7, .a (.s (.ptr 609 0))), (8, .a (.s (.sl 745 0 4 4 1 false))), (11, .a (.s (.sl 1017 0 1 1 9 false))), (12, .a (.s (.int .i64 9 0)))],
  h := [(0, .cells [.int .i64 1 0, .int .i64 2 0, .int .i64 0 2] 3 47)
, (8, .cells [.int .i64 0 61, .bool true, .int .i64 0 62, .map 6, .map 7, .snil, .int .u64 0 2, .int .u64 0 0, .int .u64 0 4, .int .u64 0 5, .int .u64 0 0, .int .u64 0 0, .int .u64 0 0, .int .u64 0 0, .int .u64 0 0, .int .u64 0 0, .int .u64 0 0, .int .u64 0 0, .int .u64 0 0, .int .u64 0 0, .int .u64 0 0, .int .u64 0 0, .int .u64 0 0, .int .u64 0 0, .int .u64 0 3, .int .u64 0 4, .int .u64 0 5, .int .u64 0 0, .int .u64 0 0, .int .u64 0 0, .int .u64 0 0, .int .u64 0 0, .int .u64 0 0, .int .u64 0 0, .int .u64 0 0, .int .u64 0 0, .int .u64 0 0, .int .u64 0 0, .int .u64 0 0, .int .u64 0 0, .int .u64 0 5, .bool false, .int .i64 0 0, .snil] 44 91)
, (588, .map [(.s (.int .i64 0 2), .s (.int .i64 0 64), 1), (.s (.int .i64 0 3), .s (.int .i64 0 64), 2)] 3)
, (589, .cells [.int .i64 0 64, .map 588] 2 138)
, (590, .cells [.int .i64 0 3, .ptr 591 0, .ptr 592 0, .ptr 593 0, .ptr 594 0, .ptr 595 0, .ptr 596 0, .ptr 597 0, .ptr 598 0, .ptr 599 0, .ptr 600 0, .ptr 601 0, .ptr 602 0, .ptr 603 0, .ptr 604 0, .ptr 605 0, .ptr 606 0, .ptr 607 0, .sl 925 0 1 1 5 false, .int .i64 0 1] 20 107)
, (591, .cells [.snil] 1 146)
, (592, .cells [.sl 813 0 1 1 3 false] 1 146)
, (593, .cells [.snil] 1 146)
, (594, .cells [.snil] 1 146)
, (595, .cells [.snil] 1 146)
, (596, .cells [.snil] 1 146)
, (597, .cells [.snil] 1 146)
, (598, .cells [.snil] 1 146)
, (599, .cells [.snil] 1 146)
, (600, .cells [.snil] 1 146)
, (601, .cells [.snil] 1 146)
, (602, .cells [.snil] 1 146)
, (603, .cells [.snil] 1 146)
, (604, .cells [.snil] 1 146)
, (605, .cells [.snil] 1 146)
, (606, .cells [.snil] 1 146)
, (607, .cells [.snil] 1 146)
, (608, .map [(.s (.int .i64 0 1), .s (.int .i64 0 5), 0)] 1)
, (609, .cells [.ptr 8 0, .int .i64 0 3, .int .i64 0 12, .int .i64 0 12, .int .i64 0 6, .int .i64 0 32, .int .i64 0 1, .int .u64 0 2, .int .i64 9 0, .bool false, .int .i64 0 0, .int .u64 0 0, .int .i64 0 0, .int .i64 0 0, .bool false, .int .i64 0 0, .int .i64 0 0, .int .i64 0 0, .mnil, .int .i64 0 4, .int .u64 0 3, .int .i64 0 1, .int .i64 0 (-1), .bool false, .int .i64 0 2, .int .i64 0 1, .int .i64 0 1, .map 617, .int .i64 0 1, .int .u64 0 4, .int .i64 0 1, .int .i64 0 (-1), .bool false, .int .i64 0 0, .int .i64 0 0, .int .i64 0 0, .map 661, .int .i64 0 1, .int .u64 0 5, .int .i64 0 1, .int .i64 0 (-1), .bool false, .int .i64 0 0, .int .i64 0 0, .int .i64 0 0, .map 705, .int .i64 0 0, .int .u64 0 0, .int .i64 0 0, .int .i64 0 0, .bool false, .int .i64 0 0, .int .i64 0 0, .int .i64 0 0, .mnil, .int .i64 0 0, .int .u64 0 0, .int .i64 0 0, .int .i64 0 0, .bool false, .int .i64 0 0, .int .i64 0 0, .int .i64 0 0, .mnil, .int .i64 0 0, .int .u64 0 0, .int .i64 0 0, .int .i64 0 0, .bool false, .int .i64 0 0, .int .i64 0 0, .int .i64 0 0, .mnil, .int .i64 0 0, .int .u64 0 0, .int .i64 0 0, .int .i64 0 0, .bool false, .int .i64 0 0, .int .i64 0 0, .int .i64 0 0, .mnil, .int .i64 0 0, .int .u64 0 0, .int .i64 0 0, .int .i64 0 0, .bool false, .int .i64 0 0, .int .i64 0 0, .int .i64 0 0, .mnil, .int .i64 0 0, .int .u64 0 0, .int .i64 0 0, .int .i64 0 0, .bool false, .int .i64 0 0, .int .i64 0 0, .int .i64 0 0, .mnil, .int .i64 0 0, .int .u64 0 0, .int .i64 0 0, .int .i64 0 0, .bool false, .int .i64 0 0, .int .i64 0 0, .int .i64 0 0, .mnil, .int .i64 0 0, .int .u64 0 0, .int .i64 0 0, .int .i64 0 0, .bool false, .int .i64 0 0, .int .i64 0 0, .int .i64 0 0, .mnil, .int .i64 0 0, .int .u64 0 0, .int .i64 0 0, .int .i64 0 0, .bool false, .int .i64 0 0, .int .i64 0 0, .int .i64 0 0, .mnil, .int .i64 0 0, .int .u64 0 0, .int .i64 0 0, .int .i64 0 0, .bool false, .int .i64 0 0, .int .i64 0 0, .int .i64 0 0, .mnil, .int .i64 0 0, .int .u64 0 0, .int .i64 0 0, .int .i64 0 0, .bool false, .int .i64 0 0, .int .i64 0 0, .int .i64 0 0, .mnil, .int .i64 0 0, .int .u64 0 0, .int .i64 0 0, .int .i64 0 0, .bool false, .int .i64 0 0, .int .i64 0 0, .int .i64 0 0, .mnil, .int .i64 0 0, .int .u64 0 0, .int .i64 0 0, .int .i64 0 0, .bool false, .int .i64 0 0, .int .i64 0 0, .int .i64 0 0, .mnil, .ptr 589 0, .ptr 590 0, .map 608, .snil, .snil, .int .i64 0 1, .snil] 170 70)
, (617, .map [(.g [.int .i64 1 0, .int .i64 2 0, .int .i64 0 0], .g [], 0)] 1)
, (661, .map [] 0)
, (705, .map [] 0)
, (745, .cells [.int .u64 0 0, .int .u64 0 3, .int .u64 0 4, .int .u64 0 5] 0 34)
, (813, .cells [.int .i64 1 0, .int .i64 2 0, .int .i64 0 2] 0 125)
, (925, .cells [.int .i64 0 1, .int .i64 0 2, .int .i64 1 0, .int .i64 2 0, .int .i64 0 2] 0 134)
, (1017, .cells [.int .i64 0 2, .int .i64 0 12, .int .i64 0 0, .int .i64 0 1, .int .i64 0 1, .int .i64 0 1, .int .u64 0 3, .int .i64 0 0, .snil] 0 40)],
  n := 1099 }
def keeO : LI := {
  t := [(1, .a (.s (.int .i64 4 0))), (2, .a (.s (.ptr 0 0))), (7, .a (.s (.ptr 609 0))), (8, .a (.s (.sl 745 0 4 4 1 false))), (11, .a (.s (.sl 1017 0 1 1 9 false))), (12, .a (.s (.int .i64 5 0)))],
  h := [(0, .cells [.int .i64 1 0, .int .i64 2 0, .int .i64 0 2] 3 47)
, (8, .cells [.int .i64 0 61, .bool true, .int .i64 0 62, .map 6, .map 7, .snil, .int .u64 0 2, .int .u64 0 0, .int .u64 0 4, .int .u64 0 5, .int .u64 0 0, .int .u64 0 0, .int .u64 0 0, .int .u64 0 0, .int .u64 0 0, .int .u64 0 0, .int .u64 0 0, .int .u64 0 0, .int .u64 0 0, .int .u64 0 0, .int .u64 0 0, .int .u64 0 0, .int .u64 0 0, .int .u64 0 0, .int .u64 0 3, .int .u64 0 4, .int .u64 0 5, .int .u64 0 0, .int .u64 0 0, .int .u64 0 0, .int .u64 0 0, .int .u64 0 0, .int .u64 0 0, .int .u64 0 0, .int .u64 0 0, .int .u64 0 0, .int .u64 0 0, .int .u64 0 0, .int .u64 0 0, .int .u64 0 0, .int .u64 0 5, .bool false, .int .i64 0 0, .snil] 44 91)
, (588, .map [(.s (.int .i64 0 2), .s (.int .i64 0 64), 1), (.s (.int .i64 0 3), .s (.int .i64 0 64), 2)] 3)
, (589, .cells [.int .i64 0 64, .map 588] 2 138)
, (590, .cells [.int .i64 0 3, .ptr 591 0, .ptr 592 0, .ptr 593 0, .ptr 594 0, .ptr 595 0, .ptr 596 0, .ptr 597 0, .ptr 598 0, .ptr 599 0, .ptr 600 0, .ptr 601 0, .ptr 602 0, .ptr 603 0, .ptr 604 0, .ptr 605 0, .ptr 606 0, .ptr 607 0, .sl 925 0 1 1 5 false, .int .i64 0 1] 20 107)
, (591, .cells [.snil] 1 146)
, (592, .cells [.sl 813 0 1 1 3 false] 1 146)
, (593, .cells [.snil] 1 146)
, (594, .cells [.snil] 1 146)
, (595, .cells [.snil] 1 146)
, (596, .cells [.snil] 1 146)
, (597, .cells [.snil] 1 146)
, (598, .cells [.snil] 1 146)
, (599, .cells [.snil] 1 146)
, (600, .cells [.snil] 1 146)
, (601, .cells [.snil] 1 146)
, (602, .cells [.snil] 1 146)
, (603, .cells [.snil] 1 146)
, (604, .cells [.snil] 1 146)
, (605, .cells [.snil] 1 146)
, (606, .cells [.snil] 1 146)
, (607, .cells [.snil] 1 146)
, (608, .map [(.s (.int .i64 0 1), .s (.int .i64 0 5), 0)] 1)
, (609, .cells [.ptr 8 0, .int .i64 0 3, .int .i64 0 12, .int .i64 0 12, .int .i64 0 6, .int .i64 0 32, .int .i64 0 1, .int .u64 0 2, .int .i64 5 0, .bool false, .int .i64 0 0, .int .u64 0 0, .int .i64 0 0, .int .i64 0 0, .bool false, .int .i64 0 0, .int .i64 0 0, .int .i64 0 0, .mnil, .int .i64 0 4, .int .u64 0 3, .int .i64 0 1, .int .i64 0 (-1), .bool false, .int .i64 0 2, .int .i64 0 1, .int .i64 0 1, .map 617, .int .i64 0 1, .int .u64 0 4, .int .i64 0 1, .int .i64 0 (-1), .bool false, .int .i64 0 0, .int .i64 0 0, .int .i64 0 0, .map 661, .int .i64 0 1, .int .u64 0 5, .int .i64 0 1, .int .i64 0 (-1), .bool false, .int .i64 0 0, .int .i64 0 0, .int .i64 0 0, .map 705, .int .i64 0 0, .int .u64 0 0, .int .i64 0 0, .int .i64 0 0, .bool false, .int .i64 0 0, .int .i64 0 0, .int .i64 0 0, .mnil, .int .i64 0 0, .int .u64 0 0, .int .i64 0 0, .int .i64 0 0, .bool false, .int .i64 0 0, .int .i64 0 0, .int .i64 0 0, .mnil, .int .i64 0 0, .int .u64 0 0, .int .i64 0 0, .int .i64 0 0, .bool false, .int .i64 0 0, .int .i64 0 0, .int .i64 0 0, .mnil, .int .i64 0 0, .int .u64 0 0, .int .i64 0 0, .int .i64 0 0, .bool false, .int .i64 0 0, .int .i64 0 0, .int .i64 0 0, .mnil, .int .i64 0 0, .int .u64 0 0, .int .i64 0 0, .int .i64 0 0, .bool false, .int .i64 0 0, .int .i64 0 0, .int .i64 0 0, .mnil, .int .i64 0 0, .int .u64 0 0, .int .i64 0 0, .int .i64 0 0, .bool false, .int .i64 0 0, .int .i64 0 0, .int .i64 0 0, .mnil, .int .i64 0 0, .int .u64 0 0, .int .i64 0 0, .int .i64 0 0, .bool false, .int .i64 0 0, .int .i64 0 0, .int .i64 0 0, .mnil, .int .i64 0 0, .int .u64 0 0, .int .i64 0 0, .int .i64 0 0, .bool false, .int .i64 0 0, .int .i64 0 0, .int .i64 0 0, .mnil, .int .i64 0 0, .int .u64 0 0, .int .i64 0 0, .int .i64 0 0, .bool false, .int .i64 0 0, .int .i64 0 0, .int .i64 0 0, .mnil, .int .i64 0 0, .int .u64 0 0, .int .i64 0 0, .int .i64 0 0, .bool false, .int .i64 0 0, .int .i64 0 0, .int .i64 0 0, .mnil, .int .i64 0 0, .int .u64 0 0, .int .i64 0 0, .int .i64 0 0, .bool false, .int .i64 0 0, .int .i64 0 0, .int .i64 0 0, .mnil, .int .i64 0 0, .int .u64 0 0, .int .i64 0 0, .int .i64 0 0, .bool false, .int .i64 0 0, .int .i64 0 0, .int .i64 0 0, .mnil, .int .i64 0 0, .int .u64 0 0, .int .i64 0 0, .int .i64 0 0, .bool false, .int .i64 0 0, .int .i64 0 0, .int .i64 0 0, .mnil, .ptr 589 0, .ptr 590 0, .map 608, .snil, .snil, .int .i64 0 1, .snil] 170 70)
, (617, .map [(.g [.int .i64 1 0, .int .i64 2 0, .int .i64 0 0], .g [], 0)] 1)
, (661, .map [] 0)
, (705, .map [] 0)
, (745, .cells [.int .u64 0 0, .int .u64 0 3, .int .u64 0 4, .int .u64 0 5] 0 34)
, (813, .cells [.int .i64 1 0, .int .i64 2 0, .int .i64 0 2] 0 125)
, (925, .cells [.int .i64 0 1, .int .i64 0 2, .int .i64 1 0, .int .i64 2 0, .int .i64 0 2] 0 134)
, (1017, .cells [.int .i64 0 2, .int .i64 0 12, .int .i64 0 0, .int .i64 0 1, .int .i64 0 1, .int .i64 0 1, .int .u64 0 3, .int .i64 0 0, .snil] 0 40)],
  n := 1099 }
def keeF : Fx := fxL [(1, 0, 4095), (2, 1, 4096), (4, 0, 30), (5, 0, 30)] [(1, 2, -1), (2, 1, 4096)] []
def keeF1 : Fx := fxL [(9, 0, 29), (1, 0, 4095), (2, 1, 4096), (4, 0, 30), (5, 0, 30)] [(9, 4, -1), (4, 9, 30), (1, 2, -1), (2, 1, 4096)] []
def keeF2 : Fx := fxL [(9, 0, 30), (1, 0, 4095), (2, 1, 4096), (4, 0, 30), (5, 0, 30)] [(9, 4, 0), (4, 9, 0), (1, 2, -1), (2, 1, 4096)] []
theorem kee_cnt : cntB 0 (codeF Tryz.f11) = 1 := by decide +kernel
theorem kee_isL : isL (blkC 0 (codeF Tryz.f11)) = true := by decide +kernel
theorem kee_body : Tryz.f11.body.isSome = true := by decide +kernel
theorem kee_call : callable Tryz.prog 11 = true := by decide +kernel
theorem kee_r1 : rndOk keeI (fun b => b) (sb 9 (9, 1)) (bodyT keeF1 extN 11 Tryz.f11 (rndC Tryz.f11 0) keeI.st) = true := by decide +kernel
theorem kee_r2 : endOk keeO (fun b => b) (sb2 5 9) 0 (bodyT keeF2 extN 11 Tryz.f11 (rndC Tryz.f11 0) keeI.st) = true := by decide +kernel
end Go.Cx
