/- ServerLate: the states that its loops keep; the facts. -/
import Derived.Test.YtpaglaakleajmaaGreatDoorL3
import Derived.Test.YtpaglaakleajmaaGreatDoorN3
set_option maxRecDepth 100000
set_option linter.unusedVariables false
set_option linter.unusedSimpArgs false
namespace Go.Cx
open Go.Proofs
def latI : LI := {
  t := [(0, .a (.s (.opq 1))), (3, .a (.s (.ptr 7 0))), (5, .a (.s (.ptr 608 0))), (6, .a (.s (.sl 700 0 3 3 1 false))), (8, .a (.s (.int .i64 0 64))), (9, .a (.s (.int .i64 5 0))), (10, .a (.s (.int .i64 9 0)))],
  h := [(7, .cells [.int .i64 0 61, .bool true, .int .i64 0 62, .map 5, .map 6, .snil, .int .u64 0 2, .int .u64 0 3, .int .u64 0 4, .int .u64 0 0, .int .u64 0 0, .int .u64 0 0, .int .u64 0 0, .int .u64 0 0, .int .u64 0 0, .int .u64 0 0, .int .u64 0 0, .int .u64 0 0, .int .u64 0 0, .int .u64 0 0, .int .u64 0 0, .int .u64 0 0, .int .u64 0 0, .int .u64 0 0, .int .u64 0 3, .int .u64 0 4, .int .u64 0 0, .int .u64 0 0, .int .u64 0 0, .int .u64 0 0, .int .u64 0 0, .int .u64 0 0, .int .u64 0 0, .int .u64 0 0, .int .u64 0 0, .int .u64 0 0, .int .u64 0 0, .int .u64 0 0, .int .u64 0 0, .int .u64 0 0, .int .u64 0 4, .bool false, .int .i64 0 0, .snil] 44 91)
, (587, .map [(.s (.int .i64 0 1), .s (.int .i64 5 64), 0), (.s (.int .i64 0 2), .s (.int .i64 5 64), 1)] 2)
, (588, .cells [.int .i64 0 64, .map 587] 2 138)
, (589, .cells [.int .i64 0 3, .ptr 590 0, .ptr 591 0, .ptr 592 0, .ptr 593 0, .ptr 594 0, .ptr 595 0, .ptr 596 0, .ptr 597 0, .ptr 598 0, .ptr 599 0, .ptr 600 0, .ptr 601 0, .ptr 602 0, .ptr 603 0, .ptr 604 0, .ptr 605 0, .ptr 606 0, .snil, .int .i64 0 0] 20 107)
, (590, .cells [.snil] 1 146)
, (591, .cells [.snil] 1 146)
, (592, .cells [.snil] 1 146)
, (593, .cells [.snil] 1 146)
, (594, .cells [.snil] 1 146)
, (595, .cells [.snil] 1 146)
, (596, .cells [.snil] 1 146)
, (597, .cells [.snil] 1 146)
, (598, .cells [.snil] 1 146)
, (599, .cells [.snil] 1 146)
, (600, .cells [.snil] 1 146)
, (601, .cells [.snil] 1 146)
, (602, .cells [.snil] 1 146)
, (603, .cells [.snil] 1 146)
, (604, .cells [.snil] 1 146)
, (605, .cells [.snil] 1 146)
, (606, .cells [.snil] 1 146)
, (607, .map [] 0)
, (608, .cells [.ptr 7 0, .int .i64 0 3, .int .i64 0 12, .int .i64 0 12, .int .i64 0 6, .int .i64 0 32, .int .i64 0 1, .int .u64 0 2, .int .i64 5 0, .bool false, .int .i64 0 0, .int .u64 0 0, .int .i64 0 0, .int .i64 0 0, .bool false, .int .i64 0 0, .int .i64 0 0, .int .i64 0 0, .mnil, .int .i64 0 1, .int .u64 0 3, .int .i64 0 1, .int .i64 0 (-1), .bool false, .int .i64 0 0, .int .i64 0 0, .int .i64 0 0, .map 616, .int .i64 0 1, .int .u64 0 4, .int .i64 0 1, .int .i64 0 (-1), .bool false, .int .i64 0 0, .int .i64 0 0, .int .i64 0 0, .map 660, .int .i64 0 0, .int .u64 0 0, .int .i64 0 (-1), .int .i64 0 (-1), .bool false, .int .i64 0 0, .int .i64 0 0, .int .i64 0 0, .map 611, .int .i64 0 0, .int .u64 0 0, .int .i64 0 0, .int .i64 0 0, .bool false, .int .i64 0 0, .int .i64 0 0, .int .i64 0 0, .mnil, .int .i64 0 0, .int .u64 0 0, .int .i64 0 0, .int .i64 0 0, .bool false, .int .i64 0 0, .int .i64 0 0, .int .i64 0 0, .mnil, .int .i64 0 0, .int .u64 0 0, .int .i64 0 0, .int .i64 0 0, .bool false, .int .i64 0 0, .int .i64 0 0, .int .i64 0 0, .mnil, .int .i64 0 0, .int .u64 0 0, .int .i64 0 0, .int .i64 0 0, .bool false, .int .i64 0 0, .int .i64 0 0, .int .i64 0 0, .mnil, .int .i64 0 0, .int .u64 0 0, .int .i64 0 0, .int .i64 0 0, .bool false, .int .i64 0 0, .int .i64 0 0, .int .i64 0 0, .mnil, .int .i64 0 0, .int .u64 0 0, .int .i64 0 0, .int .i64 0 0, .bool false, .int .i64 0 0, .int .i64 0 0, .int .i64 0 0, .mnil, .int .i64 0 0, .int .u64 0 0, .int .i64 0 0, .int .i64 0 0, .bool false, .int .i64 0 0, .int .i64 0 0, .int .i64 0 0, .mnil, .int .i64 0 0, .int .u64 0 0, .int .i64 0 0, .int .i64 0 0, .bool false, .int .i64 0 0, .int .i64 0 0, .int .i64 0 0, .mnil, .int .i64 0 0, .int .u64 0 0, .int .i64 0 0, .int .i64 0 0, .bool false, .int .i64 0 0, .int .i64 0 0, .int .i64 0 0, .mnil, .int .i64 0 0, .int .u64 0 0, .int .i64 0 0, .int .i64 0 0, .bool false, .int .i64 0 0, .int .i64 0 0, .int .i64 0 0, .mnil, .int .i64 0 0, .int .u64 0 0, .int .i64 0 0, .int .i64 0 0, .bool false, .int .i64 0 0, .int .i64 0 0, .int .i64 0 0, .mnil, .int .i64 0 0, .int .u64 0 0, .int .i64 0 0, .int .i64 0 0, .bool false, .int .i64 0 0, .int .i64 0 0, .int .i64 0 0, .mnil, .int .i64 0 0, .int .u64 0 0, .int .i64 0 0, .int .i64 0 0, .bool false, .int .i64 0 0, .int .i64 0 0, .int .i64 0 0, .mnil, .ptr 588 0, .ptr 589 0, .map 607, .snil, .snil, .int .i64 0 0, .snil] 170 70)
, (611, .map [] 0)
, (616, .map [] 0)
, (660, .map [] 0)
, (700, .cells [.int .u64 0 0, .int .u64 0 3, .int .u64 0 4] 0 34)],
  n := 703 }
def latJ : LI := {
  t := [(0, .a (.s (.opq 1))), (3, .a (.s (.ptr 7 0))), (5, .a (.s (.ptr 608 0))), (6, .a (.s (.sl 700 0 3 3 1 false))), (8, .a (.s (.int .i64 0 64))), (9, .a (.s (.int .i64 5 0))), (10, .a (.s (.int .i64 9 0))), (11, .a (.s (.int .i64 10 0))), (29, .a (.s (.int .i64 9 0))), (30, .a (.s (.opq 1))), (31, .a (.s (.int .i64 8 0))), (32, .a (.s (.bool true)))],
  h := [(7, .cells [.int .i64 0 61, .bool true, .int .i64 0 62, .map 5, .map 6, .snil, .int .u64 0 2, .int .u64 0 3, .int .u64 0 4, .int .u64 0 0, .int .u64 0 0, .int .u64 0 0, .int .u64 0 0, .int .u64 0 0, .int .u64 0 0, .int .u64 0 0, .int .u64 0 0, .int .u64 0 0, .int .u64 0 0, .int .u64 0 0, .int .u64 0 0, .int .u64 0 0, .int .u64 0 0, .int .u64 0 0, .int .u64 0 3, .int .u64 0 4, .int .u64 0 0, .int .u64 0 0, .int .u64 0 0, .int .u64 0 0, .int .u64 0 0, .int .u64 0 0, .int .u64 0 0, .int .u64 0 0, .int .u64 0 0, .int .u64 0 0, .int .u64 0 0, .int .u64 0 0, .int .u64 0 0, .int .u64 0 0, .int .u64 0 4, .bool false, .int .i64 0 0, .snil] 44 91)
, (587, .map [(.s (.int .i64 0 1), .s (.int .i64 5 64), 0), (.s (.int .i64 0 2), .s (.int .i64 7 64), 1)] 2)
, (588, .cells [.int .i64 0 64, .map 587] 2 138)
, (589, .cells [.int .i64 0 3, .ptr 590 0, .ptr 591 0, .ptr 592 0, .ptr 593 0, .ptr 594 0, .ptr 595 0, .ptr 596 0, .ptr 597 0, .ptr 598 0, .ptr 599 0, .ptr 600 0, .ptr 601 0, .ptr 602 0, .ptr 603 0, .ptr 604 0, .ptr 605 0, .ptr 606 0, .snil, .int .i64 0 0] 20 107)
, (590, .cells [.snil] 1 146)
, (591, .cells [.snil] 1 146)
, (592, .cells [.snil] 1 146)
, (593, .cells [.snil] 1 146)
, (594, .cells [.snil] 1 146)
, (595, .cells [.snil] 1 146)
, (596, .cells [.snil] 1 146)
, (597, .cells [.snil] 1 146)
, (598, .cells [.snil] 1 146)
, (599, .cells [.snil] 1 146)
, (600, .cells [.snil] 1 146)
, (601, .cells [.snil] 1 146)
, (602, .cells [.snil] 1 146)
, (603, .cells [.snil] 1 146)
, (604, .cells [.snil] 1 146)
, (605, .cells [.snil] 1 146)
, (606, .cells [.snil] 1 146)
, (607, .map [] 0)
, (608, .cells [.ptr 7 0, .int .i64 0 3, .int .i64 0 12, .int .i64 0 12, .int .i64 0 6, .int .i64 0 32, .int .i64 0 1, .int .u64 0 2, .int .i64 7 0, .bool false, .int .i64 0 0, .int .u64 0 0, .int .i64 0 0, .int .i64 0 0, .bool false, .int .i64 0 0, .int .i64 0 0, .int .i64 0 0, .mnil, .int .i64 0 1, .int .u64 0 3, .int .i64 0 1, .int .i64 0 (-1), .bool false, .int .i64 0 0, .int .i64 0 0, .int .i64 0 0, .map 616, .int .i64 0 1, .int .u64 0 4, .int .i64 0 1, .int .i64 0 (-1), .bool false, .int .i64 0 0, .int .i64 0 0, .int .i64 0 0, .map 660, .int .i64 0 0, .int .u64 0 0, .int .i64 0 (-1), .int .i64 0 (-1), .bool false, .int .i64 0 0, .int .i64 0 0, .int .i64 0 0, .map 611, .int .i64 0 0, .int .u64 0 0, .int .i64 0 0, .int .i64 0 0, .bool false, .int .i64 0 0, .int .i64 0 0, .int .i64 0 0, .mnil, .int .i64 0 0, .int .u64 0 0, .int .i64 0 0, .int .i64 0 0, .bool false, .int .i64 0 0, .int .i64 0 0, .int .i64 0 0, .mnil, .int .i64 0 0, .int .u64 0 0, .int .i64 0 0, .int .i64 0 0, .bool false, .int .i64 0 0, .int .i64 0 0, .int .i64 0 0, .mnil, .int .i64 0 0, .int .u64 0 0, .int .i64 0 0, .int .i64 0 0, .bool false, .int .i64 0 0, .int .i64 0 0, .int .i64 0 0, .mnil, .int .i64 0 0, .int .u64 0 0, .int .i64 0 0, .int .i64 0 0, .bool false, .int .i64 0 0, .int .i64 0 0, .int .i64 0 0, .mnil, .int .i64 0 0, .int .u64 0 0, .int .i64 0 0, .int .i64 0 0, .bool false, .int .i64 0 0, .int .i64 0 0, .int .i64 0 0, .mnil, .int .i64 0 0, .int .u64 0 0, .int .i64 0 0, .int .i64 0 0, .bool false, .int .i64 0 0, .int .i64 0 0, .int .i64 0 0, .mnil, .int .i64 0 0, .int .u64 0 0, .int .i64 0 0, .int .i64 0 0, .bool false, .int .i64 0 0, .int .i64 0 0, .int .i64 0 0, .mnil, .int .i64 0 0, .int .u64 0 0, .int .i64 0 0, .int .i64 0 0, .bool false, .int .i64 0 0, .int .i64 0 0, .int .i64 0 0, .mnil, .int .i64 0 0, .int .u64 0 0, .int .i64 0 0, .int .i64 0 0, .bool false, .int .i64 0 0, .int .i64 0 0, .int .i64 0 0, .mnil, .int .i64 0 0, .int .u64 0 0, .int .i64 0 0, .int .i64 0 0, .bool false, .int .i64 0 0, .int .i64 0 0, .int .i64 0 0, .mnil, .int .i64 0 0, .int .u64 0 0, .int .i64 0 0, .int .i64 0 0, .bool false, .int .i64 0 0, .int .i64 0 0, .int .i64 0 0, .mnil, .int .i64 0 0, .int .u64 0 0, .int .i64 0 0, .int .i64 0 0, .bool false, .int .i64 0 0, .int .i64 0 0, .int .i64 0 0, .mnil, .ptr 588 0, .ptr 589 0, .map 607, .snil, .snil, .int .i64 0 0, .snil] 170 70)
, (611, .map [] 0)
, (616, .map [] 0)
, (660, .map [] 0)
, (700, .cells [.int .u64 0 0, .int .u64 0 3, .int .u64 0 4] 0 34)],
  n := 703 }
def latO : LI := {
  t := [(0, .a (.s (.opq 1))), (3, .a (.s (.ptr 7 0))), (5, .a (.s (.ptr 608 0))), (6, .a (.s (.sl 700 0 3 3 1 false))), (8, .a (.s (.int .i64 0 64))), (9, .a (.s (.int .i64 5 0))), (10, .a (.s (.int .i64 9 0))), (29, .a (.s (.int .i64 9 0))), (30, .a (.s (.opq 1))), (31, .a (.s (.int .i64 8 0))), (32, .a (.s (.bool true)))],
  h := [(7, .cells [.int .i64 0 61, .bool true, .int .i64 0 62, .map 5, .map 6, .snil, .int .u64 0 2, .int .u64 0 3, .int .u64 0 4, .int .u64 0 0, .int .u64 0 0, .int .u64 0 0, .int .u64 0 0, .int .u64 0 0, .int .u64 0 0, .int .u64 0 0, .int .u64 0 0, .int .u64 0 0, .int .u64 0 0, .int .u64 0 0, .int .u64 0 0, .int .u64 0 0, .int .u64 0 0, .int .u64 0 0, .int .u64 0 3, .int .u64 0 4, .int .u64 0 0, .int .u64 0 0, .int .u64 0 0, .int .u64 0 0, .int .u64 0 0, .int .u64 0 0, .int .u64 0 0, .int .u64 0 0, .int .u64 0 0, .int .u64 0 0, .int .u64 0 0, .int .u64 0 0, .int .u64 0 0, .int .u64 0 0, .int .u64 0 4, .bool false, .int .i64 0 0, .snil] 44 91)
, (587, .map [(.s (.int .i64 0 1), .s (.int .i64 5 64), 0), (.s (.int .i64 0 2), .s (.int .i64 25 64), 1)] 2)
, (588, .cells [.int .i64 0 64, .map 587] 2 138)
, (589, .cells [.int .i64 0 3, .ptr 590 0, .ptr 591 0, .ptr 592 0, .ptr 593 0, .ptr 594 0, .ptr 595 0, .ptr 596 0, .ptr 597 0, .ptr 598 0, .ptr 599 0, .ptr 600 0, .ptr 601 0, .ptr 602 0, .ptr 603 0, .ptr 604 0, .ptr 605 0, .ptr 606 0, .snil, .int .i64 0 0] 20 107)
, (590, .cells [.snil] 1 146)
, (591, .cells [.snil] 1 146)
, (592, .cells [.snil] 1 146)
, (593, .cells [.snil] 1 146)
, (594, .cells [.snil] 1 146)
, (595, .cells [.snil] 1 146)
, (596, .cells [.snil] 1 146)
, (597, .cells [.snil] 1 146)
, (598, .cells [.snil] 1 146)
, (599, .cells [.snil] 1 146)
, (600, .cells [.snil] 1 146)
, (601, .cells [.snil] 1 146)
, (602, .cells [.snil] 1 146)
, (603, .cells [.snil] 1 146)
, (604, .cells [.snil] 1 146)
, (605, .cells [.snil] 1 146)
, (606, .cells [.snil] 1 146)
, (607, .map [] 0)
, (608, .cells [.ptr 7 0, .int .i64 0 3, .int .i64 0 12, .int .i64 0 12, .int .i64 0 6, .int .i64 0 32, .int .i64 0 1, .int .u64 0 2, .int .i64 25 0, .bool false, .int .i64 0 0, .int .u64 0 0, .int .i64 0 0, .int .i64 0 0, .bool false, .int .i64 0 0, .int .i64 0 0, .int .i64 0 0, .mnil, .int .i64 0 1, .int .u64 0 3, .int .i64 0 1, .int .i64 0 (-1), .bool false, .int .i64 0 0, .int .i64 0 0, .int .i64 0 0, .map 616, .int .i64 0 1, .int .u64 0 4, .int .i64 0 1, .int .i64 0 (-1), .bool false, .int .i64 0 0, .int .i64 0 0, .int .i64 0 0, .map 660, .int .i64 0 0, .int .u64 0 0, .int .i64 0 (-1), .int .i64 0 (-1), .bool false, .int .i64 0 0, .int .i64 0 0, .int .i64 0 0, .map 611, .int .i64 0 0, .int .u64 0 0, .int .i64 0 0, .int .i64 0 0, .bool false, .int .i64 0 0, .int .i64 0 0, .int .i64 0 0, .mnil, .int .i64 0 0, .int .u64 0 0, .int .i64 0 0, .int .i64 0 0, .bool false, .int .i64 0 0, .int .i64 0 0, .int .i64 0 0, .mnil, .int .i64 0 0, .int .u64 0 0, .int .i64 0 0, .int .i64 0 0, .bool false, .int .i64 0 0, .int .i64 0 0, .int .i64 0 0, .mnil, .int .i64 0 0, .int .u64 0 0, .int .i64 0 0, .int .i64 0 0, .bool false, .int .i64 0 0, .int .i64 0 0, .int .i64 0 0, .mnil, .int .i64 0 0, .int .u64 0 0, .int .i64 0 0, .int .i64 0 0, .bool false, .int .i64 0 0, .int .i64 0 0, .int .i64 0 0, .mnil, .int .i64 0 0, .int .u64 0 0, .int .i64 0 0, .int .i64 0 0, .bool false, .int .i64 0 0, .int .i64 0 0, .int .i64 0 0, .mnil, .int .i64 0 0, .int .u64 0 0, .int .i64 0 0, .int .i64 0 0, .bool false, .int .i64 0 0, .int .i64 0 0, .int .i64 0 0, .mnil, .int .i64 0 0, .int .u64 0 0, .int .i64 0 0, .int .i64 0 0, .bool false, .int .i64 0 0, .int .i64 0 0, .int .i64 0 0, .mnil, .int .i64 0 0, .int .u64 0 0, .int .i64 0 0, .int .i64 0 0, .bool false, .int .i64 0 0, .int .i64 0 0, .int .i64 0 0, .mnil, .int .i64 0 0, .int .u64 0 0, .int .i64 0 0, .int .i64 0 0, .bool false, .int .i64 0 0, .int .i64 0 0, .int .i64 0 0, .mnil, .int .i64 0 0, .int .u64 0 0, .int .i64 0 0, .int .i64 0 0, .bool false, .int .i64 0 0, .int .i64 0 0, .int .i64 0 0, .mnil, .int .i64 0 0, .int .u64 0 0, .int .i64 0 0, .int .i64 0 0, .bool false, .int .i64 0 0, .int .i64 0 0, .int .i64 0 0, .mnil, .int .i64 0 0, .int .u64 0 0, .int .i64 0 0, .int .i64 0 0, .bool false, .int .i64 0 0, .int .i64 0 0, .int .i64 0 0, .mnil, .ptr 588 0, .ptr 589 0, .map 607, .snil, .snil, .int .i64 0 0, .snil] 170 70)
, (611, .map [] 0)
, (616, .map [] 0)
, (660, .map [] 0)
, (700, .cells [.int .u64 0 0, .int .u64 0 3, .int .u64 0 4] 0 34)],
  n := 703 }
def latZ : LI := { t := [], h := [], n := 0 }
def sbL : List (Nat × Nat × Int) → Nat → Nat × Int
  | [], v => (v, 0)
  | (k, p) :: r, v => match Nat.beq v k with | true => p | false => sbL r v
def outN : List Nat → Nat → Bool
  | [], _ => true
  | k :: r, v => match Nat.beq v k with | true => false | false => outN r v
def vNo (_ : Nat) : Bool := false
def latEl : List SC := [.int .i64 21 0]
def latMk : Option (Nat × Int × Nat) := some (21, 31, 20)
def latF : Fx := fxL [(8, 0, 40)] [] [(1, 8)]
def latFo : Fx := fxE [(8, 0, 40), (9, 0, 39), (5, 0, 1280), (25, 1, 1312), (20, 0, 31)] [(9, 8, -1), (25, 5, 32), (5, 25, -1)] [(1, 8)] latEl latMk
def latFi : Fx := fxE [(8, 0, 40), (9, 0, 39), (5, 0, 1280), (7, 0, 1311), (10, 0, 31), (20, 0, 31)] [(9, 8, -1), (10, 20, 0), (7, 5, 31), (5, 7, 0)] [(1, 8)] latEl latMk
def latFe : Fx := fxE [(8, 0, 40), (9, 0, 39), (5, 0, 1280), (7, 0, 1312), (10, 1, 32), (20, 0, 31)] [(9, 8, -1), (20, 10, -1)] [(1, 8)] latEl latMk
def latFz : Fx := fxL [(8, 0, 40), (9, 0, 40), (5, 0, 1280)] [(9, 8, 0), (8, 9, 0)] [(1, 8)]
def lj0 : Nat → Nat × Int := sbL [(7, 5, 0), (10, 0, 0)]
def lj1 : Nat → Nat × Int := sbL [(7, 7, 1), (10, 10, 1)]
def lj2 : Nat → Nat × Int := sbL [(25, 7, 0)]
def ljV : Nat → Bool := outN [7, 10]
def lo0 : Nat → Nat × Int := sbL [(5, 0, 0), (9, 0, 0)]
def lo1 : Nat → Nat × Int := sbL [(5, 25, 0), (9, 9, 1)]
def loV : Nat → Bool := outN [20, 21, 25]
/-- the two loops' rounds -/
noncomputable def lat0 : Code := rndC Tryz.f9 0
noncomputable def lat2 : Code := inL (blkC 2 lat0)
theorem lat_c0 : cntB 0 (codeF Tryz.f9) = 1 := by decide +kernel
theorem lat_l0 : isL (blkC 0 (codeF Tryz.f9)) = true := by decide +kernel
theorem lat_c2 : cntB 2 lat0 = 1 := by decide +kernel
theorem lat_l2 : isL (blkC 2 lat0) = true := by decide +kernel
theorem lat_body : Tryz.f9.body.isSome = true := by decide +kernel
theorem lat_call : callable Tryz.prog 9 = true := by decide +kernel
def latIn : D := loopHook latJ latO (fun b => b) lj0 vAll (some 2)
def latOut : D := loopHook latI latZ (fun b => b) lo0 loV (some 0)
noncomputable def latT (F : Fx) (c : Code) : D := bodyT F extN 9 Tryz.f9 c
noncomputable def latH : D := compH Tryz.prog latFo (callT latFo extN) (lookT TAB 9) Tryz.f9.ntmps (hk1 2 latIn) hk0 lat0
theorem lat_long : lawT extJ 9 [(8, 41, maxI)] [] [(1, 8)] [.a (.s (.opq 1))] = true := by decide +kernel
end Go.Cx
