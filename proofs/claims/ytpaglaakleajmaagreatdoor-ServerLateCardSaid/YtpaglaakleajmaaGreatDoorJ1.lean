/- join: the contract of two calls. -/
import Derived.Test.YtpaglaakleajmaaGreatDoorA6
set_option maxRecDepth 100000
set_option linter.unusedVariables false
set_option linter.unusedSimpArgs false
namespace Go.Cx
open Go.Proofs
def ctJoin2 : Ct := {
  args := [.a (.s (.int .i64 0 2))],
  pre := [],
  n0 := 0,
  v := .t [.s (.ptr 7 0), .g [.int .i64 0 3, .int .i64 0 12, .int .i64 0 12, .int .i64 0 6, .int .i64 0 32], .s (.ptr 608 0), .s (.sl 700 0 3 3 1 false), .s (.bool true)],
  post := [(7, .cells [.int .i64 0 61, .bool true, .int .i64 0 62, .map 5, .map 6, .snil, .int .u64 0 2, .int .u64 0 3, .int .u64 0 4, .int .u64 0 0, .int .u64 0 0, .int .u64 0 0, .int .u64 0 0, .int .u64 0 0, .int .u64 0 0, .int .u64 0 0, .int .u64 0 0, .int .u64 0 0, .int .u64 0 0, .int .u64 0 0, .int .u64 0 0, .int .u64 0 0, .int .u64 0 0, .int .u64 0 0, .int .u64 0 3, .int .u64 0 4, .int .u64 0 0, .int .u64 0 0, .int .u64 0 0, .int .u64 0 0, .int .u64 0 0, .int .u64 0 0, .int .u64 0 0, .int .u64 0 0, .int .u64 0 0, .int .u64 0 0, .int .u64 0 0, .int .u64 0 0, .int .u64 0 0, .int .u64 0 0, .int .u64 0 4, .bool false, .int .i64 0 0, .snil] 44 91)
, (587, .map [(.s (.int .i64 0 1), .s (.int .i64 0 64), 0), (.s (.int .i64 0 2), .s (.int .i64 0 64), 1)] 2)
, (588, .cells [.int .i64 0 64, .map 587] 2 138)
, (589, .cells [.int .i64 0 3, .ptr 590 0, .ptr 591 0, .ptr 592 0, .ptr 593 0, .ptr 594 0, .ptr 595 0, .ptr 596 0, .ptr 597 0, .ptr 598 0, .ptr 599 0, .ptr 600 0, .ptr 601 0, .ptr 602 0, .ptr 603 0, .ptr 604 0, .ptr 605 0, .ptr 606 0, .snil, .int .i64 0 0] 20 107)
, (590, .cells [.snil] 1 146)
, (591, .cells [.snil] 1 146)
, (592, .cells [.snil] 1 146)
, (593, .cells [.snil] 1 146)
, (594, .cells [.snil] 1 146)
, (595, .cells [.snil] 1 146)
, (596, .cells [.snil] 1 146)
, (597, .cells [.snil] 1 146)
, (598, .cells [.snil] 1 146)
, (599, .cells [.snil] 1 146)
, (600, .cells [.snil] 1 146)
, (601, .cells [.snil] 1 146)
, (602, .cells [.snil] 1 146)
, (603, .cells [.snil] 1 146)
, (604, .cells [.snil] 1 146)
, (605, .cells [.snil] 1 146)
, (606, .cells [.snil] 1 146)
, (607, .map [] 0)
, (608, .cells [.ptr 7 0, .int .i64 0 3, .int .i64 0 12, .int .i64 0 12, .int .i64 0 6, .int .i64 0 32, .int .i64 0 1, .int .u64 0 2, .int .i64 0 0, .bool false, .int .i64 0 0, .int .u64 0 0, .int .i64 0 0, .int .i64 0 0, .bool false, .int .i64 0 0, .int .i64 0 0, .int .i64 0 0, .mnil, .int .i64 0 1, .int .u64 0 3, .int .i64 0 1, .int .i64 0 (-1), .bool false, .int .i64 0 0, .int .i64 0 0, .int .i64 0 0, .map 616, .int .i64 0 1, .int .u64 0 4, .int .i64 0 1, .int .i64 0 (-1), .bool false, .int .i64 0 0, .int .i64 0 0, .int .i64 0 0, .map 660, .int .i64 0 0, .int .u64 0 0, .int .i64 0 (-1), .int .i64 0 (-1), .bool false, .int .i64 0 0, .int .i64 0 0, .int .i64 0 0, .map 611, .int .i64 0 0, .int .u64 0 0, .int .i64 0 0, .int .i64 0 0, .bool false, .int .i64 0 0, .int .i64 0 0, .int .i64 0 0, .mnil, .int .i64 0 0, .int .u64 0 0, .int .i64 0 0, .int .i64 0 0, .bool false, .int .i64 0 0, .int .i64 0 0, .int .i64 0 0, .mnil, .int .i64 0 0, .int .u64 0 0, .int .i64 0 0, .int .i64 0 0, .bool false, .int .i64 0 0, .int .i64 0 0, .int .i64 0 0, .mnil, .int .i64 0 0, .int .u64 0 0, .int .i64 0 0, .int .i64 0 0, .bool false, .int .i64 0 0, .int .i64 0 0, .int .i64 0 0, .mnil, .int .i64 0 0, .int .u64 0 0, .int .i64 0 0, .int .i64 0 0, .bool false, .int .i64 0 0, .int .i64 0 0, .int .i64 0 0, .mnil, .int .i64 0 0, .int .u64 0 0, .int .i64 0 0, .int .i64 0 0, .bool false, .int .i64 0 0, .int .i64 0 0, .int .i64 0 0, .mnil, .int .i64 0 0, .int .u64 0 0, .int .i64 0 0, .int .i64 0 0, .bool false, .int .i64 0 0, .int .i64 0 0, .int .i64 0 0, .mnil, .int .i64 0 0, .int .u64 0 0, .int .i64 0 0, .int .i64 0 0, .bool false, .int .i64 0 0, .int .i64 0 0, .int .i64 0 0, .mnil, .int .i64 0 0, .int .u64 0 0, .int .i64 0 0, .int .i64 0 0, .bool false, .int .i64 0 0, .int .i64 0 0, .int .i64 0 0, .mnil, .int .i64 0 0, .int .u64 0 0, .int .i64 0 0, .int .i64 0 0, .bool false, .int .i64 0 0, .int .i64 0 0, .int .i64 0 0, .mnil, .int .i64 0 0, .int .u64 0 0, .int .i64 0 0, .int .i64 0 0, .bool false, .int .i64 0 0, .int .i64 0 0, .int .i64 0 0, .mnil, .int .i64 0 0, .int .u64 0 0, .int .i64 0 0, .int .i64 0 0, .bool false, .int .i64 0 0, .int .i64 0 0, .int .i64 0 0, .mnil, .int .i64 0 0, .int .u64 0 0, .int .i64 0 0, .int .i64 0 0, .bool false, .int .i64 0 0, .int .i64 0 0, .int .i64 0 0, .mnil, .ptr 588 0, .ptr 589 0, .map 607, .snil, .snil, .int .i64 0 0, .snil] 170 70)
, (611, .map [] 0)
, (616, .map [] 0)
, (660, .map [] 0)
, (700, .cells [.int .u64 0 0, .int .u64 0 3, .int .u64 0 4] 0 34)],
  n1 := 701 }
theorem ctJoin2_good : ctJoin2.good (runT F0 extC 14) = true := by decide +kernel
theorem join2_ok (E : Env) : CallOk Tryz.prog E 14 (ctJoin2.use find0) := reloc (runT_ok (F0_ok E) (extC_ok E) 14) ctJoin2_good find0
def ctJoin3 : Ct := {
  args := [.a (.s (.int .i64 0 3))],
  pre := [],
  n0 := 0,
  v := .t [.s (.ptr 7 0), .g [.int .i64 0 3, .int .i64 0 12, .int .i64 0 12, .int .i64 0 6, .int .i64 0 32], .s (.ptr 608 0), .s (.sl 744 0 4 4 1 false), .s (.bool true)],
  post := [(7, .cells [.int .i64 0 61, .bool true, .int .i64 0 62, .map 5, .map 6, .snil, .int .u64 0 2, .int .u64 0 3, .int .u64 0 4, .int .u64 0 5, .int .u64 0 0, .int .u64 0 0, .int .u64 0 0, .int .u64 0 0, .int .u64 0 0, .int .u64 0 0, .int .u64 0 0, .int .u64 0 0, .int .u64 0 0, .int .u64 0 0, .int .u64 0 0, .int .u64 0 0, .int .u64 0 0, .int .u64 0 0, .int .u64 0 3, .int .u64 0 4, .int .u64 0 5, .int .u64 0 0, .int .u64 0 0, .int .u64 0 0, .int .u64 0 0, .int .u64 0 0, .int .u64 0 0, .int .u64 0 0, .int .u64 0 0, .int .u64 0 0, .int .u64 0 0, .int .u64 0 0, .int .u64 0 0, .int .u64 0 0, .int .u64 0 5, .bool false, .int .i64 0 0, .snil] 44 91)
, (587, .map [(.s (.int .i64 0 1), .s (.int .i64 0 64), 0), (.s (.int .i64 0 2), .s (.int .i64 0 64), 1), (.s (.int .i64 0 3), .s (.int .i64 0 64), 2)] 3)
, (588, .cells [.int .i64 0 64, .map 587] 2 138)
, (589, .cells [.int .i64 0 3, .ptr 590 0, .ptr 591 0, .ptr 592 0, .ptr 593 0, .ptr 594 0, .ptr 595 0, .ptr 596 0, .ptr 597 0, .ptr 598 0, .ptr 599 0, .ptr 600 0, .ptr 601 0, .ptr 602 0, .ptr 603 0, .ptr 604 0, .ptr 605 0, .ptr 606 0, .snil, .int .i64 0 0] 20 107)
, (590, .cells [.snil] 1 146)
, (591, .cells [.snil] 1 146)
, (592, .cells [.snil] 1 146)
, (593, .cells [.snil] 1 146)
, (594, .cells [.snil] 1 146)
, (595, .cells [.snil] 1 146)
, (596, .cells [.snil] 1 146)
, (597, .cells [.snil] 1 146)
, (598, .cells [.snil] 1 146)
, (599, .cells [.snil] 1 146)
, (600, .cells [.snil] 1 146)
, (601, .cells [.snil] 1 146)
, (602, .cells [.snil] 1 146)
, (603, .cells [.snil] 1 146)
, (604, .cells [.snil] 1 146)
, (605, .cells [.snil] 1 146)
, (606, .cells [.snil] 1 146)
, (607, .map [] 0)
, (608, .cells [.ptr 7 0, .int .i64 0 3, .int .i64 0 12, .int .i64 0 12, .int .i64 0 6, .int .i64 0 32, .int .i64 0 1, .int .u64 0 2, .int .i64 0 0, .bool false, .int .i64 0 0, .int .u64 0 0, .int .i64 0 0, .int .i64 0 0, .bool false, .int .i64 0 0, .int .i64 0 0, .int .i64 0 0, .mnil, .int .i64 0 1, .int .u64 0 3, .int .i64 0 1, .int .i64 0 (-1), .bool false, .int .i64 0 0, .int .i64 0 0, .int .i64 0 0, .map 616, .int .i64 0 1, .int .u64 0 4, .int .i64 0 1, .int .i64 0 (-1), .bool false, .int .i64 0 0, .int .i64 0 0, .int .i64 0 0, .map 660, .int .i64 0 1, .int .u64 0 5, .int .i64 0 1, .int .i64 0 (-1), .bool false, .int .i64 0 0, .int .i64 0 0, .int .i64 0 0, .map 704, .int .i64 0 0, .int .u64 0 0, .int .i64 0 0, .int .i64 0 0, .bool false, .int .i64 0 0, .int .i64 0 0, .int .i64 0 0, .mnil, .int .i64 0 0, .int .u64 0 0, .int .i64 0 0, .int .i64 0 0, .bool false, .int .i64 0 0, .int .i64 0 0, .int .i64 0 0, .mnil, .int .i64 0 0, .int .u64 0 0, .int .i64 0 0, .int .i64 0 0, .bool false, .int .i64 0 0, .int .i64 0 0, .int .i64 0 0, .mnil, .int .i64 0 0, .int .u64 0 0, .int .i64 0 0, .int .i64 0 0, .bool false, .int .i64 0 0, .int .i64 0 0, .int .i64 0 0, .mnil, .int .i64 0 0, .int .u64 0 0, .int .i64 0 0, .int .i64 0 0, .bool false, .int .i64 0 0, .int .i64 0 0, .int .i64 0 0, .mnil, .int .i64 0 0, .int .u64 0 0, .int .i64 0 0, .int .i64 0 0, .bool false, .int .i64 0 0, .int .i64 0 0, .int .i64 0 0, .mnil, .int .i64 0 0, .int .u64 0 0, .int .i64 0 0, .int .i64 0 0, .bool false, .int .i64 0 0, .int .i64 0 0, .int .i64 0 0, .mnil, .int .i64 0 0, .int .u64 0 0, .int .i64 0 0, .int .i64 0 0, .bool false, .int .i64 0 0, .int .i64 0 0, .int .i64 0 0, .mnil, .int .i64 0 0, .int .u64 0 0, .int .i64 0 0, .int .i64 0 0, .bool false, .int .i64 0 0, .int .i64 0 0, .int .i64 0 0, .mnil, .int .i64 0 0, .int .u64 0 0, .int .i64 0 0, .int .i64 0 0, .bool false, .int .i64 0 0, .int .i64 0 0, .int .i64 0 0, .mnil, .int .i64 0 0, .int .u64 0 0, .int .i64 0 0, .int .i64 0 0, .bool false, .int .i64 0 0, .int .i64 0 0, .int .i64 0 0, .mnil, .int .i64 0 0, .int .u64 0 0, .int .i64 0 0, .int .i64 0 0, .bool false, .int .i64 0 0, .int .i64 0 0, .int .i64 0 0, .mnil, .int .i64 0 0, .int .u64 0 0, .int .i64 0 0, .int .i64 0 0, .bool false, .int .i64 0 0, .int .i64 0 0, .int .i64 0 0, .mnil, .ptr 588 0, .ptr 589 0, .map 607, .snil, .snil, .int .i64 0 0, .snil] 170 70)
, (616, .map [] 0)
, (660, .map [] 0)
, (704, .map [] 0)
, (744, .cells [.int .u64 0 0, .int .u64 0 3, .int .u64 0 4, .int .u64 0 5] 0 34)],
  n1 := 745 }
theorem ctJoin3_good : ctJoin3.good (runT F0 extC 14) = true := by decide +kernel
theorem join3_ok (E : Env) : CallOk Tryz.prog E 14 (ctJoin3.use find0) := reloc (runT_ok (F0_ok E) (extC_ok E) 14) ctJoin3_good find0
def orE (a b : List SV → Hp → Nat → Option (SV × Hp × Nat)) (args : List SV) (h : Hp) (n : Nat) : Option (SV × Hp × Nat) := match a args h n with
  | some r => some r
  | none => b args h n
theorem orE_ok {E : Env} {f : Nat} {a b : List SV → Hp → Nat → Option (SV × Hp × Nat)} (ha : CallOk Tryz.prog E f a) (hb : CallOk Tryz.prog E f b) : CallOk Tryz.prog E f (orE a b) := by
  intro args h n v h' n' hr
  unfold orE at hr
  split at hr
  · rename_i r hr'
    cases hr
    exact ha args h n v h' n' hr'
  · exact hb args h n v h' n' hr
def extJ (f : Nat) : Option (List SV → Hp → Nat → Option (SV × Hp × Nat)) :=
  match Nat.beq f 14 with
  | true => some (orE (ctJoin2.use find0) (ctJoin3.use find0))
  | false => extC f
theorem extJ_ok (E : Env) : ∀ f e, extJ f = some e → CallOk Tryz.prog E f e := by
  intro f e h
  unfold extJ at h
  split at h
  · rename_i hf
    cases Nat.eq_of_beq_eq_true hf; cases h
    exact orE_ok (join2_ok E) (join3_ok E)
  · exact extC_ok E f e h
end Go.Cx
