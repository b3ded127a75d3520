/- msg.Valid: what it answers of a message whose locks lie in memory. -/
import Derived.Test.YtpaglaakleajmaaGreatDoorV1
set_option maxRecDepth 100000
set_option linter.unusedVariables false
set_option linter.unusedSimpArgs false
namespace Go.Cx
open Go.Proofs Go.RowKit
/-- the locks of a slice, in an object -/
def LocksAt (a : Option Addr) (len : Nat) (ob : Option Obj) (L : Nat → Int × Int × Int) : Prop :=
  len = 0 ∨ ∃ b off cs e fr, a = some ⟨b, off, none⟩ ∧ ob = some (.cells cs e fr) ∧ ∀ i, i < len → cs[off + i * 3]? = some (.int .i64 (L i).1) ∧ cs[off + i * 3 + 1]? = some (.int .i64 (L i).2.1) ∧ cs[off + i * 3 + 2]? = some (.int .i64 (L i).2.2)
def blkOf : Option Addr → Option Nat
  | some a => some a.block
  | none => none
def fxOf (a : Option Addr) (ob : Option Obj) (r : Nat) : Option Obj := if blkOf a = some r then ob else none
def valE (l : List Int) (a : Option Addr) (len cap : Nat) (ob : Option Obj) : Env := ⟨fun v => l.getD (v - 1) 0, fun _ => .slice a len cap, fxOf a ob⟩
def lockOk (p : Int × Int × Int) : Prop := (0 ≤ p.1 ∧ p.1 < p.2.1) ∧ p.2.1 ≤ 4096 ∧ 0 ≤ p.2.2 ∧ p.2.2 ≤ 2
structure MsgOk (k i nd g st er : Int) (len : Nat) (L : Nat → Int × Int × Int) : Prop where
  k : 1 ≤ k ∧ k ≤ 15
  i : 0 ≤ i ∧ i ≤ 2147483647
  nd : 0 ≤ nd ∧ nd ≤ 2147483647
  g : 0 ≤ g ∧ g ≤ 2147483647
  st : 0 ≤ st ∧ st ≤ 2147483647
  er : 0 ≤ er ∧ er ≤ 2147483647
  l : ∀ j, j < len → lockOk (L j)
theorem noE_ok (E : Env) : ∀ f e, noE f = some e → CallOk Tryz.prog E f e := fun _ _ h => by cases h
theorem fx_here {a : Option Addr} {ob : Option Obj} {w : World} (h : ∀ r, blkOf a = some r → w.heap[r]? = ob) : ∀ r o, fxOf a ob r = some o → w.heap[r]? = some o := by
  intro r o ho
  unfold fxOf at ho
  split at ho
  · rename_i hb; rw [h r hb, ho]
  · cases ho
section
variable {k i nd g st ep er : Int} {a : Option Addr} {len cap : Nat} {ob : Option Obj} {L : Nat → Int × Int × Int}
theorem val_args : LR (VV (valE [k, i, nd, g, st, ep, er, len] a len cap ob) be0 0) [msgV] (#[.agg #[.int .i64 k, .int .i64 i, .int .i64 nd, .int .i64 g, .int .i64 st, .int .u64 ep, .int .i64 er, .slice a len cap]] : Array Value).toList :=
  ⟨⟨_, rfl, by simp [VC, Env.val, valE], by simp [VC, Env.val, valE], by simp [VC, Env.val, valE], by simp [VC, Env.val, valE], by simp [VC, Env.val, valE], by simp [VC, Env.val, valE], by simp [VC, Env.val, valE], ⟨rfl, rfl⟩, trivial⟩, trivial⟩
theorem val_len : ∀ p ∈ [(1, 8)], ∃ a' len' cap', (valE [k, i, nd, g, st, ep, er, len] a len cap ob).η p.1 = .slice a' len' cap' ∧ (valE [k, i, nd, g, st, ep, er, len] a len cap ob).val p.2 = len' := by
  intro p hp
  simp only [List.mem_singleton] at hp
  subst hp
  exact ⟨a, len, cap, rfl, by simp [Env.val, valE]⟩
/-- a run without the loop -/
theorem val_short {r : List (Nat × Int × Int)} (h : valT false r = true) (hl : len ≤ 20) (hr : ∀ p ∈ r, p.2.1 ≤ (valE [k, i, nd, g, st, ep, er, len] a len cap ob).val p.1 ∧ (valE [k, i, nd, g, st, ep, er, len] a len cap ob).val p.1 ≤ p.2.2) (w : World) (hw : ∀ r o, fxOf a ob r = some o → w.heap[r]? = some o) :
    Calls Tryz.prog 34 #[.agg #[.int .i64 k, .int .i64 i, .int .i64 nd, .int .i64 g, .int .i64 st, .int .u64 ep, .int .i64 er, .slice a len cap]] w fun e w' => e = .returned (.bool false) ∧ Below w.heap.size w w' := by
  refine saysB_run (E := valE [k, i, nd, g, st, ep, er, len] a len cap ob) (runT_ok (fxL_ok (fun p hp => ?_) (by simp) val_len) (noE_ok _) 34) h w _ val_args hw
  rcases List.mem_cons.1 hp with rfl | hp
  · simp [Env.val, valE]; omega
  · exact hr p hp
theorem nbeq {a b : Nat} (h : Nat.beq a b = false) : ¬ a = b := fun e => by subst e; simp at h
/-- the variables as a round begins -/
def valEE (E : Env) (L : Nat → Int × Int × Int) (j : Nat) : Env := (((E.set 9 j).set 20 (L j).1).set 21 (L j).2.1).set 22 (L j).2.2
theorem valEE_to {E : Env} (j : Nat) : EnvTo (valEE E L j) (valEE E L (j + 1)) (sb 9 (9, 1)) valV := by
  refine ⟨fun v hv => ?_, rfl, rfl⟩
  simp only [valV, Bool.and_eq_true, Bool.not_eq_true'] at hv
  have v1 := nbeq hv.1
  have v2 := nbeq hv.2.1
  have v3 := nbeq hv.2.2
  rw [sb_eq]
  simp only [valEE]
  rw [Env.val_set (by omega), if_neg v3, Env.val_set (by omega), if_neg v2, Env.val_set (by omega), if_neg v1, Env.val_set (by omega)]
  split
  · simp [Env.set, Env.val]
  · rename_i h
    rw [Env.val_set (by omega), if_neg v3, Env.val_set (by omega), if_neg v2, Env.val_set (by omega), if_neg v1, Env.val_set (by omega), if_neg h]; simp
theorem valEE_0 {E : Env} : EnvTo E (valEE E L 0) (sb 9 (0, 0)) valV := by
  refine ⟨fun v hv => ?_, rfl, rfl⟩
  simp only [valV, Bool.and_eq_true, Bool.not_eq_true'] at hv
  have v1 := nbeq hv.1
  have v2 := nbeq hv.2.1
  have v3 := nbeq hv.2.2
  rw [sb_eq]
  simp only [valEE]
  rw [Env.val_set (by omega), if_neg v3, Env.val_set (by omega), if_neg v2, Env.val_set (by omega), if_neg v1, Env.val_set (by omega)]
  split <;> simp [Env.val]
/-- an element is as it lies -/
theorem val_el (hL : LocksAt a len ob L) {j : Nat} (hj : j < len) : ∃ b off len' cap' cs e fr, (valEE (valE [k, i, nd, g, st, ep, er, len] a len cap ob) L j).η 1 = .slice (some ⟨b, off, none⟩) len' cap' ∧ (valEE (valE [k, i, nd, g, st, ep, er, len] a len cap ob) L j).fx b = some (.cells cs e fr) ∧
    ∀ (q : Nat) (kd : IntKind) (x : Nat) (d : Int), lockEl[q]? = some (.int kd x d) → cs[off + ((valEE (valE [k, i, nd, g, st, ep, er, len] a len cap ob) L j).val 9).toNat * lockEl.length + q]? = some (.int kd ((valEE (valE [k, i, nd, g, st, ep, er, len] a len cap ob) L j).val x + d)) := by
  rcases hL with h | ⟨b, off, cs, e, fr, rfl, rfl, h⟩
  · omega
  · refine ⟨b, off, len, cap, cs, e, fr, rfl, by simp [valEE, valE, Env.set, fxOf, blkOf], fun q kd x d hq => ?_⟩
    obtain ⟨c0, c1, c2⟩ := h j hj
    have h9 : ((valEE (valE [k, i, nd, g, st, ep, er, len] (some ⟨b, off, none⟩) len cap (some (.cells cs e fr))) L j).val 9).toNat = j := by simp [valEE, Env.set, Env.val]
    rw [h9]
    match q, hq with
    | 0, hq =>
      simp only [lockEl, List.getElem?_cons_zero, Option.some.injEq, SC.int.injEq] at hq
      obtain ⟨rfl, rfl, rfl⟩ := hq
      simpa [lockEl, valEE, Env.set, Env.val] using c0
    | 1, hq =>
      simp only [lockEl, List.getElem?_cons_succ, List.getElem?_cons_zero, Option.some.injEq, SC.int.injEq] at hq
      obtain ⟨rfl, rfl, rfl⟩ := hq
      simpa [lockEl, valEE, Env.set, Env.val] using c1
    | 2, hq =>
      simp only [lockEl, List.getElem?_cons_succ, List.getElem?_cons_zero, Option.some.injEq, SC.int.injEq] at hq
      obtain ⟨rfl, rfl, rfl⟩ := hq
      simpa [lockEl, valEE, Env.set, Env.val] using c2
    | q + 3, hq => simp [lockEl] at hq
theorem val_long (hk : 1 ≤ k ∧ k ≤ 15) (hi : 0 ≤ i ∧ i ≤ 2147483647) (hnd : 0 ≤ nd ∧ nd ≤ 2147483647) (hg : 0 ≤ g ∧ g ≤ 2147483647) (hst : 0 ≤ st ∧ st ≤ 2147483647) (her : 0 ≤ er ∧ er ≤ 2147483647) (hl : len ≤ 20) (hL : LocksAt a len ob L)
    {T : Nat} (hT : T ≤ len) (hok : ∀ j, j < T → lockOk (L j)) {b : Bool} {O : LI} {x : Option Nat} (hx : x = none ∨ x = some 2) {Fe : Fx} (hFe : FxOk Fe (valEE (valE [k, i, nd, g, st, ep, er, len] a len cap ob) L T))
    (re : endOk O (fun b => b) (sb 9 (0, 0)) vNone x (valB Fe) = true) (rw' : saysB b (runH valF noE 34 Tryz.f34 (hk1 2 (loopHook valI O (fun b => b) (sb 9 (0, 0)) valV x)) hk0 [msgV] .e 0) = true) (w : World) (hw : ∀ r o, fxOf a ob r = some o → w.heap[r]? = some o) :
    Calls Tryz.prog 34 #[.agg #[.int .i64 k, .int .i64 i, .int .i64 nd, .int .i64 g, .int .i64 st, .int .u64 ep, .int .i64 er, .slice a len cap]] w fun e w' => e = .returned (.bool b) ∧ Below w.heap.size w w' := by
  obtain ⟨c1, c2⟩ := codeF_ok Tryz.func34 val_body
  have c3 : codeT (lookT TAB 34) (rndC Tryz.f34 2) = true := by
    have := codeT_blk (id := 2) c2
    rw [isL_eq val_isL] at this
    exact this
  have hF : FxOk valF (valE [k, i, nd, g, st, ep, er, len] a len cap ob) := fxL_ok (by simp [valR, okI, Env.val, valE]; omega) (by simp) val_len
  refine saysB_run (E := valE [k, i, nd, g, st, ep, er, len] a len cap ob) (runH_ok hF (noE_ok _) Tryz.func34 val_body val_call fun X => hook_cnt1 _ val_cnt ?_) rw' w _ val_args hw
  rw [isL_eq val_isL]
  refine loopHook_ok (T := T) hx (EE := valEE (valE [k, i, nd, g, st, ep, er, len] a len cap ob) L) (I := fun _ => valI) (d1 := fun _ => bodyT valF1 noE 34 Tryz.f34 (rndC Tryz.f34 2)) (fun _ _ _ _ => trivial) (fun j X' hj _ => (bodyT_ok ?_ (noE_ok _) c3).y) (fun X' _ => (bodyT_ok hFe (noE_ok _) c3).y)
    valEE_0 (fun j _ => ⟨_, _, _, valEE_to j, val_r1⟩) ⟨_, _, vNone, ⟨fun v hv => (by cases hv), rfl, rfl⟩, re⟩
  have := hok j hj
  obtain ⟨⟨q1, q2⟩, q3, q4, q5⟩ := this
  refine fxE_ok (by simp [valR, okI, valEE, Env.set, Env.val, valE]; omega) (by simp [valEE, Env.set, Env.val, valE]; omega) ?_ (val_el hL (by omega)) (fun _ _ _ h => by cases h)
  intro p hp
  simp only [List.mem_singleton] at hp
  subst hp
  exact ⟨a, len, cap, rfl, by simp [valEE, Env.set, Env.val, valE]⟩
end
end Go.Cx
