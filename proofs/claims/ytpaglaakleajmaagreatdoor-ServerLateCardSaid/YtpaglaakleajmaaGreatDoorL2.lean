/- A law with a loop whose number of rounds is a variable. -/
import Derived.Test.YtpaglaakleajmaaGreatDoorN2
import Derived.Test.YtpaglaakleajmaaGreatDoorCxLoop
set_option maxRecDepth 100000
set_option linter.unusedVariables false
set_option linter.unusedSimpArgs false
namespace Go.Cx
open Go.Proofs Go.RowKit
/-! ### one variable anew -/
def Env.set (E : Env) (k : Nat) (x : Int) : Env := ⟨fun v => if v = k then x else E.ρ v, E.η, E.fx⟩
theorem Env.val_set {E : Env} {k v : Nat} {x : Int} (hk : 0 < k) : (E.set k x).val v = if v = k then x else E.val v := by
  cases v with
  | zero => rw [if_neg (by omega)]; rfl
  | succ v => rfl
def sb (k : Nat) (p : Nat × Int) (v : Nat) : Nat × Int := match Nat.beq v k with | true => p | false => (v, 0)
def sb2 (o k : Nat) (v : Nat) : Nat × Int := match Nat.beq v o with | true => (k, 0) | false => match Nat.beq v k with | true => (0, 0) | false => (v, 0)
theorem sb_eq {k v : Nat} {p : Nat × Int} : sb k p v = if v = k then p else (v, 0) := by
  unfold sb
  split
  · rename_i h; rw [if_pos (Nat.eq_of_beq_eq_true h)]
  · rename_i h; rw [if_neg fun e => by subst e; simp at h]
theorem envTo_start {E : Env} {k : Nat} {V : Nat → Bool} (hk : 0 < k) (c : Int) : EnvTo E (E.set k c) (sb k (0, c)) V := by
  refine ⟨fun v _ => ?_, rfl, rfl⟩
  rw [Env.val_set hk, sb_eq]
  split <;> simp [Env.val]
theorem envTo_step {E : Env} {k : Nat} {V : Nat → Bool} (hk : 0 < k) (i : Int) : EnvTo (E.set k i) (E.set k (i + 1)) (sb k (k, 1)) V := by
  refine ⟨fun v _ => ?_, rfl, rfl⟩
  rw [Env.val_set hk, sb_eq]
  split
  · rw [Env.val_set hk]; simp
  · rename_i h; rw [Env.val_set hk, if_neg h]; simp
theorem envTo_end {E : Env} {o k : Nat} {V : Nat → Bool} (hk : 0 < k) (h0 : E.val k = 0) {T : Int} (hT : E.val o = T) : EnvTo (E.set k T) E (sb2 o k) V := by
  refine ⟨fun v _ => ?_, rfl, rfl⟩
  unfold sb2
  split
  · rename_i h
    have h := Nat.eq_of_beq_eq_true h
    subst h
    rw [Env.val_set hk]; simp [hT]
  · split
    · rename_i h
      have h := Nat.eq_of_beq_eq_true h
      subst h
      rw [Env.val_set hk]
      simp only [h0]
      rw [if_neg (by omega)]; simp [Env.val]
    · rename_i h
      have h : v ≠ k := fun e => by subst e; simp at h
      rw [Env.val_set hk, if_neg h]; simp

/-! ### a block of the code -/
def cntB (id : Nat) : Code → Nat
  | .seq a b => cntB id a + cntB id b
  | .cond _ a b => cntB id a + cntB id b
  | .block i a => (match Nat.beq i id with | true => 1 | false => 0) + cntB id a
  | .loop a => cntB id a
  | _ => 0
def blkC (id : Nat) : Code → Code
  | .seq a b => match cntB id a with | 0 => blkC id b | _ + 1 => blkC id a
  | .cond _ a b => match cntB id a with | 0 => blkC id b | _ + 1 => blkC id a
  | .block i a => match Nat.beq i id with | true => a | false => blkC id a
  | .loop a => blkC id a
  | _ => .skip
def hk1 (id : Nat) (d : D) (i : Nat) : Option D := match Nat.beq i id with | true => some d | false => none
def hk0 (_ : Nat) : Option D := none
section
variable {P : Program} {E : Env} {Y : World → Prop} {X : Nat → Prop} {nt id : Nat} {d : D}
theorem hook_cnt0 : ∀ (c : Code), cntB id c = 0 → HookOk P E Y X nt (hk1 id d) hk0 c
  | .seq a b, h => by
    simp only [cntB] at h
    exact ⟨hook_cnt0 a (by omega), hook_cnt0 b (by omega)⟩
  | .cond _ a b, h => by
    simp only [cntB] at h
    exact ⟨hook_cnt0 a (by omega), hook_cnt0 b (by omega)⟩
  | .block i a, h => by
    simp only [cntB] at h
    refine ⟨fun d' hd => ?_, hook_cnt0 a (by omega)⟩
    unfold hk1 at hd
    split at hd
    · rename_i hb
      rw [hb] at h
      simp at h
    · cases hd
  | .loop a, h => hook_cnt0 a h
  | .region .., _ => fun d' hd => by cases hd
  | .skip, _ | .ret, _ | .exit _, _ | .rangeFunc .., _ | .scope .., _ | .label _, _ | .goto _, _ | .refuse _, _ => trivial
theorem hook_cnt1 : ∀ (c : Code), cntB id c = 1 → DOkY P E Y X nt (.block id (blkC id c)) d → HookOk P E Y X nt (hk1 id d) hk0 c
  | .seq a b, h, hd => by
    simp only [cntB] at h
    simp only [blkC] at hd
    cases ha : cntB id a with
    | zero => rw [ha] at hd; exact ⟨hook_cnt0 a ha, hook_cnt1 b (by omega) hd⟩
    | succ n => rw [ha] at hd; exact ⟨hook_cnt1 a (by omega) hd, hook_cnt0 b (by omega)⟩
  | .cond _ a b, h, hd => by
    simp only [cntB] at h
    simp only [blkC] at hd
    cases ha : cntB id a with
    | zero => rw [ha] at hd; exact ⟨hook_cnt0 a ha, hook_cnt1 b (by omega) hd⟩
    | succ n => rw [ha] at hd; exact ⟨hook_cnt1 a (by omega) hd, hook_cnt0 b (by omega)⟩
  | .block i a, h, hd => by
    simp only [cntB] at h
    simp only [blkC] at hd
    cases hi : Nat.beq i id with
    | true =>
      rw [hi] at h hd
      have e := Nat.eq_of_beq_eq_true hi
      subst e
      dsimp only at h hd
      refine ⟨fun d' hd' => ?_, hook_cnt0 a (by omega)⟩
      unfold hk1 at hd'
      rw [hi] at hd'
      simp only [Option.some.injEq] at hd'
      subst hd'
      exact hd
    | false =>
      rw [hi] at h hd
      dsimp only at h hd
      refine ⟨fun d' hd' => ?_, hook_cnt1 a (by omega) hd⟩
      unfold hk1 at hd'
      rw [hi] at hd'
      cases hd'
  | .loop a, h, hd => hook_cnt1 a h hd
  | .region .., h, _ | .skip, h, _ | .ret, h, _ | .exit _, h, _ | .rangeFunc .., h, _ | .scope .., h, _ | .label _, h, _ | .goto _, h, _ | .refuse _, h, _ => by simp [cntB] at h
end
theorem codeT_blk {tab : Nat → Option (List DE)} {id : Nat} : ∀ {c : Code}, codeT tab c = true → codeT tab (blkC id c) = true
  | .seq a b, h => by
    simp only [codeT, Bool.and_eq_true] at h
    simp only [blkC]
    split
    · exact codeT_blk h.2
    · exact codeT_blk h.1
  | .cond _ a b, h => by
    simp only [codeT, Bool.and_eq_true] at h
    simp only [blkC]
    split
    · exact codeT_blk h.2
    · exact codeT_blk h.1
  | .block i a, h => by
    simp only [codeT] at h
    simp only [blkC]
    split
    · exact h
    · exact codeT_blk h
  | .loop a, h => codeT_blk (c := a) h
  | .region .., _ | .skip, _ | .ret, _ | .exit _, _ | .rangeFunc .., _ | .scope .., _ | .label _, _ | .goto _, _ | .refuse _, _ => rfl
def codeF (fn : Func) : Code := match fn.body with | some c => c | none => .skip
def isL : Code → Bool | .loop _ => true | _ => false
def inL : Code → Code | .loop a => a | _ => .skip
theorem isL_eq {c : Code} (h : isL c = true) : c = .loop (inL c) := by cases c <;> first | rfl | cases h
/-- the loop's round -/
def rndC (fn : Func) (id : Nat) : Code := inL (blkC id (codeF fn))

/-! ### runs -/
abbrev Ext0 := Nat → Option (List SV → Hp → Nat → Option (SV × Hp × Nat))
noncomputable def callT (F : Fx) (ext : Ext0) : CallF := callD Tryz.prog F (lookT TAB) ext 59
noncomputable def bodyT (F : Fx) (ext : Ext0) (f : Nat) (fn : Func) (c : Code) : D := compC Tryz.prog F (callT F ext) (lookT TAB f) fn.ntmps c
noncomputable def runH (F : Fx) (ext : Ext0) (f : Nat) (fn : Func) (hb hr : Nat → Option D) : List SV → Hp → Nat → Option (SV × Hp × Nat) :=
  runFn Tryz.prog fn (compH Tryz.prog F (callT F ext) (lookT TAB f) fn.ntmps hb hr (codeF fn))
theorem codeF_ok {f : Nat} {fn : Func} (hf : Tryz.prog.funcs[f]? = some fn) (hb : fn.body.isSome = true) : fn.body = some (codeF fn) ∧ codeT (lookT TAB f) (codeF fn) = true := by
  unfold codeF
  cases h : fn.body with
  | none => rw [h] at hb; cases hb
  | some c => exact ⟨rfl, lookT_ok hf h tab_ok⟩
theorem bodyT_ok {E : Env} {F : Fx} (hF : FxOk F E) {ext : Ext0} (hext : ∀ f e, ext f = some e → CallOk Tryz.prog E f e) {f : Nat} {fn : Func} {c : Code} (hc : codeT (lookT TAB f) c = true) : DOk Tryz.prog E fn.ntmps c (bodyT F ext f fn c) :=
  compC_ok (drawOk mixed_ok) hF (callD_ok (drawOk mixed_ok) hF (fun _ _ _ hf hc => lookT_ok hf hc tab_ok) hext 59) c hc
/-- a call of the function, with hooks -/
theorem runH_ok {E : Env} {F : Fx} (hF : FxOk F E) {ext : Ext0} (hext : ∀ f e, ext f = some e → CallOk Tryz.prog E f e) {f : Nat} {fn : Func} (hf : Tryz.prog.funcs[f]? = some fn) (hb : fn.body.isSome = true) (hca : callable Tryz.prog f = true) {hb' hr' : Nat → Option D}
    (hh : ∀ X, HookOk Tryz.prog E (fun _ => True) X fn.ntmps hb' hr' (codeF fn)) : CallOk Tryz.prog E f (runH F ext f fn hb' hr') := by
  obtain ⟨h1, h2⟩ := codeF_ok hf hb
  refine runFn_ok hf h1 hca fun s B X a w Q ht H hz hd hp => ?_
  exact compH_ok (drawOk mixed_ok) hF (fun _ _ _ _ => trivial) (callD_ok (drawOk mixed_ok) hF (fun _ _ _ hf hc => lookT_ok hf hc tab_ok) hext 59) (codeF fn) h2 (hh X) s B a w Q ht H hz hd trivial hp
theorem says_run {E : Env} {f : Nat} {cl : List SV → Hp → Nat → Option (SV × Hp × Nat)} (hcl : CallOk Tryz.prog E f cl) {args : List SV} (h : saysTrue (cl args .e 0) = true) (W : World) (vs : Array Value) (hl : LR (VV E be0 0) args vs.toList) (hfx : ∀ r o, E.fx r = some o → W.heap[r]? = some o) :
    Calls Tryz.prog f vs W fun e w' => e = .returned (.bool true) ∧ Below W.heap.size W w' := by
  cases hr : cl args .e 0 with
  | none => rw [hr] at h; simp [saysTrue] at h
  | some p =>
    obtain ⟨v, h', n'⟩ := p
    rw [hr] at h
    obtain ⟨_, h2⟩ := hcl _ _ _ _ _ _ hr be0 _ W vs (HR.start E W hfx) hl
    refine Calls.mono h2 fun e w' he => ?_
    obtain ⟨v', B', rfl, _, _, _, hf, hv⟩ := he
    refine ⟨?_, ⟨hf.os, hf.tape, hf.output, hf.size, fun k hk => hf.block k hk⟩⟩
    unfold saysTrue at h
    split at h
    · rename_i b q1 q2 e
      simp only [Option.some.injEq, Prod.mk.injEq] at e
      obtain ⟨rfl, _⟩ := e
      subst h
      simp only [VV, VA, VC] at hv
      rw [hv]
    · cases h
/-- A LAW WITH ONE LOOP OF T ROUNDS: k counts them; o: the variable that is T behind the loop -/
theorem law_loop {E : Env} {F F2 : Fx} {F1 : Nat → Fx} {ext : Ext0} {f id k o T : Nat} {fn : Func} {I O : LI} {args : List SV} {W : World} {vs : Array Value}
    (hf : Tryz.prog.funcs[f]? = some fn) (hb : fn.body.isSome = true) (hca : callable Tryz.prog f = true) (hext : ∀ E f e, ext f = some e → CallOk Tryz.prog E f e)
    (hk : 0 < k) (h0 : E.val k = 0) (hT : E.val o = T) (hF : FxOk F E) (hF1 : ∀ i : Nat, i < T → FxOk (F1 i) (E.set k i)) (hF2 : FxOk F2 (E.set k T))
    (hc : cntB id (codeF fn) = 1) (hi : isL (blkC id (codeF fn)) = true)
    (r1 : ∀ i : Nat, i < T → rndOk I (fun b => b) (sb k (k, 1)) vAll (bodyT (F1 i) ext f fn (rndC fn id) I.st) = true)
    (r2 : endOk O (fun b => b) (sb2 o k) vAll (some id) (bodyT F2 ext f fn (rndC fn id) I.st) = true)
    (r3 : saysTrue (runH F ext f fn (hk1 id (loopHook I O (fun b => b) (sb k (0, 0)) vAll (some id))) hk0 args .e 0) = true) (hl : LR (VV E be0 0) args vs.toList) (hfx : ∀ r o, E.fx r = some o → W.heap[r]? = some o) :
    Calls Tryz.prog f vs W fun e w' => e = .returned (.bool true) ∧ Below W.heap.size W w' := by
  obtain ⟨c1, c2⟩ := codeF_ok hf hb
  have c3 : codeT (lookT TAB f) (rndC fn id) = true := by
    have := codeT_blk (id := id) c2
    rw [isL_eq hi] at this
    exact this
  refine says_run (runH_ok hF (hext E) hf hb hca fun X => hook_cnt1 _ hc ?_) r3 W vs hl hfx
  rw [isL_eq hi]
  exact loopHook_ok (T := T) (.inr rfl) (EE := fun i => E.set k i) (I := fun _ => I) (d1 := fun i => bodyT (F1 i) ext f fn (rndC fn id)) (fun _ _ _ _ => trivial) (fun i X' hi' _ => (bodyT_ok (hF1 i hi') (hext _) c3).y) (fun X' _ => (bodyT_ok hF2 (hext _) c3).y)
    (envTo_start hk 0) (fun i hi' => ⟨_, _, _, by have := envTo_step (E := E) (V := vAll) hk (i : Int); simpa using this, r1 i hi'⟩) ⟨_, _, _, envTo_end hk h0 hT, r2⟩
end Go.Cx
