/- Loops whose number of rounds is a variable: a state that is kept, but for its variables. -/
import Derived.Test.YtpaglaakleajmaaGreatDoorCx2
set_option maxRecDepth 100000
set_option linter.unusedVariables false
set_option linter.unusedSimpArgs false
namespace Go.Cx
variable {P : Program} {F : Fx}

/-! ### variables in terms of others -/
def siC (s : Nat → Nat × Int) : SC → SC
  | .int k v c => .int k (s v).1 (c + (s v).2)
  | x => x
def siA (s : Nat → Nat × Int) : SA → SA
  | .s x => .s (siC s x)
  | .g l => .g (l.map (siC s))
def siV (s : Nat → Nat × Int) : SV → SV
  | .a x => .a (siA s x)
  | .t l => .t (l.map (siA s))
def OL.si (s : Nat → Nat × Int) : OL → OL
  | .cells l m e => .cells (l.map (siC s)) m e
  | .map es k => .map (es.map fun p => (siA s p.1, siA s p.2.1, p.2.2)) k
def vC (V : Nat → Bool) : SC → Bool
  | .int _ v _ => V v
  | .optr .. => false
  | _ => true
def vA (V : Nat → Bool) : SA → Bool
  | .s x => vC V x
  | .g l => l.all (vC V)
def vV (V : Nat → Bool) : SV → Bool
  | .a x => vA V x
  | .t l => l.all (vA V)
def OL.vO (V : Nat → Bool) : OL → Bool
  | .cells l _ _ => l.all (vC V)
  | .map es _ => es.all fun p => vA V p.1 && vA V p.2.1
def vAll (_ : Nat) : Bool := true
/-- E' in terms of E, at the variables V -/
def EnvTo (E E' : Env) (s : Nat → Nat × Int) (V : Nat → Bool) : Prop := (∀ v, V v = true → E'.val v = E.val (s v).1 + (s v).2) ∧ E'.η = E.η ∧ E'.fx = E.fx
section
variable {E E' : Env} {B B' : Be} {n n' : Nat} {s : Nat → Nat × Int} {V : Nat → Bool} {σ : Nat → Nat}
theorem VC.si (h : EnvTo E E' s V) : ∀ {x : SC} {v : Value}, vC V x = true → VC E B n (siC s x) v → VC E' B n x v
  | .int k x c, v, hx, hv => by
    simp only [siC, VC] at hv ⊢
    rw [hv, h.1 x hx]
    congr 1
    omega
  | .undef, _, _, hv => hv
  | .bool _, _, _, hv => hv
  | .str _, _, _, hv => hv
  | .pnil, _, _, hv => hv
  | .ptr .., _, _, hv => hv
  | .snil, _, _, hv => hv
  | .sl .., _, _, hv => hv
  | .mnil, _, _, hv => hv
  | .map _, _, _, hv => hv
  | .fnil, _, _, hv => hv
  | .fn .., _, _, hv => hv
  | .inil, _, _, hv => hv
  | .opq i, _, _, ⟨h1, h2⟩ => ⟨by rw [h1, h.2.1], h2⟩
  | .optr .., _, hx, _ => by cases hx
theorem okC_si : ∀ {x : SC}, okC n (siC s x) = okC n x
  | .int .. | .undef | .bool _ | .str _ | .pnil | .ptr .. | .snil | .sl .. | .mnil | .map _ | .fnil | .fn .. | .inil | .opq _ | .optr .. => rfl
theorem all_true {α : Type} : ∀ (l : List α), l.all (fun _ => true) = true
  | [] => rfl
  | _ :: r => by simp
theorem VA.si (h : EnvTo E E' s V) : ∀ {x : SA} {v : Value}, vA V x = true → VA E B n (siA s x) v → VA E' B n x v
  | .s _, _, hx, hv => VC.si h hx hv
  | .g l, _, hx, ⟨vs, h1, h2⟩ => ⟨vs, h1, LR.un (p := vC V) (fun _ _ hp => VC.si h hp) hx h2⟩
theorem VV.si (h : EnvTo E E' s V) : ∀ {x : SV} {v : Value}, vV V x = true → VV E B n (siV s x) v → VV E' B n x v
  | .a _, _, hx, hv => VA.si h hx hv
  | .t l, _, hx, ⟨vs, h1, h2⟩ => ⟨vs, h1, LR.un (p := vA V) (fun _ _ hp => VA.si h hp) hx h2⟩
theorem okA_si : ∀ {x : SA}, okA n (siA s x) = okA n x
  | .s _ => okC_si
  | .g l => by
    simp only [siA, okA, List.all_map]
    congr 1
    funext x
    exact okC_si
theorem okV_si : ∀ {x : SV}, okV n (siV s x) = okV n x
  | .a _ => okA_si
  | .t l => by
    simp only [siV, okV, List.all_map]
    congr 1
    funext x
    exact okA_si
/-- of a block as a list -/
def HOL (E : Env) (B : Be) (n b : Nat) : OL → Obj → Prop
  | .cells l m e, o => ∃ cs fr, o = .cells cs e fr ∧ (cs.size = B.cp b ∧ (m = 0 ∨ cs.size = m)) ∧ (fr.1 = fr.2 ∨ cs.size ≤ fr.1) ∧ ∀ (i : Nat) (x : SC), l[i]? = some x → ∃ v, cs[i]? = some v ∧ VC E B n x v
  | .map es clock, o => ∃ ms, o = .map ms clock ∧ LR (ER E B n) es ms.toList
theorem HOL.ho {b : Nat} : ∀ {o : OL} {o' : Obj}, HOL E B n b o o' → HO E B n b o.so o'
  | .cells .., _, ⟨cs, fr, h1, h2, h3, h4⟩ => ⟨cs, fr, h1, h2, h3, fun i x hx => h4 i x (so_get hx)⟩
  | .map .., _, h => h
theorem HOL.rn (hσ : ∀ b, b < n → B'.β (σ b) = B.β b ∧ B'.cp (σ b) = B.cp b ∧ σ b < n') {b : Nat} (hb : b < n) : ∀ {o : OL} {o' : Obj}, HOL E B n b o o' → HOL E B' n' (σ b) (o.rn σ) o'
  | .cells .., _, ⟨cs, fr, h1, h2, h3, h4⟩ => ⟨cs, fr, h1, ⟨by rw [h2.1, (hσ b hb).2.1], h2.2⟩, h3, fun i x hx => by
      rw [List.getElem?_map] at hx
      obtain ⟨y, hy, rfl⟩ := Option.map_eq_some_iff.1 hx
      obtain ⟨v, e1, e2⟩ := h4 i y hy
      exact ⟨v, e1, e2.rn hσ⟩⟩
  | .map .., _, ⟨ms, h1, h2⟩ => ⟨ms, h1, LR.rn (g := fun p : SA × SA × Nat => (rnA σ p.1, rnA σ p.2.1, p.2.2)) (fun _ _ h => ER.rn hσ h) h2⟩
/-- what the great heap's block holds, holds of the small one's, in the other variables -/
theorem OL.un_si (h : EnvTo E E' s V) (hσ : ∀ b, b < n → B'.β (σ b) = B.β b ∧ B'.cp (σ b) = B.cp b) {b : Nat} (hb : b < n) {o : OL} (hok : o.ok n = true) (hvo : o.vO V = true) {so : SO} (hle : ((o.si s).rn σ).le so = true) {o' : Obj} (ho : HO E B' n' (σ b) so o') : HOL E' B n b o o' := by
  cases o with
  | cells l m e =>
    cases so with
    | map => simp [OL.le, OL.rn, OL.si] at hle
    | cells c m' e' =>
      simp only [OL.le, OL.rn, OL.si, Bool.and_eq_true] at hle
      obtain ⟨cs, fr, h1, h2, h3, h4⟩ := ho
      refine ⟨cs, fr, by rw [h1, Nat.eq_of_beq_eq_true hle.1.1], ⟨by rw [h2.1, (hσ b hb).2], mOk_ok hle.1.2 h2.2⟩, h3, fun i x hx => ?_⟩
      obtain ⟨v, e1, e2⟩ := h4 i (rnC σ (siC s x)) (by have := cellsIn_ok hle.2 (j := i) (x := rnC σ (siC s x)) (by rw [List.getElem?_map, List.getElem?_map, hx]; rfl); rwa [Nat.zero_add] at this)
      exact ⟨v, e1, (e2.un hσ (by rw [okC_si]; exact List.all_eq_true.1 hok x (List.mem_of_getElem? hx))).si h (List.all_eq_true.1 hvo x (List.mem_of_getElem? hx))⟩
  | map es k =>
    cases so with
    | cells => simp [OL.le, OL.rn, OL.si] at hle
    | map es' k' =>
      simp only [OL.le, OL.rn, OL.si, Bool.and_eq_true] at hle
      have e1 := esEq_ok hle.1
      have e2 := Nat.eq_of_beq_eq_true hle.2
      subst e1; subst e2
      obtain ⟨ms, h1, h2⟩ := ho
      rw [List.map_map] at h2
      refine ⟨ms, h1, LR.un (g := (fun p : SA × SA × Nat => (rnA σ p.1, rnA σ p.2.1, p.2.2)) ∘ fun p : SA × SA × Nat => (siA s p.1, siA s p.2.1, p.2.2)) (p := fun p : SA × SA × Nat => (okA n p.1 && okA n p.2.1) && (vA V p.1 && vA V p.2.1)) (fun e m hp h' => ?_) (by
        refine List.all_eq_true.2 fun p hp => ?_
        have a1 := List.all_eq_true.1 hok p hp
        have a2 := List.all_eq_true.1 hvo p hp
        rw [Bool.and_eq_true]; exact ⟨a1, a2⟩) h2⟩
      simp only [Bool.and_eq_true] at hp
      exact ⟨(VA.un hσ (by rw [okA_si]; exact hp.1.1) h'.1).si h hp.2.1, (VA.un hσ (by rw [okA_si]; exact hp.1.2) h'.2.1).si h hp.2.2, h'.2.2⟩
end

/-! ### states as lists -/
structure LI where
  t : List (Nat × SV)
  h : List (Nat × OL)
  n : Nat
def putT : List (Nat × SV) → Ts → Ts
  | [], T => T
  | (t, v) :: r, T => putT r (T.upd 24 t (some v))
def LI.st (I : LI) : St := ⟨putT I.t .e, putL I.h .e, I.n⟩
def tIn (σ : Nat → Nat) (s : Nat → Nat × Int) (V : Nat → Bool) (n : Nat) (T : Ts) : List (Nat × SV) → Bool
  | [] => true
  | (t, v) :: r => (match T.get t with | some u => svEq u (rnV σ (siV s v)) | none => false) && (okV n v && (vV V v && tIn σ s V n T r))
def hIn (σ : Nat → Nat) (s : Nat → Nat × Int) (V : Nat → Bool) (n : Nat) (h : Hp) : List (Nat × OL) → Bool
  | [] => true
  | (b, o) :: r => (match h.get (σ b) with | some so => ((o.si s).rn σ).le so | none => false) && (Nat.blt b n && (o.ok n && (o.vO V && hIn σ s V n h r)))
/-- does a state fit? -/
def LI.fits (I : LI) (σ : Nat → Nat) (s : Nat → Nat × Int) (V : Nat → Bool) (u : St) : Bool :=
  match u with
  | ⟨T, h, n⟩ => tIn σ s V I.n T I.t && (hIn σ s V I.n h I.h && (ltAll σ n I.n && (nodupN σ I.h && Nat.ble I.n lim)))
theorem putT_some {t : Nat} {x : SV} : ∀ {l : List (Nat × SV)} {T : Ts}, (putT l T).get t = some x → (t, x) ∈ l ∨ T.get t = some x
  | [], _, h => .inr h
  | (u, v) :: l, T, h => by
    simp only [putT] at h
    rcases putT_some h with h | h
    · exact .inl (List.mem_cons_of_mem _ h)
    · rcases Tr.get_upd_some h with ⟨rfl, rfl⟩ | h
      · exact .inl (List.mem_cons_self ..)
      · exact .inr h
theorem tIn_ok {σ : Nat → Nat} {s : Nat → Nat × Int} {V : Nat → Bool} {n : Nat} {T : Ts} : ∀ {l : List (Nat × SV)}, tIn σ s V n T l = true → ∀ p ∈ l, T.get p.1 = some (rnV σ (siV s p.2)) ∧ okV n p.2 = true ∧ vV V p.2 = true
  | [], _, p, hp => by cases hp
  | (t, v) :: l, h, p, hp => by
    simp only [tIn, Bool.and_eq_true] at h
    rcases List.mem_cons.1 hp with rfl | hp
    · refine ⟨?_, h.2.1, h.2.2.1⟩
      have h := h.1
      split at h
      · rename_i u hu
        rw [hu, svEq_ok h]
      · cases h
    · exact tIn_ok h.2.2.2 p hp
theorem hIn_ok {σ : Nat → Nat} {s : Nat → Nat × Int} {V : Nat → Bool} {n : Nat} {h : Hp} : ∀ {l : List (Nat × OL)}, hIn σ s V n h l = true → ∀ p ∈ l, p.1 < n ∧ p.2.ok n = true ∧ p.2.vO V = true ∧ ∃ so, h.get (σ p.1) = some so ∧ ((p.2.si s).rn σ).le so = true
  | [], _, p, hp => by cases hp
  | (b, o) :: l, hh, p, hp => by
    simp only [hIn, Bool.and_eq_true] at hh
    rcases List.mem_cons.1 hp with rfl | hp
    · refine ⟨by simpa using hh.2.1, hh.2.2.1, hh.2.2.2.1, ?_⟩
      have h1 := hh.1
      split at h1
      · rename_i so hso
        exact ⟨so, hso, h1⟩
      · cases h1
    · exact hIn_ok hh.2.2.2.2 p hp
/-- a state that lies in a world -/
structure LIOk (E : Env) (B : Be) (X : Nat → Prop) (I : LI) (tmps : Array Value) (w : World) : Prop where
  t : ∀ p ∈ I.t, ∃ v, tmps[p.1]? = some v ∧ VV E B I.n p.2 v
  h : ∀ p ∈ I.h, p.1 < I.n ∧ ¬ X (B.β p.1) ∧ ∃ o', w.heap[B.β p.1]? = some o' ∧ HOL E B I.n p.1 p.2 o'
  inj : ∀ p ∈ I.h, ∀ q ∈ I.h, B.β p.1 = B.β q.1 → p = q
  top : I.n ≤ lim
  out : ∀ r, X r → r < w.heap.size
  fix : ∀ r o, E.fx r = some o → X r ∧ w.heap[r]? = some o
theorem LIOk.st {E : Env} {B : Be} {X : Nat → Prop} {I : LI} {tmps : Array Value} {w : World} (h : LIOk E B X I tmps w) : TR E B I.st.n I.st.t tmps ∧ HR E B X I.st.n I.st.h w := by
  have hpre : ∀ b so, (putL I.h .e).get b = some so → ∃ o, (b, o) ∈ I.h ∧ so = o.so := fun b so hso => by
    rcases putL_some hso with h | hx
    · exact h
    · simp [Tr.get] at hx
  refine ⟨fun t x hx => ?_, fun b so hso => ?_, fun b b' so so' hb hb' hβ => ?_, h.top, h.out, h.fix⟩
  · rcases putT_some hx with hm | hx
    · exact h.t _ hm
    · simp [Tr.get] at hx
  · obtain ⟨o, ho, rfl⟩ := hpre b so hso
    obtain ⟨g1, g2, o', g3, g4⟩ := h.h _ ho
    exact ⟨g1, g2, o', g3, g4.ho⟩
  · obtain ⟨o, ho, _⟩ := hpre b so hb
    obtain ⟨o', ho', _⟩ := hpre b' so' hb'
    exact congrArg Prod.fst (h.inj _ ho _ ho' hβ)
theorem LIOk.less {E : Env} {B : Be} {X X2 : Nat → Prop} {I : LI} {tmps : Array Value} {w : World} (h : LIOk E B X I tmps w) (hX : ∀ r, X2 r → X r) (hfx : ∀ r o, E.fx r = some o → X2 r) : LIOk E B X2 I tmps w :=
  ⟨h.t, fun p hp => let ⟨a, b, c⟩ := h.h p hp; ⟨a, fun k => b (hX _ k), c⟩, h.inj, h.top, fun r hr => h.out r (hX r hr), fun r o ho => ⟨hfx r o ho, (h.fix r o ho).2⟩⟩
/-- the small state in this world -/
theorem fits_ok {E E' : Env} {I : LI} {σ : Nat → Nat} {s : Nat → Nat × Int} {V : Nat → Bool} {u : St} (hE : EnvTo E E' s V) (hf : I.fits σ s V u = true) {B : Be} {X : Nat → Prop} {w : World} {tmps : Array Value} (ht : TR E B u.n u.t tmps) (H : HR E B X u.n u.h w) :
    ∃ B0 X0, LIOk E' B0 X0 I tmps w ∧ ∀ r, X r → X0 r := by
  obtain ⟨T, h, n⟩ := u
  simp only [LI.fits, Bool.and_eq_true] at hf
  obtain ⟨f1, f2, f3, f4, f5⟩ := hf
  have f1 := tIn_ok f1
  have f2 := hIn_ok f2
  let B0 : Be := ⟨fun b => B.β (σ b), fun b => B.cp (σ b)⟩
  have hB0 : ∀ b, b < I.n → B.β (σ b) = B0.β b ∧ B.cp (σ b) = B0.cp b := fun b _ => ⟨rfl, rfl⟩
  have hXX : ∀ r, X r → r < w.heap.size ∧ ∀ p ∈ I.h, B.β (σ p.1) ≠ r := fun r hr => ⟨H.out r hr, fun p hp he => by
    obtain ⟨_, _, _, so, q1, _⟩ := f2 _ hp
    exact (H.live _ _ q1).2.1 (he ▸ hr)⟩
  refine ⟨B0, fun r => r < w.heap.size ∧ ∀ p ∈ I.h, B.β (σ p.1) ≠ r, ⟨fun p hp => ?_, fun p hp => ?_, fun p hp q hq hβ => ?_, Nat.le_of_ble_eq_true f5, fun r hr => hr.1, fun r o ho => ?_⟩, hXX⟩
  · obtain ⟨g1, g2, g3⟩ := f1 _ hp
    obtain ⟨v, e1, e2⟩ := ht _ _ g1
    exact ⟨v, e1, (e2.un hB0 (by rw [okV_si]; exact g2)).si hE g3⟩
  · obtain ⟨p1, p2, p3, so', q1, q2⟩ := f2 _ hp
    obtain ⟨_, r2, o', r3, r4⟩ := H.live _ _ q1
    exact ⟨p1, fun hx => hx.2 _ hp rfl, o', r3, OL.un_si hE (σ := σ) (B' := B) hB0 p1 p2 p3 q2 r4⟩
  · obtain ⟨_, _, _, so, q1, _⟩ := f2 _ hp
    obtain ⟨_, _, _, so', q1', _⟩ := f2 _ hq
    exact nodupN_ok f4 _ hp _ hq (H.inj _ _ _ _ q1 q1' hβ)
  · rw [hE.2.2] at ho
    exact ⟨hXX r (H.fix r o ho).1, (H.fix r o ho).2⟩

/-! ### the code's executor, in worlds of which something is known -/
/-- Y: what is known of the world, and stays while what may not be touched stays -/
def DOkY (P : Program) (E : Env) (Y : World → Prop) (X : Nat → Prop) (nt : Nat) (c : Code) (d : D) : Prop :=
  ∀ (s : St) (B : Be) (a : Act) (w : World) (Q : Exit → Act → World → Prop), TR E B s.n s.t a.tmps → HR E B X s.n s.h w → a.tmps.size = nt → a.defers = [] → Y w → Post E X nt B s.n w Q (d s) → c.wp P Q a w
def Keeps (Y : World → Prop) (X : Nat → Prop) : Prop := ∀ w w', FR X w w' → Y w → Y w'
variable {E : Env} {Y : World → Prop} {X : Nat → Prop} {nt : Nat}
theorem DOk.y {c : Code} {d : D} (h : DOk P E nt c d) : DOkY P E Y X nt c d := fun s B a w Q ht H hz hd _ hp => h s B X a w Q ht H hz hd hp
theorem seq_okY (hY : Keeps Y X) {c1 c2 : Code} {d1 d2 : D} (h1 : DOkY P E Y X nt c1 d1) (h2 : DOkY P E Y X nt c2 d2) : DOkY P E Y X nt (.seq c1 c2) (seqD d1 d2) := by
  intro s B a w Q ht H hz hd hy hp
  refine wp_seq (h1 s B a w _ ht H hz hd hy ?_)
  simp only [seqD] at hp
  generalize d1 s = r at hp
  cases r with
  | bad => exact hp
  | brk id s' => exact hp
  | ret s' => exact hp
  | nrm s' => exact fun B' a' w' e1 e2 e3 e4 e5 e6 e7 => h2 s' B' a' w' Q e3 e4 e6 e7 (hY _ _ e5 hy) (Post.move hp e1 e2 e5)
theorem cond_okY {c : Operand} {c1 c2 : Code} {d1 d2 : D} (h1 : DOkY P E Y X nt c1 d1) (h2 : DOkY P E Y X nt c2 d2) : DOkY P E Y X nt (.cond c c1 c2) (condD c d1 d2) := by
  intro s B a w Q ht H hz hd hy hp
  simp only [condD] at hp
  split at hp
  · rename_i hc
    exact wp_cond_true (ht.evC hc) (h1 s B a w Q ht H hz hd hy hp)
  · rename_i hc
    exact wp_cond_false (ht.evC hc) (h2 s B a w Q ht H hz hd hy hp)
  · exact hp.elim
theorem block_okY {id : Nat} {c : Code} {d : D} (h : DOkY P E Y X nt c d) : DOkY P E Y X nt (.block id c) (blockD id d) := by
  intro s B a w Q ht H hz hd hy hp
  refine wp_block (h s B a w _ ht H hz hd hy ?_)
  simp only [blockD] at hp
  generalize d s = r at hp
  cases r with
  | bad => exact hp
  | nrm s' => exact hp
  | ret s' => exact hp
  | brk i s' =>
    dsimp only at hp
    split at hp
    · rename_i hi
      have hi := Nat.eq_of_beq_eq_true hi
      subst hi
      exact After.move hp (Ext.refl _ _) (Nat.le_refl _) (FR.refl _ _) fun a w h => by simpa [Exit.inBlock] using h
    · rename_i hi
      have hi : i ≠ id := fun e => by subst e; simp at hi
      exact After.move hp (Ext.refl _ _) (Nat.le_refl _) (FR.refl _ _) fun a w h => by simpa [Exit.inBlock, hi] using h
theorem loop_okY (hY : Keeps Y X) {c : Code} {d : D} (h : DOkY P E Y X nt c d) (k : Nat) : DOkY P E Y X nt (.loop c) (loopD d k) := by
  have key : ∀ (k : Nat) (s : St) (B : Be) (a : Act) (w : World) (Q : Exit → Act → World → Prop), TR E B s.n s.t a.tmps → HR E B X s.n s.h w → a.tmps.size = nt → a.defers = [] → Y w → Post E X nt B s.n w Q (loopD d k s) → Code.rounds P c Q k a w := by
    intro k
    induction k with
    | zero => intro s B a w Q _ _ _ _ _ hp; exact hp.elim
    | succ k ih =>
      intro s B a w Q ht H hz hd hy hp
      rw [rounds_succ]
      refine h s B a w _ ht H hz hd hy ?_
      simp only [loopD] at hp
      generalize d s = r at hp
      cases r with
      | bad => exact hp
      | brk id s' => exact hp
      | ret s' => exact hp
      | nrm s' => exact fun B' a' w' e1 e2 e3 e4 e5 e6 e7 => ih s' B' a' w' Q e3 e4 e6 e7 (hY _ _ e5 hy) (Post.move hp e1 e2 e5)
  exact fun s B a w Q ht H hz hd hy hp => wp_loop_rounds k (key k s B a w Q ht H hz hd hy hp)

/-! ### code with hooks -/
def compH (P : Program) (F : Fx) (call : CallF) (tab : Nat → Option (List DE)) (nt : Nat) (hb hr : Nat → Option D) : Code → D
  | .seq a b => seqD (compH P F call tab nt hb hr a) (compH P F call tab nt hb hr b)
  | .cond c a b => condD c (compH P F call tab nt hb hr a) (compH P F call tab nt hb hr b)
  | .block id a => match hb id with
    | some d => d
    | none => blockD id (compH P F call tab nt hb hr a)
  | .loop a => loopD (compH P F call tab nt hb hr a) rounds
  | .region id ops draw => match hr id with
    | some d => d
    | none => compC P F call tab nt (.region id ops draw)
  | c => compC P F call tab nt c
def HookOk (P : Program) (E : Env) (Y : World → Prop) (X : Nat → Prop) (nt : Nat) (hb hr : Nat → Option D) : Code → Prop
  | .seq a b => HookOk P E Y X nt hb hr a ∧ HookOk P E Y X nt hb hr b
  | .cond _ a b => HookOk P E Y X nt hb hr a ∧ HookOk P E Y X nt hb hr b
  | .block id a => (∀ d, hb id = some d → DOkY P E Y X nt (.block id a) d) ∧ HookOk P E Y X nt hb hr a
  | .loop a => HookOk P E Y X nt hb hr a
  | .region id ops draw => ∀ d, hr id = some d → DOkY P E Y X nt (.region id ops draw) d
  | _ => True
theorem compH_ok (hD : DrawOk P) (hF : FxOk F E) (hY : Keeps Y X) {call : CallF} (hcall : ∀ f, CallOk P E f (call f)) {tab : Nat → Option (List DE)} {hb hr : Nat → Option D} : ∀ (c : Code), codeT tab c = true → HookOk P E Y X nt hb hr c → DOkY P E Y X nt c (compH P F call tab nt hb hr c)
  | .seq c1 c2, h, hh => by
    simp only [codeT, Bool.and_eq_true] at h
    exact seq_okY hY (compH_ok hD hF hY hcall c1 h.1 hh.1) (compH_ok hD hF hY hcall c2 h.2 hh.2)
  | .cond c c1 c2, h, hh => by
    simp only [codeT, Bool.and_eq_true] at h
    exact cond_okY (compH_ok hD hF hY hcall c1 h.1 hh.1) (compH_ok hD hF hY hcall c2 h.2 hh.2)
  | .block id c, h, hh => by
    simp only [compH]
    split
    · rename_i d hd
      exact hh.1 d hd
    · exact block_okY (compH_ok hD hF hY hcall c h hh.2)
  | .loop c, h, hh => loop_okY hY (compH_ok hD hF hY hcall c h hh) _
  | .region id ops draw, h, hh => by
    simp only [compH]
    split
    · rename_i d hd
      exact hh d hd
    · exact (compC_ok hD hF hcall _ h).y
  | .skip, h, _ => (compC_ok hD hF hcall .skip h).y
  | .ret, h, _ => (compC_ok hD hF hcall .ret h).y
  | .exit id, h, _ => (compC_ok hD hF hcall (.exit id) h).y
  | .rangeFunc .., _, _ => (bad_ok _).y
  | .scope .., _, _ => (bad_ok _).y
  | .label _, _, _ => (bad_ok _).y
  | .goto _, _, _ => (bad_ok _).y
  | .refuse _, _, _ => (bad_ok _).y

/-! ### a loop of T rounds -/
/-- the state behind the loop, in the great state's numbers -/
def LI.out (O : LI) (m : Nat) : St := ⟨putT (O.t.map fun p => (p.1, rnV (fun b => m + b) p.2)) .e, putL (O.h.map fun p => (m + p.1, p.2.rn fun b => m + b)) .e, m + O.n⟩
/-- x: by which way the loop is left (some id: its block's exit; none: a return) -/
def loopHook (I O : LI) (σ : Nat → Nat) (s : Nat → Nat × Int) (V : Nat → Bool) (x : Option Nat) : D := fun u => match I.fits σ s V u && Nat.ble (u.n + O.n) lim with
  | true => match x with
    | some _ => .nrm (O.out u.n)
    | none => .ret (O.out u.n)
  | false => .bad
def rndOk (I : LI) (σ : Nat → Nat) (s : Nat → Nat × Int) (V : Nat → Bool) (r : Res) : Bool := match r with
  | .nrm u => I.fits σ s V u
  | _ => false
def exOf : Option Nat → Exit
  | some id => .exit id
  | none => .ret
def endOk (O : LI) (σ : Nat → Nat) (s : Nat → Nat × Int) (V : Nat → Bool) (x : Option Nat) (r : Res) : Bool := match r with
  | .brk i u => match x with
    | some id => Nat.beq i id && O.fits σ s V u
    | none => false
  | .ret u => match x with
    | some _ => false
    | none => O.fits σ s V u
  | _ => false
theorem out_ok {O : LI} {m : Nat} {B BO : Be} {X : Nat → Prop} {w : World} {tmps : Array Value} (hm : m + O.n ≤ lim) (h : LIOk E BO X O tmps w) :
    ∃ B', Ext B B' m ∧ TR E B' (O.out m).n (O.out m).t tmps ∧ HR E B' X (O.out m).n (O.out m).h w := by
  let B' : Be := ⟨fun b => if b < m then B.β b else BO.β (b - m), fun b => if b < m then B.cp b else BO.cp (b - m)⟩
  have hs : ∀ b, b < O.n → B'.β (m + b) = BO.β b ∧ B'.cp (m + b) = BO.cp b ∧ m + b < m + O.n := fun b hb => by
    have h1 : ¬ m + b < m := by omega
    have h2 : m + b - m = b := by omega
    simp only [B', h1, if_false, h2]
    exact ⟨trivial, trivial, by omega⟩
  let O2 : LI := ⟨O.t.map fun p => (p.1, rnV (fun b => m + b) p.2), O.h.map fun p => (m + p.1, p.2.rn fun b => m + b), m + O.n⟩
  have k : LIOk E B' X O2 tmps w := by
    refine ⟨fun p hp => ?_, fun p hp => ?_, fun p hp q hq hβ => ?_, hm, h.out, h.fix⟩
    · obtain ⟨p0, h0, rfl⟩ := List.mem_map.1 hp
      obtain ⟨v, e1, e2⟩ := h.t p0 h0
      exact ⟨v, e1, e2.rn hs⟩
    · obtain ⟨p0, h0, rfl⟩ := List.mem_map.1 hp
      obtain ⟨g1, g2, o', g3, g4⟩ := h.h p0 h0
      exact ⟨(hs _ g1).2.2, by rw [(hs _ g1).1]; exact g2, o', by rw [(hs _ g1).1]; exact g3, g4.rn hs g1⟩
    · obtain ⟨p0, h0, rfl⟩ := List.mem_map.1 hp
      obtain ⟨q0, k0, rfl⟩ := List.mem_map.1 hq
      have a1 := (h.h p0 h0).1
      have a2 := (h.h q0 k0).1
      rw [(hs _ a1).1, (hs _ a2).1] at hβ
      rw [h.inj _ h0 _ k0 hβ]
  obtain ⟨k1, k2⟩ := k.st
  exact ⟨B', fun b hb => by simp [B', hb], k1, k2⟩
/-- EE i: the variables as the i-th round begins; I i: the state -/
theorem loop_rounds {a : Code} {x : Option Nat} {T : Nat} {EE : Nat → Env} {I : Nat → LI} {O : LI} {d1 : Nat → D} {d2 : D}
    (hfx : ∀ r o, E.fx r = some o → X r) (hY : Keeps Y X) (hb1 : ∀ i X', i < T → (∀ r, X r → X' r) → DOkY P (EE i) Y X' nt a (d1 i)) (hb2 : ∀ X', (∀ r, X r → X' r) → DOkY P (EE T) Y X' nt a d2)
    (r1 : ∀ i, i < T → ∃ σ s V, EnvTo (EE i) (EE (i + 1)) s V ∧ rndOk (I (i + 1)) σ s V (d1 i (I i).st) = true) (r2 : ∃ σ s V, EnvTo (EE T) E s V ∧ endOk O σ s V x (d2 (I T).st) = true)
    {Q : Exit → Act → World → Prop} : ∀ (j i : Nat), i + j = T → ∀ (B : Be) (X0 : Nat → Prop) (ac : Act) (w : World), (∀ r, X r → X0 r) → LIOk (EE i) B X0 (I i) ac.tmps w → ac.tmps.size = nt → ac.defers = [] → Y w →
      (∀ BO ac' w', LIOk E BO X O ac'.tmps w' → FR X w w' → ac'.tmps.size = nt → ac'.defers = [] → Q (exOf x) ac' w') → Code.rounds P a Q (j + 1) ac w
  | 0, i, hij, B, X0, ac, w, hX, hI, hz, hd, hy, hq => by
    have : i = T := by omega
    subst this
    rw [rounds_succ]
    obtain ⟨k1, k2⟩ := hI.st
    obtain ⟨σ, s, V, h2, r2⟩ := r2
    refine hb2 X0 hX (I i).st B ac w _ k1 k2 hz hd hy ?_
    unfold endOk at r2
    generalize d2 (I i).st = r at r2
    cases r with
    | bad => cases r2
    | nrm u => cases r2
    | ret u =>
      cases x with
      | some id => cases r2
      | none =>
        intro B' a' w' e1 e2 e3 e4 e5 e6 e7
        obtain ⟨BO, XO, g1, g2⟩ := fits_ok h2 r2 e3 e4
        exact hq BO a' w' (g1.less (fun r hr => g2 r (hX r hr)) hfx) (e5.mono hX) e6 e7
    | brk i' u =>
      cases x with
      | none => cases r2
      | some id =>
        simp only [Bool.and_eq_true] at r2
        obtain ⟨r3, r4⟩ := r2
        have r3 := Nat.eq_of_beq_eq_true r3
        subst r3
        intro B' a' w' e1 e2 e3 e4 e5 e6 e7
        obtain ⟨BO, XO, g1, g2⟩ := fits_ok h2 r4 e3 e4
        exact hq BO a' w' (g1.less (fun r hr => g2 r (hX r hr)) hfx) (e5.mono hX) e6 e7
  | j + 1, i, hij, B, X0, ac, w, hX, hI, hz, hd, hy, hq => by
    rw [rounds_succ]
    obtain ⟨k1, k2⟩ := hI.st
    refine hb1 i X0 (by omega) hX (I i).st B ac w _ k1 k2 hz hd hy ?_
    obtain ⟨σ, s, V, h1, r1'⟩ := r1 i (by omega)
    unfold rndOk at r1'
    generalize d1 i (I i).st = r at r1'
    cases r with
    | bad => cases r1'
    | brk _ u => cases r1'
    | ret u => cases r1'
    | nrm u =>
      intro B' a' w' e1 e2 e3 e4 e5 e6 e7
      obtain ⟨B1, X1, g1, g2⟩ := fits_ok h1 r1' e3 e4
      have hf := e5.mono hX
      exact loop_rounds hfx hY hb1 hb2 r1 r2 j (i + 1) (by omega) B1 X1 a' w' (fun r hr => g2 r (hX r hr)) g1 e6 e7 (hY _ _ hf hy) fun BO ac' w'' l1 l2 l3 l4 => hq BO ac' w'' l1 (hf.trans l2) l3 l4
theorem loopHook_ok {a : Code} {id T : Nat} {x : Option Nat} (hx : x = none ∨ x = some id) {EE : Nat → Env} {I : Nat → LI} {O : LI} {d1 : Nat → D} {d2 : D} {σ0 : Nat → Nat} {s0 : Nat → Nat × Int} {V0 : Nat → Bool}
    (hY : Keeps Y X) (hb1 : ∀ i X', i < T → (∀ r, X r → X' r) → DOkY P (EE i) Y X' nt a (d1 i)) (hb2 : ∀ X', (∀ r, X r → X' r) → DOkY P (EE T) Y X' nt a d2)
    (h0 : EnvTo E (EE 0) s0 V0) (r1 : ∀ i, i < T → ∃ σ s V, EnvTo (EE i) (EE (i + 1)) s V ∧ rndOk (I (i + 1)) σ s V (d1 i (I i).st) = true) (r2 : ∃ σ s V, EnvTo (EE T) E s V ∧ endOk O σ s V x (d2 (I T).st) = true) :
    DOkY P E Y X nt (.block id (.loop a)) (loopHook (I 0) O σ0 s0 V0 x) := by
  intro u B ac w Q ht H hz hd hy hp
  unfold loopHook at hp
  split at hp
  · rename_i hc
    simp only [Bool.and_eq_true] at hc
    obtain ⟨c1, c2⟩ := hc
    have c2 := Nat.le_of_ble_eq_true c2
    obtain ⟨B0, X0, g1, g2⟩ := fits_ok h0 c1 ht H
    refine wp_block (wp_loop_rounds (T + 1) (loop_rounds (fun r o ho => (H.fix r o ho).1) hY hb1 hb2 r1 r2 T 0 (by omega) B0 X0 ac w g2 g1 hz hd hy fun BO ac' w' l1 l2 l3 l4 => ?_))
    obtain ⟨B', m1, m2, m3⟩ := out_ok (B := B) c2 l1
    rcases hx with rfl | rfl
    · have := hp B' ac' w' m1 (by simp [LI.out]) m2 m3 l2 l3 l4
      simpa [Exit.inBlock, exOf] using this
    · have := hp B' ac' w' m1 (by simp [LI.out]) m2 m3 l2 l3 l4
      simpa [Exit.inBlock, exOf] using this
  · exact hp.elim
end Go.Cx
