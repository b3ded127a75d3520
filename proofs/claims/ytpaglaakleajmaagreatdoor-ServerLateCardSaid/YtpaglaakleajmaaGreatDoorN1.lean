/- slices.Sorted(maps.Keys(m)) of a map whose keys are known: a contract of the library's function for the executor. -/
import Derived.Test.YtpaglaakleajmaaGreatDoorL1
import Derived.Shelf.SlIterI.Nil
import Derived.Shelf.SortM.Plain
import Derived.Shelf.SortM.SortNone
set_option maxRecDepth 100000
set_option linter.unusedVariables false
set_option linter.unusedSimpArgs false
namespace Go.Cx
open Go.Proofs Go.RowKit Go.Maps Go.Sort Go.Shelf Go.MapKept Go.WideElems

/-! ### sorting -/
def insI (x : Int) : List Int → List Int
  | [] => [x]
  | y :: r => match natLt y x with | true => y :: insI x r | false => x :: y :: r
def isort : List Int → List Int
  | [] => []
  | x :: r => insI x (isort r)
theorem natLt_iff {a b : Int} : natLt a b = true ↔ a < b := by
  cases a <;> cases b <;> simp [natLt]
theorem insI_perm (x : Int) : ∀ l : List Int, (insI x l).Perm (x :: l)
  | [] => .refl _
  | y :: r => by
    simp only [insI]
    split
    · exact ((insI_perm x r).cons y).trans (.swap x y r)
    · exact .refl _
theorem isort_perm : ∀ l : List Int, (isort l).Perm l
  | [] => .refl _
  | x :: r => (insI_perm x _).trans ((isort_perm r).cons x)
theorem insI_sorted (x : Int) : ∀ l : List Int, l.Pairwise (· ≤ ·) → (insI x l).Pairwise (· ≤ ·)
  | [], _ => by simp [insI]
  | y :: r, h => by
    simp only [insI]
    rw [List.pairwise_cons] at h
    split
    · rename_i hc
      have hc := natLt_iff.1 hc
      rw [List.pairwise_cons]
      refine ⟨fun z hz => ?_, insI_sorted x r h.2⟩
      rcases List.mem_cons.1 ((insI_perm x r).mem_iff.1 hz) with rfl | hz
      · omega
      · exact h.1 z hz
    · rename_i hc
      have hc : ¬ y < x := fun k => by rw [natLt_iff.2 k] at hc; cases hc
      rw [List.pairwise_cons]
      refine ⟨fun z hz => ?_, List.pairwise_cons.2 h⟩
      rcases List.mem_cons.1 hz with rfl | hz
      · omega
      · have := h.1 z hz; omega
theorem isort_sorted : ∀ l : List Int, (isort l).Pairwise (· ≤ ·)
  | [] => .nil
  | x :: r => insI_sorted x _ (isort_sorted r)
theorem isort_merge {ss ks : List Int} (h : ss.Perm ks) : ss.mergeSort (fun x y => decide (x ≤ y)) = isort ks := by
  have h1 := mergeSort_of_perm_i (h.trans (isort_perm ks).symm)
  show ss.mergeSort leI = _
  rw [h1]
  exact List.mergeSort_of_pairwise ((isort_sorted ks).imp fun h => by simpa [leI] using h)

/-! ### the map's keys -/
def keysOf : List (SA × SA × Nat) → Option (List Int)
  | [] => some []
  | (.s (.int .i64 0 c), _, _) :: r => match keysOf r with | some l => some (c :: l) | none => none
  | _ => none
def inI (x : Int) : List Int → Bool
  | [] => false
  | y :: r => natEq x y || inI x r
def nodupI : List Int → Bool
  | [] => true
  | x :: r => !inI x r && nodupI r
def inN (x : Nat) : List Nat → Bool
  | [] => false
  | y :: r => Nat.beq x y || inN x r
def nodupB : List Nat → Bool
  | [] => true
  | x :: r => !inN x r && nodupB r
theorem natEq_iff {a b : Int} : natEq a b = true ↔ a = b := by
  cases a <;> cases b <;> simp [natEq] <;> omega
theorem inI_iff {x : Int} : ∀ {l : List Int}, inI x l = true ↔ x ∈ l
  | [] => by simp [inI]
  | y :: r => by simp [inI, natEq_iff, inI_iff]
theorem nodupI_ok : ∀ {l : List Int}, nodupI l = true → l.Nodup
  | [], _ => .nil
  | x :: r, h => by
    simp only [nodupI, Bool.and_eq_true, Bool.not_eq_true'] at h
    refine List.nodup_cons.2 ⟨fun hm => ?_, nodupI_ok h.2⟩
    rw [inI_iff.2 hm] at h
    cases h.1
theorem inN_iff {x : Nat} : ∀ {l : List Nat}, inN x l = true ↔ x ∈ l
  | [] => by simp [inN]
  | y :: r => by
    simp only [inN, Bool.or_eq_true, inN_iff, List.mem_cons]
    constructor
    · rintro (h | h)
      · exact .inl (Nat.eq_of_beq_eq_true h)
      · exact .inr h
    · rintro (rfl | h)
      · exact .inl (by simp)
      · exact .inr h
theorem nodupB_ok : ∀ {l : List Nat}, nodupB l = true → l.Nodup
  | [], _ => .nil
  | x :: r, h => by
    simp only [nodupB, Bool.and_eq_true, Bool.not_eq_true'] at h
    refine List.nodup_cons.2 ⟨fun hm => ?_, nodupB_ok h.2⟩
    rw [inN_iff.2 hm] at h
    cases h.1
def borns (es : List (SA × SA × Nat)) : List Nat := es.map fun p => p.2.2
def okKeys (ks : List Int) (es : List (SA × SA × Nat)) (clock : Nat) : Bool :=
  (nodupI ks && nodupB (borns es)) && ((ks.all fun c => !natLt c (-9223372036854775808) && !natLt 9223372036854775807 c) && ((borns es).all (fun b => Nat.blt b clock) && Nat.ble ks.length 1000))
def eSorted (g mt : Nat) (args : List SV) (h : Hp) (n : Nat) : Option (SV × Hp × Nat) := match args with
  | [.a (.s (.fn f [(bx, 0)]))] => match Nat.beq f g with
    | true => match h.get bx with
      | some (.cells c _ e) => match Nat.beq e mt with
        | true => match c.get 0 with
          | some (.map m) => match h.get m with
            | some (.map es clock) => match keysOf es with
              | some ks => match okKeys ks es clock && Nat.blt n lim with
                | true => match isort ks with
                  | [] => some (sc .snil, h, n)
                  | x :: r => some (sc (.sl n 0 (r.length + 1) (r.length + 1) 1 false), h.upd 24 n (some (mkCellsA ((x :: r).map fun k => .int .i64 0 k) 3)), n + 1)
                | false => none
              | none => none
            | _ => none
          | _ => none
        | false => none
      | _ => none
    | false => none
  | _ => none
theorem keysOf_ok {E : Env} {B : Be} {n : Nat} : ∀ {es : List (SA × SA × Nat)} {ks : List Int} {ms : List MapEntry}, keysOf es = some ks → LR (ER E B n) es ms → ms.map (·.key) = ks.map encZ ∧ ms.map (·.born) = borns es
  | [], ks, ms, h, hl => by
    simp only [keysOf, Option.some.injEq] at h; subst h
    rw [hl.nil]; exact ⟨rfl, rfl⟩
  | (k, v, b) :: es, ks, ms, h, hl => by
    obtain ⟨m, ms', rfl, hm, hr⟩ := hl.cons
    unfold keysOf at h
    split at h
    · rename_i hh; cases hh
    · rename_i c v' b' r hh
      simp only [List.cons.injEq, Prod.mk.injEq] at hh
      obtain ⟨⟨rfl, rfl, rfl⟩, rfl⟩ := hh
      split at h
      · rename_i l hl'
        simp only [Option.some.injEq] at h; subst h
        obtain ⟨e1, e2⟩ := keysOf_ok hl' hr
        obtain ⟨h1, _, h3⟩ := hm
        simp only [VA, VC, Env.val] at h1
        refine ⟨by simp [e1, h1, encZ], by simp [borns] at e2 ⊢; exact ⟨h3, e2⟩⟩
      · cases h
    · cases h
/-- a block that lies there anew -/
theorem HR.grab {E : Env} {B : Be} {X : Nat → Prop} {n : Nat} {h : Hp} {w : World} (H : HR E B X n h w) (hn : n < lim) {r c : Nat} (hX : ¬ X r) (hold : ∀ b o, h.get b = some o → B.β b ≠ r) {o : SO} {o' : Obj} (hw : w.heap[r]? = some o') (ho : HO E (B.add n r c) (n + 1) n o o') :
    HR E (B.add n r c) X (n + 1) (h.upd 24 n (some o)) w := by
  refine ⟨fun b x hx => ?_, fun b1 b2 x1 x2 h1 h2 hβ => ?_, hn, H.out, H.fix⟩
  · rw [Tr.get_upd hn] at hx
    split at hx
    · subst_vars
      simp only [Option.some.injEq] at hx
      subst hx
      exact ⟨by omega, by rw [(Be.add_new B _ _ _).1]; exact hX, o', by rw [(Be.add_new B _ _ _).1]; exact hw, ho⟩
    · obtain ⟨e1, e2, y, e3, e4⟩ := H.live b x hx
      have hβb := (Be.add_ext B n r c b e1).1
      exact ⟨by omega, by rw [hβb]; exact e2, y, by rw [hβb, e3], e4.ext (Be.add_ext B _ _ _) (by omega) e1⟩
  · rw [Tr.get_upd hn] at h1 h2
    split at h1 <;> split at h2
    · omega
    · subst_vars
      obtain ⟨e1, _⟩ := H.live b2 x2 h2
      rw [(Be.add_new B _ _ _).1, (Be.add_ext B _ _ _ b2 e1).1] at hβ
      exact absurd hβ.symm (hold _ _ h2)
    · subst_vars
      obtain ⟨e1, _⟩ := H.live b1 x1 h1
      rw [(Be.add_new B _ _ _).1, (Be.add_ext B _ _ _ b1 e1).1] at hβ
      exact absurd hβ (hold _ _ h1)
    · have e1 := (H.live b1 x1 h1).1
      have e2 := (H.live b2 x2 h2).1
      rw [(Be.add_ext B _ _ _ b1 e1).1, (Be.add_ext B _ _ _ b2 e2).1] at hβ
      exact H.inj _ _ _ _ h1 h2 hβ
end Go.Cx
