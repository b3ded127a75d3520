/- The contract of slices.Sorted at this program. -/
import Derived.Test.YtpaglaakleajmaaGreatDoorN1
set_option maxRecDepth 100000
set_option linter.unusedVariables false
set_option linter.unusedSimpArgs false
namespace Go.Cx
open Go.Proofs Go.RowKit Go.Maps Go.Sort Go.Shelf Go.MapKept Go.WideElems
theorem sortsA (m : Nat) : AnyZI.SortsIn Tryz.prog Tryz.sortedA_ren Fence.wide m :=
  ⟨fun blk off cap ss W hH hblk hsz => callsIn_wide.2 (AnyM.slices_Sort_int Tryz.sortA blk off cap ss W hH hblk hsz),
   fun p cap W => callsIn_wide.2 (AnyM.slices_Sort_int_none Tryz.sortA p cap W)⟩
theorem perm_insert {H : Type} : ∀ l : List (Lit × DataW H), (l.foldr DataW.insert []).Perm l
  | [] => .refl _
  | x :: r => by
    have h1 : ∀ (x : Lit × DataW H) (l : List (Lit × DataW H)), (DataW.insert x l).Perm (x :: l) := fun x l => by
      induction l with
      | nil => exact .refl _
      | cons y l ih =>
        simp only [DataW.insert]
        split
        · exact .refl _
        · exact (ih.cons y).trans (.swap x y l)
    exact (h1 x _).trans ((perm_insert r).cons x)
def R1 : Value → Option (DataW Unit × List MemPlace) := fun _ => some (.nil, [])
theorem sorted_calls (w : World) (bx m : Nat) (ms : Array MapEntry) (clock : Nat) (ks : List Int) (hbx : w.cell? ⟨bx, 0, none⟩ = some (.map (some m))) (hm : w.heap[m]? = some (.map ms clock)) (h1 : ms.toList.map (·.key) = ks.map encZ)
    (hst : Stamped ms clock) (hwf : ∀ c ∈ ks, -9223372036854775808 ≤ c ∧ c ≤ 9223372036854775807) (hlen : ks.length ≤ 1000) :
    Calls Tryz.prog 138 #[.func (.func 183) #[] #[.pointer (some ⟨bx, 0, none⟩)]] w fun e w' => ∃ (v : Value) (ss : List Int), e = .returned v ∧ ss.Perm ks ∧
      w'.ownsRow w.heap.size 3 1 v ss.length ((isort ks).map encZ) ∧ (v = .slice none 0 0 ↔ ss = []) ∧ Below w.heap.size w w' := by
  have hml : ms.size = ks.length := by
    have := congrArg List.length h1
    simpa using this
  have hkey : ∀ x ∈ ms.toList, ∃ c, c ∈ ks ∧ x.key = encZ c := fun x hx => by
    have : x.key ∈ ks.map encZ := by rw [← h1]; exact List.mem_map_of_mem hx
    obtain ⟨c, hc, e⟩ := List.mem_map.1 this
    exact ⟨c, hc, e.symm⟩
  have hrd : ∀ x ∈ ms.toList, ∃ c, c ∈ ks ∧ x.key = encZ c ∧ WideElems.rd Tryz.prog 3 R1 x = some (.int .i64 c, .nil) := fun x hx => by
    obtain ⟨c, hc, e⟩ := hkey x hx
    refine ⟨c, hc, e, ?_⟩
    have hw := hwf c hc
    have hk : keyOf Tryz.prog 3 x.key = some (.int .i64 c) := by
      rw [e]
      exact keyOf_int_mk Tryz.underlying3 (by simp [Lit.wf, IntKind.min, IntKind.max, IntKind.bits, IntKind.signed]; omega)
    exact WideElems.rd_mk (R := R1) (born := x.born) (val := x.val) hk rfl
  have hmax : (1000 : Nat) ≤ maxLen := by unfold maxLen; omega
  let D0 : DataW Unit := .map ((ms.toList.map (rg Tryz.prog 3 R1)).foldr DataW.insert [])
  have hown : w.ownsMap Tryz.prog 3 R1 m ms.size D0 := ⟨ms, clock, hm, ⟨by omega, hst, fun x hx => let ⟨c, _, _, h⟩ := hrd x hx; ⟨_, h⟩⟩, Nat.le_refl _, rfl⟩
  have hrgl : ∀ l : List MapEntry, (∀ x ∈ l, x ∈ ms.toList) → (l.map (rg Tryz.prog 3 R1)).map (fun p => encZ (intOf p.1)) = l.map (·.key) := fun l hl => by
    rw [List.map_map]
    refine List.map_congr_left fun x hx => ?_
    obtain ⟨c, _, e, h⟩ := hrd x (hl x hx)
    simp [rg_of h, intOf, e]
  have hperm : (intKeys D0).Perm ks := by
    have h2 : (intKeys D0).Perm ((ms.toList.map (rg Tryz.prog 3 R1)).map fun p => intOf p.1) := (perm_insert _).map _
    have h3 : ((ms.toList.map (rg Tryz.prog 3 R1)).map fun p => intOf p.1) = ks := by
      have := (hrgl ms.toList fun x hx => hx).trans h1
      have h4 : ((ms.toList.map (rg Tryz.prog 3 R1)).map fun p => intOf p.1).map encZ = ks.map encZ := by rw [← this]; simp
      exact (List.map_inj_right fun _ _ h => encZ_inj h).1 h4
    rw [h3] at h2; exact h2
  have hsize : Maps.size D0 = ks.length := by
    show ((ms.toList.map (rg Tryz.prog 3 R1)).foldr DataW.insert []).length = _
    rw [(perm_insert _).length_eq]; simp [hml]
  have hbl : bx < w.heap.size := by
    rcases Nat.lt_or_ge bx w.heap.size with h | h
    · exact h
    · simp [World.cell?, Array.getElem?_eq_none h] at hbx
  have hseq : SeqGives Fence.wide 2 Tryz.prog 183 #[.pointer (some ⟨bx, 0, none⟩)] encZ (fun ss => ss.Perm (intKeys D0)) (Maps.size D0) w :=
    AnyZI.keys_gives (ρ := Tryz.keysA_ren) { Tryz.keysA with } Fence.wide _ trivial rfl (by omega) bx m ms.size D0 w hbl hbx hown
  have cS := AnyZI.sorted_in Tryz.sortedA Fence.wide 5 trivial trivial trivial trivial rfl (by omega) (sortsA _) (enters_of Tryz.func182 (by kernel_rfl) rfl) 183 #[.pointer (some ⟨bx, 0, none⟩)] trivial (enters_of Tryz.func183 (by kernel_rfl) rfl) _ _ (by omega) (by omega) _ hseq
  change CallsIn _ _ Tryz.prog 138 _ _ _ at cS
  refine (callsIn_wide.1 cS).mono ?_
  rintro e w' ⟨v, ss, rfl, hS, hrow, hnil, hb⟩
  have hS' : ss.Perm ks := hS.trans hperm
  rw [isort_merge hS'] at hrow
  exact ⟨v, ss, rfl, hS', hrow, hnil, hb⟩
theorem sorted_ok (E : Env) : CallOk Tryz.prog E 138 (eSorted 183 66) := by
  intro args h n v h' n' hr B X w vs H hl
  refine ⟨run_callable (by decide +kernel) vs w, ?_⟩
  unfold eSorted at hr
  split at hr
  · rename_i f bx
    split at hr
    · rename_i hf
      have hf := Nat.eq_of_beq_eq_true hf
      subst hf
      split at hr
      · rename_i c m0 e hbx
        split at hr
        · rename_i he
          have he := Nat.eq_of_beq_eq_true he
          subst he
          split at hr
          · rename_i m hm0
            split at hr
            · rename_i es clock hm
              split at hr
              · rename_i ks hks
                split at hr
                · rename_i hok
                  simp only [Bool.and_eq_true, okKeys] at hok
                  obtain ⟨⟨⟨o1, o2⟩, o3, o4, o5⟩, o6⟩ := hok
                  have o1 := nodupI_ok o1
                  have o2 := nodupB_ok o2
                  have o5 := Nat.le_of_ble_eq_true o5
                  have hn : n < lim := by simpa using o6
                  obtain ⟨a, e1, ha⟩ := hl.one
                  obtain ⟨_, ha⟩ := ha
                  have hvs : vs = #[.func (.func 183) #[] #[.pointer (some ⟨B.β bx, 0, none⟩)]] := Array.ext' (by rw [e1, ha]; rfl)
                  subst hvs
                  obtain ⟨_, _, ob, hob, cs, fr, rfl, _, _, hcs⟩ := H.live bx _ hbx
                  obtain ⟨vm, hvm, hvm'⟩ := hcs 0 _ hm0
                  obtain ⟨_, rfl⟩ := hvm'
                  obtain ⟨_, _, om, hom, ms, rfl, hms⟩ := H.live m _ hm
                  obtain ⟨k1, k2⟩ := keysOf_ok hks hms
                  have hst : Stamped ms clock := by
                    refine ⟨fun x hx => ?_, by rw [k2]; exact o2, ?_⟩
                    · have : x.born ∈ borns es := by rw [← k2]; exact List.mem_map_of_mem hx
                      have := List.all_eq_true.1 o4 _ this
                      simpa using this
                    · rw [k1]
                      exact List.Pairwise.map encZ (fun a b hab he => hab (encZ_inj he)) o1
                  have hwf : ∀ c ∈ ks, -9223372036854775808 ≤ c ∧ c ≤ 9223372036854775807 := fun c hc => by
                    have := List.all_eq_true.1 o3 c hc
                    simp only [Bool.and_eq_true, Bool.not_eq_true'] at this
                    have a1 : ¬ c < -9223372036854775808 := fun k => by rw [natLt_iff.2 k] at this; cases this.1
                    have a2 : ¬ 9223372036854775807 < c := fun k => by rw [natLt_iff.2 k] at this; cases this.2
                    omega
                  refine Calls.mono (sorted_calls w (B.β bx) (B.β m) ms clock ks (by simp [World.cell?, hob, hvm]) hom k1 hst hwf o5) ?_
                  rintro e w' ⟨u, ss, rfl, hS, hrow, hnil, hb⟩
                  obtain ⟨H', F'⟩ := H.below hb
                  have hsl : ss.length = ks.length := hS.length_eq
                  have hil : (isort ks).length = ks.length := (isort_perm ks).length_eq
                  split at hr
                  · rename_i hi
                    simp only [Option.some.injEq, Prod.mk.injEq] at hr
                    obtain ⟨rfl, rfl, rfl⟩ := hr
                    rw [hi] at hil
                    have : ss = [] := List.eq_nil_of_length_eq_zero (by simp at hil; omega)
                    exact ⟨u, B, rfl, Ext.refl _ _, Nat.le_refl _, H', F', hnil.2 this⟩
                  · rename_i x r hi
                    simp only [Option.some.injEq, Prod.mk.injEq] at hr
                    obtain ⟨rfl, rfl, rfl⟩ := hr
                    have hlr : ss.length = r.length + 1 := by rw [hi] at hil; simp at hil; omega
                    rcases hrow.2 with ⟨_, h0⟩ | ⟨g, cap, cur, rfl, hg, hgb, q1, q2, q3, q4⟩
                    · omega
                    · have hfresh : ∀ b o, h.get b = some o → B.β b ≠ g := fun b o hb' e => by
                        have := H.lt_size hb'
                        omega
                      have hXg : ¬ X g := fun hx => by have := H.out _ hx; omega
                      refine ⟨_, B.add n g cur.size, rfl, Be.add_ext _ _ _ _, by omega, ?_, F', ?_⟩
                      · refine H'.grab hn hXg hfresh hgb ⟨cur, (0, 0), rfl, ⟨by rw [(Be.add_new B _ _ _).2], .inl rfl⟩, .inl rfl, fun i y hy => ?_⟩
                        have hy := so_get hy
                        rw [List.getElem?_map] at hy
                        obtain ⟨k, hk, rfl⟩ := Option.map_eq_some_iff.1 hy
                        have hc : (cur.toList.take (ss.length * 1))[i]? = some (encZ k) := by rw [q4, hi, List.getElem?_map, hk]; rfl
                        refine ⟨encZ k, ?_, by simp [VC, Env.val]⟩
                        rw [List.getElem?_take] at hc
                        split at hc
                        · simpa using hc
                        · cases hc
                      · refine ⟨by omega, cap, ?_, fun h => (by cases h), fun _ => ⟨by omega, ?_⟩⟩
                        · rw [(Be.add_new B _ _ _).1, hlr]
                        · rw [(Be.add_new B _ _ _).2]; omega
                · cases hr
              · cases hr
            · cases hr
          · cases hr
        · cases hr
      · cases hr
    · cases hr
  · cases hr
end Go.Cx
