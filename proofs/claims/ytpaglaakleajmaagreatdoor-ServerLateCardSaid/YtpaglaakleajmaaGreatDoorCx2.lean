/- The operations: append. -/
import Derived.Test.YtpaglaakleajmaaGreatDoorCx1
import Derived.Laws.StructEq
import Derived.Lib.UnsafeStr
import Derived.LoopN
import Derived.Laws.Sem
import Derived.Shelf.Strings.Builder1
import Derived.Shelf.Strings.Repeat
set_option maxRecDepth 100000
set_option linter.unusedVariables false
set_option linter.unusedSimpArgs false
namespace Go.Cx
variable {P : Program} {E : Env} {F : Fx}
variable {dst : Option Tmp} {ty : TypeId} {pos : String} {after : Array Edge} {guard : Option (Nat × Bool)}

/-- what append comes to where there is room -/
theorem append_room {ts : Array TypeId} {t u : TypeId} {e es : Nat} {d : TypeDesc} (ht : ts[0]? = some t) (hu : ts[1]? = some u) (hd : P.underlying u = some d) (hni : ∀ k, d ≠ .int k) (he : P.underlying t = some (.slice e)) (hes : size? P e = some es)
    {base : Option Addr} {len cap m : Nat} {v : Value} {vs : Array Value} {w w' : World} (hl : (Builtin.lenOf v).run P w = .ok m w) (hf : (Builtin.firstCells es m v).run P w = .ok vs w) (hroom : len + m ≤ cap)
    (hs : match base with | none => w' = w | some a => (storeCells (a.add (len * es)) vs.toList).run P w = .ok () w') :
    (Builtin.append_ ts ty #[.slice base len cap, v]).run P w = .ok (.slice base (len + m) cap) w' := by
  unfold Builtin.append_
  have hz : (match d with | .int _ => true | _ => false) = false := by cases d <;> first | rfl | exact absurd rfl (hni _)
  simp only [ht, hu, List.getElem?_toArray, List.getElem?_cons_zero, List.getElem?_cons_succ, Sem.run_bind, run_under he, run_under hd, Result.andThen_ok, run_size hes, Sem.run_pure]
  cases d <;> first | exact absurd rfl (hni _) | skip
  all_goals
    simp only [Bool.false_eq_true, if_false, Sem.run_bind, hl, Result.andThen_ok, if_pos hroom, Bool.not_false, if_true, hf]
    cases base with
    | none => subst hs; rfl
    | some a => simp only [Sem.run_bind] at hs ⊢; rw [hs]; rfl
theorem append_grow {ts : Array TypeId} {t u : TypeId} {e es : Nat} {d : TypeDesc} {inf : TypeInfo} {z : Value} (ht : ts[0]? = some t) (hu : ts[1]? = some u) (hd : P.underlying u = some d) (hni : ∀ k, d ≠ .int k) (he : P.underlying t = some (.slice e)) (hes : size? P e = some es)
    (hinf : P.info? e = some inf) (hz : ∀ w, (zeroValue e).run P w = .ok z w) {base : Option Addr} {len cap m : Nat} {v : Value} {old vs : Array Value} {w : World} (hl : (Builtin.lenOf v).run P w = .ok m w)
    (hf : (Builtin.firstCells es m v).run P w.drew = .ok vs w.drew) (ho : (Builtin.firstCells es len (.slice base len cap)).run P w.drew = .ok old w.drew) (hroom : ¬ len + m ≤ cap) (h0 : 0 < inf.bytes) (hb : (len + m) * inf.bytes < 1000000) :
    ∃ nc, len + m ≤ nc ∧ (Builtin.append_ ts ty #[.slice base len cap, v]).run P w = .ok (.slice (some ⟨w.heap.size, 0, none⟩) (len + m) nc) (w.drew.alloc (.cells (old ++ vs ++ Builtin.zeroCells z.cells (nc - (len + m))) e)) := by
  have hn : len + m ≤ (len + m) * inf.bytes := Nat.le_mul_of_pos_right _ h0
  have hi : ¬ (((len + m : Nat) : Int) > IntKind.i64.max ∧ ((false = true) ∨ inf.bytes = 0)) := by
    rintro ⟨_, h | h⟩
    · cases h
    · omega
  have hcap : Builtin.nextslicecap (len + m) cap * inf.bytes ≤ 2 * ((len + m) * inf.bytes) + 200 * inf.bytes := by
    have := Nat.mul_le_mul_right inf.bytes (nextcap_le (need := len + m) (cap := cap) (by omega))
    rw [Nat.add_mul, Nat.mul_assoc] at this
    exact this
  have hby : inf.bytes ≤ (len + m) * inf.bytes := Nat.le_mul_of_pos_left _ (by omega)
  refine ⟨(Question.appendCap (len + m) cap e).cut (w.tape w.drawn (.appendCap (len + m) cap e)), by simp only [Question.cut]; omega, ?_⟩
  unfold Builtin.append_
  simp only [ht, hu, List.getElem?_toArray, List.getElem?_cons_zero, List.getElem?_cons_succ, Sem.run_bind, run_under he, run_under hd, Result.andThen_ok, run_size hes, Sem.run_pure]
  cases d <;> first | exact absurd rfl (hni _) | skip
  all_goals
    simp only [Bool.false_eq_true, if_false, Sem.run_bind, hl, Result.andThen_ok, if_neg hroom, run_info hinf, Sem.run_pure]
    rw [if_neg (by
      rintro ⟨_, hh⟩
      simp only [false_or] at hh
      omega)]
    simp only [Sem.run_bind, run_info hinf, Result.andThen_ok]
    rw [if_neg (by omega)]
    simp only [Sem.run_bind, run_choose, Question.forced, Bool.false_eq_true, if_false, Result.andThen_ok, run_askRoom, Bool.not_false, if_true, hz, run_info hinf, newRow, run_newObj, Sem.run_pure]
    have ho' : (Builtin.firstCells es len (.slice base len cap)).run P { heap := w.heap, tape := w.tape, drawn := w.drawn + 1, os := w.os, output := w.output } = .ok old w.drew := ho
    have hf' : (Builtin.firstCells es m v).run P w.drew = .ok vs w.drew := hf
    rw [ho']
    simp only [Result.andThen_ok]
    rw [hf']
    rfl

theorem HR.drew {B : Be} {X : Nat → Prop} {n : Nat} {h : Hp} {w : World} (H : HR E B X n h w) : HR E B X n h w.drew := H.world rfl
theorem LR.zeros (z : List Value) (es : Nat) (hz : z.length = es) (k : Nat) : (repL z k).length = k * es := by rw [repL_length, hz]
/-- a new row: what was there, what comes, zeros -/
theorem grow_new {B : Be} {X : Nat → Prop} {n : Nat} {h : Hp} {w : World} (H : HR E B X n h w) (hn : n < lim) {e es k nc : Nat} {l : List SC} {vs : List Value} {z : Array Value} (hl : LR (VC E B n) l vs) (hk : vs.length = k * es) (hz : z.size = es) (h0 : 0 < es) (hc : k ≤ nc) :
    ∃ B', Ext B B' n ∧ HR E B' X (n + 1) (h.upd 24 n (some (mkCellsA l e))) (w.drew.alloc (.cells (vs.toArray ++ Builtin.zeroCells z (nc - k)) e)) ∧ FR X w (w.drew.alloc (.cells (vs.toArray ++ Builtin.zeroCells z (nc - k)) e)) ∧
      VC E B' (n + 1) (.sl n 0 k k es false) (.slice (some ⟨w.heap.size, 0, none⟩) k nc) := by
  have hzr : (Builtin.zeroCells z (nc - k)).toList = repL z.toList (nc - k) := zeroCells_rep z (by omega) _
  have hsz : (vs.toArray ++ Builtin.zeroCells z (nc - k)).size = nc * es := by
    rw [← Array.length_toList, Array.toList_append, hzr, List.length_append, repL_length]
    simp only [Array.length_toList, hz, hk]
    rw [← Nat.add_mul]; congr 1; omega
  refine ⟨B.add n w.heap.size (nc * es), Be.add_ext _ _ _ _, ?_, ?_, ?_⟩
  · refine HR.new (w := w) H hn (o' := .cells (vs.toArray ++ Builtin.zeroCells z (nc - k)) e) rfl ?_
    have := mkCellsA_HO (E := E) (B := B.add n w.heap.size (nc * es)) (n := n + 1) (e := e) (b := n) (c := 0) (rest := repL z.toList (nc - k)) (fr := (0, 0))
      (hl.mono fun _ _ => VC.ext (Be.add_ext B n w.heap.size (nc * es)) (Nat.le_succ n)) (by
        rw [(Be.add_new B _ _ _).2, ← hsz, ← Array.length_toList, Array.toList_append, hzr]) (.inl rfl) rfl
    rw [show vs.toArray ++ Builtin.zeroCells z (nc - k) = (vs ++ repL z.toList (nc - k)).toArray from Array.ext' (by rw [Array.toList_append, hzr])]
    exact this
  · exact FR.push (w := w) H rfl rfl rfl rfl
  · exact ⟨by omega, nc, by rw [(Be.add_new B _ _ _).1], fun h => (by cases h), fun _ => ⟨hc, by rw [(Be.add_new B _ _ _).2]; omega⟩⟩
set_option maxHeartbeats 1000000 in
theorem append_ok {ts : Array TypeId} {args : Array Operand} {y z : Operand} {k : OpK} (hargs : args.toList = [y, z]) (hk : appendK P ts y z = some k) : KOk P E k (Oper.mk dst (.call ⟨.builtin .append, args, ts⟩) ty pos after guard) := by
  unfold appendK at hk
  split at hk
  · rename_i t u htt htu
    split at hk
    · cases hk
    · rename_i e d hneg he hd
      have hni : ∀ k, d ≠ .int k := fun k hdk => hneg k hdk
      split at hk
      · rename_i es by_ hes hby
        split at hk
        · rename_i zc hzc
          split at hk
          · rename_i hc
            simp only [Bool.and_eq_true, Nat.blt_eq] at hc
            obtain ⟨⟨hc1, hc2⟩, hc3⟩ := hc
            have hc3 := Nat.eq_of_beq_eq_true hc3
            obtain ⟨zv, hzv, hzl⟩ := zero_run (E := E) hzc
            unfold bytes? at hby
            obtain ⟨inf, hinf, rfl⟩ := Option.map_eq_some_iff.1 hby
            simp only [Option.some.injEq] at hk; subst hk
            intro B X n T h a w x h' n' hx ht H next Q hq
            have hzs : zv.cells.size = es := by rw [← Array.length_toList, ← (hzl B n).length, hc3]
            obtain ⟨c, hcx⟩ := exec_builtin (dst := dst) (ty := ty) (pos := pos) (after := after) (guard := guard) a.eval .append args ts
            rw [args2 hargs] at hcx
            have hrun : ∀ {v : Value} {w' : World}, (Builtin.append_ ts ty #[a.eval y, a.eval z]).run P w = .ok v w' →
                (execOp a.eval (Oper.mk dst (.call ⟨.builtin .append, args, ts⟩) ty pos after guard)).run P w = .ok (.value v) w' := fun hr => by
              rw [hcx]; simp only [builtin, Sem.run_bind, hr, Result.andThen_ok, Sem.run_pure]
            unfold appendF at hx
            split at hx
            · rename_i s u' hs hu'
              split at hx
              · rename_i m l hsrc
                obtain ⟨i1, i2, i3⟩ := srcOf_ok (P := P) H hsrc (ht.evC hu')
                obtain ⟨vs, j1, j2⟩ := i3 m (Nat.le_refl _)
                rw [List.take_of_length_le (by omega)] at j2
                obtain ⟨_, _, k3⟩ := srcOf_ok (P := P) H.drew hsrc (ht.evC hu')
                obtain ⟨vsd, j1d, j2d⟩ := k3 m (Nat.le_refl _)
                rw [List.take_of_length_le (by omega)] at j2d
                split at hx
                · -- the slice is nil
                  have e1 := ht.evC hs
                  simp only [VC] at e1
                  cases m with
                  | zero =>
                    simp only [Option.some.injEq, Prod.mk.injEq] at hx
                    obtain ⟨rfl, rfl, rfl⟩ := hx
                    refine chg_value (v := .slice none 0 0) (x := sc .snil) (B' := B) (w' := w) (hrun ?_) (Ext.refl _ _) (Nat.le_refl _) H (FR.refl _ _) rfl hq
                    rw [e1]
                    exact append_room (P := P) (base := none) htt htu hd hni he hes i1 j1 (Nat.le_refl _) rfl
                  | succ m' =>
                    simp only [] at hx
                    split at hx
                    · rename_i hb
                      simp only [Bool.and_eq_true, Nat.blt_eq] at hb
                      simp only [Option.some.injEq, Prod.mk.injEq] at hx
                      obtain ⟨rfl, rfl, rfl⟩ := hx
                      obtain ⟨nc, hnc, r⟩ := append_grow (P := P) (ty := ty) (base := none) (len := 0) (cap := 0) (old := #[]) htt htu hd hni he hes hinf hzv i1 j1d (by simp [Builtin.firstCells]) (by omega) hc2 (by simpa using hb.1)
                      simp only [Nat.zero_add] at hnc r
                      obtain ⟨B', g1, g2, g3, g4⟩ := grow_new (w := w) H hb.2 (e := e) (k := m' + 1) (nc := nc) (vs := vsd.toList) (z := zv.cells) j2d (by rw [← j2d.length, i2]) hzs hc1 hnc
                      refine chg_value (v := _) (x := sc (.sl n 0 (m' + 1) (m' + 1) es false)) (B' := B') (hrun (by rw [e1]; exact r)) g1 (by omega) ?_ ?_ g4 hq
                      · simpa using g2
                      · simpa using g3
                    · cases hx
                · rename_i b o len cap es' ex
                  obtain ⟨e0, cap', e1, e2, e3⟩ := ht.evC hs
                  have hcap : cap ≤ cap' := by
                    cases ex with
                    | true => rw [e2 rfl]; exact Nat.le_refl _
                    | false => exact (e3 rfl).1
                  split at hx
                  · cases hx
                  · rename_i hee
                    have hee := Nat.eq_of_beq_eq_true hee
                    subst hee
                    split at hx
                    · -- room that is known
                      rename_i hroom
                      have hroom : len + m ≤ cap := by simpa [Nat.ble_eq] using hroom
                      split at hx
                      · rename_i h2 hst
                        simp only [Option.some.injEq, Prod.mk.injEq] at hx
                        obtain ⟨rfl, rfl, rfl⟩ := hx
                        obtain ⟨w', r, H', F', _⟩ := H.store (P := P) hst j2
                        refine chg_value (v := .slice (some ⟨B.β b, o, none⟩) (len + m) cap') (x := sc (.sl b o (len + m) cap es ex)) (B' := B) (w' := w') (hrun ?_) (Ext.refl _ _) (Nat.le_refl _) H' F' ⟨e0, cap', rfl, e2, e3⟩ hq
                        rw [e1]
                        exact append_room (P := P) htt htu hd hni he hes i1 j1 (by omega) (by simp only [add_at]; exact r)
                      · cases hx
                    · rename_i hroom
                      have hroom : ¬ len + m ≤ cap := fun hle => by
                        have : Nat.ble (len + m) cap = true := by simpa [Nat.ble_eq] using hle
                        rw [this] at hroom; cases hroom
                      split at hx
                      · rename_i c0 m0 e0' hb hblk
                        simp only [Bool.and_eq_true, Nat.blt_eq] at hb
                        cases ex with
                        | true =>
                          simp only [] at hx
                          have hcc := e2 rfl
                          subst hcc
                          split at hx
                          · rename_i old hold
                            simp only [Option.some.injEq, Prod.mk.injEq] at hx
                            obtain ⟨rfl, rfl, rfl⟩ := hx
                            obtain ⟨ov, o1, o2, o3⟩ := HR.loadN H.drew hblk (len * es) o old hold
                            obtain ⟨nc, hnc, r⟩ := append_grow (P := P) (ty := ty) (base := some ⟨B.β b, o, none⟩) (len := len) (cap := cap') (old := ov.toArray) htt htu hd hni he hes hinf hzv i1 j1d (by simp only [Builtin.firstCells]; exact run_cells _ _ _ o3 _ o1) hroom hc2 hb.1
                            obtain ⟨B', g1, g2, g3, g4⟩ := grow_new (w := w) H hb.2 (e := e) (k := len + m) (nc := nc) (vs := ov ++ vsd.toList) (z := zv.cells) (o2.append j2d) (by rw [List.length_append, o1, ← j2d.length, i2, Nat.add_mul]) hzs hc1 hnc
                            refine chg_value (v := _) (x := sc (.sl n 0 (len + m) (len + m) es false)) (B' := B') (hrun (by rw [e1]; exact r)) g1 (by omega) ?_ ?_ g4 hq
                            · rw [show (ov ++ vsd.toList).toArray = ov.toArray ++ vsd from Array.ext' (by simp)] at g2; exact g2
                            · rw [show (ov ++ vsd.toList).toArray = ov.toArray ++ vsd from Array.ext' (by simp)] at g3; exact g3
                          · cases hx
                        | false =>
                          simp only [] at hx
                          split at hx
                          · rename_i old hob hold
                            simp only [Bool.and_eq_true] at hob
                            obtain ⟨⟨ho0, hee0⟩, hnu⟩ := hob
                            have ho0 := Nat.eq_of_beq_eq_true ho0
                            have hee0 := Nat.eq_of_beq_eq_true hee0
                            subst ho0; subst hee0
                            simp only [Option.some.injEq, Prod.mk.injEq] at hx
                            obtain ⟨rfl, rfl, rfl⟩ := hx
                            obtain ⟨hcl, hcp⟩ := e3 rfl
                            obtain ⟨ovw, p1, p2, p3⟩ := HR.loadN H hblk (len * es) 0 old hold
                            by_cases hreal : len + m ≤ cap'
                            · -- there is room: the block is the same
                              obtain ⟨b1, b2, ob, b3, cs, fr, rfl, ⟨b4, _⟩, b5, b6⟩ := H.live b _ hblk
                              have hsz : len * es + vs.toList.length ≤ cs.size := by
                                rw [← j2.length, i2, b4, ← Nat.add_mul]
                                have := Nat.mul_le_mul_right es hreal
                                omega
                              obtain ⟨w', r, q1, q2, q3, q4, q5, q6⟩ := run_storeCells_real (P := P) vs.toList (B.β b) (len * es) 0 cs e fr w b3 (by simpa using hsz) b5 (LR.one_all hnu j2)
                              simp only [Nat.add_zero] at q1
                              have hk0 : len + m ≤ lim := by
                                have := Nat.le_mul_of_pos_right (len + m) hc2
                                unfold lim; omega
                              let B' := B.add n (B.β b) (B.cp b)
                              have hB' : Ext B B' n := Be.add_ext _ _ _ _
                              have hkill := H.kill b
                              have hHR : HR E B' X (n + 1) ((h.upd 24 b none).upd 24 n (some (mkCellsA (old ++ l) e))) w' := by
                                have hbl : b < lim := Nat.lt_of_lt_of_le b1 H.top
                                have hgetb : ∀ {b' : Nat} {o : SO}, (h.upd 24 b none).get b' = some o → h.get b' = some o ∧ b' ≠ b := by
                                  intro b' o hg
                                  rw [Tr.get_upd hbl] at hg
                                  split at hg
                                  · cases hg
                                  · exact ⟨hg, fun e => ‹¬ b = b'› e.symm⟩
                                refine ⟨fun b' x' hx' => ?_, fun c1 c2 x1 x2 h1 h2 hβ => ?_, hb.2, fun r' hr' => by rw [q3]; exact H.out r' hr', fun r' q' hq' => ⟨(H.fix r' q' hq').1, by rw [q2 _ (fun e => b2 (e ▸ (H.fix r' q' hq').1))]; exact (H.fix r' q' hq').2⟩⟩
                                · rw [Tr.get_upd hb.2] at hx'
                                  split at hx'
                                  · rename_i hnb; subst hnb
                                    simp only [Option.some.injEq] at hx'
                                    subst hx'
                                    refine ⟨by omega, by rw [(Be.add_new B _ _ _).1]; exact b2, _, by rw [(Be.add_new B _ _ _).1]; exact q1, _, fr, rfl, ?_, ?_, ?_⟩
                                    · rw [(Be.add_new B _ _ _).2, ← b4]; simp [splice_length]
                                    · simpa [splice_length] using b5
                                    · intro i x1 hx1
                                      rcases Tr.get_ofL _ _ _ _ _ hx1 with ⟨_, g2⟩ | g2
                                      · rw [Nat.sub_zero] at g2
                                        rcases Nat.lt_or_ge i (len * es) with hi | hi
                                        · have hol : old.length = len * es := by rw [p2.length, p1]
                                          rw [List.getElem?_append_left (by omega)] at g2
                                          obtain ⟨v1, hv1, hV1⟩ := p2.get g2
                                          have hcell := p3 i v1 hv1
                                          simp only [World.cell?, b3, Nat.zero_add] at hcell
                                          refine ⟨v1, ?_, hV1.ext hB' (Nat.le_succ n)⟩
                                          have hcell : cs[i]? = some v1 := by simpa using hcell
                                          have := splice_get_lt cs.toList (len * es) vs.toList i hi
                                          simpa [hcell] using this
                                        · have hol : old.length = len * es := by rw [p2.length, p1]
                                          rw [List.getElem?_append_right (by omega), hol] at g2
                                          obtain ⟨v1, hv1, hV1⟩ := j2.get g2
                                          refine ⟨v1, ?_, hV1.ext hB' (Nat.le_succ n)⟩
                                          have hlt : i - len * es < vs.toList.length := by
                                            rcases Nat.lt_or_ge (i - len * es) vs.toList.length with q | q
                                            · exact q
                                            · rw [List.getElem?_eq_none q] at hv1; cases hv1
                                          have := splice_get_in cs.toList (len * es) vs.toList (i - len * es) hlt (by simpa using hsz)
                                          rw [show len * es + (i - len * es) = i by omega, hv1] at this
                                          simpa using this
                                      · cases g2
                                  · obtain ⟨g1, g2⟩ := hgetb hx'
                                    obtain ⟨f1, f2, f3, f4, f5⟩ := H.live b' x' g1
                                    have hβ' := (hB' b' f1).1
                                    refine ⟨by omega, by rw [hβ']; exact f2, f3, ?_, f5.ext hB' (Nat.le_succ n) f1⟩
                                    rw [hβ', q2 _ (fun e => g2 (H.inj _ _ _ _ g1 hblk e)), f4]
                                · rw [Tr.get_upd hb.2] at h1 h2
                                  split at h1 <;> split at h2
                                  · omega
                                  · rename_i hnb _; subst hnb
                                    obtain ⟨g1, g2⟩ := hgetb h2
                                    have f1 := (H.live c2 x2 g1).1
                                    rw [(Be.add_new B _ _ _).1, (hB' c2 f1).1] at hβ
                                    exact absurd (H.inj _ _ _ _ g1 hblk hβ.symm) g2
                                  · rename_i hnb; subst hnb
                                    obtain ⟨g1, g2⟩ := hgetb h1
                                    have f1 := (H.live c1 x1 g1).1
                                    rw [(Be.add_new B _ _ _).1, (hB' c1 f1).1] at hβ
                                    exact absurd (H.inj _ _ _ _ g1 hblk hβ) g2
                                  · obtain ⟨g1, _⟩ := hgetb h1
                                    obtain ⟨g2, _⟩ := hgetb h2
                                    rw [(hB' c1 (H.live _ _ g1).1).1, (hB' c2 (H.live _ _ g2).1).1] at hβ
                                    exact H.inj _ _ _ _ g1 g2 hβ
                              refine chg_value (v := .slice (some ⟨B.β b, 0, none⟩) (len + m) cap') (x := sc (.sl n 0 (len + m) (len + m) es false)) (B' := B') (w' := w') (hrun ?_) hB' (by omega) hHR (FR.put H hblk q3 q2 q4 q5 q6) ?_ hq
                              · rw [e1]
                                exact append_room (P := P) htt htu hd hni he hes i1 j1 hreal (by simp only [add_at, Nat.zero_add]; exact r)
                              · exact ⟨by omega, cap', by rw [(Be.add_new B _ _ _).1], fun h => (by cases h), fun _ => ⟨hreal, by rw [(Be.add_new B _ _ _).2]; exact hcp⟩⟩
                            · -- a new block
                              obtain ⟨ov, o1, o2, o3⟩ := HR.loadN H.drew hblk (len * es) 0 old hold
                              obtain ⟨nc, hnc, r⟩ := append_grow (P := P) (ty := ty) (base := some ⟨B.β b, 0, none⟩) (len := len) (cap := cap') (old := ov.toArray) htt htu hd hni he hes hinf hzv i1 j1d (by simp only [Builtin.firstCells]; exact run_cells _ _ _ o3 _ o1) hreal hc2 hb.1
                              obtain ⟨B', g1, g2, g3, g4⟩ := grow_new (w := w) (H.kill b) hb.2 (e := e) (k := len + m) (nc := nc) (vs := ov ++ vsd.toList) (z := zv.cells) (o2.append j2d) (by rw [List.length_append, o1, ← j2d.length, i2, Nat.add_mul]) hzs hc1 hnc
                              refine chg_value (v := _) (x := sc (.sl n 0 (len + m) (len + m) es false)) (B' := B') (hrun (by rw [e1]; exact r)) g1 (by omega) ?_ ?_ g4 hq
                              · rw [show (ov ++ vsd.toList).toArray = ov.toArray ++ vsd from Array.ext' (by simp)] at g2; exact g2
                              · rw [show (ov ++ vsd.toList).toArray = ov.toArray ++ vsd from Array.ext' (by simp)] at g3; exact g3
                          · cases hx
                      · cases hx
                · cases hx
              · cases hx
            · cases hx
          · cases hk
        · cases hk
      · cases hk
    · cases hk
  · cases hk
end Go.Cx
/- The operations: maps. -/
namespace Go.Cx
variable {P : Program} {E : Env} {F : Fx}
variable {dst : Option Tmp} {ty : TypeId} {pos : String} {after : Array Edge} {guard : Option (Nat × Bool)}

/-! ### keys: the model's own equality -/
/-- integers of these kinds -/
def IsI : List IntKind → List Value → Prop
  | [], [] => True
  | k :: ks, .int k' _ :: xs => k = k' ∧ IsI ks xs
  | _, _ => False
def eqVs : List Value → List Value → Bool
  | .int _ a :: xs, .int _ b :: ys => (a == b) && eqVs xs ys
  | _, _ => true
theorem IsI.cons {k : IntKind} {ks : List IntKind} : ∀ {xs : List Value}, IsI (k :: ks) xs → ∃ a r, xs = .int k a :: r ∧ IsI ks r
  | .int k' a :: r, h => ⟨a, r, by rw [h.1], h.2⟩
theorem IsI.nil : ∀ {xs : List Value}, IsI [] xs → xs = []
  | [], _ => rfl
theorem IsI.length : ∀ {ks : List IntKind} {xs : List Value}, IsI ks xs → xs.length = ks.length
  | [], xs, h => by rw [h.nil]; rfl
  | k :: ks, xs, h => by obtain ⟨a, r, rfl, h'⟩ := h.cons; simp [h'.length]
theorem IsI.split : ∀ {ks qs : List IntKind} {xs : List Value}, IsI (ks ++ qs) xs → IsI ks (xs.take ks.length) ∧ IsI qs (xs.drop ks.length)
  | [], qs, xs, h => ⟨by simp [IsI], h⟩
  | k :: ks, qs, xs, h => by
    obtain ⟨a, r, rfl, h'⟩ := h.cons
    obtain ⟨h1, h2⟩ := h'.split
    exact ⟨⟨rfl, h1⟩, h2⟩
theorem eqVs_split : ∀ {ks qs : List IntKind} {xs ys : List Value}, IsI (ks ++ qs) xs → IsI (ks ++ qs) ys → eqVs xs ys = (eqVs (xs.take ks.length) (ys.take ks.length) && eqVs (xs.drop ks.length) (ys.drop ks.length))
  | [], qs, xs, ys, h, h' => by simp [eqVs]
  | k :: ks, qs, xs, ys, h, h' => by
    obtain ⟨a, r, rfl, h1⟩ := h.cons
    obtain ⟨b, s, rfl, h2⟩ := h'.cons
    simp only [List.length_cons, List.take_succ_cons, List.drop_succ_cons, eqVs]
    rw [eqVs_split h1 h2, Bool.and_assoc]
theorem eqVs_bits : ∀ {ks : List IntKind} {xs ys : List Value} (d : Nat), IsI ks xs → IsI ks ys → eqVs xs ys = true → ((xs.zip ys).all fun p => Instr.sameBits d p.1 p.2) = true
  | [], xs, ys, _, h, h', _ => by rw [h.nil]; rfl
  | k :: ks, xs, ys, d, h, h', he => by
    obtain ⟨a, r, rfl, h1⟩ := h.cons
    obtain ⟨b, s, rfl, h2⟩ := h'.cons
    simp only [eqVs, Bool.and_eq_true] at he
    simp only [List.zip_cons_cons, List.all_cons, Bool.and_eq_true]
    refine ⟨?_, eqVs_bits d h1 h2 he.2⟩
    cases d <;> simp [Instr.sameBits] <;> simpa using he.1
theorem kindsOk_IsI {B : Be} {n : Nat} : ∀ {ks : List IntKind} {l : List SC} {xs : List Value}, kindsOk ks l = true → LR (VC E B n) l xs → IsI ks xs
  | [], [], xs, _, hx => by rw [hx.nil]; trivial
  | [], _ :: _, _, h, _ => by simp [kindsOk] at h
  | k :: ks, [], _, h, _ => by simp [kindsOk] at h
  | k :: ks, x :: l, xs, h, hx => by
    obtain ⟨v, xs', rfl, hv, hx'⟩ := hx.cons
    cases x <;> try (simp [kindsOk] at h; done)
    simp only [kindsOk] at h
    split at h
    · rename_i hk
      have hk := of_decide_eq_true hk
      simp only [VC] at hv
      subst hv
      exact ⟨hk, kindsOk_IsI h hx'⟩
    · cases h
theorem eqL_ok (hF : FxOk F E) {B : Be} {n : Nat} : ∀ {ks : List IntKind} {l m : List SC} {xs ys : List Value} {b : Bool}, eqL F l m = some b → kindsOk ks l = true → kindsOk ks m = true → LR (VC E B n) l xs → LR (VC E B n) m ys → b = eqVs xs ys
  | [], [], [], xs, ys, b, h, _, _, hx, hy => by
    rw [hx.nil, hy.nil]
    simp only [eqL, Option.some.injEq] at h
    rw [← h]; rfl
  | [], _ :: _, _, _, _, _, _, h, _, _, _ => by simp [kindsOk] at h
  | [], [], _ :: _, _, _, _, _, _, h, _, _ => by simp [kindsOk] at h
  | _ :: _, [], _, _, _, _, _, h, _, _, _ => by simp [kindsOk] at h
  | _ :: _, _ :: _, [], _, _, _, _, _, h, _, _ => by simp [kindsOk] at h
  | k :: ks, x :: l, y :: m, xs, ys, b, h, hi, hj, hx, hy => by
    obtain ⟨v, xs', rfl, hv, hx'⟩ := hx.cons
    obtain ⟨u, ys', rfl, hu, hy'⟩ := hy.cons
    cases x <;> try (simp [kindsOk] at hi; done)
    cases y <;> try (simp [kindsOk] at hj; done)
    simp only [VC] at hv hu
    subst hv; subst hu
    simp only [kindsOk] at hi hj
    split at hi
    · split at hj
      · simp only [eqL, eqC] at h
        split at h
        · rename_i hc
          simp only [Option.some.injEq] at h; subst h
          split at hc
          · have := of_decide_eq_false (eqI_ok hF hc).symm
            simp [eqVs, this]
          · cases hc
        · rename_i hc
          split at hc
          · have he := of_decide_eq_true (eqI_ok hF hc).symm
            rw [eqL_ok hF h hi hj hx' hy']
            simp [eqVs, he]
          · cases hc
        · cases h
      · cases hj
    · cases hi
def wrapT (g : Bool) (xs : List Value) : Value := match g with
  | true => .agg xs.toArray
  | false => xs.headD undef
theorem part_flat {t : TypeId} {g : Bool} {m : Nat} (hg : isAgg? P t = some g) (hm : size? P t = some m) (hgm : (g || Nat.beq m 1) = true) {cs : Array Value} {o : Nat} (hb : o + m ≤ cs.size) (w : World) :
    (part t cs o).run P w = .ok (wrapT g ((cs.toList.drop o).take m)) w := by
  cases g with
  | true =>
    have : cs.extract o (o + m) = ((cs.toList.drop o).take m).toArray := by
      apply Array.ext'
      rw [Array.toList_extract, List.extract_eq_take_drop]
      simp
    simp [part, run_agg hg, run_size hm, wrapT, this]
  | false =>
    have hm1 : m = 1 := by simpa using hgm
    subst hm1
    have hlt : o < cs.size := by omega
    have : ((cs.toList.drop o).take 1).headD undef = cs[o] := by
      rw [List.drop_eq_getElem_cons (by simpa using hlt)]
      simp
    simp only [part, Sem.run_bind, run_agg hg, Result.andThen_ok, Bool.false_eq_true, if_false, wrapT, this]
    simp [hlt]
theorem flat_eqIn : ∀ (d : Nat) (t : TypeId) (ks : List IntKind) (g : Bool), flat P d t = some ks → isAgg? P t = some g → ∀ D, d ≤ D → ∀ xs ys, IsI ks xs → IsI ks ys → ∀ w, (Op.equalIn D t (wrapT g xs) (wrapT g ys)).run P w = .ok (eqVs xs ys) w
  | 0, t, ks, g, h, _, _, _, _, _, _, _, _ => by simp [flat] at h
  | d + 1, t, ks, g, h, hg, D, hD, xs, ys, hx, hy, w => by
    obtain ⟨D, rfl⟩ : ∃ D', D = D' + 1 := ⟨D - 1, by omega⟩
    simp only [flat] at h
    split at h
    · rename_i k hu
      simp only [Option.some.injEq] at h; subst h
      have hg' : g = false := by simp [isAgg?, hu] at hg; exact hg
      subst hg'
      obtain ⟨a, r, rfl, h1⟩ := hx.cons
      obtain ⟨b, s, rfl, h2⟩ := hy.cons
      rw [h1.nil, h2.nil]
      simp [Op.equalIn, run_under hu, wrapT, eqVs]
    · rename_i fs hu
      have hg' : g = true := by simp [isAgg?, hu] at hg; exact hg
      subst hg'
      split at h
      · cases h
      · rename_i hst
        have loop : ∀ (l : List Field) (o : Nat) (qs : List IntKind), flat.flatFs (flat P d) (isAgg? P) (size? P) l o = some qs → IsI qs (xs.drop o) → IsI qs (ys.drop o) →
            (forIn l ((none, ()) : Option Bool × Unit) fun f __s =>
              (if f.name ≠ "_" then do
                let __do_lift ← part f.type xs.toArray f.offset
                let __do_lift_1 ← part f.type ys.toArray f.offset
                let __do_lift ← Op.equalIn D f.type __do_lift __do_lift_1
                if (!__do_lift) = true then pure (ForInStep.done (some false, ()))
                  else pure (ForInStep.yield (none, ()))
              else pure (ForInStep.yield (none, ())) : Sem (ForInStep (Option Bool × Unit)))).run P w = .ok (if eqVs (xs.drop o) (ys.drop o) then (none, ()) else (some false, ())) w := by
          intro l
          induction l with
          | nil =>
            intro o qs hq h1 h2
            simp only [flat.flatFs, Option.some.injEq] at hq; subst hq
            rw [h1.nil]
            simp [eqVs]
          | cons f l ih =>
            intro o qs hq h1 h2
            simp only [flat.flatFs] at hq
            split at hq
            · rename_i kf gf m hc hkf hgf hm
              split at hq
              · rename_i q hc2 hq2
                simp only [Option.some.injEq] at hq; subst hq
                simp only [Bool.and_eq_true, decide_eq_true_eq] at hc hc2
                have ho := Nat.eq_of_beq_eq_true hc.1
                have hkm := Nat.eq_of_beq_eq_true hc2.1
                subst ho
                obtain ⟨a1, a2⟩ := h1.split
                obtain ⟨b1, b2⟩ := h2.split
                have l1 := h1.length
                have l2 := h2.length
                simp only [List.length_append, List.length_drop] at l1 l2
                have hdrop : ∀ (zs : List Value), (zs.drop f.offset).drop kf.length = zs.drop (f.offset + m) := fun zs => by rw [List.drop_drop, hkm]
                rw [hdrop] at a2 b2
                have hih := ih (f.offset + m) q hq2 a2 b2
                have pz : ∀ (zs : List Value), kf.length + q.length = zs.length - f.offset → 0 < kf.length → (part f.type zs.toArray f.offset).run P w = .ok (wrapT gf ((zs.drop f.offset).take kf.length)) w := fun zs hz h0 => by
                  have := part_flat (P := P) hgf hm hc2.2 (cs := zs.toArray) (o := f.offset) (by simp; omega) w
                  rw [hkm]; simpa using this
                by_cases h0 : kf.length = 0
                · -- a field of no cells
                  have hkn : kf = [] := List.eq_nil_of_length_eq_zero h0
                  have hm0 : m = 0 := by omega
                  have hgt : gf = true := by
                    have := hc2.2
                    rw [hm0] at this
                    simpa using this
                  have pz0 : ∀ (zs : List Value), (part f.type zs.toArray f.offset).run P w = .ok (wrapT gf []) w := fun zs => by
                    subst hgt
                    simp [part, run_agg hgf, run_size hm, hm0, wrapT]
                  have he := flat_eqIn d f.type kf gf hkf hgf D (by omega) [] [] (by rw [hkn]; trivial) (by rw [hkn]; trivial) w
                  rw [List.forIn_cons]
                  simp only [hc.2, ne_eq, not_false_eq_true, if_true, Sem.run_bind, pz0, Result.andThen_ok, he, eqVs, Bool.not_true, Bool.false_eq_true, if_false, Sem.run_pure]
                  rw [hih, hm0]
                  rfl
                · have he := flat_eqIn d f.type kf gf hkf hgf D (by omega) _ _ a1 b1 w
                  rw [List.forIn_cons]
                  simp only [hc.2, ne_eq, not_false_eq_true, if_true, Sem.run_bind, pz xs (by omega) (by omega), pz ys (by omega) (by omega), Result.andThen_ok, he]
                  rw [eqVs_split h1 h2, hdrop, hdrop]
                  cases hev : eqVs (List.take kf.length (List.drop f.offset xs)) (List.take kf.length (List.drop f.offset ys)) with
                  | true =>
                    simp only [Bool.not_true, Bool.false_eq_true, if_false, Sem.run_pure, Result.andThen_ok, Bool.true_and]
                    exact hih
                  | false => simp
              · cases hq
            · cases hq
        have hl := loop fs.toList 0 ks h (by simpa using hx) (by simpa using hy)
        simp only [List.drop_zero] at hl
        simp only [wrapT, Op.equalIn, Sem.run_bind, run_under hu, Result.andThen_ok, run_program, hst, Bool.false_eq_true, if_false]
        rw [← Array.forIn_toList]
        rw [hl]
        cases eqVs xs ys <;> simp
    · cases h
theorem flat_check : ∀ (d : Nat) (t : TypeId) (ks : List IntKind) (g : Bool), flat P d t = some ks → isAgg? P t = some g → ∀ (em : Bool) D, d ≤ D → ∀ xs, IsI ks xs → ∀ w, (Instr.checkKey em D t (wrapT g xs)).run P w = .ok () w
  | 0, t, ks, g, h, _, _, _, _, _, _, _ => by simp [flat] at h
  | d + 1, t, ks, g, h, hg, em, D, hD, xs, hx, w => by
    obtain ⟨D, rfl⟩ : ∃ D', D = D' + 1 := ⟨D - 1, by omega⟩
    simp only [flat] at h
    split at h
    · rename_i k hu
      simp [Instr.checkKey, run_under hu]
    · rename_i fs hu
      have hg' : g = true := by simp [isAgg?, hu] at hg; exact hg
      subst hg'
      split at h
      · cases h
      · rename_i hst
        have loop : ∀ (l : List Field) (o : Nat) (qs : List IntKind), flat.flatFs (flat P d) (isAgg? P) (size? P) l o = some qs → IsI qs (xs.drop o) →
            (forIn l PUnit.unit fun f (__s : PUnit.{1}) =>
              (if f.name ≠ "_" then do
                let __do_lift ← part f.type xs.toArray f.offset
                Instr.checkKey em D f.type __do_lift
                pure (ForInStep.yield PUnit.unit)
              else pure (ForInStep.yield PUnit.unit) : Sem (ForInStep PUnit))).run P w = .ok PUnit.unit w := by
          intro l
          induction l with
          | nil => intro o qs hq h1; simp
          | cons f l ih =>
            intro o qs hq h1
            simp only [flat.flatFs] at hq
            split at hq
            · rename_i kf gf m hc hkf hgf hm
              split at hq
              · rename_i q hc2 hq2
                simp only [Option.some.injEq] at hq; subst hq
                simp only [Bool.and_eq_true, decide_eq_true_eq] at hc hc2
                have ho := Nat.eq_of_beq_eq_true hc.1
                have hkm := Nat.eq_of_beq_eq_true hc2.1
                subst ho
                obtain ⟨a1, a2⟩ := h1.split
                have l1 := h1.length
                simp only [List.length_append, List.length_drop] at l1
                have hdrop : ∀ (zs : List Value), (zs.drop f.offset).drop kf.length = zs.drop (f.offset + m) := fun zs => by rw [List.drop_drop, hkm]
                rw [hdrop] at a2
                have hih := ih (f.offset + m) q hq2 a2
                have pz : (part f.type xs.toArray f.offset).run P w = .ok (wrapT gf ((xs.drop f.offset).take kf.length)) w := by
                  by_cases h0 : kf.length = 0
                  · have hm0 : m = 0 := by omega
                    have hgt : gf = true := by
                      have := hc2.2
                      rw [hm0] at this
                      simpa using this
                    subst hgt
                    simp [part, run_agg hgf, run_size hm, hm0, wrapT, h0]
                  · have := part_flat (P := P) hgf hm hc2.2 (cs := xs.toArray) (o := f.offset) (by simp; omega) w
                    rw [hkm]; simpa using this
                have he := flat_check d f.type kf gf hkf hgf em D (by omega) _ a1 w
                rw [List.forIn_cons]
                simp only [hc.2, ne_eq, not_false_eq_true, if_true, Sem.run_bind, pz, Result.andThen_ok, he, Sem.run_pure]
                exact hih
              · cases hq
            · cases hq
        have hl := loop fs.toList 0 ks h (by simpa using hx)
        simp only [wrapT, Instr.checkKey, Sem.run_bind, run_under hu, Result.andThen_ok]
        rw [← Array.forIn_toList]
        rw [hl]
        rfl
    · cases h
end Go.Cx
/- The operations: looking into maps, putting, deleting. -/
namespace Go.Cx
variable {P : Program} {E : Env} {F : Fx}
variable {dst : Option Tmp} {ty : TypeId} {pos : String} {after : Array Edge} {guard : Option (Nat × Bool)}

/-- what is found -/
def RF (E : Env) (B : Be) (n : Nat) (i : Nat) (v : Value) (ms : List MapEntry) : Option (Nat × SA) → Option (Nat × Value) → Prop
  | none, none => True
  | some (j, x), some (j', u) => j = j' ∧ i ≤ j ∧ VA E B n x u ∧ ∃ m, ms[j - i]? = some m ∧ Instr.sameBits 10000 m.key v = true
  | _, _ => False
theorem RF.cons {B : Be} {n i : Nat} {v : Value} {m : MapEntry} {ms : List MapEntry} : ∀ {r : Option (Nat × SA)} {r' : Option (Nat × Value)}, RF E B n (i + 1) v ms r r' → RF E B n i v (m :: ms) r r'
  | none, none, _ => trivial
  | some (j, x), some (j', u), ⟨h1, h2, h3, m', h4, h5⟩ => ⟨h1, by omega, h3, m', by rw [show j - i = (j - (i + 1)) + 1 by omega]; simpa using h4, h5⟩
theorem findNow_ints (hF : FxOk F E) {B : Be} {n : Nat} {kd kk : IntKind} {x : Nat} {c : Int} : ∀ {es : List (SA × SA × Nat)} {ms : List MapEntry} {i : Nat} {r : Option (Nat × SA)}, findE F .ints [.int kk x c] es i = some r → LR (ER E B n) es ms →
    ∃ r', Instr.findNow (.int kd) (.int kk (E.val x + c)) ms i = some r' ∧ RF E B n i (.int kk (E.val x + c)) ms r r'
  | [], ms, i, r, h, hl => by
    simp only [findE, Option.some.injEq] at h; subst h
    rw [hl.nil]
    exact ⟨none, rfl, trivial⟩
  | (k', v', b') :: es, ms, i, r, h, hl => by
    obtain ⟨m, ms', rfl, ⟨h1, h2, h3⟩, hl'⟩ := hl.cons
    simp only [findE] at h
    split at h
    · rename_i l hk
      cases k' with
      | g q => simp [keyOk] at hk
      | s y =>
        cases y <;> try (simp [keyOk] at hk; done)
        rename_i k2 x2 c2
        simp only [keyOk, Option.some.injEq] at hk; subst hk
        simp only [VA, VC] at h1
        split at h
        · rename_i he
          simp only [Option.some.injEq] at h; subst h
          simp only [eqL, eqC] at he
          split at he
          · cases he
          · rename_i hc
            split at hc
            · rename_i hkk
              have hkk := of_decide_eq_true hkk
              have heq := of_decide_eq_true (eqI_ok hF hc).symm
              subst hkk
              refine ⟨some (i, m.val), ?_, rfl, Nat.le_refl _, h2, m, by simp, ?_⟩
              · simp only [Instr.findNow, h1, Instr.sameNow, if_true, heq, beq_self_eq_true]
              · rw [h1, heq]; simp [Instr.sameBits]
            · cases hc
          · cases he
        · rename_i he
          simp only [eqL, eqC] at he
          split at he
          · rename_i hc
            split at hc
            · rename_i hkk
              have hkk := of_decide_eq_true hkk
              have heq := of_decide_eq_false (eqI_ok hF hc).symm
              subst hkk
              obtain ⟨r', e1, e2⟩ := findNow_ints hF h hl'
              refine ⟨r', ?_, e2.cons⟩
              have : (E.val x + c == E.val x2 + c2) = false := by simpa using heq
              simp only [Instr.findNow, h1, Instr.sameNow, if_true, this]
              exact e1
            · cases hc
          · cases he
          · cases he
        · cases h
    · cases h
theorem bs_beq {a b : List Nat} (ha : ∀ x ∈ a, x < 256) (hb : ∀ x ∈ b, x < 256) : (bs a == bs b) = decide (a = b) := by
  rw [beq_toListBytes, Bool.eq_iff_iff]
  simp only [beq_iff_eq, decide_eq_true_eq]
  exact bs_inj ha hb
theorem findNow_strs {B : Be} {n : Nat} {q : List Nat} (hq : ∀ y ∈ q, y < 256) : ∀ {es : List (SA × SA × Nat)} {ms : List MapEntry} {i : Nat} {r : Option (Nat × SA)}, findE F .strs [.str q] es i = some r → LR (ER E B n) es ms →
    ∃ r', Instr.findNow .string (.string (bs q)) ms i = some r' ∧ RF E B n i (.string (bs q)) ms r r'
  | [], ms, i, r, h, hl => by
    simp only [findE, Option.some.injEq] at h; subst h
    rw [hl.nil]
    exact ⟨none, rfl, trivial⟩
  | (k', v', b') :: es, ms, i, r, h, hl => by
    obtain ⟨m, ms', rfl, ⟨h1, h2, h3⟩, hl'⟩ := hl.cons
    simp only [findE] at h
    split at h
    · rename_i l hk
      cases k' with
      | g q => simp [keyOk] at hk
      | s y =>
        cases y <;> try (simp [keyOk] at hk; done)
        rename_i q2
        simp only [keyOk, Option.some.injEq] at hk; subst hk
        simp only [VA, VC] at h1
        obtain ⟨h1, h1'⟩ := h1
        have hbq := bs_beq hq h1'
        simp only [eqL, eqC, lEq_ok] at h
        by_cases hqq : q = q2
        · subst hqq
          simp at h
          subst h
          refine ⟨some (i, m.val), ?_, rfl, Nat.le_refl _, h2, m, by simp, ?_⟩
          · have hself : (bs q == bs q) = true := by rw [bs_beq hq hq]; simp
            simp only [Instr.findNow, h1, Instr.sameNow, hself]
          · have hself : (bs q == bs q) = true := by rw [bs_beq hq hq]; simp
            rw [h1]; simp [Instr.sameBits, hself]
        · simp [hqq] at h
          obtain ⟨r', e1, e2⟩ := findNow_strs hq h hl'
          refine ⟨r', ?_, e2.cons⟩
          have : (bs q == bs q2) = false := by rw [hbq]; simpa using hqq
          simp only [Instr.findNow, h1, Instr.sameNow, this, e1]
    · cases h
theorem sameBits_aggs {us vs : Array Value} (d : Nat) (hsz : us.size = vs.size) (h : ((us.toList.zip vs.toList).all fun p => Instr.sameBits d p.1 p.2) = true) : Instr.sameBits (d + 1) (.agg us) (.agg vs) = true := by
  simp only [Instr.sameBits, hsz, beq_self_eq_true, Bool.true_and]
  simpa using h
theorem findAsking_ok (hF : FxOk F E) {B : Be} {n : Nat} {t : TypeId} {ks : List IntKind} (hfl : flat P 20 t = some ks) (hg : isAgg? P t = some true) {l : List SC} (hl0 : kindsOk ks l = true) {vs : Array Value} (hv : LR (VC E B n) l vs.toList) :
    ∀ {es : List (SA × SA × Nat)} {ms : List MapEntry} {i : Nat} {r : Option (Nat × SA)}, findE F (.cells ks) l es i = some r → LR (ER E B n) es ms → ∀ w,
    ∃ r', (Instr.findAsking t (.agg vs) ms i).run P w = .ok r' w ∧ RF E B n i (.agg vs) ms r r'
  | [], ms, i, r, h, hl, w => by
    simp only [findE, Option.some.injEq] at h; subst h
    rw [hl.nil]
    exact ⟨none, rfl, trivial⟩
  | (k', v', b') :: es, ms, i, r, h, hl, w => by
    obtain ⟨m, ms', rfl, ⟨h1, h2, h3⟩, hl'⟩ := hl.cons
    simp only [findE] at h
    split at h
    · rename_i l' hk
      cases k' with
      | s y => cases y <;> simp [keyOk] at hk
      | g q =>
        simp only [keyOk] at hk
        split at hk
        · rename_i hkq
          simp only [Option.some.injEq] at hk; subst hk
          obtain ⟨us, e1, e2⟩ := h1
          have i1 := kindsOk_IsI hl0 hv
          have i2 := kindsOk_IsI hkq e2
          have heq := flat_eqIn 20 t ks true hfl hg 10000 (by omega) vs.toList us.toList i1 i2 w
          simp only [wrapT, Array.toArray_toList] at heq
          have heq : (Op.equal t (.agg vs) m.key).run P w = .ok (eqVs vs.toList us.toList) w := by rw [e1]; exact heq
          split at h
          · rename_i he
            have hbb := eqL_ok hF he hl0 hkq hv e2
            simp only [Option.some.injEq] at h; subst h
            refine ⟨some (i, m.val), ?_, rfl, Nat.le_refl _, h2, m, by simp, ?_⟩
            · simp only [Instr.findAsking, Sem.run_bind, heq, ← hbb, Result.andThen_ok, if_true, Sem.run_pure]
            · rw [e1]
              have hsz : us.size = vs.size := by rw [← Array.length_toList, ← Array.length_toList, i1.length, i2.length]
              have hcomm : eqVs us.toList vs.toList = true := by
                have : ∀ (ks : List IntKind) (xs ys : List Value), IsI ks xs → IsI ks ys → eqVs xs ys = true → eqVs ys xs = true := by
                  intro ks
                  induction ks with
                  | nil => intro xs ys h1 h2 _; rw [h1.nil, h2.nil]; rfl
                  | cons k ks ih =>
                    intro xs ys h1 h2 h3
                    obtain ⟨a, r, rfl, g1⟩ := h1.cons
                    obtain ⟨b, s, rfl, g2⟩ := h2.cons
                    simp only [eqVs, Bool.and_eq_true, beq_iff_eq] at h3 ⊢
                    exact ⟨h3.1.symm, ih r s g1 g2 h3.2⟩
                exact this ks _ _ i1 i2 hbb.symm
              have hb := eqVs_bits 9999 i2 i1 hcomm
              exact sameBits_aggs 9999 hsz hb
          · rename_i he
            have hbb := eqL_ok hF he hl0 hkq hv e2
            obtain ⟨r', g1, g2⟩ := findAsking_ok hF hfl hg hl0 hv h hl' w
            refine ⟨r', ?_, g2.cons⟩
            simp only [Instr.findAsking, Sem.run_bind, heq, ← hbb, Result.andThen_ok, Bool.false_eq_true, if_false, g1]
          · cases h
        · cases hk
    · cases h
theorem checkKey_int {t : TypeId} {kd : IntKind} (hu : P.underlying t = some (.int kd)) (em : Bool) (d : Nat) (v : Value) (w : World) : (Instr.checkKey em (d + 1) t v).run P w = .ok () w := by
  simp only [Instr.checkKey, Sem.run_bind, run_under hu, Result.andThen_ok, Sem.run_pure]
theorem checkKey_str {t : TypeId} (hu : P.underlying t = some .string) (em : Bool) (d : Nat) (v : Value) (w : World) : (Instr.checkKey em (d + 1) t v).run P w = .ok () w := by
  simp only [Instr.checkKey, Sem.run_bind, run_under hu, Result.andThen_ok, Sem.run_pure]
/-- the key's check, and the search -/
theorem find_ok (hF : FxOk F E) {B : Be} {n : Nat} {t : TypeId} {K : KeyK} (hK : keyK P t = some K) {k : SA} {l : List SC} (hk : keyOk K k = some l) {v : Value} (hv : VA E B n k v) {es : List (SA × SA × Nat)} {ms : List MapEntry} {r : Option (Nat × SA)} (hr : findE F K l es 0 = some r) (hl : LR (ER E B n) es ms) (w : World) :
    (∀ em, (Instr.checkKey em 10000 t v).run P w = .ok () w) ∧ ∃ r', (Instr.findKey t v ms).run P w = .ok r' w ∧ RF E B n 0 v ms r r' := by
  unfold keyK at hK
  split at hK
  · rename_i kd hu
    simp only [Option.some.injEq] at hK; subst hK
    cases k with
    | g q => simp [keyOk] at hk
    | s y =>
      cases y <;> try (simp [keyOk] at hk; done)
      simp only [keyOk, Option.some.injEq] at hk; subst hk
      simp only [VA, VC] at hv
      subst hv
      refine ⟨fun em => checkKey_int hu em 9999 _ w, ?_⟩
      obtain ⟨r', e1, e2⟩ := findNow_ints (kd := kd) hF hr hl
      exact ⟨r', by simp [Instr.findKey, run_under hu, e1], e2⟩
  · rename_i hu
    simp only [Option.some.injEq] at hK; subst hK
    cases k with
    | g q => simp [keyOk] at hk
    | s y =>
      cases y <;> try (simp [keyOk] at hk; done)
      simp only [keyOk, Option.some.injEq] at hk; subst hk
      obtain ⟨hv, hq⟩ := hv
      subst hv
      refine ⟨fun em => checkKey_str hu em 9999 _ w, ?_⟩
      obtain ⟨r', e1, e2⟩ := findNow_strs hq hr hl
      exact ⟨r', by simp [Instr.findKey, run_under hu, e1], e2⟩
  · rename_i fs hu
    split at hK
    · rename_i ks hfl
      simp only [Option.some.injEq] at hK; subst hK
      have hg : isAgg? P t = some true := by simp [isAgg?, hu]
      cases k with
      | s y => cases y <;> simp [keyOk] at hk
      | g q =>
        simp only [keyOk] at hk
        split at hk
        · rename_i hkq
          simp only [Option.some.injEq] at hk; subst hk
          obtain ⟨vs, rfl, hvs⟩ := hv
          refine ⟨fun em => ?_, ?_⟩
          · have := flat_check 20 t ks true hfl hg em 10000 (by omega) vs.toList (kindsOk_IsI hkq hvs) w
            simpa [wrapT] using this
          · cases ms with
            | nil =>
              have he : es = [] := by
                cases es with
                | nil => rfl
                | cons => exact hl.elim
              subst he
              simp only [findE, Option.some.injEq] at hr; subst hr
              exact ⟨none, by simp [Instr.findKey, run_under hu, Instr.findNow], trivial⟩
            | cons m ms =>
              obtain ⟨r', e1, e2⟩ := findAsking_ok (P := P) hF hfl hg hkq hvs hr hl w
              refine ⟨r', ?_, e2⟩
              simp only [Instr.findKey, Sem.run_bind, run_under hu, Result.andThen_ok, Instr.findNow, Instr.sameNow]
              exact e1
        · cases hk
    · cases hK
  · cases hK
theorem zeroA_run {e : TypeId} {z : SA} (h : zeroA? P e = some z) : ∃ v, (∀ w, (zeroValue e).run P w = .ok v w) ∧ ∀ (B : Be) (n : Nat), VA E B n z v := by
  unfold zeroA? at h
  split at h
  · rename_i i hi
    split at h
    · rename_i v hv
      split at h
      · rename_i x hx
        simp only [Option.some.injEq] at h; subst h
        exact ⟨v, fun w => by simp [zeroValue, run_info hi, hv], fun B n => ofV_VV hx⟩
      · cases h
    · cases h
  · cases h
theorem lookup_ok (hF : FxOk F E) {t : TypeId} {y z : Operand} {ok : Bool} {k : OpK} (hk : lookupK P F t y z ok = some k) : KOk P E k (Oper.mk dst (.lookup t y z ok) ty pos after guard) := by
  unfold lookupK at hk
  split at hk
  · rename_i kt e hu
    split at hk
    · rename_i K zs hK hzs
      obtain ⟨zv, hzv, hzl⟩ := zeroA_run (E := E) hzs
      · simp only [Option.some.injEq] at hk; subst hk
        intro B X n T h a w x hx ht H
        dsimp only at hx
        split at hx
        · rename_i m kk hm hkk
          split at hx
          · rename_i es kl hes hkl
            have hV := ht.evC hm
            have hKV := ht.evA hkk
            have hzV : VA E B n zs zv := hzl B n
            rcases mapOf_ok H hes hV with ⟨e1, rfl⟩ | ⟨r, ms, clock, e1, e2, e3⟩
            · split at hx
              · rename_i h0; simp [findE] at h0
              · rename_i h0
                simp only [Option.some.injEq] at hx; subst hx
                obtain ⟨c1, r', c2, c3⟩ := find_ok (P := P) hF hK hkl hKV (ms := []) (es := []) (r := none) h0 trivial w
                have hr' : r' = none := by cases r' with | none => rfl | some p => exact c3.elim
                subst hr'
                cases ok with
                | true => exact ⟨.tuple #[zv, .bool false], by simp [execOp, Instr.lookup, run_under hu, e1, c1, c2, hzv], #[zv, .bool false], rfl, hzV, rfl, trivial⟩
                | false => exact ⟨zv, by simp [execOp, Instr.lookup, run_under hu, e1, c1, c2, hzv], hzV⟩
              · cases hx
            · split at hx
              · rename_i j v h0
                simp only [Option.some.injEq] at hx; subst hx
                obtain ⟨c1, r', c2, c3⟩ := find_ok (P := P) hF hK hkl hKV h0 e3 w
                cases r' with
                | none => exact c3.elim
                | some p =>
                  obtain ⟨_, _, c4, _⟩ := c3
                  cases ok with
                  | true => exact ⟨.tuple #[p.2, .bool true], by simp [execOp, Instr.lookup, run_under hu, e1, run_getObj_map e2, c1, c2], #[p.2, .bool true], rfl, c4, rfl, trivial⟩
                  | false => exact ⟨p.2, by simp [execOp, Instr.lookup, run_under hu, e1, run_getObj_map e2, c1, c2], c4⟩
              · rename_i h0
                simp only [Option.some.injEq] at hx; subst hx
                obtain ⟨c1, r', c2, c3⟩ := find_ok (P := P) hF hK hkl hKV h0 e3 w
                have hr' : r' = none := by cases r' with | none => rfl | some p => exact c3.elim
                subst hr'
                cases ok with
                | true => exact ⟨.tuple #[zv, .bool false], by simp [execOp, Instr.lookup, run_under hu, e1, run_getObj_map e2, c1, c2, hzv], #[zv, .bool false], rfl, hzV, rfl, trivial⟩
                | false => exact ⟨zv, by simp [execOp, Instr.lookup, run_under hu, e1, run_getObj_map e2, c1, c2, hzv], hzV⟩
              · cases hx
          · cases hx
        · cases hx
    · cases hk
  · cases hk
end Go.Cx
/- The operations: putting into maps, deleting. -/
namespace Go.Cx
variable {P : Program} {E : Env} {F : Fx}
variable {dst : Option Tmp} {ty : TypeId} {pos : String} {after : Array Edge} {guard : Option (Nat × Bool)}

theorem setE_LR {B : Be} {n : Nat} {k v : SA} {k' v' : Value} (hk : VA E B n k k') (hv : VA E B n v v') : ∀ {es : List (SA × SA × Nat)} {ms : List MapEntry} (j : Nat), LR (ER E B n) es ms →
    LR (ER E B n) (setE es j k v) (ms.modify j fun e => { e with key := k', val := v' })
  | [], ms, j, h => by rw [h.nil]; simp [setE, LR]
  | (a, b, c) :: es, ms, 0, h => by
    obtain ⟨m, ms', rfl, ⟨h1, h2, h3⟩, hl⟩ := h.cons
    exact ⟨⟨hk, hv, h3⟩, hl⟩
  | e :: es, ms, j + 1, h => by
    obtain ⟨m, ms', rfl, h1, hl⟩ := h.cons
    exact ⟨h1, setE_LR hk hv j hl⟩
theorem delE_LR {B : Be} {n : Nat} : ∀ {es : List (SA × SA × Nat)} {ms : List MapEntry} (j : Nat), LR (ER E B n) es ms → LR (ER E B n) (delE es j) (ms.eraseIdx j)
  | [], ms, j, h => by rw [h.nil]; simp [delE, LR]
  | _ :: es, ms, 0, h => by
    obtain ⟨m, ms', rfl, _, hl⟩ := h.cons
    exact hl
  | e :: es, ms, j + 1, h => by
    obtain ⟨m, ms', rfl, h1, hl⟩ := h.cons
    exact ⟨h1, delE_LR j hl⟩
theorem run_setObj {w : World} {r : Nat} {ms : Array MapEntry} {clock : Nat} (o : Obj) (hb : w.heap[r]? = some (.map ms clock)) : (setObj r o).run P w = .ok () { w with heap := w.heap.setIfInBounds r o } := by
  simp [setObj, Sem.run, hb]
theorem heapSet {w : World} {r : Nat} {o' : Obj} (o : Obj) (hb : w.heap[r]? = some o') : (w.heap.setIfInBounds r o).size = w.heap.size ∧ (∀ q, q ≠ r → (w.heap.setIfInBounds r o)[q]? = w.heap[q]?) ∧ (w.heap.setIfInBounds r o)[r]? = some o := by
  have hlt : r < w.heap.size := by
    rcases Nat.lt_or_ge r w.heap.size with h' | h'
    · exact h'
    · rw [Array.getElem?_eq_none h'] at hb; cases hb
  exact ⟨by simp, fun q hq => Array.getElem?_setIfInBounds_ne (Ne.symm hq), by simp [hlt]⟩
theorem keyStays {old new : Value} (h : Instr.sameBits 10000 old new = true) (w : World) : (Instr.keyThatStays old new).run P w = .ok new w := by
  unfold Instr.keyThatStays
  rw [h]
  rfl
theorem map_put {B : Be} {X : Nat → Prop} {n : Nat} {h : Hp} {w : World} (H : HR E B X n h w) {b : Nat} {o : SO} (hb : h.get b = some o) {o' : Obj} (ho : w.heap[B.β b]? = some o') {o2 : SO} {o2' : Obj} (h2 : HO E B n b o2 o2') :
    HR E B X n (h.upd 24 b (some o2)) { w with heap := w.heap.setIfInBounds (B.β b) o2' } ∧ FR X w { w with heap := w.heap.setIfInBounds (B.β b) o2' } := by
  obtain ⟨s1, s2, s3⟩ := heapSet o2' ho
  exact ⟨H.put hb s1 s2 s3 h2, FR.put H hb s1 s2 rfl rfl rfl⟩

theorem mapUpdate_ok (hF : FxOk F E) {t : TypeId} {x y z : Operand} {k : OpK} (hk : mapUpdateK P F t x y z = some k) {op : Op} (hop : op = .mapUpdate t x y z ∨ op = .insert t x y z) : KOk P E k (Oper.mk dst op ty pos after guard) := by
  unfold mapUpdateK at hk
  split at hk
  · rename_i kt e hu
    split at hk
    · rename_i K hK
      simp only [Option.some.injEq] at hk; subst hk
      intro B X n T h a w x' h' n' hx ht H next Q hq
      have hrun : ∀ w', (Instr.mapUpdate t (a.eval x) (a.eval y) (a.eval z)).run P w = .ok () w' → (execOp a.eval (Oper.mk dst op ty pos after guard)).run P w = .ok .skip w' := fun w' e => by
        rcases hop with rfl | rfl <;> simp [execOp, e]
      dsimp only at hx
      split at hx
      · rename_i b kk v hb hkk hv
        split at hx
        · rename_i es clock kl hh hkl
          obtain ⟨hbn, e1⟩ := ht.evC hb
          have hKV := ht.evA hkk
          have hVV := ht.evA hv
          obtain ⟨_, _, o', ho, ms, rfl, hl⟩ := H.live b _ hh
          split at hx
          · rename_i j u h0
            simp only [Option.some.injEq, Prod.mk.injEq] at hx
            obtain ⟨rfl, rfl, rfl⟩ := hx
            obtain ⟨c1, r', c2, c3⟩ := find_ok (P := P) hF hK hkl hKV h0 hl w
            cases r' with
            | none => exact c3.elim
            | some p =>
              obtain ⟨c4, _, _, m, c5, c6⟩ := c3
              subst c4
              have c5 : ms[p.1]? = some m := by simpa using c5
              obtain ⟨H', F'⟩ := map_put H hh ho (o2 := .map (setE es p.1 kk v) clock) (o2' := .map (ms.modify p.1 fun e => { e with key := a.eval y, val := a.eval z }) clock) ⟨_, rfl, by
                rw [Array.toList_modify]; exact setE_LR hKV hVV _ hl⟩
              refine chg_skip (hrun _ ?_) (Ext.refl _ _) (Nat.le_refl _) H' F' hq
              simp [Instr.mapUpdate, run_under hu, e1, run_getObj_map ho, c1, c2, c5, keyStays c6, run_setObj _ ho]
          · rename_i h0
            simp only [Option.some.injEq, Prod.mk.injEq] at hx
            obtain ⟨rfl, rfl, rfl⟩ := hx
            obtain ⟨c1, r', c2, c3⟩ := find_ok (P := P) hF hK hkl hKV h0 hl w
            have hr' : r' = none := by cases r' with | none => rfl | some p => exact c3.elim
            subst hr'
            obtain ⟨H', F'⟩ := map_put H hh ho (o2 := .map (es ++ [(kk, v, clock)]) (clock + 1)) (o2' := .map (ms.push { key := a.eval y, val := a.eval z, born := clock }) (clock + 1)) ⟨_, rfl, by
                rw [Array.toList_push]; exact hl.append ⟨⟨hKV, hVV, rfl⟩, trivial⟩⟩
            refine chg_skip (hrun _ ?_) (Ext.refl _ _) (Nat.le_refl _) H' F' hq
            simp [Instr.mapUpdate, run_under hu, e1, run_getObj_map ho, c1, c2, run_setObj _ ho]
          · cases hx
        · cases hx
      · cases hx
    · cases hk
  · cases hk

theorem delete_ok (hF : FxOk F E) {ts : Array TypeId} {args : Array Operand} {y z : Operand} {k : OpK} (hargs : args.toList = [y, z]) (hk : deleteK P F ts y z = some k) : KOk P E k (Oper.mk dst (.call ⟨.builtin .delete, args, ts⟩) ty pos after guard) := by
  unfold deleteK at hk
  split at hk
  · rename_i t htt
    split at hk
    · rename_i kt e hu
      split at hk
      · rename_i K hK
        simp only [Option.some.injEq] at hk; subst hk
        intro B X n T h a w x' h' n' hx ht H next Q hq
        obtain ⟨c, hc⟩ := exec_builtin (dst := dst) (ty := ty) (pos := pos) (after := after) (guard := guard) a.eval .delete args ts
        rw [args2 hargs] at hc
        have hun : VV E B n (.t []) (.tuple #[]) := ⟨#[], rfl, trivial⟩
        dsimp only at hx
        split at hx
        · rename_i b kk hb hkk
          split at hx
          · rename_i es clock kl hh hkl
            obtain ⟨hbn, e1⟩ := ht.evC hb
            have hKV := ht.evA hkk
            obtain ⟨_, _, o', ho, ms, rfl, hl⟩ := H.live b _ hh
            split at hx
            · rename_i j u h0
              simp only [Option.some.injEq, Prod.mk.injEq] at hx
              obtain ⟨rfl, rfl, rfl⟩ := hx
              obtain ⟨c1, r', c2, c3⟩ := find_ok (P := P) hF hK hkl hKV h0 hl w
              cases r' with
              | none => exact c3.elim
              | some p =>
                obtain ⟨c4, _, _, m, c5, c6⟩ := c3
                subst c4
                obtain ⟨H', F'⟩ := map_put H hh ho (o2 := .map (delE es p.1) clock) (o2' := .map (ms.eraseIdxIfInBounds p.1) clock) ⟨_, rfl, by
                  rw [Array.toList_eraseIdxIfInBounds]; exact delE_LR _ hl⟩
                refine chg_value (v := .tuple #[]) (x := .t []) ?_ (Ext.refl _ _) (Nat.le_refl _) H' F' hun hq
                rw [hc]
                simp [builtin, Builtin.delete_, htt, run_under hu, e1, run_getObj_map ho, c1, c2, run_setObj _ ho]
            · rename_i h0
              simp only [Option.some.injEq, Prod.mk.injEq] at hx
              obtain ⟨rfl, rfl, rfl⟩ := hx
              obtain ⟨c1, r', c2, c3⟩ := find_ok (P := P) hF hK hkl hKV h0 hl w
              have hr' : r' = none := by cases r' with | none => rfl | some p => exact c3.elim
              subst hr'
              have hs : w.heap.setIfInBounds (B.β b) (.map ms clock) = w.heap := by
                apply Array.ext_getElem?
                intro i
                by_cases hi : i = B.β b
                · subst hi; rw [(heapSet _ ho).2.2, ho]
                · exact (heapSet _ ho).2.1 i hi
              refine chg_value (v := .tuple #[]) (x := .t []) (B' := B) (w' := w) ?_ (Ext.refl _ _) (Nat.le_refl _) H (FR.refl _ _) hun hq
              rw [hc]
              simp [builtin, Builtin.delete_, htt, run_under hu, e1, run_getObj_map ho, c1, c2, run_setObj _ ho, hs]
            · cases hx
          · cases hx
        · cases hx
      · cases hk
    · cases hk
  · cases hk
end Go.Cx
/- The operations: unsafe.SliceData and unsafe.String. -/
namespace Go.Cx
variable {P : Program} {E : Env} {F : Fx}
variable {dst : Option Tmp} {ty : TypeId} {pos : String} {after : Array Edge} {guard : Option (Nat × Bool)}

theorem sliceData_ok {ts : Array TypeId} {args : Array Operand} {y : Operand} (hargs : args.toList = [y]) : KOk P E (.pure (sliceDataF y)) (Oper.mk dst (.call ⟨.builtin .unsafeSliceData, args, ts⟩) ty pos after guard) := by
  intro B n T a x hx ht w
  obtain ⟨c, hc⟩ := exec_builtin (dst := dst) (ty := ty) (pos := pos) (after := after) (guard := guard) a.eval .unsafeSliceData args ts
  rw [args1 hargs] at hc
  unfold sliceDataF at hx
  split at hx
  · rename_i h0
    have e := ht.evC h0
    simp only [Option.some.injEq] at hx; subst hx
    exact ⟨.pointer none, by rw [hc, e]; simp [builtin, Lib.run_unsafeSliceData_nil], rfl⟩
  · rename_i b o len cap es ex h0
    obtain ⟨e1, cap', e2, e3, e4⟩ := ht.evC h0
    cases cap with
    | zero => cases hx
    | succ cap =>
      simp only [Option.some.injEq] at hx; subst hx
      have hcap : cap' ≠ 0 := by
        cases ex with
        | true => rw [e3 rfl]; omega
        | false => have := (e4 rfl).1; omega
      exact ⟨.pointer (some ⟨B.β b, o, none⟩), by rw [hc, e2]; simp [builtin, Lib.run_unsafeSliceData_row (hc := hcap)], e1, rfl⟩
  · cases hx
theorem bytesOf_get {B : Be} {n : Nat} : ∀ {l : List SC} {r : List Nat} {vs : List Value}, convK.bytesOf l = some r → LR (VC E B n) l vs → r.length = l.length ∧ ∀ (j x : Nat), r[j]? = some x → x < 256 ∧ vs[j]? = some (Value.int .u8 (x : Int))
  | [], r, vs, h, hl => by
    simp only [convK.bytesOf, Option.some.injEq] at h; subst h
    exact ⟨rfl, fun j x hx => by simp at hx⟩
  | x :: l, r, vs, h, hl => by
    obtain ⟨v, vs', rfl, hv, hl'⟩ := hl.cons
    unfold convK.bytesOf at h
    split at h
    · cases ‹_ :: _ = []›
    · rename_i m l' e
      injection e with e1 e2
      subst e1; subst e2
      split at h
      · rename_i hm
        have hm : m < 256 := by simpa [Nat.blt_eq] using hm
        split at h
        · rename_i r' hr'
          simp only [Option.some.injEq] at h; subst h
          obtain ⟨i1, i2⟩ := bytesOf_get hr' hl'
          refine ⟨by simp [i1], fun j x hx => ?_⟩
          cases j with
          | zero =>
            simp only [List.getElem?_cons_zero, Option.some.injEq] at hx; subst hx
            simp only [VC, val0] at hv
            exact ⟨hm, by rw [hv]; rfl⟩
          | succ j => simpa using i2 j x (by simpa using hx)
        · cases h
      · cases h
    · cases h
theorem freeze_heap (w : World) (b n : Nat) : (w.freeze ⟨b, 0, none⟩ n).heap.size = w.heap.size ∧ (∀ r, r ≠ b → (w.freeze ⟨b, 0, none⟩ n).heap[r]? = w.heap[r]?) ∧ (w.freeze ⟨b, 0, none⟩ n).os = w.os ∧ (w.freeze ⟨b, 0, none⟩ n).tape = w.tape ∧ (w.freeze ⟨b, 0, none⟩ n).output = w.output := by
  unfold World.freeze
  split
  · exact ⟨rfl, fun _ _ => rfl, rfl, rfl, rfl⟩
  · exact ⟨by simp, fun r hr => by simp only [Array.getElem?_modify]; rw [if_neg (by omega)], rfl, rfl, rfl⟩
theorem HR.killw {B : Be} {X : Nat → Prop} {n : Nat} {h : Hp} {w w' : World} (H : HR E B X n h w) {b : Nat} {o : SO} (hb : h.get b = some o) (hs : w'.heap.size = w.heap.size) (hr : ∀ r, r ≠ B.β b → w'.heap[r]? = w.heap[r]?) : HR E B X n (h.upd 24 b none) w' := by
  have hlim : b < lim := Nat.lt_of_lt_of_le (H.live b o hb).1 H.top
  have key : ∀ {b' : Nat} {q : SO}, (h.upd 24 b none).get b' = some q → h.get b' = some q ∧ b' ≠ b := by
    intro b' q hq
    rw [Tr.get_upd hlim] at hq
    split at hq
    · cases hq
    · rename_i hne; exact ⟨hq, fun e => hne e.symm⟩
  refine ⟨fun b' x hx => ?_, fun b1 b2 x1 x2 h1 h2 hβ => H.inj _ _ _ _ (key h1).1 (key h2).1 hβ, H.top, by rw [hs]; exact H.out, fun r q hq => ⟨(H.fix r q hq).1, by rw [hr r fun e => (H.live b o hb).2.1 (e ▸ (H.fix r q hq).1)]; exact (H.fix r q hq).2⟩⟩
  obtain ⟨h1, h2⟩ := key hx
  obtain ⟨e1, e2, o', e3, e4⟩ := H.live b' x h1
  exact ⟨e1, e2, o', by rw [hr _ fun e => h2 (H.inj _ _ _ _ h1 hb e), e3], e4⟩
theorem unStr_ok {ts : Array TypeId} {args : Array Operand} {y z : Operand} {k : OpK} (hargs : args.toList = [y, z]) (hk : unStrK P ts y z = some k) : KOk P E k (Oper.mk dst (.call ⟨.builtin .unsafeString, args, ts⟩) ty pos after guard) := by
  unfold unStrK at hk
  split at hk
  · rename_i pt it hts
    have hts : ts = #[pt, it] := Array.ext' (by simpa using hts)
    subst hts
    split at hk
    · rename_i u hu
      split at hk
      · rename_i hc1
        have hc1 := Nat.eq_of_beq_eq_true hc1
        simp only [Option.some.injEq] at hk; subst hk
        intro B X n T h a w x h' n' hx ht H next Q hq
        obtain ⟨c, hc⟩ := exec_builtin (dst := dst) (ty := ty) (pos := pos) (after := after) (guard := guard) a.eval .unsafeString args #[pt, it]
        rw [args2 hargs] at hc
        dsimp only at hx
        split at hx
        · rename_i b m hp hm
          split at hx
          · rename_i cs q e hb
            split at hx
            · rename_i hchk
              simp only [Bool.and_eq_true, Nat.blt_eq] at hchk
              obtain ⟨he, hm0, hm1⟩ := hchk
              have he := Nat.eq_of_beq_eq_true he
              have hm1 := Nat.le_of_ble_eq_true hm1
              subst he
              split at hx
              · rename_i l hl
                split at hx
                · rename_i r hr
                  simp only [Option.some.injEq, Prod.mk.injEq] at hx
                  obtain ⟨rfl, rfl, rfl⟩ := hx
                  obtain ⟨_, e1⟩ := ht.evC hp
                  have e2 := ht.evC hm
                  simp only [VC, val0] at e2
                  obtain ⟨vs, f1, f2, f3⟩ := H.loadN hb m 0 l hl
                  obtain ⟨g1, g2⟩ := bytesOf_get hr f2
                  have hlen : r.length = m := by rw [g1, f2.length, f1]
                  obtain ⟨_, _, o', ho, vcs, fr, rfl, _⟩ := H.live b _ hb
                  have hsh : w.shape? (B.β b) = some (e, vcs.size) := by simp [World.shape?, ho]
                  have hcell : ∀ j x, (r.map UInt8.ofNat)[j]? = some x → w.cell? ((⟨B.β b, 0, none⟩ : Addr).add j) = some (.int .u8 (x.toNat : Int)) := fun j x hx => by
                    rw [List.getElem?_map] at hx
                    obtain ⟨y, hy, rfl⟩ := Option.map_eq_some_iff.1 hx
                    obtain ⟨k1, k2⟩ := g2 j y hy
                    rw [add_at]
                    rw [f3 j _ k2]
                    have : (UInt8.ofNat y).toNat = y := by simp; omega
                    rw [this]
                  have hle : m ≤ vcs.size := by
                    obtain ⟨y, hy⟩ : ∃ y, (r.map UInt8.ofNat)[m - 1]? = some y := ⟨(r.map UInt8.ofNat)[m - 1]'(by simp; omega), List.getElem?_eq_getElem _⟩
                    have := hcell _ _ hy
                    rw [add_at] at this
                    simp only [World.cell?, ho] at this
                    rcases Nat.lt_or_ge (m - 1) vcs.size with h' | h'
                    · omega
                    · simp [Array.getElem?_eq_none, h'] at this
                  have hne : r.map UInt8.ofNat ≠ [] := fun h => by
                    have := congrArg List.length h
                    rw [List.length_map, hlen, List.length_nil] at this
                    omega
                  have hrun := Lib.run_unsafeString_row (P := P) w pt it ty e hu hc1 (B.β b) vcs.size hsh (r.map UInt8.ofNat) hne (by simp; omega) (by simp; omega) hcell
                  obtain ⟨w1, w2, w3, w4, w5⟩ := freeze_heap w (B.β b) (r.map UInt8.ofNat).length
                  refine chg_value (v := .string (bs r)) (x := sc (.str r)) (B' := B) (w' := w.freeze ⟨B.β b, 0, none⟩ (r.map UInt8.ofNat).length) ?_ (Ext.refl _ _) (Nat.le_refl _) (H.killw hb w1 w2) (FR.put H hb w1 w2 w3 w4 w5) ⟨rfl, fun x hx => ?_⟩ hq
                  · rw [hc, e1, e2]
                    have hmm : (Value.int .i64 (Int.ofNat m)) = .int .i64 ((r.map UInt8.ofNat).length : Int) := by simp [hlen]
                    rw [hmm]
                    simp only [builtin, Sem.run_bind, hrun, Result.andThen_ok, Sem.run_pure]
                    rfl
                  · obtain ⟨j, hj⟩ := List.mem_iff_getElem?.1 hx
                    exact (g2 j x hj).1
                · cases hx
              · cases hx
            · cases hx
          · cases hx
        · cases hx
      · cases hk
    · cases hk
  · cases hk
end Go.Cx
/- All operations, calls among them. -/
namespace Go.Cx
variable {P : Program} {E : Env} {F : Fx}

/-- what a function's executor answers is what the function does -/
def CallOk (P : Program) (E : Env) (f : Nat) (cl : List SV → Hp → Nat → Option (SV × Hp × Nat)) : Prop :=
  ∀ (args : List SV) (h : Hp) (n : Nat) (v : SV) (h' : Hp) (n' : Nat), cl args h n = some (v, h', n') → ∀ (B : Be) (X : Nat → Prop) (w : World) (vs : Array Value), HR E B X n h w → LR (VV E B n) args vs.toList →
    (callFunc f vs).run P w = .ok (.enter f vs) w ∧
    Calls P f vs w fun e w' => ∃ v' B', e = .returned v' ∧ Ext B B' n ∧ n ≤ n' ∧ HR E B' X n' h' w' ∧ FR X w w' ∧ VV E B' n' v v'

theorem LR.map_ptr {B : Be} {n : Nat} : ∀ {caps : List (Nat × Nat)}, (∀ p ∈ caps, p.1 < n) → LR (VV E B n) (caps.map fun p => sc (.ptr p.1 p.2)) (caps.map fun p => Value.pointer (some ⟨B.β p.1, p.2, none⟩))
  | [], _ => trivial
  | p :: caps, h => ⟨⟨h p (by simp), rfl⟩, LR.map_ptr fun q hq => h q (by simp [hq])⟩

variable {dst : Option Tmp} {ty : TypeId} {pos : String} {after : Array Edge} {guard : Option (Nat × Bool)}
theorem callValue_ok {call : CallF} (hcall : ∀ f, CallOk P E f (call f)) (f : Operand) (args : Array Operand) (ts : Array TypeId) :
    KOk P E (.chg fun T h n => match evC f T with
      | some (.fn g caps) => match evs args.toList T with
        | some aL => call g (aL ++ caps.map fun p => sc (.ptr p.1 p.2)) h n
        | none => none
      | _ => none) (Oper.mk dst (.call ⟨.value f, args, ts⟩) ty pos after guard) := by
  intro B X n T h a w x h' n' hx ht H next Q hq
  dsimp only at hx
  split at hx
  · rename_i g caps hf
    split at hx
    · rename_i aL has
      obtain ⟨c1, c2⟩ := ht.evC hf
      have hargs := ht.evs has
      have hl : LR (VV E B n) (aL ++ caps.map fun p => sc (.ptr p.1 p.2)) (args.map a.eval ++ (caps.map fun p => Value.pointer (some ⟨B.β p.1, p.2, none⟩)).toArray).toList := by
        rw [Array.toList_append, Array.toList_map]
        exact hargs.append (LR.map_ptr c1)
      obtain ⟨e1, e2⟩ := hcall g _ _ _ _ _ _ hx B X w _ H hl
      unfold Oper.wp
      have : (execOp a.eval (Oper.mk dst (.call ⟨.value f, args, ts⟩) ty pos after guard)).run P w = .ok (.enter g (args.map a.eval ++ (caps.map fun p => Value.pointer (some ⟨B.β p.1, p.2, none⟩)).toArray)) w := by
        rw [← e1]
        simp [execOp, resolve, c2, Deferred.ofValue, invoke]
      rw [this]
      refine Calls.mono e2 fun e w' he => ?_
      obtain ⟨v', B', rfl, g1, g2, g3, g4, g5⟩ := he
      exact hq B' v' w' g1 g2 g3 g4 g5
    · cases hx
  · cases hx
theorem some_inj {α : Type} {a b : α} (h : some a = some b) : a = b := by cases h; rfl
theorem opK_ok (hF : FxOk F E) {call : CallF} (hcall : ∀ f, CallOk P E f (call f)) {op : Op} {k : OpK} (hk : opK P F call op = some k) : KOk P E k (Oper.mk dst op ty pos after guard) := by
  cases op
  case move x => cases hk; exact move_ok x
  case assign x => cases hk; exact assign_ok x
  case pick c x y => cases hk; exact pick_ok c x y
  case alloc e =>
    simp only [opK] at hk
    split at hk
    · rename_i z hz; cases hk; exact alloc_ok hz
    · cases hk
  case box e x => cases hk; exact box_ok e x
  case build t parts => exact build_ok hk
  case buildSlice t len parts => exact buildSlice_ok hk
  case load t x => exact load_ok hF hk
  case store t x y => exact store_ok hk
  case nilCheck x => cases hk; exact nilCheck_ok x
  case binOp op t x y u => cases hk; exact binOp_ok hF op t u x y
  case unOp op t x => cases hk; exact unOp_ok op t x
  case convert s d x => exact conv_ok hF hk
  case makeFunc fn x y => exact makeFunc_ok hk
  case makeMap t r =>
    cases r with
    | none => cases hk; exact makeMap_ok t
    | some _ => cases hk
  case makeSlice t x y => exact makeSlice_ok hk
  case slice t x lo hi mx => exact slice_ok hk
  case fieldAddr t x f => exact fieldAddr_ok hk
  case field t x f => exact field_ok hk
  case indexAddr t x y => exact indexAddr_ok hF hk
  case index t x y => exact index_ok hk
  case lookup t x y ok => exact lookup_ok hF hk
  case mapUpdate t x y z => exact mapUpdate_ok hF hk (.inl rfl)
  case extract x i => cases hk; exact extract_ok x i
  case call c =>
    obtain ⟨callee, args, ts⟩ := c
    simp only [opK, callK] at hk
    cases callee with
    | value f => cases hk; exact callValue_ok hcall f args ts
    | invoke r m => cases hk
    | builtin b =>
      dsimp only at hk
      unfold builtinK at hk
      split at hk
      · rename_i x h; exact len_ok hF h hk
      · rename_i x y h; exact append_ok h hk
      · rename_i x y h; exact copy_ok h hk
      · rename_i x y h; exact delete_ok hF h hk
      · rename_i x h; exact clear_ok h hk
      · rename_i x r h; cases hk; exact min_ok hF h
      · rename_i x y h; cases hk; exact max_ok hF h
      · rename_i x h; cases hk; exact sliceData_ok h
      · rename_i x y h; exact unStr_ok h hk
      · cases hk
  all_goals cases hk
end Go.Cx
/- Code: what the executor answers holds of the code. First part: all but the drawn regions. -/
namespace Go.Cx
variable {P : Program} {E : Env} {F : Fx}

/-- wherever the state lies (nt: how many temporaries) -/
def After (E : Env) (X : Nat → Prop) (nt : Nat) (B : Be) (n : Nat) (w : World) (s : St) (K : Act → World → Prop) : Prop :=
  ∀ B' a' w', Ext B B' n → n ≤ s.n → TR E B' s.n s.t a'.tmps → HR E B' X s.n s.h w' → FR X w w' → a'.tmps.size = nt → a'.defers = [] → K a' w'
def Post (E : Env) (X : Nat → Prop) (nt : Nat) (B : Be) (n : Nat) (w : World) (Q : Exit → Act → World → Prop) : Res → Prop
  | .bad => False
  | .nrm s => After E X nt B n w s (Q .normal)
  | .brk id s => After E X nt B n w s (Q (.exit id))
  | .ret s => After E X nt B n w s (Q .ret)
theorem After.move {X : Nat → Prop} {nt : Nat} {B B1 : Be} {n n1 : Nat} {w w1 : World} {s : St} {K K' : Act → World → Prop} (h : After E X nt B n w s K) (he : Ext B B1 n) (hn : n ≤ n1) (hf : FR X w w1) (hK : ∀ a w, K a w → K' a w) : After E X nt B1 n1 w1 s K' :=
  fun B' a' w' e1 e2 e3 e4 e5 e6 e7 => hK _ _ (h B' a' w' (he.trans e1 hn) (by omega) e3 e4 (hf.trans e5) e6 e7)
theorem Post.move {X : Nat → Prop} {nt : Nat} {B B1 : Be} {n n1 : Nat} {w w1 : World} {Q : Exit → Act → World → Prop} {r : Res} (h : Post E X nt B n w Q r) (he : Ext B B1 n) (hn : n ≤ n1) (hf : FR X w w1) : Post E X nt B1 n1 w1 Q r := by
  cases r with
  | bad => exact h
  | nrm s => exact After.move h he hn hf fun _ _ h => h
  | brk id s => exact After.move h he hn hf fun _ _ h => h
  | ret s => exact After.move h he hn hf fun _ _ h => h

/-- the executor of a piece of code is right -/
def DOk (P : Program) (E : Env) (nt : Nat) (c : Code) (d : D) : Prop :=
  ∀ (s : St) (B : Be) (X : Nat → Prop) (a : Act) (w : World) (Q : Exit → Act → World → Prop), TR E B s.n s.t a.tmps → HR E B X s.n s.h w → a.tmps.size = nt → a.defers = [] → Post E X nt B s.n w Q (d s) → c.wp P Q a w

/-! ### regions in the text's order -/
theorem TR.putS {B : Be} {n : Nat} {T : Ts} {a : Act} (ht : TR E B n T a.tmps) {dst : Option Nat} (hd : ∀ d, dst = some d → d < a.tmps.size ∧ d < lim) {x : SV} {v : Value} (hv : VV E B n x v) : TR E B n (putS dst x T) (a.put dst v).tmps := by
  cases dst with
  | none => exact ht
  | some d =>
    obtain ⟨hd, hl⟩ := hd d rfl
    intro t y hy
    simp only [Cx.putS] at hy
    simp only [Act.put]
    rw [Tr.get_upd hl] at hy
    split at hy
    · rename_i e
      subst e
      simp only [Option.some.injEq] at hy; subst hy
      exact ⟨v, by simp [hd], hv⟩
    · rename_i e
      rw [Array.getElem?_setIfInBounds_ne e]
      exact ht t y hy
theorem put_size (a : Act) (dst : Option Tmp) (v : Value) : (a.put dst v).tmps.size = a.tmps.size := by cases dst <;> simp [Act.put]
theorem put_defers (a : Act) (dst : Option Tmp) (v : Value) : (a.put dst v).defers = a.defers := by cases dst <;> rfl

/-- what is known of a compiled operation -/
structure OCOk (P : Program) (E : Env) (nt : Nat) (ops : Array Oper) (o : Oper) (c : OC) : Prop where
  k : KOk P E c.k o
  dst : c.dst = o.dst
  lt : ∀ d, o.dst = some d → d < nt ∧ d < lim
  guard : (o.guard = none ∧ c.guard = none) ∨ ∃ j b t oj, o.guard = some (j, b) ∧ c.guard = some (t, b) ∧ ops[j]? = some oj ∧ oj.dst = some t
theorem compOC_ok (hF : FxOk F E) {call : CallF} (hcall : ∀ f, CallOk P E f (call f)) {nt : Nat} {ops : Array Oper} {o : Oper} {c : OC} (h : compOC P F call nt ops o = some c) : OCOk P E nt ops o c := by
  unfold compOC at h
  split at h
  · rename_i k hk
    have hK : KOk P E k o := by
      obtain ⟨dst, op, ty, pos, after, guard⟩ := o
      exact opK_ok hF hcall hk
    split at h
    · rename_i hd
      have hlt : ∀ d, o.dst = some d → d < nt ∧ d < lim := fun d hd' => by
        rw [hd'] at hd
        simp only [Bool.and_eq_true, Nat.blt_eq] at hd
        exact hd
      split at h
      · rename_i hg
        simp only [Option.some.injEq] at h; subst h
        exact ⟨hK, rfl, hlt, .inl ⟨hg, rfl⟩⟩
      · rename_i j b hg
        split at h
        · rename_i oj hoj
          split at h
          · rename_i t ht
            split at h
            · simp only [Option.some.injEq] at h; subst h
              exact ⟨hK, rfl, hlt, .inr ⟨j, b, t, oj, hg, rfl, hoj, ht⟩⟩
            · cases h
          · cases h
        · cases h
    · cases h
  · cases h
theorem wants_ok {nt : Nat} {ops : Array Oper} {o : Oper} {c : OC} (hc : OCOk P E nt ops o c) {B : Be} {n : Nat} {T : Ts} {a : Act} (ht : TR E B n T a.tmps) {b : Bool} (h : wants c.guard T = some b) : Region.wanted o (yielded ops a.tmps) = b := by
  rcases hc.guard with ⟨h1, h2⟩ | ⟨j, b', t, oj, h1, h2, h3, h4⟩
  · rw [h2] at h
    simp only [wants, Option.some.injEq] at h
    simp [Region.wanted, h1, h]
  · rw [h2] at h
    simp only [wants] at h
    simp only [Region.wanted, h1]
    have hy : yielded ops a.tmps j = match a.tmps[t]? with | some (.bool b) => some b | _ => none := by
      simp only [yielded, h3, h4, Option.bind_some]
      rfl
    rw [hy]
    split at h
    · rename_i q hq
      obtain ⟨v, e1, e2⟩ := ht t _ hq
      simp only [VV, VA, VC] at e2
      subst e2
      rw [e1]
      cases b' <;> cases q <;> simp_all
    · rename_i hq
      obtain ⟨v, e1, e2⟩ := ht t _ hq
      simp only [VV, VA, VC] at e2
      subst e2
      rw [e1]
      simp only [Option.some.injEq] at h
      subst h
      rfl
    · cases h
/-- one operation -/
theorem stepK_ok {nt : Nat} {ops : Array Oper} {o : Oper} {c : OC} (hc : OCOk P E nt ops o c) {B : Be} {X : Nat → Prop} {n : Nat} {T : Ts} {h : Hp} {a : Act} {w : World} {v : SV} {h' : Hp} {n' : Nat} (hr : runK c.k T h n = some (v, h', n')) (ht : TR E B n T a.tmps) (H : HR E B X n h w)
    {next : Act → World → Prop} {Q : Exit → Act → World → Prop} (hq : ∀ B' u w', Ext B B' n → n ≤ n' → HR E B' X n' h' w' → FR X w w' → VV E B' n' v u → next (a.put o.dst u) w') : o.wp P a w next Q := by
  have hk := hc.k
  generalize c.k = k at hk hr
  cases k with
  | pure f =>
    simp only [runK] at hr
    split at hr
    · rename_i x hx
      simp only [Option.some.injEq, Prod.mk.injEq] at hr
      obtain ⟨rfl, rfl, rfl⟩ := hr
      obtain ⟨u, e1, e2⟩ := hk B n T a x hx ht w
      unfold Oper.wp
      rw [e1]
      exact hq B u w (Ext.refl _ _) (Nat.le_refl _) H (FR.refl _ _) e2
    · cases hr
  | read f =>
    simp only [runK] at hr
    split at hr
    · rename_i x hx
      simp only [Option.some.injEq, Prod.mk.injEq] at hr
      obtain ⟨rfl, rfl, rfl⟩ := hr
      obtain ⟨u, e1, e2⟩ := hk B X n T h a w x hx ht H
      unfold Oper.wp
      rw [e1]
      exact hq B u w (Ext.refl _ _) (Nat.le_refl _) H (FR.refl _ _) e2
    · cases hr
  | make f =>
    simp only [runK] at hr
    split at hr
    · rename_i hlim
      split at hr
      · rename_i x so hx
        simp only [Option.some.injEq, Prod.mk.injEq] at hr
        obtain ⟨rfl, rfl, rfl⟩ := hr
        obtain ⟨u, o', c', w', e1, e2, e3, e4, e5, e6, e7⟩ := hk B n T a w x so hx ht
        unfold Oper.wp
        rw [e1]
        exact hq _ u w' (Be.add_ext _ _ _ _) (Nat.le_succ _) (H.new (by simpa using hlim) e2 e7) (FR.push H e2 e3 e4 e5) e6
      · cases hr
    · cases hr
  | chg f =>
    exact hk B X n T h a w v h' n' hr ht H next Q hq
theorem stepOC_ok {nt : Nat} {ops : Array Oper} {o : Oper} {c : OC} (hc : OCOk P E nt ops o c) {rest : List Oper} {B : Be} {X : Nat → Prop} {s s' : St} {a : Act} {w : World} (hs : stepOC c s = some s') (ht : TR E B s.n s.t a.tmps) (H : HR E B X s.n s.h w) (hz : a.tmps.size = nt) (hd : a.defers = [])
    {Q : Exit → Act → World → Prop} (hq : After E X nt B s.n w s' (wpList P ops Q rest)) : wpList P ops Q (o :: rest) a w := by
  obtain ⟨T, h, n⟩ := s
  simp only [stepOC] at hs
  split at hs
  · rename_i hw
    split at hs
    · rename_i v h' n' hr
      simp only [Option.some.injEq] at hs; subst hs
      unfold wpList
      rw [if_pos (wants_ok hc ht hw)]
      refine .inl (stepK_ok hc hr ht H fun B' u w' e1 e2 e3 e4 e5 => hq B' _ w' e1 e2 ?_ e3 e4 (by rw [put_size, hz]) (by rw [put_defers, hd]))
      rw [hc.dst]
      exact (ht.ext e1 e2).putS (fun d hd => by rw [hz]; exact hc.lt d hd) e5
    · cases hs
  · rename_i hw
    simp only [Option.some.injEq] at hs; subst hs
    unfold wpList
    rw [if_neg (by rw [wants_ok hc ht hw]; simp)]
    refine hq B _ w (Ext.refl _ _) (Nat.le_refl _) ?_ H (FR.refl _ _) (by rw [put_size, hz]) (by rw [put_defers, hd])
    rw [hc.dst]
    exact ht.putS (fun d hd => by rw [hz]; exact hc.lt d hd) (x := sc .undef) rfl
  · cases hs
theorem runOCs_ok (hF : FxOk F E) {call : CallF} (hcall : ∀ f, CallOk P E f (call f)) {nt : Nat} {ops : Array Oper} {Q : Exit → Act → World → Prop} : ∀ {l : List Oper} {cs : List OC}, compOCs P F call nt ops l = some cs → ∀ {B : Be} {X : Nat → Prop} {s s' : St} {a : Act} {w : World}, runOCs cs s = some s' → TR E B s.n s.t a.tmps → HR E B X s.n s.h w → a.tmps.size = nt → a.defers = [] →
    After E X nt B s.n w s' (Q .normal) → wpList P ops Q l a w
  | [], cs, hc, B, X, s, s', a, w, hr, ht, H, hz, hd, hq => by
    simp only [compOCs, Option.some.injEq] at hc; subst hc
    simp only [runOCs, Option.some.injEq] at hr; subst hr
    exact hq B a w (Ext.refl _ _) (Nat.le_refl _) ht H (FR.refl _ _) hz hd
  | o :: l, cs, hc, B, X, s, s', a, w, hr, ht, H, hz, hd, hq => by
    simp only [compOCs] at hc
    split at hc
    · rename_i c hc1
      split at hc
      · rename_i q hq1
        simp only [Option.some.injEq] at hc; subst hc
        simp only [runOCs] at hr
        split at hr
        · rename_i s1 hs1
          refine stepOC_ok (compOC_ok hF hcall hc1) hs1 ht H hz hd fun B' a' w' e1 e2 e3 e4 e5 e6 e7 => ?_
          exact runOCs_ok hF hcall hq1 hr e3 e4 e6 e7 (hq.move e1 e2 e5 fun _ _ h => h)
        · cases hr
      · cases hc
    · cases hc

/-! ### control -/
theorem seq_ok {nt : Nat} {c1 c2 : Code} {d1 d2 : D} (h1 : DOk P E nt c1 d1) (h2 : DOk P E nt c2 d2) : DOk P E nt (.seq c1 c2) (seqD d1 d2) := by
  intro s B X a w Q ht H hz hd hp
  refine wp_seq (h1 s B X a w _ ht H hz hd ?_)
  simp only [seqD] at hp
  generalize d1 s = r at hp
  cases r with
  | bad => exact hp
  | brk id s' => exact hp
  | ret s' => exact hp
  | nrm s' => exact fun B' a' w' e1 e2 e3 e4 e5 e6 e7 => h2 s' B' X a' w' Q e3 e4 e6 e7 (Post.move hp e1 e2 e5)
theorem cond_ok {nt : Nat} {c : Operand} {c1 c2 : Code} {d1 d2 : D} (h1 : DOk P E nt c1 d1) (h2 : DOk P E nt c2 d2) : DOk P E nt (.cond c c1 c2) (condD c d1 d2) := by
  intro s B X a w Q ht H hz hd hp
  simp only [condD] at hp
  split at hp
  · rename_i hc
    exact wp_cond_true (ht.evC hc) (h1 s B X a w Q ht H hz hd hp)
  · rename_i hc
    exact wp_cond_false (ht.evC hc) (h2 s B X a w Q ht H hz hd hp)
  · exact hp.elim
theorem block_ok {nt : Nat} {id : Nat} {c : Code} {d : D} (h : DOk P E nt c d) : DOk P E nt (.block id c) (blockD id d) := by
  intro s B X a w Q ht H hz hd hp
  refine wp_block (h s B X a w _ ht H hz hd ?_)
  simp only [blockD] at hp
  generalize d s = r at hp
  cases r with
  | bad => exact hp
  | nrm s' => exact hp
  | ret s' => exact hp
  | brk i s' =>
    dsimp only at hp
    split at hp
    · rename_i hi
      have hi := Nat.eq_of_beq_eq_true hi
      subst hi
      exact After.move hp (Ext.refl _ _) (Nat.le_refl _) (FR.refl _ _) fun a w h => by simpa [Exit.inBlock] using h
    · rename_i hi
      have hi : i ≠ id := fun e => by subst e; simp at hi
      exact After.move hp (Ext.refl _ _) (Nat.le_refl _) (FR.refl _ _) fun a w h => by simpa [Exit.inBlock, hi] using h
theorem rounds_ok {nt : Nat} {c : Code} {d : D} (h : DOk P E nt c d) : ∀ (k : Nat) (s : St) (B : Be) (X : Nat → Prop) (a : Act) (w : World) (Q : Exit → Act → World → Prop), TR E B s.n s.t a.tmps → HR E B X s.n s.h w → a.tmps.size = nt → a.defers = [] → Post E X nt B s.n w Q (loopD d k s) → Code.rounds P c Q k a w
  | 0, s, B, X, a, w, Q, ht, H, hz, hd, hp => hp.elim
  | k + 1, s, B, X, a, w, Q, ht, H, hz, hd, hp => by
    rw [rounds_succ]
    refine h s B X a w _ ht H hz hd ?_
    simp only [loopD] at hp
    generalize d s = r at hp
    cases r with
    | bad => exact hp
    | brk id s' => exact hp
    | ret s' => exact hp
    | nrm s' => exact fun B' a' w' e1 e2 e3 e4 e5 e6 e7 => rounds_ok h k s' B' X a' w' Q e3 e4 e6 e7 (Post.move hp e1 e2 e5)
theorem loop_ok {nt : Nat} {c : Code} {d : D} (h : DOk P E nt c d) (k : Nat) : DOk P E nt (.loop c) (loopD d k) :=
  fun s B X a w Q ht H hz hd hp => wp_loop_rounds k (rounds_ok h k s B X a w Q ht H hz hd hp)
theorem bad_ok {nt : Nat} (c : Code) : DOk P E nt c badD := fun s B X a w Q ht H hz hd hp => hp.elim
theorem region_ok (hF : FxOk F E) {call : CallF} (hcall : ∀ f, CallOk P E f (call f)) {nt id : Nat} {ops : Array Oper} {cs : List OC} (hc : compOCs P F call nt ops ops.toList = some cs) : DOk P E nt (.region id ops false) (fun s => ofOpt (runOCs cs s)) := by
  intro s B X a w Q ht H hz hd hp
  dsimp only at hp
  cases hr : runOCs cs s with
  | none => rw [hr] at hp; exact hp.elim
  | some s' => rw [hr] at hp; exact wp_region_list (runOCs_ok hF hcall hc hr ht H hz hd hp)
/-- what is asked of the drawn regions -/
def DrawOk (P : Program) : Prop := ∀ (E : Env) (nt id : Nat) (ops : Array Oper) (cs : List OC) (ds : List DE), LR (OCOk P E nt ops) ops.toList cs → drawT ops ds = true → DOk P E nt (.region id ops true) (fun s => ofOpt (runDraw cs ds 0 s [] []))
theorem compOCs_LR (hF : FxOk F E) {call : CallF} (hcall : ∀ f, CallOk P E f (call f)) {nt : Nat} {ops : Array Oper} : ∀ {l : List Oper} {cs : List OC}, compOCs P F call nt ops l = some cs → LR (OCOk P E nt ops) l cs
  | [], cs, hc => by
    simp only [compOCs, Option.some.injEq] at hc; subst hc
    trivial
  | o :: l, cs, hc => by
    simp only [compOCs] at hc
    split at hc
    · rename_i c hc1
      split at hc
      · rename_i q hq1
        simp only [Option.some.injEq] at hc; subst hc
        exact ⟨compOC_ok hF hcall hc1, compOCs_LR hF hcall hq1⟩
      · cases hc
    · cases hc
theorem compC_ok (hD : DrawOk P) (hF : FxOk F E) {call : CallF} (hcall : ∀ f, CallOk P E f (call f)) {tab : Nat → Option (List DE)} {nt : Nat} : ∀ (c : Code), codeT tab c = true → DOk P E nt c (compC P F call tab nt c)
  | .skip, _ => fun s B X a w Q ht H hz hd hp => wp_skip (hp B a w (Ext.refl _ _) (Nat.le_refl _) ht H (FR.refl _ _) hz hd)
  | .ret, _ => fun s B X a w Q ht H hz hd hp => wp_ret (hp B a w (Ext.refl _ _) (Nat.le_refl _) ht H (FR.refl _ _) hz hd)
  | .exit id, _ => fun s B X a w Q ht H hz hd hp => wp_exit (hp B a w (Ext.refl _ _) (Nat.le_refl _) ht H (FR.refl _ _) hz hd)
  | .seq c1 c2, h => by
    simp only [codeT, Bool.and_eq_true] at h
    exact seq_ok (compC_ok hD hF hcall c1 h.1) (compC_ok hD hF hcall c2 h.2)
  | .cond c c1 c2, h => by
    simp only [codeT, Bool.and_eq_true] at h
    exact cond_ok (compC_ok hD hF hcall c1 h.1) (compC_ok hD hF hcall c2 h.2)
  | .block id c, h => block_ok (compC_ok hD hF hcall c h)
  | .loop c, h => loop_ok (compC_ok hD hF hcall c h) _
  | .region id ops draw, h => by
    simp only [compC]
    split
    · rename_i cs hc
      cases draw with
      | false => exact region_ok hF hcall hc
      | true =>
        dsimp only
        split
        · rename_i ds hds
          simp only [codeT, hds] at h
          exact hD E nt id ops cs ds (compOCs_LR hF hcall hc) h
        · exact bad_ok _
    · exact bad_ok _
  | .rangeFunc .., _ => bad_ok _
  | .scope .., _ => bad_ok _
  | .label _, _ => bad_ok _
  | .goto _, _ => bad_ok _
  | .refuse _, _ => bad_ok _
end Go.Cx
/- Functions: what the executor answers is what the function does. -/
namespace Go.Cx
variable {P : Program} {E : Env} {F : Fx}

/-- one result -/
def oneRes (tmps : Array Value) : ResultVar → Sem Value
  | .tmp t => pure (tmps.getD t undef)
  | .cell a t => do loadVar t (← asAddr (tmps.getD a undef))
theorem results_eq (fn : Func) (tmps : Array Value) : results fn tmps = (do
    let vs ← fn.results.mapM (oneRes tmps)
    pure (if h : vs.size = 1 then vs[0] else .tuple vs)) := by
  unfold results
  congr 1
theorem resV_ok {B : Be} {X : Nat → Prop} {n : Nat} {T : Ts} {h : Hp} {w : World} {tmps : Array Value} (ht : TR E B n T tmps) (H : HR E B X n h w) {r : ResultVar} {x : SA} (hr : resV P T h r = some x) : ∃ v, (oneRes tmps r).run P w = .ok v w ∧ VA E B n x v := by
  cases r with
  | tmp t =>
    simp only [resV] at hr
    split at hr
    · rename_i v hv
      simp only [Option.some.injEq] at hr; subst hr
      obtain ⟨u, e1, e2⟩ := ht t _ hv
      exact ⟨u, by simp [oneRes, e1], e2⟩
    · cases hr
  | cell a t =>
    simp only [resV] at hr
    split at hr
    · rename_i b o hv
      obtain ⟨u, e1, e2⟩ := ht a _ hv
      split at hr
      · rename_i g k hg hk
        split at hr
        · obtain ⟨v, f1, f2⟩ := H.load hg hk hr
          refine ⟨v, ?_, f2⟩
          simp [oneRes, e1, e2.2, asAddr, f1]
        · cases hr
      · cases hr
    · cases hr
theorem resVs_ok {B : Be} {X : Nat → Prop} {n : Nat} {T : Ts} {h : Hp} {w : World} {tmps : Array Value} (ht : TR E B n T tmps) (H : HR E B X n h w) : ∀ {rs : List ResultVar} {l : List SA}, resVs P T h rs = some l → ∃ vs, (rs.mapM (oneRes tmps)).run P w = .ok vs w ∧ LR (VA E B n) l vs
  | [], l, hr => by
    simp only [resVs, Option.some.injEq] at hr; subst hr
    exact ⟨[], by simp, trivial⟩
  | r :: rs, l, hr => by
    simp only [resVs] at hr
    split at hr
    · rename_i v hv
      split at hr
      · rename_i q hq
        simp only [Option.some.injEq] at hr; subst hr
        obtain ⟨u, e1, e2⟩ := resV_ok ht H hv
        obtain ⟨us, f1, f2⟩ := resVs_ok ht H hq
        exact ⟨u :: us, by simp [List.mapM_cons, e1, f1], e2, f2⟩
      · cases hr
    · cases hr
theorem resS_ok {B : Be} {X : Nat → Prop} {s : St} {w : World} {fn : Func} {tmps : Array Value} (ht : TR E B s.n s.t tmps) (H : HR E B X s.n s.h w) {v : SV} {h' : Hp} {n' : Nat} (hr : resS P fn.results.toList s = some (v, h', n')) :
    h' = s.h ∧ n' = s.n ∧ ∃ u, (results fn tmps).run P w = .ok u w ∧ VV E B s.n v u := by
  obtain ⟨T, h, n⟩ := s
  simp only [resS] at hr
  have key : ∀ l, resVs P T h fn.results.toList = some l → ∃ vs : List Value, (results fn tmps).run P w = .ok (if h : vs.toArray.size = 1 then vs.toArray[0] else .tuple vs.toArray) w ∧ LR (VA E B n) l vs := fun l hl => by
    obtain ⟨vs, e1, e2⟩ := resVs_ok ht H hl
    refine ⟨vs, ?_, e2⟩
    rw [results_eq, Array.mapM_eq_mapM_toList]
    simp [e1]
  split at hr
  · rename_i x hl
    simp only [Option.some.injEq, Prod.mk.injEq] at hr
    obtain ⟨rfl, rfl, rfl⟩ := hr
    obtain ⟨vs, e1, e2⟩ := key _ hl
    obtain ⟨u, rfl, e3⟩ := e2.one
    exact ⟨rfl, rfl, u, by simpa using e1, e3⟩
  · rename_i l hne hl
    simp only [Option.some.injEq, Prod.mk.injEq] at hr
    obtain ⟨rfl, rfl, rfl⟩ := hr
    obtain ⟨vs, e1, e2⟩ := key _ hl
    have hsz : ¬ vs.toArray.size = 1 := fun e => by
      have := e2.length
      simp only [List.size_toArray] at e
      match l, this, hne with
      | [x], _, hne => exact hne x rfl
      | [], h, _ => simp at h; omega
      | _ :: _ :: _, h, _ => simp at h; omega
    rw [dif_neg hsz] at e1
    exact ⟨rfl, rfl, .tuple vs.toArray, e1, vs.toArray, rfl, e2⟩
  · cases hr
theorem setArgs_TR {B : Be} {n : Nat} {vs : Array Value} : ∀ (l : List SV) (i : Nat) (T : Ts), i + l.length < lim → LR (VV E B n) l (vs.toList.drop i) → TR E B n T vs → TR E B n (setArgs l i T) vs
  | [], i, T, _, _, ht => ht
  | x :: l, i, T, hl, hr, ht => by
    obtain ⟨v, r, e1, e2, e3⟩ := hr.cons
    have hd : vs.toList.drop (i + 1) = r := by
      have := congrArg (List.drop 1) e1
      simpa [List.drop_drop] using this
    have hv : vs[i]? = some v := by
      have := congrArg (fun l => l[0]?) e1
      simpa using this
    refine setArgs_TR l (i + 1) _ (by simp at hl; omega) (hd ▸ e3) fun t y hy => ?_
    rw [Tr.get_upd (by simp at hl; omega)] at hy
    split at hy
    · subst_vars
      simp only [Option.some.injEq] at hy; subst hy
      exact ⟨v, hv, e2⟩
    · exact ht t y hy
theorem run_callable {f : Nat} (h : callable P f = true) (vs : Array Value) (w : World) : (callFunc f vs).run P w = .ok (.enter f vs) w := by
  unfold callable at h
  split at h
  · rename_i fn hf
    simp only [Bool.and_eq_true, Bool.not_eq_true', beq_eq_false_iff_ne, ne_eq] at h
    have h1 : fn.body.isNone = false := by
      cases hb : fn.body with
      | none => rw [hb] at h; simp at h
      | some _ => rfl
    unfold callFunc
    rw [Sem.run_bind]
    show Result.andThen (.ok P w) _ = _
    have h2 : (fn.name == "runtime.NumGoroutine") = false := by simpa using h.2
    simp only [Result.andThen_ok, hf, h2, h1, Bool.false_eq_true, if_false]
    rfl
  · cases h
theorem runFn_ok {f : Nat} {fn : Func} {c : Code} (hf : P.funcs[f]? = some fn) (hb : fn.body = some c) (hca : callable P f = true) {d : D} (hd : DOk P E fn.ntmps c d) : CallOk P E f (runFn P fn d) := by
  intro args h n v h' n' hr B X w vs H hl
  refine ⟨run_callable hca vs w, ?_⟩
  unfold runFn at hr
  split at hr
  · rename_i hlen
    simp only [Bool.and_eq_true, Nat.blt_eq] at hlen
    have hle : args.length ≤ fn.ntmps := Nat.le_of_ble_eq_true hlen.1
    have hsz : vs.size ≤ fn.ntmps := by rw [← Array.length_toList, ← hl.length]; exact hle
    refine calls_of_wp hf hb (hd ⟨setArgs args 0 .e, h, n⟩ B X _ w _ ?_ H ?_ rfl ?_)
    · have := setArgs_TR (vs := vs) args 0 .e (by omega) (by simpa using hl) (fun t x hx => by simp [Tr.get] at hx)
      intro t x hx
      obtain ⟨u, e1, e2⟩ := this t x hx
      refine ⟨u, ?_, e2⟩
      dsimp only
      rw [Array.getElem?_append_left]
      · exact e1
      · rcases Nat.lt_or_ge t vs.size with h' | h'
        · exact h'
        · rw [Array.getElem?_eq_none h'] at e1; cases e1
    · simp; omega
    · generalize d ⟨setArgs args 0 .e, h, n⟩ = r at hr
      cases r with
      | bad => cases hr
      | brk id s => cases hr
      | nrm s =>
        intro B' a' w' e1 e2 e3 e4 e5 e6 e7
        obtain ⟨rfl, rfl, u, g1, g2⟩ := resS_ok (fn := fn) e3 e4 hr
        exact ⟨e7, u, g1, u, B', rfl, e1, e2, e4, e5, g2⟩
      | ret s =>
        intro B' a' w' e1 e2 e3 e4 e5 e6 e7
        obtain ⟨rfl, rfl, u, g1, g2⟩ := resS_ok (fn := fn) e3 e4 hr
        exact ⟨e7, u, g1, u, B', rfl, e1, e2, e4, e5, g2⟩
  · cases hr
theorem none_ok (f : Nat) : CallOk P E f (fun _ _ _ => none) := fun _ _ _ _ _ _ h => by cases h
/-- all calls -/
theorem callD_ok (hD : DrawOk P) (hF : FxOk F E) {tab : Nat → Nat → Option (List DE)} (htab : ∀ f fn c, P.funcs[f]? = some fn → fn.body = some c → codeT (tab f) c = true) {ext : Nat → Option (List SV → Hp → Nat → Option (SV × Hp × Nat))} (hext : ∀ f e, ext f = some e → CallOk P E f e) :
    ∀ (k f : Nat), CallOk P E f (callD P F tab ext k f)
  | 0, f => none_ok f
  | k + 1, f => by
    unfold callD
    split
    · exact none_ok f
    · rename_i hca
      split
      · rename_i e he
        exact hext f e he
      · split
        · rename_i fn hf
          split
          · rename_i c hc
            exact runFn_ok hf hc hca (compC_ok hD hF (callD_ok hD hF htab hext k) c (htab f fn c hf hc))
          · exact none_ok f
        · exact none_ok f
end Go.Cx
/- The drawn regions. First part: equality of values, the waiting, the run in the text's order, the table. -/
namespace Go.Cx
variable {P : Program} {E : Env} {F : Fx}

/-! ### equality of values -/
theorem natEq_ok {a b : Int} (h : natEq a b = true) : a = b := by
  cases a <;> cases b <;> simp_all [natEq]
theorem scEq_ok : ∀ {a b : SC}, scEq a b = true → a = b := by
  intro a b h
  cases a <;> cases b <;> simp only [scEq, Bool.and_eq_true, decide_eq_true_eq, Nat.beq_eq, beq_iff_eq, lEq_ok, Bool.false_eq_true] at h <;> try (simp_all; done)
  · obtain ⟨⟨rfl, rfl⟩, h⟩ := h
    rw [natEq_ok h]
  · obtain ⟨⟨⟨rfl, rfl⟩, rfl⟩, h⟩ := h
    rw [natEq_ok h]
theorem scLEq_ok : ∀ {a b : List SC}, scLEq a b = true → a = b
  | [], [], _ => rfl
  | [], _ :: _, h => by simp [scLEq] at h
  | _ :: _, [], h => by simp [scLEq] at h
  | x :: a, y :: b, h => by
    simp only [scLEq, Bool.and_eq_true] at h
    rw [scEq_ok h.1, scLEq_ok h.2]
theorem saEq_ok : ∀ {a b : SA}, saEq a b = true → a = b
  | .s a, .s b, h => by
    have h : scEq a b = true := h
    rw [scEq_ok h]
  | .g a, .g b, h => by
    have h : scLEq a b = true := h
    rw [scLEq_ok h]
  | .s _, .g _, h => by simp [saEq] at h
  | .g _, .s _, h => by simp [saEq] at h
theorem saLEq_ok : ∀ {a b : List SA}, saLEq a b = true → a = b
  | [], [], _ => rfl
  | [], _ :: _, h => by simp [saLEq] at h
  | _ :: _, [], h => by simp [saLEq] at h
  | x :: a, y :: b, h => by
    simp only [saLEq, Bool.and_eq_true] at h
    rw [saEq_ok h.1, saLEq_ok h.2]
theorem svEq_ok : ∀ {a b : SV}, svEq a b = true → a = b
  | .a a, .a b, h => by
    have h : saEq a b = true := h
    rw [saEq_ok h]
  | .t a, .t b, h => by
    have h : saLEq a b = true := h
    rw [saLEq_ok h]
  | .a _, .t _, h => by simp [svEq] at h
  | .t _, .a _, h => by simp [svEq] at h
theorem svIs_ok {x : Option SV} {v : SV} (h : svIs x v = true) : x = some v := by
  cases x with
  | none => simp [svIs] at h
  | some a =>
    have h : svEq a v = true := h
    rw [svEq_ok h]
theorem sameAt_ok {f : Hp → Option SV} {v : SV} {un : List Nat} : ∀ {snaps : List (Nat × Hp × Hp)}, sameAt f v un snaps = true → ∀ k h0 h1, (k, h0, h1) ∈ snaps → k ∈ un → f h0 = some v ∧ f h1 = some v
  | [], _, _, _, _, h, _ => by cases h
  | (k', a, b) :: r, hs, k, h0, h1, hm, hk => by
    simp only [sameAt, Bool.and_eq_true] at hs
    rcases List.mem_cons.1 hm with e | hm
    · simp only [Prod.mk.injEq] at e
      obtain ⟨rfl, rfl, rfl⟩ := e
      have hc : un.contains k = true := by simpa using hk
      have := hs.1
      rw [hc] at this
      simp only [Bool.and_eq_true] at this
      exact ⟨svIs_ok this.1, svIs_ok this.2⟩
    · exact sameAt_ok hs.2 k h0 h1 hm hk
theorem sameAll_ok {snaps : List (Nat × Hp × Hp)} : ∀ {rds : List Rd}, sameAll snaps rds = true → ∀ r ∈ rds, ∀ k h0 h1, (k, h0, h1) ∈ snaps → k ∈ r.un → r.f h0 = some r.v ∧ r.f h1 = some r.v
  | [], _, _, h => by cases h
  | r :: l, hs, q, hq => by
    simp only [sameAll, Bool.and_eq_true] at hs
    rcases List.mem_cons.1 hq with rfl | hq
    · exact sameAt_ok hs.1
    · exact sameAll_ok hs.2 q hq

/-! ### the waiting -/
theorem bit_eq (m i : Nat) : bit m i = m.testBit i := by
  rw [Nat.testBit_eq_decide_div_mod_eq, bit]
  cases h : Nat.beq (m / 2 ^ i % 2) 1
  · have := Nat.ne_of_beq_eq_false h
    simp [this]
  · have := Nat.eq_of_beq_eq_true h
    simp [this]
/-- who waits for whom -/
def Waits (ops : Array Oper) (i j : Nat) : Prop := bit ((predsOf ops.toList []).getD i 0) j = true
/-- closed under what is waited for -/
def Closed (ops : Array Oper) (L : Nat → Prop) : Prop := ∀ (j : Nat) (o : Oper), ops[j]? = some o → L j → ∀ e ∈ o.after, Region.binds .any e = true → L e.on
theorem fold_bits (acc : List Nat) (i : Nat) : ∀ (l : List Edge) (s : Nat), (l.foldl (fun s e => match Region.binds .any e with | true => s ||| 2 ^ e.on ||| acc.getD e.on 0 | false => s) s).testBit i = true →
    s.testBit i = true ∨ ∃ e ∈ l, Region.binds .any e = true ∧ (e.on = i ∨ (acc.getD e.on 0).testBit i = true)
  | [], s, h => .inl h
  | e :: l, s, h => by
    simp only [List.foldl_cons] at h
    rcases fold_bits acc i l _ h with h | ⟨e', h1, h2⟩
    · split at h
      · rename_i hb
        simp only [Nat.testBit_or, Bool.or_eq_true] at h
        rcases h with (h | h) | h
        · exact .inl h
        · exact .inr ⟨e, by simp, hb, .inl (by rw [Nat.testBit_two_pow] at h; simpa using h)⟩
        · exact .inr ⟨e, by simp, hb, .inr h⟩
      · exact .inl h
    · exact .inr ⟨e', by simp [h1], h2⟩
theorem predsOf_good {ops : Array Oper} {L : Nat → Prop} (hL : Closed ops L) : ∀ (l : List Oper) (acc : List Nat), (∀ (j : Nat) (o : Oper), l[j]? = some o → ops[acc.length + j]? = some o) →
    (∀ (j x : Nat) (o : Oper), acc[j]? = some x → ops[j]? = some o → (∀ e ∈ o.after, Region.binds .any e = true → L e.on) → ∀ i, bit x i = true → L i) →
    (∀ (j x : Nat), acc[j]? = some x → ∃ o, ops[j]? = some o) →
    ∀ (j x : Nat) (o : Oper), (predsOf l acc)[j]? = some x → ops[j]? = some o → (∀ e ∈ o.after, Region.binds .any e = true → L e.on) → ∀ i, bit x i = true → L i
  | [], acc, _, hacc, _ => hacc
  | o :: l, acc, hl, hacc, hex => by
    unfold predsOf
    refine predsOf_good hL l _ (fun j q hq => ?_) (fun j x q hx hq hp i hi => ?_) (fun j x hx => ?_)
    · have := hl (j + 1) q (by simpa using hq)
      simpa [Nat.add_assoc, Nat.add_comm 1 j] using this
    · rw [List.getElem?_append] at hx
      split at hx
      · exact hacc j x q hx hq hp i hi
      · rename_i hge
        have hj : j = acc.length := by
          rcases Nat.lt_or_ge (j - acc.length) 1 with h | h
          · omega
          · rw [List.getElem?_eq_none (by simpa using h)] at hx; cases hx
        subst hj
        have ho := hl 0 o (by simp)
        simp only [Nat.add_zero] at ho
        rw [ho] at hq
        simp only [Option.some.injEq] at hq
        subst hq
        simp only [Nat.sub_self, List.getElem?_cons_zero, Option.some.injEq] at hx
        subst hx
        rw [bit_eq] at hi
        rcases fold_bits acc i _ _ hi with h | ⟨e, he, hb, h⟩
        · simp at h
        · have he : e ∈ o.after := by simpa using he
          have hLe := hp e he hb
          rcases h with h | h
          · rw [← h]; exact hLe
          · cases hy : acc[e.on]? with
            | none => simp [List.getD_eq_getElem?_getD, hy] at h
            | some y =>
              simp only [List.getD_eq_getElem?_getD, hy, Option.getD_some] at h
              obtain ⟨oe, hoe⟩ := hex _ _ hy
              exact hacc _ y oe hy hoe (hL _ _ hoe hLe) i (by rw [bit_eq]; exact h)
    · rw [List.getElem?_append] at hx
      split at hx
      · exact hex j x hx
      · rename_i hge
        have hj : j = acc.length := by
          rcases Nat.lt_or_ge (j - acc.length) 1 with h | h
          · omega
          · rw [List.getElem?_eq_none (by simpa using h)] at hx; cases hx
        subst hj
        exact ⟨o, by simpa using hl 0 o (by simp)⟩
theorem Waits.of {ops : Array Oper} {L : Nat → Prop} (hL : Closed ops L) {i j : Nat} {o : Oper} (ho : ops[i]? = some o) (hp : ∀ e ∈ o.after, Region.binds .any e = true → L e.on) (h : Waits ops i j) : L j := by
  unfold Waits at h
  cases hx : (predsOf ops.toList [])[i]? with
  | none => simp [List.getD_eq_getElem?_getD, hx, bit] at h
  | some x =>
    simp only [List.getD_eq_getElem?_getD, hx, Option.getD_some] at h
    exact predsOf_good hL ops.toList [] (fun j o h => by simpa using h) (fun j x o h => by simp at h) (fun j x h => by simp at h) i x o hx ho hp j h
theorem predsOf_length : ∀ (l : List Oper) (acc : List Nat), (predsOf l acc).length = acc.length + l.length
  | [], acc => rfl
  | o :: l, acc => by rw [predsOf, predsOf_length]; simp; omega

/-! ### the run in the text's order -/
def StepF (c : OC) (d : DE) (snaps : List (Nat × Hp × Hp)) (s : St) (v : SV) (s' : St) (k : Nat) : Prop :=
  s'.t = putS c.dst v s.t ∧
  ((k = 0 ∧ s'.h = s.h ∧ s'.n = s.n ∧ ((wants c.guard (only d.looks s.t .e) = some false ∧ v = sc .undef) ∨
      (wants c.guard (only d.looks s.t .e) = some true ∧ ((∃ f, c.k = .pure f ∧ f (only d.looks s.t .e) = some v) ∨
        ∃ f, c.k = .read f ∧ d.kd = 0 ∧ f (only d.looks s.t .e) s.h = some v ∧ ∀ k h0 h1, (k, h0, h1) ∈ snaps → k ∈ d.un → f (only d.looks s.t .e) h0 = some v ∧ f (only d.looks s.t .e) h1 = some v)))) ∨
   (k = 1 ∧ 0 < d.kd ∧ wants c.guard (only d.looks s.t .e) = some true ∧ ∃ f so, c.k = .make f ∧ s.n < lim ∧ f (only d.looks s.t .e) s.n = some (v, so) ∧ s'.h = s.h.upd 24 s.n (some so) ∧ s'.n = s.n + 1) ∨
   (k = 2 ∧ d.kd = 2 ∧ wants c.guard (only d.looks s.t .e) = some true ∧ s.n ≤ s'.n ∧ ∃ f, c.k = .chg f ∧ f (only d.looks s.t .e) s.h s.n = some (v, s'.h, s'.n)))
def RunF (cs : List OC) (ds : List DE) (i : Nat) (s : St) (snaps0 : List (Nat × Hp × Hp)) (rds0 : List Rd) (sf : St) : Prop :=
  cs.length = ds.length ∧ ∃ (st : Nat → St) (v : Nat → SV) (kd : Nat → Nat) (snaps : List (Nat × Hp × Hp)), st i = s ∧ st (i + cs.length) = sf ∧ (∀ x ∈ snaps0, x ∈ snaps) ∧
    (∀ r ∈ rds0, ∀ k h0 h1, (k, h0, h1) ∈ snaps → k ∈ r.un → r.f h0 = some r.v ∧ r.f h1 = some r.v) ∧
    ∀ j c d, cs[j]? = some c → ds[j]? = some d → StepF c d snaps (st (i + j)) (v (i + j)) (st (i + j + 1)) (kd (i + j)) ∧ (kd (i + j) ≠ 0 → (i + j, (st (i + j)).h, (st (i + j + 1)).h) ∈ snaps)
theorem RunF.cons {c : OC} {d : DE} {cs : List OC} {ds : List DE} {i : Nat} {s s1 sf : St} {snaps0 snaps1 : List (Nat × Hp × Hp)} {rds0 rds1 : List Rd} (h : RunF cs ds (i + 1) s1 snaps1 rds1 sf) (v0 : SV) (k0 : Nat)
    (h1 : ∀ x ∈ snaps0, x ∈ snaps1) (h2 : ∀ r ∈ rds0, r ∈ rds1) (h3 : k0 ≠ 0 → (i, s.h, s1.h) ∈ snaps1)
    (h4 : ∀ snaps : List (Nat × Hp × Hp), (∀ r ∈ rds1, ∀ k h0 h1, (k, h0, h1) ∈ snaps → k ∈ r.un → r.f h0 = some r.v ∧ r.f h1 = some r.v) → StepF c d snaps s v0 s1 k0) :
    RunF (c :: cs) (d :: ds) i s snaps0 rds0 sf := by
  obtain ⟨hl, st, v, kd, snaps, g1, g2, g3, g4, g5⟩ := h
  refine ⟨by simp [hl], fun k => if k = i then s else st k, fun k => if k = i then v0 else v k, fun k => if k = i then k0 else kd k, snaps, by simp, ?_, fun x hx => g3 x (h1 x hx), fun r hr => g4 r (h2 r hr), fun j c' d' hc hd => ?_⟩
  · have : i + (c :: cs).length ≠ i := by simp
    simp only [this, if_false]
    rw [← g2]; congr 1; simp; omega
  · cases j with
    | zero =>
      simp only [List.getElem?_cons_zero, Option.some.injEq] at hc hd
      subst hc; subst hd
      have : i + 0 + 1 ≠ i := by omega
      simp only [Nat.add_zero, if_true, Nat.add_eq_left, Nat.succ_ne_self, if_false, Nat.one_ne_zero]
      rw [g1]
      exact ⟨h4 snaps g4, fun hk => g3 _ (h3 hk)⟩
    | succ j =>
      have e1 : i + (j + 1) ≠ i := by omega
      have e2 : i + (j + 1) + 1 ≠ i := by omega
      have e3 : i + (j + 1) = i + 1 + j := by omega
      simp only [e1, e2, if_false]
      rw [e3]
      exact g5 j c' d' (by simpa using hc) (by simpa using hd)
theorem runDraw_run : ∀ (cs : List OC) (ds : List DE) (i : Nat) (s : St) (snaps : List (Nat × Hp × Hp)) (rds : List Rd) (sf : St), runDraw cs ds i s snaps rds = some sf → RunF cs ds i s snaps rds sf
  | [], [], i, s, snaps, rds, sf, h => by
    simp only [runDraw] at h
    split at h
    · rename_i hs
      simp only [Option.some.injEq] at h; subst h
      exact ⟨rfl, fun _ => s, fun _ => sc .undef, fun _ => 0, snaps, rfl, rfl, fun _ h => h, sameAll_ok hs, fun j c d h => by simp at h⟩
    · cases h
  | [], _ :: _, i, s, snaps, rds, sf, h => by simp [runDraw] at h
  | _ :: _, [], i, s, snaps, rds, sf, h => by simp [runDraw] at h
  | c :: cs, d :: ds, i, s, snaps, rds, sf, h => by
    simp only [runDraw] at h
    split at h
    · rename_i hw
      exact (runDraw_run cs ds _ _ _ _ _ h).cons (sc .undef) 0 (fun _ h => h) (fun _ h => h) (fun h => (h rfl).elim) fun snaps hs => ⟨rfl, .inl ⟨rfl, rfl, rfl, .inl ⟨hw, rfl⟩⟩⟩
    · cases h
    · rename_i hw
      split at h
      · rename_i f hk
        split at h
        · rename_i v hv
          exact (runDraw_run cs ds _ _ _ _ _ h).cons v 0 (fun _ h => h) (fun _ h => h) (fun h => (h rfl).elim) fun snaps hs => ⟨rfl, .inl ⟨rfl, rfl, rfl, .inr ⟨hw, .inl ⟨f, hk, hv⟩⟩⟩⟩
        · cases h
      · rename_i f hk
        split at h
        · rename_i hd0
          split at h
          · rename_i v hv
            refine (runDraw_run cs ds _ _ _ _ _ h).cons v 0 (fun _ h => h) (fun r hr => ?_) (fun h => (h rfl).elim) fun snaps hs => ⟨rfl, .inl ⟨rfl, rfl, rfl, .inr ⟨hw, .inr ⟨f, hk, hd0, hv, fun k h0 h1 hm hu => ?_⟩⟩⟩⟩
            · split
              · exact hr
              · exact List.mem_cons_of_mem _ hr
            · refine hs ⟨d.un, f (only d.looks s.t .e), v⟩ ?_ k h0 h1 hm hu
              split
              · rename_i hn; rw [hn] at hu; cases hu
              · simp
          · cases h
        · cases h
      · rename_i f hk
        split at h
        · rename_i hlt
          simp only [Bool.and_eq_true, Nat.blt_eq] at hlt
          split at h
          · rename_i v o hv
            exact (runDraw_run cs ds _ _ _ _ _ h).cons v 1 (fun _ h => List.mem_cons_of_mem _ h) (fun _ h => h) (fun _ => by simp) fun snaps hs => ⟨rfl, .inr (.inl ⟨rfl, hlt.1, hw, f, o, hk, hlt.2, hv, rfl, rfl⟩)⟩
          · cases h
        · cases h
      · rename_i f hk
        split at h
        · rename_i hkd
          split at h
          · rename_i v h' n' hv
            split at h
            · rename_i hle
              exact (runDraw_run cs ds _ _ _ _ _ h).cons v 2 (fun _ h => List.mem_cons_of_mem _ h) (fun _ h => h) (fun _ => by simp) fun snaps hs => ⟨rfl, .inr (.inr ⟨rfl, Nat.eq_of_beq_eq_true hkd, hw, Nat.le_of_ble_eq_true hle, f, hk, hv⟩)⟩
            · cases h
          · cases h
        · cases h
end Go.Cx
/- The drawn regions. Second part: the table and the run, put together. -/
namespace Go.Cx
variable {P : Program} {E : Env} {F : Fx}

def dstOf (ops : Array Oper) (j : Nat) : Option Nat := (ops[j]?).bind (·.dst)
/-- what an operation does in the text's order -/
def Kind (P : Program) (st : Nat → St) (v : Nat → SV) (kd : Nat → Nat) (m : Nat) (W : Nat → Nat → Prop) (i : Nat) (c : OC) (T : Ts) : Prop :=
  (kd i = 0 ∧ (st (i + 1)).h = (st i).h ∧ (st (i + 1)).n = (st i).n ∧ ((wants c.guard T = some false ∧ v i = sc .undef) ∨
      (wants c.guard T = some true ∧ ((∃ f, c.k = .pure f ∧ f T = some (v i)) ∨
        ∃ f, c.k = .read f ∧ f T (st i).h = some (v i) ∧ ∀ e, e < m → kd e ≠ 0 → ¬ W i e → ¬ W e i → f T (st e).h = some (v i) ∧ f T (st (e + 1)).h = some (v i))))) ∨
   (kd i = 1 ∧ wants c.guard T = some true ∧ ∃ f so, c.k = .make f ∧ (st i).n < lim ∧ f T (st i).n = some (v i, so) ∧ (st (i + 1)).h = (st i).h.upd 24 (st i).n (some so) ∧ (st (i + 1)).n = (st i).n + 1) ∨
   (kd i = 2 ∧ wants c.guard T = some true ∧ (∀ e, e < i → kd e ≠ 0 → W i e) ∧ ∃ f, c.k = .chg f ∧ f T (st i).h (st i).n = some (v i, (st (i + 1)).h, (st (i + 1)).n))
structure Plan (P : Program) (E : Env) (nt : Nat) (ops : Array Oper) (st : Nat → St) (v : Nat → SV) (kd : Nat → Nat) : Prop where
  step : ∀ i, i < ops.size → ∃ o c looks, ops[i]? = some o ∧ OCOk P E nt ops o c ∧ (st (i + 1)).t = putS o.dst (v i) (st i).t ∧ Kind P st v kd ops.size (Waits ops) i c (only looks (st i).t .e) ∧
    ∀ t ∈ looks, ∀ j, dstOf ops j = some t → (i < j ∧ Waits ops j i) ∨ (j < i ∧ Waits ops i j ∧ (kd j ≠ 0 → ∀ e, e < j → kd e ≠ 0 → Waits ops i e))
  mono : ∀ i, i < ops.size → (st i).n ≤ (st (i + 1)).n
  back : ∀ (j : Nat) (o : Oper), ops[j]? = some o → ∀ e ∈ o.after, Region.binds .any e = true → e.on < j
  dist : ∀ i j t, dstOf ops i = some t → dstOf ops j = some t → i = j

/-! ### the table -/
structure TabF (ops : Array Oper) (ds : List DE) : Prop where
  len : ds.length = ops.size
  back : ∀ (j : Nat) (o : Oper), ops[j]? = some o → ∀ e ∈ o.after, Region.binds .any e = true → e.on < j
  dist : ∀ i j t, dstOf ops i = some t → dstOf ops j = some t → i = j
  un : ∀ (e j : Nat) (de dj : DE), e ≠ j → ds[e]? = some de → ds[j]? = some dj → 0 < de.kd → dj.kd = 0 → Waits ops j e ∨ Waits ops e j ∨ e ∈ dj.un
  chg : ∀ (e j : Nat) (de dj : DE), e < j → ds[e]? = some de → ds[j]? = some dj → 0 < de.kd → dj.kd = 2 → Waits ops j e
  look : ∀ (i : Nat) (di : DE) (t : Nat), ds[i]? = some di → t ∈ di.looks → ∀ j dj, ds[j]? = some dj → dstOf ops j = some t → (i < j ∧ Waits ops j i) ∨ (j < i ∧ Waits ops i j ∧ (0 < dj.kd → ∀ e de, ds[e]? = some de → e < j → 0 < de.kd → Waits ops i e))
theorem drawT_ok {ops : Array Oper} {ds : List DE} (h : drawT ops ds = true) : TabF ops ds := by
  simp only [drawT, Bool.and_eq_true] at h
  obtain ⟨⟨⟨h1, h2⟩, h3⟩, h4⟩ := h
  have hlen : ds.length = ops.size := by rw [Nat.eq_of_beq_eq_true h1]; simp
  have hz : ∀ (j : Nat) (d : DE), ds[j]? = some d → ∃ o, ops[j]? = some o ∧ ((o, (d, (predsOf ops.toList []).getD j 0)), j) ∈ (ops.toList.zip (ds.zip (predsOf ops.toList []))).zipIdx := fun j d hd => by
    have hj : j < ops.size := by
      rcases Nat.lt_or_ge j ds.length with h' | h'
      · omega
      · rw [List.getElem?_eq_none h'] at hd; cases hd
    have hp : j < (predsOf ops.toList []).length := by rw [predsOf_length]; simpa using hj
    refine ⟨ops[j], by simp [hj], ?_⟩
    rw [List.mk_mem_zipIdx_iff_getElem?, List.getElem?_zip_eq_some]
    refine ⟨by simp [hj], ?_⟩
    rw [List.getElem?_zip_eq_some]
    exact ⟨hd, by simp [List.getD_eq_getElem?_getD, hp]⟩
  have hds : ∀ j, j < ops.size → ∃ d, ds[j]? = some d := fun j hj => ⟨ds[j]'(by omega), by simp [hlen, hj]⟩
  have hdst : ∀ j t, dstOf ops j = some t → ∃ d o, ds[j]? = some d ∧ ops[j]? = some o ∧ o.dst = some t := fun j t hj => by
    unfold dstOf at hj
    cases ho : ops[j]? with
    | none => simp [ho] at hj
    | some o =>
      obtain ⟨d, hd⟩ := hds j (Array.getElem?_eq_some_iff.1 ho).1
      exact ⟨d, o, hd, rfl, by simpa [ho] using hj⟩
  refine ⟨hlen, fun j o ho e he hb => ?_, fun i j t hi hj => ?_, fun e j de dj hne he hj hk hk' => ?_, fun e j de dj hlt he hj hk hk' => ?_, fun i di t hi ht j dj hj hjt => ?_⟩
  · have := List.all_eq_true.1 h2 (o, j) (by rw [List.mk_mem_zipIdx_iff_getElem?]; simpa using ho)
    have := List.all_eq_true.1 this e (by simpa using he)
    dsimp only at this
    rw [hb] at this
    simpa using this
  · obtain ⟨di, oi, e1, e2, e3⟩ := hdst i t hi
    obtain ⟨dj, oj, f1, f2, f3⟩ := hdst j t hj
    obtain ⟨oi', g1, g2⟩ := hz i di e1
    obtain ⟨oj', k1, k2⟩ := hz j dj f1
    rw [e2] at g1; rw [f2] at k1
    simp only [Option.some.injEq] at g1 k1
    subst g1; subst k1
    have := List.all_eq_true.1 (List.all_eq_true.1 h3 _ g2) _ k2
    simp only [e3, f3, Bool.or_eq_true, Bool.and_eq_true] at this
    rcases this with h | h
    · exact Nat.eq_of_beq_eq_true h
    · simp at h
  · obtain ⟨oe, g1, g2⟩ := hz e de he
    obtain ⟨oj, k1, k2⟩ := hz j dj hj
    have := List.all_eq_true.1 (List.all_eq_true.1 h3 _ g2) _ k2
    simp only [hk', Bool.or_eq_true, Bool.and_eq_true] at this
    rcases this with h | h
    · exact absurd (Nat.eq_of_beq_eq_true h) hne
    · have hk : Nat.blt 0 de.kd = true := by simpa using hk
      rw [hk] at h
      have h := h.2
      simp only [Bool.or_eq_true] at h
      rcases h with (h | h) | h
      · exact .inl h
      · exact .inr (.inl h)
      · exact .inr (.inr (by simpa using h))
  · obtain ⟨oe, g1, g2⟩ := hz e de he
    obtain ⟨oj, k1, k2⟩ := hz j dj hj
    have := List.all_eq_true.1 (List.all_eq_true.1 h3 _ g2) _ k2
    simp only [hk', Bool.or_eq_true, Bool.and_eq_true] at this
    rcases this with h | h
    · have := Nat.eq_of_beq_eq_true h; omega
    · have hk : Nat.blt 0 de.kd = true := by simpa using hk
      rw [hk] at h
      have h := h.2
      simp only [Bool.or_eq_true] at h
      rcases h with h | h
      · have := Nat.le_of_ble_eq_true h; omega
      · exact h
  · obtain ⟨oi, g1, g2⟩ := hz i di hi
    obtain ⟨dj', oj', f1, f2, f3⟩ := hdst j t hjt
    rw [hj] at f1
    simp only [Option.some.injEq] at f1; subst f1
    obtain ⟨oj, k1, k2⟩ := hz j dj hj
    rw [f2] at k1
    simp only [Option.some.injEq] at k1; subst k1
    have := List.all_eq_true.1 (List.all_eq_true.1 (List.all_eq_true.1 h4 _ g2) t ht) _ k2
    simp only [f3] at this
    have hb : Nat.beq t t = true := by simp
    rw [hb] at this
    simp only [Bool.or_eq_true, Bool.and_eq_true, Nat.blt_eq] at this
    rcases this with this | this
    · exact .inl this
    refine .inr ⟨this.1.1, this.1.2, fun hk e de he hlt hke => ?_⟩
    have h := this.2
    split at h
    · omega
    · obtain ⟨oe, q1, q2⟩ := hz e de he
      have := List.all_eq_true.1 h _ q2
      simp only [Bool.or_eq_true] at this
      rcases this with (h | h) | h
      · have := Nat.le_of_ble_eq_true h; omega
      · have := Nat.eq_of_beq_eq_true h; omega
      · exact h
theorem plan_of {nt : Nat} {ops : Array Oper} {cs : List OC} {ds : List DE} (hl : LR (OCOk P E nt ops) ops.toList cs) (hT : drawT ops ds = true) {s sf : St} (hr : runDraw cs ds 0 s [] [] = some sf) :
    ∃ st v kd, Plan P E nt ops st v kd ∧ st 0 = s ∧ st ops.size = sf := by
  have T := drawT_ok hT
  obtain ⟨h1, st, v, kd, snaps, g1, g2, _, _, g5⟩ := runDraw_run _ _ _ _ _ _ _ hr
  have hcs : cs.length = ops.size := by rw [← hl.length]; simp
  have g5' : ∀ i, i < ops.size → ∃ o c d, ops[i]? = some o ∧ OCOk P E nt ops o c ∧ ds[i]? = some d ∧ StepF c d snaps (st i) (v i) (st (i + 1)) (kd i) ∧ (kd i ≠ 0 → (i, (st i).h, (st (i + 1)).h) ∈ snaps) := fun i hi => by
    have ho : ops.toList[i]? = some ops[i] := by simp [hi]
    obtain ⟨c, e1, e2⟩ := hl.get ho
    have hd : ds[i]? = some (ds[i]'(by rw [T.len]; exact hi)) := by simp [T.len, hi]
    have := g5 i c _ e1 hd
    rw [Nat.zero_add] at this
    exact ⟨_, c, _, by simp [hi], e2, hd, this⟩
  have hkd : ∀ i, i < ops.size → ∀ d, ds[i]? = some d → kd i ≠ 0 → 0 < d.kd := fun i hi d hd hk => by
    obtain ⟨o, c, d', e1, e2, e3, ⟨_, e4⟩, _⟩ := g5' i hi
    rw [hd] at e3
    simp only [Option.some.injEq] at e3; subst e3
    rcases e4 with ⟨h, _⟩ | ⟨_, h, _⟩ | ⟨_, h, _⟩
    · exact absurd h hk
    · exact h
    · omega
  refine ⟨st, v, kd, ⟨fun i hi => ?_, fun i hi => ?_, T.back, T.dist⟩, g1, by rw [← g2, hcs, Nat.zero_add]⟩
  · obtain ⟨o, c, d, e1, e2, e3, ⟨e4, e5⟩, e6⟩ := g5' i hi
    refine ⟨o, c, d.looks, e1, e2, by rw [e4, e2.dst], ?_, fun t ht j hj => ?_⟩
    · rcases e5 with ⟨k0, k1, k2, k3⟩ | ⟨k0, k1, k2, k3⟩ | ⟨k0, k1, k2, _, k3⟩
      · refine .inl ⟨k0, k1, k2, k3.imp id fun ⟨q1, q2⟩ => ⟨q1, q2.imp id fun ⟨f, q3, q4, q5, q6⟩ => ⟨f, q3, q5, fun e he hke hw1 hw2 => ?_⟩⟩⟩
        obtain ⟨oe, ce, de, r1, r2, r3, r4, r5⟩ := g5' e he
        have hne : e ≠ i := fun h => by subst h; exact hke k0
        rcases T.un e i de d hne r3 e3 (hkd e he de r3 hke) q4 with h | h | h
        · exact absurd h hw1
        · exact absurd h hw2
        · exact q6 e _ _ (r5 hke) h
      · exact .inr (.inl ⟨k0, k2, k3⟩)
      · refine .inr (.inr ⟨k0, k2, fun e he hke => ?_, k3⟩)
        have hem : e < ops.size := by omega
        obtain ⟨oe, ce, de, r1, r2, r3, r4, r5⟩ := g5' e hem
        exact T.chg e i de d he r3 e3 (hkd e hem de r3 hke) k1
    · have hjm : j < ops.size := by
        unfold dstOf at hj
        cases ho : ops[j]? with
        | none => simp [ho] at hj
        | some o => exact (Array.getElem?_eq_some_iff.1 ho).1
      obtain ⟨oj, cj, dj, r1, r2, r3, r4, r5⟩ := g5' j hjm
      rcases T.look i d t e3 ht j dj r3 hj with q | ⟨q1, q2, q3⟩
      · exact .inl q
      refine .inr ⟨q1, q2, fun hk e he hke => ?_⟩
      have hem : e < ops.size := by omega
      obtain ⟨oe, ce, de, t1, t2, t3, t4, t5⟩ := g5' e hem
      exact q3 (hkd j hjm dj r3 hk) e de t3 he (hkd e hem de t3 hke)
  · obtain ⟨o, c, d, e1, e2, e3, ⟨e4, e5⟩, e6⟩ := g5' i hi
    rcases e5 with ⟨_, _, h, _⟩ | ⟨_, _, _, f, so, _, _, _, _, h⟩ | ⟨_, _, _, h, _⟩ <;> omega
end Go.Cx
/- The drawn regions. Third part: whatever the order, the same comes out. -/
namespace Go.Cx
variable {P : Program} {E : Env} {F : Fx}

theorem HR.less {B : Be} {X X2 : Nat → Prop} {n : Nat} {h : Hp} {w : World} (H : HR E B X n h w) (hX : ∀ r, X2 r → X r) (hfx : ∀ r o, E.fx r = some o → X2 r) : HR E B X2 n h w :=
  ⟨fun b o hb => let ⟨a, c, d⟩ := H.live b o hb; ⟨a, fun k => c (hX _ k), d⟩, H.inj, H.top, fun r hr => H.out r (hX r hr), fun r o ho => ⟨hfx r o ho, (H.fix r o ho).2⟩⟩
theorem HR.aside {B : Be} {X X2 : Nat → Prop} {n : Nat} {h : Hp} {w w' : World} (H : HR E B X n h w) {o' : Obj} (hw : w'.heap = w.heap.push o') (hX : ∀ r, X2 r → X r ∨ r = w.heap.size) (hfx : ∀ r o, E.fx r = some o → X2 r) : HR E B X2 n h w' := by
  have hold : ∀ r, r < w.heap.size → w'.heap[r]? = w.heap[r]? := fun r hr => by rw [hw, Array.getElem?_push, if_neg (by omega)]
  refine ⟨fun b o hb => ?_, H.inj, H.top, fun r hr => ?_, fun r q hq => ⟨hfx r q hq, by rw [hold _ (H.out _ (H.fix r q hq).1)]; exact (H.fix r q hq).2⟩⟩
  · obtain ⟨a, c, y, d, e⟩ := H.live b o hb
    refine ⟨a, fun k => ?_, y, by rw [hold _ (H.lt_size hb), d], e⟩
    rcases hX _ k with k | k
    · exact c k
    · have := H.lt_size hb; omega
  · rw [hw, Array.size_push]
    rcases hX r hr with k | k
    · have := H.out r k; omega
    · omega
theorem HR.adopt {B : Be} {X X2 : Nat → Prop} {n : Nat} {h : Hp} {w : World} (H : HR E B X n h w) (hn : n < lim) {r c : Nat} (hr : X r) (hX : ∀ q, X2 q → X q) (hX2 : ¬ X2 r) (hfx : ∀ r o, E.fx r = some o → X2 r) {o : SO} {o' : Obj} (hw : w.heap[r]? = some o') (ho : HO E (B.add n r c) (n + 1) n o o') :
    HR E (B.add n r c) X2 (n + 1) (h.upd 24 n (some o)) w := by
  refine ⟨fun b x hx => ?_, fun b1 b2 x1 x2 h1 h2 hβ => ?_, hn, fun q hq => H.out q (hX q hq), fun q y hy => ⟨hfx q y hy, (H.fix q y hy).2⟩⟩
  · rw [Tr.get_upd hn] at hx
    split at hx
    · subst_vars
      simp only [Option.some.injEq] at hx
      subst hx
      refine ⟨by omega, ?_, o', ?_, ho⟩
      · rw [(Be.add_new B _ _ _).1]; exact hX2
      · rw [(Be.add_new B _ _ _).1]; exact hw
    · obtain ⟨e1, e2, y, e3, e4⟩ := H.live b x hx
      have hβb := (Be.add_ext B n r c b e1).1
      exact ⟨by omega, by rw [hβb]; exact fun k => e2 (hX _ k), y, by rw [hβb, e3], e4.ext (Be.add_ext B _ _ _) (by omega) e1⟩
  · rw [Tr.get_upd hn] at h1 h2
    split at h1 <;> split at h2
    · omega
    · subst_vars
      obtain ⟨e1, e2, _⟩ := H.live b2 x2 h2
      rw [(Be.add_new B _ _ _).1, (Be.add_ext B _ _ _ b2 e1).1] at hβ
      exact absurd (hβ ▸ hr) e2
    · subst_vars
      obtain ⟨e1, e2, _⟩ := H.live b1 x1 h1
      rw [(Be.add_new B _ _ _).1, (Be.add_ext B _ _ _ b1 e1).1] at hβ
      exact absurd (hβ ▸ hr) e2
    · have e1 := (H.live b1 x1 h1).1
      have e2 := (H.live b2 x2 h2).1
      rw [(Be.add_ext B _ _ _ b1 e1).1, (Be.add_ext B _ _ _ b2 e2).1] at hβ
      exact H.inj _ _ _ _ h1 h2 hβ
theorem only_get {t : Nat} {x : SV} : ∀ {l : List Nat} {T acc : Ts}, (only l T acc).get t = some x → (t ∈ l ∧ T.get t = some x) ∨ acc.get t = some x
  | [], T, acc, h => .inr h
  | s :: l, T, acc, h => by
    simp only [only] at h
    split at h
    · rename_i v hv
      rcases only_get h with ⟨h1, h2⟩ | h
      · exact .inl ⟨by simp [h1], h2⟩
      · rcases Tr.get_upd_some h with ⟨rfl, rfl⟩ | h
        · exact .inl ⟨by simp, hv⟩
        · exact .inr h
    · rcases only_get h with ⟨h1, h2⟩ | h
      · exact .inl ⟨by simp [h1], h2⟩
      · exact .inr h

/-! ### the invariant -/
variable {nt : Nat} {ops : Array Oper} {st : Nat → St} {v : Nat → SV} {kd : Nat → Nat}
/-- a block that was made ahead of its time -/
def Extra (E : Env) (ops : Array Oper) (st : Nat → St) (v : Nat → SV) (kd : Nat → Nat) (B : Be) (n : Nat) (a : Act) (w : World) (j r : Nat) : Prop :=
  kd j = 1 ∧ ∃ so o' u, (st (j + 1)).h = (st j).h.upd 24 (st j).n (some so) ∧ (st (j + 1)).n = (st j).n + 1 ∧ (st j).n < lim ∧ w.heap[r]? = some o' ∧ (∀ d, dstOf ops j = some d → a.tmps[d]? = some u) ∧
    ∀ B', Ext B B' n → ∃ c, VV E (B'.add (st j).n r c) ((st j).n + 1) (v j) u ∧ HO E (B'.add (st j).n r c) ((st j).n + 1) (st j).n so o'
def Ahead (ops : Array Oper) (kd : Nat → Nat) (L : Nat → Prop) (p j : Nat) : Prop := j < ops.size ∧ L j ∧ kd j ≠ 0 ∧ p ≤ j
structure Inv (E : Env) (nt : Nat) (ops : Array Oper) (st : Nat → St) (v : Nat → SV) (kd : Nat → Nat) (B0 : Be) (X : Nat → Prop) (w0 : World) (L : Nat → Prop) (p : Nat) (B : Be) (R : Nat → Nat) (a : Act) (w : World) : Prop where
  dc : Closed ops L
  ple : p ≤ ops.size
  vis : ∀ e, e < p → kd e ≠ 0 → L e
  ext0 : Ext B0 B (st 0).n
  n0 : (st 0).n ≤ (st p).n
  fr : FR X w0 w
  sz : a.tmps.size = nt
  df : a.defers = []
  t0 : ∀ t x, (st 0).t.get t = some x → (∀ j, j < ops.size → L j → dstOf ops j ≠ some t) → ∃ u, a.tmps[t]? = some u ∧ VV E B (st p).n x u
  tv : ∀ j d, j < ops.size → L j → dstOf ops j = some d → (kd j ≠ 0 → j < p) → ∃ u, a.tmps[d]? = some u ∧ VV E B (st p).n (v j) u
  H : HR E B (fun r => X r ∨ ∃ j, Ahead ops kd L p j ∧ R j = r) (st p).n (st p).h w
  ex : ∀ j, Ahead ops kd L p j → Extra E ops st v kd B (st p).n a w j (R j)
  rinj : ∀ i j, Ahead ops kd L p i → Ahead ops kd L p j → R i = R j → i = j
  rX : ∀ j, Ahead ops kd L p j → ¬ X (R j)
  fx : ∀ r o, E.fx r = some o → X r
def Tight (ops : Array Oper) (kd : Nat → Nat) (L : Nat → Prop) (p : Nat) : Prop := p < ops.size → kd p ≠ 0 ∧ ¬ L p
section
variable {B0 : Be} {X : Nat → Prop} {w0 : World} {L : Nat → Prop} {p : Nat} {B : Be} {R : Nat → Nat} {a : Act} {w : World}
theorem Plan.quiet (hp : Plan P E nt ops st v kd) {i : Nat} (hi : i < ops.size) (h0 : kd i = 0) : (st (i + 1)).h = (st i).h ∧ (st (i + 1)).n = (st i).n := by
  obtain ⟨o, c, looks, _, _, _, h, _⟩ := hp.step i hi
  rcases h with ⟨_, h1, h2, _⟩ | ⟨h, _⟩ | ⟨h, _⟩
  · exact ⟨h1, h2⟩
  · omega
  · omega
theorem Plan.le (hp : Plan P E nt ops st v kd) : ∀ {i j : Nat}, i ≤ j → j ≤ ops.size → (st i).n ≤ (st j).n := by
  intro i j hij
  induction j with
  | zero => intro _; have : i = 0 := by omega
            subst this; exact Nat.le_refl _
  | succ j ih =>
    intro hj
    rcases Nat.lt_or_ge i (j + 1) with h | h
    · have := ih (by omega) (by omega)
      have := hp.mono j (by omega)
      omega
    · have : i = j + 1 := by omega
      subst this; exact Nat.le_refl _
/-- the text's temporaries -/
theorem Plan.text (hp : Plan P E nt ops st v kd) {t : Nat} {x : SV} : ∀ {i : Nat}, i ≤ ops.size → (st i).t.get t = some x → (∃ j, j < i ∧ dstOf ops j = some t ∧ x = v j) ∨ ((∀ j, j < i → dstOf ops j ≠ some t) ∧ (st 0).t.get t = some x) := by
  intro i
  induction i with
  | zero => intro _ h; exact .inr ⟨fun j hj => by omega, h⟩
  | succ i ih =>
    intro hi h
    obtain ⟨o, c, looks, h1, h2, h3, _⟩ := hp.step i (by omega)
    have hd : dstOf ops i = o.dst := by simp [dstOf, h1]
    rw [h3] at h
    cases ho : o.dst with
    | none =>
      rw [ho] at h
      rcases ih (by omega) h with ⟨j, g1, g2, g3⟩ | ⟨g1, g2⟩
      · exact .inl ⟨j, by omega, g2, g3⟩
      · refine .inr ⟨fun j hj => ?_, g2⟩
        rcases Nat.lt_or_ge j i with h' | h'
        · exact g1 j h'
        · have : j = i := by omega
          subst this; rw [hd, ho]; simp
    | some d =>
      rw [ho] at h
      simp only [putS] at h
      rw [Tr.get_upd (h2.lt d ho).2] at h
      split at h
      · rename_i e
        subst e
        simp only [Option.some.injEq] at h
        exact .inl ⟨i, by omega, by rw [hd, ho], h.symm⟩
      · rename_i e
        rcases ih (by omega) h with ⟨j, g1, g2, g3⟩ | ⟨g1, g2⟩
        · exact .inl ⟨j, by omega, g2, g3⟩
        · refine .inr ⟨fun j hj => ?_, g2⟩
          rcases Nat.lt_or_ge j i with h' | h'
          · exact g1 j h'
          · have : j = i := by omega
            subst this; rw [hd, ho]; simpa using e
theorem dst_lt {j d : Nat} (h : dstOf ops j = some d) : j < ops.size := by
  unfold dstOf at h
  cases ho : ops[j]? with
  | none => simp [ho] at h
  | some o => exact (Array.getElem?_eq_some_iff.1 ho).1
/-- what an operation looks at lies ready -/
theorem Inv.looks (hp : Plan P E nt ops st v kd) (I : Inv E nt ops st v kd B0 X w0 L p B R a w) (ht : Tight ops kd L p) {i : Nat} {o : Oper} (ho : ops[i]? = some o) (hpre : ∀ e ∈ o.after, Region.binds .any e = true → L e.on) (hLi : ¬ L i) {looks : List Nat}
    (hl : ∀ t ∈ looks, ∀ j, dstOf ops j = some t → (i < j ∧ Waits ops j i) ∨ (j < i ∧ Waits ops i j ∧ (kd j ≠ 0 → ∀ e, e < j → kd e ≠ 0 → Waits ops i e))) : TR E B (st p).n (only looks (st i).t .e) a.tmps := by
  have hi : i < ops.size := (Array.getElem?_eq_some_iff.1 ho).1
  intro t x hx
  rcases only_get hx with ⟨h1, h2⟩ | h
  · rcases hp.text (by omega) h2 with ⟨j, g1, g2, rfl⟩ | ⟨g1, g2⟩
    · rcases hl t h1 j g2 with ⟨k1, _⟩ | ⟨k1, k2, k3⟩
      · omega
      have hLj : L j := Waits.of I.dc ho hpre k2
      refine I.tv j t (dst_lt g2) hLj g2 fun hk => ?_
      rcases Nat.lt_or_ge j p with h' | h'
      · exact h'
      · have hpm : p < ops.size := by omega
        obtain ⟨q1, q2⟩ := ht hpm
        rcases Nat.lt_or_ge p j with h'' | h''
        · exact absurd (Waits.of I.dc ho hpre (k3 hk p h'' q1)) q2
        · have : p = j := by omega
          subst this; exact absurd hLj q2
    · refine I.t0 t x g2 fun j hj hLj hd => ?_
      rcases hl t h1 j hd with ⟨k1, k2⟩ | ⟨k1, _⟩
      · exact hLi (Waits.of I.dc (o := ops[j]) (by simp [hj]) (I.dc j _ (by simp [hj]) hLj) k2)
      · exact g1 j k1 hd
  · simp [Tr.get] at h
/-- the blocks that were made ahead of their time take their place -/
theorem Inv.flush (hp : Plan P E nt ops st v kd) : ∀ (k : Nat) {p : Nat} {B : Be}, ops.size - p = k → Inv E nt ops st v kd B0 X w0 L p B R a w → ∃ p' B', Inv E nt ops st v kd B0 X w0 L p' B' R a w ∧ Tight ops kd L p'
  | 0, p, B, hk, I => ⟨p, B, I, fun h => by omega⟩
  | k + 1, p, B, hk, I => by
    by_cases h0 : kd p = 0
    · obtain ⟨q1, q2⟩ := hp.quiet (i := p) (by omega) h0
      have hA : ∀ j, Ahead ops kd L (p + 1) j → Ahead ops kd L p j := fun j ⟨a1, a2, a3, a4⟩ => ⟨a1, a2, a3, by omega⟩
      refine Inv.flush hp k (p := p + 1) (B := B) (by omega) ⟨I.dc, by omega, fun e he hke => ?_, I.ext0, by rw [q2]; exact I.n0, I.fr, I.sz, I.df, by rw [q2]; exact I.t0, fun j d hj hL hd hpj => ?_, ?_, fun j hj => by rw [q2]; exact I.ex j (hA j hj), fun i j hi hj => I.rinj i j (hA i hi) (hA j hj), fun j hj => I.rX j (hA j hj), I.fx⟩
      · rcases Nat.lt_or_ge e p with h | h
        · exact I.vis e h hke
        · have : e = p := by omega
          subst this; exact absurd h0 hke
      · rw [q2]
        refine I.tv j d hj hL hd fun hkj => ?_
        have := hpj hkj
        rcases Nat.lt_or_ge j p with h | h
        · exact h
        · have : j = p := by omega
          subst this; exact absurd h0 hkj
      · rw [q1, q2]
        exact I.H.less (fun r hr => hr.imp id fun ⟨j, h1, h2⟩ => ⟨j, hA j h1, h2⟩) fun r o ho => .inl (I.fx r o ho)
    · by_cases hL : L p
      · have hAp : Ahead ops kd L p p := ⟨by omega, hL, h0, Nat.le_refl _⟩
        obtain ⟨e1, so, o', u, e2, e3, e4, e5, e6, e7⟩ := I.ex p hAp
        obtain ⟨c, e8, e9⟩ := e7 B (Ext.refl _ _)
        have hA : ∀ j, Ahead ops kd L (p + 1) j → Ahead ops kd L p j := fun j ⟨a1, a2, a3, a4⟩ => ⟨a1, a2, a3, by omega⟩
        have hX : Ext B (B.add (st p).n (R p) c) (st p).n := Be.add_ext _ _ _ _
        refine Inv.flush hp k (p := p + 1) (B := B.add (st p).n (R p) c) (by omega) ⟨I.dc, by omega, fun e he hke => ?_, I.ext0.trans hX I.n0, by have := I.n0; omega, I.fr, I.sz, I.df, fun t x hx hn => ?_, fun j d hj hLj hd hpj => ?_, ?_, fun j hj => ?_, fun i j hi hj => I.rinj i j (hA i hi) (hA j hj), fun j hj => I.rX j (hA j hj), I.fx⟩
        · rcases Nat.lt_or_ge e p with h | h
          · exact I.vis e h hke
          · have : e = p := by omega
            subst this; exact hL
        · obtain ⟨y, f1, f2⟩ := I.t0 t x hx hn
          exact ⟨y, f1, f2.ext hX (by omega)⟩
        · by_cases hjp : j = p
          · subst hjp
            exact ⟨u, e6 d hd, by rw [e3]; exact e8⟩
          · obtain ⟨y, f1, f2⟩ := I.tv j d hj hLj hd fun hkj => by have := hpj hkj; omega
            exact ⟨y, f1, f2.ext hX (by omega)⟩
        · rw [e2, e3]
          refine I.H.adopt e4 (.inr ⟨p, hAp, rfl⟩) (fun r hr => hr.imp id fun ⟨j, h1, h2⟩ => ⟨j, hA j h1, h2⟩) ?_ (fun r o ho => .inl (I.fx r o ho)) e5 e9
          rintro (h | ⟨j, h1, h2⟩)
          · exact I.rX p hAp h
          · have := I.rinj j p (hA j h1) hAp h2
            have := h1.2.2.2
            omega
        · obtain ⟨f1, so', o'', u', f2, f3, f4, f5, f6, f7⟩ := I.ex j (hA j hj)
          exact ⟨f1, so', o'', u', f2, f3, f4, f5, f6, fun B' hB' => f7 B' (hX.trans hB' (by omega))⟩
      · exact ⟨p, B, I, fun _ => ⟨h0, hL⟩⟩

/-- the state of the heap that a read may see -/
theorem Inv.reads (hp : Plan P E nt ops st v kd) (I : Inv E nt ops st v kd B0 X w0 L p B R a w) (ht : Tight ops kd L p) {i : Nat} {o : Oper} (ho : ops[i]? = some o) (hpre : ∀ e ∈ o.after, Region.binds .any e = true → L e.on) (hLi : ¬ L i) (hki : kd i = 0) {g : Hp → Option SV} {x : SV}
    (h0 : g (st i).h = some x) (hun : ∀ e, e < ops.size → kd e ≠ 0 → ¬ Waits ops i e → ¬ Waits ops e i → g (st e).h = some x ∧ g (st (e + 1)).h = some x) : g (st p).h = some x := by
  have hi : i < ops.size := (Array.getElem?_eq_some_iff.1 ho).1
  have hlt : Closed ops (fun j => j < p) := fun j o ho hj e he hb => by have := hp.back j o ho e he hb; omega
  have less : ∀ a b, a < ops.size → Waits ops a b → b < a := fun a b ha hw => by
    have hc : Closed ops (fun j => j < a) := fun j o ho hj e he hb => by have := hp.back j o ho e he hb; omega
    exact Waits.of hc (o := ops[a]) (by simp [ha]) (fun e he hb => hp.back a _ (by simp [ha]) e he hb) hw
  rcases Nat.lt_or_ge p i with h | h
  · obtain ⟨q1, q2⟩ := ht (by omega)
    refine (hun p (by omega) q1 (fun hw => q2 (Waits.of I.dc ho hpre hw)) fun hw => ?_).1
    have := less p i (by omega) hw
    omega
  · have key : ∀ q, i ≤ q → q ≤ p → g (st q).h = some x := by
      intro q
      induction q with
      | zero => intro h1 _; have : i = 0 := by omega
                subst this; exact h0
      | succ q ih =>
        intro h1 h2
        rcases Nat.lt_or_ge q i with h' | h'
        · have : i = q + 1 := by omega
          subst this; exact h0
        · have hq : q < ops.size := by have := I.ple; omega
          by_cases hk : kd q = 0
          · rw [(hp.quiet hq hk).1]; exact ih h' (by omega)
          · have hLq := I.vis q (by omega) hk
            refine (hun q hq hk (fun hw => ?_) fun hw => ?_).2
            · have := less i q hi hw; omega
            · exact hLi (Waits.of I.dc (o := ops[q]) (by simp [hq]) (I.dc q _ (by simp [hq]) hLq) hw)
    exact key p h (Nat.le_refl _)
end
end Go.Cx
/- The drawn regions. Fourth part: one step, and all of them. -/
namespace Go.Cx
variable {P : Program} {E : Env} {F : Fx}
variable {nt : Nat} {ops : Array Oper} {st : Nat → St} {v : Nat → SV} {kd : Nat → Nat}
variable {B0 : Be} {X : Nat → Prop} {w0 : World} {L L' : Nat → Prop} {p : Nat} {B : Be} {R : Nat → Nat} {a : Act} {w : World}

theorem put_ne {a : Act} {dst : Option Tmp} {u : Value} {t : Nat} (h : dst ≠ some t) : (a.put dst u).tmps[t]? = a.tmps[t]? := by
  cases dst with
  | none => rfl
  | some d =>
    have : d ≠ t := fun e => h (by rw [e])
    simp [Act.put, Array.getElem?_setIfInBounds_ne this]
theorem put_eq {a : Act} {d : Tmp} {u : Value} (h : d < a.tmps.size) : (a.put (some d) u).tmps[d]? = some u := by simp [Act.put, h]
theorem Closed.add (hL : Closed ops L) {i : Nat} {o : Oper} (ho : ops[i]? = some o) (hpre : ∀ e ∈ o.after, Region.binds .any e = true → L e.on) (hL' : ∀ j, L' j ↔ L j ∨ j = i) : Closed ops L' := by
  intro j q hq hj e he hb
  rcases (hL' j).1 hj with h | rfl
  · exact (hL' _).2 (.inl (hL j q hq h e he hb))
  · rw [ho] at hq
    simp only [Option.some.injEq] at hq; subst hq
    exact (hL' _).2 (.inl (hpre e he hb))
theorem dstOf_eq {i : Nat} {o : Oper} (ho : ops[i]? = some o) : dstOf ops i = o.dst := by simp [dstOf, ho]

theorem Inv.quiet (hp : Plan P E nt ops st v kd) (I : Inv E nt ops st v kd B0 X w0 L p B R a w) {i : Nat} {o : Oper} (ho : ops[i]? = some o) (hpre : ∀ e ∈ o.after, Region.binds .any e = true → L e.on) (hL' : ∀ j, L' j ↔ L j ∨ j = i) (hlt : ∀ d, o.dst = some d → d < nt)
    (hki : kd i = 0) {u : Value} (hu : VV E B (st p).n (v i) u) : Inv E nt ops st v kd B0 X w0 L' p B R (a.put o.dst u) w := by
  have hi : i < ops.size := (Array.getElem?_eq_some_iff.1 ho).1
  have hd := dstOf_eq ho
  have hA : ∀ j, Ahead ops kd L' p j → Ahead ops kd L p j := fun j ⟨a1, a2, a3, a4⟩ => by
    rcases (hL' j).1 a2 with h | h
    · exact ⟨a1, h, a3, a4⟩
    · subst h; exact absurd hki a3
  refine ⟨I.dc.add ho hpre hL', I.ple, fun e he hk => (hL' e).2 (.inl (I.vis e he hk)), I.ext0, I.n0, I.fr, by rw [put_size]; exact I.sz, by rw [put_defers]; exact I.df, fun t x hx hn => ?_, fun j d hj hLj hdj hpj => ?_, I.H.less (fun r hr => hr.imp id fun ⟨j, h1, h2⟩ => ⟨j, hA j h1, h2⟩) (fun r o ho => .inl (I.fx r o ho)), fun j hj => ?_, fun i j hi hj => I.rinj i j (hA i hi) (hA j hj), fun j hj => I.rX j (hA j hj), I.fx⟩
  · rw [put_ne (by rw [← hd]; exact hn i hi ((hL' i).2 (.inr rfl)))]
    exact I.t0 t x hx fun j hj hLj => hn j hj ((hL' j).2 (.inl hLj))
  · by_cases hji : j = i
    · subst hji
      rw [hd] at hdj
      exact ⟨u, by rw [hdj]; exact put_eq (by rw [I.sz]; exact hlt d hdj), hu⟩
    · rw [put_ne (fun e => hji (hp.dist j i d hdj (by rw [hd]; exact e)))]
      refine I.tv j d hj ?_ hdj hpj
      rcases (hL' j).1 hLj with h | h
      · exact h
      · exact absurd h hji
  · obtain ⟨f1, so, o', u', f2, f3, f4, f5, f6, f7⟩ := I.ex j (hA j hj)
    have hji : j ≠ i := fun e => by subst e; exact hj.2.2.1 hki
    exact ⟨f1, so, o', u', f2, f3, f4, f5, fun d hdj => by rw [put_ne (fun e => hji (hp.dist j i d hdj (by rw [hd]; exact e)))]; exact f6 d hdj, f7⟩

theorem Inv.make (hp : Plan P E nt ops st v kd) (I : Inv E nt ops st v kd B0 X w0 L p B R a w) {i : Nat} {o : Oper} (ho : ops[i]? = some o) (hpre : ∀ e ∈ o.after, Region.binds .any e = true → L e.on) (hL' : ∀ j, L' j ↔ L j ∨ j = i) (hlt : ∀ d, o.dst = some d → d < nt)
    (hki : kd i = 1) (hLi : ¬ L i) {so : SO} (h1 : (st (i + 1)).h = (st i).h.upd 24 (st i).n (some so)) (h2 : (st (i + 1)).n = (st i).n + 1) (h3 : (st i).n < lim) {u : Value} {o' : Obj} {w' : World} (hw : w'.heap = w.heap.push o') (hos : w'.os = w.os) (htp : w'.tape = w.tape) (hou : w'.output = w.output)
    (hu : ∀ B', Ext B B' (st p).n → ∃ c, VV E (B'.add (st i).n w.heap.size c) ((st i).n + 1) (v i) u ∧ HO E (B'.add (st i).n w.heap.size c) ((st i).n + 1) (st i).n so o') :
    Inv E nt ops st v kd B0 X w0 L' p B (fun j => if j = i then w.heap.size else R j) (a.put o.dst u) w' := by
  have hi : i < ops.size := (Array.getElem?_eq_some_iff.1 ho).1
  have hd := dstOf_eq ho
  have hpi : p ≤ i := by
    rcases Nat.lt_or_ge i p with h | h
    · exact absurd (I.vis i h (by omega)) hLi
    · exact h
  have hA : ∀ j, j ≠ i → Ahead ops kd L' p j → Ahead ops kd L p j := fun j hji ⟨a1, a2, a3, a4⟩ => by
    rcases (hL' j).1 a2 with h | h
    · exact ⟨a1, h, a3, a4⟩
    · exact absurd h hji
  have hsz : ∀ j, Ahead ops kd L p j → R j < w.heap.size := fun j hj => I.H.out _ (.inr ⟨j, hj, rfl⟩)
  refine ⟨I.dc.add ho hpre hL', I.ple, fun e he hk => (hL' e).2 (.inl (I.vis e he hk)), I.ext0, I.n0, I.fr.trans ((FR.push I.H hw hos htp hou).mono fun r hr => .inl hr), by rw [put_size]; exact I.sz, by rw [put_defers]; exact I.df, fun t x hx hn => ?_, fun j d hj hLj hdj hpj => ?_, I.H.aside hw (fun r hr => ?_) (fun r o ho => .inl (I.fx r o ho)), fun j hj => ?_, fun j k hj hk => ?_, fun j hj => ?_, I.fx⟩
  · rw [put_ne (by rw [← hd]; exact hn i hi ((hL' i).2 (.inr rfl)))]
    exact I.t0 t x hx fun j hj hLj => hn j hj ((hL' j).2 (.inl hLj))
  · have hji : j ≠ i := fun e => by subst e; have := hpj (by omega); omega
    rw [put_ne (fun e => hji (hp.dist j i d hdj (by rw [hd]; exact e)))]
    refine I.tv j d hj ?_ hdj hpj
    rcases (hL' j).1 hLj with h | h
    · exact h
    · exact absurd h hji
  · rcases hr with hr | ⟨j, hj, hr⟩
    · exact .inl (.inl hr)
    · by_cases hji : j = i
      · rw [if_pos hji] at hr; exact .inr hr.symm
      · rw [if_neg hji] at hr; exact .inl (.inr ⟨j, hA j hji hj, hr⟩)
  · by_cases hji : j = i
    · subst hji
      refine ⟨hki, so, o', u, h1, h2, h3, by rw [if_pos rfl, hw]; simp, fun d hdj => ?_, by rw [if_pos rfl]; exact hu⟩
      rw [hd] at hdj
      rw [hdj]
      exact put_eq (by rw [I.sz]; exact hlt d hdj)
    · rw [if_neg hji]
      obtain ⟨f1, so, o', u', f2, f3, f4, f5, f6, f7⟩ := I.ex j (hA j hji hj)
      refine ⟨f1, so, o', u', f2, f3, f4, ?_, fun d hdj => by rw [put_ne (fun e => hji (hp.dist j i d hdj (by rw [hd]; exact e)))]; exact f6 d hdj, f7⟩
      have := hsz j (hA j hji hj)
      rw [hw, Array.getElem?_push, if_neg (by omega)]
      exact f5
  · by_cases hji : j = i
    · by_cases hki : k = i
      · intro _; rw [hji, hki]
      · rw [if_pos hji, if_neg hki]
        intro e
        have := hsz k (hA k hki hk)
        omega
    · by_cases hki : k = i
      · rw [if_neg hji, if_pos hki]
        intro e
        have := hsz j (hA j hji hj)
        omega
      · rw [if_neg hji, if_neg hki]
        exact I.rinj j k (hA j hji hj) (hA k hki hk)
  · by_cases hji : j = i
    · rw [if_pos hji]
      intro hX
      have := I.H.out _ (.inl hX)
      omega
    · rw [if_neg hji]
      exact I.rX j (hA j hji hj)

theorem Inv.chg (hp : Plan P E nt ops st v kd) {i : Nat} (I : Inv E nt ops st v kd B0 X w0 L i B R a w) {o : Oper} (ho : ops[i]? = some o) (hpre : ∀ e ∈ o.after, Region.binds .any e = true → L e.on) (hL' : ∀ j, L' j ↔ L j ∨ j = i) (hlt : ∀ d, o.dst = some d → d < nt)
    (hki : kd i = 2) {u : Value} {B1 : Be} {w' : World} (he : Ext B B1 (st i).n) (hn : (st i).n ≤ (st (i + 1)).n) (hH : HR E B1 (fun r => X r ∨ ∃ j, Ahead ops kd L i j ∧ R j = r) (st (i + 1)).n (st (i + 1)).h w') (hf : FR (fun r => X r ∨ ∃ j, Ahead ops kd L i j ∧ R j = r) w w') (hu : VV E B1 (st (i + 1)).n (v i) u) :
    Inv E nt ops st v kd B0 X w0 L' (i + 1) B1 R (a.put o.dst u) w' := by
  have hi : i < ops.size := (Array.getElem?_eq_some_iff.1 ho).1
  have hd := dstOf_eq ho
  have hA : ∀ j, Ahead ops kd L' (i + 1) j → Ahead ops kd L i j ∧ j ≠ i := fun j ⟨a1, a2, a3, a4⟩ => by
    rcases (hL' j).1 a2 with h | h
    · exact ⟨⟨a1, h, a3, by omega⟩, by omega⟩
    · omega
  refine ⟨I.dc.add ho hpre hL', hi, fun e he hk => (hL' e).2 ?_, I.ext0.trans he I.n0, by have := I.n0; omega, I.fr.trans (hf.mono fun r hr => .inl hr), by rw [put_size]; exact I.sz, by rw [put_defers]; exact I.df, fun t x hx hn' => ?_, fun j d hj hLj hdj hpj => ?_, hH.less (fun r hr => hr.imp id fun ⟨j, h1, h2⟩ => ⟨j, (hA j h1).1, h2⟩) (fun r o ho => .inl (I.fx r o ho)), fun j hj => ?_, fun j k hj hk => I.rinj j k (hA j hj).1 (hA k hk).1, fun j hj => I.rX j (hA j hj).1, I.fx⟩
  · rcases Nat.lt_or_ge e i with h | h
    · exact .inl (I.vis e h hk)
    · exact .inr (by omega)
  · rw [put_ne (by rw [← hd]; exact hn' i hi ((hL' i).2 (.inr rfl)))]
    obtain ⟨y, f1, f2⟩ := I.t0 t x hx fun j hj hLj => hn' j hj ((hL' j).2 (.inl hLj))
    exact ⟨y, f1, f2.ext he hn⟩
  · by_cases hji : j = i
    · subst hji
      rw [hd] at hdj
      exact ⟨u, by rw [hdj]; exact put_eq (by rw [I.sz]; exact hlt d hdj), hu⟩
    · rw [put_ne (fun e => hji (hp.dist j i d hdj (by rw [hd]; exact e)))]
      obtain ⟨y, f1, f2⟩ := I.tv j d hj (by
        rcases (hL' j).1 hLj with h | h
        · exact h
        · exact absurd h hji) hdj fun hk => by have := hpj hk; omega
      exact ⟨y, f1, f2.ext he hn⟩
  · obtain ⟨hj1, hji⟩ := hA j hj
    obtain ⟨f1, so, o', u', f2, f3, f4, f5, f6, f7⟩ := I.ex j hj1
    refine ⟨f1, so, o', u', f2, f3, f4, ?_, fun d hdj => by rw [put_ne (fun e => hji (hp.dist j i d hdj (by rw [hd]; exact e)))]; exact f6 d hdj, fun B' hB' => f7 B' (he.trans hB' hn)⟩
    rw [hf.block _ (.inr ⟨j, hj1, rfl⟩)]
    exact f5

/-! ### all steps -/
def LL (listed : Array Bool) (j : Nat) : Prop := listed.getD j false = true
def unl (ops : Array Oper) (listed : Array Bool) : Nat := (List.range ops.size).countP fun i => !listed.getD i false
theorem countP_lt {q r : Nat → Bool} (h : ∀ x, q x = true → r x = true) : ∀ {l : List Nat}, (∃ x ∈ l, r x = true ∧ q x = false) → l.countP q < l.countP r
  | [], ⟨_, h, _⟩ => by cases h
  | y :: l, ⟨x, hx, h1, h2⟩ => by
    have hle : l.countP q ≤ l.countP r := List.countP_mono_left fun x _ => h x
    rw [List.countP_cons, List.countP_cons]
    rcases List.mem_cons.1 hx with rfl | hx
    · simp only [h1, h2, if_true, Bool.false_eq_true, if_false]; omega
    · have := countP_lt h ⟨x, hx, h1, h2⟩
      by_cases hq : q y = true
      · simp only [hq, h y hq, if_true]; omega
      · have hq : q y = false := by simpa using hq
        simp only [hq, Bool.false_eq_true, if_false]; split <;> omega
theorem LL_set {listed : Array Bool} {i : Nat} (hi : i < listed.size) (j : Nat) : LL (listed.setIfInBounds i true) j ↔ LL listed j ∨ j = i := by
  unfold LL
  by_cases h : i = j
  · subst h; simp [hi]
  · rw [getD_set_ne false h]
    constructor
    · exact .inl
    · rintro (h' | h')
      · exact h'
      · exact absurd h'.symm h
theorem not_LL {listed : Array Bool} {i : Nat} (h : listed.getD i true = false) : ¬ LL listed i ∧ i < listed.size := by
  rcases Nat.lt_or_ge i listed.size with h' | h'
  · simp [LL, h'] at h ⊢; exact h
  · simp [Array.getElem?_eq_none h'] at h
theorem LL_true {listed : Array Bool} {i : Nat} (hi : i < listed.size) (h : ¬ LL listed i) : listed.getD i true = false := by
  simp [LL, hi] at h ⊢; exact h
theorem Inv.done (hp : Plan P E nt ops st v kd) (I : Inv E nt ops st v kd B0 X w0 L p B R a w) (ht : Tight ops kd L p) (hall : ∀ j, j < ops.size → L j) {K : Act → World → Prop} (hq : After E X nt B0 (st 0).n w0 (st ops.size) K) : K a w := by
  have hpm : p = ops.size := by
    rcases Nat.lt_or_ge p ops.size with h | h
    · exact absurd (hall p h) (ht h).2
    · have := I.ple; omega
  subst hpm
  refine hq B a w I.ext0 I.n0 (fun t x hx => ?_) (I.H.less (fun r hr => .inl hr) I.fx) I.fr I.sz I.df
  rcases hp.text (Nat.le_refl _) hx with ⟨j, g1, g2, rfl⟩ | ⟨g1, g2⟩
  · exact I.tv j t g1 (hall j g1) g2 fun _ => g1
  · exact I.t0 t x g2 fun j hj _ => g1 j hj
theorem all_of_ready (hp : Plan P E nt ops st v kd) {listed : Array Bool} (hs : listed.size = ops.size) (hr : Region.ready .any ops listed = []) : ∀ j, j < ops.size → LL listed j := by
  intro j
  induction j using Nat.strongRecOn with
  | _ j ih =>
    intro hj
    apply Classical.byContradiction
    intro hn
    have : j ∈ Region.ready .any ops listed := mem_ready.2 ⟨LL_true (by omega) hn, ops[j], by simp [hj], fun e he hb => by
      have hlt := hp.back j ops[j] (by simp [hj]) e he hb
      exact ih e.on hlt (by omega)⟩
    rw [hr] at this
    cases this
theorem Inv.any (hp : Plan P E nt ops st v kd) {Q : Exit → Act → World → Prop} (hq : After E X nt B0 (st 0).n w0 (st ops.size) (Q .normal)) : ∀ (fuel : Nat) (listed : Array Bool) (a : Act) (w : World) (p : Nat) (B : Be) (R : Nat → Nat), listed.size = ops.size →
    Inv E nt ops st v kd B0 X w0 (LL listed) p B R a w → Tight ops kd (LL listed) p → unl ops listed ≤ fuel → wpAny P .any ops Q fuel listed a w
  | 0, listed, a, w, p, B, R, hs, I, ht, hf => by
    have hall : ∀ j, j < ops.size → LL listed j := fun j hj => by
      have : unl ops listed = 0 := by omega
      unfold unl at this
      rw [List.countP_eq_zero] at this
      have := this j (by simpa using hj)
      simpa [LL] using this
    refine ⟨?_, I.done hp ht hall hq⟩
    cases hr : Region.ready .any ops listed with
    | nil => rfl
    | cons i l =>
      have hm : i ∈ Region.ready .any ops listed := by rw [hr]; simp
      obtain ⟨h1, o, ho, _⟩ := mem_ready.1 hm
      exact absurd (hall i (Array.getElem?_eq_some_iff.1 ho).1) (not_LL h1).1
  | fuel + 1, listed, a, w, p, B, R, hs, I, ht, hf => by
    refine ⟨fun hr => I.done hp ht (all_of_ready hp hs hr) hq, fun i hi => ?_⟩
    obtain ⟨h1, o, ho, hpre⟩ := mem_ready.1 hi
    obtain ⟨hLi, his⟩ := not_LL h1
    have him : i < ops.size := by omega
    have hpre : ∀ e ∈ o.after, Region.binds .any e = true → LL listed e.on := hpre
    have hL' := fun j => LL_set his j
    have hunl : unl ops (listed.setIfInBounds i true) < unl ops listed := by
      refine countP_lt (fun x hx => ?_) ⟨i, by simpa using him, by simpa [LL] using hLi, ?_⟩
      · by_cases hxi : i = x
        · subst hxi; simpa [LL] using hLi
        · rw [getD_set_ne false hxi] at hx; exact hx
      · have : LL (listed.setIfInBounds i true) i := (hL' i).2 (.inr rfl)
        unfold LL at this
        rw [this]; rfl
    have next : ∀ {a' : Act} {w' : World} {p' : Nat} {B' : Be} {R' : Nat → Nat}, Inv E nt ops st v kd B0 X w0 (LL (listed.setIfInBounds i true)) p' B' R' a' w' → wpAny P .any ops Q fuel (listed.setIfInBounds i true) a' w' := fun I' => by
      obtain ⟨p', B', I'', ht'⟩ := I'.flush hp _ rfl
      exact Inv.any hp hq fuel _ _ _ _ _ _ (by simpa using hs) I'' ht' (by omega)
    obtain ⟨o', c, looks, g1, g2, g3, g4, g5⟩ := hp.step i him
    rw [ho] at g1
    simp only [Option.some.injEq] at g1; subst g1
    have hT := I.looks hp ht ho hpre hLi g5
    have hlt := fun d hd => (g2.lt d hd).1
    have hk := g2.k
    unfold wpOp
    rw [ho]
    rcases g4 with ⟨k1, k2, k3, k4⟩ | ⟨k1, k2, f, so, k3, k4, k5, k6, k7⟩ | ⟨k1, k2, k3, f, k4, k5⟩
    · rcases k4 with ⟨q1, q2⟩ | ⟨q1, q2⟩
      · dsimp only
        rw [if_neg (by rw [wants_ok g2 hT q1]; simp)]
        exact next (I.quiet hp ho hpre hL' hlt k1 (by rw [q2]; rfl))
      · dsimp only
        rw [if_pos (wants_ok g2 hT q1)]
        refine .inl ?_
        rcases q2 with ⟨f, e1, e2⟩ | ⟨f, e1, e2, e3⟩
        · rw [e1] at hk
          obtain ⟨u, f1, f2⟩ := hk B _ _ a _ e2 hT w
          unfold Oper.wp
          rw [f1]
          exact next (I.quiet hp ho hpre hL' hlt k1 f2)
        · rw [e1] at hk
          obtain ⟨u, f1, f2⟩ := hk B _ _ _ _ a w _ (I.reads hp ht ho hpre hLi k1 (g := f _) e2 e3) hT I.H
          unfold Oper.wp
          rw [f1]
          exact next (I.quiet hp ho hpre hL' hlt k1 f2)
    · dsimp only
      rw [if_pos (wants_ok g2 hT k2)]
      refine .inl ?_
      rw [k3] at hk
      have hpi : p ≤ i := by
        rcases Nat.lt_or_ge i p with h | h
        · exact absurd (I.vis i h (by omega)) hLi
        · exact h
      have hnn := hp.le hpi (by omega)
      obtain ⟨u, o', c', w', e1, e2, e3, e4, e5, e6, e7⟩ := hk B (st i).n _ a w _ _ k5 (hT.ext (Ext.refl _ _) hnn)
      unfold Oper.wp
      rw [e1]
      refine next (I.make hp ho hpre hL' hlt k1 hLi k6 k7 k4 e2 e3 e4 e5 fun B' hB' => ?_)
      obtain ⟨u', o'', c'', w'', d1, d2, d3, d4, d5, d6, d7⟩ := hk B' (st i).n _ a w _ _ k5 (hT.ext hB' hnn)
      rw [e1] at d1
      simp only [Result.ok.injEq, Next.value.injEq] at d1
      obtain ⟨rfl, rfl⟩ := d1
      rw [e2] at d2
      have : o' = o'' := by
        have := congrArg Array.back? d2
        simpa using this
      subst this
      exact ⟨c'', d6, d7⟩
    · dsimp only
      rw [if_pos (wants_ok g2 hT k2)]
      refine .inl ?_
      have hpi : p = i := by
        rcases Nat.lt_or_ge i p with h | h
        · exact absurd (I.vis i h (by omega)) hLi
        · rcases Nat.lt_or_ge p i with h' | h'
          · obtain ⟨q1, q2⟩ := ht (by omega)
            exact absurd (Waits.of I.dc ho hpre (k3 p h' q1)) q2
          · omega
      subst hpi
      rw [k4] at hk
      refine hk B _ _ _ _ a w _ _ _ k5 hT I.H _ _ fun B' u w' e1 e2 e3 e4 e5 => ?_
      exact next (I.chg hp ho hpre hL' hlt k1 e1 e2 e3 e4 e5)
theorem drawOk (hm : P.follows .mixedOrders = true) : DrawOk P := by
  intro E nt id ops cs ds hl hT s B X a w Q ht H hz hd hpost
  dsimp only at hpost
  cases hr : runDraw cs ds 0 s [] [] with
  | none => rw [hr] at hpost; exact hpost.elim
  | some sf =>
    rw [hr] at hpost
    have hpost : After E X nt B s.n w sf (Q .normal) := hpost
    obtain ⟨st, v, kd, hp, h0, h1⟩ := plan_of hl hT hr
    have hL0 : ∀ j, ¬ LL (Array.replicate ops.size false) j := fun j h => by
      unfold LL at h
      rcases Nat.lt_or_ge j ops.size with h' | h'
      · simp [h'] at h
      · simp [Array.getElem?_eq_none, h'] at h
    have I0 : Inv E nt ops st v kd B X w (LL (Array.replicate ops.size false)) 0 B (fun _ => 0) a { w with drawn := w.drawn + 1 } :=
      ⟨fun j o _ h => absurd h (hL0 j), Nat.zero_le _, fun e he => absurd he (Nat.not_lt_zero _), Ext.refl _ _, Nat.le_refl _, ⟨rfl, rfl, rfl, Nat.le_refl _, fun _ _ => rfl⟩, hz, hd, fun t x hx _ => (by rw [h0] at hx ⊢; exact ht t x hx), fun j d _ h => absurd h (hL0 j),
        (by rw [h0]; exact (H.world rfl : HR E B X s.n s.h { w with drawn := w.drawn + 1 }).less (fun r hr => hr.elim (fun h => h) fun ⟨j, hj, _⟩ => absurd hj.2.1 (hL0 j)) fun r o ho => .inl (H.fix r o ho).1), fun j hj => absurd hj.2.1 (hL0 j), fun i j hi => absurd hi.2.1 (hL0 i), fun j hj => absurd hj.2.1 (hL0 j), fun r o ho => (H.fix r o ho).1⟩
    obtain ⟨p', B', I', ht'⟩ := I0.flush hp _ rfl
    refine wp_region_any hm (Inv.any hp (Q := Q) (by rw [h0, h1]; exact hpost) _ _ _ _ _ _ _ (by simp) I' ht' ?_)
    unfold unl
    exact Nat.le_trans (List.countP_le_length) (by simp)
end Go.Cx
/- A run from a small heap holds at a great one: contracts from runs. -/
namespace Go.Cx
variable {P : Program} {E : Env} {F : Fx}

/-! ### other names for blocks -/
def rnC (σ : Nat → Nat) : SC → SC
  | .ptr b o => .ptr (σ b) o
  | .sl b o l c s x => .sl (σ b) o l c s x
  | .map b => .map (σ b)
  | .fn f caps => .fn f (caps.map fun p => (σ p.1, p.2))
  | x => x
def rnA (σ : Nat → Nat) : SA → SA
  | .s x => .s (rnC σ x)
  | .g l => .g (l.map (rnC σ))
def rnV (σ : Nat → Nat) : SV → SV
  | .a x => .a (rnA σ x)
  | .t l => .t (l.map (rnA σ))
def okC (n : Nat) : SC → Bool
  | .ptr b _ => Nat.blt b n
  | .sl b _ _ _ _ _ => Nat.blt b n
  | .map b => Nat.blt b n
  | .fn _ caps => caps.all fun p => Nat.blt p.1 n
  | _ => true
def okA (n : Nat) : SA → Bool
  | .s x => okC n x
  | .g l => l.all (okC n)
def okV (n : Nat) : SV → Bool
  | .a x => okA n x
  | .t l => l.all (okA n)
section
variable {B B' : Be} {n n' : Nat} {σ : Nat → Nat}
theorem VC.rn (hσ : ∀ b, b < n → B'.β (σ b) = B.β b ∧ B'.cp (σ b) = B.cp b ∧ σ b < n') : ∀ {x : SC} {v : Value}, VC E B n x v → VC E B' n' (rnC σ x) v
  | .undef, _, hv => hv
  | .bool _, _, hv => hv
  | .int .., _, hv => hv
  | .str _, _, hv => hv
  | .pnil, _, hv => hv
  | .ptr b o, _, ⟨h1, h2⟩ => ⟨(hσ b h1).2.2, by rw [h2, (hσ b h1).1]⟩
  | .snil, _, hv => hv
  | .sl b .., _, ⟨h1, cap', h2, h3, h4⟩ => ⟨(hσ b h1).2.2, cap', by rw [h2, (hσ b h1).1], h3, fun e => by rw [(hσ b h1).2.1]; exact h4 e⟩
  | .mnil, _, hv => hv
  | .map b, _, ⟨h1, h2⟩ => ⟨(hσ b h1).2.2, by rw [h2, (hσ b h1).1]⟩
  | .fnil, _, hv => hv
  | .fn f caps, _, ⟨h1, h2⟩ => ⟨fun p hp => by
      obtain ⟨q, hq, rfl⟩ := List.mem_map.1 hp
      exact (hσ q.1 (h1 q hq)).2.2, by
      rw [h2, List.map_map]; congr 2; exact List.map_congr_left fun p hp => by simp only [Function.comp]; rw [(hσ p.1 (h1 p hp)).1]⟩
  | .inil, _, hv => hv
  | .opq _, _, hv => hv
  | .optr .., _, hv => hv
theorem LR.rn {α β : Type} {R R' : α → β → Prop} {g : α → α} (h : ∀ a b, R a b → R' (g a) b) : ∀ {l : List α} {r : List β}, LR R l r → LR R' (l.map g) r
  | [], [], _ => trivial
  | _ :: _, _ :: _, ⟨h1, h2⟩ => ⟨h _ _ h1, LR.rn h h2⟩
  | [], _ :: _, h => h.elim
  | _ :: _, [], h => h.elim
theorem VA.rn (hσ : ∀ b, b < n → B'.β (σ b) = B.β b ∧ B'.cp (σ b) = B.cp b ∧ σ b < n') : ∀ {x : SA} {v : Value}, VA E B n x v → VA E B' n' (rnA σ x) v
  | .s _, _, hv => VC.rn hσ hv
  | .g _, _, ⟨vs, h1, h2⟩ => ⟨vs, h1, LR.rn (g := rnC σ) (fun _ _ h => VC.rn hσ h) h2⟩
theorem VV.rn (hσ : ∀ b, b < n → B'.β (σ b) = B.β b ∧ B'.cp (σ b) = B.cp b ∧ σ b < n') : ∀ {x : SV} {v : Value}, VV E B n x v → VV E B' n' (rnV σ x) v
  | .a _, _, hv => VA.rn hσ hv
  | .t _, _, ⟨vs, h1, h2⟩ => ⟨vs, h1, LR.rn (g := rnA σ) (fun _ _ h => VA.rn hσ h) h2⟩
theorem VC.un (hσ : ∀ b, b < n → B'.β (σ b) = B.β b ∧ B'.cp (σ b) = B.cp b) : ∀ {x : SC} {v : Value}, okC n x = true → VC E B' n' (rnC σ x) v → VC E B n x v
  | .undef, _, _, hv => hv
  | .bool _, _, _, hv => hv
  | .int .., _, _, hv => hv
  | .str _, _, _, hv => hv
  | .pnil, _, _, hv => hv
  | .ptr b o, _, ho, ⟨h1, h2⟩ => by
    have ho : b < n := by simpa [okC] using ho
    exact ⟨ho, by rw [h2, (hσ b ho).1]⟩
  | .snil, _, _, hv => hv
  | .sl b .., _, ho, ⟨h1, cap', h2, h3, h4⟩ => by
    have ho : b < n := by simpa [okC] using ho
    exact ⟨ho, cap', by rw [h2, (hσ b ho).1], h3, fun e => by rw [← (hσ b ho).2]; exact h4 e⟩
  | .mnil, _, _, hv => hv
  | .map b, _, ho, ⟨h1, h2⟩ => by
    have ho : b < n := by simpa [okC] using ho
    exact ⟨ho, by rw [h2, (hσ b ho).1]⟩
  | .fnil, _, _, hv => hv
  | .fn f caps, _, ho, ⟨h1, h2⟩ => by
    have ho : ∀ p ∈ caps, p.1 < n := fun p hp => by
      have := List.all_eq_true.1 ho p hp
      simpa using this
    refine ⟨ho, ?_⟩
    rw [h2, List.map_map]; congr 2; exact List.map_congr_left fun p hp => by simp only [Function.comp]; rw [(hσ p.1 (ho p hp)).1]
  | .inil, _, _, hv => hv
  | .opq _, _, _, hv => hv
  | .optr .., _, _, hv => hv
theorem LR.un {α β : Type} {R R' : α → β → Prop} {g : α → α} {p : α → Bool} (h : ∀ a b, p a = true → R' (g a) b → R a b) : ∀ {l : List α} {r : List β}, l.all p = true → LR R' (l.map g) r → LR R l r
  | [], [], _, _ => trivial
  | _ :: _, _ :: _, hp, ⟨h1, h2⟩ => by
    simp only [List.all_cons, Bool.and_eq_true] at hp
    exact ⟨h _ _ hp.1 h1, LR.un h hp.2 h2⟩
  | [], _ :: _, _, h => h.elim
  | _ :: _, [], _, h => h.elim
theorem VA.un (hσ : ∀ b, b < n → B'.β (σ b) = B.β b ∧ B'.cp (σ b) = B.cp b) : ∀ {x : SA} {v : Value}, okA n x = true → VA E B' n' (rnA σ x) v → VA E B n x v
  | .s _, _, ho, hv => VC.un hσ ho hv
  | .g _, _, ho, ⟨vs, h1, h2⟩ => ⟨vs, h1, h2.un (fun _ _ => VC.un hσ) ho⟩
theorem VV.un (hσ : ∀ b, b < n → B'.β (σ b) = B.β b ∧ B'.cp (σ b) = B.cp b) : ∀ {x : SV} {v : Value}, okV n x = true → VV E B' n' (rnV σ x) v → VV E B n x v
  | .a _, _, ho, hv => VA.un hσ ho hv
  | .t _, _, ho, ⟨vs, h1, h2⟩ => ⟨vs, h1, h2.un (fun _ _ => VA.un hσ) ho⟩
end

/-! ### objects as lists -/
inductive OL where
  | cells (l : List SC) (m e : Nat)
  | map (es : List (SA × SA × Nat)) (clock : Nat)
  deriving Inhabited
def OL.so : OL → SO
  | .cells l m e => .cells (Tr.ofL l 0 .e) m e
  | .map es k => .map es k
def OL.rn (σ : Nat → Nat) : OL → OL
  | .cells l m e => .cells (l.map (rnC σ)) m e
  | .map es k => .map (es.map fun p => (rnA σ p.1, rnA σ p.2.1, p.2.2)) k
def OL.ok (n : Nat) : OL → Bool
  | .cells l _ _ => l.all (okC n)
  | .map es _ => es.all fun p => okA n p.1 && okA n p.2.1
def cellsIn : List SC → Nat → Tr SC → Bool
  | [], _, _ => true
  | x :: l, i, c => (match c.get i with | some y => scEq x y | none => false) && cellsIn l (i + 1) c
def esEq : List (SA × SA × Nat) → List (SA × SA × Nat) → Bool
  | [], [] => true
  | (a, b, c) :: r, (a', b', c') :: r' => saEq a a' && saEq b b' && Nat.beq c c' && esEq r r'
  | _, _ => false
def mOk : Nat → Nat → Bool
  | 0, _ => true
  | m, m' => Nat.beq m m'
theorem mOk_ok {m m' s : Nat} (h : mOk m m' = true) (h' : m' = 0 ∨ s = m') : m = 0 ∨ s = m := by
  unfold mOk at h
  split at h
  · exact .inl rfl
  · have := Nat.eq_of_beq_eq_true h
    subst this; exact h'
def OL.le : OL → SO → Bool
  | .cells l m e, .cells c m' e' => Nat.beq e e' && mOk m m' && cellsIn l 0 c
  | .map es k, .map es' k' => esEq es es' && Nat.beq k k'
  | _, _ => false
theorem cellsIn_ok : ∀ {l : List SC} {i : Nat} {c : Tr SC}, cellsIn l i c = true → ∀ {j : Nat} {x : SC}, l[j]? = some x → c.get (i + j) = some x
  | [], _, _, _, _, _, h => by simp at h
  | y :: l, i, c, h, j, x, hx => by
    simp only [cellsIn, Bool.and_eq_true] at h
    cases j with
    | zero =>
      simp only [List.getElem?_cons_zero, Option.some.injEq] at hx; subst hx
      have h := h.1
      split at h
      · rename_i z hz; rw [Nat.add_zero, hz, scEq_ok h]
      · cases h
    | succ j =>
      rw [show i + (j + 1) = i + 1 + j by omega]
      exact cellsIn_ok h.2 (by simpa using hx)
theorem esEq_ok : ∀ {a b : List (SA × SA × Nat)}, esEq a b = true → a = b
  | [], [], _ => rfl
  | [], _ :: _, h => by simp [esEq] at h
  | _ :: _, [], h => by simp [esEq] at h
  | (a, b, c) :: r, (a', b', c') :: r', h => by
    simp only [esEq, Bool.and_eq_true] at h
    rw [saEq_ok h.1.1.1, saEq_ok h.1.1.2, Nat.eq_of_beq_eq_true h.1.2, esEq_ok h.2]
theorem so_get {l : List SC} {i : Nat} {x : SC} (h : (Tr.ofL l 0 .e).get i = some x) : l[i]? = some x := by
  rcases Tr.get_ofL l 0 .e i x h with ⟨_, h⟩ | h
  · simpa using h
  · simp [Tr.get] at h
theorem ER.rn {B B' : Be} {n n' : Nat} {σ : Nat → Nat} (hσ : ∀ b, b < n → B'.β (σ b) = B.β b ∧ B'.cp (σ b) = B.cp b ∧ σ b < n') {e : SA × SA × Nat} {m : MapEntry} (h : ER E B n e m) : ER E B' n' (rnA σ e.1, rnA σ e.2.1, e.2.2) m :=
  ⟨h.1.rn hσ, h.2.1.rn hσ, h.2.2⟩
/-- what is told of the run's block holds of the great heap's -/
theorem OL.rn_HO {B B' : Be} {n n' b : Nat} {σ : Nat → Nat} (hσ : ∀ b, b < n → B'.β (σ b) = B.β b ∧ B'.cp (σ b) = B.cp b ∧ σ b < n') (hb : b < n) {o : OL} {so : SO} (hle : o.le so = true) {o' : Obj} (ho : HO E B n b so o') : HO E B' n' (σ b) (o.rn σ).so o' := by
  cases o with
  | cells l m e =>
    cases so with
    | map => simp [OL.le] at hle
    | cells c m' e' =>
      simp only [OL.le, Bool.and_eq_true] at hle
      obtain ⟨cs, fr, h1, h2, h3, h4⟩ := ho
      refine ⟨cs, fr, by rw [h1, Nat.eq_of_beq_eq_true hle.1.1], ⟨by rw [h2.1, (hσ b hb).2.1], mOk_ok hle.1.2 h2.2⟩, h3, fun i x hx => ?_⟩
      have hx := so_get hx
      rw [List.getElem?_map] at hx
      obtain ⟨y, hy, rfl⟩ := Option.map_eq_some_iff.1 hx
      obtain ⟨v, e1, e2⟩ := h4 i y (by have := cellsIn_ok hle.2 hy; rwa [Nat.zero_add] at this)
      exact ⟨v, e1, e2.rn hσ⟩
  | map es k =>
    cases so with
    | cells => simp [OL.le] at hle
    | map es' k' =>
      simp only [OL.le, Bool.and_eq_true] at hle
      have e1 := esEq_ok hle.1
      have e2 := Nat.eq_of_beq_eq_true hle.2
      subst e1; subst e2
      obtain ⟨ms, h1, h2⟩ := ho
      exact ⟨ms, h1, LR.rn (g := fun p : SA × SA × Nat => (rnA σ p.1, rnA σ p.2.1, p.2.2)) (fun _ _ h => ER.rn hσ h) h2⟩
/-- what the great heap's block holds, holds of the run's -/
theorem OL.un_HO {B B' : Be} {n n' b : Nat} {σ : Nat → Nat} (hσ : ∀ b, b < n → B'.β (σ b) = B.β b ∧ B'.cp (σ b) = B.cp b) (hb : b < n) {o : OL} (hok : o.ok n = true) {so : SO} (hle : (o.rn σ).le so = true) {o' : Obj} (ho : HO E B' n' (σ b) so o') : HO E B n b o.so o' := by
  cases o with
  | cells l m e =>
    cases so with
    | map => simp [OL.le, OL.rn] at hle
    | cells c m' e' =>
      simp only [OL.le, OL.rn, Bool.and_eq_true] at hle
      obtain ⟨cs, fr, h1, h2, h3, h4⟩ := ho
      refine ⟨cs, fr, by rw [h1, Nat.eq_of_beq_eq_true hle.1.1], ⟨by rw [h2.1, (hσ b hb).2], mOk_ok hle.1.2 h2.2⟩, h3, fun i x hx => ?_⟩
      have hx := so_get hx
      obtain ⟨v, e1, e2⟩ := h4 i (rnC σ x) (by have := cellsIn_ok hle.2 (j := i) (x := rnC σ x) (by rw [List.getElem?_map, hx]; rfl); rwa [Nat.zero_add] at this)
      exact ⟨v, e1, e2.un hσ (List.all_eq_true.1 hok x (List.mem_of_getElem? hx))⟩
  | map es k =>
    cases so with
    | cells => simp [OL.le, OL.rn] at hle
    | map es' k' =>
      simp only [OL.le, OL.rn, Bool.and_eq_true] at hle
      have e1 := esEq_ok hle.1
      have e2 := Nat.eq_of_beq_eq_true hle.2
      subst e1; subst e2
      obtain ⟨ms, h1, h2⟩ := ho
      refine ⟨ms, h1, LR.un (p := fun p : SA × SA × Nat => okA n p.1 && okA n p.2.1) (fun e m hp h => ?_) hok h2⟩
      simp only [Bool.and_eq_true] at hp
      exact ⟨VA.un hσ hp.1 h.1, VA.un hσ hp.2 h.2.1, h.2.2⟩

/-! ### the contract -/
structure Ct where
  args : List SV
  pre : List (Nat × OL)
  n0 : Nat
  v : SV
  post : List (Nat × OL)
  n1 : Nat
def putL : List (Nat × OL) → Hp → Hp
  | [], h => h
  | (b, o) :: r, h => putL r (h.upd 24 b (some o.so))
def allIn (h : Hp) (σ : Nat → Nat) : List (Nat × OL) → Bool
  | [] => true
  | (b, o) :: r => (match h.get (σ b) with | some so => (o.rn σ).le so | none => false) && allIn h σ r
def allOut (h : Hp) : List (Nat × OL) → Bool
  | [] => true
  | (b, o) :: r => (match h.get b with | some so => o.le so | none => false) && allOut h r
def svLEq : List SV → List SV → Bool
  | [], [] => true
  | a :: l, b :: r => svEq a b && svLEq l r
  | _, _ => false
def lookN (l : List (Nat × Nat)) (b : Nat) : Nat := match l with
  | [] => 0
  | (x, y) :: r => match Nat.beq x b with | true => y | false => lookN r b
def ltAll (σ : Nat → Nat) (n : Nat) : Nat → Bool
  | 0 => true
  | b + 1 => Nat.blt (σ b) n && ltAll σ n b
def hasN (b : Nat) : List (Nat × OL) → Bool
  | [] => false
  | p :: r => Nat.beq p.1 b || hasN b r
def nodupN (σ : Nat → Nat) : List (Nat × OL) → Bool
  | [] => true
  | p :: r => (r.all fun q => !Nat.beq (σ p.1) (σ q.1)) && nodupN σ r
def ext' (σ : Nat → Nat) (n0 n : Nat) (b : Nat) : Nat := match Nat.blt b n0 with | true => σ b | false => n + (b - n0)
/-- the contract, used at a great heap (find: where the small heap's blocks lie) -/
def Ct.use (c : Ct) (find : List SV → Hp → List (Nat × Nat)) (args : List SV) (h : Hp) (n : Nat) : Option (SV × Hp × Nat) :=
  let σ := lookN (find args h)
  match svLEq args (c.args.map (rnV σ)) && (ltAll σ n c.n0 && (allIn h σ c.pre && (nodupN σ c.pre && Nat.ble (n + (c.n1 - c.n0)) lim))) with
  | true => some (rnV (ext' σ c.n0 n) c.v, putL (c.post.map fun p => (ext' σ c.n0 n p.1, p.2.rn (ext' σ c.n0 n))) h, n + (c.n1 - c.n0))
  | false => none
/-- the run that the contract speaks of -/
def Ct.good (c : Ct) (cl : List SV → Hp → Nat → Option (SV × Hp × Nat)) : Bool :=
  (c.args.all (okV c.n0) && ((c.pre.all fun p => Nat.blt p.1 c.n0 && (p.2.ok c.n0 && hasN p.1 c.post)) && (Nat.ble c.n0 c.n1 && Nat.ble c.n0 lim))) &&
  match cl c.args (putL c.pre .e) c.n0 with
  | some (v, h, n) => svEq v c.v && (Nat.beq n c.n1 && allOut h c.post)
  | none => false
theorem svLEq_ok : ∀ {a b : List SV}, svLEq a b = true → a = b
  | [], [], _ => rfl
  | [], _ :: _, h => by simp [svLEq] at h
  | _ :: _, [], h => by simp [svLEq] at h
  | x :: a, y :: b, h => by
    simp only [svLEq, Bool.and_eq_true] at h
    rw [svEq_ok h.1, svLEq_ok h.2]
theorem ltAll_ok {σ : Nat → Nat} {n : Nat} : ∀ {k : Nat}, ltAll σ n k = true → ∀ b, b < k → σ b < n
  | 0, _, b, hb => by omega
  | k + 1, h, b, hb => by
    simp only [ltAll, Bool.and_eq_true, Nat.blt_eq] at h
    rcases Nat.lt_or_ge b k with h' | h'
    · exact ltAll_ok h.2 b h'
    · have : b = k := by omega
      subst this; exact h.1
theorem hasN_ok {b : Nat} : ∀ {l : List (Nat × OL)}, hasN b l = true → ∃ o, (b, o) ∈ l
  | [], h => by simp [hasN] at h
  | (x, o) :: r, h => by
    simp only [hasN, Bool.or_eq_true] at h
    rcases h with h | h
    · have := Nat.eq_of_beq_eq_true h
      subst this; exact ⟨o, by simp⟩
    · obtain ⟨o', ho⟩ := hasN_ok h
      exact ⟨o', by simp [ho]⟩
theorem nodupN_ok {σ : Nat → Nat} : ∀ {l : List (Nat × OL)}, nodupN σ l = true → ∀ p ∈ l, ∀ q ∈ l, σ p.1 = σ q.1 → p = q
  | [], _, _, h, _, _, _ => by cases h
  | x :: r, h, p, hp, q, hq, e => by
    simp only [nodupN, Bool.and_eq_true] at h
    rcases List.mem_cons.1 hp with rfl | hp' <;> rcases List.mem_cons.1 hq with rfl | hq'
    · rfl
    · have := List.all_eq_true.1 h.1 q hq'
      rw [e] at this; simp at this
    · have := List.all_eq_true.1 h.1 p hp'
      rw [e] at this; simp at this
    · exact nodupN_ok h.2 p hp' q hq' e
theorem allIn_ok {h : Hp} {σ : Nat → Nat} : ∀ {l : List (Nat × OL)}, allIn h σ l = true → ∀ p ∈ l, ∃ so, h.get (σ p.1) = some so ∧ (p.2.rn σ).le so = true
  | [], _, _, hp => by cases hp
  | (b, o) :: r, h, p, hp => by
    simp only [allIn, Bool.and_eq_true] at h
    rcases List.mem_cons.1 hp with rfl | hp
    · have h := h.1
      split at h
      · rename_i so hso; exact ⟨so, hso, h⟩
      · cases h
    · exact allIn_ok h.2 p hp
theorem allOut_ok {h : Hp} : ∀ {l : List (Nat × OL)}, allOut h l = true → ∀ p ∈ l, ∃ so, h.get p.1 = some so ∧ p.2.le so = true
  | [], _, _, hp => by cases hp
  | (b, o) :: r, h, p, hp => by
    simp only [allOut, Bool.and_eq_true] at h
    rcases List.mem_cons.1 hp with rfl | hp
    · have h := h.1
      split at h
      · rename_i so hso; exact ⟨so, hso, h⟩
      · cases h
    · exact allOut_ok h.2 p hp
theorem putL_some {b : Nat} {so : SO} : ∀ {l : List (Nat × OL)} {h : Hp}, (putL l h).get b = some so → (∃ o, (b, o) ∈ l ∧ so = o.so) ∨ h.get b = some so
  | [], _, h => .inr h
  | (x, o) :: r, h, hg => by
    rcases putL_some (l := r) hg with ⟨o', h1, h2⟩ | hg
    · exact .inl ⟨o', by simp [h1], h2⟩
    · rcases Tr.get_upd_some hg with ⟨rfl, rfl⟩ | hg
      · exact .inl ⟨o, by simp, rfl⟩
      · exact .inr hg
theorem putL_old {b : Nat} {so : SO} : ∀ {l : List (Nat × OL)} {h : Hp}, (∀ p ∈ l, p.1 < lim) → (putL l h).get b = some so → (∃ o, (b, o) ∈ l ∧ so = o.so) ∨ (h.get b = some so ∧ ∀ p ∈ l, p.1 ≠ b)
  | [], _, _, h => .inr ⟨h, fun p hp => by cases hp⟩
  | (x, o) :: r, h, hl, hg => by
    rcases putL_old (l := r) (fun p hp => hl p (by simp [hp])) hg with ⟨o', h1, h2⟩ | ⟨hg2, hr⟩
    · exact .inl ⟨o', by simp [h1], h2⟩
    · rw [Tr.get_upd (hl (x, o) (by simp))] at hg2
      split at hg2
      · rename_i e
        simp only [Option.some.injEq] at hg2
        subst e
        exact .inl ⟨o, by simp, hg2.symm⟩
      · rename_i e
        refine .inr ⟨hg2, fun p hp => ?_⟩
        rcases List.mem_cons.1 hp with rfl | hp
        · exact e
        · exact hr p hp
theorem reloc {f : Nat} {cl : List SV → Hp → Nat → Option (SV × Hp × Nat)} (hcall : CallOk P E f cl) {c : Ct} (hg : c.good cl = true) (find : List SV → Hp → List (Nat × Nat)) : CallOk P E f (c.use find) := by
  intro args h n v h' n' hu B X w vs H hl
  simp only [Ct.use] at hu
  generalize lookN (find args h) = σ at hu
  split at hu
  · rename_i hc
    simp only [Bool.and_eq_true] at hc
    obtain ⟨c1, c2, c3, c4, c5⟩ := hc
    simp only [Option.some.injEq, Prod.mk.injEq] at hu
    obtain ⟨rfl, rfl, rfl⟩ := hu
    simp only [Ct.good, Bool.and_eq_true] at hg
    obtain ⟨⟨g1, g2, g3, g4⟩, g5⟩ := hg
    split at g5
    · rename_i v1 h1 n1 hrun
      simp only [Bool.and_eq_true] at g5
      obtain ⟨k1, k2, k3⟩ := g5
      have k1 := svEq_ok k1
      have k2 := Nat.eq_of_beq_eq_true k2
      subst k1; subst k2
      have c1 := svLEq_ok c1
      subst c1
      have hσn := ltAll_ok c2
      have hn01 : c.n0 ≤ c.n1 := Nat.le_of_ble_eq_true g3
      have htop : n + (c.n1 - c.n0) ≤ lim := Nat.le_of_ble_eq_true c5
      have gpre := fun p hp => List.all_eq_true.1 g2 p hp
      have gpre : ∀ p ∈ c.pre, p.1 < c.n0 ∧ p.2.ok c.n0 = true ∧ ∃ o, (p.1, o) ∈ c.post := fun p hp => by
        have := gpre p hp
        simp only [Bool.and_eq_true, Nat.blt_eq] at this
        exact ⟨this.1, this.2.1, hasN_ok this.2.2⟩
      have hin := allIn_ok c3
      have hout := allOut_ok k3
      -- the small heap in this world
      let B0 : Be := ⟨fun b => B.β (σ b), fun b => B.cp (σ b)⟩
      let X0 : Nat → Prop := fun r => r < w.heap.size ∧ ∀ p ∈ c.pre, B.β (σ p.1) ≠ r
      have hB0 : ∀ b, b < c.n0 → B.β (σ b) = B0.β b ∧ B.cp (σ b) = B0.cp b := fun b _ => ⟨rfl, rfl⟩
      have hpre : ∀ b so, (putL c.pre .e).get b = some so → ∃ o, (b, o) ∈ c.pre ∧ so = o.so := fun b so hso => by
        rcases putL_some hso with h | h
        · exact h
        · simp [Tr.get] at h
      have hXX : ∀ r, X r → X0 r := fun r hr => ⟨H.out r hr, fun p hp he => by
        obtain ⟨so, q1, _⟩ := hin p hp
        exact (H.live _ _ q1).2.1 (he ▸ hr)⟩
      have H0 : HR E B0 X0 c.n0 (putL c.pre .e) w := by
        refine ⟨fun b so hso => ?_, fun b b' so so' hb hb' hβ => ?_, Nat.le_of_ble_eq_true g4, fun r hr => hr.1, fun r q hq => ⟨hXX r (H.fix r q hq).1, (H.fix r q hq).2⟩⟩
        · obtain ⟨o, ho, rfl⟩ := hpre b so hso
          obtain ⟨p1, p2, _⟩ := gpre _ ho
          obtain ⟨so', q1, q2⟩ := hin _ ho
          obtain ⟨_, r2, o', r3, r4⟩ := H.live _ _ q1
          exact ⟨p1, fun hx => hx.2 _ ho rfl, o', r3, OL.un_HO (σ := σ) (B' := B) hB0 p1 p2 q2 r4⟩
        · obtain ⟨o, ho, _⟩ := hpre b so hb
          obtain ⟨o', ho', _⟩ := hpre b' so' hb'
          obtain ⟨q, q1, _⟩ := hin _ ho
          obtain ⟨q', q1', _⟩ := hin _ ho'
          have e : σ b = σ b' := H.inj _ _ _ _ q1 q1' hβ
          have := nodupN_ok c4 _ ho _ ho' e
          exact congrArg Prod.fst this
      have hl0 : LR (VV E B0 c.n0) c.args vs.toList := LR.un (fun _ _ => VV.un hB0) g1 hl
      obtain ⟨a1, a2⟩ := hcall _ _ _ _ _ _ hrun B0 X0 w vs H0 hl0
      refine ⟨a1, Calls.mono a2 fun e w' he => ?_⟩
      obtain ⟨v', B1, rfl, e1, e2, e3, e4, e5⟩ := he
      let B' : Be := ⟨fun b => if b < n then B.β b else B1.β (b - n + c.n0), fun b => if b < n then B.cp b else B1.cp (b - n + c.n0)⟩
      have hs : ∀ b, b < c.n1 → B'.β (ext' σ c.n0 n b) = B1.β b ∧ B'.cp (ext' σ c.n0 n b) = B1.cp b ∧ ext' σ c.n0 n b < n + (c.n1 - c.n0) := fun b hb => by
        unfold ext'
        split
        · rename_i hlt
          have hlt : b < c.n0 := by simpa using hlt
          have := hσn b hlt
          have := e1 b hlt
          simp only [B', this.1, this.2, hσn b hlt, if_true]
          exact ⟨rfl, rfl, by omega⟩
        · rename_i hlt
          have hlt : ¬ b < c.n0 := fun h => by rw [(by simpa using h : Nat.blt b c.n0 = true)] at hlt; cases hlt
          have h1 : ¬ n + (b - c.n0) < n := by omega
          have h2 : n + (b - c.n0) - n + c.n0 = b := by omega
          simp only [B', h1, if_false, h2]
          exact ⟨trivial, trivial, by omega⟩
      have hEx : Ext B B' n := fun b hb => by simp [B', hb]
      refine ⟨v', B', rfl, hEx, by omega, ?_, e4.mono hXX, e5.rn hs⟩
      have hpost : ∀ p ∈ c.post, ∃ so, h1.get p.1 = some so ∧ p.2.le so = true ∧ p.1 < c.n1 ∧ ¬ X0 (B1.β p.1) ∧ ∃ o', w'.heap[B1.β p.1]? = some o' ∧ HO E B1 c.n1 p.1 so o' := fun p hp => by
        obtain ⟨so, q1, q2⟩ := hout p hp
        obtain ⟨r1, r2, o', r3, r4⟩ := e3.live _ _ q1
        exact ⟨so, q1, q2, r1, r2, o', r3, r4⟩
      have hlim : ∀ p ∈ c.post.map (fun p => (ext' σ c.n0 n p.1, p.2.rn (ext' σ c.n0 n))), p.1 < lim := fun p hp => by
        obtain ⟨q, hq, rfl⟩ := List.mem_map.1 hp
        obtain ⟨_, _, _, r, _⟩ := hpost q hq
        have := (hs q.1 r).2.2
        dsimp only
        omega
      -- a block of the new heap: of the run, or old
      have part : ∀ b so, (putL (c.post.map fun p => (ext' σ c.n0 n p.1, p.2.rn (ext' σ c.n0 n))) h).get b = some so →
          (∃ p ∈ c.post, b = ext' σ c.n0 n p.1 ∧ so = (p.2.rn (ext' σ c.n0 n)).so) ∨ (h.get b = some so ∧ X0 (B.β b)) := fun b so hb => by
        rcases putL_old hlim hb with ⟨o, h1, h2⟩ | ⟨h1, h2⟩
        · obtain ⟨q, hq, e⟩ := List.mem_map.1 h1
          simp only [Prod.mk.injEq] at e
          obtain ⟨rfl, rfl⟩ := e
          exact .inl ⟨q, hq, rfl, h2⟩
        · refine .inr ⟨h1, H.lt_size h1, fun p hp he => ?_⟩
          obtain ⟨so', q1, _⟩ := hin p hp
          obtain ⟨p1, _, o, p3⟩ := gpre p hp
          have e := H.inj _ _ _ _ q1 h1 he
          have : ext' σ c.n0 n p.1 = σ p.1 := by
            unfold ext'
            rw [(by simpa using p1 : Nat.blt p.1 c.n0 = true)]
          exact h2 _ (List.mem_map.2 ⟨_, p3, rfl⟩) (by rw [← e]; exact this)
      refine ⟨fun b so hb => ?_, fun b b' so so' hb hb' hβ => ?_, htop, fun r hr => by have := H.out r hr; have := e4.size; omega, fun r q hq => ⟨(H.fix r q hq).1, (e3.fix r q hq).2⟩⟩
      · rcases part b so hb with ⟨p, hp, rfl, rfl⟩ | ⟨hb, hx⟩
        · obtain ⟨so', q1, q2, q3, q4, o', q5, q6⟩ := hpost p hp
          refine ⟨(hs _ q3).2.2, by rw [(hs _ q3).1]; exact fun hx => q4 (hXX _ hx), o', by rw [(hs _ q3).1]; exact q5, OL.rn_HO hs q3 q2 q6⟩
        · obtain ⟨r1, r2, o', r3, r4⟩ := H.live b so hb
          have hβ : B'.β b = B.β b := (hEx b r1).1
          exact ⟨by omega, by rw [hβ]; exact r2, o', by rw [hβ, e4.block _ hx, r3], r4.ext hEx (by omega) r1⟩
      · rcases part b so hb with ⟨p, hp, rfl, rfl⟩ | ⟨hb, hx⟩ <;> rcases part b' so' hb' with ⟨q, hq, rfl, rfl⟩ | ⟨hb', hx'⟩
        · obtain ⟨s1, q1, _, q3, _⟩ := hpost p hp
          obtain ⟨s2, r1, _, r3, _⟩ := hpost q hq
          rw [(hs _ q3).1, (hs _ r3).1] at hβ
          rw [e3.inj _ _ _ _ q1 r1 hβ]
        · obtain ⟨s1, q1, _, q3, q4, _⟩ := hpost p hp
          rw [(hs _ q3).1, (hEx b' (H.live b' so' hb').1).1] at hβ
          rw [hβ] at q4
          exact absurd hx' q4
        · obtain ⟨s1, q1, _, q3, q4, _⟩ := hpost q hq
          rw [(hs _ q3).1, (hEx b (H.live b so hb).1).1] at hβ
          rw [← hβ] at q4
          exact absurd hx q4
        · rw [(hEx b (H.live b so hb).1).1, (hEx b' (H.live b' so' hb').1).1] at hβ
          exact H.inj _ _ _ _ hb hb' hβ
    · cases g5
  · cases hu
end Go.Cx
/- Contracts of the library's functions, out of the kit's shelf. -/
namespace Go.Cx
open Go.Proofs Go.Shelf Go.Lib Go.RowKit
variable {P : Program} {E : Env} {F : Fx} {ρ : Ren}

theorem HR.below {B : Be} {X : Nat → Prop} {n : Nat} {h : Hp} {w w' : World} (H : HR E B X n h w) (hb : Below w.heap.size w w') : HR E B X n h w' ∧ FR X w w' :=
  ⟨⟨fun b o ho => let ⟨a, c, o', d, e⟩ := H.live b o ho; ⟨a, c, o', by rw [hb.block _ (H.lt_size ho), d], e⟩, H.inj, H.top, fun r hr => by have := H.out r hr; have := hb.size; omega, fun r q hq => ⟨(H.fix r q hq).1, by rw [hb.block r (H.out r (H.fix r q hq).1)]; exact (H.fix r q hq).2⟩⟩,
    ⟨hb.os, hb.tape, hb.output, hb.size, fun r hr => hb.block r (H.out r hr)⟩⟩
/-! ### strings.Repeat -/
def repN (l : List Nat) : Nat → List Nat
  | 0 => []
  | k + 1 => l ++ repN l k
def eRepeat (args : List SV) (h : Hp) (n : Nat) : Option (SV × Hp × Nat) := match args with
  | [.a (.s (.str l)), .a (.s (.int .i64 0 (.ofNat k)))] => match Nat.ble (l.length * k) 140737488355328 && Nat.ble k 140737488355328 with
    | true => some (sc (.str (repN l k)), h, n)
    | false => none
  | _ => none
theorem repN_eq (l : List Nat) : ∀ k, (repN l k).map UInt8.ofNat = repeatL (l.map UInt8.ofNat) k
  | 0 => rfl
  | k + 1 => by rw [repN, List.map_append, repN_eq l k]; simp [repeatL]
theorem repN_mem {l : List Nat} {x : Nat} : ∀ {k : Nat}, x ∈ repN l k → x ∈ l
  | 0, h => by cases h
  | k + 1, h => by
    rcases List.mem_append.1 h with h | h
    · exact h
    · exact repN_mem h
theorem repeat_ok (L : Lays.n105 P ρ) (X : Builder.Extra P ρ) (hca : callable P (ρ.f 105) = true) : CallOk P E (ρ.f 105) eRepeat := by
  intro args h n v h' n' hr B X0 w vs H hl
  refine ⟨run_callable hca vs w, ?_⟩
  unfold eRepeat at hr
  split at hr
  · rename_i l k
    split at hr
    · rename_i hc
      simp only [Bool.and_eq_true] at hc
      have hc1 := Nat.le_of_ble_eq_true hc.1
      have hc2 := Nat.le_of_ble_eq_true hc.2
      simp only [Option.some.injEq, Prod.mk.injEq] at hr
      obtain ⟨rfl, rfl, rfl⟩ := hr
      obtain ⟨a, r, e1, ⟨ha, ha'⟩, h2⟩ := hl.cons
      obtain ⟨b, r', rfl, hb, h3⟩ := h2.cons
      have := h3.nil
      subst this
      simp only [VV, VA, VC, val0] at hb
      subst ha; subst hb
      have hvs : vs = #[.string (bs l), .int .i64 (k : Nat)] := Array.ext' (by simpa using e1)
      subst hvs
      have hsz : (bs l).size = l.length := by simp [bs, ByteArray.size]
      refine Calls.mono (Any.strings_Repeat L X (bs l) k w (by omega) (by rw [hsz]; exact hc1)) ?_
      rintro e w' ⟨rfl, hbl⟩
      obtain ⟨H', F'⟩ := H.below hbl
      refine ⟨_, B, rfl, Ext.refl _ _, Nat.le_refl _, H', F', ?_, fun x hx => ha' x (repN_mem hx)⟩
      congr 1
      unfold bs
      congr 1
      rw [repN_eq]
    · cases hr
  · cases hr
/-! ### (*strings.Builder).copyCheck -/
def eCheck (T : Nat) (args : List SV) (h : Hp) (n : Nat) : Option (SV × Hp × Nat) := match args with
  | [.a (.s (.ptr b 0))] => match h.get b with
    | some (.cells c 2 e) => match Nat.beq e T, c.get 0 with
      | true, some .pnil => some (.t [], h.upd 24 b (some (.cells (c.upd 24 0 (some (.ptr b 0))) 2 e)), n)
      | true, some (.ptr b' 0) => match Nat.beq b' b with | true => some (.t [], h, n) | false => none
      | _, _ => none
    | _ => none
  | _ => none
theorem check_ok (L : Lays.n240 P ρ) (X : Builder.X72 P ρ) (hca : callable P (ρ.f 240) = true) : CallOk P E (ρ.f 240) (eCheck (ρ.t 72)) := by
  intro args h n v h' n' hr B X0 w vs H hl
  refine ⟨run_callable hca vs w, ?_⟩
  unfold eCheck at hr
  split at hr
  · rename_i b
    split at hr
    · rename_i c e hb
      obtain ⟨a, r, e1, ⟨ha, ha'⟩, h2⟩ := hl.cons
      have := h2.nil
      subst this; subst ha'
      have hvs : vs = #[.pointer (some ⟨B.β b, 0, none⟩)] := Array.ext' (by simpa using e1)
      subst hvs
      obtain ⟨q1, q2, o', q3, cs, fr, rfl, q4, q5, q6⟩ := H.live b _ hb
      have hsize : cs.size = 2 := q4.2.resolve_left (by omega)
      split at hr
      · rename_i hT h0
        have hT := Nat.eq_of_beq_eq_true hT
        simp only [Option.some.injEq, Prod.mk.injEq] at hr
        obtain ⟨rfl, rfl, rfl⟩ := hr
        obtain ⟨u, u1, u2⟩ := q6 0 _ h0
        simp only [VC] at u2
        subst u2
        have hcell : w.cell? ⟨B.β b, 0, none⟩ = some (.pointer none) := by simp [World.cell?, q3, u1]
        have hfz : w.frozen? ⟨B.β b, 0, none⟩ = false := by
          simp only [World.frozen?, q3]
          rcases q5 with q5 | q5
          · simp only [q5]; simp
          · rw [hsize] at q5
            simp; omega
        refine Calls.mono (Any.Builder_copyCheck_fresh L X (B.β b) w hcell (by simp [World.shape?, q3, hT, hsize]) hfz) ?_
        rintro e w' ⟨rfl, rfl⟩
        obtain ⟨H', F'⟩ := H.setCell hb h0 (x := .ptr b 0) (v := .pointer (some ⟨B.β b, 0, none⟩)) (by unfold lim; omega) ⟨q1, rfl⟩
        exact ⟨_, B, rfl, Ext.refl _ _, Nat.le_refl _, H', F', #[], rfl, trivial⟩
      · rename_i b' hT h0
        split at hr
        · rename_i hbb
          have hbb := Nat.eq_of_beq_eq_true hbb
          subst hbb
          simp only [Option.some.injEq, Prod.mk.injEq] at hr
          obtain ⟨rfl, rfl, rfl⟩ := hr
          obtain ⟨u, u1, u2⟩ := q6 0 _ h0
          have u2 := u2.2
          subst u2
          have hcell : w.cell? ⟨B.β b', 0, none⟩ = some (.pointer (some ⟨B.β b', 0, none⟩)) := by simp [World.cell?, q3, u1]
          refine Calls.mono (Any.Builder_copyCheck_used L X (B.β b') w hcell) ?_
          rintro e w' ⟨rfl, rfl⟩
          exact ⟨_, B, rfl, Ext.refl _ _, Nat.le_refl _, H, FR.refl _ _, #[], rfl, trivial⟩
        · cases hr
      · cases hr
    · cases hr
  · cases hr
end Go.Cx
