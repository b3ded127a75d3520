/- The locks of a message that was handed in: as they lie in memory. -/
import Derived.Test.YtpaglaakleajmaaGreatDoorV2
import Derived.Test.YtpaglaakleajmaaGreatDoorK3
import Derived.Test.YtpaglaakleajmaaGreatDoorK4
set_option maxRecDepth 100000
set_option linter.unusedVariables false
set_option linter.unusedSimpArgs false
namespace Go.Proofs.YtpaglaakleajmaaGreatDoor
open Go.ChangeShapes Go.WideShapes Go.ChangeAt Go.RowKit Go.Lib
theorem c36 : Tryz.prog.cellsOf 36 = 1 := by kernel_rfl
theorem slice_spot {W : World} {r : Reach} {b t e : Nat} (ht : Tryz.prog.underlying t = some (.slice e)) {ad : Addr} {len cap : Nat} (h : Cell.okWide Tryz.prog W r b t (.slice (some ad) len cap)) : ad.spot = none := by
  simp only [Cell.okWide, ht, Cell.ok] at h
  exact h.2.2.2.1
theorem msg_spot {W : World} {r : Reach} {b : Nat} {c0 c1 c2 c3 c4 c5 c6 : Value} {ad : Addr} {len cap : Nat} (hv : Value.okWide Tryz.prog W r b 38 (.agg #[c0, c1, c2, c3, c4, c5, c6, .slice (some ad) len cap])) : ad.spot = none := by
  simp only [Value.okWide, Tryz.underlying38] at hv
  obtain ⟨cs, hcs, hsz, ts, hts, _, hcell⟩ := hv
  rw [cts38] at hts
  simp only [Option.some.injEq, Value.agg.injEq] at hts hcs
  subst hts; subst hcs
  obtain ⟨u7, e7, q7⟩ := hcell 7 (.slice (some ad) len cap) rfl
  cases e7
  exact slice_spot Tryz.underlying36 q7
theorem cell_obj {w : World} {b o : Nat} {v : Value} (h : w.cell? ⟨b, o, none⟩ = some v) : ∃ cs e fr, w.heap[b]? = some (.cells cs e fr) ∧ cs[o]? = some v := by
  simp only [World.cell?] at h
  split at h
  · rename_i cs e fr hb
    exact ⟨cs, e, fr, hb, by simpa using h⟩
  · cases h
theorem add_none (b o j : Nat) : (⟨b, o, none⟩ : Addr).add j = ⟨b, o + j, none⟩ := Cx.add_at b o j
/-- a row of three cells -/
theorem cells3 {w : World} {base : Nat} {b o : Nat} {l : List Value} (h : w.cells? base ⟨b, o, none⟩ 3 = some l) : ∃ v0 v1 v2, l = [v0, v1, v2] ∧ w.cell? ⟨b, o, none⟩ = some v0 ∧ w.cell? ⟨b, o + 1, none⟩ = some v1 ∧ w.cell? ⟨b, o + 2, none⟩ = some v2 := by
  unfold World.cells? at h
  split at h
  · simp only [List.range_succ, List.range_zero, List.nil_append, List.cons_append, List.mapM_cons, List.mapM_nil, add_none, Option.bind_eq_bind, Option.bind_eq_some_iff, Option.pure_def, Option.some.injEq] at h
    obtain ⟨v0, h0, l1, ⟨v1, h1, l2, ⟨v2, h2, l3, rfl, rfl⟩, rfl⟩, rfl⟩ := h
    exact ⟨v0, v1, v2, rfl, by simpa using h0, h1, h2⟩
  · cases h
theorem lock_trod {H : Type} {enc : TypeId × Value → H} {W : World} {base : Nat} {sp : Nat → Bool} {hd : Bool} {n : Nat} {v0 v1 v2 : Value} {y : DataW H × List MemPlace} (h : DataW.trod enc Tryz.prog W base sp hd n 47 [v0, v1, v2] = some y) :
    ∃ x0 x1 x2 : Int, v0 = .int .i64 x0 ∧ v1 = .int .i64 x1 ∧ v2 = .int .i64 x2 ∧ (Lit.int .i64 x0).wf = true ∧ (Lit.int .i64 x1).wf = true ∧ (Lit.int .i64 x2).wf = true := by
  obtain ⟨y0, y1, m, hx, _, h0, h1⟩ := trod_struct2 Tryz.underlying47 h
  simp only [c45, c3, List.drop_zero, List.take_succ_cons, List.take_zero, List.drop_succ_cons] at h0 h1
  obtain ⟨z0, z1, n', hx', _, g0, g1⟩ := trod_struct2 Tryz.underlying45 h0
  simp only [c3, List.drop_zero, List.take_succ_cons, List.take_zero, List.drop_succ_cons] at g0 g1
  obtain ⟨x, e1, e2, e3⟩ := DataW.trod_int Tryz.underlying3 g0
  obtain ⟨y, f1, f2, f3⟩ := DataW.trod_int Tryz.underlying3 g1
  obtain ⟨m', k1, k2, k3⟩ := DataW.trod_int Tryz.underlying3 h1
  simp only [List.cons.injEq, and_true] at e1 f1 k1
  exact ⟨x, y, m', e1, f1, k1, e3, f3, k3⟩
theorem locks_at {H : Type} {enc : TypeId × Value → H} {W : World} {base : Nat} {sp : Nat → Bool} {hd : Bool} {r : Reach} {b : Nat} {c0 c1 c2 c3' c4 c5 c6 : Value} {a : Option Addr} {len cap : Nat} {d : DataW H} {p : List MemPlace}
    (hv : Value.okWide Tryz.prog W r b 38 (.agg #[c0, c1, c2, c3', c4, c5, c6, .slice a len cap])) (ht : DataW.Trod enc Tryz.prog W base sp hd 38 (.agg #[c0, c1, c2, c3', c4, c5, c6, .slice a len cap]) d p) :
    ∃ (ob : Option Obj) (L : Nat → Int × Int × Int), Cx.LocksAt a len ob L ∧ (∀ r o, Cx.fxOf a ob r = some o → W.heap[r]? = some o) ∧
      ∀ j, j < len → (-9223372036854775808 ≤ (L j).1 ∧ (L j).1 ≤ 9223372036854775807) ∧ (-9223372036854775808 ≤ (L j).2.1 ∧ (L j).2.1 ≤ 9223372036854775807) ∧ (-9223372036854775808 ≤ (L j).2.2 ∧ (L j).2.2 ≤ 9223372036854775807) := by
  by_cases h0 : len = 0
  · refine ⟨none, fun _ => (0, 0, 0), .inl h0, fun r o h => ?_, fun j hj => by omega⟩
    unfold Cx.fxOf at h
    split at h <;> cases h
  · obtain ⟨fuel, hf⟩ := ht
    obtain ⟨xs, n, _, _, _, hlen, hall⟩ := DataW.trod_struct Tryz.underlying38 hf
    have h7 := hall 7 _ rfl
    change DataW.trod enc Tryz.prog W base sp hd n 36 (List.take (Tryz.prog.cellsOf 36) [.slice a len cap]) = xs[7]? at h7
    rw [c36] at h7
    simp only [List.take_succ_cons, List.take_zero] at h7
    have hx7 : ∃ y, xs[7]? = some y := by
      have : 7 < xs.length := by rw [hlen]; decide
      exact ⟨_, List.getElem?_eq_getElem this⟩
    obtain ⟨y, hy⟩ := hx7
    rw [hy] at h7
    rcases DataW.trod_slice Tryz.underlying36 h7 with ⟨h, _⟩ | ⟨ad, len', cap', elems, rest, m, _, hcs, _, _, _, _, hel, hget, _⟩
    · simp only [List.cons.injEq, Value.slice.injEq, and_true] at h
      omega
    · simp only [List.cons.injEq, Value.slice.injEq, and_true] at hcs
      obtain ⟨rfl, rfl, rfl⟩ := hcs
      have hsp := msg_spot hv
      obtain ⟨bl, off, sp'⟩ := ad
      simp only at hsp
      subst hsp
      have key : ∀ i, i < len → ∃ x0 x1 x2 : Int, W.cell? ⟨bl, off + i * 3, none⟩ = some (.int .i64 x0) ∧ W.cell? ⟨bl, off + i * 3 + 1, none⟩ = some (.int .i64 x1) ∧ W.cell? ⟨bl, off + i * 3 + 2, none⟩ = some (.int .i64 x2) ∧ (Lit.int .i64 x0).wf = true ∧ (Lit.int .i64 x1).wf = true ∧ (Lit.int .i64 x2).wf = true := by
        intro i hi
        have hg := hget i hi
        have hi' : i < elems.length := by omega
        rw [List.getElem?_eq_getElem hi', c47, add_none] at hg
        obtain ⟨l, hl, ht'⟩ := Option.bind_eq_some_iff.1 hg
        obtain ⟨v0, v1, v2, rfl, q0, q1, q2⟩ := cells3 hl
        obtain ⟨x0, x1, x2, rfl, rfl, rfl, w0, w1, w2⟩ := lock_trod ht'
        exact ⟨x0, x1, x2, q0, q1, q2, w0, w1, w2⟩
      have hob : ∃ cs e fr, W.heap[bl]? = some (.cells cs e fr) := by
        obtain ⟨x0, _, _, q0, _⟩ := key 0 (by omega)
        obtain ⟨cs, e, fr, hb, _⟩ := cell_obj q0
        exact ⟨cs, e, fr, hb⟩
      obtain ⟨cs, e, fr, hob⟩ := hob
      have cget : ∀ {o : Nat} {v : Value}, W.cell? ⟨bl, o, none⟩ = some v → cs[o]? = some v := fun h => by
        obtain ⟨cs', e', fr', hb, hc⟩ := cell_obj h
        rw [hob] at hb
        simp only [Option.some.injEq, Obj.cells.injEq] at hb
        obtain ⟨rfl, _, _⟩ := hb
        exact hc
      refine ⟨some (.cells cs e fr), fun i => if h : i < len then (Classical.choose (key i h), Classical.choose (Classical.choose_spec (key i h)), Classical.choose (Classical.choose_spec (Classical.choose_spec (key i h)))) else (0, 0, 0), .inr ⟨bl, off, cs, e, fr, rfl, rfl, fun i hi => ?_⟩, fun r o h => ?_, fun i hi => ?_⟩
      · have hs := Classical.choose_spec (Classical.choose_spec (Classical.choose_spec (key i hi)))
        simp only [hi, dite_true]
        exact ⟨cget hs.1, cget hs.2.1, cget hs.2.2.1⟩
      · unfold Cx.fxOf at h
        split at h
        · rename_i hb
          simp only [Cx.blkOf, Option.some.injEq] at hb
          subst hb
          rw [hob, h]
        · cases h
      · have hs := Classical.choose_spec (Classical.choose_spec (Classical.choose_spec (key i hi)))
        simp only [hi, dite_true]
        exact ⟨wf_range hs.2.2.2.1, wf_range hs.2.2.2.2.1, wf_range hs.2.2.2.2.2⟩
end Go.Proofs.YtpaglaakleajmaaGreatDoor
