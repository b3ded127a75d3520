/- ServerLate: at whatever input, in whatever world: true. -/
import Derived.Test.YtpaglaakleajmaaGreatDoorLatN
import Derived.Test.YtpaglaakleajmaaGreatDoorV5
set_option maxRecDepth 100000
set_option linter.unusedVariables false
set_option linter.unusedSimpArgs false
namespace Go.Cx
open Go.Proofs Go.RowKit
/-- the ints of a slice, in an object -/
def IntsAt (a : Option Addr) (len : Nat) (ob : Option Obj) (R : Nat → Int) : Prop :=
  len = 0 ∨ ∃ b off cs e fr, a = some ⟨b, off, none⟩ ∧ ob = some (.cells cs e fr) ∧ ∀ i, i < len → cs[off + i]? = some (.int .i64 (R i))
def nOf (R : Nat → Int) (j : Nat) : Nat := (BitVec.ofInt 64 (R j) &&& BitVec.ofInt 64 31).toNat
theorem nOf_le (R : Nat → Int) (j : Nat) : nOf R j ≤ 31 := by
  unfold nOf
  rw [BitVec.toNat_and]
  exact Nat.and_le_right
def nowOf (R : Nat → Int) : Nat → Nat
  | 0 => 0
  | i + 1 => nowOf R i + nOf R i + 1
theorem nowOf_le (R : Nat → Int) : ∀ i, nowOf R i ≤ 32 * i
  | 0 => Nat.le_refl _
  | i + 1 => by have := nowOf_le R i; have := nOf_le R i; simp only [nowOf]; omega
theorem sbL_nil (v : Nat) : sbL [] v = (v, 0) := rfl
theorem sbL_cons (k : Nat) (p : Nat × Int) (r : List (Nat × Nat × Int)) (v : Nat) : sbL ((k, p) :: r) v = if v = k then p else sbL r v := by
  simp only [sbL]
  split
  · rename_i h; rw [if_pos (Nat.eq_of_beq_eq_true h)]
  · rename_i h; rw [if_neg (nbeq h)]
theorem outN_cons {k : Nat} {r : List Nat} {v : Nat} (h : outN (k :: r) v = true) : v ≠ k ∧ outN r v = true := by
  simp only [outN] at h
  split at h
  · cases h
  · rename_i hb; exact ⟨nbeq hb, h⟩
section
variable {a : Option Addr} {len cap : Nat} {ob : Option Obj} {R : Nat → Int}
/-- the variables at the start -/
def lE (a : Option Addr) (len cap : Nat) (ob : Option Obj) : Env := ⟨fun v => if v = 8 then len else 0, fun _ => .slice a len cap, fxOf a ob⟩
/-- .. as the i-th outer round begins -/
def lEo (a : Option Addr) (len cap : Nat) (ob : Option Obj) (R : Nat → Int) (i : Nat) : Env := (((((lE a len cap ob).set 5 (nowOf R i)).set 9 i).set 20 (nOf R i)).set 21 (R i)).set 25 (nowOf R (i + 1))
/-- .. as its k-th inner round begins -/
def lEi (a : Option Addr) (len cap : Nat) (ob : Option Obj) (R : Nat → Int) (i k : Nat) : Env := ((lEo a len cap ob R i).set 7 (nowOf R i + k)).set 10 k
theorem lEo_val {i v : Nat} : (lEo a len cap ob R i).val v = if v = 25 then (nowOf R (i + 1) : Int) else if v = 21 then R i else if v = 20 then (nOf R i : Int) else if v = 9 then (i : Int) else if v = 5 then (nowOf R i : Int) else if v = 8 then (len : Int) else 0 := by
  unfold lEo
  rw [Env.val_set (by omega), Env.val_set (by omega), Env.val_set (by omega), Env.val_set (by omega), Env.val_set (by omega)]
  cases v with
  | zero => simp [Env.val]
  | succ v => simp [Env.val, lE]
theorem lEi_val {i k v : Nat} : (lEi a len cap ob R i k).val v = if v = 10 then (k : Int) else if v = 7 then (nowOf R i + k : Int) else (lEo a len cap ob R i).val v := by
  unfold lEi
  rw [Env.val_set (by omega), Env.val_set (by omega)]
theorem lE_val {v : Nat} : (lE a len cap ob).val v = if v = 8 then (len : Int) else 0 := by
  cases v with
  | zero => simp [Env.val]
  | succ v => simp [Env.val, lE]
theorem lat_lenE {v : Env} (h1 : v.η = fun _ => .slice a len cap) (h2 : v.val 8 = len) : ∀ p ∈ [(1, 8)], ∃ a' len' cap', v.η p.1 = .slice a' len' cap' ∧ v.val p.2 = len' := by
  intro p hp
  simp only [List.mem_singleton] at hp
  subst hp
  exact ⟨a, len, cap, by rw [h1], h2⟩
theorem lat_el (hL : IntsAt a len ob R) {E : Env} {i : Nat} (hi : i < len) (h1 : E.η = fun _ => .slice a len cap) (h2 : E.fx = fxOf a ob) (h9 : E.val 9 = i) (h21 : E.val 21 = R i) :
    ∃ b off len' cap' cs e fr, E.η 1 = .slice (some ⟨b, off, none⟩) len' cap' ∧ E.fx b = some (.cells cs e fr) ∧ ∀ (q : Nat) (kd : IntKind) (x : Nat) (d : Int), latEl[q]? = some (.int kd x d) → cs[off + (E.val 9).toNat * latEl.length + q]? = some (.int kd (E.val x + d)) := by
  rcases hL with h | ⟨b, off, cs, e, fr, rfl, rfl, h⟩
  · omega
  · refine ⟨b, off, len, cap, cs, e, fr, by rw [h1], by rw [h2]; simp [fxOf, blkOf], fun q kd x d hq => ?_⟩
    match q, hq with
    | 0, hq =>
      simp only [latEl, List.getElem?_cons_zero, Option.some.injEq, SC.int.injEq] at hq
      obtain ⟨rfl, rfl, rfl⟩ := hq
      rw [h9, h21]
      simpa [latEl] using h i hi
    | q + 1, hq => simp [latEl] at hq
theorem lat_msk {E : Env} {i : Nat} (h20 : E.val 20 = nOf R i) (h21 : E.val 21 = R i) : ∀ u q w, latMk = some (u, q, w) → IntKind.i64.wrap (BitVec.ofInt 64 (E.val u) &&& BitVec.ofInt 64 q).toNat = E.val w := by
  intro u q w h
  simp only [latMk, Option.some.injEq, Prod.mk.injEq] at h
  obtain ⟨rfl, rfl, rfl⟩ := h
  rw [h21, h20]
  have h31 := nOf_le R i
  have hmin : IntKind.min .i64 = -9223372036854775808 := by decide
  have hmax : IntKind.max .i64 = 9223372036854775807 := by decide
  exact wrap_id .i64 _ (by rw [hmin]; show (-9223372036854775808 : Int) ≤ (nOf R i : Nat); omega) (by rw [hmax]; show ((nOf R i : Nat) : Int) ≤ 9223372036854775807; omega)
variable (hlen : len ≤ 40) (hL : IntsAt a len ob R)
include hlen hL
theorem lat_Fo {i : Nat} (hi : i < len) : FxOk latFo (lEo a len cap ob R i) := by
  have h1 := nowOf_le R i
  have h2 := nOf_le R i
  have h3 : nowOf R (i + 1) = nowOf R i + nOf R i + 1 := rfl
  refine fxE_ok ?_ ?_ (lat_lenE rfl (by simp [lEo_val])) (lat_el hL hi rfl rfl (by simp [lEo_val]) (by simp [lEo_val])) (lat_msk (R := R) (i := i) (by simp [lEo_val]) (by simp [lEo_val]))
  · simp [lEo_val]; omega
  · simp [lEo_val]; omega
theorem lat_Fi {i k : Nat} (hi : i < len) (hk : k < nOf R i + 1) : FxOk latFi (lEi a len cap ob R i k) := by
  have h1 := nowOf_le R i
  have h2 := nOf_le R i
  refine fxE_ok ?_ ?_ (lat_lenE rfl (by simp [lEi_val, lEo_val])) (lat_el hL hi rfl rfl (by simp [lEi_val, lEo_val]) (by simp [lEi_val, lEo_val])) (lat_msk (R := R) (i := i) (by simp [lEi_val, lEo_val]) (by simp [lEi_val, lEo_val]))
  · simp [lEi_val, lEo_val]; omega
  · simp [lEi_val, lEo_val]; omega
theorem lat_Fe {i : Nat} (hi : i < len) : FxOk latFe (lEi a len cap ob R i (nOf R i + 1)) := by
  have h1 := nowOf_le R i
  have h2 := nOf_le R i
  refine fxE_ok ?_ ?_ (lat_lenE rfl (by simp [lEi_val, lEo_val])) (lat_el hL hi rfl rfl (by simp [lEi_val, lEo_val]) (by simp [lEi_val, lEo_val])) (lat_msk (R := R) (i := i) (by simp [lEi_val, lEo_val]) (by simp [lEi_val, lEo_val]))
  · simp [lEi_val, lEo_val]; omega
  · simp [lEi_val, lEo_val]; omega
omit hL in
theorem lat_Fz : FxOk latFz (lEo a len cap ob R len) := by
  have h1 := nowOf_le R len
  refine fxL_ok ?_ ?_ (lat_lenE rfl (by simp [lEo_val]))
  · simp [lEo_val]; omega
  · simp [lEo_val]
omit hlen hL in
theorem lat_codes : codeT (lookT TAB 9) lat0 = true ∧ codeT (lookT TAB 9) lat2 = true := by
  obtain ⟨_, c2⟩ := codeF_ok Tryz.func9 lat_body
  have h0 : codeT (lookT TAB 9) lat0 = true := by
    have := codeT_blk (id := 0) c2
    rw [isL_eq lat_l0] at this
    exact this
  refine ⟨h0, ?_⟩
  have := codeT_blk (id := 2) h0
  rw [isL_eq lat_l2] at this
  exact this
theorem lat_inner {i : Nat} (hi : i < len) (X : Nat → Prop) : DOkY Tryz.prog (lEo a len cap ob R i) (fun _ => True) X Tryz.f9.ntmps (.block 2 (blkC 2 lat0)) latIn := by
  rw [isL_eq lat_l2]
  refine loopHook_ok (T := nOf R i + 1) (.inr rfl) (EE := lEi a len cap ob R i) (I := fun _ => latJ) (d1 := fun _ => latT latFi lat2) (d2 := latT latFe lat2) (fun _ _ _ _ => trivial)
    (fun k X' hk _ => (bodyT_ok (lat_Fi hlen hL hi hk) (extN_ok _) lat_codes.2).y) (fun X' _ => (bodyT_ok (lat_Fe hlen hL hi) (extN_ok _) lat_codes.2).y) ?_ (fun k _ => ⟨_, _, _, ?_, lat_i1⟩) ⟨_, _, _, ?_, lat_i2⟩
  · refine ⟨fun v _ => ?_, rfl, rfl⟩
    simp only [lj0, sbL_cons, sbL_nil, lEi_val]
    by_cases h7 : v = 7
    · subst h7; simp [lEo_val]
    by_cases h10 : v = 10
    · subst h10; simp [Env.val]
    simp [h7, h10]
  · refine ⟨fun v _ => ?_, rfl, rfl⟩
    simp only [lj1, sbL_cons, sbL_nil, lEi_val]
    by_cases h7 : v = 7
    · subst h7; simp; omega
    by_cases h10 : v = 10
    · subst h10; simp
    simp [h7, h10]
  · refine ⟨fun v hv => ?_, rfl, rfl⟩
    obtain ⟨h7, hv⟩ := outN_cons hv
    obtain ⟨h10, _⟩ := outN_cons hv
    simp only [lj2, sbL_cons, sbL_nil, lEi_val]
    by_cases h25 : v = 25
    · subst h25; simp [lEo_val, nowOf]; omega
    simp [h7, h10, h25]
theorem lat_outer (X : Nat → Prop) : DOkY Tryz.prog (lE a len cap ob) (fun _ => True) X Tryz.f9.ntmps (.block 0 (blkC 0 (codeF Tryz.f9))) latOut := by
  rw [isL_eq lat_l0]
  refine loopHook_ok (T := len) (.inr rfl) (EE := lEo a len cap ob R) (I := fun _ => latI) (d1 := fun _ => latH) (d2 := latT latFz lat0) (fun _ _ _ _ => trivial)
    (fun i X' hi _ => compH_ok (drawOk mixed_ok) (lat_Fo hlen hL hi) (fun _ _ _ _ => trivial) (callD_ok (drawOk mixed_ok) (lat_Fo hlen hL hi) (fun _ _ _ hf hc => lookT_ok hf hc tab_ok) (extN_ok _) 59) lat0 lat_codes.1 (hook_cnt1 _ lat_c2 (lat_inner hlen hL hi X')))
    (fun X' _ => (bodyT_ok (lat_Fz hlen) (extN_ok _) lat_codes.1).y) ?_ (fun i _ => ⟨_, _, _, ?_, lat_o1⟩) ⟨_, _, vNo, ⟨fun v hv => (by cases hv), rfl, rfl⟩, lat_o2⟩
  · refine ⟨fun v hv => ?_, rfl, rfl⟩
    obtain ⟨h20, hv⟩ := outN_cons hv
    obtain ⟨h21, hv⟩ := outN_cons hv
    obtain ⟨h25, _⟩ := outN_cons hv
    simp only [lo0, sbL_cons, sbL_nil, lEo_val, lE_val]
    by_cases h5 : v = 5
    · subst h5; simp [nowOf]
    by_cases h9 : v = 9
    · subst h9; simp
    simp [h5, h9, h20, h21, h25]
  · refine ⟨fun v hv => ?_, rfl, rfl⟩
    obtain ⟨h20, hv⟩ := outN_cons hv
    obtain ⟨h21, hv⟩ := outN_cons hv
    obtain ⟨h25, _⟩ := outN_cons hv
    simp only [lo1, sbL_cons, sbL_nil, lEo_val]
    by_cases h5 : v = 5
    · subst h5; simp
    by_cases h9 : v = 9
    · subst h9; simp
    simp [h5, h9, h20, h21, h25]
theorem lat_short (W : World) (hW : ∀ r o, fxOf a ob r = some o → W.heap[r]? = some o) : Calls Tryz.prog 9 #[.slice a len cap] W fun e w' => e = .returned (.bool true) ∧ Below W.heap.size W w' := by
  refine says_run (E := lE a len cap ob) (runH_ok (F := latF) (fxL_ok (by simp [lE_val]; omega) (by simp) (lat_lenE rfl (by simp [lE_val]))) (extN_ok _) Tryz.func9 lat_body lat_call fun X => hook_cnt1 _ lat_c0 (lat_outer hlen hL X)) lat_w W _ ⟨⟨rfl, rfl⟩, trivial⟩ hW
end
theorem late_all {a : Option Addr} {len cap : Nat} {ob : Option Obj} {R : Nat → Int} (hl : (len : Int) ≤ maxI) (hL : IntsAt a len ob R) (W : World) (hW : ∀ r o, fxOf a ob r = some o → W.heap[r]? = some o) :
    Calls Tryz.prog 9 #[.slice a len cap] W fun e w' => e = .returned (.bool true) ∧ Below W.heap.size W w' := by
  by_cases h : len ≤ 40
  · exact lat_short h hL W hW
  · exact law_run (E := lE a len cap ob) (fxL_ok (by simp [lE_val]; omega) (by simp) (lat_lenE rfl (by simp [lE_val]))) (extJ_ok _) lat_long W _ ⟨⟨rfl, rfl⟩, trivial⟩ hW
end Go.Cx
namespace Go.Proofs.YtpaglaakleajmaaGreatDoor
open Go.ChangeShapes Go.WideShapes Go.ChangeAt Go.RowKit Go.Lib
theorem cells1 {w : World} {base : Nat} {b o : Nat} {l : List Value} (h : w.cells? base ⟨b, o, none⟩ 1 = some l) : ∃ v0, l = [v0] ∧ w.cell? ⟨b, o, none⟩ = some v0 := by
  unfold World.cells? at h
  split at h
  · simp only [List.range_succ, List.range_zero, List.nil_append, List.mapM_cons, List.mapM_nil, add_none, Option.bind_eq_bind, Option.bind_eq_some_iff, Option.pure_def, Option.some.injEq] at h
    obtain ⟨v0, h0, l1, rfl, rfl⟩ := h
    exact ⟨v0, rfl, by simpa using h0⟩
  · cases h
theorem ints_at {H : Type} {enc : TypeId × Value → H} {W : World} {base : Nat} {sp : Nat → Bool} {hd : Bool} {r : Reach} {b : Nat} {v : Value} {d : DataW H} {p : List MemPlace} (hv : Value.okWide Tryz.prog W r b 57 v) (ht : DataW.Trod enc Tryz.prog W base sp hd 57 v d p) :
    ∃ (a : Option Addr) (len cap : Nat) (ob : Option Obj) (R : Nat → Int), v = .slice a len cap ∧ (len : Int) ≤ 9223372036854775807 ∧ Cx.IntsAt a len ob R ∧ ∀ r o, Cx.fxOf a ob r = some o → W.heap[r]? = some o := by
  have hc : Cell.okWide Tryz.prog W r b 57 v := by simpa only [Value.okWide, Tryz.underlying57] using hv
  obtain ⟨a, len, cap, rfl, hlen⟩ := cell_slice Tryz.underlying57 hc
  by_cases h0 : len = 0
  · refine ⟨a, len, cap, none, fun _ => 0, rfl, hlen, .inl h0, fun r o h => ?_⟩
    unfold Cx.fxOf at h
    split at h <;> cases h
  · obtain ⟨fuel, hf⟩ := ht
    change DataW.trod enc Tryz.prog W base sp hd fuel 57 [.slice a len cap] = some (d, p) at hf
    rcases DataW.trod_slice Tryz.underlying57 hf with ⟨h, _⟩ | ⟨ad, len', cap', elems, rest, m, _, hcs, _, _, _, _, hel, hget, _⟩
    · simp only [List.cons.injEq, Value.slice.injEq, and_true] at h
      omega
    · simp only [List.cons.injEq, Value.slice.injEq, and_true] at hcs
      obtain ⟨rfl, rfl, rfl⟩ := hcs
      have hsp := slice_spot Tryz.underlying57 hc
      obtain ⟨bl, off, sp'⟩ := ad
      simp only at hsp
      subst hsp
      have key : ∀ i, i < len → ∃ x0 : Int, W.cell? ⟨bl, off + i, none⟩ = some (.int .i64 x0) := by
        intro i hi
        have hg := hget i hi
        have hi' : i < elems.length := by omega
        rw [List.getElem?_eq_getElem hi', c3, add_none, Nat.mul_one] at hg
        obtain ⟨l, hl, ht'⟩ := Option.bind_eq_some_iff.1 hg
        obtain ⟨v0, rfl, q0⟩ := cells1 hl
        obtain ⟨x, e1, _⟩ := DataW.trod_int Tryz.underlying3 ht'
        simp only [List.cons.injEq, and_true] at e1
        exact ⟨x, by rw [q0, e1]⟩
      obtain ⟨x0, q0⟩ := key 0 (by omega)
      obtain ⟨cs, e, fr, hob, _⟩ := cell_obj q0
      have cget : ∀ {o : Nat} {v : Value}, W.cell? ⟨bl, o, none⟩ = some v → cs[o]? = some v := fun h => by
        obtain ⟨cs', e', fr', hb, hc⟩ := cell_obj h
        rw [hob] at hb
        simp only [Option.some.injEq, Obj.cells.injEq] at hb
        obtain ⟨rfl, _, _⟩ := hb
        exact hc
      refine ⟨_, len, cap, some (.cells cs e fr), fun i => if h : i < len then Classical.choose (key i h) else 0, rfl, hlen, .inr ⟨bl, off, cs, e, fr, rfl, rfl, fun i hi => ?_⟩, fun r o h => ?_⟩
      · have hs := Classical.choose_spec (key i hi)
        simp only [hi, dite_true]
        exact cget hs
      · unfold Cx.fxOf at h
        split at h
        · rename_i hb
          simp only [Cx.blkOf, Option.some.injEq] at hb
          subst hb
          rw [hob, h]
        · cases h
theorem rows57 : ∀ t ∈ ([57] : List Nat), Tryz.prog.readableRec t = true ∧ t < Tryz.prog.types.size := by
  have h1 : Tryz.prog.readableRec 57 = true := by kernel_rfl
  have h3 : Nat.blt 57 Tryz.prog.types.size = true := by kernel_rfl
  have h3 : 57 < Tryz.prog.types.size := Nat.le_of_ble_eq_true h3
  intro t ht
  simp only [List.mem_cons, List.not_mem_nil, or_false] at ht
  subst ht
  exact ⟨h1, h3⟩
theorem aLatcontract (H : Type) (enc : TypeId × Value → H) (W : World) (base : Nat) (args : Array Value) (ds gs : List (DataW H)) (before : List MemPlace)
    (hval : ∀ (j : Nat) t v, Tryz.f9.params[j]? = some t → args[j]? = some v → Value.okWide Tryz.prog W .any base t v)
    (hW : DataW.Whole enc Tryz.prog Tryz.f9.params.toList Rows.serverLateSpec.vars false W args.toList ds gs before) :
    Calls Tryz.prog 9 args W fun e W' => ∃ v, e = .returned v ∧ Rows.serverLateSpec.post enc Tryz.prog Tryz.f9 false true false false W args v W' := by
  refine close_law (ts := [57]) (by rw [Tryz.params9]) rfl rfl (fun H ds h => ?_) rows57 hW ?_
  · match ds, h with
    | [d1], _ => rfl
  · obtain ⟨p, q, hA0, _, _, _, _⟩ := hW
    have hA : DataW.TrodAll enc Tryz.prog W 0 (fun _ => true) true Tryz.f9.params.toList args.toList ds p := hA0
    rw [Tryz.params9] at hA hval
    obtain ⟨v0, vs0, d0, ds0, p0, q0, hargs, rfl, rfl, h0, r0⟩ := trodAll_cons hA
    obtain ⟨rfl, rfl, rfl⟩ := trodAll_nil r0
    obtain rfl : args = #[v0] := by cases args; simp_all
    obtain ⟨a, len, cap, ob, R, rfl, hlen, hL, hob⟩ := ints_at (hval 0 57 v0 rfl rfl) h0
    exact Cx.late_all hlen hL W hob
end Go.Proofs.YtpaglaakleajmaaGreatDoor
