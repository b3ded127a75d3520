/- msg.Valid, msg.Up: contracts at a message that is known. -/
import Derived.Test.YtpaglaakleajmaaGreatDoorV2
set_option maxRecDepth 100000
set_option linter.unusedVariables false
set_option linter.unusedSimpArgs false
namespace Go.Cx
open Go.Proofs Go.RowKit
theorem least {p : Nat → Prop} : ∀ {j : Nat}, p j → ∃ m, m ≤ j ∧ p m ∧ ∀ q, q < m → ¬ p q := by
  intro j
  induction j using Nat.strongRecOn with
  | _ j ih =>
    intro h
    by_cases hq : ∃ q, q < j ∧ p q
    · obtain ⟨q, h1, h2⟩ := hq
      obtain ⟨m, m1, m2, m3⟩ := ih q h1 h2
      exact ⟨m, by omega, m2, m3⟩
    · exact ⟨j, Nat.le_refl _, h, fun q h1 h2 => hq ⟨q, h1, h2⟩⟩
section
variable {k i nd g st ep er : Int} {a : Option Addr} {len cap : Nat} {ob : Option Obj} {L : Nat → Int × Int × Int}
theorem val_len' {j : Nat} : ∀ p ∈ [(1, 8)], ∃ a' len' cap', (valEE (valE [k, i, nd, g, st, ep, er, len] a len cap ob) L j).η p.1 = .slice a' len' cap' ∧ (valEE (valE [k, i, nd, g, st, ep, er, len] a len cap ob) L j).val p.2 = len' := by
  intro p hp
  simp only [List.mem_singleton] at hp
  subst hp
  exact ⟨a, len, cap, rfl, by simp [valEE, Env.set, Env.val, valE]⟩
theorem valid_good (h : MsgOk k i nd g st er len L) (hl : len ≤ 20) (hL : LocksAt a len ob L) (w : World) (hw : ∀ r o, fxOf a ob r = some o → w.heap[r]? = some o) :
    Calls Tryz.prog 34 #[.agg #[.int .i64 k, .int .i64 i, .int .i64 nd, .int .i64 g, .int .i64 st, .int .u64 ep, .int .i64 er, .slice a len cap]] w fun e w' => e = .returned (.bool true) ∧ Below w.heap.size w w' := by
  obtain ⟨h1, h2, h3, h4, h5, h6, h7⟩ := h
  refine val_long h1 h2 h3 h4 h5 h6 hl hL (Nat.le_refl _) h7 (.inr rfl) ?_ val_r2 val_t w hw
  exact fxL_ok (by simp [valR, okI, valEE, Env.set, Env.val, valE]; omega) (by simp [valEE, Env.set, Env.val, valE]) val_len'
theorem valid_bad (h : ¬ MsgOk k i nd g st er len L) (hl : len ≤ 20) (hL : LocksAt a len ob L) (rk : minI ≤ k ∧ k ≤ maxI) (ri : minI ≤ i ∧ i ≤ maxI) (rnd : minI ≤ nd ∧ nd ≤ maxI) (rg : minI ≤ g ∧ g ≤ maxI) (rst : minI ≤ st ∧ st ≤ maxI) (rer : minI ≤ er ∧ er ≤ maxI)
    (rl : ∀ j, j < len → (minI ≤ (L j).1 ∧ (L j).1 ≤ maxI) ∧ (minI ≤ (L j).2.1 ∧ (L j).2.1 ≤ maxI) ∧ (minI ≤ (L j).2.2 ∧ (L j).2.2 ≤ maxI)) (w : World) (hw : ∀ r o, fxOf a ob r = some o → w.heap[r]? = some o) :
    Calls Tryz.prog 34 #[.agg #[.int .i64 k, .int .i64 i, .int .i64 nd, .int .i64 g, .int .i64 st, .int .u64 ep, .int .i64 er, .slice a len cap]] w fun e w' => e = .returned (.bool false) ∧ Below w.heap.size w w' := by
  by_cases c1 : k < 1
  · exact val_short val1 hl (by simp [Env.val, valE]; omega) w hw
  by_cases c2 : 15 < k
  · exact val_short val2 hl (by simp [Env.val, valE]; omega) w hw
  by_cases c3 : i < 0
  · exact val_short val3 hl (by simp [Env.val, valE]; omega) w hw
  by_cases c4 : 2147483647 < i
  · exact val_short val4 hl (by simp [Env.val, valE]; omega) w hw
  by_cases c5 : nd < 0
  · exact val_short val5 hl (by simp [okI, Env.val, valE]; omega) w hw
  by_cases c6 : 2147483647 < nd
  · exact val_short val6 hl (by simp [okI, Env.val, valE]; omega) w hw
  by_cases c7 : g < 0
  · exact val_short val7 hl (by simp [okI, Env.val, valE]; omega) w hw
  by_cases c8 : 2147483647 < g
  · exact val_short val8 hl (by simp [okI, Env.val, valE]; omega) w hw
  by_cases c9 : st < 0
  · exact val_short val9 hl (by simp [okI, Env.val, valE]; omega) w hw
  by_cases c10 : 2147483647 < st
  · exact val_short val10 hl (by simp [okI, Env.val, valE]; omega) w hw
  by_cases c11 : er < 0
  · exact val_short val11 hl (by simp [okI, Env.val, valE]; omega) w hw
  by_cases c12 : 2147483647 < er
  · exact val_short val12 hl (by simp [okI, Env.val, valE]; omega) w hw
  have hbad : ∃ j, j < len ∧ ¬ lockOk (L j) := by
    apply Classical.byContradiction
    intro hn
    exact h ⟨by omega, by omega, by omega, by omega, by omega, by omega, fun j hj => Classical.byContradiction fun hb => hn ⟨j, hj, hb⟩⟩
  obtain ⟨j0, hj0, hb0⟩ := hbad
  obtain ⟨T, hT, hb, hmin⟩ := least (p := fun j => ¬ lockOk (L j)) hb0
  have hTl : T < len := by omega
  have hok : ∀ j, j < T → lockOk (L j) := fun j hj => Classical.byContradiction (hmin j hj)
  obtain ⟨⟨f1, f2⟩, ⟨t1, t2⟩, ⟨m1, m2⟩⟩ := rl T hTl
  have go := fun (Fe : Fx) hFe re => val_long (k := k) (i := i) (nd := nd) (g := g) (st := st) (ep := ep) (er := er) (a := a) (len := len) (cap := cap) (ob := ob) (L := L) (by omega) (by omega) (by omega) (by omega) (by omega) (by omega) hl hL (Nat.le_of_lt hTl) hok (b := false) (O := valN) (x := none) (.inl rfl) (Fe := Fe) hFe re val_f w hw
  have hmin' : minI = -9223372036854775808 := rfl
  have hmax' : maxI = 9223372036854775807 := rfl
  by_cases b1 : (L T).1 < 0
  · exact go valW1 (fxE_ok (by simp [valR, okI, valEE, Env.set, Env.val, valE]; omega) (by simp [valEE, Env.set, Env.val, valE]; omega) val_len' (val_el hL hTl) (fun _ _ _ h => by cases h)) val_w1
  by_cases b2 : (L T).2.1 ≤ (L T).1
  · exact go valW2 (fxE_ok (by simp [valR, okI, valEE, Env.set, Env.val, valE]; omega) (by simp [valEE, Env.set, Env.val, valE]; omega) val_len' (val_el hL hTl) (fun _ _ _ h => by cases h)) val_w2
  by_cases b3 : 4096 < (L T).2.1
  · exact go valW3 (fxE_ok (by simp [valR, okI, valEE, Env.set, Env.val, valE]; omega) (by simp [valEE, Env.set, Env.val, valE]; omega) val_len' (val_el hL hTl) (fun _ _ _ h => by cases h)) val_w3
  by_cases b4 : (L T).2.2 < 0
  · exact go valW4 (fxE_ok (by simp [valR, okI, valEE, Env.set, Env.val, valE]; omega) (by simp [valEE, Env.set, Env.val, valE]; omega) val_len' (val_el hL hTl) (fun _ _ _ h => by cases h)) val_w4
  by_cases b5 : 2 < (L T).2.2
  · exact go valW5 (fxE_ok (by simp [valR, okI, valEE, Env.set, Env.val, valE]; omega) (by simp [valEE, Env.set, Env.val, valE]; omega) val_len' (val_el hL hTl) (fun _ _ _ h => by cases h)) val_w5
  exact absurd ⟨⟨by omega, by omega⟩, by omega, by omega, by omega⟩ hb
end
end Go.Cx
