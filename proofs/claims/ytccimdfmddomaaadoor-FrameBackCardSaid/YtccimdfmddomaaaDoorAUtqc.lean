/-
  A part of a law's proof.
-/
import Derived.Test.YtccimdfmddomaaaDoorAUtqb
namespace Go.Proofs.YtccimdfmddomaaaDoor.AbsA
open Go AbsYtccimdfmddomaaaDoor Abs
set_option maxHeartbeats 4000000
set_option linter.unusedSimpArgs false
set_option linter.unusedVariables false

set_option maxRecDepth 100000
set_option maxHeartbeats 1000000
set_option linter.unusedSimpArgs false
set_option linter.unusedVariables false
theorem spec157 {u : ByteArray} {H : AHeap} (h0 : 0 < u.size) (hs : u.size ≤ 100000) : CallW E 157 [.string u] H fun r H' => r = .int .i64 ((firstI u : Nat) : Int) ∧ Ext H H' := by
  refine wcall157 (by simp) ?_
  simp only [strip, bodyOf, Tryd.f157, getD_body, keepN, bareOp_mk, lessOp_mk, lapp_cons, lapp_nil, List.map_cons, List.map_nil, array_toList, ↓reduceIte, Nat.reduceEqDiff, Bool.false_eq_true]
  have hix := idx_str (s := u) (i := 0) h0
  have hc := bt_lt u 0
  obtain ⟨q1, q2, q3⟩ := shapeF_le (bt u 0) hc
  simp (disch := first | assumption | simp) only [↓wbD, wbU, ↓aop, ↓reduceIte, Nat.reduceEqDiff, Nat.reduceLT, reduceCtorEq, goInt, pairs, show aindex E 9 (.string u) (.int .i64 0) = _ from hix]
  refine (spec158 hc).mono ?_
  rintro r H ⟨rfl, rfl⟩
  obtain ⟨fo, hfo⟩ : ∃ x, x = (shapeF (bt u 0)).1 := ⟨_, rfl⟩
  obtain ⟨n0, hn0⟩ : ∃ x, x = (shapeF (bt u 0)).2.1 := ⟨_, rfl⟩
  obtain ⟨le, hle⟩ : ∃ x, x = (shapeF (bt u 0)).2.2 := ⟨_, rfl⟩
  have hF : firstI u = if u.size ≤ fo then 0 else if cont u fo then (if acc u n0 fo < le ∨ bad (acc u n0 fo) then 0 else fo + 1) else 0 := by unfold firstI; rw [← hfo, ← hn0, ← hle]
  rw [← hfo, ← hn0, ← hle]
  rw [← hfo] at q1; rw [← hn0] at q2; rw [← hle] at q3
  clear hfo hn0 hle
  by_cases hsz : (u.size : Int) ≤ (fo : Int)
  · simp (disch := first | assumption | simp) only [↓wbD, wbU, ↓aop, ↓reduceIte, Nat.reduceEqDiff, Nat.reduceLT, reduceCtorEq, goInt, pairs, tri0, tri1, tri2, len_str ty9, hsz, decide_true]
    rw [hF, if_pos (by omega)]
    exact ⟨rfl, Ext.refl _⟩
  have hw : IntKind.i64.wrap ((fo : Int) + 1) = ((fo + 1 : Nat) : Int) := wrap_suc (by omega)
  have hsl := slice_both (E := E) (H := H) ty9 (s := u) (k := 1) (l := fo + 1) (by omega) (by omega)
  rw [if_neg (by omega)] at hF
  have hlen : ∀ K, abuiltin E K .len [70] [.slice (some ⟨H.size, 0, none⟩) (u.extract 1 (fo + 1)).size (u.extract 1 (fo + 1)).size] = some (goInt ((u.extract 1 (fo + 1)).size : Nat), K) := fun K => by simp [abuiltin, ty70]
  have hxs : (u.extract 1 (fo + 1)).size = fo := by rw [ByteArray.size_extract]; omega
  simp (disch := first | assumption | simp) only [↓wbD, wbU, ↓aop, ↓reduceIte, Nat.reduceEqDiff, Nat.reduceLT, reduceCtorEq, goInt, pairs, tri0, tri1, tri2, len_str ty9, hsz, decide_false, hw, show aslice E H 9 (.string u) (some (.int .i64 1)) (some (.int .i64 ((fo + 1 : Nat) : Int))) none = _ from hsl, conv_bytes, hlen]
  have hbg := fun j (hj : j < fo) => bytes_get (w := u.extract 1 (fo + 1)) (j := j) (by omega)
  have hbe : ∀ j, j < fo → bt (u.extract 1 (fo + 1)) j = bt u (j + 1) := fun j hj => by rw [bt_extract (by omega) (by omega), Nat.add_comm]
  rw [hxs]
  have hx : Ext H (H.alloc (.cells (bytesOf (u.extract 1 (fo + 1))) true 1)) := Ext.alloc _ _
  have hg : (H.alloc (.cells (bytesOf (u.extract 1 (fo + 1))) true 1)).get H.size = .cells (bytesOf (u.extract 1 (fo + 1))) true 1 := AHeap.get_alloc_same _ _
  generalize H.alloc (.cells (bytesOf (u.extract 1 (fo + 1))) true 1) = H1 at hx hg
  refine W_loop (fun f H' => H' = H1 ∧ f 3 = .int .i64 (fo : Int) ∧ f 5 = .int .i64 (le : Int) ∧ f 23 = .slice (some ⟨H.size, 0, none⟩) fo fo ∧ f 24 = .int .i64 (fo : Int) ∧ ∃ k : Nat, k ≤ fo ∧ f 25 = .int .i64 (k : Int) ∧ f 4 = .int .i64 ((acc u n0 k : Nat) : Int) ∧ cont u k) (fun f _ => match f 25 with | .int _ k => fo - k.toNat | _ => 0) ?_ ?_
  · simp (disch := first | assumption | simp) only [↓wbD, wbU, ↓aop, ↓reduceIte, Nat.reduceEqDiff, Nat.reduceLT, reduceCtorEq, goInt, pairs]
    exact ⟨0, by omega, rfl, rfl, fun j hj => by omega⟩
  rintro f H1 ⟨rfl, f3, f5, f23, f24, k, hk, f25, f4, hcont⟩
  by_cases hlt : (k : Int) < (fo : Int)
  · have hb := bt_lt u (k + 1)
    have hl := hbg k (by omega)
    rw [hbe k (by omega)] at hl
    have hwk := wrap_suc (n := k) (by omega)
    by_cases hcc : 128 ≤ bt u (k + 1) ∧ bt u (k + 1) < 192
    · have h1 : bt u (k + 1) / 64 * 64 = 128 := by omega
      have hne : ((bt u (k + 1) / 64 * 64 : Nat) : Int) = 128 := by rw [h1]; rfl
      have ha := acc_lt u q2 k
      have hk3 : 64 ^ k ≤ 64 ^ 3 := Nat.pow_le_pow_right (by omega) (by omega)
      have hor := or6 (n := acc u n0 k) (x := bt u (k + 1) % 64) (by omega) (by omega)
      simp (disch := first | assumption | simp) only [↓wbD, wbU, ↓aop, ↓reduceIte, Nat.reduceEqDiff, Nat.reduceLT, reduceCtorEq, goInt, pairs, f3, f5, f23, f24, f25, f4, hlt, decide_true, ia_slice ty70 ty5 (show k < fo by omega), Nat.zero_add, Nat.mul_one, ld_cell ty5 rfl hg, hl, and192 hb, hne, not_true_eq_false, decide_false, shl6 (show acc u n0 k < 2 ^ 40 by omega), and63 hb, conv_i64 (show bt u (k + 1) % 64 < 256 by omega), hor, hwk]
      refine ⟨_, rfl, ⟨?_, ?_, ?_, ?_, k + 1, by omega, ?_, ?_, ?_⟩, ?_⟩
      · simp (disch := first | assumption | simp) only [↓wbD, wbU, ↓aop, ↓reduceIte, Nat.reduceEqDiff, Nat.reduceLT, reduceCtorEq, goInt, pairs, f3]
      · simp (disch := first | assumption | simp) only [↓wbD, wbU, ↓aop, ↓reduceIte, Nat.reduceEqDiff, Nat.reduceLT, reduceCtorEq, goInt, pairs, f5]
      · simp (disch := first | assumption | simp) only [↓wbD, wbU, ↓aop, ↓reduceIte, Nat.reduceEqDiff, Nat.reduceLT, reduceCtorEq, goInt, pairs, f23]
      · simp (disch := first | assumption | simp) only [↓wbD, wbU, ↓aop, ↓reduceIte, Nat.reduceEqDiff, Nat.reduceLT, reduceCtorEq, goInt, pairs, f24]
      · simp (disch := first | assumption | simp) only [↓wbD, wbU, ↓aop, ↓reduceIte, Nat.reduceEqDiff, Nat.reduceLT, reduceCtorEq, goInt, pairs]
      · simp (disch := first | assumption | simp) only [↓wbD, wbU, ↓aop, ↓reduceIte, Nat.reduceEqDiff, Nat.reduceLT, reduceCtorEq, goInt, pairs]
        rfl
      · intro j hj
        by_cases hjk : j = k
        · subst hjk; exact hcc
        · exact hcont j (by omega)
      · simp (disch := first | assumption | simp) only [↓wbD, wbU, ↓aop, ↓reduceIte, Nat.reduceEqDiff, Nat.reduceLT, reduceCtorEq, goInt, pairs, f25]
        simp; omega
    · have h1 : ¬ bt u (k + 1) / 64 * 64 = 128 := by omega
      have hne : ¬ ((bt u (k + 1) / 64 * 64 : Nat) : Int) = 128 := fun h => h1 (by omega)
      simp (disch := first | assumption | simp) only [↓wbD, wbU, ↓aop, ↓reduceIte, Nat.reduceEqDiff, Nat.reduceLT, reduceCtorEq, goInt, pairs, f3, f5, f23, f24, f25, f4, hlt, decide_true, ia_slice ty70 ty5 (show k < fo by omega), Nat.zero_add, Nat.mul_one, ld_cell ty5 rfl hg, hl, and192 hb, hne, not_false_eq_true]
      rw [hF, if_neg (fun h => hcc (h k (by omega)))]
      exact ⟨rfl, hx⟩
  · obtain rfl : k = fo := by omega
    rw [if_pos hcont] at hF
    generalize acc u n0 k = m at *
    by_cases c1 : (m : Int) < (le : Int)
    · simp (disch := first | assumption | simp) only [↓wbD, wbU, ↓aop, ↓reduceIte, Nat.reduceEqDiff, Nat.reduceLT, reduceCtorEq, goInt, pairs, f3, f5, f24, f25, f4, hlt, decide_false, c1, decide_true]
      rw [hF, if_pos (.inl (by omega))]
      exact ⟨rfl, hx⟩
    by_cases c2 : (1114111 : Int) < (m : Int)
    · simp (disch := first | assumption | simp) only [↓wbD, wbU, ↓aop, ↓reduceIte, Nat.reduceEqDiff, Nat.reduceLT, reduceCtorEq, goInt, pairs, f3, f5, f24, f25, f4, hlt, decide_false, c1, c2, decide_true]
      rw [hF, if_pos (.inr (.inl (by omega)))]
      exact ⟨rfl, hx⟩
    by_cases c3 : (55296 : Int) ≤ (m : Int)
    · by_cases c4 : (m : Int) ≤ 57343
      · simp (disch := first | assumption | simp) only [↓wbD, wbU, ↓aop, ↓reduceIte, Nat.reduceEqDiff, Nat.reduceLT, reduceCtorEq, goInt, pairs, f3, f5, f24, f25, f4, hlt, decide_false, c1, c2, c3, c4, decide_true]
        rw [hF, if_pos (.inr (.inr ⟨by omega, by omega⟩))]
        exact ⟨rfl, hx⟩
      · simp (disch := first | assumption | simp) only [↓wbD, wbU, ↓aop, ↓reduceIte, Nat.reduceEqDiff, Nat.reduceLT, reduceCtorEq, goInt, pairs, f3, f5, f24, f25, f4, hlt, decide_false, c1, c2, c3, c4, decide_true, hw]
        rw [hF, if_neg (by unfold bad; omega)]
        exact ⟨rfl, hx⟩
    · simp (disch := first | assumption | simp) only [↓wbD, wbU, ↓aop, ↓reduceIte, Nat.reduceEqDiff, Nat.reduceLT, reduceCtorEq, goInt, pairs, f3, f5, f24, f25, f4, hlt, decide_false, c1, c2, c3, decide_true, hw]
      rw [hF, if_neg (by unfold bad; omega)]
      exact ⟨rfl, hx⟩
end Go.Proofs.YtccimdfmddomaaaDoor.AbsA
