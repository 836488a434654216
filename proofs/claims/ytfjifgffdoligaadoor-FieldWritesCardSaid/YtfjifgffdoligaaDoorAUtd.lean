/-
  A part of a law's proof.
-/
import Derived.Test.YtfjifgffdoligaaDoorAUtc
namespace Go.Proofs.YtfjifgffdoligaaDoor.AbsA
open Go AbsYtfjifgffdoligaaDoor Abs
set_option maxHeartbeats 4000000
set_option linter.unusedSimpArgs false
set_option linter.unusedVariables false

set_option maxRecDepth 100000
set_option maxHeartbeats 1000000
set_option linter.unusedSimpArgs false
set_option linter.unusedVariables false
def nacc (u : ByteArray) (x : Int) : Nat → Int
  | 0 => x
  | k + 1 => 64 * nacc u x k + (bt u (k + 1) : Int) - 128
def numF (u : ByteArray) (m : Nat) : Int := if m = 1 then (bt u 0 : Int) else nacc u ((bt u 0 : Int) - (if m = 2 then 192 else if m = 3 then 224 else 240)) (m - 1)
theorem nacc_bd (u : ByteArray) {x : Int} (hx : -256 ≤ x ∧ x ≤ 256) : ∀ k, k ≤ 3 → -200000000 ≤ nacc u x k ∧ nacc u x k ≤ 200000000 := by
  intro k hk
  have b1 := bt_lt u 1
  have b2 := bt_lt u 2
  have b3 := bt_lt u 3
  rcases (by omega : k = 0 ∨ k = 1 ∨ k = 2 ∨ k = 3) with rfl | rfl | rfl | rfl <;> simp only [nacc, Nat.zero_add, Nat.reduceAdd] <;> omega
theorem spec165 {u : ByteArray} {m : Nat} {H : AHeap} (h1 : 1 ≤ m) (h4 : m ≤ 4) (hs : m ≤ u.size) : CallW E 165 [.string u, .int .i64 (m : Int)] H fun r H' => r = .int .i64 (numF u m) ∧ H' = H := by
  refine wcall165 (by simp) ?_
  simp only [strip, bodyOf, Tryd.f165, getD_body, keepN, bareOp_mk, lessOp_mk, lapp_cons, lapp_nil, List.map_cons, List.map_nil, array_toList, ↓reduceIte, Nat.reduceEqDiff, Bool.false_eq_true]
  have hix : aindex E 9 (.string u) (.int .i64 0) = some (.int .u8 ((bt u 0 : Nat) : Int)) := idx_str (s := u) (i := 0) (by omega)
  have hc := bt_lt u 0
  by_cases m1 : m = 1
  · have d1 : decide ((m : Int) = 1) = true := by rw [m1]; rfl
    simp (disch := first | assumption | simp) only [↓wbD, wbU, ↓aop, ↓reduceIte, Nat.reduceEqDiff, Nat.reduceLT, reduceCtorEq, goInt, pairs, d1, hix, conv_i64 hc]
    exact ⟨by simp [numF, m1], trivial⟩
  have d1 : decide ((m : Int) = 1) = false := by rw [decide_eq_false_iff_not]; omega
  by_cases m2 : m = 2
  · have d2 : decide ((m : Int) = 2) = true := by rw [m2]; rfl
    have hw : IntKind.i64.wrap (((bt u 0 : Nat) : Int) - 192) = ((bt u 0 : Nat) : Int) - 192 := wrap64 ⟨by omega, by omega⟩
    have hn : numF u m = nacc u ((bt u 0 : Int) - 192) (m - 1) := by simp [numF, m2]
    simp (disch := first | assumption | simp) only [↓wbD, wbU, ↓aop, ↓reduceIte, Nat.reduceEqDiff, Nat.reduceLT, reduceCtorEq, goInt, pairs, d1, d2, hix, conv_i64 hc, hw]
    have hx : -256 ≤ (bt u 0 : Int) - 192 ∧ (bt u 0 : Int) - 192 ≤ 256 := by omega
    generalize (bt u 0 : Int) - 192 = x at hn hx ⊢
    refine W_loop (fun f H' => H' = H ∧ f 0 = .string u ∧ f 1 = .int .i64 (m : Int) ∧ ∃ k : Nat, k < m ∧ f 6 = .int .i64 ((k + 1 : Nat) : Int) ∧ f 5 = .int .i64 (nacc u x k)) (fun f _ => match f 6 with | .int _ j => m - j.toNat | _ => 0) ?_ ?_
    · simp (disch := first | assumption | simp) only [↓wbD, wbU, ↓aop, ↓reduceIte, Nat.reduceEqDiff, Nat.reduceLT, reduceCtorEq, goInt, pairs]
      exact ⟨0, by omega, rfl, rfl⟩
    rintro f H ⟨rfl, f0, f1, k, hk, f6, f5⟩
    by_cases hlt : ((k + 1 : Nat) : Int) < (m : Int)
    · have hsz : ((k + 1 : Nat) : Int) < (u.size : Int) := by omega
      have bd := nacc_bd u hx k (by omega)
      have bd2 := nacc_bd u hx (k + 1) (by omega)
      have hb := bt_lt u (k + 1)
      have w1 : IntKind.i64.wrap (64 * nacc u x k) = 64 * nacc u x k := wrap64 ⟨by omega, by omega⟩
      have w2 : IntKind.i64.wrap (64 * nacc u x k + ((bt u (k + 1) : Nat) : Int)) = 64 * nacc u x k + ((bt u (k + 1) : Nat) : Int) := wrap64 ⟨by omega, by omega⟩
      have w3 : IntKind.i64.wrap (64 * nacc u x k + ((bt u (k + 1) : Nat) : Int) - 128) = nacc u x (k + 1) := by rw [wrap64 ⟨by omega, by omega⟩]; rfl
      have hw := wrap_suc (n := k + 1) (by omega)
      simp (disch := first | assumption | simp) only [↓wbD, wbU, ↓aop, ↓reduceIte, Nat.reduceEqDiff, Nat.reduceLT, reduceCtorEq, goInt, pairs, f0, f1, f5, f6, hlt, hsz, decide_true, len_str ty9, aint_mul, w1, idx_str (s := u) (i := k + 1) (by omega), conv_i64 hb, w2, w3, hw]
      refine ⟨_, rfl, ⟨?_, ?_, k + 1, by omega, ?_, ?_⟩, ?_⟩
      · simp (disch := first | assumption | simp) only [↓wbD, wbU, ↓aop, ↓reduceIte, Nat.reduceEqDiff, Nat.reduceLT, reduceCtorEq, goInt, pairs, f0]
      · simp (disch := first | assumption | simp) only [↓wbD, wbU, ↓aop, ↓reduceIte, Nat.reduceEqDiff, Nat.reduceLT, reduceCtorEq, goInt, pairs, f1]
      · simp (disch := first | assumption | simp) only [↓wbD, wbU, ↓aop, ↓reduceIte, Nat.reduceEqDiff, Nat.reduceLT, reduceCtorEq, goInt, pairs]
      · simp (disch := first | assumption | simp) only [↓wbD, wbU, ↓aop, ↓reduceIte, Nat.reduceEqDiff, Nat.reduceLT, reduceCtorEq, goInt, pairs]
      · simp (disch := first | assumption | simp) only [↓wbD, wbU, ↓aop, ↓reduceIte, Nat.reduceEqDiff, Nat.reduceLT, reduceCtorEq, goInt, pairs, f6]
        simp; omega
    · obtain rfl : m = k + 1 := by omega
      simp (disch := first | assumption | simp) only [↓wbD, wbU, ↓aop, ↓reduceIte, Nat.reduceEqDiff, Nat.reduceLT, reduceCtorEq, goInt, pairs, f0, f1, f5, f6, hlt, decide_false]
      rw [hn]; exact ⟨rfl, trivial⟩
  have d2 : decide ((m : Int) = 2) = false := by rw [decide_eq_false_iff_not]; omega
  by_cases m3 : m = 3
  · have d3 : decide ((m : Int) = 3) = true := by rw [m3]; rfl
    have hw : IntKind.i64.wrap (((bt u 0 : Nat) : Int) - 224) = ((bt u 0 : Nat) : Int) - 224 := wrap64 ⟨by omega, by omega⟩
    have hn : numF u m = nacc u ((bt u 0 : Int) - 224) (m - 1) := by simp [numF, m3]
    simp (disch := first | assumption | simp) only [↓wbD, wbU, ↓aop, ↓reduceIte, Nat.reduceEqDiff, Nat.reduceLT, reduceCtorEq, goInt, pairs, d1, d2, d3, hix, conv_i64 hc, hw]
    have hx : -256 ≤ (bt u 0 : Int) - 224 ∧ (bt u 0 : Int) - 224 ≤ 256 := by omega
    generalize (bt u 0 : Int) - 224 = x at hn hx ⊢
    refine W_loop (fun f H' => H' = H ∧ f 0 = .string u ∧ f 1 = .int .i64 (m : Int) ∧ ∃ k : Nat, k < m ∧ f 6 = .int .i64 ((k + 1 : Nat) : Int) ∧ f 5 = .int .i64 (nacc u x k)) (fun f _ => match f 6 with | .int _ j => m - j.toNat | _ => 0) ?_ ?_
    · simp (disch := first | assumption | simp) only [↓wbD, wbU, ↓aop, ↓reduceIte, Nat.reduceEqDiff, Nat.reduceLT, reduceCtorEq, goInt, pairs]
      exact ⟨0, by omega, rfl, rfl⟩
    rintro f H ⟨rfl, f0, f1, k, hk, f6, f5⟩
    by_cases hlt : ((k + 1 : Nat) : Int) < (m : Int)
    · have hsz : ((k + 1 : Nat) : Int) < (u.size : Int) := by omega
      have bd := nacc_bd u hx k (by omega)
      have bd2 := nacc_bd u hx (k + 1) (by omega)
      have hb := bt_lt u (k + 1)
      have w1 : IntKind.i64.wrap (64 * nacc u x k) = 64 * nacc u x k := wrap64 ⟨by omega, by omega⟩
      have w2 : IntKind.i64.wrap (64 * nacc u x k + ((bt u (k + 1) : Nat) : Int)) = 64 * nacc u x k + ((bt u (k + 1) : Nat) : Int) := wrap64 ⟨by omega, by omega⟩
      have w3 : IntKind.i64.wrap (64 * nacc u x k + ((bt u (k + 1) : Nat) : Int) - 128) = nacc u x (k + 1) := by rw [wrap64 ⟨by omega, by omega⟩]; rfl
      have hw := wrap_suc (n := k + 1) (by omega)
      simp (disch := first | assumption | simp) only [↓wbD, wbU, ↓aop, ↓reduceIte, Nat.reduceEqDiff, Nat.reduceLT, reduceCtorEq, goInt, pairs, f0, f1, f5, f6, hlt, hsz, decide_true, len_str ty9, aint_mul, w1, idx_str (s := u) (i := k + 1) (by omega), conv_i64 hb, w2, w3, hw]
      refine ⟨_, rfl, ⟨?_, ?_, k + 1, by omega, ?_, ?_⟩, ?_⟩
      · simp (disch := first | assumption | simp) only [↓wbD, wbU, ↓aop, ↓reduceIte, Nat.reduceEqDiff, Nat.reduceLT, reduceCtorEq, goInt, pairs, f0]
      · simp (disch := first | assumption | simp) only [↓wbD, wbU, ↓aop, ↓reduceIte, Nat.reduceEqDiff, Nat.reduceLT, reduceCtorEq, goInt, pairs, f1]
      · simp (disch := first | assumption | simp) only [↓wbD, wbU, ↓aop, ↓reduceIte, Nat.reduceEqDiff, Nat.reduceLT, reduceCtorEq, goInt, pairs]
      · simp (disch := first | assumption | simp) only [↓wbD, wbU, ↓aop, ↓reduceIte, Nat.reduceEqDiff, Nat.reduceLT, reduceCtorEq, goInt, pairs]
      · simp (disch := first | assumption | simp) only [↓wbD, wbU, ↓aop, ↓reduceIte, Nat.reduceEqDiff, Nat.reduceLT, reduceCtorEq, goInt, pairs, f6]
        simp; omega
    · obtain rfl : m = k + 1 := by omega
      simp (disch := first | assumption | simp) only [↓wbD, wbU, ↓aop, ↓reduceIte, Nat.reduceEqDiff, Nat.reduceLT, reduceCtorEq, goInt, pairs, f0, f1, f5, f6, hlt, decide_false]
      rw [hn]; exact ⟨rfl, trivial⟩
  have d3 : decide ((m : Int) = 3) = false := by rw [decide_eq_false_iff_not]; omega
  have d4 : decide ((m : Int) = 4) = true := by rw [decide_eq_true_eq]; omega
  have hw : IntKind.i64.wrap (((bt u 0 : Nat) : Int) - 240) = ((bt u 0 : Nat) : Int) - 240 := wrap64 ⟨by omega, by omega⟩
  have hn : numF u m = nacc u ((bt u 0 : Int) - 240) (m - 1) := by simp [numF, m1, m2, m3]
  simp (disch := first | assumption | simp) only [↓wbD, wbU, ↓aop, ↓reduceIte, Nat.reduceEqDiff, Nat.reduceLT, reduceCtorEq, goInt, pairs, d1, d2, d3, d4, hix, conv_i64 hc, hw]
  have hx : -256 ≤ (bt u 0 : Int) - 240 ∧ (bt u 0 : Int) - 240 ≤ 256 := by omega
  generalize (bt u 0 : Int) - 240 = x at hn hx ⊢
  refine W_loop (fun f H' => H' = H ∧ f 0 = .string u ∧ f 1 = .int .i64 (m : Int) ∧ ∃ k : Nat, k < m ∧ f 6 = .int .i64 ((k + 1 : Nat) : Int) ∧ f 5 = .int .i64 (nacc u x k)) (fun f _ => match f 6 with | .int _ j => m - j.toNat | _ => 0) ?_ ?_
  · simp (disch := first | assumption | simp) only [↓wbD, wbU, ↓aop, ↓reduceIte, Nat.reduceEqDiff, Nat.reduceLT, reduceCtorEq, goInt, pairs]
    exact ⟨0, by omega, rfl, rfl⟩
  rintro f H ⟨rfl, f0, f1, k, hk, f6, f5⟩
  by_cases hlt : ((k + 1 : Nat) : Int) < (m : Int)
  · have hsz : ((k + 1 : Nat) : Int) < (u.size : Int) := by omega
    have bd := nacc_bd u hx k (by omega)
    have bd2 := nacc_bd u hx (k + 1) (by omega)
    have hb := bt_lt u (k + 1)
    have w1 : IntKind.i64.wrap (64 * nacc u x k) = 64 * nacc u x k := wrap64 ⟨by omega, by omega⟩
    have w2 : IntKind.i64.wrap (64 * nacc u x k + ((bt u (k + 1) : Nat) : Int)) = 64 * nacc u x k + ((bt u (k + 1) : Nat) : Int) := wrap64 ⟨by omega, by omega⟩
    have w3 : IntKind.i64.wrap (64 * nacc u x k + ((bt u (k + 1) : Nat) : Int) - 128) = nacc u x (k + 1) := by rw [wrap64 ⟨by omega, by omega⟩]; rfl
    have hw := wrap_suc (n := k + 1) (by omega)
    simp (disch := first | assumption | simp) only [↓wbD, wbU, ↓aop, ↓reduceIte, Nat.reduceEqDiff, Nat.reduceLT, reduceCtorEq, goInt, pairs, f0, f1, f5, f6, hlt, hsz, decide_true, len_str ty9, aint_mul, w1, idx_str (s := u) (i := k + 1) (by omega), conv_i64 hb, w2, w3, hw]
    refine ⟨_, rfl, ⟨?_, ?_, k + 1, by omega, ?_, ?_⟩, ?_⟩
    · simp (disch := first | assumption | simp) only [↓wbD, wbU, ↓aop, ↓reduceIte, Nat.reduceEqDiff, Nat.reduceLT, reduceCtorEq, goInt, pairs, f0]
    · simp (disch := first | assumption | simp) only [↓wbD, wbU, ↓aop, ↓reduceIte, Nat.reduceEqDiff, Nat.reduceLT, reduceCtorEq, goInt, pairs, f1]
    · simp (disch := first | assumption | simp) only [↓wbD, wbU, ↓aop, ↓reduceIte, Nat.reduceEqDiff, Nat.reduceLT, reduceCtorEq, goInt, pairs]
    · simp (disch := first | assumption | simp) only [↓wbD, wbU, ↓aop, ↓reduceIte, Nat.reduceEqDiff, Nat.reduceLT, reduceCtorEq, goInt, pairs]
    · simp (disch := first | assumption | simp) only [↓wbD, wbU, ↓aop, ↓reduceIte, Nat.reduceEqDiff, Nat.reduceLT, reduceCtorEq, goInt, pairs, f6]
      simp; omega
  · obtain rfl : m = k + 1 := by omega
    simp (disch := first | assumption | simp) only [↓wbD, wbU, ↓aop, ↓reduceIte, Nat.reduceEqDiff, Nat.reduceLT, reduceCtorEq, goInt, pairs, f0, f1, f5, f6, hlt, decide_false]
    rw [hn]; exact ⟨rfl, trivial⟩
def R (u : ByteArray) (m : Nat) : Prop := m ≤ u.size ∧ bytesF (numF u m) ≠ emp ∧ bytesF (numF u m) = u.extract 0 m
instance (u : ByteArray) (m : Nat) : Decidable (R u m) := inferInstanceAs (Decidable (_ ∧ _))
theorem spec158 {u : ByteArray} {H : AHeap} (hs : u.size ≤ 100000) : CallW E 158 [.string u] H fun r H' => (∃ m : Nat, r = .int .i64 (m : Int) ∧ ((1 ≤ m ∧ m ≤ 4 ∧ R u m) ∨ (m = 0 ∧ ∀ j, 1 ≤ j → j ≤ 4 → ¬ R u j))) ∧ Ext H H' := by
  refine wcall158 (by simp) ?_
  simp only [strip, bodyOf, Tryd.f158, getD_body, keepN, bareOp_mk, lessOp_mk, lapp_cons, lapp_nil, List.map_cons, List.map_nil, array_toList, ↓reduceIte, Nat.reduceEqDiff, Bool.false_eq_true]
  simp (disch := first | assumption | simp) only [↓wbD, wbU, ↓aop, ↓reduceIte, Nat.reduceEqDiff, Nat.reduceLT, reduceCtorEq, goInt, pairs]
  refine W_loop (fun f H' => Ext H H' ∧ f 0 = .string u ∧ ∃ k : Nat, 1 ≤ k ∧ k ≤ 5 ∧ f 3 = .int .i64 (k : Int) ∧ ∀ j, 1 ≤ j → j < k → ¬ R u j) (fun f _ => match f 3 with | .int _ j => 5 - j.toNat | _ => 0) ?_ ?_
  · simp (disch := first | assumption | simp) only [↓wbD, wbU, ↓aop, ↓reduceIte, Nat.reduceEqDiff, Nat.reduceLT, reduceCtorEq, goInt, pairs]
    exact ⟨Ext.refl _, 1, by omega, by omega, rfl, fun j h1 h2 => by omega⟩
  rintro f H1 ⟨hx, f0, k, k1, k5, f3, hno⟩
  by_cases h4 : (k : Int) ≤ 4
  · by_cases hsz : (k : Int) ≤ (u.size : Int)
    · simp (disch := first | assumption | simp) only [↓wbD, wbU, ↓aop, ↓reduceIte, Nat.reduceEqDiff, Nat.reduceLT, reduceCtorEq, goInt, pairs, f0, f3, h4, hsz, decide_true, len_str ty9]
      refine (spec165 k1 (by omega) (by omega)).mono ?_
      rintro r H1 ⟨rfl, rfl⟩
      simp (disch := first | assumption | simp) only [↓wbD, wbU, ↓aop, ↓reduceIte, Nat.reduceEqDiff, Nat.reduceLT, reduceCtorEq, goInt, pairs]
      refine spec164.mono ?_
      rintro r H2 ⟨rfl, hx2⟩
      have hw := wrap_suc (n := k) (by omega)
      by_cases he : bytesF (numF u k) = ⟨#[]⟩
      · simp (disch := first | assumption | simp) only [↓wbD, wbU, ↓aop, ↓reduceIte, Nat.reduceEqDiff, Nat.reduceLT, reduceCtorEq, goInt, pairs, f0, f3, he, not_true_eq_false, decide_false, hw]
        refine ⟨_, rfl, ⟨hx.trans hx2, ?_, k + 1, by omega, by omega, ?_, fun j j1 j2 => ?_⟩, ?_⟩
        · simp (disch := first | assumption | simp) only [↓wbD, wbU, ↓aop, ↓reduceIte, Nat.reduceEqDiff, Nat.reduceLT, reduceCtorEq, goInt, pairs, f0]
        · simp (disch := first | assumption | simp) only [↓wbD, wbU, ↓aop, ↓reduceIte, Nat.reduceEqDiff, Nat.reduceLT, reduceCtorEq, goInt, pairs]
        · by_cases hjk : j = k
          · subst hjk; exact fun h => h.2.1 he
          · exact hno j j1 (by omega)
        · simp (disch := first | assumption | simp) only [↓wbD, wbU, ↓aop, ↓reduceIte, Nat.reduceEqDiff, Nat.reduceLT, reduceCtorEq, goInt, pairs, f3]
          simp; omega
      · have hsl := slice_to (E := E) (H := H2) ty9 (s := u) (k := k) (by omega)
        by_cases hq : bytesF (numF u k) = u.extract 0 k
        · simp (disch := first | assumption | simp) only [↓wbD, wbU, ↓aop, ↓reduceIte, Nat.reduceEqDiff, Nat.reduceLT, reduceCtorEq, goInt, pairs, f0, f3, he, not_false_eq_true, decide_true, hsl, decide_eq_true hq]
          exact ⟨⟨k, rfl, .inl ⟨k1, by omega, by omega, he, hq⟩⟩, hx.trans hx2⟩
        · simp (disch := first | assumption | simp) only [↓wbD, wbU, ↓aop, ↓reduceIte, Nat.reduceEqDiff, Nat.reduceLT, reduceCtorEq, goInt, pairs, f0, f3, he, not_false_eq_true, decide_true, hsl, decide_eq_false hq, hw]
          refine ⟨_, rfl, ⟨hx.trans hx2, ?_, k + 1, by omega, by omega, ?_, fun j j1 j2 => ?_⟩, ?_⟩
          · simp (disch := first | assumption | simp) only [↓wbD, wbU, ↓aop, ↓reduceIte, Nat.reduceEqDiff, Nat.reduceLT, reduceCtorEq, goInt, pairs, f0]
          · simp (disch := first | assumption | simp) only [↓wbD, wbU, ↓aop, ↓reduceIte, Nat.reduceEqDiff, Nat.reduceLT, reduceCtorEq, goInt, pairs]
          · by_cases hjk : j = k
            · subst hjk; exact fun h => hq h.2.2
            · exact hno j j1 (by omega)
          · simp (disch := first | assumption | simp) only [↓wbD, wbU, ↓aop, ↓reduceIte, Nat.reduceEqDiff, Nat.reduceLT, reduceCtorEq, goInt, pairs, f3]
            simp; omega
    · simp (disch := first | assumption | simp) only [↓wbD, wbU, ↓aop, ↓reduceIte, Nat.reduceEqDiff, Nat.reduceLT, reduceCtorEq, goInt, pairs, f0, f3, h4, hsz, decide_true, decide_false, len_str ty9]
      refine ⟨⟨0, rfl, .inr ⟨rfl, fun j j1 j4 h => ?_⟩⟩, hx⟩
      by_cases hjk : j < k
      · exact hno j j1 hjk h
      · have := h.1; omega
  · simp (disch := first | assumption | simp) only [↓wbD, wbU, ↓aop, ↓reduceIte, Nat.reduceEqDiff, Nat.reduceLT, reduceCtorEq, goInt, pairs, f0, f3, h4, decide_false]
    exact ⟨⟨0, rfl, .inr ⟨rfl, fun j j1 j4 h => hno j j1 (by omega) h⟩⟩, hx⟩
end Go.Proofs.YtfjifgffdoligaaDoor.AbsA
