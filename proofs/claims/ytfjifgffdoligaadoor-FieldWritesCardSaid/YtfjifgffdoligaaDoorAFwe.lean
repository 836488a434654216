/-
  A part of a law's proof.
-/
import Derived.Test.YtfjifgffdoligaaDoorAFwd
namespace Go.Proofs.YtfjifgffdoligaaDoor.AbsA
open Go AbsYtfjifgffdoligaaDoor Abs
set_option maxRecDepth 100000
set_option maxHeartbeats 4000000
set_option linter.unusedSimpArgs false
set_option linter.unusedVariables false
theorem str_add {σ : AHeap} {t : Nat} {cs : Bool} {a b : ByteArray} (h : a.size + b.size ≤ 1000000000) : abin E σ .add t cs (.string a) (.string b) = some (.string (a ++ b)) := by
  simp only [abin, astr]; rw [if_pos (by omega)]
theorem conv_sl {σ : AHeap} {K : Value → AHeap → Prop} {b n c : Nat} {ex : Option Nat} {l : List Nat} {wr : Bool} {sz : Nat} (hg : σ.get b = .cells (u8s l) wr sz) (hn : n = l.length) (hq : K (.string (str l)) σ) : afterOpS E B (some (convS E σ 69 9 (.slice (some ⟨b, 0, ex⟩) n c))) σ K := by
  have hl : (u8s l).length = l.length := by simp [u8s]
  intro b' hb
  refine ⟨.string (str l), σ.resize b', ?_, hq⟩
  simp only [aconvert, ty69, ty9, ty5, takeCells, get_resize, hg]
  rw [if_pos (by rw [hl]; omega)]
  simp only [List.drop_zero]
  rw [List.take_of_length_le (by rw [hl]; omega), mapM_u8]
  simp [str]
/-- the low bytes of a number -/
def numL (N : Nat) : Nat → List Nat
  | 0 => []
  | i + 1 => N / 256 ^ i % 256 :: numL N i
theorem numL_len (N : Nat) : ∀ i, (numL N i).length = i
  | 0 => rfl
  | i + 1 => by simp [numL, numL_len N i]
theorem numL_B (N : Nat) {k : Nat} (hk : k = 1 ∨ k = 2 ∨ k = 4) : str (numL N k) = numB N k := by
  rcases hk with rfl | rfl | rfl <;> simp [numL, numB]
theorem specRNumber {σ : AHeap} {N k : Nat} (hN : N < 4294967296) (hk : k = 1 ∨ k = 2 ∨ k = 4) {Q : Value → AHeap → Prop} (h : Q (.string (numB N k)) σ) : CallS E B 91 [.int .i64 (N : Int), .int .i64 (k : Int)] σ Q := by
  refine call91 (by simp) ?_
  simp only [strip, bodyOf, Tryd.f91, getD_body, keepN, bareOp_mk, lessOp_mk, lapp_cons, lapp_nil, List.map_cons, List.map_nil, array_toList, ↓reduceIte, Nat.reduceEqDiff, Bool.false_eq_true]
  simp (disch := first | assumption | simp) only [↓sbD, sbU, tyB, Nat.reduceMul, Nat.reduceSub, Int.reduceEq, Int.reduceLT, Int.reduceLE, Int.reduceNe, Nat.reduceBneDiff, Nat.reduceBEq, decide_false, gt_iff_lt, Bool.or_self, Bool.false_eq_true, Nat.mul_one, Nat.one_mul, Nat.zero_mul, ↓reduceIte, Nat.reduceEqDiff, Nat.reduceLT, Nat.reduceAdd, Nat.reduceLeDiff, reduceCtorEq, goInt, pairs, isConst, TI.isAgg, splice, boxS, Edp, dpv, Nat.beq_eq, ZV.val, List.any_cons, List.any_nil]
  refine S_loop (fun m f σ' => σ' = σ ∧ ∃ i : Nat, m + i = k ∧ f 6 = .int .i64 i ∧ f 5 = .string (str (numL N i)) ∧ f 0 = .int .i64 ((N / 256 ^ i : Nat) : Int)) k (Le.refl _) ⟨rfl, 0, rfl, by simp (disch := first | assumption | simp) only [↓sbD, sbU, tyB, Nat.reduceMul, Nat.reduceSub, Int.reduceEq, Int.reduceLT, Int.reduceLE, Int.reduceNe, Nat.reduceBneDiff, Nat.reduceBEq, decide_false, gt_iff_lt, Bool.or_self, Bool.false_eq_true, Nat.mul_one, Nat.one_mul, Nat.zero_mul, ↓reduceIte, Nat.reduceEqDiff, Nat.reduceLT, Nat.reduceAdd, Nat.reduceLeDiff, reduceCtorEq, goInt, pairs, isConst, TI.isAgg, splice, boxS, Edp, dpv, Nat.beq_eq, ZV.val, List.any_cons, List.any_nil]; rfl, by simp (disch := first | assumption | simp) only [↓sbD, sbU, tyB, Nat.reduceMul, Nat.reduceSub, Int.reduceEq, Int.reduceLT, Int.reduceLE, Int.reduceNe, Nat.reduceBneDiff, Nat.reduceBEq, decide_false, gt_iff_lt, Bool.or_self, Bool.false_eq_true, Nat.mul_one, Nat.one_mul, Nat.zero_mul, ↓reduceIte, Nat.reduceEqDiff, Nat.reduceLT, Nat.reduceAdd, Nat.reduceLeDiff, reduceCtorEq, goInt, pairs, isConst, TI.isAgg, splice, boxS, Edp, dpv, Nat.beq_eq, ZV.val, List.any_cons, List.any_nil]; rfl, by simp (disch := first | assumption | simp) only [↓sbD, sbU, tyB, Nat.reduceMul, Nat.reduceSub, Int.reduceEq, Int.reduceLT, Int.reduceLE, Int.reduceNe, Nat.reduceBneDiff, Nat.reduceBEq, decide_false, gt_iff_lt, Bool.or_self, Bool.false_eq_true, Nat.mul_one, Nat.one_mul, Nat.zero_mul, ↓reduceIte, Nat.reduceEqDiff, Nat.reduceLT, Nat.reduceAdd, Nat.reduceLeDiff, reduceCtorEq, goInt, pairs, isConst, TI.isAgg, splice, boxS, Edp, dpv, Nat.beq_eq, ZV.val, List.any_cons, List.any_nil]; simp⟩ ?_
  rintro m f σ' ⟨rfl, i, hm, f6, f5, f0⟩ hf
  have f1 := hf 1 (by decide) (notMem_wr (by kernel_rfl))
  simp (disch := first | assumption | simp) only [↓sbD, sbU, tyB, Nat.reduceMul, Nat.reduceSub, Int.reduceEq, Int.reduceLT, Int.reduceLE, Int.reduceNe, Nat.reduceBneDiff, Nat.reduceBEq, decide_false, gt_iff_lt, Bool.or_self, Bool.false_eq_true, Nat.mul_one, Nat.one_mul, Nat.zero_mul, ↓reduceIte, Nat.reduceEqDiff, Nat.reduceLT, Nat.reduceAdd, Nat.reduceLeDiff, reduceCtorEq, goInt, pairs, isConst, TI.isAgg, splice, boxS, Edp, dpv, Nat.beq_eq, ZV.val, List.any_cons, List.any_nil] at f1
  clear hf
  by_cases hi : (i : Int) < (k : Int)
  · have hr : aint .rem .i64 ((N / 256 ^ i : Nat) : Int) 256 = some (.int .i64 ((N / 256 ^ i % 256 : Nat) : Int)) := by rw [rem_pos (Int.natCast_nonneg _) (by omega)]; rfl
    have hc : IntKind.u8.wrap ((N / 256 ^ i % 256 : Nat) : Int) = ((N / 256 ^ i % 256 : Nat) : Int) := by rw [wrap_u8N, Nat.mod_mod]
    have hq : aint .quo .i64 ((N / 256 ^ i : Nat) : Int) 256 = some (.int .i64 ((N / 256 ^ (i + 1) : Nat) : Int)) := by
      have : N / 256 ^ i ≤ N := Nat.div_le_self _ _
      have h0 : (0 : Int) ≤ ((N / 256 ^ i : Nat) : Int) := Int.natCast_nonneg _
      rw [quo_pos h0 (by generalize N / 256 ^ i = z at *; omega) (by omega)]
      congr 2
      rw [Nat.pow_succ, ← Nat.div_div_eq_div_mul]; rfl
    have hw := wrap_suc (n := i) (by omega)
    simp (disch := first | assumption | simp) only [↓sbD, sbU, tyB, Nat.reduceMul, Nat.reduceSub, Int.reduceEq, Int.reduceLT, Int.reduceLE, Int.reduceNe, Nat.reduceBneDiff, Nat.reduceBEq, decide_false, gt_iff_lt, Bool.or_self, Bool.false_eq_true, Nat.mul_one, Nat.one_mul, Nat.zero_mul, ↓reduceIte, Nat.reduceEqDiff, Nat.reduceLT, Nat.reduceAdd, Nat.reduceLeDiff, reduceCtorEq, goInt, pairs, isConst, TI.isAgg, splice, boxS, Edp, dpv, Nat.beq_eq, ZV.val, List.any_cons, List.any_nil, f0, f1, f5, f6, hi, hr, hc]
    refine bs_one fun b hb => ?_
    simp (disch := first | assumption | simp) only [↓sbD, sbU, tyB, Nat.reduceMul, Nat.reduceSub, Int.reduceEq, Int.reduceLT, Int.reduceLE, Int.reduceNe, Nat.reduceBneDiff, Nat.reduceBEq, decide_false, gt_iff_lt, Bool.or_self, Bool.false_eq_true, Nat.mul_one, Nat.one_mul, Nat.zero_mul, ↓reduceIte, Nat.reduceEqDiff, Nat.reduceLT, Nat.reduceAdd, Nat.reduceLeDiff, reduceCtorEq, goInt, pairs, isConst, TI.isAgg, splice, boxS, Edp, dpv, Nat.beq_eq, ZV.val, List.any_cons, List.any_nil]
    refine conv_sl (l := [N / 256 ^ i % 256]) (AHeap.get_set_same _ _ _) rfl ?_
    simp (disch := first | assumption | simp) only [↓sbD, sbU, tyB, Nat.reduceMul, Nat.reduceSub, Int.reduceEq, Int.reduceLT, Int.reduceLE, Int.reduceNe, Nat.reduceBneDiff, Nat.reduceBEq, decide_false, gt_iff_lt, Bool.or_self, Bool.false_eq_true, Nat.mul_one, Nat.one_mul, Nat.zero_mul, ↓reduceIte, Nat.reduceEqDiff, Nat.reduceLT, Nat.reduceAdd, Nat.reduceLeDiff, reduceCtorEq, goInt, pairs, isConst, TI.isAgg, splice, boxS, Edp, dpv, Nat.beq_eq, ZV.val, List.any_cons, List.any_nil, f0, f1, f5, f6, str_add (show (str [N / 256 ^ i % 256]).size + (str (numL N i)).size ≤ 1000000000 by rw [str_size, str_size, numL_len]; simp; omega), hq, hw]
    refine ⟨_, m - 1, _, rfl, by omega, Le.new hb, rfl, i + 1, by omega, ?_, ?_, ?_⟩
    · simp (disch := first | assumption | simp) only [↓sbD, sbU, tyB, Nat.reduceMul, Nat.reduceSub, Int.reduceEq, Int.reduceLT, Int.reduceLE, Int.reduceNe, Nat.reduceBneDiff, Nat.reduceBEq, decide_false, gt_iff_lt, Bool.or_self, Bool.false_eq_true, Nat.mul_one, Nat.one_mul, Nat.zero_mul, ↓reduceIte, Nat.reduceEqDiff, Nat.reduceLT, Nat.reduceAdd, Nat.reduceLeDiff, reduceCtorEq, goInt, pairs, isConst, TI.isAgg, splice, boxS, Edp, dpv, Nat.beq_eq, ZV.val, List.any_cons, List.any_nil]
    · simp (disch := first | assumption | simp) only [↓sbD, sbU, tyB, Nat.reduceMul, Nat.reduceSub, Int.reduceEq, Int.reduceLT, Int.reduceLE, Int.reduceNe, Nat.reduceBneDiff, Nat.reduceBEq, decide_false, gt_iff_lt, Bool.or_self, Bool.false_eq_true, Nat.mul_one, Nat.one_mul, Nat.zero_mul, ↓reduceIte, Nat.reduceEqDiff, Nat.reduceLT, Nat.reduceAdd, Nat.reduceLeDiff, reduceCtorEq, goInt, pairs, isConst, TI.isAgg, splice, boxS, Edp, dpv, Nat.beq_eq, ZV.val, List.any_cons, List.any_nil, str_app]
      rfl
    · simp (disch := first | assumption | simp) only [↓sbD, sbU, tyB, Nat.reduceMul, Nat.reduceSub, Int.reduceEq, Int.reduceLT, Int.reduceLE, Int.reduceNe, Nat.reduceBneDiff, Nat.reduceBEq, decide_false, gt_iff_lt, Bool.or_self, Bool.false_eq_true, Nat.mul_one, Nat.one_mul, Nat.zero_mul, ↓reduceIte, Nat.reduceEqDiff, Nat.reduceLT, Nat.reduceAdd, Nat.reduceLeDiff, reduceCtorEq, goInt, pairs, isConst, TI.isAgg, splice, boxS, Edp, dpv, Nat.beq_eq, ZV.val, List.any_cons, List.any_nil]
  · obtain rfl : i = k := by omega
    simp (disch := first | assumption | simp) only [↓sbD, sbU, tyB, Nat.reduceMul, Nat.reduceSub, Int.reduceEq, Int.reduceLT, Int.reduceLE, Int.reduceNe, Nat.reduceBneDiff, Nat.reduceBEq, decide_false, gt_iff_lt, Bool.or_self, Bool.false_eq_true, Nat.mul_one, Nat.one_mul, Nat.zero_mul, ↓reduceIte, Nat.reduceEqDiff, Nat.reduceLT, Nat.reduceAdd, Nat.reduceLeDiff, reduceCtorEq, goInt, pairs, isConst, TI.isAgg, splice, boxS, Edp, dpv, Nat.beq_eq, ZV.val, List.any_cons, List.any_nil, f0, f1, f5, f6, hi]
    rw [numL_B N hk]
    exact downS_here h
theorem specRText {σ : AHeap} {s : ByteArray} (hs : s.size ≤ 65535) {Q : Value → AHeap → Prop} (h : Q (.string (numB s.size 2 ++ s)) σ) : CallS E B 93 [.string s] σ Q := by
  refine call93 (by simp) ?_
  simp only [strip, bodyOf, Tryd.f93, getD_body, keepN, bareOp_mk, lessOp_mk, lapp_cons, lapp_nil, List.map_cons, List.map_nil, array_toList, ↓reduceIte, Nat.reduceEqDiff, Bool.false_eq_true]
  simp (disch := first | assumption | simp) only [↓sbD, sbU, tyB, Nat.reduceMul, Nat.reduceSub, Int.reduceEq, Int.reduceLT, Int.reduceLE, Int.reduceNe, Nat.reduceBneDiff, Nat.reduceBEq, decide_false, gt_iff_lt, Bool.or_self, Bool.false_eq_true, Nat.mul_one, Nat.one_mul, Nat.zero_mul, ↓reduceIte, Nat.reduceEqDiff, Nat.reduceLT, Nat.reduceAdd, Nat.reduceLeDiff, reduceCtorEq, goInt, pairs, isConst, TI.isAgg, splice, boxS, Edp, dpv, Nat.beq_eq, ZV.val, List.any_cons, List.any_nil]
  refine specRNumber (k := 2) (by omega) (by omega) ?_
  simp (disch := first | assumption | simp) only [↓sbD, sbU, tyB, Nat.reduceMul, Nat.reduceSub, Int.reduceEq, Int.reduceLT, Int.reduceLE, Int.reduceNe, Nat.reduceBneDiff, Nat.reduceBEq, decide_false, gt_iff_lt, Bool.or_self, Bool.false_eq_true, Nat.mul_one, Nat.one_mul, Nat.zero_mul, ↓reduceIte, Nat.reduceEqDiff, Nat.reduceLT, Nat.reduceAdd, Nat.reduceLeDiff, reduceCtorEq, goInt, pairs, isConst, TI.isAgg, splice, boxS, Edp, dpv, Nat.beq_eq, ZV.val, List.any_cons, List.any_nil, str_add (show (numB s.size 2).size + s.size ≤ 1000000000 by have := numB_size s.size 2; omega)]
  exact downS_here h
/-- the document's writer -/
def IsX (σ : AHeap) (x : Nat) (s : ByteArray) (e a : Int) : Prop := σ.get x = .cells [.string s, .int .i64 e, .int .i64 a] true 0
theorem specRFail {σ : AHeap} {x : Nat} {s : ByteArray} {e a n p : Int} (hx : IsX σ x s e a) {Q : Value → AHeap → Prop} (h : ∀ σ', Kept σ [x] σ' [x] → IsX σ' x s n p → Q unit σ') : CallS E B 90 [.pointer (some ⟨x, 0, none⟩), .int .i64 n, .int .i64 p] σ Q := by
  unfold IsX at hx
  refine call90 (by simp) ?_
  simp only [strip, bodyOf, Tryd.f90, getD_body, keepN, bareOp_mk, lessOp_mk, lapp_cons, lapp_nil, List.map_cons, List.map_nil, array_toList, ↓reduceIte, Nat.reduceEqDiff, Bool.false_eq_true]
  simp (disch := first | assumption | simp) only [↓sbD, sbU, tyB, Nat.reduceMul, Nat.reduceSub, Int.reduceEq, Int.reduceLT, Int.reduceLE, Int.reduceNe, Nat.reduceBneDiff, Nat.reduceBEq, decide_false, gt_iff_lt, Bool.or_self, Bool.false_eq_true, Nat.mul_one, Nat.one_mul, Nat.zero_mul, ↓reduceIte, Nat.reduceEqDiff, Nat.reduceLT, Nat.reduceAdd, Nat.reduceLeDiff, reduceCtorEq, goInt, pairs, isConst, TI.isAgg, splice, boxS, Edp, dpv, Nat.beq_eq, ZV.val, List.any_cons, List.any_nil, hx]
  exact downS_here (h _ ((Kept.set (by simp)).trans (Kept.set (by simp))) (AHeap.get_set_same _ _ _))
def XOut (σ : AHeap) (x : Nat) (s : ByteArray) (r : ByteArray ⊕ (Nat × Nat)) : Prop := match r with
  | .inl m => IsX σ x (s ++ m) 0 0
  | .inr (n, p) => IsX σ x s n ((s.size + p : Nat) : Int)
end Go.Proofs.YtfjifgffdoligaaDoor.AbsA
