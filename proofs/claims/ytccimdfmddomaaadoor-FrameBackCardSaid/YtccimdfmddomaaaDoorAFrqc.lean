/-
  A part of a law's proof.
-/
import Derived.Test.YtccimdfmddomaaaDoorAFrqb
import Derived.Test.YtccimdfmddomaaaDoorAGeqc
namespace Go.Proofs.YtccimdfmddomaaaDoor.AbsA
open Go AbsYtccimdfmddomaaaDoor Abs
set_option maxRecDepth 100000
set_option maxHeartbeats 4000000
set_option linter.unusedSimpArgs false
set_option linter.unusedVariables false
/-- may a kind have flags -/
def mayK (k : Int) (n : Nat) : Bool := if k = 3 then !(decide (n / 2 % 4 = 3)) && !(decide (8 ≤ n) && decide (n / 2 % 4 = 0)) else if k = 6 ∨ k = 8 ∨ k = 10 then decide (n = 2) else decide (1 ≤ k ∧ k ≤ 15 ∧ n = 0)
theorem mayK_eq (f : Int) : mayK (f / 16) (f % 16).toNat = mayI f := by
  unfold mayI
  by_cases h0 : 0 ≤ f
  · obtain ⟨n, rfl⟩ : ∃ n : Nat, f = n := ⟨f.toNat, by omega⟩
    have e1 : ((n : Int) / 16) = ((n / 16 : Nat) : Int) := by omega
    have e2 : ((n : Int) % 16).toNat = n % 16 := by omega
    rw [e1, e2]
    simp only [Int.toNat_natCast, h0, decide_true, Bool.true_and]
    unfold mayK mayN
    by_cases ha : 16 ≤ n
    · by_cases hb : n ≤ 255
      · have c : (1 ≤ ((n / 16 : Nat) : Int) ∧ ((n / 16 : Nat) : Int) ≤ 15 ∧ n % 16 = 0) ↔ n % 16 = 0 := by omega
        simp only [ha, hb, decide_true, Bool.true_and, c]
        have k3 : (((n / 16 : Nat) : Int) = 3) ↔ n / 16 = 3 := by omega
        have k6 : (((n / 16 : Nat) : Int) = 6) ↔ n / 16 = 6 := by omega
        have k8 : (((n / 16 : Nat) : Int) = 8) ↔ n / 16 = 8 := by omega
        have k10 : (((n / 16 : Nat) : Int) = 10) ↔ n / 16 = 10 := by omega
        simp only [k3, k6, k8, k10]
      · have c1 : ¬ ((n / 16 : Nat) : Int) = 3 := by omega
        have c2 : ¬ (((n / 16 : Nat) : Int) = 6 ∨ ((n / 16 : Nat) : Int) = 8 ∨ ((n / 16 : Nat) : Int) = 10) := by omega
        have c3 : ¬ (1 ≤ ((n / 16 : Nat) : Int) ∧ ((n / 16 : Nat) : Int) ≤ 15 ∧ n % 16 = 0) := by omega
        rw [if_neg c1, if_neg c2]
        simp only [c3, hb, decide_false, Bool.false_and, Bool.and_false]
    · have c1 : ¬ ((n / 16 : Nat) : Int) = 3 := by omega
      have c2 : ¬ (((n / 16 : Nat) : Int) = 6 ∨ ((n / 16 : Nat) : Int) = 8 ∨ ((n / 16 : Nat) : Int) = 10) := by omega
      have c3 : ¬ (1 ≤ ((n / 16 : Nat) : Int) ∧ ((n / 16 : Nat) : Int) ≤ 15 ∧ n % 16 = 0) := by omega
      rw [if_neg c1, if_neg c2]
      simp only [c3, ha, decide_false, Bool.false_and]
  · unfold mayK
    have c1 : ¬ f / 16 = 3 := by omega
    have c2 : ¬ (f / 16 = 6 ∨ f / 16 = 8 ∨ f / 16 = 10) := by omega
    have c3 : ¬ (1 ≤ f / 16 ∧ f / 16 ≤ 15 ∧ (f % 16).toNat = 0) := by omega
    rw [if_neg c1, if_neg c2]
    simp only [c3, h0, decide_false, Bool.false_and]
theorem and15I (a : Int) : aint .and .i64 a 15 = some (.int .i64 (((a % 16).toNat : Nat) : Int)) := by
  have e : (BitVec.ofInt 64 a &&& BitVec.ofInt 64 15).toNat = (a % 16).toNat := by
    rw [BitVec.toNat_and]
    have h15 : (BitVec.ofInt 64 15).toNat = 2 ^ 4 - 1 := by decide
    rw [h15, Nat.and_two_pow_sub_one_eq_mod, BitVec.toNat_ofInt]
    omega
  show some (Value.int .i64 (IntKind.i64.wrap (((BitVec.ofInt 64 a &&& BitVec.ofInt 64 15).toNat : Nat) : Int))) = _
  rw [e]
  rw [wrap64 ⟨by omega, by omega⟩]
theorem shr4I {σ : AHeap} (a : Int) {t : Nat} {cs : Bool} : abin E σ .shr t cs (.int .i64 a) (.int .u64 4) = some (.int .i64 (a / 16)) := by
  simp only [abin, ashift]
  rw [if_neg (by omega)]
  simp only [Bool.false_eq_true, if_false]
  have e : min (Int.toNat 4) IntKind.i64.bits = 4 := rfl
  rw [e]
  congr 2
  rw [Int.fdiv_eq_ediv_of_nonneg _ (by decide)]
  rfl
section
variable {σ : AHeap} {Q : Value → AHeap → Prop}
theorem flags {n : Nat} (hn : n < 16) : ∃ x y : Int, aint .and .i64 (n : Int) 6 = some (.int .i64 x) ∧ aint .and .i64 (n : Int) 8 = some (.int .i64 y) ∧ (x = 6 ↔ n / 2 % 4 = 3) ∧ (x = 0 ↔ n / 2 % 4 = 0) ∧ (y = 0 ↔ n < 8) := by
  have : n = 0 ∨ n = 1 ∨ n = 2 ∨ n = 3 ∨ n = 4 ∨ n = 5 ∨ n = 6 ∨ n = 7 ∨ n = 8 ∨ n = 9 ∨ n = 10 ∨ n = 11 ∨ n = 12 ∨ n = 13 ∨ n = 14 ∨ n = 15 := by omega
  rcases this with rfl | rfl | rfl | rfl | rfl | rfl | rfl | rfl | rfl | rfl | rfl | rfl | rfl | rfl | rfl | rfl <;> exact ⟨_, _, rfl, rfl, by decide, by decide, by decide⟩
theorem specMay {k : Int} {n : Nat} (hn : n < 16) (h : Q (.bool (mayK k n)) σ) : CallS E B 70 [.int .i64 k, .int .i64 (n : Int)] σ Q := by
  obtain ⟨x, y, a6, a8, e1, e2, e3⟩ := flags hn
  refine call70 (by simp) ?_
  simp only [strip, bodyOf, Tryd.f70, getD_body, keepN, bareOp_mk, lessOp_mk, lapp_cons, lapp_nil, List.map_cons, List.map_nil, array_toList, ↓reduceIte, Nat.reduceEqDiff, Bool.false_eq_true]
  by_cases h3 : k = 3
  · subst h3
    have e : mayK 3 n = (!(decide (x = 6)) && !(!(decide (y = 0)) && decide (x = 0))) := by
      unfold mayK
      rw [if_pos rfl]
      have e3' : (8 ≤ n) ↔ ¬ y = 0 := by omega
      simp only [e1, e2, e3', decide_not]
    rw [e] at h
    by_cases x6 : x = 6
    · subst x6
      simp (disch := first | assumption | simp) only [↓sbD, sbU, tyB, Nat.reduceMul, Nat.reduceSub, Int.reduceEq, Int.reduceLT, Int.reduceLE, Int.reduceNe, Nat.reduceBneDiff, Nat.reduceBEq, decide_false, gt_iff_lt, Bool.or_self, Bool.false_eq_true, Nat.mul_one, Nat.one_mul, Nat.zero_mul, ↓reduceIte, Nat.reduceEqDiff, Nat.reduceLT, Nat.reduceAdd, Nat.reduceLeDiff, reduceCtorEq, goInt, pairs, isConst, TI.isAgg, splice, boxS, Edp, dpv, Nat.beq_eq, ZV.val, List.any_cons, List.any_nil, a6, a8]
      exact downS_here h
    · by_cases y0 : y = 0
      · subst y0
        simp only [x6, decide_false, decide_true, Bool.not_false, Bool.not_true, Bool.and_self, Bool.true_and, Bool.false_and] at h
        simp (disch := first | assumption | simp) only [↓sbD, sbU, tyB, Nat.reduceMul, Nat.reduceSub, Int.reduceEq, Int.reduceLT, Int.reduceLE, Int.reduceNe, Nat.reduceBneDiff, Nat.reduceBEq, decide_false, gt_iff_lt, Bool.or_self, Bool.false_eq_true, Nat.mul_one, Nat.one_mul, Nat.zero_mul, ↓reduceIte, Nat.reduceEqDiff, Nat.reduceLT, Nat.reduceAdd, Nat.reduceLeDiff, reduceCtorEq, goInt, pairs, isConst, TI.isAgg, splice, boxS, Edp, dpv, Nat.beq_eq, ZV.val, List.any_cons, List.any_nil, a6, a8, x6]
        exact downS_here h
      · by_cases x0 : x = 0
        · subst x0
          simp only [y0, decide_false, decide_true, Bool.not_false, Bool.not_true, Bool.and_self, Bool.true_and, Bool.false_and, Int.reduceEq] at h
          simp (disch := first | assumption | simp) only [↓sbD, sbU, tyB, Nat.reduceMul, Nat.reduceSub, Int.reduceEq, Int.reduceLT, Int.reduceLE, Int.reduceNe, Nat.reduceBneDiff, Nat.reduceBEq, decide_false, gt_iff_lt, Bool.or_self, Bool.false_eq_true, Nat.mul_one, Nat.one_mul, Nat.zero_mul, ↓reduceIte, Nat.reduceEqDiff, Nat.reduceLT, Nat.reduceAdd, Nat.reduceLeDiff, reduceCtorEq, goInt, pairs, isConst, TI.isAgg, splice, boxS, Edp, dpv, Nat.beq_eq, ZV.val, List.any_cons, List.any_nil, a6, a8, y0]
          exact downS_here h
        · simp only [x6, y0, x0, decide_false, decide_true, Bool.not_false, Bool.not_true, Bool.and_self, Bool.true_and, Bool.false_and, Bool.and_false] at h
          simp (disch := first | assumption | simp) only [↓sbD, sbU, tyB, Nat.reduceMul, Nat.reduceSub, Int.reduceEq, Int.reduceLT, Int.reduceLE, Int.reduceNe, Nat.reduceBneDiff, Nat.reduceBEq, decide_false, gt_iff_lt, Bool.or_self, Bool.false_eq_true, Nat.mul_one, Nat.one_mul, Nat.zero_mul, ↓reduceIte, Nat.reduceEqDiff, Nat.reduceLT, Nat.reduceAdd, Nat.reduceLeDiff, reduceCtorEq, goInt, pairs, isConst, TI.isAgg, splice, boxS, Edp, dpv, Nat.beq_eq, ZV.val, List.any_cons, List.any_nil, a6, a8, x6, y0, x0]
          exact downS_here h
  · by_cases hs : k = 6 ∨ k = 8 ∨ k = 10
    · have e : mayK k n = decide ((n : Int) = 2) := by
        unfold mayK
        rw [if_neg h3, if_pos hs]
        congr 1
        rw [eq_iff_iff]
        omega
      rw [e] at h
      by_cases n2 : (n : Int) = 2
      · simp only [n2, decide_true] at h
        rcases hs with rfl | rfl | rfl <;> (simp (disch := first | assumption | simp) only [↓sbD, sbU, tyB, Nat.reduceMul, Nat.reduceSub, Int.reduceEq, Int.reduceLT, Int.reduceLE, Int.reduceNe, Nat.reduceBneDiff, Nat.reduceBEq, decide_false, gt_iff_lt, Bool.or_self, Bool.false_eq_true, Nat.mul_one, Nat.one_mul, Nat.zero_mul, ↓reduceIte, Nat.reduceEqDiff, Nat.reduceLT, Nat.reduceAdd, Nat.reduceLeDiff, reduceCtorEq, goInt, pairs, isConst, TI.isAgg, splice, boxS, Edp, dpv, Nat.beq_eq, ZV.val, List.any_cons, List.any_nil, n2]; exact downS_here h)
      · simp only [n2, decide_false] at h
        rcases hs with rfl | rfl | rfl <;> (simp (disch := first | assumption | simp) only [↓sbD, sbU, tyB, Nat.reduceMul, Nat.reduceSub, Int.reduceEq, Int.reduceLT, Int.reduceLE, Int.reduceNe, Nat.reduceBneDiff, Nat.reduceBEq, decide_false, gt_iff_lt, Bool.or_self, Bool.false_eq_true, Nat.mul_one, Nat.one_mul, Nat.zero_mul, ↓reduceIte, Nat.reduceEqDiff, Nat.reduceLT, Nat.reduceAdd, Nat.reduceLeDiff, reduceCtorEq, goInt, pairs, isConst, TI.isAgg, splice, boxS, Edp, dpv, Nat.beq_eq, ZV.val, List.any_cons, List.any_nil, n2]; exact downS_here h)
    · have k6 : ¬ k = 6 := by omega
      have k8 : ¬ k = 8 := by omega
      have k10 : ¬ k = 10 := by omega
      have e : mayK k n = (decide (1 ≤ k) && (decide (k ≤ 15) && decide ((n : Int) = 0))) := by
        unfold mayK
        rw [if_neg h3, if_neg hs]
        have : (n : Int) = 0 ↔ n = 0 := by omega
        simp only [this, Bool.decide_and]
      rw [e] at h
      by_cases g1 : 1 ≤ k
      · by_cases g2 : k ≤ 15
        · by_cases g3 : (n : Int) = 0
          · simp only [g1, g2, g3, decide_true, Bool.and_self] at h
            simp (disch := first | assumption | simp) only [↓sbD, sbU, tyB, Nat.reduceMul, Nat.reduceSub, Int.reduceEq, Int.reduceLT, Int.reduceLE, Int.reduceNe, Nat.reduceBneDiff, Nat.reduceBEq, decide_false, gt_iff_lt, Bool.or_self, Bool.false_eq_true, Nat.mul_one, Nat.one_mul, Nat.zero_mul, ↓reduceIte, Nat.reduceEqDiff, Nat.reduceLT, Nat.reduceAdd, Nat.reduceLeDiff, reduceCtorEq, goInt, pairs, isConst, TI.isAgg, splice, boxS, Edp, dpv, Nat.beq_eq, ZV.val, List.any_cons, List.any_nil, h3, k6, k8, k10, g1, g2, g3]
            exact downS_here h
          · simp only [g1, g2, g3, decide_true, decide_false, Bool.and_self, Bool.and_false] at h
            simp (disch := first | assumption | simp) only [↓sbD, sbU, tyB, Nat.reduceMul, Nat.reduceSub, Int.reduceEq, Int.reduceLT, Int.reduceLE, Int.reduceNe, Nat.reduceBneDiff, Nat.reduceBEq, decide_false, gt_iff_lt, Bool.or_self, Bool.false_eq_true, Nat.mul_one, Nat.one_mul, Nat.zero_mul, ↓reduceIte, Nat.reduceEqDiff, Nat.reduceLT, Nat.reduceAdd, Nat.reduceLeDiff, reduceCtorEq, goInt, pairs, isConst, TI.isAgg, splice, boxS, Edp, dpv, Nat.beq_eq, ZV.val, List.any_cons, List.any_nil, h3, k6, k8, k10, g1, g2, g3]
            exact downS_here h
        · simp only [g1, g2, decide_true, decide_false, Bool.false_and, Bool.and_false] at h
          simp (disch := first | assumption | simp) only [↓sbD, sbU, tyB, Nat.reduceMul, Nat.reduceSub, Int.reduceEq, Int.reduceLT, Int.reduceLE, Int.reduceNe, Nat.reduceBneDiff, Nat.reduceBEq, decide_false, gt_iff_lt, Bool.or_self, Bool.false_eq_true, Nat.mul_one, Nat.one_mul, Nat.zero_mul, ↓reduceIte, Nat.reduceEqDiff, Nat.reduceLT, Nat.reduceAdd, Nat.reduceLeDiff, reduceCtorEq, goInt, pairs, isConst, TI.isAgg, splice, boxS, Edp, dpv, Nat.beq_eq, ZV.val, List.any_cons, List.any_nil, h3, k6, k8, k10, g1, g2]
          exact downS_here h
      · simp only [g1, decide_false, Bool.false_and] at h
        simp (disch := first | assumption | simp) only [↓sbD, sbU, tyB, Nat.reduceMul, Nat.reduceSub, Int.reduceEq, Int.reduceLT, Int.reduceLE, Int.reduceNe, Nat.reduceBneDiff, Nat.reduceBEq, decide_false, gt_iff_lt, Bool.or_self, Bool.false_eq_true, Nat.mul_one, Nat.one_mul, Nat.zero_mul, ↓reduceIte, Nat.reduceEqDiff, Nat.reduceLT, Nat.reduceAdd, Nat.reduceLeDiff, reduceCtorEq, goInt, pairs, isConst, TI.isAgg, splice, boxS, Edp, dpv, Nat.beq_eq, ZV.val, List.any_cons, List.any_nil, h3, k6, k8, k10, g1]
        exact downS_here h
theorem specFCheck {f : Int} (hok : mayI f = true → Q .nilIface σ) (hbad : mayI f = false → Q (fv 129 0 (sent 2)) σ) : CallS E B 20 [.int .i64 f] σ Q := by
  have h1 := and15I f
  refine call20 (by simp) ?_
  simp only [strip, bodyOf, Tryd.f20, getD_body, keepN, bareOp_mk, lessOp_mk, lapp_cons, lapp_nil, List.map_cons, List.map_nil, array_toList, ↓reduceIte, Nat.reduceEqDiff, Bool.false_eq_true]
  simp (disch := first | assumption | simp) only [↓sbD, sbU, tyB, Nat.reduceMul, Nat.reduceSub, Int.reduceEq, Int.reduceLT, Int.reduceLE, Int.reduceNe, Nat.reduceBneDiff, Nat.reduceBEq, decide_false, gt_iff_lt, Bool.or_self, Bool.false_eq_true, Nat.mul_one, Nat.one_mul, Nat.zero_mul, ↓reduceIte, Nat.reduceEqDiff, Nat.reduceLT, Nat.reduceAdd, Nat.reduceLeDiff, reduceCtorEq, goInt, pairs, isConst, TI.isAgg, splice, boxS, Edp, dpv, Nat.beq_eq, ZV.val, List.any_cons, List.any_nil, h1, shr4I]
  refine specMay (by omega) ?_
  rw [mayK_eq]
  cases hm : mayI f with
  | true =>
    simp (disch := first | assumption | simp) only [↓sbD, sbU, tyB, Nat.reduceMul, Nat.reduceSub, Int.reduceEq, Int.reduceLT, Int.reduceLE, Int.reduceNe, Nat.reduceBneDiff, Nat.reduceBEq, decide_false, gt_iff_lt, Bool.or_self, Bool.false_eq_true, Nat.mul_one, Nat.one_mul, Nat.zero_mul, ↓reduceIte, Nat.reduceEqDiff, Nat.reduceLT, Nat.reduceAdd, Nat.reduceLeDiff, reduceCtorEq, goInt, pairs, isConst, TI.isAgg, splice, boxS, Edp, dpv, Nat.beq_eq, ZV.val, List.any_cons, List.any_nil, not_bool]
    exact downS_here (hok hm)
  | false =>
    simp (disch := first | assumption | simp) only [↓sbD, sbU, tyB, Nat.reduceMul, Nat.reduceSub, Int.reduceEq, Int.reduceLT, Int.reduceLE, Int.reduceNe, Nat.reduceBneDiff, Nat.reduceBEq, decide_false, gt_iff_lt, Bool.or_self, Bool.false_eq_true, Nat.mul_one, Nat.one_mul, Nat.zero_mul, ↓reduceIte, Nat.reduceEqDiff, Nat.reduceLT, Nat.reduceAdd, Nat.reduceLeDiff, reduceCtorEq, goInt, pairs, isConst, TI.isAgg, splice, boxS, Edp, dpv, Nat.beq_eq, ZV.val, List.any_cons, List.any_nil, not_bool, gk2]
    refine specNew (n := 2) ⟨by omega, by omega⟩ ?_
    simp (disch := first | assumption | simp) only [↓sbD, sbU, tyB, Nat.reduceMul, Nat.reduceSub, Int.reduceEq, Int.reduceLT, Int.reduceLE, Int.reduceNe, Nat.reduceBneDiff, Nat.reduceBEq, decide_false, gt_iff_lt, Bool.or_self, Bool.false_eq_true, Nat.mul_one, Nat.one_mul, Nat.zero_mul, ↓reduceIte, Nat.reduceEqDiff, Nat.reduceLT, Nat.reduceAdd, Nat.reduceLeDiff, reduceCtorEq, goInt, pairs, isConst, TI.isAgg, splice, boxS, Edp, dpv, Nat.beq_eq, ZV.val, List.any_cons, List.any_nil]
    exact downS_here (hbad hm)
theorem specRMay {f : Int} (h : Q (.bool (mayI f)) σ) : CallS E B 21 [.int .i64 f] σ Q := by
  refine call21 (by simp) ?_
  simp only [strip, bodyOf, Tryd.f21, getD_body, keepN, bareOp_mk, lessOp_mk, lapp_cons, lapp_nil, List.map_cons, List.map_nil, array_toList, ↓reduceIte, Nat.reduceEqDiff, Bool.false_eq_true]
  by_cases h16 : f < 16
  · have e : mayI f = false := by
      unfold mayI mayN
      have : ¬ 16 ≤ f.toNat := by omega
      simp only [this, decide_false, Bool.false_and, Bool.and_false]
    rw [e] at h
    simp (disch := first | assumption | simp) only [↓sbD, sbU, tyB, Nat.reduceMul, Nat.reduceSub, Int.reduceEq, Int.reduceLT, Int.reduceLE, Int.reduceNe, Nat.reduceBneDiff, Nat.reduceBEq, decide_false, gt_iff_lt, Bool.or_self, Bool.false_eq_true, Nat.mul_one, Nat.one_mul, Nat.zero_mul, ↓reduceIte, Nat.reduceEqDiff, Nat.reduceLT, Nat.reduceAdd, Nat.reduceLeDiff, reduceCtorEq, goInt, pairs, isConst, TI.isAgg, splice, boxS, Edp, dpv, Nat.beq_eq, ZV.val, List.any_cons, List.any_nil, h16]
    exact downS_here h
  · by_cases h255 : 255 < f
    · have e : mayI f = false := by
        unfold mayI mayN
        have : ¬ f.toNat ≤ 255 := by omega
        simp only [this, decide_false, Bool.false_and, Bool.and_false]
      rw [e] at h
      simp (disch := first | assumption | simp) only [↓sbD, sbU, tyB, Nat.reduceMul, Nat.reduceSub, Int.reduceEq, Int.reduceLT, Int.reduceLE, Int.reduceNe, Nat.reduceBneDiff, Nat.reduceBEq, decide_false, gt_iff_lt, Bool.or_self, Bool.false_eq_true, Nat.mul_one, Nat.one_mul, Nat.zero_mul, ↓reduceIte, Nat.reduceEqDiff, Nat.reduceLT, Nat.reduceAdd, Nat.reduceLeDiff, reduceCtorEq, goInt, pairs, isConst, TI.isAgg, splice, boxS, Edp, dpv, Nat.beq_eq, ZV.val, List.any_cons, List.any_nil, h16, h255]
      exact downS_here h
    · obtain ⟨n, rfl⟩ : ∃ n : Nat, f = n := ⟨f.toNat, by omega⟩
      have r1 : aint .rem .i64 (n : Int) 16 = some (.int .i64 ((n % 16 : Nat) : Int)) := by rw [rem_pos (by omega) (by omega)]; rfl
      have q1 : aint .quo .i64 (n : Int) 16 = some (.int .i64 ((n / 16 : Nat) : Int)) := by rw [quo_pos (by omega) (by omega) (by omega)]; rfl
      have q2 : aint .quo .i64 ((n % 16 : Nat) : Int) 2 = some (.int .i64 ((n % 16 / 2 : Nat) : Int)) := by rw [quo_pos (by omega) (by omega) (by omega)]; rfl
      have r2 : aint .rem .i64 ((n % 16 / 2 : Nat) : Int) 4 = some (.int .i64 ((n % 16 / 2 % 4 : Nat) : Int)) := by rw [rem_pos (by omega) (by omega)]; rfl
      have k : ∀ j : Nat, (((n / 16 : Nat) : Int) = (j : Int)) ↔ n / 16 = j := fun j => by omega
      have e : mayI n = (if n / 16 = 3 then !(decide (n % 16 / 2 % 4 = 3)) && !(decide (8 ≤ n % 16) && decide (n % 16 / 2 % 4 = 0)) else if n / 16 = 6 ∨ n / 16 = 8 ∨ n / 16 = 10 then decide (n % 16 = 2) else decide (n % 16 = 0)) := by
        unfold mayI mayN
        have c0 : (0 : Int) ≤ (n : Int) := by omega
        have c1 : 16 ≤ n := by omega
        have c2 : n ≤ 255 := by omega
        simp only [Int.toNat_natCast, c0, c1, c2, decide_true, Bool.true_and]
      rw [e] at h
      by_cases h3 : n / 16 = 3
      · have h3' : ((n / 16 : Nat) : Int) = 3 := by omega
        rw [if_pos h3] at h
        by_cases x3 : n % 16 / 2 % 4 = 3
        · have x3' : ((n % 16 / 2 % 4 : Nat) : Int) = 3 := by omega
          simp only [x3, decide_true, Bool.not_true, Bool.false_and] at h
          simp (disch := first | assumption | simp) only [↓sbD, sbU, tyB, Nat.reduceMul, Nat.reduceSub, Int.reduceEq, Int.reduceLT, Int.reduceLE, Int.reduceNe, Nat.reduceBneDiff, Nat.reduceBEq, decide_false, gt_iff_lt, Bool.or_self, Bool.false_eq_true, Nat.mul_one, Nat.one_mul, Nat.zero_mul, ↓reduceIte, Nat.reduceEqDiff, Nat.reduceLT, Nat.reduceAdd, Nat.reduceLeDiff, reduceCtorEq, goInt, pairs, isConst, TI.isAgg, splice, boxS, Edp, dpv, Nat.beq_eq, ZV.val, List.any_cons, List.any_nil, h16, h255, r1, q1, q2, r2, h3', x3']
          exact downS_here h
        · have x3' : ¬ ((n % 16 / 2 % 4 : Nat) : Int) = 3 := by omega
          by_cases y8 : 8 ≤ n % 16
          · have y8' : (8 : Int) ≤ ((n % 16 : Nat) : Int) := by omega
            by_cases x0 : n % 16 / 2 % 4 = 0
            · have x0' : ((n % 16 / 2 % 4 : Nat) : Int) = 0 := by omega
              simp only [x3, y8, x0, decide_true, decide_false, Bool.not_true, Bool.not_false, Bool.false_and, Bool.and_self, Bool.and_false, Nat.reduceEqDiff] at h
              simp (disch := first | assumption | simp) only [↓sbD, sbU, tyB, Nat.reduceMul, Nat.reduceSub, Int.reduceEq, Int.reduceLT, Int.reduceLE, Int.reduceNe, Nat.reduceBneDiff, Nat.reduceBEq, decide_false, gt_iff_lt, Bool.or_self, Bool.false_eq_true, Nat.mul_one, Nat.one_mul, Nat.zero_mul, ↓reduceIte, Nat.reduceEqDiff, Nat.reduceLT, Nat.reduceAdd, Nat.reduceLeDiff, reduceCtorEq, goInt, pairs, isConst, TI.isAgg, splice, boxS, Edp, dpv, Nat.beq_eq, ZV.val, List.any_cons, List.any_nil, h16, h255, r1, q1, q2, r2, h3', y8', x0', not_bool]
              exact downS_here h
            · have x0' : ¬ ((n % 16 / 2 % 4 : Nat) : Int) = 0 := by omega
              simp only [x3, y8, x0, decide_true, decide_false, Bool.not_true, Bool.not_false, Bool.false_and, Bool.and_self, Bool.and_false] at h
              simp (disch := first | assumption | simp) only [↓sbD, sbU, tyB, Nat.reduceMul, Nat.reduceSub, Int.reduceEq, Int.reduceLT, Int.reduceLE, Int.reduceNe, Nat.reduceBneDiff, Nat.reduceBEq, decide_false, gt_iff_lt, Bool.or_self, Bool.false_eq_true, Nat.mul_one, Nat.one_mul, Nat.zero_mul, ↓reduceIte, Nat.reduceEqDiff, Nat.reduceLT, Nat.reduceAdd, Nat.reduceLeDiff, reduceCtorEq, goInt, pairs, isConst, TI.isAgg, splice, boxS, Edp, dpv, Nat.beq_eq, ZV.val, List.any_cons, List.any_nil, h16, h255, r1, q1, q2, r2, h3', x3', y8', x0', not_bool]
              exact downS_here h
          · have y8' : ¬ (8 : Int) ≤ ((n % 16 : Nat) : Int) := by omega
            simp only [x3, y8, decide_true, decide_false, Bool.not_true, Bool.not_false, Bool.false_and, Bool.and_self, Bool.and_false] at h
            simp (disch := first | assumption | simp) only [↓sbD, sbU, tyB, Nat.reduceMul, Nat.reduceSub, Int.reduceEq, Int.reduceLT, Int.reduceLE, Int.reduceNe, Nat.reduceBneDiff, Nat.reduceBEq, decide_false, gt_iff_lt, Bool.or_self, Bool.false_eq_true, Nat.mul_one, Nat.one_mul, Nat.zero_mul, ↓reduceIte, Nat.reduceEqDiff, Nat.reduceLT, Nat.reduceAdd, Nat.reduceLeDiff, reduceCtorEq, goInt, pairs, isConst, TI.isAgg, splice, boxS, Edp, dpv, Nat.beq_eq, ZV.val, List.any_cons, List.any_nil, h16, h255, r1, q1, q2, r2, h3', x3', y8', not_bool]
            exact downS_here h
      · have h3' : ¬ ((n / 16 : Nat) : Int) = 3 := by omega
        rw [if_neg h3] at h
        by_cases hs : n / 16 = 6 ∨ n / 16 = 8 ∨ n / 16 = 10
        · rw [if_pos hs] at h
          have hs' : ((n / 16 : Nat) : Int) = 6 ∨ ((n / 16 : Nat) : Int) = 8 ∨ ((n / 16 : Nat) : Int) = 10 := by omega
          by_cases n2 : n % 16 = 2
          · have n2' : ((n % 16 : Nat) : Int) = 2 := by omega
            simp only [n2, decide_true] at h
            rcases hs' with h6 | h6 | h6 <;> (simp (disch := first | assumption | simp) only [↓sbD, sbU, tyB, Nat.reduceMul, Nat.reduceSub, Int.reduceEq, Int.reduceLT, Int.reduceLE, Int.reduceNe, Nat.reduceBneDiff, Nat.reduceBEq, decide_false, gt_iff_lt, Bool.or_self, Bool.false_eq_true, Nat.mul_one, Nat.one_mul, Nat.zero_mul, ↓reduceIte, Nat.reduceEqDiff, Nat.reduceLT, Nat.reduceAdd, Nat.reduceLeDiff, reduceCtorEq, goInt, pairs, isConst, TI.isAgg, splice, boxS, Edp, dpv, Nat.beq_eq, ZV.val, List.any_cons, List.any_nil, h16, h255, r1, q1, h6, n2']; exact downS_here h)
          · have n2' : ¬ ((n % 16 : Nat) : Int) = 2 := by omega
            simp only [n2, decide_false] at h
            rcases hs' with h6 | h6 | h6 <;> (simp (disch := first | assumption | simp) only [↓sbD, sbU, tyB, Nat.reduceMul, Nat.reduceSub, Int.reduceEq, Int.reduceLT, Int.reduceLE, Int.reduceNe, Nat.reduceBneDiff, Nat.reduceBEq, decide_false, gt_iff_lt, Bool.or_self, Bool.false_eq_true, Nat.mul_one, Nat.one_mul, Nat.zero_mul, ↓reduceIte, Nat.reduceEqDiff, Nat.reduceLT, Nat.reduceAdd, Nat.reduceLeDiff, reduceCtorEq, goInt, pairs, isConst, TI.isAgg, splice, boxS, Edp, dpv, Nat.beq_eq, ZV.val, List.any_cons, List.any_nil, h16, h255, r1, q1, h6, n2']; exact downS_here h)
        · rw [if_neg hs] at h
          have k6 : ¬ ((n / 16 : Nat) : Int) = 6 := by omega
          have k8 : ¬ ((n / 16 : Nat) : Int) = 8 := by omega
          have k10 : ¬ ((n / 16 : Nat) : Int) = 10 := by omega
          by_cases n0 : n % 16 = 0
          · have n0' : ((n % 16 : Nat) : Int) = 0 := by omega
            simp only [n0, decide_true] at h
            simp (disch := first | assumption | simp) only [↓sbD, sbU, tyB, Nat.reduceMul, Nat.reduceSub, Int.reduceEq, Int.reduceLT, Int.reduceLE, Int.reduceNe, Nat.reduceBneDiff, Nat.reduceBEq, decide_false, gt_iff_lt, Bool.or_self, Bool.false_eq_true, Nat.mul_one, Nat.one_mul, Nat.zero_mul, ↓reduceIte, Nat.reduceEqDiff, Nat.reduceLT, Nat.reduceAdd, Nat.reduceLeDiff, reduceCtorEq, goInt, pairs, isConst, TI.isAgg, splice, boxS, Edp, dpv, Nat.beq_eq, ZV.val, List.any_cons, List.any_nil, h16, h255, r1, q1, h3', k6, k8, k10, n0']
            exact downS_here h
          · have n0' : ¬ ((n % 16 : Nat) : Int) = 0 := by omega
            simp only [n0, decide_false] at h
            simp (disch := first | assumption | simp) only [↓sbD, sbU, tyB, Nat.reduceMul, Nat.reduceSub, Int.reduceEq, Int.reduceLT, Int.reduceLE, Int.reduceNe, Nat.reduceBneDiff, Nat.reduceBEq, decide_false, gt_iff_lt, Bool.or_self, Bool.false_eq_true, Nat.mul_one, Nat.one_mul, Nat.zero_mul, ↓reduceIte, Nat.reduceEqDiff, Nat.reduceLT, Nat.reduceAdd, Nat.reduceLeDiff, reduceCtorEq, goInt, pairs, isConst, TI.isAgg, splice, boxS, Edp, dpv, Nat.beq_eq, ZV.val, List.any_cons, List.any_nil, h16, h255, r1, q1, h3', k6, k8, k10, n0']
            exact downS_here h
end
end Go.Proofs.YtccimdfmddomaaaDoor.AbsA
