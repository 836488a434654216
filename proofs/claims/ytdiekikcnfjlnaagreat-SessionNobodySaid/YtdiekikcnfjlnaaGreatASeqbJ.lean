/-
  Parts of a law's proof.
-/
import Derived.Test.YtdiekikcnfjlnaaGreatASbqaJ
namespace Go.Proofs.YtdiekikcnfjlnaaGreat.AbsA
open Go AbsYtdiekikcnfjlnaaGreat Abs
open AbsS (msgC)
set_option maxRecDepth 100000
set_option maxHeartbeats 4000000
set_option linter.unusedSimpArgs false
set_option linter.unusedVariables false
attribute [local irreducible] afterS afterOpS opSK OpsS TrS CodeS condS condW thenS thenQ guardS guardTS outS drawS trSK consS
theorem zePk : azero E 35 = some [.int .i64 0, .int .i64 0, .int .i64 0, .slice none 0 0, .bool false, .int .i64 0, .string ⟨#[]⟩, .bool false, .string ⟨#[]⟩, .string ⟨#[]⟩, .int .i64 0, .bool false, .slice none 0 0, .bool false, .string ⟨#[]⟩, .bool false, .string ⟨#[]⟩, .bool false, .string ⟨#[]⟩, .string ⟨#[]⟩, .int .i64 0, .bool false, .bool false, .slice none 0 0, .slice none 0 0, .slice none 0 0] := rfl
theorem zeMs : azero E 28 = some [.string ⟨#[]⟩, .string ⟨#[]⟩, .int .i64 0, .bool false, .slice none 0 0, .string ⟨#[]⟩, .int .i64 0, .int .i64 0, .string ⟨#[]⟩] := rfl
theorem zeWl : azero E 30 = some [.bool false, .string ⟨#[]⟩, .string ⟨#[]⟩, .int .i64 0, .bool false, .slice none 0 0] := rfl
theorem zeTm : azero E 23 = some [.int .i64 0, .int .i64 0, .int .i64 0, .int .i64 0, .int .i64 0, .bool false] := rfl
theorem zeSb : azero E 25 = some [.string ⟨#[]⟩, .int .i64 0, .bool false, .bool false, .int .i64 0] := rfl
theorem zeSe : azero E 48 = some [.pointer none, .string ⟨#[]⟩, .bool false, .int .i64 0, .int .i64 0, .int .i64 0, .int .i64 0, .int .i64 0, .bool false, .bool false, .string ⟨#[]⟩, .string ⟨#[]⟩, .int .i64 0, .bool false, .slice none 0 0, .int .i64 0, .map none, .pointer none, .pointer none, .slice none 0 0] := rfl
theorem nd1 : dp 35 = false ∧ dp 28 = false ∧ dp 30 = false ∧ dp 23 = false ∧ dp 25 = false ∧ dp 3 = false ∧ dp 37 = false ∧ dp 48 = false := ⟨rfl, rfl, rfl, rfl, rfl, rfl, rfl, rfl⟩
abbrev unit : Value := .tuple #[]
def ses0 : List Value := [.pointer none, .string ⟨#[]⟩, .bool false, .int .i64 0, .int .i64 0, .int .i64 0, .int .i64 0, .int .i64 0, .bool false, .bool false, .string ⟨#[]⟩, .string ⟨#[]⟩, .int .i64 0, .bool false, .slice none 0 0, .int .i64 0, .map none, .pointer none, .pointer none, .slice none 0 0]
/-- a session that nobody made -/
def NB (σ : AHeap) (s : Value) : Prop := s = .pointer none ∨ ∃ b, s = .pointer (some ⟨b, 0, none⟩) ∧ σ.get b = .cells ses0 true 0
section
variable {σ : AHeap} {Q : Value → AHeap → Prop} {s : Value}
theorem NB.kept {σ' : AHeap} (h : NB σ s) (k : Kept σ [] σ' []) : NB σ' s := by
  rcases h with h | ⟨b, h1, h2⟩
  · exact .inl h
  · exact .inr ⟨b, h1, by rw [k.get b (by rw [h2]; simp) (by simp)]; exact h2⟩
theorem mapNe {cs : Bool} : abin E σ .neq 43 cs (.map none) (.map none) = some (.bool false) := by
  simp only [abin, nonNum, eqAsk, aeq, ty43]
  cases cs <;> rfl
theorem specGiven (hs : NB σ s) (h : Q (.bool false) σ) : CallS E B 31 [s] σ Q := by
  have hs0 := hs
  rcases hs with rfl | ⟨b, rfl, gb⟩
  · refine call31 (by simp) ?_
    simp only [strip, bodyOf, Tryz.f31, getD_body, keepN, bareOp_mk, lessOp_mk, lapp_cons, lapp_nil, List.map_cons, List.map_nil, array_toList, ↓reduceIte, Nat.reduceEqDiff, Bool.false_eq_true]
    simp (disch := first | assumption | simp) only [↓sbD, sbU, tyB, Nat.reduceMul, Nat.reduceSub, Int.reduceEq, Int.reduceLT, Int.reduceLE, Int.reduceNe, Nat.reduceBneDiff, Nat.reduceBEq, decide_false, gt_iff_lt, Bool.or_self, Bool.false_eq_true, Nat.mul_one, Nat.one_mul, Nat.zero_mul, ↓reduceIte, Nat.reduceEqDiff, Nat.reduceLT, Nat.reduceAdd, Nat.reduceLeDiff, reduceCtorEq, goInt, pairs, isConst, TI.isAgg, splice, boxS, Edp, dpv, Nat.beq_eq, ZV.val, List.any_cons, List.any_nil, Bool.false_and, mapNe]
    exact downS_here h
  · refine call31 (by simp) ?_
    simp only [strip, bodyOf, Tryz.f31, getD_body, keepN, bareOp_mk, lessOp_mk, lapp_cons, lapp_nil, List.map_cons, List.map_nil, array_toList, ↓reduceIte, Nat.reduceEqDiff, Bool.false_eq_true]
    simp only [ses0] at gb
    simp (disch := first | assumption | simp) only [↓sbD, sbU, tyB, Nat.reduceMul, Nat.reduceSub, Int.reduceEq, Int.reduceLT, Int.reduceLE, Int.reduceNe, Nat.reduceBneDiff, Nat.reduceBEq, decide_false, gt_iff_lt, Bool.or_self, Bool.false_eq_true, Nat.mul_one, Nat.one_mul, Nat.zero_mul, ↓reduceIte, Nat.reduceEqDiff, Nat.reduceLT, Nat.reduceAdd, Nat.reduceLeDiff, reduceCtorEq, goInt, pairs, isConst, TI.isAgg, splice, boxS, Edp, dpv, Nat.beq_eq, ZV.val, List.any_cons, List.any_nil, Bool.false_and, gb, mapNe]
    exact downS_here h
theorem specOnline (hs : NB σ s) (h : Q (.bool false) σ) : CallS E B 11 [s] σ Q := by
  have hs0 := hs
  rcases hs with rfl | ⟨b, rfl, gb⟩
  · refine call11 (by simp) ?_
    simp only [strip, bodyOf, Tryz.f11, getD_body, keepN, bareOp_mk, lessOp_mk, lapp_cons, lapp_nil, List.map_cons, List.map_nil, array_toList, ↓reduceIte, Nat.reduceEqDiff, Bool.false_eq_true]
    simp (disch := first | assumption | simp) only [↓sbD, sbU, tyB, Nat.reduceMul, Nat.reduceSub, Int.reduceEq, Int.reduceLT, Int.reduceLE, Int.reduceNe, Nat.reduceBneDiff, Nat.reduceBEq, decide_false, gt_iff_lt, Bool.or_self, Bool.false_eq_true, Nat.mul_one, Nat.one_mul, Nat.zero_mul, ↓reduceIte, Nat.reduceEqDiff, Nat.reduceLT, Nat.reduceAdd, Nat.reduceLeDiff, reduceCtorEq, goInt, pairs, isConst, TI.isAgg, splice, boxS, Edp, dpv, Nat.beq_eq, ZV.val, List.any_cons, List.any_nil, Bool.false_and]
    exact downS_here h
  · refine call11 (by simp) ?_
    simp only [strip, bodyOf, Tryz.f11, getD_body, keepN, bareOp_mk, lessOp_mk, lapp_cons, lapp_nil, List.map_cons, List.map_nil, array_toList, ↓reduceIte, Nat.reduceEqDiff, Bool.false_eq_true]
    simp only [ses0] at gb
    simp (disch := first | assumption | simp) only [↓sbD, sbU, tyB, Nat.reduceMul, Nat.reduceSub, Int.reduceEq, Int.reduceLT, Int.reduceLE, Int.reduceNe, Nat.reduceBneDiff, Nat.reduceBEq, decide_false, gt_iff_lt, Bool.or_self, Bool.false_eq_true, Nat.mul_one, Nat.one_mul, Nat.zero_mul, ↓reduceIte, Nat.reduceEqDiff, Nat.reduceLT, Nat.reduceAdd, Nat.reduceLeDiff, reduceCtorEq, goInt, pairs, isConst, TI.isAgg, splice, boxS, Edp, dpv, Nat.beq_eq, ZV.val, List.any_cons, List.any_nil, Bool.false_and, gb]
    exact downS_here h
theorem specGone {n : Int} (hs : NB σ s) (h : Q (.bool true) σ) : CallS E B 12 [s, .int .i64 n] σ Q := by
  have hs0 := hs
  rcases hs with rfl | ⟨b, rfl, gb⟩
  · refine call12 (by simp) ?_
    simp only [strip, bodyOf, Tryz.f12, getD_body, keepN, bareOp_mk, lessOp_mk, lapp_cons, lapp_nil, List.map_cons, List.map_nil, array_toList, ↓reduceIte, Nat.reduceEqDiff, Bool.false_eq_true]
    simp (disch := first | assumption | simp) only [↓sbD, sbU, tyB, Nat.reduceMul, Nat.reduceSub, Int.reduceEq, Int.reduceLT, Int.reduceLE, Int.reduceNe, Nat.reduceBneDiff, Nat.reduceBEq, decide_false, gt_iff_lt, Bool.or_self, Bool.false_eq_true, Nat.mul_one, Nat.one_mul, Nat.zero_mul, ↓reduceIte, Nat.reduceEqDiff, Nat.reduceLT, Nat.reduceAdd, Nat.reduceLeDiff, reduceCtorEq, goInt, pairs, isConst, TI.isAgg, splice, boxS, Edp, dpv, Nat.beq_eq, ZV.val, List.any_cons, List.any_nil, Bool.false_and]
    refine specGiven hs0 ?_
    simp (disch := first | assumption | simp) only [↓sbD, sbU, tyB, Nat.reduceMul, Nat.reduceSub, Int.reduceEq, Int.reduceLT, Int.reduceLE, Int.reduceNe, Nat.reduceBneDiff, Nat.reduceBEq, decide_false, gt_iff_lt, Bool.or_self, Bool.false_eq_true, Nat.mul_one, Nat.one_mul, Nat.zero_mul, ↓reduceIte, Nat.reduceEqDiff, Nat.reduceLT, Nat.reduceAdd, Nat.reduceLeDiff, reduceCtorEq, goInt, pairs, isConst, TI.isAgg, splice, boxS, Edp, dpv, Nat.beq_eq, ZV.val, List.any_cons, List.any_nil, Bool.false_and, not_bool, Bool.not_false, Bool.not_true]
    exact downS_here h
  · refine call12 (by simp) ?_
    simp only [strip, bodyOf, Tryz.f12, getD_body, keepN, bareOp_mk, lessOp_mk, lapp_cons, lapp_nil, List.map_cons, List.map_nil, array_toList, ↓reduceIte, Nat.reduceEqDiff, Bool.false_eq_true]
    simp only [ses0] at gb
    simp (disch := first | assumption | simp) only [↓sbD, sbU, tyB, Nat.reduceMul, Nat.reduceSub, Int.reduceEq, Int.reduceLT, Int.reduceLE, Int.reduceNe, Nat.reduceBneDiff, Nat.reduceBEq, decide_false, gt_iff_lt, Bool.or_self, Bool.false_eq_true, Nat.mul_one, Nat.one_mul, Nat.zero_mul, ↓reduceIte, Nat.reduceEqDiff, Nat.reduceLT, Nat.reduceAdd, Nat.reduceLeDiff, reduceCtorEq, goInt, pairs, isConst, TI.isAgg, splice, boxS, Edp, dpv, Nat.beq_eq, ZV.val, List.any_cons, List.any_nil, Bool.false_and, gb]
    refine specGiven hs0 ?_
    simp (disch := first | assumption | simp) only [↓sbD, sbU, tyB, Nat.reduceMul, Nat.reduceSub, Int.reduceEq, Int.reduceLT, Int.reduceLE, Int.reduceNe, Nat.reduceBneDiff, Nat.reduceBEq, decide_false, gt_iff_lt, Bool.or_self, Bool.false_eq_true, Nat.mul_one, Nat.one_mul, Nat.zero_mul, ↓reduceIte, Nat.reduceEqDiff, Nat.reduceLT, Nat.reduceAdd, Nat.reduceLeDiff, reduceCtorEq, goInt, pairs, isConst, TI.isAgg, splice, boxS, Edp, dpv, Nat.beq_eq, ZV.val, List.any_cons, List.any_nil, Bool.false_and, gb, not_bool, Bool.not_false, Bool.not_true]
    exact downS_here h
theorem specRoom (hs : NB σ s) (h : Q (.int .i64 0) σ) : CallS E B 13 [s] σ Q := by
  have hs0 := hs
  rcases hs with rfl | ⟨b, rfl, gb⟩
  · refine call13 (by simp) ?_
    simp only [strip, bodyOf, Tryz.f13, getD_body, keepN, bareOp_mk, lessOp_mk, lapp_cons, lapp_nil, List.map_cons, List.map_nil, array_toList, ↓reduceIte, Nat.reduceEqDiff, Bool.false_eq_true]
    simp (disch := first | assumption | simp) only [↓sbD, sbU, tyB, Nat.reduceMul, Nat.reduceSub, Int.reduceEq, Int.reduceLT, Int.reduceLE, Int.reduceNe, Nat.reduceBneDiff, Nat.reduceBEq, decide_false, gt_iff_lt, Bool.or_self, Bool.false_eq_true, Nat.mul_one, Nat.one_mul, Nat.zero_mul, ↓reduceIte, Nat.reduceEqDiff, Nat.reduceLT, Nat.reduceAdd, Nat.reduceLeDiff, reduceCtorEq, goInt, pairs, isConst, TI.isAgg, splice, boxS, Edp, dpv, Nat.beq_eq, ZV.val, List.any_cons, List.any_nil, Bool.false_and]
    refine specOnline hs0 ?_
    simp (disch := first | assumption | simp) only [↓sbD, sbU, tyB, Nat.reduceMul, Nat.reduceSub, Int.reduceEq, Int.reduceLT, Int.reduceLE, Int.reduceNe, Nat.reduceBneDiff, Nat.reduceBEq, decide_false, gt_iff_lt, Bool.or_self, Bool.false_eq_true, Nat.mul_one, Nat.one_mul, Nat.zero_mul, ↓reduceIte, Nat.reduceEqDiff, Nat.reduceLT, Nat.reduceAdd, Nat.reduceLeDiff, reduceCtorEq, goInt, pairs, isConst, TI.isAgg, splice, boxS, Edp, dpv, Nat.beq_eq, ZV.val, List.any_cons, List.any_nil, Bool.false_and, not_bool, Bool.not_false, Bool.not_true]
    exact downS_here h
  · refine call13 (by simp) ?_
    simp only [strip, bodyOf, Tryz.f13, getD_body, keepN, bareOp_mk, lessOp_mk, lapp_cons, lapp_nil, List.map_cons, List.map_nil, array_toList, ↓reduceIte, Nat.reduceEqDiff, Bool.false_eq_true]
    simp only [ses0] at gb
    simp (disch := first | assumption | simp) only [↓sbD, sbU, tyB, Nat.reduceMul, Nat.reduceSub, Int.reduceEq, Int.reduceLT, Int.reduceLE, Int.reduceNe, Nat.reduceBneDiff, Nat.reduceBEq, decide_false, gt_iff_lt, Bool.or_self, Bool.false_eq_true, Nat.mul_one, Nat.one_mul, Nat.zero_mul, ↓reduceIte, Nat.reduceEqDiff, Nat.reduceLT, Nat.reduceAdd, Nat.reduceLeDiff, reduceCtorEq, goInt, pairs, isConst, TI.isAgg, splice, boxS, Edp, dpv, Nat.beq_eq, ZV.val, List.any_cons, List.any_nil, Bool.false_and, gb]
    refine specOnline hs0 ?_
    simp (disch := first | assumption | simp) only [↓sbD, sbU, tyB, Nat.reduceMul, Nat.reduceSub, Int.reduceEq, Int.reduceLT, Int.reduceLE, Int.reduceNe, Nat.reduceBneDiff, Nat.reduceBEq, decide_false, gt_iff_lt, Bool.or_self, Bool.false_eq_true, Nat.mul_one, Nat.one_mul, Nat.zero_mul, ↓reduceIte, Nat.reduceEqDiff, Nat.reduceLT, Nat.reduceAdd, Nat.reduceLeDiff, reduceCtorEq, goInt, pairs, isConst, TI.isAgg, splice, boxS, Edp, dpv, Nat.beq_eq, ZV.val, List.any_cons, List.any_nil, Bool.false_and, gb, not_bool, Bool.not_false, Bool.not_true]
    exact downS_here h
theorem specFilters (hs : NB σ s) (h : Q (.slice none 0 0) σ) : CallS E B 14 [s] σ Q := by
  have hs0 := hs
  rcases hs with rfl | ⟨b, rfl, gb⟩
  · refine call14 (by simp) ?_
    simp only [strip, bodyOf, Tryz.f14, getD_body, keepN, bareOp_mk, lessOp_mk, lapp_cons, lapp_nil, List.map_cons, List.map_nil, array_toList, ↓reduceIte, Nat.reduceEqDiff, Bool.false_eq_true]
    simp (disch := first | assumption | simp) only [↓sbD, sbU, tyB, Nat.reduceMul, Nat.reduceSub, Int.reduceEq, Int.reduceLT, Int.reduceLE, Int.reduceNe, Nat.reduceBneDiff, Nat.reduceBEq, decide_false, gt_iff_lt, Bool.or_self, Bool.false_eq_true, Nat.mul_one, Nat.one_mul, Nat.zero_mul, ↓reduceIte, Nat.reduceEqDiff, Nat.reduceLT, Nat.reduceAdd, Nat.reduceLeDiff, reduceCtorEq, goInt, pairs, isConst, TI.isAgg, splice, boxS, Edp, dpv, Nat.beq_eq, ZV.val, List.any_cons, List.any_nil, Bool.false_and]
    refine specGiven hs0 ?_
    simp (disch := first | assumption | simp) only [↓sbD, sbU, tyB, Nat.reduceMul, Nat.reduceSub, Int.reduceEq, Int.reduceLT, Int.reduceLE, Int.reduceNe, Nat.reduceBneDiff, Nat.reduceBEq, decide_false, gt_iff_lt, Bool.or_self, Bool.false_eq_true, Nat.mul_one, Nat.one_mul, Nat.zero_mul, ↓reduceIte, Nat.reduceEqDiff, Nat.reduceLT, Nat.reduceAdd, Nat.reduceLeDiff, reduceCtorEq, goInt, pairs, isConst, TI.isAgg, splice, boxS, Edp, dpv, Nat.beq_eq, ZV.val, List.any_cons, List.any_nil, Bool.false_and, not_bool, Bool.not_false, Bool.not_true]
    exact downS_here h
  · refine call14 (by simp) ?_
    simp only [strip, bodyOf, Tryz.f14, getD_body, keepN, bareOp_mk, lessOp_mk, lapp_cons, lapp_nil, List.map_cons, List.map_nil, array_toList, ↓reduceIte, Nat.reduceEqDiff, Bool.false_eq_true]
    simp only [ses0] at gb
    simp (disch := first | assumption | simp) only [↓sbD, sbU, tyB, Nat.reduceMul, Nat.reduceSub, Int.reduceEq, Int.reduceLT, Int.reduceLE, Int.reduceNe, Nat.reduceBneDiff, Nat.reduceBEq, decide_false, gt_iff_lt, Bool.or_self, Bool.false_eq_true, Nat.mul_one, Nat.one_mul, Nat.zero_mul, ↓reduceIte, Nat.reduceEqDiff, Nat.reduceLT, Nat.reduceAdd, Nat.reduceLeDiff, reduceCtorEq, goInt, pairs, isConst, TI.isAgg, splice, boxS, Edp, dpv, Nat.beq_eq, ZV.val, List.any_cons, List.any_nil, Bool.false_and, gb]
    refine specGiven hs0 ?_
    simp (disch := first | assumption | simp) only [↓sbD, sbU, tyB, Nat.reduceMul, Nat.reduceSub, Int.reduceEq, Int.reduceLT, Int.reduceLE, Int.reduceNe, Nat.reduceBneDiff, Nat.reduceBEq, decide_false, gt_iff_lt, Bool.or_self, Bool.false_eq_true, Nat.mul_one, Nat.one_mul, Nat.zero_mul, ↓reduceIte, Nat.reduceEqDiff, Nat.reduceLT, Nat.reduceAdd, Nat.reduceLeDiff, reduceCtorEq, goInt, pairs, isConst, TI.isAgg, splice, boxS, Edp, dpv, Nat.beq_eq, ZV.val, List.any_cons, List.any_nil, Bool.false_and, gb, not_bool, Bool.not_false, Bool.not_true]
    exact downS_here h
theorem specSetExpiry {n : Int} (hs : NB σ s) (h : Q unit σ) : CallS E B 7 [s, .int .i64 n] σ Q := by
  have hs0 := hs
  rcases hs with rfl | ⟨b, rfl, gb⟩
  · refine call7 (by simp) ?_
    simp only [strip, bodyOf, Tryz.f7, getD_body, keepN, bareOp_mk, lessOp_mk, lapp_cons, lapp_nil, List.map_cons, List.map_nil, array_toList, ↓reduceIte, Nat.reduceEqDiff, Bool.false_eq_true]
    simp (disch := first | assumption | simp) only [↓sbD, sbU, tyB, Nat.reduceMul, Nat.reduceSub, Int.reduceEq, Int.reduceLT, Int.reduceLE, Int.reduceNe, Nat.reduceBneDiff, Nat.reduceBEq, decide_false, gt_iff_lt, Bool.or_self, Bool.false_eq_true, Nat.mul_one, Nat.one_mul, Nat.zero_mul, ↓reduceIte, Nat.reduceEqDiff, Nat.reduceLT, Nat.reduceAdd, Nat.reduceLeDiff, reduceCtorEq, goInt, pairs, isConst, TI.isAgg, splice, boxS, Edp, dpv, Nat.beq_eq, ZV.val, List.any_cons, List.any_nil, Bool.false_and]
    refine specGiven hs0 ?_
    simp (disch := first | assumption | simp) only [↓sbD, sbU, tyB, Nat.reduceMul, Nat.reduceSub, Int.reduceEq, Int.reduceLT, Int.reduceLE, Int.reduceNe, Nat.reduceBneDiff, Nat.reduceBEq, decide_false, gt_iff_lt, Bool.or_self, Bool.false_eq_true, Nat.mul_one, Nat.one_mul, Nat.zero_mul, ↓reduceIte, Nat.reduceEqDiff, Nat.reduceLT, Nat.reduceAdd, Nat.reduceLeDiff, reduceCtorEq, goInt, pairs, isConst, TI.isAgg, splice, boxS, Edp, dpv, Nat.beq_eq, ZV.val, List.any_cons, List.any_nil, Bool.false_and, not_bool, Bool.not_false, Bool.not_true]
    exact downS_here h
  · refine call7 (by simp) ?_
    simp only [strip, bodyOf, Tryz.f7, getD_body, keepN, bareOp_mk, lessOp_mk, lapp_cons, lapp_nil, List.map_cons, List.map_nil, array_toList, ↓reduceIte, Nat.reduceEqDiff, Bool.false_eq_true]
    simp only [ses0] at gb
    simp (disch := first | assumption | simp) only [↓sbD, sbU, tyB, Nat.reduceMul, Nat.reduceSub, Int.reduceEq, Int.reduceLT, Int.reduceLE, Int.reduceNe, Nat.reduceBneDiff, Nat.reduceBEq, decide_false, gt_iff_lt, Bool.or_self, Bool.false_eq_true, Nat.mul_one, Nat.one_mul, Nat.zero_mul, ↓reduceIte, Nat.reduceEqDiff, Nat.reduceLT, Nat.reduceAdd, Nat.reduceLeDiff, reduceCtorEq, goInt, pairs, isConst, TI.isAgg, splice, boxS, Edp, dpv, Nat.beq_eq, ZV.val, List.any_cons, List.any_nil, Bool.false_and, gb]
    refine specGiven hs0 ?_
    simp (disch := first | assumption | simp) only [↓sbD, sbU, tyB, Nat.reduceMul, Nat.reduceSub, Int.reduceEq, Int.reduceLT, Int.reduceLE, Int.reduceNe, Nat.reduceBneDiff, Nat.reduceBEq, decide_false, gt_iff_lt, Bool.or_self, Bool.false_eq_true, Nat.mul_one, Nat.one_mul, Nat.zero_mul, ↓reduceIte, Nat.reduceEqDiff, Nat.reduceLT, Nat.reduceAdd, Nat.reduceLeDiff, reduceCtorEq, goInt, pairs, isConst, TI.isAgg, splice, boxS, Edp, dpv, Nat.beq_eq, ZV.val, List.any_cons, List.any_nil, Bool.false_and, gb, not_bool, Bool.not_false, Bool.not_true]
    exact downS_here h
theorem specEnd {n : Int} (hs : NB σ s) (h : Q unit σ) : CallS E B 28 [s, .int .i64 n] σ Q := by
  have hs0 := hs
  rcases hs with rfl | ⟨b, rfl, gb⟩
  · refine call28 (by simp) ?_
    simp only [strip, bodyOf, Tryz.f28, getD_body, keepN, bareOp_mk, lessOp_mk, lapp_cons, lapp_nil, List.map_cons, List.map_nil, array_toList, ↓reduceIte, Nat.reduceEqDiff, Bool.false_eq_true]
    simp (disch := first | assumption | simp) only [↓sbD, sbU, tyB, Nat.reduceMul, Nat.reduceSub, Int.reduceEq, Int.reduceLT, Int.reduceLE, Int.reduceNe, Nat.reduceBneDiff, Nat.reduceBEq, decide_false, gt_iff_lt, Bool.or_self, Bool.false_eq_true, Nat.mul_one, Nat.one_mul, Nat.zero_mul, ↓reduceIte, Nat.reduceEqDiff, Nat.reduceLT, Nat.reduceAdd, Nat.reduceLeDiff, reduceCtorEq, goInt, pairs, isConst, TI.isAgg, splice, boxS, Edp, dpv, Nat.beq_eq, ZV.val, List.any_cons, List.any_nil, Bool.false_and]
    refine specOnline hs0 ?_
    simp (disch := first | assumption | simp) only [↓sbD, sbU, tyB, Nat.reduceMul, Nat.reduceSub, Int.reduceEq, Int.reduceLT, Int.reduceLE, Int.reduceNe, Nat.reduceBneDiff, Nat.reduceBEq, decide_false, gt_iff_lt, Bool.or_self, Bool.false_eq_true, Nat.mul_one, Nat.one_mul, Nat.zero_mul, ↓reduceIte, Nat.reduceEqDiff, Nat.reduceLT, Nat.reduceAdd, Nat.reduceLeDiff, reduceCtorEq, goInt, pairs, isConst, TI.isAgg, splice, boxS, Edp, dpv, Nat.beq_eq, ZV.val, List.any_cons, List.any_nil, Bool.false_and, not_bool, Bool.not_false, Bool.not_true]
    exact downS_here h
  · refine call28 (by simp) ?_
    simp only [strip, bodyOf, Tryz.f28, getD_body, keepN, bareOp_mk, lessOp_mk, lapp_cons, lapp_nil, List.map_cons, List.map_nil, array_toList, ↓reduceIte, Nat.reduceEqDiff, Bool.false_eq_true]
    simp only [ses0] at gb
    simp (disch := first | assumption | simp) only [↓sbD, sbU, tyB, Nat.reduceMul, Nat.reduceSub, Int.reduceEq, Int.reduceLT, Int.reduceLE, Int.reduceNe, Nat.reduceBneDiff, Nat.reduceBEq, decide_false, gt_iff_lt, Bool.or_self, Bool.false_eq_true, Nat.mul_one, Nat.one_mul, Nat.zero_mul, ↓reduceIte, Nat.reduceEqDiff, Nat.reduceLT, Nat.reduceAdd, Nat.reduceLeDiff, reduceCtorEq, goInt, pairs, isConst, TI.isAgg, splice, boxS, Edp, dpv, Nat.beq_eq, ZV.val, List.any_cons, List.any_nil, Bool.false_and, gb]
    refine specOnline hs0 ?_
    simp (disch := first | assumption | simp) only [↓sbD, sbU, tyB, Nat.reduceMul, Nat.reduceSub, Int.reduceEq, Int.reduceLT, Int.reduceLE, Int.reduceNe, Nat.reduceBneDiff, Nat.reduceBEq, decide_false, gt_iff_lt, Bool.or_self, Bool.false_eq_true, Nat.mul_one, Nat.one_mul, Nat.zero_mul, ↓reduceIte, Nat.reduceEqDiff, Nat.reduceLT, Nat.reduceAdd, Nat.reduceLeDiff, reduceCtorEq, goInt, pairs, isConst, TI.isAgg, splice, boxS, Edp, dpv, Nat.beq_eq, ZV.val, List.any_cons, List.any_nil, Bool.false_and, gb, not_bool, Bool.not_false, Bool.not_true]
    exact downS_here h
theorem specOLen (h : Q (.int .i64 0) σ) : CallS E B 36 [.pointer none] σ Q := by
  refine call36 (by simp) ?_
  simp only [strip, bodyOf, Tryz.f36, getD_body, keepN, bareOp_mk, lessOp_mk, lapp_cons, lapp_nil, List.map_cons, List.map_nil, array_toList, ↓reduceIte, Nat.reduceEqDiff, Bool.false_eq_true]
  simp (disch := first | assumption | simp) only [↓sbD, sbU, tyB, Nat.reduceMul, Nat.reduceSub, Int.reduceEq, Int.reduceLT, Int.reduceLE, Int.reduceNe, Nat.reduceBneDiff, Nat.reduceBEq, decide_false, gt_iff_lt, Bool.or_self, Bool.false_eq_true, Nat.mul_one, Nat.one_mul, Nat.zero_mul, ↓reduceIte, Nat.reduceEqDiff, Nat.reduceLT, Nat.reduceAdd, Nat.reduceLeDiff, reduceCtorEq, goInt, pairs, isConst, TI.isAgg, splice, boxS, Edp, dpv, Nat.beq_eq, ZV.val, List.any_cons, List.any_nil, Bool.false_and]
  exact downS_here h
theorem specOAll (h : Q (.slice none 0 0) σ) : CallS E B 39 [.pointer none] σ Q := by
  refine call39 (by simp) ?_
  simp only [strip, bodyOf, Tryz.f39, getD_body, keepN, bareOp_mk, lessOp_mk, lapp_cons, lapp_nil, List.map_cons, List.map_nil, array_toList, ↓reduceIte, Nat.reduceEqDiff, Bool.false_eq_true]
  simp (disch := first | assumption | simp) only [↓sbD, sbU, tyB, Nat.reduceMul, Nat.reduceSub, Int.reduceEq, Int.reduceLT, Int.reduceLE, Int.reduceNe, Nat.reduceBneDiff, Nat.reduceBEq, decide_false, gt_iff_lt, Bool.or_self, Bool.false_eq_true, Nat.mul_one, Nat.one_mul, Nat.zero_mul, ↓reduceIte, Nat.reduceEqDiff, Nat.reduceLT, Nat.reduceAdd, Nat.reduceLeDiff, reduceCtorEq, goInt, pairs, isConst, TI.isAgg, splice, boxS, Edp, dpv, Nat.beq_eq, ZV.val, List.any_cons, List.any_nil, Bool.false_and]
  exact downS_here h
theorem specQAll (h : Q (.slice none 0 0) σ) : CallS E B 38 [.pointer none] σ Q := by
  refine call38 (by simp) ?_
  simp only [strip, bodyOf, Tryz.f38, getD_body, keepN, bareOp_mk, lessOp_mk, lapp_cons, lapp_nil, List.map_cons, List.map_nil, array_toList, ↓reduceIte, Nat.reduceEqDiff, Bool.false_eq_true]
  simp (disch := first | assumption | simp) only [↓sbD, sbU, tyB, Nat.reduceMul, Nat.reduceSub, Int.reduceEq, Int.reduceLT, Int.reduceLE, Int.reduceNe, Nat.reduceBneDiff, Nat.reduceBEq, decide_false, gt_iff_lt, Bool.or_self, Bool.false_eq_true, Nat.mul_one, Nat.one_mul, Nat.zero_mul, ↓reduceIte, Nat.reduceEqDiff, Nat.reduceLT, Nat.reduceAdd, Nat.reduceLeDiff, reduceCtorEq, goInt, pairs, isConst, TI.isAgg, splice, boxS, Edp, dpv, Nat.beq_eq, ZV.val, List.any_cons, List.any_nil, Bool.false_and]
  exact downS_here h
theorem specOf0 {n : Int} (h : Q (.int .i64 0) σ) : CallS E B 64 [.pointer none, .int .i64 n] σ Q := by
  refine call64 (by simp) ?_
  simp only [strip, bodyOf, Tryz.f64, getD_body, keepN, bareOp_mk, lessOp_mk, lapp_cons, lapp_nil, List.map_cons, List.map_nil, array_toList, ↓reduceIte, Nat.reduceEqDiff, Bool.false_eq_true]
  simp (disch := first | assumption | simp) only [↓sbD, sbU, tyB, Nat.reduceMul, Nat.reduceSub, Int.reduceEq, Int.reduceLT, Int.reduceLE, Int.reduceNe, Nat.reduceBneDiff, Nat.reduceBEq, decide_false, gt_iff_lt, Bool.or_self, Bool.false_eq_true, Nat.mul_one, Nat.one_mul, Nat.zero_mul, ↓reduceIte, Nat.reduceEqDiff, Nat.reduceLT, Nat.reduceAdd, Nat.reduceLeDiff, reduceCtorEq, goInt, pairs, isConst, TI.isAgg, splice, boxS, Edp, dpv, Nat.beq_eq, ZV.val, List.any_cons, List.any_nil, Bool.false_and]
  exact downS_here h
theorem specIDone {n : Int} (h : Q (.bool false) σ) : CallS E B 40 [.pointer none, .int .i64 n] σ Q := by
  refine call40 (by simp) ?_
  simp only [strip, bodyOf, Tryz.f40, getD_body, keepN, bareOp_mk, lessOp_mk, lapp_cons, lapp_nil, List.map_cons, List.map_nil, array_toList, ↓reduceIte, Nat.reduceEqDiff, Bool.false_eq_true]
  simp (disch := first | assumption | simp) only [↓sbD, sbU, tyB, Nat.reduceMul, Nat.reduceSub, Int.reduceEq, Int.reduceLT, Int.reduceLE, Int.reduceNe, Nat.reduceBneDiff, Nat.reduceBEq, decide_false, gt_iff_lt, Bool.or_self, Bool.false_eq_true, Nat.mul_one, Nat.one_mul, Nat.zero_mul, ↓reduceIte, Nat.reduceEqDiff, Nat.reduceLT, Nat.reduceAdd, Nat.reduceLeDiff, reduceCtorEq, goInt, pairs, isConst, TI.isAgg, splice, boxS, Edp, dpv, Nat.beq_eq, ZV.val, List.any_cons, List.any_nil, Bool.false_and]
  refine specOf0 ?_
  simp (disch := first | assumption | simp) only [↓sbD, sbU, tyB, Nat.reduceMul, Nat.reduceSub, Int.reduceEq, Int.reduceLT, Int.reduceLE, Int.reduceNe, Nat.reduceBneDiff, Nat.reduceBEq, decide_false, gt_iff_lt, Bool.or_self, Bool.false_eq_true, Nat.mul_one, Nat.one_mul, Nat.zero_mul, ↓reduceIte, Nat.reduceEqDiff, Nat.reduceLT, Nat.reduceAdd, Nat.reduceLeDiff, reduceCtorEq, goInt, pairs, isConst, TI.isAgg, splice, boxS, Edp, dpv, Nat.beq_eq, ZV.val, List.any_cons, List.any_nil, Bool.false_and]
  exact downS_here h
theorem specIRel {n : Int} (h : Q (.bool false) σ) : CallS E B 41 [.pointer none, .int .i64 n] σ Q := by
  refine call41 (by simp) ?_
  simp only [strip, bodyOf, Tryz.f41, getD_body, keepN, bareOp_mk, lessOp_mk, lapp_cons, lapp_nil, List.map_cons, List.map_nil, array_toList, ↓reduceIte, Nat.reduceEqDiff, Bool.false_eq_true]
  simp (disch := first | assumption | simp) only [↓sbD, sbU, tyB, Nat.reduceMul, Nat.reduceSub, Int.reduceEq, Int.reduceLT, Int.reduceLE, Int.reduceNe, Nat.reduceBneDiff, Nat.reduceBEq, decide_false, gt_iff_lt, Bool.or_self, Bool.false_eq_true, Nat.mul_one, Nat.one_mul, Nat.zero_mul, ↓reduceIte, Nat.reduceEqDiff, Nat.reduceLT, Nat.reduceAdd, Nat.reduceLeDiff, reduceCtorEq, goInt, pairs, isConst, TI.isAgg, splice, boxS, Edp, dpv, Nat.beq_eq, ZV.val, List.any_cons, List.any_nil, Bool.false_and]
  refine specOf0 ?_
  simp (disch := first | assumption | simp) only [↓sbD, sbU, tyB, Nat.reduceMul, Nat.reduceSub, Int.reduceEq, Int.reduceLT, Int.reduceLE, Int.reduceNe, Nat.reduceBneDiff, Nat.reduceBEq, decide_false, gt_iff_lt, Bool.or_self, Bool.false_eq_true, Nat.mul_one, Nat.one_mul, Nat.zero_mul, ↓reduceIte, Nat.reduceEqDiff, Nat.reduceLT, Nat.reduceAdd, Nat.reduceLeDiff, reduceCtorEq, goInt, pairs, isConst, TI.isAgg, splice, boxS, Edp, dpv, Nat.beq_eq, ZV.val, List.any_cons, List.any_nil, Bool.false_and]
  exact downS_here h
theorem specOGroup (h : Q (.slice none 0 0) σ) : CallS E B 55 [.pointer none] σ Q := by
  refine call55 (by simp) ?_
  simp only [strip, bodyOf, Tryz.f55, getD_body, keepN, bareOp_mk, lessOp_mk, lapp_cons, lapp_nil, List.map_cons, List.map_nil, array_toList, ↓reduceIte, Nat.reduceEqDiff, Bool.false_eq_true]
  simp (disch := first | assumption | simp) only [↓sbD, sbU, tyB, Nat.reduceMul, Nat.reduceSub, Int.reduceEq, Int.reduceLT, Int.reduceLE, Int.reduceNe, Nat.reduceBneDiff, Nat.reduceBEq, decide_false, gt_iff_lt, Bool.or_self, Bool.false_eq_true, Nat.mul_one, Nat.one_mul, Nat.zero_mul, ↓reduceIte, Nat.reduceEqDiff, Nat.reduceLT, Nat.reduceAdd, Nat.reduceLeDiff, reduceCtorEq, goInt, pairs, isConst, TI.isAgg, splice, boxS, Edp, dpv, Nat.beq_eq, ZV.val, List.any_cons, List.any_nil, Bool.false_and]
  refine S_loop (fun m f σ' => σ' = σ ∧ f 4 = .int .i64 0 ∧ f 3 = .slice none 0 0) 0 (Le.refl _) ⟨rfl, by simp (disch := first | assumption | simp) only [↓sbD, sbU, tyB, Nat.reduceMul, Nat.reduceSub, Int.reduceEq, Int.reduceLT, Int.reduceLE, Int.reduceNe, Nat.reduceBneDiff, Nat.reduceBEq, decide_false, gt_iff_lt, Bool.or_self, Bool.false_eq_true, Nat.mul_one, Nat.one_mul, Nat.zero_mul, ↓reduceIte, Nat.reduceEqDiff, Nat.reduceLT, Nat.reduceAdd, Nat.reduceLeDiff, reduceCtorEq, goInt, pairs, isConst, TI.isAgg, splice, boxS, Edp, dpv, Nat.beq_eq, ZV.val, List.any_cons, List.any_nil, Bool.false_and], by simp (disch := first | assumption | simp) only [↓sbD, sbU, tyB, Nat.reduceMul, Nat.reduceSub, Int.reduceEq, Int.reduceLT, Int.reduceLE, Int.reduceNe, Nat.reduceBneDiff, Nat.reduceBEq, decide_false, gt_iff_lt, Bool.or_self, Bool.false_eq_true, Nat.mul_one, Nat.one_mul, Nat.zero_mul, ↓reduceIte, Nat.reduceEqDiff, Nat.reduceLT, Nat.reduceAdd, Nat.reduceLeDiff, reduceCtorEq, goInt, pairs, isConst, TI.isAgg, splice, boxS, Edp, dpv, Nat.beq_eq, ZV.val, List.any_cons, List.any_nil, Bool.false_and]⟩ ?_
  rintro m f σ' ⟨rfl, f4, f3⟩ hf
  have f0 := hf 0 (by decide) (notMem_wr (by kernel_rfl))
  simp (disch := first | assumption | simp) only [↓sbD, sbU, tyB, Nat.reduceMul, Nat.reduceSub, Int.reduceEq, Int.reduceLT, Int.reduceLE, Int.reduceNe, Nat.reduceBneDiff, Nat.reduceBEq, decide_false, gt_iff_lt, Bool.or_self, Bool.false_eq_true, Nat.mul_one, Nat.one_mul, Nat.zero_mul, ↓reduceIte, Nat.reduceEqDiff, Nat.reduceLT, Nat.reduceAdd, Nat.reduceLeDiff, reduceCtorEq, goInt, pairs, isConst, TI.isAgg, splice, boxS, Edp, dpv, Nat.beq_eq, ZV.val, List.any_cons, List.any_nil, Bool.false_and] at f0
  clear hf
  simp (disch := first | assumption | simp) only [↓sbD, sbU, tyB, Nat.reduceMul, Nat.reduceSub, Int.reduceEq, Int.reduceLT, Int.reduceLE, Int.reduceNe, Nat.reduceBneDiff, Nat.reduceBEq, decide_false, gt_iff_lt, Bool.or_self, Bool.false_eq_true, Nat.mul_one, Nat.one_mul, Nat.zero_mul, ↓reduceIte, Nat.reduceEqDiff, Nat.reduceLT, Nat.reduceAdd, Nat.reduceLeDiff, reduceCtorEq, goInt, pairs, isConst, TI.isAgg, splice, boxS, Edp, dpv, Nat.beq_eq, ZV.val, List.any_cons, List.any_nil, Bool.false_and, f0, f3, f4]
  refine specOLen ?_
  simp (disch := first | assumption | simp) only [↓sbD, sbU, tyB, Nat.reduceMul, Nat.reduceSub, Int.reduceEq, Int.reduceLT, Int.reduceLE, Int.reduceNe, Nat.reduceBneDiff, Nat.reduceBEq, decide_false, gt_iff_lt, Bool.or_self, Bool.false_eq_true, Nat.mul_one, Nat.one_mul, Nat.zero_mul, ↓reduceIte, Nat.reduceEqDiff, Nat.reduceLT, Nat.reduceAdd, Nat.reduceLeDiff, reduceCtorEq, goInt, pairs, isConst, TI.isAgg, splice, boxS, Edp, dpv, Nat.beq_eq, ZV.val, List.any_cons, List.any_nil, Bool.false_and, f0, f3, f4]
  exact downS_here h
theorem specFlights (hs : NB σ s) (h : Q (.slice none 0 0) σ) : CallS E B 16 [s] σ Q := by
  rcases hs with rfl | ⟨b, rfl, gb⟩
  · refine call16 (by simp) ?_
    simp only [strip, bodyOf, Tryz.f16, getD_body, keepN, bareOp_mk, lessOp_mk, lapp_cons, lapp_nil, List.map_cons, List.map_nil, array_toList, ↓reduceIte, Nat.reduceEqDiff, Bool.false_eq_true]
    simp (disch := first | assumption | simp) only [↓sbD, sbU, tyB, Nat.reduceMul, Nat.reduceSub, Int.reduceEq, Int.reduceLT, Int.reduceLE, Int.reduceNe, Nat.reduceBneDiff, Nat.reduceBEq, decide_false, gt_iff_lt, Bool.or_self, Bool.false_eq_true, Nat.mul_one, Nat.one_mul, Nat.zero_mul, ↓reduceIte, Nat.reduceEqDiff, Nat.reduceLT, Nat.reduceAdd, Nat.reduceLeDiff, reduceCtorEq, goInt, pairs, isConst, TI.isAgg, splice, boxS, Edp, dpv, Nat.beq_eq, ZV.val, List.any_cons, List.any_nil, Bool.false_and]
    exact downS_here h
  · simp only [ses0] at gb
    refine call16 (by simp) ?_
    simp only [strip, bodyOf, Tryz.f16, getD_body, keepN, bareOp_mk, lessOp_mk, lapp_cons, lapp_nil, List.map_cons, List.map_nil, array_toList, ↓reduceIte, Nat.reduceEqDiff, Bool.false_eq_true]
    simp (disch := first | assumption | simp) only [↓sbD, sbU, tyB, Nat.reduceMul, Nat.reduceSub, Int.reduceEq, Int.reduceLT, Int.reduceLE, Int.reduceNe, Nat.reduceBneDiff, Nat.reduceBEq, decide_false, gt_iff_lt, Bool.or_self, Bool.false_eq_true, Nat.mul_one, Nat.one_mul, Nat.zero_mul, ↓reduceIte, Nat.reduceEqDiff, Nat.reduceLT, Nat.reduceAdd, Nat.reduceLeDiff, reduceCtorEq, goInt, pairs, isConst, TI.isAgg, splice, boxS, Edp, dpv, Nat.beq_eq, ZV.val, List.any_cons, List.any_nil, Bool.false_and, gb]
    refine specOAll ?_
    simp (disch := first | assumption | simp) only [↓sbD, sbU, tyB, Nat.reduceMul, Nat.reduceSub, Int.reduceEq, Int.reduceLT, Int.reduceLE, Int.reduceNe, Nat.reduceBneDiff, Nat.reduceBEq, decide_false, gt_iff_lt, Bool.or_self, Bool.false_eq_true, Nat.mul_one, Nat.one_mul, Nat.zero_mul, ↓reduceIte, Nat.reduceEqDiff, Nat.reduceLT, Nat.reduceAdd, Nat.reduceLeDiff, reduceCtorEq, goInt, pairs, isConst, TI.isAgg, splice, boxS, Edp, dpv, Nat.beq_eq, ZV.val, List.any_cons, List.any_nil, Bool.false_and, gb]
    exact downS_here h
theorem specWaiting (hs : NB σ s) (h : Q (.slice none 0 0) σ) : CallS E B 15 [s] σ Q := by
  rcases hs with rfl | ⟨b, rfl, gb⟩
  · refine call15 (by simp) ?_
    simp only [strip, bodyOf, Tryz.f15, getD_body, keepN, bareOp_mk, lessOp_mk, lapp_cons, lapp_nil, List.map_cons, List.map_nil, array_toList, ↓reduceIte, Nat.reduceEqDiff, Bool.false_eq_true]
    simp (disch := first | assumption | simp) only [↓sbD, sbU, tyB, Nat.reduceMul, Nat.reduceSub, Int.reduceEq, Int.reduceLT, Int.reduceLE, Int.reduceNe, Nat.reduceBneDiff, Nat.reduceBEq, decide_false, gt_iff_lt, Bool.or_self, Bool.false_eq_true, Nat.mul_one, Nat.one_mul, Nat.zero_mul, ↓reduceIte, Nat.reduceEqDiff, Nat.reduceLT, Nat.reduceAdd, Nat.reduceLeDiff, reduceCtorEq, goInt, pairs, isConst, TI.isAgg, splice, boxS, Edp, dpv, Nat.beq_eq, ZV.val, List.any_cons, List.any_nil, Bool.false_and]
    exact downS_here h
  · simp only [ses0] at gb
    refine call15 (by simp) ?_
    simp only [strip, bodyOf, Tryz.f15, getD_body, keepN, bareOp_mk, lessOp_mk, lapp_cons, lapp_nil, List.map_cons, List.map_nil, array_toList, ↓reduceIte, Nat.reduceEqDiff, Bool.false_eq_true]
    simp (disch := first | assumption | simp) only [↓sbD, sbU, tyB, Nat.reduceMul, Nat.reduceSub, Int.reduceEq, Int.reduceLT, Int.reduceLE, Int.reduceNe, Nat.reduceBneDiff, Nat.reduceBEq, decide_false, gt_iff_lt, Bool.or_self, Bool.false_eq_true, Nat.mul_one, Nat.one_mul, Nat.zero_mul, ↓reduceIte, Nat.reduceEqDiff, Nat.reduceLT, Nat.reduceAdd, Nat.reduceLeDiff, reduceCtorEq, goInt, pairs, isConst, TI.isAgg, splice, boxS, Edp, dpv, Nat.beq_eq, ZV.val, List.any_cons, List.any_nil, Bool.false_and, gb]
    refine specQAll ?_
    simp (disch := first | assumption | simp) only [↓sbD, sbU, tyB, Nat.reduceMul, Nat.reduceSub, Int.reduceEq, Int.reduceLT, Int.reduceLE, Int.reduceNe, Nat.reduceBneDiff, Nat.reduceBEq, decide_false, gt_iff_lt, Bool.or_self, Bool.false_eq_true, Nat.mul_one, Nat.one_mul, Nat.zero_mul, ↓reduceIte, Nat.reduceEqDiff, Nat.reduceLT, Nat.reduceAdd, Nat.reduceLeDiff, reduceCtorEq, goInt, pairs, isConst, TI.isAgg, splice, boxS, Edp, dpv, Nat.beq_eq, ZV.val, List.any_cons, List.any_nil, Bool.false_and, gb]
    exact downS_here h
theorem specBack (hs : NB σ s) (h : Q (.slice none 0 0) σ) : CallS E B 30 [s] σ Q := by
  rcases hs with rfl | ⟨b, rfl, gb⟩
  · refine call30 (by simp) ?_
    simp only [strip, bodyOf, Tryz.f30, getD_body, keepN, bareOp_mk, lessOp_mk, lapp_cons, lapp_nil, List.map_cons, List.map_nil, array_toList, ↓reduceIte, Nat.reduceEqDiff, Bool.false_eq_true]
    simp (disch := first | assumption | simp) only [↓sbD, sbU, tyB, Nat.reduceMul, Nat.reduceSub, Int.reduceEq, Int.reduceLT, Int.reduceLE, Int.reduceNe, Nat.reduceBneDiff, Nat.reduceBEq, decide_false, gt_iff_lt, Bool.or_self, Bool.false_eq_true, Nat.mul_one, Nat.one_mul, Nat.zero_mul, ↓reduceIte, Nat.reduceEqDiff, Nat.reduceLT, Nat.reduceAdd, Nat.reduceLeDiff, reduceCtorEq, goInt, pairs, isConst, TI.isAgg, splice, boxS, Edp, dpv, Nat.beq_eq, ZV.val, List.any_cons, List.any_nil, Bool.false_and]
    exact downS_here h
  · simp only [ses0] at gb
    refine call30 (by simp) ?_
    simp only [strip, bodyOf, Tryz.f30, getD_body, keepN, bareOp_mk, lessOp_mk, lapp_cons, lapp_nil, List.map_cons, List.map_nil, array_toList, ↓reduceIte, Nat.reduceEqDiff, Bool.false_eq_true]
    simp (disch := first | assumption | simp) only [↓sbD, sbU, tyB, Nat.reduceMul, Nat.reduceSub, Int.reduceEq, Int.reduceLT, Int.reduceLE, Int.reduceNe, Nat.reduceBneDiff, Nat.reduceBEq, decide_false, gt_iff_lt, Bool.or_self, Bool.false_eq_true, Nat.mul_one, Nat.one_mul, Nat.zero_mul, ↓reduceIte, Nat.reduceEqDiff, Nat.reduceLT, Nat.reduceAdd, Nat.reduceLeDiff, reduceCtorEq, goInt, pairs, isConst, TI.isAgg, splice, boxS, Edp, dpv, Nat.beq_eq, ZV.val, List.any_cons, List.any_nil, Bool.false_and, gb]
    refine specOGroup ?_
    simp (disch := first | assumption | simp) only [↓sbD, sbU, tyB, Nat.reduceMul, Nat.reduceSub, Int.reduceEq, Int.reduceLT, Int.reduceLE, Int.reduceNe, Nat.reduceBneDiff, Nat.reduceBEq, decide_false, gt_iff_lt, Bool.or_self, Bool.false_eq_true, Nat.mul_one, Nat.one_mul, Nat.zero_mul, ↓reduceIte, Nat.reduceEqDiff, Nat.reduceLT, Nat.reduceAdd, Nat.reduceLeDiff, reduceCtorEq, goInt, pairs, isConst, TI.isAgg, splice, boxS, Edp, dpv, Nat.beq_eq, ZV.val, List.any_cons, List.any_nil, Bool.false_and, gb]
    exact downS_here h
theorem specDone {n : Int} (hs : NB σ s) (h : Q (.bool false) σ) : CallS E B 17 [s, .int .i64 n] σ Q := by
  rcases hs with rfl | ⟨b, rfl, gb⟩
  · refine call17 (by simp) ?_
    simp only [strip, bodyOf, Tryz.f17, getD_body, keepN, bareOp_mk, lessOp_mk, lapp_cons, lapp_nil, List.map_cons, List.map_nil, array_toList, ↓reduceIte, Nat.reduceEqDiff, Bool.false_eq_true]
    simp (disch := first | assumption | simp) only [↓sbD, sbU, tyB, Nat.reduceMul, Nat.reduceSub, Int.reduceEq, Int.reduceLT, Int.reduceLE, Int.reduceNe, Nat.reduceBneDiff, Nat.reduceBEq, decide_false, gt_iff_lt, Bool.or_self, Bool.false_eq_true, Nat.mul_one, Nat.one_mul, Nat.zero_mul, ↓reduceIte, Nat.reduceEqDiff, Nat.reduceLT, Nat.reduceAdd, Nat.reduceLeDiff, reduceCtorEq, goInt, pairs, isConst, TI.isAgg, splice, boxS, Edp, dpv, Nat.beq_eq, ZV.val, List.any_cons, List.any_nil, Bool.false_and]
    exact downS_here h
  · simp only [ses0] at gb
    refine call17 (by simp) ?_
    simp only [strip, bodyOf, Tryz.f17, getD_body, keepN, bareOp_mk, lessOp_mk, lapp_cons, lapp_nil, List.map_cons, List.map_nil, array_toList, ↓reduceIte, Nat.reduceEqDiff, Bool.false_eq_true]
    simp (disch := first | assumption | simp) only [↓sbD, sbU, tyB, Nat.reduceMul, Nat.reduceSub, Int.reduceEq, Int.reduceLT, Int.reduceLE, Int.reduceNe, Nat.reduceBneDiff, Nat.reduceBEq, decide_false, gt_iff_lt, Bool.or_self, Bool.false_eq_true, Nat.mul_one, Nat.one_mul, Nat.zero_mul, ↓reduceIte, Nat.reduceEqDiff, Nat.reduceLT, Nat.reduceAdd, Nat.reduceLeDiff, reduceCtorEq, goInt, pairs, isConst, TI.isAgg, splice, boxS, Edp, dpv, Nat.beq_eq, ZV.val, List.any_cons, List.any_nil, Bool.false_and, gb]
    refine specIDone ?_
    simp (disch := first | assumption | simp) only [↓sbD, sbU, tyB, Nat.reduceMul, Nat.reduceSub, Int.reduceEq, Int.reduceLT, Int.reduceLE, Int.reduceNe, Nat.reduceBneDiff, Nat.reduceBEq, decide_false, gt_iff_lt, Bool.or_self, Bool.false_eq_true, Nat.mul_one, Nat.one_mul, Nat.zero_mul, ↓reduceIte, Nat.reduceEqDiff, Nat.reduceLT, Nat.reduceAdd, Nat.reduceLeDiff, reduceCtorEq, goInt, pairs, isConst, TI.isAgg, splice, boxS, Edp, dpv, Nat.beq_eq, ZV.val, List.any_cons, List.any_nil, Bool.false_and, gb]
    exact downS_here h
theorem specRelease {n : Int} (hs : NB σ s) (h : Q (.bool false) σ) : CallS E B 18 [s, .int .i64 n] σ Q := by
  rcases hs with rfl | ⟨b, rfl, gb⟩
  · refine call18 (by simp) ?_
    simp only [strip, bodyOf, Tryz.f18, getD_body, keepN, bareOp_mk, lessOp_mk, lapp_cons, lapp_nil, List.map_cons, List.map_nil, array_toList, ↓reduceIte, Nat.reduceEqDiff, Bool.false_eq_true]
    simp (disch := first | assumption | simp) only [↓sbD, sbU, tyB, Nat.reduceMul, Nat.reduceSub, Int.reduceEq, Int.reduceLT, Int.reduceLE, Int.reduceNe, Nat.reduceBneDiff, Nat.reduceBEq, decide_false, gt_iff_lt, Bool.or_self, Bool.false_eq_true, Nat.mul_one, Nat.one_mul, Nat.zero_mul, ↓reduceIte, Nat.reduceEqDiff, Nat.reduceLT, Nat.reduceAdd, Nat.reduceLeDiff, reduceCtorEq, goInt, pairs, isConst, TI.isAgg, splice, boxS, Edp, dpv, Nat.beq_eq, ZV.val, List.any_cons, List.any_nil, Bool.false_and]
    exact downS_here h
  · simp only [ses0] at gb
    refine call18 (by simp) ?_
    simp only [strip, bodyOf, Tryz.f18, getD_body, keepN, bareOp_mk, lessOp_mk, lapp_cons, lapp_nil, List.map_cons, List.map_nil, array_toList, ↓reduceIte, Nat.reduceEqDiff, Bool.false_eq_true]
    simp (disch := first | assumption | simp) only [↓sbD, sbU, tyB, Nat.reduceMul, Nat.reduceSub, Int.reduceEq, Int.reduceLT, Int.reduceLE, Int.reduceNe, Nat.reduceBneDiff, Nat.reduceBEq, decide_false, gt_iff_lt, Bool.or_self, Bool.false_eq_true, Nat.mul_one, Nat.one_mul, Nat.zero_mul, ↓reduceIte, Nat.reduceEqDiff, Nat.reduceLT, Nat.reduceAdd, Nat.reduceLeDiff, reduceCtorEq, goInt, pairs, isConst, TI.isAgg, splice, boxS, Edp, dpv, Nat.beq_eq, ZV.val, List.any_cons, List.any_nil, Bool.false_and, gb]
    refine specIRel ?_
    simp (disch := first | assumption | simp) only [↓sbD, sbU, tyB, Nat.reduceMul, Nat.reduceSub, Int.reduceEq, Int.reduceLT, Int.reduceLE, Int.reduceNe, Nat.reduceBneDiff, Nat.reduceBEq, decide_false, gt_iff_lt, Bool.or_self, Bool.false_eq_true, Nat.mul_one, Nat.one_mul, Nat.zero_mul, ↓reduceIte, Nat.reduceEqDiff, Nat.reduceLT, Nat.reduceAdd, Nat.reduceLeDiff, reduceCtorEq, goInt, pairs, isConst, TI.isAgg, splice, boxS, Edp, dpv, Nat.beq_eq, ZV.val, List.any_cons, List.any_nil, Bool.false_and, gb]
    exact downS_here h
theorem specTerms (hs : NB σ s) (hq : ∀ σ', Kept σ [] σ' [] → Q (.agg ⟨[.int .i64 0, .int .i64 0, .int .i64 0, .int .i64 0, .int .i64 0, .bool false]⟩) σ') : CallS E B 19 [s] σ Q := by
  rcases hs with rfl | ⟨b, rfl, gb⟩
  · refine call19 (by simp) ?_
    simp only [strip, bodyOf, Tryz.f19, getD_body, keepN, bareOp_mk, lessOp_mk, lapp_cons, lapp_nil, List.map_cons, List.map_nil, array_toList, ↓reduceIte, Nat.reduceEqDiff, Bool.false_eq_true]
    simp (disch := first | assumption | simp) only [↓sbD, sbU, tyB, Nat.reduceMul, Nat.reduceSub, Int.reduceEq, Int.reduceLT, Int.reduceLE, Int.reduceNe, Nat.reduceBneDiff, Nat.reduceBEq, decide_false, gt_iff_lt, Bool.or_self, Bool.false_eq_true, Nat.mul_one, Nat.one_mul, Nat.zero_mul, ↓reduceIte, Nat.reduceEqDiff, Nat.reduceLT, Nat.reduceAdd, Nat.reduceLeDiff, reduceCtorEq, goInt, pairs, isConst, TI.isAgg, splice, boxS, Edp, dpv, Nat.beq_eq, ZV.val, List.any_cons, List.any_nil, Bool.false_and, AS_new, zeTm]
    intro c hc
    try simp (disch := first | assumption | simp) only [↓sbD, sbU, tyB, Nat.reduceMul, Nat.reduceSub, Int.reduceEq, Int.reduceLT, Int.reduceLE, Int.reduceNe, Nat.reduceBneDiff, Nat.reduceBEq, decide_false, gt_iff_lt, Bool.or_self, Bool.false_eq_true, Nat.mul_one, Nat.one_mul, Nat.zero_mul, ↓reduceIte, Nat.reduceEqDiff, Nat.reduceLT, Nat.reduceAdd, Nat.reduceLeDiff, reduceCtorEq, goInt, pairs, isConst, TI.isAgg, splice, boxS, Edp, dpv, Nat.beq_eq, ZV.val, List.any_cons, List.any_nil, Bool.false_and, AHeap.get_set_same, res_cellc, resC_some]
    exact downS_here (hq _ (((Kept.refl σ []).setD hc).setD hc))
  · simp only [ses0] at gb
    refine call19 (by simp) ?_
    simp only [strip, bodyOf, Tryz.f19, getD_body, keepN, bareOp_mk, lessOp_mk, lapp_cons, lapp_nil, List.map_cons, List.map_nil, array_toList, ↓reduceIte, Nat.reduceEqDiff, Bool.false_eq_true]
    simp (disch := first | assumption | simp) only [↓sbD, sbU, tyB, Nat.reduceMul, Nat.reduceSub, Int.reduceEq, Int.reduceLT, Int.reduceLE, Int.reduceNe, Nat.reduceBneDiff, Nat.reduceBEq, decide_false, gt_iff_lt, Bool.or_self, Bool.false_eq_true, Nat.mul_one, Nat.one_mul, Nat.zero_mul, ↓reduceIte, Nat.reduceEqDiff, Nat.reduceLT, Nat.reduceAdd, Nat.reduceLeDiff, reduceCtorEq, goInt, pairs, isConst, TI.isAgg, splice, boxS, Edp, dpv, Nat.beq_eq, ZV.val, List.any_cons, List.any_nil, Bool.false_and, AS_new, zeTm]
    intro c hc
    have hcb : c ≠ b := nd hc gb (by simp)
    have gb' : ∀ o, (AHeap.set σ c o).get b = σ.get b := fun o => AHeap.get_set_ne _ _ hcb
    simp (disch := first | assumption | simp) only [↓sbD, sbU, tyB, Nat.reduceMul, Nat.reduceSub, Int.reduceEq, Int.reduceLT, Int.reduceLE, Int.reduceNe, Nat.reduceBneDiff, Nat.reduceBEq, decide_false, gt_iff_lt, Bool.or_self, Bool.false_eq_true, Nat.mul_one, Nat.one_mul, Nat.zero_mul, ↓reduceIte, Nat.reduceEqDiff, Nat.reduceLT, Nat.reduceAdd, Nat.reduceLeDiff, reduceCtorEq, goInt, pairs, isConst, TI.isAgg, splice, boxS, Edp, dpv, Nat.beq_eq, ZV.val, List.any_cons, List.any_nil, Bool.false_and, gb', gb, AHeap.get_set_same, res_cellc, resC_some]
    exact downS_here (hq _ (((Kept.refl σ []).setD hc).setD hc))
theorem specClo0 (h : Q (.slice none 0 0) σ) : CallS E B 32 [.slice none 0 0] σ Q := by
  have e : ∀ τ : AHeap, ∀ cs, abin E τ .eql 26 cs (.slice none 0 0) (.slice none 0 0) = some (.bool true) := fun τ cs => by
    simp only [abin, nonNum, eqAsk, aeq, ty26]
    cases cs <;> rfl
  refine call32 (by simp) ?_
  simp only [strip, bodyOf, Tryz.f32, getD_body, keepN, bareOp_mk, lessOp_mk, lapp_cons, lapp_nil, List.map_cons, List.map_nil, array_toList, ↓reduceIte, Nat.reduceEqDiff, Bool.false_eq_true]
  simp (disch := first | assumption | simp) only [↓sbD, sbU, tyB, Nat.reduceMul, Nat.reduceSub, Int.reduceEq, Int.reduceLT, Int.reduceLE, Int.reduceNe, Nat.reduceBneDiff, Nat.reduceBEq, decide_false, gt_iff_lt, Bool.or_self, Bool.false_eq_true, Nat.mul_one, Nat.one_mul, Nat.zero_mul, ↓reduceIte, Nat.reduceEqDiff, Nat.reduceLT, Nat.reduceAdd, Nat.reduceLeDiff, reduceCtorEq, goInt, pairs, isConst, TI.isAgg, splice, boxS, Edp, dpv, Nat.beq_eq, ZV.val, List.any_cons, List.any_nil, Bool.false_and, e]
  exact downS_here h
theorem specWill (hs : NB σ s) (hq : ∀ σ', Kept σ [] σ' [] → Q (.agg ⟨[.bool false, .string ⟨#[]⟩, .string ⟨#[]⟩, .int .i64 0, .bool false, .slice none 0 0]⟩) σ') : CallS E B 20 [s] σ Q := by
  rcases hs with rfl | ⟨b, rfl, gb⟩
  · refine call20 (by simp) ?_
    simp only [strip, bodyOf, Tryz.f20, getD_body, keepN, bareOp_mk, lessOp_mk, lapp_cons, lapp_nil, List.map_cons, List.map_nil, array_toList, ↓reduceIte, Nat.reduceEqDiff, Bool.false_eq_true]
    simp (disch := first | assumption | simp) only [↓sbD, sbU, tyB, Nat.reduceMul, Nat.reduceSub, Int.reduceEq, Int.reduceLT, Int.reduceLE, Int.reduceNe, Nat.reduceBneDiff, Nat.reduceBEq, decide_false, gt_iff_lt, Bool.or_self, Bool.false_eq_true, Nat.mul_one, Nat.one_mul, Nat.zero_mul, ↓reduceIte, Nat.reduceEqDiff, Nat.reduceLT, Nat.reduceAdd, Nat.reduceLeDiff, reduceCtorEq, goInt, pairs, isConst, TI.isAgg, splice, boxS, Edp, dpv, Nat.beq_eq, ZV.val, List.any_cons, List.any_nil, Bool.false_and, AS_new, zeWl]
    intro c hc
    try simp (disch := first | assumption | simp) only [↓sbD, sbU, tyB, Nat.reduceMul, Nat.reduceSub, Int.reduceEq, Int.reduceLT, Int.reduceLE, Int.reduceNe, Nat.reduceBneDiff, Nat.reduceBEq, decide_false, gt_iff_lt, Bool.or_self, Bool.false_eq_true, Nat.mul_one, Nat.one_mul, Nat.zero_mul, ↓reduceIte, Nat.reduceEqDiff, Nat.reduceLT, Nat.reduceAdd, Nat.reduceLeDiff, reduceCtorEq, goInt, pairs, isConst, TI.isAgg, splice, boxS, Edp, dpv, Nat.beq_eq, ZV.val, List.any_cons, List.any_nil, Bool.false_and, AHeap.get_set_same, res_cellc, resC_some]
    exact downS_here (hq _ (((Kept.refl σ []).setD hc).setD hc))
  · simp only [ses0] at gb
    refine call20 (by simp) ?_
    simp only [strip, bodyOf, Tryz.f20, getD_body, keepN, bareOp_mk, lessOp_mk, lapp_cons, lapp_nil, List.map_cons, List.map_nil, array_toList, ↓reduceIte, Nat.reduceEqDiff, Bool.false_eq_true]
    simp (disch := first | assumption | simp) only [↓sbD, sbU, tyB, Nat.reduceMul, Nat.reduceSub, Int.reduceEq, Int.reduceLT, Int.reduceLE, Int.reduceNe, Nat.reduceBneDiff, Nat.reduceBEq, decide_false, gt_iff_lt, Bool.or_self, Bool.false_eq_true, Nat.mul_one, Nat.one_mul, Nat.zero_mul, ↓reduceIte, Nat.reduceEqDiff, Nat.reduceLT, Nat.reduceAdd, Nat.reduceLeDiff, reduceCtorEq, goInt, pairs, isConst, TI.isAgg, splice, boxS, Edp, dpv, Nat.beq_eq, ZV.val, List.any_cons, List.any_nil, Bool.false_and, AS_new, zeWl]
    intro c hc
    have hcb : c ≠ b := nd hc gb (by simp)
    generalize hσ1 : AHeap.set σ c _ = σ1
    have k1 : Kept σ [] σ1 [] := by rw [← hσ1]; exact (Kept.refl σ []).setD hc
    have gc1 : σ1.get c = .cells [.bool false, .string ⟨#[]⟩, .string ⟨#[]⟩, .int .i64 0, .bool false, .slice none 0 0] true 0 := by rw [← hσ1]; exact AHeap.get_set_same _ _ _
    have gb1 := (k1.at gb (by simp) (by simp)).1
    clear hσ1
    simp (disch := first | assumption | simp) only [↓sbD, sbU, tyB, Nat.reduceMul, Nat.reduceSub, Int.reduceEq, Int.reduceLT, Int.reduceLE, Int.reduceNe, Nat.reduceBneDiff, Nat.reduceBEq, decide_false, gt_iff_lt, Bool.or_self, Bool.false_eq_true, Nat.mul_one, Nat.one_mul, Nat.zero_mul, ↓reduceIte, Nat.reduceEqDiff, Nat.reduceLT, Nat.reduceAdd, Nat.reduceLeDiff, reduceCtorEq, goInt, pairs, isConst, TI.isAgg, splice, boxS, Edp, dpv, Nat.beq_eq, ZV.val, List.any_cons, List.any_nil, Bool.false_and, gb1, AS_new, zeWl]
    intro d hd
    try simp (disch := first | assumption | simp) only [↓sbD, sbU, tyB, Nat.reduceMul, Nat.reduceSub, Int.reduceEq, Int.reduceLT, Int.reduceLE, Int.reduceNe, Nat.reduceBneDiff, Nat.reduceBEq, decide_false, gt_iff_lt, Bool.or_self, Bool.false_eq_true, Nat.mul_one, Nat.one_mul, Nat.zero_mul, ↓reduceIte, Nat.reduceEqDiff, Nat.reduceLT, Nat.reduceAdd, Nat.reduceLeDiff, reduceCtorEq, goInt, pairs, isConst, TI.isAgg, splice, boxS, Edp, dpv, Nat.beq_eq, ZV.val, List.any_cons, List.any_nil, Bool.false_and, AHeap.get_set_same]
    generalize hσ2 : AHeap.set (AHeap.set σ1 d _) d _ = σ2
    have k2 : Kept σ1 [] σ2 [] := by rw [← hσ2]; exact ((Kept.refl _ []).setD hd).setD hd
    have gd2 : σ2.get d = .cells [.bool false, .string ⟨#[]⟩, .string ⟨#[]⟩, .int .i64 0, .bool false, .slice none 0 0] true 0 := by rw [← hσ2]; exact AHeap.get_set_same _ _ _
    have gc2 := (k2.at gc1 (by simp) (by simp)).1
    have hdc : d ≠ c := nd hd gc1 (by simp)
    clear hσ2
    try simp (disch := first | assumption | simp) only [↓sbD, sbU, tyB, Nat.reduceMul, Nat.reduceSub, Int.reduceEq, Int.reduceLT, Int.reduceLE, Int.reduceNe, Nat.reduceBneDiff, Nat.reduceBEq, decide_false, gt_iff_lt, Bool.or_self, Bool.false_eq_true, Nat.mul_one, Nat.one_mul, Nat.zero_mul, ↓reduceIte, Nat.reduceEqDiff, Nat.reduceLT, Nat.reduceAdd, Nat.reduceLeDiff, reduceCtorEq, goInt, pairs, isConst, TI.isAgg, splice, boxS, Edp, dpv, Nat.beq_eq, ZV.val, List.any_cons, List.any_nil, Bool.false_and, gd2]
    refine specClo0 ?_
    have dc : ∀ (τ : AHeap) o, (AHeap.set τ d o).get c = τ.get c := fun τ o => AHeap.get_set_ne _ _ hdc
    simp (disch := first | assumption | simp) only [↓sbD, sbU, tyB, Nat.reduceMul, Nat.reduceSub, Int.reduceEq, Int.reduceLT, Int.reduceLE, Int.reduceNe, Nat.reduceBneDiff, Nat.reduceBEq, decide_false, gt_iff_lt, Bool.or_self, Bool.false_eq_true, Nat.mul_one, Nat.one_mul, Nat.zero_mul, ↓reduceIte, Nat.reduceEqDiff, Nat.reduceLT, Nat.reduceAdd, Nat.reduceLeDiff, reduceCtorEq, goInt, pairs, isConst, TI.isAgg, splice, boxS, Edp, dpv, Nat.beq_eq, ZV.val, List.any_cons, List.any_nil, Bool.false_and, gd2, gc2, dc, AHeap.get_set_same, res_cellc, resC_some, List.length_cons, List.length_nil, List.cons_append, List.nil_append, List.drop_succ_cons, List.drop_zero, List.set_cons_zero, List.set_cons_succ, decide_true]
    exact downS_here (hq _ ((k1.trans (k2.setD hd)).setD hc))
end
end Go.Proofs.YtdiekikcnfjlnaaGreat.AbsA
namespace Go.Proofs.YtdiekikcnfjlnaaGreat.AbsA
open Go AbsYtdiekikcnfjlnaaGreat Abs
open AbsS (msgC)
set_option maxRecDepth 100000
set_option maxHeartbeats 4000000
set_option linter.unusedSimpArgs false
set_option linter.unusedVariables false
attribute [local irreducible] afterS afterOpS opSK OpsS TrS CodeS condS condW thenS thenQ guardS guardTS outS drawS trSK consS
section
variable {σ : AHeap} {Q : Value → AHeap → Prop} {s : Value}
theorem specBegin {t : Tm} (hs : NB σ s) (hq : ∀ σ', Kept σ [] σ' [] → Q unit σ') : CallS E B 24 [s, .agg ⟨tmC t⟩, .agg ⟨[.bool false, .string ⟨#[]⟩, .string ⟨#[]⟩, .int .i64 0, .bool false, .slice none 0 0]⟩] σ Q := by
  simp only [tmC]
  refine call24 (by simp) ?_
  simp only [strip, bodyOf, Tryz.f24, getD_body, keepN, bareOp_mk, lessOp_mk, lapp_cons, lapp_nil, List.map_cons, List.map_nil, array_toList, ↓reduceIte, Nat.reduceEqDiff, Bool.false_eq_true]
  simp (disch := first | assumption | simp) only [↓sbD, sbU, tyB, Nat.reduceMul, Nat.reduceSub, Int.reduceEq, Int.reduceLT, Int.reduceLE, Int.reduceNe, Nat.reduceBneDiff, Nat.reduceBEq, decide_false, gt_iff_lt, Bool.or_self, Bool.false_eq_true, Nat.mul_one, Nat.one_mul, Nat.zero_mul, ↓reduceIte, Nat.reduceEqDiff, Nat.reduceLT, Nat.reduceAdd, Nat.reduceLeDiff, reduceCtorEq, goInt, pairs, isConst, TI.isAgg, splice, boxS, Edp, dpv, Nat.beq_eq, ZV.val, List.any_cons, List.any_nil, Bool.false_and, AS_new, nd1.1, nd1.2.1, nd1.2.2.1, nd1.2.2.2.1, nd1.2.2.2.2.1, nd1.2.2.2.2.2.1, nd1.2.2.2.2.2.2.1, nd1.2.2.2.2.2.2.2]
  intro a ha b hb
  have hab : a ≠ b := by rintro rfl; rw [AHeap.get_set_same] at hb; cases hb
  have hbd : σ.get b = .dead := by rw [AHeap.get_set_ne _ _ hab] at hb; exact hb
  generalize hσ1 : AHeap.set (AHeap.set σ a _) b _ = σ1
  have k1 : Kept σ [] σ1 [] := by rw [← hσ1]; exact ((Kept.refl σ []).setD ha).setD hbd
  clear hσ1
  try simp (disch := first | assumption | simp) only [↓sbD, sbU, tyB, Nat.reduceMul, Nat.reduceSub, Int.reduceEq, Int.reduceLT, Int.reduceLE, Int.reduceNe, Nat.reduceBneDiff, Nat.reduceBEq, decide_false, gt_iff_lt, Bool.or_self, Bool.false_eq_true, Nat.mul_one, Nat.one_mul, Nat.zero_mul, ↓reduceIte, Nat.reduceEqDiff, Nat.reduceLT, Nat.reduceAdd, Nat.reduceLeDiff, reduceCtorEq, goInt, pairs, isConst, TI.isAgg, splice, boxS, Edp, dpv, Nat.beq_eq, ZV.val, List.any_cons, List.any_nil, Bool.false_and]
  refine specGiven (hs.kept k1) ?_
  simp (disch := first | assumption | simp) only [↓sbD, sbU, tyB, Nat.reduceMul, Nat.reduceSub, Int.reduceEq, Int.reduceLT, Int.reduceLE, Int.reduceNe, Nat.reduceBneDiff, Nat.reduceBEq, decide_false, gt_iff_lt, Bool.or_self, Bool.false_eq_true, Nat.mul_one, Nat.one_mul, Nat.zero_mul, ↓reduceIte, Nat.reduceEqDiff, Nat.reduceLT, Nat.reduceAdd, Nat.reduceLeDiff, reduceCtorEq, goInt, pairs, isConst, TI.isAgg, splice, boxS, Edp, dpv, Nat.beq_eq, ZV.val, List.any_cons, List.any_nil, Bool.false_and, not_bool, Bool.not_false, Bool.not_true]
  exact downS_here (hq _ k1)
theorem specSetWill {h r : Bool} {t p : ByteArray} {q : Int} (hs : NB σ s) (hq : ∀ σ', Kept σ [] σ' [] → Q unit σ') : CallS E B 8 [s, .agg ⟨[.bool h, .string t, .string p, .int .i64 q, .bool r, .slice none 0 0]⟩] σ Q := by
  refine call8 (by simp) ?_
  simp only [strip, bodyOf, Tryz.f8, getD_body, keepN, bareOp_mk, lessOp_mk, lapp_cons, lapp_nil, List.map_cons, List.map_nil, array_toList, ↓reduceIte, Nat.reduceEqDiff, Bool.false_eq_true]
  simp (disch := first | assumption | simp) only [↓sbD, sbU, tyB, Nat.reduceMul, Nat.reduceSub, Int.reduceEq, Int.reduceLT, Int.reduceLE, Int.reduceNe, Nat.reduceBneDiff, Nat.reduceBEq, decide_false, gt_iff_lt, Bool.or_self, Bool.false_eq_true, Nat.mul_one, Nat.one_mul, Nat.zero_mul, ↓reduceIte, Nat.reduceEqDiff, Nat.reduceLT, Nat.reduceAdd, Nat.reduceLeDiff, reduceCtorEq, goInt, pairs, isConst, TI.isAgg, splice, boxS, Edp, dpv, Nat.beq_eq, ZV.val, List.any_cons, List.any_nil, Bool.false_and, AS_new, nd1.1, nd1.2.1, nd1.2.2.1, nd1.2.2.2.1, nd1.2.2.2.2.1, nd1.2.2.2.2.2.1, nd1.2.2.2.2.2.2.1, nd1.2.2.2.2.2.2.2]
  intro a ha
  generalize hσ1 : AHeap.set σ a _ = σ1
  have k1 : Kept σ [] σ1 [] := by rw [← hσ1]; exact (Kept.refl σ []).setD ha
  clear hσ1
  try simp (disch := first | assumption | simp) only [↓sbD, sbU, tyB, Nat.reduceMul, Nat.reduceSub, Int.reduceEq, Int.reduceLT, Int.reduceLE, Int.reduceNe, Nat.reduceBneDiff, Nat.reduceBEq, decide_false, gt_iff_lt, Bool.or_self, Bool.false_eq_true, Nat.mul_one, Nat.one_mul, Nat.zero_mul, ↓reduceIte, Nat.reduceEqDiff, Nat.reduceLT, Nat.reduceAdd, Nat.reduceLeDiff, reduceCtorEq, goInt, pairs, isConst, TI.isAgg, splice, boxS, Edp, dpv, Nat.beq_eq, ZV.val, List.any_cons, List.any_nil, Bool.false_and]
  refine specGiven (hs.kept k1) ?_
  simp (disch := first | assumption | simp) only [↓sbD, sbU, tyB, Nat.reduceMul, Nat.reduceSub, Int.reduceEq, Int.reduceLT, Int.reduceLE, Int.reduceNe, Nat.reduceBneDiff, Nat.reduceBEq, decide_false, gt_iff_lt, Bool.or_self, Bool.false_eq_true, Nat.mul_one, Nat.one_mul, Nat.zero_mul, ↓reduceIte, Nat.reduceEqDiff, Nat.reduceLT, Nat.reduceAdd, Nat.reduceLeDiff, reduceCtorEq, goInt, pairs, isConst, TI.isAgg, splice, boxS, Edp, dpv, Nat.beq_eq, ZV.val, List.any_cons, List.any_nil, Bool.false_and, not_bool, Bool.not_false, Bool.not_true]
  exact downS_here (hq _ k1)
theorem specSubscribe {x : Sb} {n : Int} (hs : NB σ s) (hq : ∀ σ', Kept σ [] σ' [] → Q (.bool false) σ') : CallS E B 9 [s, .agg ⟨subC x⟩, .int .i64 n] σ Q := by
  simp only [subC]
  refine call9 (by simp) ?_
  simp only [strip, bodyOf, Tryz.f9, getD_body, keepN, bareOp_mk, lessOp_mk, lapp_cons, lapp_nil, List.map_cons, List.map_nil, array_toList, ↓reduceIte, Nat.reduceEqDiff, Bool.false_eq_true]
  simp (disch := first | assumption | simp) only [↓sbD, sbU, tyB, Nat.reduceMul, Nat.reduceSub, Int.reduceEq, Int.reduceLT, Int.reduceLE, Int.reduceNe, Nat.reduceBneDiff, Nat.reduceBEq, decide_false, gt_iff_lt, Bool.or_self, Bool.false_eq_true, Nat.mul_one, Nat.one_mul, Nat.zero_mul, ↓reduceIte, Nat.reduceEqDiff, Nat.reduceLT, Nat.reduceAdd, Nat.reduceLeDiff, reduceCtorEq, goInt, pairs, isConst, TI.isAgg, splice, boxS, Edp, dpv, Nat.beq_eq, ZV.val, List.any_cons, List.any_nil, Bool.false_and, AS_new, nd1.1, nd1.2.1, nd1.2.2.1, nd1.2.2.2.1, nd1.2.2.2.2.1, nd1.2.2.2.2.2.1, nd1.2.2.2.2.2.2.1, nd1.2.2.2.2.2.2.2]
  intro a ha
  generalize hσ1 : AHeap.set σ a _ = σ1
  have k1 : Kept σ [] σ1 [] := by rw [← hσ1]; exact (Kept.refl σ []).setD ha
  clear hσ1
  try simp (disch := first | assumption | simp) only [↓sbD, sbU, tyB, Nat.reduceMul, Nat.reduceSub, Int.reduceEq, Int.reduceLT, Int.reduceLE, Int.reduceNe, Nat.reduceBneDiff, Nat.reduceBEq, decide_false, gt_iff_lt, Bool.or_self, Bool.false_eq_true, Nat.mul_one, Nat.one_mul, Nat.zero_mul, ↓reduceIte, Nat.reduceEqDiff, Nat.reduceLT, Nat.reduceAdd, Nat.reduceLeDiff, reduceCtorEq, goInt, pairs, isConst, TI.isAgg, splice, boxS, Edp, dpv, Nat.beq_eq, ZV.val, List.any_cons, List.any_nil, Bool.false_and]
  refine specGiven (hs.kept k1) ?_
  simp (disch := first | assumption | simp) only [↓sbD, sbU, tyB, Nat.reduceMul, Nat.reduceSub, Int.reduceEq, Int.reduceLT, Int.reduceLE, Int.reduceNe, Nat.reduceBneDiff, Nat.reduceBEq, decide_false, gt_iff_lt, Bool.or_self, Bool.false_eq_true, Nat.mul_one, Nat.one_mul, Nat.zero_mul, ↓reduceIte, Nat.reduceEqDiff, Nat.reduceLT, Nat.reduceAdd, Nat.reduceLeDiff, reduceCtorEq, goInt, pairs, isConst, TI.isAgg, splice, boxS, Edp, dpv, Nat.beq_eq, ZV.val, List.any_cons, List.any_nil, Bool.false_and, not_bool, Bool.not_false, Bool.not_true]
  exact downS_here (hq _ k1)
theorem specSub {f : ByteArray} (hs : NB σ s) (hq : ∀ σ', Kept σ [] σ' [] → Q (.tuple #[.agg ⟨[.string ⟨#[]⟩, .int .i64 0, .bool false, .bool false, .int .i64 0]⟩, .int .i64 0, .bool false]) σ') : CallS E B 33 [s, .string f] σ Q := by
  refine call33 (by simp) ?_
  simp only [strip, bodyOf, Tryz.f33, getD_body, keepN, bareOp_mk, lessOp_mk, lapp_cons, lapp_nil, List.map_cons, List.map_nil, array_toList, ↓reduceIte, Nat.reduceEqDiff, Bool.false_eq_true]
  simp (disch := first | assumption | simp) only [↓sbD, sbU, tyB, Nat.reduceMul, Nat.reduceSub, Int.reduceEq, Int.reduceLT, Int.reduceLE, Int.reduceNe, Nat.reduceBneDiff, Nat.reduceBEq, decide_false, gt_iff_lt, Bool.or_self, Bool.false_eq_true, Nat.mul_one, Nat.one_mul, Nat.zero_mul, ↓reduceIte, Nat.reduceEqDiff, Nat.reduceLT, Nat.reduceAdd, Nat.reduceLeDiff, reduceCtorEq, goInt, pairs, isConst, TI.isAgg, splice, boxS, Edp, dpv, Nat.beq_eq, ZV.val, List.any_cons, List.any_nil, Bool.false_and, AS_new, zeSb, nd1.1, nd1.2.1, nd1.2.2.1, nd1.2.2.2.1, nd1.2.2.2.2.1, nd1.2.2.2.2.2.1, nd1.2.2.2.2.2.2.1, nd1.2.2.2.2.2.2.2]
  intro a ha
  generalize hσ1 : AHeap.set σ a _ = σ1
  have k1 : Kept σ [] σ1 [] := by rw [← hσ1]; exact (Kept.refl σ []).setD ha
  have ga1 : σ1.get a = .cells [.string ⟨#[]⟩, .int .i64 0, .bool false, .bool false, .int .i64 0] true 0 := by rw [← hσ1]; exact AHeap.get_set_same _ _ _
  clear hσ1
  try simp (disch := first | assumption | simp) only [↓sbD, sbU, tyB, Nat.reduceMul, Nat.reduceSub, Int.reduceEq, Int.reduceLT, Int.reduceLE, Int.reduceNe, Nat.reduceBneDiff, Nat.reduceBEq, decide_false, gt_iff_lt, Bool.or_self, Bool.false_eq_true, Nat.mul_one, Nat.one_mul, Nat.zero_mul, ↓reduceIte, Nat.reduceEqDiff, Nat.reduceLT, Nat.reduceAdd, Nat.reduceLeDiff, reduceCtorEq, goInt, pairs, isConst, TI.isAgg, splice, boxS, Edp, dpv, Nat.beq_eq, ZV.val, List.any_cons, List.any_nil, Bool.false_and]
  refine specGiven (hs.kept k1) ?_
  simp (disch := first | assumption | simp) only [↓sbD, sbU, tyB, Nat.reduceMul, Nat.reduceSub, Int.reduceEq, Int.reduceLT, Int.reduceLE, Int.reduceNe, Nat.reduceBneDiff, Nat.reduceBEq, decide_false, gt_iff_lt, Bool.or_self, Bool.false_eq_true, Nat.mul_one, Nat.one_mul, Nat.zero_mul, ↓reduceIte, Nat.reduceEqDiff, Nat.reduceLT, Nat.reduceAdd, Nat.reduceLeDiff, reduceCtorEq, goInt, pairs, isConst, TI.isAgg, splice, boxS, Edp, dpv, Nat.beq_eq, ZV.val, List.any_cons, List.any_nil, Bool.false_and, ga1, zeSb, not_bool, Bool.not_false, Bool.not_true, AHeap.get_set_same, res_cellc, resC_some]
  exact downS_here (hq _ (k1.setD ha))
theorem specUnsubscribe {f : ByteArray} (hs : NB σ s) (hq : ∀ σ', Kept σ [] σ' [] → Q (.bool false) σ') : CallS E B 10 [s, .string f] σ Q := by
  refine call10 (by simp) ?_
  simp only [strip, bodyOf, Tryz.f10, getD_body, keepN, bareOp_mk, lessOp_mk, lapp_cons, lapp_nil, List.map_cons, List.map_nil, array_toList, ↓reduceIte, Nat.reduceEqDiff, Bool.false_eq_true]
  simp (disch := first | assumption | simp) only [↓sbD, sbU, tyB, Nat.reduceMul, Nat.reduceSub, Int.reduceEq, Int.reduceLT, Int.reduceLE, Int.reduceNe, Nat.reduceBneDiff, Nat.reduceBEq, decide_false, gt_iff_lt, Bool.or_self, Bool.false_eq_true, Nat.mul_one, Nat.one_mul, Nat.zero_mul, ↓reduceIte, Nat.reduceEqDiff, Nat.reduceLT, Nat.reduceAdd, Nat.reduceLeDiff, reduceCtorEq, goInt, pairs, isConst, TI.isAgg, splice, boxS, Edp, dpv, Nat.beq_eq, ZV.val, List.any_cons, List.any_nil, Bool.false_and]
  refine specSub hs fun σ1 k1 => ?_
  simp (disch := first | assumption | simp) only [↓sbD, sbU, tyB, Nat.reduceMul, Nat.reduceSub, Int.reduceEq, Int.reduceLT, Int.reduceLE, Int.reduceNe, Nat.reduceBneDiff, Nat.reduceBEq, decide_false, gt_iff_lt, Bool.or_self, Bool.false_eq_true, Nat.mul_one, Nat.one_mul, Nat.zero_mul, ↓reduceIte, Nat.reduceEqDiff, Nat.reduceLT, Nat.reduceAdd, Nat.reduceLeDiff, reduceCtorEq, goInt, pairs, isConst, TI.isAgg, splice, boxS, Edp, dpv, Nat.beq_eq, ZV.val, List.any_cons, List.any_nil, Bool.false_and, AS_new, zeSb, nd1.1, nd1.2.1, nd1.2.2.1, nd1.2.2.2.1, nd1.2.2.2.2.1, nd1.2.2.2.2.2.1, nd1.2.2.2.2.2.2.1, nd1.2.2.2.2.2.2.2]
  intro a ha
  try simp (disch := first | assumption | simp) only [↓sbD, sbU, tyB, Nat.reduceMul, Nat.reduceSub, Int.reduceEq, Int.reduceLT, Int.reduceLE, Int.reduceNe, Nat.reduceBneDiff, Nat.reduceBEq, decide_false, gt_iff_lt, Bool.or_self, Bool.false_eq_true, Nat.mul_one, Nat.one_mul, Nat.zero_mul, ↓reduceIte, Nat.reduceEqDiff, Nat.reduceLT, Nat.reduceAdd, Nat.reduceLeDiff, reduceCtorEq, goInt, pairs, isConst, TI.isAgg, splice, boxS, Edp, dpv, Nat.beq_eq, ZV.val, List.any_cons, List.any_nil, Bool.false_and, AHeap.get_set_same]
  exact downS_here (hq _ (k1.trans (((Kept.refl σ1 []).setD ha).setD ha)))
theorem specPush {t p f g : ByteArray} {q u n : Int} {r : Bool} {v : Value} (hs : NB σ s) (hv : vcells v = [v] ∧ oneCell v = true) (hq : ∀ σ', Kept σ [] σ' [] → Q (.bool false) σ') : CallS E B 25 [s, .agg ⟨msgC t p q r v f u n g⟩] σ Q := by
  simp only [msgC]
  refine call25 (by simp) ?_
  simp only [strip, bodyOf, Tryz.f25, getD_body, keepN, bareOp_mk, lessOp_mk, lapp_cons, lapp_nil, List.map_cons, List.map_nil, array_toList, ↓reduceIte, Nat.reduceEqDiff, Bool.false_eq_true]
  simp (disch := first | assumption | simp) only [↓sbD, sbU, tyB, Nat.reduceMul, Nat.reduceSub, Int.reduceEq, Int.reduceLT, Int.reduceLE, Int.reduceNe, Nat.reduceBneDiff, Nat.reduceBEq, decide_false, gt_iff_lt, Bool.or_self, Bool.false_eq_true, Nat.mul_one, Nat.one_mul, Nat.zero_mul, ↓reduceIte, Nat.reduceEqDiff, Nat.reduceLT, Nat.reduceAdd, Nat.reduceLeDiff, reduceCtorEq, goInt, pairs, isConst, TI.isAgg, splice, boxS, Edp, dpv, Nat.beq_eq, ZV.val, List.any_cons, List.any_nil, Bool.false_and, AS_new, nd1.1, nd1.2.1, nd1.2.2.1, nd1.2.2.2.1, nd1.2.2.2.2.1, nd1.2.2.2.2.2.1, nd1.2.2.2.2.2.2.1, nd1.2.2.2.2.2.2.2, hv.1, hv.2]
  intro a ha
  generalize hσ1 : AHeap.set σ a _ = σ1
  have k1 : Kept σ [] σ1 [] := by rw [← hσ1]; exact (Kept.refl σ []).setD ha
  clear hσ1
  try simp (disch := first | assumption | simp) only [↓sbD, sbU, tyB, Nat.reduceMul, Nat.reduceSub, Int.reduceEq, Int.reduceLT, Int.reduceLE, Int.reduceNe, Nat.reduceBneDiff, Nat.reduceBEq, decide_false, gt_iff_lt, Bool.or_self, Bool.false_eq_true, Nat.mul_one, Nat.one_mul, Nat.zero_mul, ↓reduceIte, Nat.reduceEqDiff, Nat.reduceLT, Nat.reduceAdd, Nat.reduceLeDiff, reduceCtorEq, goInt, pairs, isConst, TI.isAgg, splice, boxS, Edp, dpv, Nat.beq_eq, ZV.val, List.any_cons, List.any_nil, Bool.false_and]
  refine specGiven (hs.kept k1) ?_
  simp (disch := first | assumption | simp) only [↓sbD, sbU, tyB, Nat.reduceMul, Nat.reduceSub, Int.reduceEq, Int.reduceLT, Int.reduceLE, Int.reduceNe, Nat.reduceBneDiff, Nat.reduceBEq, decide_false, gt_iff_lt, Bool.or_self, Bool.false_eq_true, Nat.mul_one, Nat.one_mul, Nat.zero_mul, ↓reduceIte, Nat.reduceEqDiff, Nat.reduceLT, Nat.reduceAdd, Nat.reduceLeDiff, reduceCtorEq, goInt, pairs, isConst, TI.isAgg, splice, boxS, Edp, dpv, Nat.beq_eq, ZV.val, List.any_cons, List.any_nil, Bool.false_and]
  exact downS_here (hq _ k1)
theorem specNext {n : Int} (hs : NB σ s) (hq : ∀ σ', Kept σ [] σ' [] → Q (.tuple #[.agg ⟨[.int .i64 0, .int .i64 0, .int .i64 0, .slice none 0 0, .bool false, .int .i64 0, .string ⟨#[]⟩, .bool false, .string ⟨#[]⟩, .string ⟨#[]⟩, .int .i64 0, .bool false, .slice none 0 0, .bool false, .string ⟨#[]⟩, .bool false, .string ⟨#[]⟩, .bool false, .string ⟨#[]⟩, .string ⟨#[]⟩, .int .i64 0, .bool false, .bool false, .slice none 0 0, .slice none 0 0, .slice none 0 0]⟩, .bool false]) σ') : CallS E B 26 [s, .int .i64 n] σ Q := by
  refine call26 (by simp) ?_
  simp only [strip, bodyOf, Tryz.f26, getD_body, keepN, bareOp_mk, lessOp_mk, lapp_cons, lapp_nil, List.map_cons, List.map_nil, array_toList, ↓reduceIte, Nat.reduceEqDiff, Bool.false_eq_true]
  simp (disch := first | assumption | simp) only [↓sbD, sbU, tyB, Nat.reduceMul, Nat.reduceSub, Int.reduceEq, Int.reduceLT, Int.reduceLE, Int.reduceNe, Nat.reduceBneDiff, Nat.reduceBEq, decide_false, gt_iff_lt, Bool.or_self, Bool.false_eq_true, Nat.mul_one, Nat.one_mul, Nat.zero_mul, ↓reduceIte, Nat.reduceEqDiff, Nat.reduceLT, Nat.reduceAdd, Nat.reduceLeDiff, reduceCtorEq, goInt, pairs, isConst, TI.isAgg, splice, boxS, Edp, dpv, Nat.beq_eq, ZV.val, List.any_cons, List.any_nil, Bool.false_and, AS_new, zePk, nd1.1, nd1.2.1, nd1.2.2.1, nd1.2.2.2.1, nd1.2.2.2.2.1, nd1.2.2.2.2.2.1, nd1.2.2.2.2.2.2.1, nd1.2.2.2.2.2.2.2]
  intro a ha
  generalize hσ1 : AHeap.set σ a _ = σ1
  have k1 : Kept σ [] σ1 [] := by rw [← hσ1]; exact (Kept.refl σ []).setD ha
  have ga1 : σ1.get a = .cells [.int .i64 0, .int .i64 0, .int .i64 0, .slice none 0 0, .bool false, .int .i64 0, .string ⟨#[]⟩, .bool false, .string ⟨#[]⟩, .string ⟨#[]⟩, .int .i64 0, .bool false, .slice none 0 0, .bool false, .string ⟨#[]⟩, .bool false, .string ⟨#[]⟩, .bool false, .string ⟨#[]⟩, .string ⟨#[]⟩, .int .i64 0, .bool false, .bool false, .slice none 0 0, .slice none 0 0, .slice none 0 0] true 0 := by rw [← hσ1]; exact AHeap.get_set_same _ _ _
  clear hσ1
  try simp (disch := first | assumption | simp) only [↓sbD, sbU, tyB, Nat.reduceMul, Nat.reduceSub, Int.reduceEq, Int.reduceLT, Int.reduceLE, Int.reduceNe, Nat.reduceBneDiff, Nat.reduceBEq, decide_false, gt_iff_lt, Bool.or_self, Bool.false_eq_true, Nat.mul_one, Nat.one_mul, Nat.zero_mul, ↓reduceIte, Nat.reduceEqDiff, Nat.reduceLT, Nat.reduceAdd, Nat.reduceLeDiff, reduceCtorEq, goInt, pairs, isConst, TI.isAgg, splice, boxS, Edp, dpv, Nat.beq_eq, ZV.val, List.any_cons, List.any_nil, Bool.false_and]
  refine specOnline (hs.kept k1) ?_
  simp (disch := first | assumption | simp) only [↓sbD, sbU, tyB, Nat.reduceMul, Nat.reduceSub, Int.reduceEq, Int.reduceLT, Int.reduceLE, Int.reduceNe, Nat.reduceBneDiff, Nat.reduceBEq, decide_false, gt_iff_lt, Bool.or_self, Bool.false_eq_true, Nat.mul_one, Nat.one_mul, Nat.zero_mul, ↓reduceIte, Nat.reduceEqDiff, Nat.reduceLT, Nat.reduceAdd, Nat.reduceLeDiff, reduceCtorEq, goInt, pairs, isConst, TI.isAgg, splice, boxS, Edp, dpv, Nat.beq_eq, ZV.val, List.any_cons, List.any_nil, Bool.false_and, ga1, zePk, not_bool, Bool.not_false, Bool.not_true, AHeap.get_set_same, res_cellc, resC_some]
  exact downS_here (hq _ (k1.setD ha))
theorem specGive {t p f g : ByteArray} {q u n now : Int} {r : Bool} {v : Value} {l : List Pr} (hs : NB σ s) (hv : DL propC 4 v l) (hl : l.length ≤ 100000) (hq : ∀ σ', Kept σ [] σ' [] → Q (.tuple #[.agg ⟨[.int .i64 0, .int .i64 0, .int .i64 0, .slice none 0 0, .bool false, .int .i64 0, .string ⟨#[]⟩, .bool false, .string ⟨#[]⟩, .string ⟨#[]⟩, .int .i64 0, .bool false, .slice none 0 0, .bool false, .string ⟨#[]⟩, .bool false, .string ⟨#[]⟩, .bool false, .string ⟨#[]⟩, .string ⟨#[]⟩, .int .i64 0, .bool false, .bool false, .slice none 0 0, .slice none 0 0, .slice none 0 0]⟩, .bool false]) σ') : CallS E B 29 [s, .agg ⟨msgC t p q r v f u n g⟩, .int .i64 now] σ Q := by
  have hvc := dl_vc hv
  have hps : ∀ τ : AHeap, AbsS.PS τ v l := fun τ => by
    rcases hv with h | ⟨m, h⟩
    · exact .inl h
    · exact .inr (.inl ⟨m, h⟩)
  simp only [msgC]
  refine call29 (by simp) ?_
  simp only [strip, bodyOf, Tryz.f29, getD_body, keepN, bareOp_mk, lessOp_mk, lapp_cons, lapp_nil, List.map_cons, List.map_nil, array_toList, ↓reduceIte, Nat.reduceEqDiff, Bool.false_eq_true]
  simp (disch := first | assumption | simp) only [↓sbD, sbU, tyB, Nat.reduceMul, Nat.reduceSub, Int.reduceEq, Int.reduceLT, Int.reduceLE, Int.reduceNe, Nat.reduceBneDiff, Nat.reduceBEq, decide_false, gt_iff_lt, Bool.or_self, Bool.false_eq_true, Nat.mul_one, Nat.one_mul, Nat.zero_mul, ↓reduceIte, Nat.reduceEqDiff, Nat.reduceLT, Nat.reduceAdd, Nat.reduceLeDiff, reduceCtorEq, goInt, pairs, isConst, TI.isAgg, splice, boxS, Edp, dpv, Nat.beq_eq, ZV.val, List.any_cons, List.any_nil, Bool.false_and, AS_new, zePk, nd1.1, nd1.2.1, nd1.2.2.1, nd1.2.2.2.1, nd1.2.2.2.2.1, nd1.2.2.2.2.2.1, nd1.2.2.2.2.2.2.1, nd1.2.2.2.2.2.2.2, hvc.1, hvc.2]
  intro a ha b hb
  have hab : a ≠ b := by rintro rfl; rw [AHeap.get_set_same] at hb; cases hb
  have hbd : σ.get b = .dead := by rw [AHeap.get_set_ne _ _ hab] at hb; exact hb
  generalize hσ1 : AHeap.set (AHeap.set σ a _) b _ = σ1
  have k1 : Kept σ [] σ1 [] := by rw [← hσ1]; exact ((Kept.refl σ []).setD ha).setD hbd
  have ga1 : σ1.get a = .cells [.string t, .string p, .int .i64 q, .bool r, v, .string f, .int .i64 u, .int .i64 n, .string g] true 0 := by rw [← hσ1, AHeap.get_set_ne _ _ hab.symm]; exact AHeap.get_set_same _ _ _
  have gb1 : σ1.get b = .cells [.int .i64 0, .int .i64 0, .int .i64 0, .slice none 0 0, .bool false, .int .i64 0, .string ⟨#[]⟩, .bool false, .string ⟨#[]⟩, .string ⟨#[]⟩, .int .i64 0, .bool false, .slice none 0 0, .bool false, .string ⟨#[]⟩, .bool false, .string ⟨#[]⟩, .bool false, .string ⟨#[]⟩, .string ⟨#[]⟩, .int .i64 0, .bool false, .bool false, .slice none 0 0, .slice none 0 0, .slice none 0 0] true 0 := by rw [← hσ1]; exact AHeap.get_set_same _ _ _
  clear hσ1
  try simp (disch := first | assumption | simp) only [↓sbD, sbU, tyB, Nat.reduceMul, Nat.reduceSub, Int.reduceEq, Int.reduceLT, Int.reduceLE, Int.reduceNe, Nat.reduceBneDiff, Nat.reduceBEq, decide_false, gt_iff_lt, Bool.or_self, Bool.false_eq_true, Nat.mul_one, Nat.one_mul, Nat.zero_mul, ↓reduceIte, Nat.reduceEqDiff, Nat.reduceLT, Nat.reduceAdd, Nat.reduceLeDiff, reduceCtorEq, goInt, pairs, isConst, TI.isAgg, splice, boxS, Edp, dpv, Nat.beq_eq, ZV.val, List.any_cons, List.any_nil, Bool.false_and, ga1]
  refine sub54 (AbsS.specLeft (hps σ1) hl fun σ2 v2 bo t2 p2 f2 g2 q2 u2 n2 r2 hv2 hk2 => ?_)
  have k2 : Kept σ [] σ2 [] := k1.trans ⟨fun b hb _ => hk2 b hb, fun _ h => by cases h⟩
  have gb2 : σ2.get b = .cells [.int .i64 0, .int .i64 0, .int .i64 0, .slice none 0 0, .bool false, .int .i64 0, .string ⟨#[]⟩, .bool false, .string ⟨#[]⟩, .string ⟨#[]⟩, .int .i64 0, .bool false, .slice none 0 0, .bool false, .string ⟨#[]⟩, .bool false, .string ⟨#[]⟩, .bool false, .string ⟨#[]⟩, .string ⟨#[]⟩, .int .i64 0, .bool false, .bool false, .slice none 0 0, .slice none 0 0, .slice none 0 0] true 0 := (hk2 b (by rw [gb1]; simp)).trans gb1
  simp only [msgC]
  simp (disch := first | assumption | simp) only [↓sbD, sbU, tyB, Nat.reduceMul, Nat.reduceSub, Int.reduceEq, Int.reduceLT, Int.reduceLE, Int.reduceNe, Nat.reduceBneDiff, Nat.reduceBEq, decide_false, gt_iff_lt, Bool.or_self, Bool.false_eq_true, Nat.mul_one, Nat.one_mul, Nat.zero_mul, ↓reduceIte, Nat.reduceEqDiff, Nat.reduceLT, Nat.reduceAdd, Nat.reduceLeDiff, reduceCtorEq, goInt, pairs, isConst, TI.isAgg, splice, boxS, Edp, dpv, Nat.beq_eq, ZV.val, List.any_cons, List.any_nil, Bool.false_and, AS_new, zeMs, nd1.1, nd1.2.1, nd1.2.2.1, nd1.2.2.2.1, nd1.2.2.2.2.1, nd1.2.2.2.2.2.1, nd1.2.2.2.2.2.2.1, nd1.2.2.2.2.2.2.2, hv2.1, hv2.2]
  intro c hc
  have hcb : c ≠ b := nd hc gb2 (by simp)
  try simp (disch := first | assumption | simp) only [↓sbD, sbU, tyB, Nat.reduceMul, Nat.reduceSub, Int.reduceEq, Int.reduceLT, Int.reduceLE, Int.reduceNe, Nat.reduceBneDiff, Nat.reduceBEq, decide_false, gt_iff_lt, Bool.or_self, Bool.false_eq_true, Nat.mul_one, Nat.one_mul, Nat.zero_mul, ↓reduceIte, Nat.reduceEqDiff, Nat.reduceLT, Nat.reduceAdd, Nat.reduceLeDiff, reduceCtorEq, goInt, pairs, isConst, TI.isAgg, splice, boxS, Edp, dpv, Nat.beq_eq, ZV.val, List.any_cons, List.any_nil, Bool.false_and, AHeap.get_set_same]
  generalize hσ3 : AHeap.set (AHeap.set σ2 c _) c _ = σ3
  have k3 : Kept σ2 [] σ3 [] := by rw [← hσ3]; exact ((Kept.refl σ2 []).setD hc).setD hc
  have gb3 := (k3.at gb2 (by simp) (by simp)).1
  clear hσ3
  cases bo
  · simp (disch := first | assumption | simp) only [↓sbD, sbU, tyB, Nat.reduceMul, Nat.reduceSub, Int.reduceEq, Int.reduceLT, Int.reduceLE, Int.reduceNe, Nat.reduceBneDiff, Nat.reduceBEq, decide_false, gt_iff_lt, Bool.or_self, Bool.false_eq_true, Nat.mul_one, Nat.one_mul, Nat.zero_mul, ↓reduceIte, Nat.reduceEqDiff, Nat.reduceLT, Nat.reduceAdd, Nat.reduceLeDiff, reduceCtorEq, goInt, pairs, isConst, TI.isAgg, splice, boxS, Edp, dpv, Nat.beq_eq, ZV.val, List.any_cons, List.any_nil, Bool.false_and, gb3, zePk, not_bool, Bool.not_false, Bool.not_true, AHeap.get_set_same, res_cellc, resC_some]
    exact downS_here (hq _ ((k2.trans k3).setD hbd))
  · try simp (disch := first | assumption | simp) only [↓sbD, sbU, tyB, Nat.reduceMul, Nat.reduceSub, Int.reduceEq, Int.reduceLT, Int.reduceLE, Int.reduceNe, Nat.reduceBneDiff, Nat.reduceBEq, decide_false, gt_iff_lt, Bool.or_self, Bool.false_eq_true, Nat.mul_one, Nat.one_mul, Nat.zero_mul, ↓reduceIte, Nat.reduceEqDiff, Nat.reduceLT, Nat.reduceAdd, Nat.reduceLeDiff, reduceCtorEq, goInt, pairs, isConst, TI.isAgg, splice, boxS, Edp, dpv, Nat.beq_eq, ZV.val, List.any_cons, List.any_nil, Bool.false_and, not_bool, Bool.not_false, Bool.not_true]
    refine specOnline (hs.kept (k2.trans k3)) ?_
    simp (disch := first | assumption | simp) only [↓sbD, sbU, tyB, Nat.reduceMul, Nat.reduceSub, Int.reduceEq, Int.reduceLT, Int.reduceLE, Int.reduceNe, Nat.reduceBneDiff, Nat.reduceBEq, decide_false, gt_iff_lt, Bool.or_self, Bool.false_eq_true, Nat.mul_one, Nat.one_mul, Nat.zero_mul, ↓reduceIte, Nat.reduceEqDiff, Nat.reduceLT, Nat.reduceAdd, Nat.reduceLeDiff, reduceCtorEq, goInt, pairs, isConst, TI.isAgg, splice, boxS, Edp, dpv, Nat.beq_eq, ZV.val, List.any_cons, List.any_nil, Bool.false_and, gb3, zePk, not_bool, Bool.not_false, Bool.not_true, AHeap.get_set_same, res_cellc, resC_some]
    exact downS_here (hq _ ((k2.trans k3).setD hbd))
theorem specFind {n : Int} (hq : ∀ σ', Kept σ [] σ' [] → Q (.int .i64 (-1)) σ') : CallS E B 70 [.pointer none, .int .i64 n] σ Q := by
  refine call70 (by simp) ?_
  simp only [strip, bodyOf, Tryz.f70, getD_body, keepN, bareOp_mk, lessOp_mk, lapp_cons, lapp_nil, List.map_cons, List.map_nil, array_toList, ↓reduceIte, Nat.reduceEqDiff, Bool.false_eq_true]
  simp (disch := first | assumption | simp) only [↓sbD, sbU, tyB, Nat.reduceMul, Nat.reduceSub, Int.reduceEq, Int.reduceLT, Int.reduceLE, Int.reduceNe, Nat.reduceBneDiff, Nat.reduceBEq, decide_false, gt_iff_lt, Bool.or_self, Bool.false_eq_true, Nat.mul_one, Nat.one_mul, Nat.zero_mul, ↓reduceIte, Nat.reduceEqDiff, Nat.reduceLT, Nat.reduceAdd, Nat.reduceLeDiff, reduceCtorEq, goInt, pairs, isConst, TI.isAgg, splice, boxS, Edp, dpv, Nat.beq_eq, ZV.val, List.any_cons, List.any_nil, Bool.false_and, AS_new, nd1.1, nd1.2.1, nd1.2.2.1, nd1.2.2.2.1, nd1.2.2.2.2.1, nd1.2.2.2.2.2.1, nd1.2.2.2.2.2.2.1, nd1.2.2.2.2.2.2.2]
  intro a ha
  generalize hσ1 : AHeap.set σ a _ = σ1
  have k1 : Kept σ [] σ1 [] := by rw [← hσ1]; exact (Kept.refl σ []).setD ha
  clear hσ1
  try simp (disch := first | assumption | simp) only [↓sbD, sbU, tyB, Nat.reduceMul, Nat.reduceSub, Int.reduceEq, Int.reduceLT, Int.reduceLE, Int.reduceNe, Nat.reduceBneDiff, Nat.reduceBEq, decide_false, gt_iff_lt, Bool.or_self, Bool.false_eq_true, Nat.mul_one, Nat.one_mul, Nat.zero_mul, ↓reduceIte, Nat.reduceEqDiff, Nat.reduceLT, Nat.reduceAdd, Nat.reduceLeDiff, reduceCtorEq, goInt, pairs, isConst, TI.isAgg, splice, boxS, Edp, dpv, Nat.beq_eq, ZV.val, List.any_cons, List.any_nil, Bool.false_and]
  exact downS_here (hq _ k1)
theorem specAwaits {k : Int} (h : ∀ n, Q (.int .i64 n) σ) : CallS E B 71 [.int .i64 k] σ Q := by
  by_cases h4 : k = 4
  · refine call71 (by simp) ?_
    simp only [strip, bodyOf, Tryz.f71, getD_body, keepN, bareOp_mk, lessOp_mk, lapp_cons, lapp_nil, List.map_cons, List.map_nil, array_toList, ↓reduceIte, Nat.reduceEqDiff, Bool.false_eq_true]
    simp (disch := first | assumption | simp) only [↓sbD, sbU, tyB, Nat.reduceMul, Nat.reduceSub, Int.reduceEq, Int.reduceLT, Int.reduceLE, Int.reduceNe, Nat.reduceBneDiff, Nat.reduceBEq, decide_false, gt_iff_lt, Bool.or_self, Bool.false_eq_true, Nat.mul_one, Nat.one_mul, Nat.zero_mul, ↓reduceIte, Nat.reduceEqDiff, Nat.reduceLT, Nat.reduceAdd, Nat.reduceLeDiff, reduceCtorEq, goInt, pairs, isConst, TI.isAgg, splice, boxS, Edp, dpv, Nat.beq_eq, ZV.val, List.any_cons, List.any_nil, Bool.false_and, h4]
    exact downS_here (h _)
  by_cases h5 : k = 5
  · refine call71 (by simp) ?_
    simp only [strip, bodyOf, Tryz.f71, getD_body, keepN, bareOp_mk, lessOp_mk, lapp_cons, lapp_nil, List.map_cons, List.map_nil, array_toList, ↓reduceIte, Nat.reduceEqDiff, Bool.false_eq_true]
    simp (disch := first | assumption | simp) only [↓sbD, sbU, tyB, Nat.reduceMul, Nat.reduceSub, Int.reduceEq, Int.reduceLT, Int.reduceLE, Int.reduceNe, Nat.reduceBneDiff, Nat.reduceBEq, decide_false, gt_iff_lt, Bool.or_self, Bool.false_eq_true, Nat.mul_one, Nat.one_mul, Nat.zero_mul, ↓reduceIte, Nat.reduceEqDiff, Nat.reduceLT, Nat.reduceAdd, Nat.reduceLeDiff, reduceCtorEq, goInt, pairs, isConst, TI.isAgg, splice, boxS, Edp, dpv, Nat.beq_eq, ZV.val, List.any_cons, List.any_nil, Bool.false_and, h4, h5]
    exact downS_here (h _)
  by_cases h7 : k = 7
  · refine call71 (by simp) ?_
    simp only [strip, bodyOf, Tryz.f71, getD_body, keepN, bareOp_mk, lessOp_mk, lapp_cons, lapp_nil, List.map_cons, List.map_nil, array_toList, ↓reduceIte, Nat.reduceEqDiff, Bool.false_eq_true]
    simp (disch := first | assumption | simp) only [↓sbD, sbU, tyB, Nat.reduceMul, Nat.reduceSub, Int.reduceEq, Int.reduceLT, Int.reduceLE, Int.reduceNe, Nat.reduceBneDiff, Nat.reduceBEq, decide_false, gt_iff_lt, Bool.or_self, Bool.false_eq_true, Nat.mul_one, Nat.one_mul, Nat.zero_mul, ↓reduceIte, Nat.reduceEqDiff, Nat.reduceLT, Nat.reduceAdd, Nat.reduceLeDiff, reduceCtorEq, goInt, pairs, isConst, TI.isAgg, splice, boxS, Edp, dpv, Nat.beq_eq, ZV.val, List.any_cons, List.any_nil, Bool.false_and, h4, h5, h7]
    exact downS_here (h _)
  · refine call71 (by simp) ?_
    simp only [strip, bodyOf, Tryz.f71, getD_body, keepN, bareOp_mk, lessOp_mk, lapp_cons, lapp_nil, List.map_cons, List.map_nil, array_toList, ↓reduceIte, Nat.reduceEqDiff, Bool.false_eq_true]
    simp (disch := first | assumption | simp) only [↓sbD, sbU, tyB, Nat.reduceMul, Nat.reduceSub, Int.reduceEq, Int.reduceLT, Int.reduceLE, Int.reduceNe, Nat.reduceBneDiff, Nat.reduceBEq, decide_false, gt_iff_lt, Bool.or_self, Bool.false_eq_true, Nat.mul_one, Nat.one_mul, Nat.zero_mul, ↓reduceIte, Nat.reduceEqDiff, Nat.reduceLT, Nat.reduceAdd, Nat.reduceLeDiff, reduceCtorEq, goInt, pairs, isConst, TI.isAgg, splice, boxS, Edp, dpv, Nat.beq_eq, ZV.val, List.any_cons, List.any_nil, Bool.false_and, h4, h5, h7]
    exact downS_here (h _)
theorem specOAck {p : Pk} {vp vw vs vf vc : Value} (h1 : vcells vp = [vp] ∧ oneCell vp = true) (h2 : vcells vw = [vw] ∧ oneCell vw = true) (h3 : vcells vs = [vs] ∧ oneCell vs = true) (h4 : vcells vf = [vf] ∧ oneCell vf = true) (h5 : vcells vc = [vc] ∧ oneCell vc = true) (hq : ∀ σ' n, Kept σ [] σ' [] → Q (.tuple #[.int .i64 n, .agg ⟨[.string ⟨#[]⟩, .string ⟨#[]⟩, .int .i64 0, .bool false, .slice none 0 0, .string ⟨#[]⟩, .int .i64 0, .int .i64 0, .string ⟨#[]⟩]⟩]) σ') : CallS E B 53 [.pointer none, .agg ⟨pkC p vp vw vs vf vc⟩] σ Q := by
  simp only [pkC]
  refine call53 (by simp) ?_
  simp only [strip, bodyOf, Tryz.f53, getD_body, keepN, bareOp_mk, lessOp_mk, lapp_cons, lapp_nil, List.map_cons, List.map_nil, array_toList, ↓reduceIte, Nat.reduceEqDiff, Bool.false_eq_true]
  simp (disch := first | assumption | simp) only [↓sbD, sbU, tyB, Nat.reduceMul, Nat.reduceSub, Int.reduceEq, Int.reduceLT, Int.reduceLE, Int.reduceNe, Nat.reduceBneDiff, Nat.reduceBEq, decide_false, gt_iff_lt, Bool.or_self, Bool.false_eq_true, Nat.mul_one, Nat.one_mul, Nat.zero_mul, ↓reduceIte, Nat.reduceEqDiff, Nat.reduceLT, Nat.reduceAdd, Nat.reduceLeDiff, reduceCtorEq, goInt, pairs, isConst, TI.isAgg, splice, boxS, Edp, dpv, Nat.beq_eq, ZV.val, List.any_cons, List.any_nil, Bool.false_and, AS_new, zeMs, nd1.1, nd1.2.1, nd1.2.2.1, nd1.2.2.2.1, nd1.2.2.2.2.1, nd1.2.2.2.2.2.1, nd1.2.2.2.2.2.2.1, nd1.2.2.2.2.2.2.2, h1.1, h1.2, h2.1, h2.2, h3.1, h3.2, h4.1, h4.2, h5.1, h5.2]
  intro a ha b hb
  have hab : a ≠ b := by rintro rfl; rw [AHeap.get_set_same] at hb; cases hb
  have hbd : σ.get b = .dead := by rw [AHeap.get_set_ne _ _ hab] at hb; exact hb
  generalize hσ1 : AHeap.set (AHeap.set σ a _) b _ = σ1
  have k1 : Kept σ [] σ1 [] := by rw [← hσ1]; exact ((Kept.refl σ []).setD ha).setD hbd
  obtain ⟨xs, ga1⟩ : ∃ xs, σ1.get a = .cells (.int .i64 p.kind :: .int .i64 p.id :: xs) true 0 := ⟨_, by rw [← hσ1, AHeap.get_set_ne _ _ hab.symm]; exact AHeap.get_set_same _ _ _⟩
  have gb1 : σ1.get b = .cells [.string ⟨#[]⟩, .string ⟨#[]⟩, .int .i64 0, .bool false, .slice none 0 0, .string ⟨#[]⟩, .int .i64 0, .int .i64 0, .string ⟨#[]⟩] true 0 := by rw [← hσ1]; exact AHeap.get_set_same _ _ _
  clear hσ1
  simp (disch := first | assumption | simp) only [↓sbD, sbU, tyB, Nat.reduceMul, Nat.reduceSub, Int.reduceEq, Int.reduceLT, Int.reduceLE, Int.reduceNe, Nat.reduceBneDiff, Nat.reduceBEq, decide_false, gt_iff_lt, Bool.or_self, Bool.false_eq_true, Nat.mul_one, Nat.one_mul, Nat.zero_mul, ↓reduceIte, Nat.reduceEqDiff, Nat.reduceLT, Nat.reduceAdd, Nat.reduceLeDiff, reduceCtorEq, goInt, pairs, isConst, TI.isAgg, splice, boxS, Edp, dpv, Nat.beq_eq, ZV.val, List.any_cons, List.any_nil, Bool.false_and, ga1]
  refine specFind fun σ2 k2 => ?_
  have ga2 := (k2.at ga1 (by simp) (by simp)).1
  have gb2 := (k2.at gb1 (by simp) (by simp)).1
  simp (disch := first | assumption | simp) only [↓sbD, sbU, tyB, Nat.reduceMul, Nat.reduceSub, Int.reduceEq, Int.reduceLT, Int.reduceLE, Int.reduceNe, Nat.reduceBneDiff, Nat.reduceBEq, decide_false, gt_iff_lt, Bool.or_self, Bool.false_eq_true, Nat.mul_one, Nat.one_mul, Nat.zero_mul, ↓reduceIte, Nat.reduceEqDiff, Nat.reduceLT, Nat.reduceAdd, Nat.reduceLeDiff, reduceCtorEq, goInt, pairs, isConst, TI.isAgg, splice, boxS, Edp, dpv, Nat.beq_eq, ZV.val, List.any_cons, List.any_nil, Bool.false_and, ga2]
  refine specAwaits fun n => ?_
  simp (disch := first | assumption | simp) only [↓sbD, sbU, tyB, Nat.reduceMul, Nat.reduceSub, Int.reduceEq, Int.reduceLT, Int.reduceLE, Int.reduceNe, Nat.reduceBneDiff, Nat.reduceBEq, decide_false, gt_iff_lt, Bool.or_self, Bool.false_eq_true, Nat.mul_one, Nat.one_mul, Nat.zero_mul, ↓reduceIte, Nat.reduceEqDiff, Nat.reduceLT, Nat.reduceAdd, Nat.reduceLeDiff, reduceCtorEq, goInt, pairs, isConst, TI.isAgg, splice, boxS, Edp, dpv, Nat.beq_eq, ZV.val, List.any_cons, List.any_nil, Bool.false_and]
  refine drawS_l (fl := [(5, 3)]) (by kernel_rfl) ?_ ?_
  rotate_left; simp only [lastP_cc, lastP_one]; rotate_left
  · simp only [List.all_cons, List.all_nil, floatS, List.getElem?_cons_succ, List.getElem?_cons_zero, List.getElem?_toArray, Region.wanted, Bool.not_true, Bool.not_false, Bool.false_or, Bool.true_or, Bool.or_true, Bool.true_and, reads, looksWeak, aev_tmp, aev_const, upd_at, ↓reduceIte, Nat.reduceEqDiff, Nat.reduceLT, Nat.reduceAdd, ofL_zero, ofL_succ, blkOf, oeq_refl, oeq_of, dead_cells, dead_map, Bool.and_true, Bool.and_self, Bool.false_eq_true, Bool.not_false, ga1, ga2]
    try rfl
  by_cases hn : n = 0
  · simp (disch := first | assumption | simp) only [↓sbD, sbU, tyB, Nat.reduceMul, Nat.reduceSub, Int.reduceEq, Int.reduceLT, Int.reduceLE, Int.reduceNe, Nat.reduceBneDiff, Nat.reduceBEq, decide_false, gt_iff_lt, Bool.or_self, Bool.false_eq_true, Nat.mul_one, Nat.one_mul, Nat.zero_mul, ↓reduceIte, Nat.reduceEqDiff, Nat.reduceLT, Nat.reduceAdd, Nat.reduceLeDiff, reduceCtorEq, goInt, pairs, isConst, TI.isAgg, splice, boxS, Edp, dpv, Nat.beq_eq, ZV.val, List.any_cons, List.any_nil, Bool.false_and, hn, gb2, zeMs, AHeap.get_set_same, res_cellc, resC_some]
    exact downS_here (hq _ _ ((k1.trans k2).setD hbd))
  · simp (disch := first | assumption | simp) only [↓sbD, sbU, tyB, Nat.reduceMul, Nat.reduceSub, Int.reduceEq, Int.reduceLT, Int.reduceLE, Int.reduceNe, Nat.reduceBneDiff, Nat.reduceBEq, decide_false, gt_iff_lt, Bool.or_self, Bool.false_eq_true, Nat.mul_one, Nat.one_mul, Nat.zero_mul, ↓reduceIte, Nat.reduceEqDiff, Nat.reduceLT, Nat.reduceAdd, Nat.reduceLeDiff, reduceCtorEq, goInt, pairs, isConst, TI.isAgg, splice, boxS, Edp, dpv, Nat.beq_eq, ZV.val, List.any_cons, List.any_nil, Bool.false_and, hn, gb2, zeMs, AHeap.get_set_same, res_cellc, resC_some]
    exact downS_here (hq _ _ ((k1.trans k2).setD hbd))
theorem specAck {p : Pk} {vp vw vs vf vc : Value} (hs : NB σ s) (h1 : vcells vp = [vp] ∧ oneCell vp = true) (h2 : vcells vw = [vw] ∧ oneCell vw = true) (h3 : vcells vs = [vs] ∧ oneCell vs = true) (h4 : vcells vf = [vf] ∧ oneCell vf = true) (h5 : vcells vc = [vc] ∧ oneCell vc = true) (hq : ∀ σ' n, Kept σ [] σ' [] → Q (.tuple #[.int .i64 n, .agg ⟨[.string ⟨#[]⟩, .string ⟨#[]⟩, .int .i64 0, .bool false, .slice none 0 0, .string ⟨#[]⟩, .int .i64 0, .int .i64 0, .string ⟨#[]⟩]⟩]) σ') : CallS E B 27 [s, .agg ⟨pkC p vp vw vs vf vc⟩] σ Q := by
  simp only [pkC]
  rcases hs with rfl | ⟨x, rfl, gx⟩
  · refine call27 (by simp) ?_
    simp only [strip, bodyOf, Tryz.f27, getD_body, keepN, bareOp_mk, lessOp_mk, lapp_cons, lapp_nil, List.map_cons, List.map_nil, array_toList, ↓reduceIte, Nat.reduceEqDiff, Bool.false_eq_true]
    simp (disch := first | assumption | simp) only [↓sbD, sbU, tyB, Nat.reduceMul, Nat.reduceSub, Int.reduceEq, Int.reduceLT, Int.reduceLE, Int.reduceNe, Nat.reduceBneDiff, Nat.reduceBEq, decide_false, gt_iff_lt, Bool.or_self, Bool.false_eq_true, Nat.mul_one, Nat.one_mul, Nat.zero_mul, ↓reduceIte, Nat.reduceEqDiff, Nat.reduceLT, Nat.reduceAdd, Nat.reduceLeDiff, reduceCtorEq, goInt, pairs, isConst, TI.isAgg, splice, boxS, Edp, dpv, Nat.beq_eq, ZV.val, List.any_cons, List.any_nil, Bool.false_and, AS_new, zeMs, nd1.1, nd1.2.1, nd1.2.2.1, nd1.2.2.2.1, nd1.2.2.2.2.1, nd1.2.2.2.2.2.1, nd1.2.2.2.2.2.2.1, nd1.2.2.2.2.2.2.2, h1.1, h1.2, h2.1, h2.2, h3.1, h3.2, h4.1, h4.2, h5.1, h5.2]
    intro a ha b hb
    have hab : a ≠ b := by rintro rfl; rw [AHeap.get_set_same] at hb; cases hb
    have hbd : σ.get b = .dead := by rw [AHeap.get_set_ne _ _ hab] at hb; exact hb
    generalize hσ1 : AHeap.set (AHeap.set σ a _) b _ = σ1
    have k1 : Kept σ [] σ1 [] := by rw [← hσ1]; exact ((Kept.refl σ []).setD ha).setD hbd
    have gb1 : σ1.get b = .cells [.string ⟨#[]⟩, .string ⟨#[]⟩, .int .i64 0, .bool false, .slice none 0 0, .string ⟨#[]⟩, .int .i64 0, .int .i64 0, .string ⟨#[]⟩] true 0 := by rw [← hσ1]; exact AHeap.get_set_same _ _ _
    clear hσ1
    try simp (disch := first | assumption | simp) only [↓sbD, sbU, tyB, Nat.reduceMul, Nat.reduceSub, Int.reduceEq, Int.reduceLT, Int.reduceLE, Int.reduceNe, Nat.reduceBneDiff, Nat.reduceBEq, decide_false, gt_iff_lt, Bool.or_self, Bool.false_eq_true, Nat.mul_one, Nat.one_mul, Nat.zero_mul, ↓reduceIte, Nat.reduceEqDiff, Nat.reduceLT, Nat.reduceAdd, Nat.reduceLeDiff, reduceCtorEq, goInt, pairs, isConst, TI.isAgg, splice, boxS, Edp, dpv, Nat.beq_eq, ZV.val, List.any_cons, List.any_nil, Bool.false_and, gb1, zeMs, AHeap.get_set_same, res_cellc, resC_some]
    exact downS_here (hq _ _ (k1.setD hbd))
  · simp only [ses0] at gx
    refine call27 (by simp) ?_
    simp only [strip, bodyOf, Tryz.f27, getD_body, keepN, bareOp_mk, lessOp_mk, lapp_cons, lapp_nil, List.map_cons, List.map_nil, array_toList, ↓reduceIte, Nat.reduceEqDiff, Bool.false_eq_true]
    simp (disch := first | assumption | simp) only [↓sbD, sbU, tyB, Nat.reduceMul, Nat.reduceSub, Int.reduceEq, Int.reduceLT, Int.reduceLE, Int.reduceNe, Nat.reduceBneDiff, Nat.reduceBEq, decide_false, gt_iff_lt, Bool.or_self, Bool.false_eq_true, Nat.mul_one, Nat.one_mul, Nat.zero_mul, ↓reduceIte, Nat.reduceEqDiff, Nat.reduceLT, Nat.reduceAdd, Nat.reduceLeDiff, reduceCtorEq, goInt, pairs, isConst, TI.isAgg, splice, boxS, Edp, dpv, Nat.beq_eq, ZV.val, List.any_cons, List.any_nil, Bool.false_and, AS_new, zeMs, nd1.1, nd1.2.1, nd1.2.2.1, nd1.2.2.2.1, nd1.2.2.2.2.1, nd1.2.2.2.2.2.1, nd1.2.2.2.2.2.2.1, nd1.2.2.2.2.2.2.2, h1.1, h1.2, h2.1, h2.2, h3.1, h3.2, h4.1, h4.2, h5.1, h5.2]
    intro a ha b hb
    have hab : a ≠ b := by rintro rfl; rw [AHeap.get_set_same] at hb; cases hb
    have hbd : σ.get b = .dead := by rw [AHeap.get_set_ne _ _ hab] at hb; exact hb
    generalize hσ1 : AHeap.set (AHeap.set σ a _) b _ = σ1
    have k1 : Kept σ [] σ1 [] := by rw [← hσ1]; exact ((Kept.refl σ []).setD ha).setD hbd
    have ga1 : σ1.get a = .cells (pkC p vp vw vs vf vc) true 0 := by rw [← hσ1, AHeap.get_set_ne _ _ hab.symm]; exact AHeap.get_set_same _ _ _
    have gb1 : σ1.get b = .cells [.string ⟨#[]⟩, .string ⟨#[]⟩, .int .i64 0, .bool false, .slice none 0 0, .string ⟨#[]⟩, .int .i64 0, .int .i64 0, .string ⟨#[]⟩] true 0 := by rw [← hσ1]; exact AHeap.get_set_same _ _ _
    have gx1 := (k1.at gx (by simp) (by simp)).1
    clear hσ1
    simp only [pkC] at ga1
    simp (disch := first | assumption | simp) only [↓sbD, sbU, tyB, Nat.reduceMul, Nat.reduceSub, Int.reduceEq, Int.reduceLT, Int.reduceLE, Int.reduceNe, Nat.reduceBneDiff, Nat.reduceBEq, decide_false, gt_iff_lt, Bool.or_self, Bool.false_eq_true, Nat.mul_one, Nat.one_mul, Nat.zero_mul, ↓reduceIte, Nat.reduceEqDiff, Nat.reduceLT, Nat.reduceAdd, Nat.reduceLeDiff, reduceCtorEq, goInt, pairs, isConst, TI.isAgg, splice, boxS, Edp, dpv, Nat.beq_eq, ZV.val, List.any_cons, List.any_nil, Bool.false_and, ga1, gx1]
    refine specOAck h1 h2 h3 h4 h5 fun σ2 n k2 => ?_
    have gb2 := (k2.at gb1 (by simp) (by simp)).1
    simp (disch := first | assumption | simp) only [↓sbD, sbU, tyB, Nat.reduceMul, Nat.reduceSub, Int.reduceEq, Int.reduceLT, Int.reduceLE, Int.reduceNe, Nat.reduceBneDiff, Nat.reduceBEq, decide_false, gt_iff_lt, Bool.or_self, Bool.false_eq_true, Nat.mul_one, Nat.one_mul, Nat.zero_mul, ↓reduceIte, Nat.reduceEqDiff, Nat.reduceLT, Nat.reduceAdd, Nat.reduceLeDiff, reduceCtorEq, goInt, pairs, isConst, TI.isAgg, splice, boxS, Edp, dpv, Nat.beq_eq, ZV.val, List.any_cons, List.any_nil, Bool.false_and, gb2, zeMs, AHeap.get_set_same, res_cellc, resC_some]
    exact downS_here (hq _ _ ((k1.trans k2).setD hbd))
end
end Go.Proofs.YtdiekikcnfjlnaaGreat.AbsA
