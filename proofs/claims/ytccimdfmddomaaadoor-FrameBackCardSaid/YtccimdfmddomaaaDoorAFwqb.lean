/-
  A part of a law's proof.
-/
import Derived.Test.YtccimdfmddomaaaDoorAByqb
namespace Go.Proofs.YtccimdfmddomaaaDoor.AbsA
open Go AbsYtccimdfmddomaaaDoor Abs
set_option maxRecDepth 100000
set_option maxHeartbeats 4000000
set_option linter.unusedSimpArgs false
set_option linter.unusedVariables false
/-- a writer of fields: its bytes, its error -/
def IsW (σ : AHeap) (w : Nat) (a : ByteArray) (e : Value) (fp : List Nat) : Prop := ∃ v gp, σ.get w = .cells [v, e] true 0 ∧ BS σ v a gp ∧ fp = w :: gp ∧ w ∉ gp
theorem IsW.kept {σ σ' : AHeap} {w : Nat} {a : ByteArray} {e : Value} {fp gp gp' : List Nat} (h : IsW σ w a e fp) (k : Kept σ gp σ' gp') (hd : ∀ b ∈ fp, b ∉ gp) : IsW σ' w a e fp := by
  obtain ⟨v, hp, h1, h2, rfl, h4⟩ := h
  exact ⟨v, hp, by rw [k.get w (by rw [h1]; simp) (hd w (by simp))]; exact h1, h2.kept k fun b hb => hd b (List.mem_cons_of_mem _ hb), rfl, h4⟩
theorem BS.vc {σ : AHeap} {v : Value} {a : ByteArray} {fp : List Nat} (h : BS σ v a fp) : vcells v = [v] ∧ oneCell v = true := by
  rcases h with ⟨_, rfl, _⟩ | ⟨d, rfl, _⟩ <;> exact ⟨rfl, rfl⟩
def unit : Value := .tuple #[]
theorem specOffNil {σ : AHeap} {Q : Value → AHeap → Prop} (h : Q (.bool true) σ) : CallS E B 115 [.pointer none] σ Q := by
  refine call115 (by simp) ?_
  simp only [strip, bodyOf, Tryd.f115, getD_body, keepN, bareOp_mk, lessOp_mk, lapp_cons, lapp_nil, List.map_cons, List.map_nil, array_toList, ↓reduceIte, Nat.reduceEqDiff, Bool.false_eq_true]
  simp (disch := first | assumption | simp) only [↓sbD, sbU, tyB, Nat.reduceMul, Nat.reduceSub, Int.reduceEq, Int.reduceLT, Int.reduceLE, Int.reduceNe, Nat.reduceBneDiff, Nat.reduceBEq, decide_false, gt_iff_lt, Bool.or_self, Bool.false_eq_true, Nat.mul_one, Nat.one_mul, Nat.zero_mul, ↓reduceIte, Nat.reduceEqDiff, Nat.reduceLT, Nat.reduceAdd, Nat.reduceLeDiff, reduceCtorEq, goInt, pairs, isConst, TI.isAgg, splice, boxS, Edp, dpv, Nat.beq_eq, ZV.val, List.any_cons, List.any_nil]
  exact downS_here h
theorem specOff {σ : AHeap} {w : Nat} {a : ByteArray} {fp : List Nat} (hw : IsW σ w a .nilIface fp) {Q : Value → AHeap → Prop} (h : Q (.bool false) σ) : CallS E B 115 [.pointer (some ⟨w, 0, none⟩)] σ Q := by
  obtain ⟨v, gp, h1, h2, h3, h4⟩ := hw
  refine call115 (by simp) ?_
  simp only [strip, bodyOf, Tryd.f115, getD_body, keepN, bareOp_mk, lessOp_mk, lapp_cons, lapp_nil, List.map_cons, List.map_nil, array_toList, ↓reduceIte, Nat.reduceEqDiff, Bool.false_eq_true]
  simp (disch := first | assumption | simp) only [↓sbD, sbU, tyB, Nat.reduceMul, Nat.reduceSub, Int.reduceEq, Int.reduceLT, Int.reduceLE, Int.reduceNe, Nat.reduceBneDiff, Nat.reduceBEq, decide_false, gt_iff_lt, Bool.or_self, Bool.false_eq_true, Nat.mul_one, Nat.one_mul, Nat.zero_mul, ↓reduceIte, Nat.reduceEqDiff, Nat.reduceLT, Nat.reduceAdd, Nat.reduceLeDiff, reduceCtorEq, goInt, pairs, isConst, TI.isAgg, splice, boxS, Edp, dpv, Nat.beq_eq, ZV.val, List.any_cons, List.any_nil, h1]
  exact downS_here h
theorem specOffE {σ : AHeap} {w u : Nat} {x : Value} {a : ByteArray} {fp : List Nat} (hw : IsW σ w a (.iface u x) fp) {Q : Value → AHeap → Prop} (h : Q (.bool true) σ) : CallS E B 115 [.pointer (some ⟨w, 0, none⟩)] σ Q := by
  obtain ⟨v, gp, h1, h2, h3, h4⟩ := hw
  refine call115 (by simp) ?_
  simp only [strip, bodyOf, Tryd.f115, getD_body, keepN, bareOp_mk, lessOp_mk, lapp_cons, lapp_nil, List.map_cons, List.map_nil, array_toList, ↓reduceIte, Nat.reduceEqDiff, Bool.false_eq_true]
  simp (disch := first | assumption | simp) only [↓sbD, sbU, tyB, Nat.reduceMul, Nat.reduceSub, Int.reduceEq, Int.reduceLT, Int.reduceLE, Int.reduceNe, Nat.reduceBneDiff, Nat.reduceBEq, decide_false, gt_iff_lt, Bool.or_self, Bool.false_eq_true, Nat.mul_one, Nat.one_mul, Nat.zero_mul, ↓reduceIte, Nat.reduceEqDiff, Nat.reduceLT, Nat.reduceAdd, Nat.reduceLeDiff, reduceCtorEq, goInt, pairs, isConst, TI.isAgg, splice, boxS, Edp, dpv, Nat.beq_eq, ZV.val, List.any_cons, List.any_nil, h1]
  exact downS_here h
theorem specFail {σ : AHeap} {w u : Nat} {x e : Value} {a : ByteArray} {fp : List Nat} (hw : IsW σ w a e fp) {Q : Value → AHeap → Prop} (h : ∀ σ', Kept σ fp σ' fp → IsW σ' w a (.iface u x) fp → Q unit σ') : CallS E B 126 [.pointer (some ⟨w, 0, none⟩), .iface u x] σ Q := by
  obtain ⟨v, gp, h1, h2, rfl, h4⟩ := hw
  refine call126 (by simp) ?_
  simp only [strip, bodyOf, Tryd.f126, getD_body, keepN, bareOp_mk, lessOp_mk, lapp_cons, lapp_nil, List.map_cons, List.map_nil, array_toList, ↓reduceIte, Nat.reduceEqDiff, Bool.false_eq_true]
  simp (disch := first | assumption | simp) only [↓sbD, sbU, tyB, Nat.reduceMul, Nat.reduceSub, Int.reduceEq, Int.reduceLT, Int.reduceLE, Int.reduceNe, Nat.reduceBneDiff, Nat.reduceBEq, decide_false, gt_iff_lt, Bool.or_self, Bool.false_eq_true, Nat.mul_one, Nat.one_mul, Nat.zero_mul, ↓reduceIte, Nat.reduceEqDiff, Nat.reduceLT, Nat.reduceAdd, Nat.reduceLeDiff, reduceCtorEq, goInt, pairs, isConst, TI.isAgg, splice, boxS, Edp, dpv, Nat.beq_eq, ZV.val, List.any_cons, List.any_nil, h1]
  exact downS_here (h _ (Kept.set (by simp)) ⟨v, gp, AHeap.get_set_same _ _ _, h2.set h4, rfl, h4⟩)
theorem specFirstNil {σ : AHeap} {Q : Value → AHeap → Prop} (h : Q .nilIface σ) : CallS E B 88 [.pointer none] σ Q := by
  refine call88 (by simp) ?_
  simp only [strip, bodyOf, Tryd.f88, getD_body, keepN, bareOp_mk, lessOp_mk, lapp_cons, lapp_nil, List.map_cons, List.map_nil, array_toList, ↓reduceIte, Nat.reduceEqDiff, Bool.false_eq_true]
  simp (disch := first | assumption | simp) only [↓sbD, sbU, tyB, Nat.reduceMul, Nat.reduceSub, Int.reduceEq, Int.reduceLT, Int.reduceLE, Int.reduceNe, Nat.reduceBneDiff, Nat.reduceBEq, decide_false, gt_iff_lt, Bool.or_self, Bool.false_eq_true, Nat.mul_one, Nat.one_mul, Nat.zero_mul, ↓reduceIte, Nat.reduceEqDiff, Nat.reduceLT, Nat.reduceAdd, Nat.reduceLeDiff, reduceCtorEq, goInt, pairs, isConst, TI.isAgg, splice, boxS, Edp, dpv, Nat.beq_eq, ZV.val, List.any_cons, List.any_nil]
  exact downS_here h
theorem specFirst {σ : AHeap} {w : Nat} {e : Value} {a : ByteArray} {fp : List Nat} (hw : IsW σ w a e fp) {Q : Value → AHeap → Prop} (h : Q e σ) : CallS E B 88 [.pointer (some ⟨w, 0, none⟩)] σ Q := by
  obtain ⟨v, gp, h1, h2, rfl, h4⟩ := hw
  refine call88 (by simp) ?_
  simp only [strip, bodyOf, Tryd.f88, getD_body, keepN, bareOp_mk, lessOp_mk, lapp_cons, lapp_nil, List.map_cons, List.map_nil, array_toList, ↓reduceIte, Nat.reduceEqDiff, Bool.false_eq_true]
  simp (disch := first | assumption | simp) only [↓sbD, sbU, tyB, Nat.reduceMul, Nat.reduceSub, Int.reduceEq, Int.reduceLT, Int.reduceLE, Int.reduceNe, Nat.reduceBneDiff, Nat.reduceBEq, decide_false, gt_iff_lt, Bool.or_self, Bool.false_eq_true, Nat.mul_one, Nat.one_mul, Nat.zero_mul, ↓reduceIte, Nat.reduceEqDiff, Nat.reduceLT, Nat.reduceAdd, Nat.reduceLeDiff, reduceCtorEq, goInt, pairs, isConst, TI.isAgg, splice, boxS, Edp, dpv, Nat.beq_eq, ZV.val, List.any_cons, List.any_nil, h1]
  exact downS_here h
theorem specBytesNil {σ : AHeap} {Q : Value → AHeap → Prop} (h : Q (.tuple #[.string emp, .nilIface]) σ) : CallS E B 35 [.pointer none] σ Q := by
  refine call35 (by simp) ?_
  simp only [strip, bodyOf, Tryd.f35, getD_body, keepN, bareOp_mk, lessOp_mk, lapp_cons, lapp_nil, List.map_cons, List.map_nil, array_toList, ↓reduceIte, Nat.reduceEqDiff, Bool.false_eq_true]
  simp (disch := first | assumption | simp) only [↓sbD, sbU, tyB, Nat.reduceMul, Nat.reduceSub, Int.reduceEq, Int.reduceLT, Int.reduceLE, Int.reduceNe, Nat.reduceBneDiff, Nat.reduceBEq, decide_false, gt_iff_lt, Bool.or_self, Bool.false_eq_true, Nat.mul_one, Nat.one_mul, Nat.zero_mul, ↓reduceIte, Nat.reduceEqDiff, Nat.reduceLT, Nat.reduceAdd, Nat.reduceLeDiff, reduceCtorEq, goInt, pairs, isConst, TI.isAgg, splice, boxS, Edp, dpv, Nat.beq_eq, ZV.val, List.any_cons, List.any_nil]
  refine specFirstNil ?_
  simp (disch := first | assumption | simp) only [↓sbD, sbU, tyB, Nat.reduceMul, Nat.reduceSub, Int.reduceEq, Int.reduceLT, Int.reduceLE, Int.reduceNe, Nat.reduceBneDiff, Nat.reduceBEq, decide_false, gt_iff_lt, Bool.or_self, Bool.false_eq_true, Nat.mul_one, Nat.one_mul, Nat.zero_mul, ↓reduceIte, Nat.reduceEqDiff, Nat.reduceLT, Nat.reduceAdd, Nat.reduceLeDiff, reduceCtorEq, goInt, pairs, isConst, TI.isAgg, splice, boxS, Edp, dpv, Nat.beq_eq, ZV.val, List.any_cons, List.any_nil]
  exact downS_here h
theorem specBytes {σ : AHeap} {w : Nat} {a : ByteArray} {fp : List Nat} (hw : IsW σ w a .nilIface fp) {Q : Value → AHeap → Prop} (h : Q (.tuple #[.string a, .nilIface]) σ) : CallS E B 35 [.pointer (some ⟨w, 0, none⟩)] σ Q := by
  obtain ⟨v, gp, h1, h2, rfl, h4⟩ := hw
  refine call35 (by simp) ?_
  simp only [strip, bodyOf, Tryd.f35, getD_body, keepN, bareOp_mk, lessOp_mk, lapp_cons, lapp_nil, List.map_cons, List.map_nil, array_toList, ↓reduceIte, Nat.reduceEqDiff, Bool.false_eq_true]
  simp (disch := first | assumption | simp) only [↓sbD, sbU, tyB, Nat.reduceMul, Nat.reduceSub, Int.reduceEq, Int.reduceLT, Int.reduceLE, Int.reduceNe, Nat.reduceBneDiff, Nat.reduceBEq, decide_false, gt_iff_lt, Bool.or_self, Bool.false_eq_true, Nat.mul_one, Nat.one_mul, Nat.zero_mul, ↓reduceIte, Nat.reduceEqDiff, Nat.reduceLT, Nat.reduceAdd, Nat.reduceLeDiff, reduceCtorEq, goInt, pairs, isConst, TI.isAgg, splice, boxS, Edp, dpv, Nat.beq_eq, ZV.val, List.any_cons, List.any_nil, h1]
  refine conv_BS h2 ?_
  simp (disch := first | assumption | simp) only [↓sbD, sbU, tyB, Nat.reduceMul, Nat.reduceSub, Int.reduceEq, Int.reduceLT, Int.reduceLE, Int.reduceNe, Nat.reduceBneDiff, Nat.reduceBEq, decide_false, gt_iff_lt, Bool.or_self, Bool.false_eq_true, Nat.mul_one, Nat.one_mul, Nat.zero_mul, ↓reduceIte, Nat.reduceEqDiff, Nat.reduceLT, Nat.reduceAdd, Nat.reduceLeDiff, reduceCtorEq, goInt, pairs, isConst, TI.isAgg, splice, boxS, Edp, dpv, Nat.beq_eq, ZV.val, List.any_cons, List.any_nil]
  exact downS_here h
theorem specBytesE {σ : AHeap} {w u : Nat} {x : Value} {a : ByteArray} {fp : List Nat} (hw : IsW σ w a (.iface u x) fp) {Q : Value → AHeap → Prop} (h : Q (.tuple #[.string emp, .iface u x]) σ) : CallS E B 35 [.pointer (some ⟨w, 0, none⟩)] σ Q := by
  have hw' := hw
  obtain ⟨v, gp, h1, h2, rfl, h4⟩ := hw
  refine call35 (by simp) ?_
  simp only [strip, bodyOf, Tryd.f35, getD_body, keepN, bareOp_mk, lessOp_mk, lapp_cons, lapp_nil, List.map_cons, List.map_nil, array_toList, ↓reduceIte, Nat.reduceEqDiff, Bool.false_eq_true]
  simp (disch := first | assumption | simp) only [↓sbD, sbU, tyB, Nat.reduceMul, Nat.reduceSub, Int.reduceEq, Int.reduceLT, Int.reduceLE, Int.reduceNe, Nat.reduceBneDiff, Nat.reduceBEq, decide_false, gt_iff_lt, Bool.or_self, Bool.false_eq_true, Nat.mul_one, Nat.one_mul, Nat.zero_mul, ↓reduceIte, Nat.reduceEqDiff, Nat.reduceLT, Nat.reduceAdd, Nat.reduceLeDiff, reduceCtorEq, goInt, pairs, isConst, TI.isAgg, splice, boxS, Edp, dpv, Nat.beq_eq, ZV.val, List.any_cons, List.any_nil, h1]
  refine specFirst hw' ?_
  simp (disch := first | assumption | simp) only [↓sbD, sbU, tyB, Nat.reduceMul, Nat.reduceSub, Int.reduceEq, Int.reduceLT, Int.reduceLE, Int.reduceNe, Nat.reduceBneDiff, Nat.reduceBEq, decide_false, gt_iff_lt, Bool.or_self, Bool.false_eq_true, Nat.mul_one, Nat.one_mul, Nat.zero_mul, ↓reduceIte, Nat.reduceEqDiff, Nat.reduceLT, Nat.reduceAdd, Nat.reduceLeDiff, reduceCtorEq, goInt, pairs, isConst, TI.isAgg, splice, boxS, Edp, dpv, Nat.beq_eq, ZV.val, List.any_cons, List.any_nil]
  exact downS_here h
theorem specRaw {σ : AHeap} {w : Nat} {a s : ByteArray} {fp : List Nat} (hw : IsW σ w a .nilIface fp) (hz : a.size + s.size ≤ 100000000) {Q : Value → AHeap → Prop} (h : ∀ σ' fp', Kept σ fp σ' fp' → IsW σ' w (a ++ s) .nilIface fp' → Q unit σ') : CallS E B 57 [.pointer (some ⟨w, 0, none⟩), .string s] σ Q := by
  refine call57 (by simp) ?_
  simp only [strip, bodyOf, Tryd.f57, getD_body, keepN, bareOp_mk, lessOp_mk, lapp_cons, lapp_nil, List.map_cons, List.map_nil, array_toList, ↓reduceIte, Nat.reduceEqDiff, Bool.false_eq_true]
  simp (disch := first | assumption | simp) only [↓sbD, sbU, tyB, Nat.reduceMul, Nat.reduceSub, Int.reduceEq, Int.reduceLT, Int.reduceLE, Int.reduceNe, Nat.reduceBneDiff, Nat.reduceBEq, decide_false, gt_iff_lt, Bool.or_self, Bool.false_eq_true, Nat.mul_one, Nat.one_mul, Nat.zero_mul, ↓reduceIte, Nat.reduceEqDiff, Nat.reduceLT, Nat.reduceAdd, Nat.reduceLeDiff, reduceCtorEq, goInt, pairs, isConst, TI.isAgg, splice, boxS, Edp, dpv, Nat.beq_eq, ZV.val, List.any_cons, List.any_nil]
  refine specOff hw ?_
  obtain ⟨v, gp, h1, h2, rfl, h4⟩ := hw
  simp (disch := first | assumption | simp) only [↓sbD, sbU, tyB, Nat.reduceMul, Nat.reduceSub, Int.reduceEq, Int.reduceLT, Int.reduceLE, Int.reduceNe, Nat.reduceBneDiff, Nat.reduceBEq, decide_false, gt_iff_lt, Bool.or_self, Bool.false_eq_true, Nat.mul_one, Nat.one_mul, Nat.zero_mul, ↓reduceIte, Nat.reduceEqDiff, Nat.reduceLT, Nat.reduceAdd, Nat.reduceLeDiff, reduceCtorEq, goInt, pairs, isConst, TI.isAgg, splice, boxS, Edp, dpv, Nat.beq_eq, ZV.val, List.any_cons, List.any_nil, h1, not_bool]
  refine app_bytes h2 (fun b => src_str) (.inl rfl) hz fun σ' v' fp' k hb => ?_
  obtain ⟨h5, h6⟩ := k.at h1 (by simp) h4
  obtain ⟨hvc, hoc⟩ := hb.vc
  simp (disch := first | assumption | simp) only [↓sbD, sbU, tyB, Nat.reduceMul, Nat.reduceSub, Int.reduceEq, Int.reduceLT, Int.reduceLE, Int.reduceNe, Nat.reduceBneDiff, Nat.reduceBEq, decide_false, gt_iff_lt, Bool.or_self, Bool.false_eq_true, Nat.mul_one, Nat.one_mul, Nat.zero_mul, ↓reduceIte, Nat.reduceEqDiff, Nat.reduceLT, Nat.reduceAdd, Nat.reduceLeDiff, reduceCtorEq, goInt, pairs, isConst, TI.isAgg, splice, boxS, Edp, dpv, Nat.beq_eq, ZV.val, List.any_cons, List.any_nil, h5, hvc, hoc]
  exact downS_here (h _ _ ((k.more (l := [w])).trans (Kept.set (by simp))) ⟨v', fp', AHeap.get_set_same _ _ _, hb.set h6, rfl, h6⟩)
theorem specRawNil {σ : AHeap} {s : ByteArray} {Q : Value → AHeap → Prop} (h : Q unit σ) : CallS E B 57 [.pointer none, .string s] σ Q := by
  refine call57 (by simp) ?_
  simp only [strip, bodyOf, Tryd.f57, getD_body, keepN, bareOp_mk, lessOp_mk, lapp_cons, lapp_nil, List.map_cons, List.map_nil, array_toList, ↓reduceIte, Nat.reduceEqDiff, Bool.false_eq_true]
  simp (disch := first | assumption | simp) only [↓sbD, sbU, tyB, Nat.reduceMul, Nat.reduceSub, Int.reduceEq, Int.reduceLT, Int.reduceLE, Int.reduceNe, Nat.reduceBneDiff, Nat.reduceBEq, decide_false, gt_iff_lt, Bool.or_self, Bool.false_eq_true, Nat.mul_one, Nat.one_mul, Nat.zero_mul, ↓reduceIte, Nat.reduceEqDiff, Nat.reduceLT, Nat.reduceAdd, Nat.reduceLeDiff, reduceCtorEq, goInt, pairs, isConst, TI.isAgg, splice, boxS, Edp, dpv, Nat.beq_eq, ZV.val, List.any_cons, List.any_nil]
  refine specOffNil ?_
  simp (disch := first | assumption | simp) only [↓sbD, sbU, tyB, Nat.reduceMul, Nat.reduceSub, Int.reduceEq, Int.reduceLT, Int.reduceLE, Int.reduceNe, Nat.reduceBneDiff, Nat.reduceBEq, decide_false, gt_iff_lt, Bool.or_self, Bool.false_eq_true, Nat.mul_one, Nat.one_mul, Nat.zero_mul, ↓reduceIte, Nat.reduceEqDiff, Nat.reduceLT, Nat.reduceAdd, Nat.reduceLeDiff, reduceCtorEq, goInt, pairs, isConst, TI.isAgg, splice, boxS, Edp, dpv, Nat.beq_eq, ZV.val, List.any_cons, List.any_nil, not_bool]
  exact downS_here h
/-- what a field's writing leaves: its bytes, or the error's number and how much further it lies -/
def WOut (σ : AHeap) (w : Nat) (a : ByteArray) (r : ByteArray ⊕ (Nat × Nat)) (fp : List Nat) : Prop := match r with
  | .inl m => IsW σ w (a ++ m) .nilIface fp
  | .inr (n, p) => ∃ d x, d ≤ 2 ∧ ErN d (fv 129 ((a.size + p : Nat) : Int) x) n ∧ IsW σ w a (fv 129 ((a.size + p : Nat) : Int) x) fp
def numB (n k : Nat) : ByteArray := if k = 4 then str [n / 16777216 % 256, n / 65536 % 256, n / 256 % 256, n % 256] else if k = 2 then str [n / 256 % 256, n % 256] else str [n % 256]
def numW (n : Int) (k : Nat) : ByteArray ⊕ (Nat × Nat) := if n < 0 ∨ (2 ^ (8 * k) : Nat) ≤ n then .inr (4, 0) else .inl (numB n.toNat k)
theorem wrap_u8N (N : Nat) : IntKind.u8.wrap (N : Int) = ((N % 256 : Nat) : Int) := by rw [IntKind.wrap_u8]; omega
theorem shr_nat {σ : AHeap} {N s : Nat} {t : Nat} {cs : Bool} {k : IntKind} (hs : s ≤ 63) : abin E σ .shr t cs (.int .i64 (N : Int)) (.int k (s : Int)) = some (.int .i64 ((N / 2 ^ s : Nat) : Int)) := by
  simp only [abin, ashift]
  rw [if_neg (by omega)]
  simp only [Int.toNat_natCast, Bool.false_eq_true, if_false]
  have e : min s IntKind.i64.bits = s := by have : IntKind.i64.bits = 64 := rfl; omega
  rw [e]
  congr 2
  rw [show ((2 : Int) ^ s) = ((2 ^ s : Nat) : Int) by simp]
  rw [Int.fdiv_eq_ediv_of_nonneg _ (Int.natCast_nonneg _)]
  exact (Int.natCast_ediv N (2 ^ s)).symm
theorem dead_of {σ : AHeap} {b : Nat} (hb : ∀ c, ¬ σ.get c = .dead → c < b) : σ.get b = .dead := by
  rcases hg : σ.get b with _ | _ | _
  · rfl
  · exact absurd (hb b (by rw [hg]; simp)) (Nat.lt_irrefl _)
  · exact absurd (hb b (by rw [hg]; simp)) (Nat.lt_irrefl _)
theorem bs_one {σ : AHeap} {n : Int} {K : Value → AHeap → Prop} (hq : ∀ b, σ.get b = .dead → K (.slice (some ⟨b, 0, some 1⟩) 1 1) (σ.set b (.cells [.int .u8 n] true 1))) : afterOpS E B (some (bsS E σ 70 1 [(0, .int .u8 n)])) σ K := by
  simp (disch := first | assumption | simp) only [↓sbD, sbU, tyB, Nat.reduceMul, Nat.reduceSub, Int.reduceEq, Int.reduceLT, Int.reduceLE, Int.reduceNe, Nat.reduceBneDiff, Nat.reduceBEq, decide_false, gt_iff_lt, Bool.or_self, Bool.false_eq_true, Nat.mul_one, Nat.one_mul, Nat.zero_mul, ↓reduceIte, Nat.reduceEqDiff, Nat.reduceLT, Nat.reduceAdd, Nat.reduceLeDiff, reduceCtorEq, goInt, pairs, isConst, TI.isAgg, splice, boxS, Edp, dpv, Nat.beq_eq, ZV.val, List.any_cons, List.any_nil, AS_any]
  intro b hb
  exact ⟨_, _, rfl, hq b (dead_of hb)⟩
theorem bs_two {σ : AHeap} {n m : Int} {K : Value → AHeap → Prop} (hq : ∀ b, σ.get b = .dead → K (.slice (some ⟨b, 0, some 1⟩) 2 2) (σ.set b (.cells [.int .u8 n, .int .u8 m] true 1))) : afterOpS E B (some (bsS E σ 70 2 [(0, .int .u8 n), (1, .int .u8 m)])) σ K := by
  simp (disch := first | assumption | simp) only [↓sbD, sbU, tyB, Nat.reduceMul, Nat.reduceSub, Int.reduceEq, Int.reduceLT, Int.reduceLE, Int.reduceNe, Nat.reduceBneDiff, Nat.reduceBEq, decide_false, gt_iff_lt, Bool.or_self, Bool.false_eq_true, Nat.mul_one, Nat.one_mul, Nat.zero_mul, ↓reduceIte, Nat.reduceEqDiff, Nat.reduceLT, Nat.reduceAdd, Nat.reduceLeDiff, reduceCtorEq, goInt, pairs, isConst, TI.isAgg, splice, boxS, Edp, dpv, Nat.beq_eq, ZV.val, List.any_cons, List.any_nil, AS_any]
  intro b hb
  exact ⟨_, _, rfl, hq b (dead_of hb)⟩
theorem src_sl {σ : AHeap} {b n c : Nat} {ex : Option Nat} {l : List Nat} {wr : Bool} {sz : Nat} (hg : σ.get b = .cells (u8s l) wr sz) (hl : ∀ n ∈ l, n < 256) (hn : n = l.length) : srcCells σ 1 (.slice (some ⟨b, 0, ex⟩) n c) = some ((str l).size, bytesOf (str l)) := by
  have h1 : (u8s l).length = l.length := by simp [u8s]
  subst hn
  simp only [srcCells, takeCells, hg]
  rw [if_pos (by omega), bytesOf_str hl, str_size]
  simp only [List.drop_zero, Nat.mul_one, Option.map_some]
  rw [List.take_of_length_le (by omega)]
/-- a writer's bytes grow by those of a slice -/
theorem app_sl {σ : AHeap} {K : Value → AHeap → Prop} {v : Value} {a : ByteArray} {gp : List Nat} {b n c : Nat} {ex : Option Nat} {l : List Nat} (hv : BS σ v a gp) (hg : σ.get b = .cells (u8s l) true 1) (hl : ∀ n ∈ l, n < 256) (hn : n = l.length) (hz : a.size + l.length ≤ 100000000)
    (hq : ∀ σ' v' fp', Kept σ gp σ' fp' → BS σ' v' (a ++ str l) fp' → vcells v' = [v'] → oneCell v' = true → K v' σ') : afterOpS E B (some (.any fun b' => aappend E (σ.resize b') [70, 70] [v, .slice (some ⟨b, 0, ex⟩) n c])) σ K :=
  app_bytes hv (fun b' => src_sl (σ := σ.resize b') hg hl hn) (.inr rfl) (by rw [str_size]; exact hz) fun σ' v' fp' k h => hq σ' v' fp' k h h.vc.1 h.vc.2
theorem two56 (l : List Nat) : ∀ n ∈ l.map (· % 256), n < 256 := by
  intro n hn
  obtain ⟨m, _, rfl⟩ := List.mem_map.1 hn
  exact Nat.mod_lt _ (by omega)
theorem str_app (l m : List Nat) : str l ++ str m = str (l ++ m) := by
  apply ByteArray.ext
  simp [str, ByteArray.data_append]
theorem app_assoc (a b c : ByteArray) : a ++ b ++ c = a ++ (b ++ c) := by
  apply ByteArray.ext
  simp [ByteArray.data_append]
def lenV (σ : AHeap) (v : Value) (a : ByteArray) : Prop := abuiltin E σ .len [70] [v] = some (.int .i64 (a.size : Int), σ)
theorem BS.len {σ : AHeap} {v : Value} {a : ByteArray} {fp : List Nat} (h : BS σ v a fp) : lenV σ v a := by
  rcases h with ⟨h1, rfl, _⟩ | ⟨d, rfl, _⟩
  · unfold lenV; rw [h1]; rfl
  · rfl
theorem BS.live {σ : AHeap} {v : Value} {a : ByteArray} {fp : List Nat} (h : BS σ v a fp) {b : Nat} (hb : b ∈ fp) : ∃ cs, σ.get b = .cells cs true 1 := by
  rcases h with ⟨_, _, rfl⟩ | ⟨d, _, h2, rfl, _⟩
  · cases hb
  · obtain rfl := List.mem_singleton.1 hb; exact ⟨_, h2⟩
theorem specNumW1 {σ : AHeap} {w : Nat} {a : ByteArray} {fp : List Nat} {n : Int} (hw : IsW σ w a .nilIface fp) (hz : a.size ≤ 1000000) {Q : Value → AHeap → Prop} (h : ∀ σ' fp', Kept σ fp σ' fp' → WOut σ' w a (numW n 1) fp' → Q unit σ') :
    CallS E B 116 [.pointer (some ⟨w, 0, none⟩), .int .i64 n, .int .i64 1] σ Q := by
  refine call116 (by simp) ?_
  simp only [strip, bodyOf, Tryd.f116, getD_body, keepN, bareOp_mk, lessOp_mk, lapp_cons, lapp_nil, List.map_cons, List.map_nil, array_toList, ↓reduceIte, Nat.reduceEqDiff, Bool.false_eq_true]
  simp (disch := first | assumption | simp) only [↓sbD, sbU, tyB, Nat.reduceMul, Nat.reduceSub, Int.reduceEq, Int.reduceLT, Int.reduceLE, Int.reduceNe, Nat.reduceBneDiff, Nat.reduceBEq, decide_false, gt_iff_lt, Bool.or_self, Bool.false_eq_true, Nat.mul_one, Nat.one_mul, Nat.zero_mul, ↓reduceIte, Nat.reduceEqDiff, Nat.reduceLT, Nat.reduceAdd, Nat.reduceLeDiff, reduceCtorEq, goInt, pairs, isConst, TI.isAgg, splice, boxS, Edp, dpv, Nat.beq_eq, ZV.val, List.any_cons, List.any_nil]
  refine specOff hw ?_
  have m1 : IntKind.i64.wrap (8 * 1) = 8 := by decide
  have s1 : abin E σ .shl 3 true (.int .i64 1) (.int .i64 8) = some (.int .i64 256) := by kernel_rfl
  have hw' := hw
  obtain ⟨v, gp, h1, h2, rfl, h4⟩ := hw
  by_cases hb : n < 0 ∨ 256 ≤ n
  · have hlen : abuiltin E σ .len [70] [v] = some (.int .i64 (a.size : Int), σ) := BS.len h2
    have hgoal : ∀ σ', Kept σ (w :: gp) σ' (w :: gp) → IsW σ' w a (fv 129 (a.size : Int) (sent 4)) (w :: gp) → Q unit σ' := fun σ' k hi => h σ' _ k (by
      unfold numW
      rw [if_pos (by rcases hb with hb | hb; exact .inl hb; exact .inr (by simpa using hb))]
      exact ⟨1, sent 4, by omega, ErN.new _ _ ⟨by omega, by omega⟩, hi⟩)
    by_cases h0 : n < 0
    · simp (disch := first | assumption | simp) only [↓sbD, sbU, tyB, Nat.reduceMul, Nat.reduceSub, Int.reduceEq, Int.reduceLT, Int.reduceLE, Int.reduceNe, Nat.reduceBneDiff, Nat.reduceBEq, decide_false, gt_iff_lt, Bool.or_self, Bool.false_eq_true, Nat.mul_one, Nat.one_mul, Nat.zero_mul, ↓reduceIte, Nat.reduceEqDiff, Nat.reduceLT, Nat.reduceAdd, Nat.reduceLeDiff, reduceCtorEq, goInt, pairs, isConst, TI.isAgg, splice, boxS, Edp, dpv, Nat.beq_eq, ZV.val, List.any_cons, List.any_nil, m1, s1, h0, h1, hlen, gk4]
      refine specNew (n := 4) ⟨by omega, by omega⟩ ?_
      simp (disch := first | assumption | simp) only [↓sbD, sbU, tyB, Nat.reduceMul, Nat.reduceSub, Int.reduceEq, Int.reduceLT, Int.reduceLE, Int.reduceNe, Nat.reduceBneDiff, Nat.reduceBEq, decide_false, gt_iff_lt, Bool.or_self, Bool.false_eq_true, Nat.mul_one, Nat.one_mul, Nat.zero_mul, ↓reduceIte, Nat.reduceEqDiff, Nat.reduceLT, Nat.reduceAdd, Nat.reduceLeDiff, reduceCtorEq, goInt, pairs, isConst, TI.isAgg, splice, boxS, Edp, dpv, Nat.beq_eq, ZV.val, List.any_cons, List.any_nil]
      refine specFail hw' fun σ' k hi => ?_
      simp (disch := first | assumption | simp) only [↓sbD, sbU, tyB, Nat.reduceMul, Nat.reduceSub, Int.reduceEq, Int.reduceLT, Int.reduceLE, Int.reduceNe, Nat.reduceBneDiff, Nat.reduceBEq, decide_false, gt_iff_lt, Bool.or_self, Bool.false_eq_true, Nat.mul_one, Nat.one_mul, Nat.zero_mul, ↓reduceIte, Nat.reduceEqDiff, Nat.reduceLT, Nat.reduceAdd, Nat.reduceLeDiff, reduceCtorEq, goInt, pairs, isConst, TI.isAgg, splice, boxS, Edp, dpv, Nat.beq_eq, ZV.val, List.any_cons, List.any_nil]
      exact downS_here (hgoal σ' k hi)
    · have h8 : 256 ≤ n := by omega
      simp (disch := first | assumption | simp) only [↓sbD, sbU, tyB, Nat.reduceMul, Nat.reduceSub, Int.reduceEq, Int.reduceLT, Int.reduceLE, Int.reduceNe, Nat.reduceBneDiff, Nat.reduceBEq, decide_false, gt_iff_lt, Bool.or_self, Bool.false_eq_true, Nat.mul_one, Nat.one_mul, Nat.zero_mul, ↓reduceIte, Nat.reduceEqDiff, Nat.reduceLT, Nat.reduceAdd, Nat.reduceLeDiff, reduceCtorEq, goInt, pairs, isConst, TI.isAgg, splice, boxS, Edp, dpv, Nat.beq_eq, ZV.val, List.any_cons, List.any_nil, m1, s1, h0, h8, h1, hlen, gk4]
      refine specNew (n := 4) ⟨by omega, by omega⟩ ?_
      simp (disch := first | assumption | simp) only [↓sbD, sbU, tyB, Nat.reduceMul, Nat.reduceSub, Int.reduceEq, Int.reduceLT, Int.reduceLE, Int.reduceNe, Nat.reduceBneDiff, Nat.reduceBEq, decide_false, gt_iff_lt, Bool.or_self, Bool.false_eq_true, Nat.mul_one, Nat.one_mul, Nat.zero_mul, ↓reduceIte, Nat.reduceEqDiff, Nat.reduceLT, Nat.reduceAdd, Nat.reduceLeDiff, reduceCtorEq, goInt, pairs, isConst, TI.isAgg, splice, boxS, Edp, dpv, Nat.beq_eq, ZV.val, List.any_cons, List.any_nil]
      refine specFail hw' fun σ' k hi => ?_
      simp (disch := first | assumption | simp) only [↓sbD, sbU, tyB, Nat.reduceMul, Nat.reduceSub, Int.reduceEq, Int.reduceLT, Int.reduceLE, Int.reduceNe, Nat.reduceBneDiff, Nat.reduceBEq, decide_false, gt_iff_lt, Bool.or_self, Bool.false_eq_true, Nat.mul_one, Nat.one_mul, Nat.zero_mul, ↓reduceIte, Nat.reduceEqDiff, Nat.reduceLT, Nat.reduceAdd, Nat.reduceLeDiff, reduceCtorEq, goInt, pairs, isConst, TI.isAgg, splice, boxS, Edp, dpv, Nat.beq_eq, ZV.val, List.any_cons, List.any_nil]
      exact downS_here (hgoal σ' k hi)
  · obtain ⟨N, rfl⟩ : ∃ N : Nat, n = N := ⟨n.toNat, by omega⟩
    have h0 : ¬ (N : Int) < 0 := by omega
    have h8 : ¬ (256 : Int) ≤ N := by omega
    have hout : ∀ σ' fp', IsW σ' w (a ++ numB N 1) .nilIface fp' → WOut σ' w a (numW N 1) fp' := fun σ' fp' hi => by
      unfold numW
      rw [if_neg (by simp; omega)]
      exact hi
    simp (disch := first | assumption | simp) only [↓sbD, sbU, tyB, Nat.reduceMul, Nat.reduceSub, Int.reduceEq, Int.reduceLT, Int.reduceLE, Int.reduceNe, Nat.reduceBneDiff, Nat.reduceBEq, decide_false, gt_iff_lt, Bool.or_self, Bool.false_eq_true, Nat.mul_one, Nat.one_mul, Nat.zero_mul, ↓reduceIte, Nat.reduceEqDiff, Nat.reduceLT, Nat.reduceAdd, Nat.reduceLeDiff, reduceCtorEq, goInt, pairs, isConst, TI.isAgg, splice, boxS, Edp, dpv, Nat.beq_eq, ZV.val, List.any_cons, List.any_nil, m1, s1, h0, h8, wrap_u8N, h1]
    refine bs_one fun b1 hb1 => ?_
    have kb1 : Kept σ [] (σ.set b1 (.cells (u8s [N % 256]) true 1)) [b1] := Kept.new' hb1
    have cb1 := (kb1.at h1 (by simp) (by simp)).1
    have hs1 := BS.kept h2 kb1 (fun _ _ h => by cases h)
    have hn1 : b1 ∉ gp := fun hm => by rcases BS.live h2 hm with ⟨cs, hg⟩; rw [hb1] at hg; cases hg
    have hnw1 : w ≠ b1 := by rintro rfl; rw [hb1] at h1; cases h1
    simp (disch := first | assumption | simp) only [↓sbD, sbU, tyB, Nat.reduceMul, Nat.reduceSub, Int.reduceEq, Int.reduceLT, Int.reduceLE, Int.reduceNe, Nat.reduceBneDiff, Nat.reduceBEq, decide_false, gt_iff_lt, Bool.or_self, Bool.false_eq_true, Nat.mul_one, Nat.one_mul, Nat.zero_mul, ↓reduceIte, Nat.reduceEqDiff, Nat.reduceLT, Nat.reduceAdd, Nat.reduceLeDiff, reduceCtorEq, goInt, pairs, isConst, TI.isAgg, splice, boxS, Edp, dpv, Nat.beq_eq, ZV.val, List.any_cons, List.any_nil]
    refine app_sl hs1 (l := [N % 256]) (AHeap.get_set_same _ _ _) (by intro m hm; simp only [List.mem_cons, List.not_mem_nil, or_false] at hm; omega) rfl (by simp only [size_app, str_size, List.length_cons, List.length_nil]; omega) fun τ1 v1 gp1 k1 hb'1 vc1 oc1 => ?_
    obtain ⟨c1, n1⟩ := k1.at cb1 (by simp) h4
    simp (disch := first | assumption | simp) only [↓sbD, sbU, tyB, Nat.reduceMul, Nat.reduceSub, Int.reduceEq, Int.reduceLT, Int.reduceLE, Int.reduceNe, Nat.reduceBneDiff, Nat.reduceBEq, decide_false, gt_iff_lt, Bool.or_self, Bool.false_eq_true, Nat.mul_one, Nat.one_mul, Nat.zero_mul, ↓reduceIte, Nat.reduceEqDiff, Nat.reduceLT, Nat.reduceAdd, Nat.reduceLeDiff, reduceCtorEq, goInt, pairs, isConst, TI.isAgg, splice, boxS, Edp, dpv, Nat.beq_eq, ZV.val, List.any_cons, List.any_nil, m1, s1, h0, h8, wrap_u8N, c1, vc1, oc1]
    have kk1 : Kept σ (w :: gp) (τ1.set w (.cells [v1, .nilIface] true 0)) (w :: gp1) := (Kept.trans (Kept.trans ⟨fun c hc _ => kb1.get c hc (by simp), fun c hc => .inl hc⟩ (k1.more (l := [w]))) (Kept.set (by simp)))
    have hz1 := BS.set (w := w) (o := .cells [v1, .nilIface] true 0) hb'1 n1
    have g1 := AHeap.get_set_same τ1 w (.cells [v1, .nilIface] true 0)
    refine downS_here (h _ _ kk1 (hout _ _ ⟨v1, gp1, g1, ?_, rfl, n1⟩))
    have e : a ++ numB N 1 = a ++ str [N % 256] := by simp only [numB]; simp [app_assoc, str_app]
    rw [e]; exact hz1
theorem specNumW2 {σ : AHeap} {w : Nat} {a : ByteArray} {fp : List Nat} {n : Int} (hw : IsW σ w a .nilIface fp) (hz : a.size ≤ 1000000) {Q : Value → AHeap → Prop} (h : ∀ σ' fp', Kept σ fp σ' fp' → WOut σ' w a (numW n 2) fp' → Q unit σ') :
    CallS E B 116 [.pointer (some ⟨w, 0, none⟩), .int .i64 n, .int .i64 2] σ Q := by
  refine call116 (by simp) ?_
  simp only [strip, bodyOf, Tryd.f116, getD_body, keepN, bareOp_mk, lessOp_mk, lapp_cons, lapp_nil, List.map_cons, List.map_nil, array_toList, ↓reduceIte, Nat.reduceEqDiff, Bool.false_eq_true]
  simp (disch := first | assumption | simp) only [↓sbD, sbU, tyB, Nat.reduceMul, Nat.reduceSub, Int.reduceEq, Int.reduceLT, Int.reduceLE, Int.reduceNe, Nat.reduceBneDiff, Nat.reduceBEq, decide_false, gt_iff_lt, Bool.or_self, Bool.false_eq_true, Nat.mul_one, Nat.one_mul, Nat.zero_mul, ↓reduceIte, Nat.reduceEqDiff, Nat.reduceLT, Nat.reduceAdd, Nat.reduceLeDiff, reduceCtorEq, goInt, pairs, isConst, TI.isAgg, splice, boxS, Edp, dpv, Nat.beq_eq, ZV.val, List.any_cons, List.any_nil]
  refine specOff hw ?_
  have m1 : IntKind.i64.wrap (8 * 2) = 16 := by decide
  have s1 : abin E σ .shl 3 true (.int .i64 1) (.int .i64 16) = some (.int .i64 65536) := by kernel_rfl
  have hw' := hw
  obtain ⟨v, gp, h1, h2, rfl, h4⟩ := hw
  by_cases hb : n < 0 ∨ 65536 ≤ n
  · have hlen : abuiltin E σ .len [70] [v] = some (.int .i64 (a.size : Int), σ) := BS.len h2
    have hgoal : ∀ σ', Kept σ (w :: gp) σ' (w :: gp) → IsW σ' w a (fv 129 (a.size : Int) (sent 4)) (w :: gp) → Q unit σ' := fun σ' k hi => h σ' _ k (by
      unfold numW
      rw [if_pos (by rcases hb with hb | hb; exact .inl hb; exact .inr (by simpa using hb))]
      exact ⟨1, sent 4, by omega, ErN.new _ _ ⟨by omega, by omega⟩, hi⟩)
    by_cases h0 : n < 0
    · simp (disch := first | assumption | simp) only [↓sbD, sbU, tyB, Nat.reduceMul, Nat.reduceSub, Int.reduceEq, Int.reduceLT, Int.reduceLE, Int.reduceNe, Nat.reduceBneDiff, Nat.reduceBEq, decide_false, gt_iff_lt, Bool.or_self, Bool.false_eq_true, Nat.mul_one, Nat.one_mul, Nat.zero_mul, ↓reduceIte, Nat.reduceEqDiff, Nat.reduceLT, Nat.reduceAdd, Nat.reduceLeDiff, reduceCtorEq, goInt, pairs, isConst, TI.isAgg, splice, boxS, Edp, dpv, Nat.beq_eq, ZV.val, List.any_cons, List.any_nil, m1, s1, h0, h1, hlen, gk4]
      refine specNew (n := 4) ⟨by omega, by omega⟩ ?_
      simp (disch := first | assumption | simp) only [↓sbD, sbU, tyB, Nat.reduceMul, Nat.reduceSub, Int.reduceEq, Int.reduceLT, Int.reduceLE, Int.reduceNe, Nat.reduceBneDiff, Nat.reduceBEq, decide_false, gt_iff_lt, Bool.or_self, Bool.false_eq_true, Nat.mul_one, Nat.one_mul, Nat.zero_mul, ↓reduceIte, Nat.reduceEqDiff, Nat.reduceLT, Nat.reduceAdd, Nat.reduceLeDiff, reduceCtorEq, goInt, pairs, isConst, TI.isAgg, splice, boxS, Edp, dpv, Nat.beq_eq, ZV.val, List.any_cons, List.any_nil]
      refine specFail hw' fun σ' k hi => ?_
      simp (disch := first | assumption | simp) only [↓sbD, sbU, tyB, Nat.reduceMul, Nat.reduceSub, Int.reduceEq, Int.reduceLT, Int.reduceLE, Int.reduceNe, Nat.reduceBneDiff, Nat.reduceBEq, decide_false, gt_iff_lt, Bool.or_self, Bool.false_eq_true, Nat.mul_one, Nat.one_mul, Nat.zero_mul, ↓reduceIte, Nat.reduceEqDiff, Nat.reduceLT, Nat.reduceAdd, Nat.reduceLeDiff, reduceCtorEq, goInt, pairs, isConst, TI.isAgg, splice, boxS, Edp, dpv, Nat.beq_eq, ZV.val, List.any_cons, List.any_nil]
      exact downS_here (hgoal σ' k hi)
    · have h8 : 65536 ≤ n := by omega
      simp (disch := first | assumption | simp) only [↓sbD, sbU, tyB, Nat.reduceMul, Nat.reduceSub, Int.reduceEq, Int.reduceLT, Int.reduceLE, Int.reduceNe, Nat.reduceBneDiff, Nat.reduceBEq, decide_false, gt_iff_lt, Bool.or_self, Bool.false_eq_true, Nat.mul_one, Nat.one_mul, Nat.zero_mul, ↓reduceIte, Nat.reduceEqDiff, Nat.reduceLT, Nat.reduceAdd, Nat.reduceLeDiff, reduceCtorEq, goInt, pairs, isConst, TI.isAgg, splice, boxS, Edp, dpv, Nat.beq_eq, ZV.val, List.any_cons, List.any_nil, m1, s1, h0, h8, h1, hlen, gk4]
      refine specNew (n := 4) ⟨by omega, by omega⟩ ?_
      simp (disch := first | assumption | simp) only [↓sbD, sbU, tyB, Nat.reduceMul, Nat.reduceSub, Int.reduceEq, Int.reduceLT, Int.reduceLE, Int.reduceNe, Nat.reduceBneDiff, Nat.reduceBEq, decide_false, gt_iff_lt, Bool.or_self, Bool.false_eq_true, Nat.mul_one, Nat.one_mul, Nat.zero_mul, ↓reduceIte, Nat.reduceEqDiff, Nat.reduceLT, Nat.reduceAdd, Nat.reduceLeDiff, reduceCtorEq, goInt, pairs, isConst, TI.isAgg, splice, boxS, Edp, dpv, Nat.beq_eq, ZV.val, List.any_cons, List.any_nil]
      refine specFail hw' fun σ' k hi => ?_
      simp (disch := first | assumption | simp) only [↓sbD, sbU, tyB, Nat.reduceMul, Nat.reduceSub, Int.reduceEq, Int.reduceLT, Int.reduceLE, Int.reduceNe, Nat.reduceBneDiff, Nat.reduceBEq, decide_false, gt_iff_lt, Bool.or_self, Bool.false_eq_true, Nat.mul_one, Nat.one_mul, Nat.zero_mul, ↓reduceIte, Nat.reduceEqDiff, Nat.reduceLT, Nat.reduceAdd, Nat.reduceLeDiff, reduceCtorEq, goInt, pairs, isConst, TI.isAgg, splice, boxS, Edp, dpv, Nat.beq_eq, ZV.val, List.any_cons, List.any_nil]
      exact downS_here (hgoal σ' k hi)
  · obtain ⟨N, rfl⟩ : ∃ N : Nat, n = N := ⟨n.toNat, by omega⟩
    have h0 : ¬ (N : Int) < 0 := by omega
    have h8 : ¬ (65536 : Int) ≤ N := by omega
    have hout : ∀ σ' fp', IsW σ' w (a ++ numB N 2) .nilIface fp' → WOut σ' w a (numW N 2) fp' := fun σ' fp' hi => by
      unfold numW
      rw [if_neg (by simp; omega)]
      exact hi
    have q256 : ∀ τ : AHeap, abin E τ .shr 3 true (.int .i64 (N : Int)) (.int .u64 8) = some (.int .i64 ((N / 256 : Nat) : Int)) := fun τ => shr_nat (s := 8) (by omega)
    simp (disch := first | assumption | simp) only [↓sbD, sbU, tyB, Nat.reduceMul, Nat.reduceSub, Int.reduceEq, Int.reduceLT, Int.reduceLE, Int.reduceNe, Nat.reduceBneDiff, Nat.reduceBEq, decide_false, gt_iff_lt, Bool.or_self, Bool.false_eq_true, Nat.mul_one, Nat.one_mul, Nat.zero_mul, ↓reduceIte, Nat.reduceEqDiff, Nat.reduceLT, Nat.reduceAdd, Nat.reduceLeDiff, reduceCtorEq, goInt, pairs, isConst, TI.isAgg, splice, boxS, Edp, dpv, Nat.beq_eq, ZV.val, List.any_cons, List.any_nil, m1, s1, h0, h8, wrap_u8N, q256, h1]
    refine bs_one fun b1 hb1 => ?_
    have kb1 : Kept σ [] (σ.set b1 (.cells (u8s [N / 256 % 256]) true 1)) [b1] := Kept.new' hb1
    have cb1 := (kb1.at h1 (by simp) (by simp)).1
    have hs1 := BS.kept h2 kb1 (fun _ _ h => by cases h)
    have hn1 : b1 ∉ gp := fun hm => by rcases BS.live h2 hm with ⟨cs, hg⟩; rw [hb1] at hg; cases hg
    have hnw1 : w ≠ b1 := by rintro rfl; rw [hb1] at h1; cases h1
    simp (disch := first | assumption | simp) only [↓sbD, sbU, tyB, Nat.reduceMul, Nat.reduceSub, Int.reduceEq, Int.reduceLT, Int.reduceLE, Int.reduceNe, Nat.reduceBneDiff, Nat.reduceBEq, decide_false, gt_iff_lt, Bool.or_self, Bool.false_eq_true, Nat.mul_one, Nat.one_mul, Nat.zero_mul, ↓reduceIte, Nat.reduceEqDiff, Nat.reduceLT, Nat.reduceAdd, Nat.reduceLeDiff, reduceCtorEq, goInt, pairs, isConst, TI.isAgg, splice, boxS, Edp, dpv, Nat.beq_eq, ZV.val, List.any_cons, List.any_nil]
    refine app_sl hs1 (l := [N / 256 % 256]) (AHeap.get_set_same _ _ _) (by intro m hm; simp only [List.mem_cons, List.not_mem_nil, or_false] at hm; omega) rfl (by simp only [size_app, str_size, List.length_cons, List.length_nil]; omega) fun τ1 v1 gp1 k1 hb'1 vc1 oc1 => ?_
    obtain ⟨c1, n1⟩ := k1.at cb1 (by simp) h4
    simp (disch := first | assumption | simp) only [↓sbD, sbU, tyB, Nat.reduceMul, Nat.reduceSub, Int.reduceEq, Int.reduceLT, Int.reduceLE, Int.reduceNe, Nat.reduceBneDiff, Nat.reduceBEq, decide_false, gt_iff_lt, Bool.or_self, Bool.false_eq_true, Nat.mul_one, Nat.one_mul, Nat.zero_mul, ↓reduceIte, Nat.reduceEqDiff, Nat.reduceLT, Nat.reduceAdd, Nat.reduceLeDiff, reduceCtorEq, goInt, pairs, isConst, TI.isAgg, splice, boxS, Edp, dpv, Nat.beq_eq, ZV.val, List.any_cons, List.any_nil, m1, s1, h0, h8, wrap_u8N, q256, c1, vc1, oc1]
    have kk1 : Kept σ (w :: gp) (τ1.set w (.cells [v1, .nilIface] true 0)) (w :: gp1) := (Kept.trans (Kept.trans ⟨fun c hc _ => kb1.get c hc (by simp), fun c hc => .inl hc⟩ (k1.more (l := [w]))) (Kept.set (by simp)))
    have hz1 := BS.set (w := w) (o := .cells [v1, .nilIface] true 0) hb'1 n1
    have g1 := AHeap.get_set_same τ1 w (.cells [v1, .nilIface] true 0)
    try simp (disch := first | assumption | simp) only [↓sbD, sbU, tyB, Nat.reduceMul, Nat.reduceSub, Int.reduceEq, Int.reduceLT, Int.reduceLE, Int.reduceNe, Nat.reduceBneDiff, Nat.reduceBEq, decide_false, gt_iff_lt, Bool.or_self, Bool.false_eq_true, Nat.mul_one, Nat.one_mul, Nat.zero_mul, ↓reduceIte, Nat.reduceEqDiff, Nat.reduceLT, Nat.reduceAdd, Nat.reduceLeDiff, reduceCtorEq, goInt, pairs, isConst, TI.isAgg, splice, boxS, Edp, dpv, Nat.beq_eq, ZV.val, List.any_cons, List.any_nil, m1, s1, h0, h8, wrap_u8N, q256, g1]
    refine bs_one fun b2 hb2 => ?_
    have kb2 : Kept (τ1.set w (.cells [v1, .nilIface] true 0)) [] ((τ1.set w (.cells [v1, .nilIface] true 0)).set b2 (.cells (u8s [N % 256]) true 1)) [b2] := Kept.new' hb2
    have cb2 := (kb2.at g1 (by simp) (by simp)).1
    have hs2 := BS.kept hz1 kb2 (fun _ _ h => by cases h)
    have hn2 : b2 ∉ gp1 := fun hm => by rcases BS.live hz1 hm with ⟨cs, hg⟩; rw [hb2] at hg; cases hg
    have hnw2 : w ≠ b2 := by rintro rfl; rw [hb2] at g1; cases g1
    simp (disch := first | assumption | simp) only [↓sbD, sbU, tyB, Nat.reduceMul, Nat.reduceSub, Int.reduceEq, Int.reduceLT, Int.reduceLE, Int.reduceNe, Nat.reduceBneDiff, Nat.reduceBEq, decide_false, gt_iff_lt, Bool.or_self, Bool.false_eq_true, Nat.mul_one, Nat.one_mul, Nat.zero_mul, ↓reduceIte, Nat.reduceEqDiff, Nat.reduceLT, Nat.reduceAdd, Nat.reduceLeDiff, reduceCtorEq, goInt, pairs, isConst, TI.isAgg, splice, boxS, Edp, dpv, Nat.beq_eq, ZV.val, List.any_cons, List.any_nil]
    refine app_sl hs2 (l := [N % 256]) (AHeap.get_set_same _ _ _) (by intro m hm; simp only [List.mem_cons, List.not_mem_nil, or_false] at hm; omega) rfl (by simp only [size_app, str_size, List.length_cons, List.length_nil]; omega) fun τ2 v2 gp2 k2 hb'2 vc2 oc2 => ?_
    obtain ⟨c2, n2⟩ := k2.at cb2 (by simp) n1
    simp (disch := first | assumption | simp) only [↓sbD, sbU, tyB, Nat.reduceMul, Nat.reduceSub, Int.reduceEq, Int.reduceLT, Int.reduceLE, Int.reduceNe, Nat.reduceBneDiff, Nat.reduceBEq, decide_false, gt_iff_lt, Bool.or_self, Bool.false_eq_true, Nat.mul_one, Nat.one_mul, Nat.zero_mul, ↓reduceIte, Nat.reduceEqDiff, Nat.reduceLT, Nat.reduceAdd, Nat.reduceLeDiff, reduceCtorEq, goInt, pairs, isConst, TI.isAgg, splice, boxS, Edp, dpv, Nat.beq_eq, ZV.val, List.any_cons, List.any_nil, m1, s1, h0, h8, wrap_u8N, q256, c2, vc2, oc2]
    have kk2 : Kept (τ1.set w (.cells [v1, .nilIface] true 0)) (w :: gp1) (τ2.set w (.cells [v2, .nilIface] true 0)) (w :: gp2) := (Kept.trans (Kept.trans ⟨fun c hc _ => kb2.get c hc (by simp), fun c hc => .inl hc⟩ (k2.more (l := [w]))) (Kept.set (by simp)))
    have hz2 := BS.set (w := w) (o := .cells [v2, .nilIface] true 0) hb'2 n2
    have g2 := AHeap.get_set_same τ2 w (.cells [v2, .nilIface] true 0)
    refine downS_here (h _ _ (kk1.trans kk2) (hout _ _ ⟨v2, gp2, g2, ?_, rfl, n2⟩))
    have e : a ++ numB N 2 = a ++ str [N / 256 % 256] ++ str [N % 256] := by simp only [numB]; simp [app_assoc, str_app]
    rw [e]; exact hz2
theorem specNumW4 {σ : AHeap} {w : Nat} {a : ByteArray} {fp : List Nat} {n : Int} (hw : IsW σ w a .nilIface fp) (hz : a.size ≤ 1000000) {Q : Value → AHeap → Prop} (h : ∀ σ' fp', Kept σ fp σ' fp' → WOut σ' w a (numW n 4) fp' → Q unit σ') :
    CallS E B 116 [.pointer (some ⟨w, 0, none⟩), .int .i64 n, .int .i64 4] σ Q := by
  refine call116 (by simp) ?_
  simp only [strip, bodyOf, Tryd.f116, getD_body, keepN, bareOp_mk, lessOp_mk, lapp_cons, lapp_nil, List.map_cons, List.map_nil, array_toList, ↓reduceIte, Nat.reduceEqDiff, Bool.false_eq_true]
  simp (disch := first | assumption | simp) only [↓sbD, sbU, tyB, Nat.reduceMul, Nat.reduceSub, Int.reduceEq, Int.reduceLT, Int.reduceLE, Int.reduceNe, Nat.reduceBneDiff, Nat.reduceBEq, decide_false, gt_iff_lt, Bool.or_self, Bool.false_eq_true, Nat.mul_one, Nat.one_mul, Nat.zero_mul, ↓reduceIte, Nat.reduceEqDiff, Nat.reduceLT, Nat.reduceAdd, Nat.reduceLeDiff, reduceCtorEq, goInt, pairs, isConst, TI.isAgg, splice, boxS, Edp, dpv, Nat.beq_eq, ZV.val, List.any_cons, List.any_nil]
  refine specOff hw ?_
  have m1 : IntKind.i64.wrap (8 * 4) = 32 := by decide
  have s1 : abin E σ .shl 3 true (.int .i64 1) (.int .i64 32) = some (.int .i64 4294967296) := by kernel_rfl
  have hw' := hw
  obtain ⟨v, gp, h1, h2, rfl, h4⟩ := hw
  by_cases hb : n < 0 ∨ 4294967296 ≤ n
  · have hlen : abuiltin E σ .len [70] [v] = some (.int .i64 (a.size : Int), σ) := BS.len h2
    have hgoal : ∀ σ', Kept σ (w :: gp) σ' (w :: gp) → IsW σ' w a (fv 129 (a.size : Int) (sent 4)) (w :: gp) → Q unit σ' := fun σ' k hi => h σ' _ k (by
      unfold numW
      rw [if_pos (by rcases hb with hb | hb; exact .inl hb; exact .inr (by simpa using hb))]
      exact ⟨1, sent 4, by omega, ErN.new _ _ ⟨by omega, by omega⟩, hi⟩)
    by_cases h0 : n < 0
    · simp (disch := first | assumption | simp) only [↓sbD, sbU, tyB, Nat.reduceMul, Nat.reduceSub, Int.reduceEq, Int.reduceLT, Int.reduceLE, Int.reduceNe, Nat.reduceBneDiff, Nat.reduceBEq, decide_false, gt_iff_lt, Bool.or_self, Bool.false_eq_true, Nat.mul_one, Nat.one_mul, Nat.zero_mul, ↓reduceIte, Nat.reduceEqDiff, Nat.reduceLT, Nat.reduceAdd, Nat.reduceLeDiff, reduceCtorEq, goInt, pairs, isConst, TI.isAgg, splice, boxS, Edp, dpv, Nat.beq_eq, ZV.val, List.any_cons, List.any_nil, m1, s1, h0, h1, hlen, gk4]
      refine specNew (n := 4) ⟨by omega, by omega⟩ ?_
      simp (disch := first | assumption | simp) only [↓sbD, sbU, tyB, Nat.reduceMul, Nat.reduceSub, Int.reduceEq, Int.reduceLT, Int.reduceLE, Int.reduceNe, Nat.reduceBneDiff, Nat.reduceBEq, decide_false, gt_iff_lt, Bool.or_self, Bool.false_eq_true, Nat.mul_one, Nat.one_mul, Nat.zero_mul, ↓reduceIte, Nat.reduceEqDiff, Nat.reduceLT, Nat.reduceAdd, Nat.reduceLeDiff, reduceCtorEq, goInt, pairs, isConst, TI.isAgg, splice, boxS, Edp, dpv, Nat.beq_eq, ZV.val, List.any_cons, List.any_nil]
      refine specFail hw' fun σ' k hi => ?_
      simp (disch := first | assumption | simp) only [↓sbD, sbU, tyB, Nat.reduceMul, Nat.reduceSub, Int.reduceEq, Int.reduceLT, Int.reduceLE, Int.reduceNe, Nat.reduceBneDiff, Nat.reduceBEq, decide_false, gt_iff_lt, Bool.or_self, Bool.false_eq_true, Nat.mul_one, Nat.one_mul, Nat.zero_mul, ↓reduceIte, Nat.reduceEqDiff, Nat.reduceLT, Nat.reduceAdd, Nat.reduceLeDiff, reduceCtorEq, goInt, pairs, isConst, TI.isAgg, splice, boxS, Edp, dpv, Nat.beq_eq, ZV.val, List.any_cons, List.any_nil]
      exact downS_here (hgoal σ' k hi)
    · have h8 : 4294967296 ≤ n := by omega
      simp (disch := first | assumption | simp) only [↓sbD, sbU, tyB, Nat.reduceMul, Nat.reduceSub, Int.reduceEq, Int.reduceLT, Int.reduceLE, Int.reduceNe, Nat.reduceBneDiff, Nat.reduceBEq, decide_false, gt_iff_lt, Bool.or_self, Bool.false_eq_true, Nat.mul_one, Nat.one_mul, Nat.zero_mul, ↓reduceIte, Nat.reduceEqDiff, Nat.reduceLT, Nat.reduceAdd, Nat.reduceLeDiff, reduceCtorEq, goInt, pairs, isConst, TI.isAgg, splice, boxS, Edp, dpv, Nat.beq_eq, ZV.val, List.any_cons, List.any_nil, m1, s1, h0, h8, h1, hlen, gk4]
      refine specNew (n := 4) ⟨by omega, by omega⟩ ?_
      simp (disch := first | assumption | simp) only [↓sbD, sbU, tyB, Nat.reduceMul, Nat.reduceSub, Int.reduceEq, Int.reduceLT, Int.reduceLE, Int.reduceNe, Nat.reduceBneDiff, Nat.reduceBEq, decide_false, gt_iff_lt, Bool.or_self, Bool.false_eq_true, Nat.mul_one, Nat.one_mul, Nat.zero_mul, ↓reduceIte, Nat.reduceEqDiff, Nat.reduceLT, Nat.reduceAdd, Nat.reduceLeDiff, reduceCtorEq, goInt, pairs, isConst, TI.isAgg, splice, boxS, Edp, dpv, Nat.beq_eq, ZV.val, List.any_cons, List.any_nil]
      refine specFail hw' fun σ' k hi => ?_
      simp (disch := first | assumption | simp) only [↓sbD, sbU, tyB, Nat.reduceMul, Nat.reduceSub, Int.reduceEq, Int.reduceLT, Int.reduceLE, Int.reduceNe, Nat.reduceBneDiff, Nat.reduceBEq, decide_false, gt_iff_lt, Bool.or_self, Bool.false_eq_true, Nat.mul_one, Nat.one_mul, Nat.zero_mul, ↓reduceIte, Nat.reduceEqDiff, Nat.reduceLT, Nat.reduceAdd, Nat.reduceLeDiff, reduceCtorEq, goInt, pairs, isConst, TI.isAgg, splice, boxS, Edp, dpv, Nat.beq_eq, ZV.val, List.any_cons, List.any_nil]
      exact downS_here (hgoal σ' k hi)
  · obtain ⟨N, rfl⟩ : ∃ N : Nat, n = N := ⟨n.toNat, by omega⟩
    have h0 : ¬ (N : Int) < 0 := by omega
    have h8 : ¬ (4294967296 : Int) ≤ N := by omega
    have hout : ∀ σ' fp', IsW σ' w (a ++ numB N 4) .nilIface fp' → WOut σ' w a (numW N 4) fp' := fun σ' fp' hi => by
      unfold numW
      rw [if_neg (by simp; omega)]
      exact hi
    have q16777216 : ∀ τ : AHeap, abin E τ .shr 3 true (.int .i64 (N : Int)) (.int .u64 24) = some (.int .i64 ((N / 16777216 : Nat) : Int)) := fun τ => shr_nat (s := 24) (by omega)
    have q65536 : ∀ τ : AHeap, abin E τ .shr 3 true (.int .i64 (N : Int)) (.int .u64 16) = some (.int .i64 ((N / 65536 : Nat) : Int)) := fun τ => shr_nat (s := 16) (by omega)
    have q256 : ∀ τ : AHeap, abin E τ .shr 3 true (.int .i64 (N : Int)) (.int .u64 8) = some (.int .i64 ((N / 256 : Nat) : Int)) := fun τ => shr_nat (s := 8) (by omega)
    simp (disch := first | assumption | simp) only [↓sbD, sbU, tyB, Nat.reduceMul, Nat.reduceSub, Int.reduceEq, Int.reduceLT, Int.reduceLE, Int.reduceNe, Nat.reduceBneDiff, Nat.reduceBEq, decide_false, gt_iff_lt, Bool.or_self, Bool.false_eq_true, Nat.mul_one, Nat.one_mul, Nat.zero_mul, ↓reduceIte, Nat.reduceEqDiff, Nat.reduceLT, Nat.reduceAdd, Nat.reduceLeDiff, reduceCtorEq, goInt, pairs, isConst, TI.isAgg, splice, boxS, Edp, dpv, Nat.beq_eq, ZV.val, List.any_cons, List.any_nil, m1, s1, h0, h8, wrap_u8N, q16777216, q65536, q256, h1]
    refine bs_two fun b1 hb1 => ?_
    have kb1 : Kept σ [] (σ.set b1 (.cells (u8s [N / 16777216 % 256, N / 65536 % 256]) true 1)) [b1] := Kept.new' hb1
    have cb1 := (kb1.at h1 (by simp) (by simp)).1
    have hs1 := BS.kept h2 kb1 (fun _ _ h => by cases h)
    have hn1 : b1 ∉ gp := fun hm => by rcases BS.live h2 hm with ⟨cs, hg⟩; rw [hb1] at hg; cases hg
    have hnw1 : w ≠ b1 := by rintro rfl; rw [hb1] at h1; cases h1
    simp (disch := first | assumption | simp) only [↓sbD, sbU, tyB, Nat.reduceMul, Nat.reduceSub, Int.reduceEq, Int.reduceLT, Int.reduceLE, Int.reduceNe, Nat.reduceBneDiff, Nat.reduceBEq, decide_false, gt_iff_lt, Bool.or_self, Bool.false_eq_true, Nat.mul_one, Nat.one_mul, Nat.zero_mul, ↓reduceIte, Nat.reduceEqDiff, Nat.reduceLT, Nat.reduceAdd, Nat.reduceLeDiff, reduceCtorEq, goInt, pairs, isConst, TI.isAgg, splice, boxS, Edp, dpv, Nat.beq_eq, ZV.val, List.any_cons, List.any_nil]
    refine app_sl hs1 (l := [N / 16777216 % 256, N / 65536 % 256]) (AHeap.get_set_same _ _ _) (by intro m hm; simp only [List.mem_cons, List.not_mem_nil, or_false] at hm; omega) rfl (by simp only [size_app, str_size, List.length_cons, List.length_nil]; omega) fun τ1 v1 gp1 k1 hb'1 vc1 oc1 => ?_
    obtain ⟨c1, n1⟩ := k1.at cb1 (by simp) h4
    simp (disch := first | assumption | simp) only [↓sbD, sbU, tyB, Nat.reduceMul, Nat.reduceSub, Int.reduceEq, Int.reduceLT, Int.reduceLE, Int.reduceNe, Nat.reduceBneDiff, Nat.reduceBEq, decide_false, gt_iff_lt, Bool.or_self, Bool.false_eq_true, Nat.mul_one, Nat.one_mul, Nat.zero_mul, ↓reduceIte, Nat.reduceEqDiff, Nat.reduceLT, Nat.reduceAdd, Nat.reduceLeDiff, reduceCtorEq, goInt, pairs, isConst, TI.isAgg, splice, boxS, Edp, dpv, Nat.beq_eq, ZV.val, List.any_cons, List.any_nil, m1, s1, h0, h8, wrap_u8N, q16777216, q65536, q256, c1, vc1, oc1]
    have kk1 : Kept σ (w :: gp) (τ1.set w (.cells [v1, .nilIface] true 0)) (w :: gp1) := (Kept.trans (Kept.trans ⟨fun c hc _ => kb1.get c hc (by simp), fun c hc => .inl hc⟩ (k1.more (l := [w]))) (Kept.set (by simp)))
    have hz1 := BS.set (w := w) (o := .cells [v1, .nilIface] true 0) hb'1 n1
    have g1 := AHeap.get_set_same τ1 w (.cells [v1, .nilIface] true 0)
    try simp (disch := first | assumption | simp) only [↓sbD, sbU, tyB, Nat.reduceMul, Nat.reduceSub, Int.reduceEq, Int.reduceLT, Int.reduceLE, Int.reduceNe, Nat.reduceBneDiff, Nat.reduceBEq, decide_false, gt_iff_lt, Bool.or_self, Bool.false_eq_true, Nat.mul_one, Nat.one_mul, Nat.zero_mul, ↓reduceIte, Nat.reduceEqDiff, Nat.reduceLT, Nat.reduceAdd, Nat.reduceLeDiff, reduceCtorEq, goInt, pairs, isConst, TI.isAgg, splice, boxS, Edp, dpv, Nat.beq_eq, ZV.val, List.any_cons, List.any_nil, m1, s1, h0, h8, wrap_u8N, q16777216, q65536, q256, g1]
    refine bs_one fun b2 hb2 => ?_
    have kb2 : Kept (τ1.set w (.cells [v1, .nilIface] true 0)) [] ((τ1.set w (.cells [v1, .nilIface] true 0)).set b2 (.cells (u8s [N / 256 % 256]) true 1)) [b2] := Kept.new' hb2
    have cb2 := (kb2.at g1 (by simp) (by simp)).1
    have hs2 := BS.kept hz1 kb2 (fun _ _ h => by cases h)
    have hn2 : b2 ∉ gp1 := fun hm => by rcases BS.live hz1 hm with ⟨cs, hg⟩; rw [hb2] at hg; cases hg
    have hnw2 : w ≠ b2 := by rintro rfl; rw [hb2] at g1; cases g1
    simp (disch := first | assumption | simp) only [↓sbD, sbU, tyB, Nat.reduceMul, Nat.reduceSub, Int.reduceEq, Int.reduceLT, Int.reduceLE, Int.reduceNe, Nat.reduceBneDiff, Nat.reduceBEq, decide_false, gt_iff_lt, Bool.or_self, Bool.false_eq_true, Nat.mul_one, Nat.one_mul, Nat.zero_mul, ↓reduceIte, Nat.reduceEqDiff, Nat.reduceLT, Nat.reduceAdd, Nat.reduceLeDiff, reduceCtorEq, goInt, pairs, isConst, TI.isAgg, splice, boxS, Edp, dpv, Nat.beq_eq, ZV.val, List.any_cons, List.any_nil]
    refine app_sl hs2 (l := [N / 256 % 256]) (AHeap.get_set_same _ _ _) (by intro m hm; simp only [List.mem_cons, List.not_mem_nil, or_false] at hm; omega) rfl (by simp only [size_app, str_size, List.length_cons, List.length_nil]; omega) fun τ2 v2 gp2 k2 hb'2 vc2 oc2 => ?_
    obtain ⟨c2, n2⟩ := k2.at cb2 (by simp) n1
    simp (disch := first | assumption | simp) only [↓sbD, sbU, tyB, Nat.reduceMul, Nat.reduceSub, Int.reduceEq, Int.reduceLT, Int.reduceLE, Int.reduceNe, Nat.reduceBneDiff, Nat.reduceBEq, decide_false, gt_iff_lt, Bool.or_self, Bool.false_eq_true, Nat.mul_one, Nat.one_mul, Nat.zero_mul, ↓reduceIte, Nat.reduceEqDiff, Nat.reduceLT, Nat.reduceAdd, Nat.reduceLeDiff, reduceCtorEq, goInt, pairs, isConst, TI.isAgg, splice, boxS, Edp, dpv, Nat.beq_eq, ZV.val, List.any_cons, List.any_nil, m1, s1, h0, h8, wrap_u8N, q16777216, q65536, q256, c2, vc2, oc2]
    have kk2 : Kept (τ1.set w (.cells [v1, .nilIface] true 0)) (w :: gp1) (τ2.set w (.cells [v2, .nilIface] true 0)) (w :: gp2) := (Kept.trans (Kept.trans ⟨fun c hc _ => kb2.get c hc (by simp), fun c hc => .inl hc⟩ (k2.more (l := [w]))) (Kept.set (by simp)))
    have hz2 := BS.set (w := w) (o := .cells [v2, .nilIface] true 0) hb'2 n2
    have g2 := AHeap.get_set_same τ2 w (.cells [v2, .nilIface] true 0)
    try simp (disch := first | assumption | simp) only [↓sbD, sbU, tyB, Nat.reduceMul, Nat.reduceSub, Int.reduceEq, Int.reduceLT, Int.reduceLE, Int.reduceNe, Nat.reduceBneDiff, Nat.reduceBEq, decide_false, gt_iff_lt, Bool.or_self, Bool.false_eq_true, Nat.mul_one, Nat.one_mul, Nat.zero_mul, ↓reduceIte, Nat.reduceEqDiff, Nat.reduceLT, Nat.reduceAdd, Nat.reduceLeDiff, reduceCtorEq, goInt, pairs, isConst, TI.isAgg, splice, boxS, Edp, dpv, Nat.beq_eq, ZV.val, List.any_cons, List.any_nil, m1, s1, h0, h8, wrap_u8N, q16777216, q65536, q256, g2]
    refine bs_one fun b3 hb3 => ?_
    have kb3 : Kept (τ2.set w (.cells [v2, .nilIface] true 0)) [] ((τ2.set w (.cells [v2, .nilIface] true 0)).set b3 (.cells (u8s [N % 256]) true 1)) [b3] := Kept.new' hb3
    have cb3 := (kb3.at g2 (by simp) (by simp)).1
    have hs3 := BS.kept hz2 kb3 (fun _ _ h => by cases h)
    have hn3 : b3 ∉ gp2 := fun hm => by rcases BS.live hz2 hm with ⟨cs, hg⟩; rw [hb3] at hg; cases hg
    have hnw3 : w ≠ b3 := by rintro rfl; rw [hb3] at g2; cases g2
    simp (disch := first | assumption | simp) only [↓sbD, sbU, tyB, Nat.reduceMul, Nat.reduceSub, Int.reduceEq, Int.reduceLT, Int.reduceLE, Int.reduceNe, Nat.reduceBneDiff, Nat.reduceBEq, decide_false, gt_iff_lt, Bool.or_self, Bool.false_eq_true, Nat.mul_one, Nat.one_mul, Nat.zero_mul, ↓reduceIte, Nat.reduceEqDiff, Nat.reduceLT, Nat.reduceAdd, Nat.reduceLeDiff, reduceCtorEq, goInt, pairs, isConst, TI.isAgg, splice, boxS, Edp, dpv, Nat.beq_eq, ZV.val, List.any_cons, List.any_nil]
    refine app_sl hs3 (l := [N % 256]) (AHeap.get_set_same _ _ _) (by intro m hm; simp only [List.mem_cons, List.not_mem_nil, or_false] at hm; omega) rfl (by simp only [size_app, str_size, List.length_cons, List.length_nil]; omega) fun τ3 v3 gp3 k3 hb'3 vc3 oc3 => ?_
    obtain ⟨c3, n3⟩ := k3.at cb3 (by simp) n2
    simp (disch := first | assumption | simp) only [↓sbD, sbU, tyB, Nat.reduceMul, Nat.reduceSub, Int.reduceEq, Int.reduceLT, Int.reduceLE, Int.reduceNe, Nat.reduceBneDiff, Nat.reduceBEq, decide_false, gt_iff_lt, Bool.or_self, Bool.false_eq_true, Nat.mul_one, Nat.one_mul, Nat.zero_mul, ↓reduceIte, Nat.reduceEqDiff, Nat.reduceLT, Nat.reduceAdd, Nat.reduceLeDiff, reduceCtorEq, goInt, pairs, isConst, TI.isAgg, splice, boxS, Edp, dpv, Nat.beq_eq, ZV.val, List.any_cons, List.any_nil, m1, s1, h0, h8, wrap_u8N, q16777216, q65536, q256, c3, vc3, oc3]
    have kk3 : Kept (τ2.set w (.cells [v2, .nilIface] true 0)) (w :: gp2) (τ3.set w (.cells [v3, .nilIface] true 0)) (w :: gp3) := (Kept.trans (Kept.trans ⟨fun c hc _ => kb3.get c hc (by simp), fun c hc => .inl hc⟩ (k3.more (l := [w]))) (Kept.set (by simp)))
    have hz3 := BS.set (w := w) (o := .cells [v3, .nilIface] true 0) hb'3 n3
    have g3 := AHeap.get_set_same τ3 w (.cells [v3, .nilIface] true 0)
    refine downS_here (h _ _ ((kk1.trans kk2).trans kk3) (hout _ _ ⟨v3, gp3, g3, ?_, rfl, n3⟩))
    have e : a ++ numB N 4 = a ++ str [N / 16777216 % 256, N / 65536 % 256] ++ str [N / 256 % 256] ++ str [N % 256] := by simp only [numB]; simp [app_assoc, str_app]
    rw [e]; exact hz3
end Go.Proofs.YtccimdfmddomaaaDoor.AbsA
