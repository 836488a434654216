/-
  A part of a law's proof.
-/
import Derived.Test.YtccimdfmddomaaaDoorAFrqf
namespace Go.Proofs.YtccimdfmddomaaaDoor.AbsA
open Go AbsYtccimdfmddomaaaDoor Abs
set_option maxRecDepth 100000
set_option maxHeartbeats 2000000
set_option linter.unusedSimpArgs false
set_option linter.unusedVariables false
attribute [local irreducible] afterS afterOpS opSK OpsS TrS CodeS condS condW thenS thenQ guardS guardTS outS drawS trSK consS
section
variable {σ : AHeap} {Q : Value → AHeap → Prop} {x : Nat} {most : Int} {w : ByteArray}
def fltO : Option (Nat × Nat × Nat) → Value
  | none => flt 0 0 0
  | some (k, r, a) => flt k r a
theorem Kept.le {σ σ' : AHeap} {fp : List Nat} (k : Kept σ [] σ' fp) : Le σ σ' := fun b hb => k.get b hb (by simp)
theorem specAll {s : ByteArray} {l : List Fr} {e : Option (Nat × Nat × Nat)} {t : ByteArray} (hs : s.size ≤ 9000) (ha : AllF most s l e t) (h : ∀ v, DL frC 2 v l → Q (.tuple #[v, fltO e, .int .i64 (t.size : Int)]) σ) : CallS E B 26 [.string s, .int .i64 most] σ Q := by
  have hlen := ha.len
  refine call26 (by simp) ?_
  simp only [strip, bodyOf, Tryd.f26, getD_body, keepN, bareOp_mk, lessOp_mk, lapp_cons, lapp_nil, List.map_cons, List.map_nil, array_toList, ↓reduceIte, Nat.reduceEqDiff, Bool.false_eq_true]
  simp (disch := first | assumption | simp) only [↓sbD, sbU, tyB, Nat.reduceMul, Nat.reduceSub, Int.reduceEq, Int.reduceLT, Int.reduceLE, Int.reduceNe, Nat.reduceBneDiff, Nat.reduceBEq, decide_false, gt_iff_lt, Bool.or_self, Bool.false_eq_true, Nat.mul_one, Nat.one_mul, Nat.zero_mul, ↓reduceIte, Nat.reduceEqDiff, Nat.reduceLT, Nat.reduceAdd, Nat.reduceLeDiff, reduceCtorEq, goInt, pairs, isConst, TI.isAgg, splice, boxS, Edp, dpv, Nat.beq_eq, ZV.val, List.any_cons, List.any_nil, AS_new, zeFlt]
  intro c hc
  refine S_loop (fun m f σ' => ∃ (l1 l2 : List Fr) (s' : ByteArray) (v : Value) (fp : List Nat), m = l2.length ∧ l = l1 ++ l2 ∧ f 0 = .string s' ∧ f 7 = v ∧ DG frC 2 σ' v l1 fp ∧ c ∉ fp ∧ AllF most s' l2 e t ∧ s'.size ≤ 9000 ∧ σ'.get c = .cells [.int .i64 0, .int .i64 0, .int .i64 0] true 0 ∧ Kept σ [] σ' (c :: fp)) l.length (Le.refl _) ⟨[], l, s, _, [], rfl, rfl, by simp (disch := first | assumption | simp) only [↓sbD, sbU, tyB, Nat.reduceMul, Nat.reduceSub, Int.reduceEq, Int.reduceLT, Int.reduceLE, Int.reduceNe, Nat.reduceBneDiff, Nat.reduceBEq, decide_false, gt_iff_lt, Bool.or_self, Bool.false_eq_true, Nat.mul_one, Nat.one_mul, Nat.zero_mul, ↓reduceIte, Nat.reduceEqDiff, Nat.reduceLT, Nat.reduceAdd, Nat.reduceLeDiff, reduceCtorEq, goInt, pairs, isConst, TI.isAgg, splice, boxS, Edp, dpv, Nat.beq_eq, ZV.val, List.any_cons, List.any_nil], rfl, by simp (disch := first | assumption | simp) only [↓sbD, sbU, tyB, Nat.reduceMul, Nat.reduceSub, Int.reduceEq, Int.reduceLT, Int.reduceLE, Int.reduceNe, Nat.reduceBneDiff, Nat.reduceBEq, decide_false, gt_iff_lt, Bool.or_self, Bool.false_eq_true, Nat.mul_one, Nat.one_mul, Nat.zero_mul, ↓reduceIte, Nat.reduceEqDiff, Nat.reduceLT, Nat.reduceAdd, Nat.reduceLeDiff, reduceCtorEq, goInt, pairs, isConst, TI.isAgg, splice, boxS, Edp, dpv, Nat.beq_eq, ZV.val, List.any_cons, List.any_nil]; exact DG.nil, by simp, ha, hs, AHeap.get_set_same _ _ _, Kept.new' hc⟩ ?_
  rintro m f σ' ⟨l1, l2, s', v, fp, hm, hl, f0, f7, hv, hcf, ha', hs', gc, hk⟩ hf
  have f1 := hf 1 (by decide) (notMem_wr (by kernel_rfl))
  have f5 := hf 5 (by decide) (notMem_wr (by kernel_rfl))
  simp (disch := first | assumption | simp) only [↓sbD, sbU, tyB, Nat.reduceMul, Nat.reduceSub, Int.reduceEq, Int.reduceLT, Int.reduceLE, Int.reduceNe, Nat.reduceBneDiff, Nat.reduceBEq, decide_false, gt_iff_lt, Bool.or_self, Bool.false_eq_true, Nat.mul_one, Nat.one_mul, Nat.zero_mul, ↓reduceIte, Nat.reduceEqDiff, Nat.reduceLT, Nat.reduceAdd, Nat.reduceLeDiff, reduceCtorEq, goInt, pairs, isConst, TI.isAgg, splice, boxS, Edp, dpv, Nat.beq_eq, ZV.val, List.any_cons, List.any_nil] at f1 f5
  clear hf
  have hll : l1.length + l2.length = l.length := by rw [hl, List.length_append]
  have kc : ∀ o, Kept σ [] (AHeap.set σ' c o) (c :: fp) := fun o => hk.trans (Kept.set (by simp))
  by_cases h0 : s'.size = 0
  · have h0' : ¬ (0 : Int) < (s'.size : Int) := by omega
    obtain ⟨rfl, rfl, rfl⟩ := ha'.det (.nil h0)
    rw [List.append_nil] at hl
    subst hl
    simp (disch := first | assumption | simp) only [↓sbD, sbU, tyB, Nat.reduceMul, Nat.reduceSub, Int.reduceEq, Int.reduceLT, Int.reduceLE, Int.reduceNe, Nat.reduceBneDiff, Nat.reduceBEq, decide_false, gt_iff_lt, Bool.or_self, Bool.false_eq_true, Nat.mul_one, Nat.one_mul, Nat.zero_mul, ↓reduceIte, Nat.reduceEqDiff, Nat.reduceLT, Nat.reduceAdd, Nat.reduceLeDiff, reduceCtorEq, goInt, pairs, isConst, TI.isAgg, splice, boxS, Edp, dpv, Nat.beq_eq, ZV.val, List.any_cons, List.any_nil, f0, f1, f5, f7, h0', gc, res_cellc, resC_some]
    have hh := h _ hv.dl
    rw [h0] at hh
    exact downS_le (kc _).le hh
  · have h0' : (0 : Int) < (s'.size : Int) := by omega
    have hidx : aindex E 9 (.string s') (.int .i64 0) = some (.int .u8 ((bt s' 0 : Nat) : Int)) := idx_str (i := 0) (by omega)
    have hbl := bt_lt s' 0
    have hwr : IntKind.i64.wrap ((bt s' 0 : Nat) : Int) = ((bt s' 0 : Nat) : Int) := wrap64 ⟨by omega, by omega⟩
    simp (disch := first | assumption | simp) only [↓sbD, sbU, tyB, Nat.reduceMul, Nat.reduceSub, Int.reduceEq, Int.reduceLT, Int.reduceLE, Int.reduceNe, Nat.reduceBneDiff, Nat.reduceBEq, decide_false, gt_iff_lt, Bool.or_self, Bool.false_eq_true, Nat.mul_one, Nat.one_mul, Nat.zero_mul, ↓reduceIte, Nat.reduceEqDiff, Nat.reduceLT, Nat.reduceAdd, Nat.reduceLeDiff, reduceCtorEq, goInt, pairs, isConst, TI.isAgg, splice, boxS, Edp, dpv, Nat.beq_eq, ZV.val, List.any_cons, List.any_nil, f0, f1, f5, f7, h0', hidx, hwr]
    refine specRMay ?_
    rw [mayN_I]
    cases hm' : mayN (bt s' 0) with
    | false =>
      have hn : nextF most s' = .bad 2 129 0 := by unfold nextF; rw [if_neg (by rw [hm']; decide)]
      obtain ⟨rfl, rfl, rfl⟩ := ha'.det (.bad h0 hn)
      rw [List.append_nil] at hl
      subst hl
      simp (disch := first | assumption | simp) only [↓sbD, sbU, tyB, Nat.reduceMul, Nat.reduceSub, Int.reduceEq, Int.reduceLT, Int.reduceLE, Int.reduceNe, Nat.reduceBneDiff, Nat.reduceBEq, decide_false, gt_iff_lt, Bool.or_self, Bool.false_eq_true, Nat.mul_one, Nat.one_mul, Nat.zero_mul, ↓reduceIte, Nat.reduceEqDiff, Nat.reduceLT, Nat.reduceAdd, Nat.reduceLeDiff, reduceCtorEq, goInt, pairs, isConst, TI.isAgg, splice, boxS, Edp, dpv, Nat.beq_eq, ZV.val, List.any_cons, List.any_nil, not_bool, f0, f1, f5, f7, gc, res_cellc, resC_some]
      exact downS_le (kc _).le (h _ hv.dl)
    | true =>
      have hsl : ∀ τ : AHeap, aslice E τ 9 (.string s') (some (.int .i64 1)) none none = some (.string (s'.extract 1 s'.size)) := fun τ => slice_from (lo := 1) ty9 (by omega)
      have hz : (s'.extract 1 s'.size).size ≤ 10000 := by rw [ByteArray.size_extract]; omega
      simp (disch := first | assumption | simp) only [↓sbD, sbU, tyB, Nat.reduceMul, Nat.reduceSub, Int.reduceEq, Int.reduceLT, Int.reduceLE, Int.reduceNe, Nat.reduceBneDiff, Nat.reduceBEq, decide_false, gt_iff_lt, Bool.or_self, Bool.false_eq_true, Nat.mul_one, Nat.one_mul, Nat.zero_mul, ↓reduceIte, Nat.reduceEqDiff, Nat.reduceLT, Nat.reduceAdd, Nat.reduceLeDiff, reduceCtorEq, goInt, pairs, isConst, TI.isAgg, splice, boxS, Edp, dpv, Nat.beq_eq, ZV.val, List.any_cons, List.any_nil, not_bool, f0, f1, f5, f7, hsl, Option.map_some, Option.map_none]
      have hk4 := takeF_k (s'.extract 1 s'.size) 4 0 0 (by omega)
      refine specRTake hz (fun n k ht => ?_) fun k q ht => ?_
      · rw [ht] at hk4
        have hk4 : k ≤ (s'.extract 1 s'.size).size := hk4
        have hnn := takeF_n ht
        have w1 : IntKind.i64.wrap (1 + (k : Int)) = ((1 + k : Nat) : Int) := by rw [wrap64 ⟨by omega, by omega⟩]; omega
        have w2 : IntKind.i64.wrap (((1 + k : Nat) : Int) + (n : Int)) = ((1 + k + n : Nat) : Int) := by rw [wrap64 ⟨by omega, by omega⟩]; omega
        by_cases hlg : most < ((1 + k + n : Nat) : Int)
        · have hn : nextF most s' = .bad 4 149 0 := by unfold nextF; rw [if_pos hm', ht]; simp only [if_pos hlg]
          obtain ⟨rfl, rfl, rfl⟩ := ha'.det (.bad h0 hn)
          rw [List.append_nil] at hl
          subst hl
          simp (disch := first | assumption | simp) only [↓sbD, sbU, tyB, Nat.reduceMul, Nat.reduceSub, Int.reduceEq, Int.reduceLT, Int.reduceLE, Int.reduceNe, Nat.reduceBneDiff, Nat.reduceBEq, decide_false, gt_iff_lt, Bool.or_self, Bool.false_eq_true, Nat.mul_one, Nat.one_mul, Nat.zero_mul, ↓reduceIte, Nat.reduceEqDiff, Nat.reduceLT, Nat.reduceAdd, Nat.reduceLeDiff, reduceCtorEq, goInt, pairs, isConst, TI.isAgg, splice, boxS, Edp, dpv, Nat.beq_eq, ZV.val, List.any_cons, List.any_nil, not_bool, extract_4, f0, f1, f5, f7, gc, w1, w2, hlg, res_cellc, resC_some]
          exact downS_le (kc _).le (h _ hv.dl)
        by_cases hsh : s'.size < 1 + k + n
        · have hn : nextF most s' = .wait := by unfold nextF; rw [if_pos hm', ht]; simp only [if_neg hlg, if_pos hsh]
          have hsh' : (s'.size : Int) < ((1 + k + n : Nat) : Int) := by omega
          obtain ⟨rfl, rfl, rfl⟩ := ha'.det (.wait h0 hn)
          rw [List.append_nil] at hl
          subst hl
          simp (disch := first | assumption | simp) only [↓sbD, sbU, tyB, Nat.reduceMul, Nat.reduceSub, Int.reduceEq, Int.reduceLT, Int.reduceLE, Int.reduceNe, Nat.reduceBneDiff, Nat.reduceBEq, decide_false, gt_iff_lt, Bool.or_self, Bool.false_eq_true, Nat.mul_one, Nat.one_mul, Nat.zero_mul, ↓reduceIte, Nat.reduceEqDiff, Nat.reduceLT, Nat.reduceAdd, Nat.reduceLeDiff, reduceCtorEq, goInt, pairs, isConst, TI.isAgg, splice, boxS, Edp, dpv, Nat.beq_eq, ZV.val, List.any_cons, List.any_nil, not_bool, extract_4, f0, f1, f5, f7, gc, w1, w2, hlg, hsh', res_cellc, resC_some]
          exact downS_le (kc _).le (h _ hv.dl)
        · have hn : nextF most s' = .got (bt s' 0) (s'.extract (1 + k) (1 + k + n)) (s'.extract (1 + k + n) s'.size) := by unfold nextF; rw [if_pos hm', ht]; simp only [if_neg hlg, if_neg hsh]
          have hsh' : ¬ (s'.size : Int) < ((1 + k + n : Nat) : Int) := by omega
          have sl1 : ∀ τ : AHeap, aslice E τ 9 (.string s') (some (.int .i64 ((1 + k : Nat) : Int))) (some (.int .i64 ((1 + k + n : Nat) : Int))) none = some (.string (s'.extract (1 + k) (1 + k + n))) := fun τ => slice_str ty9 (by omega) (by omega)
          have sl2 : ∀ τ : AHeap, aslice E τ 9 (.string s') (some (.int .i64 ((1 + k + n : Nat) : Int))) none none = some (.string (s'.extract (1 + k + n) s'.size)) := fun τ => slice_from ty9 (by omega)
          cases ha' with
          | nil h1 => exact absurd h1 h0
          | wait _ h1 => rw [hn] at h1; cases h1
          | bad _ h1 => rw [hn] at h1; cases h1
          | @got _ b' t' _ f' l3 _ _ h1 hr =>
            rw [hn] at h1
            injection h1 with e1 e2 e3
            subst e1; subst e2; subst e3
            have hgt := nextF_got hn
            simp (disch := first | assumption | simp) only [↓sbD, sbU, tyB, Nat.reduceMul, Nat.reduceSub, Int.reduceEq, Int.reduceLT, Int.reduceLE, Int.reduceNe, Nat.reduceBneDiff, Nat.reduceBEq, decide_false, gt_iff_lt, Bool.or_self, Bool.false_eq_true, Nat.mul_one, Nat.one_mul, Nat.zero_mul, ↓reduceIte, Nat.reduceEqDiff, Nat.reduceLT, Nat.reduceAdd, Nat.reduceLeDiff, reduceCtorEq, goInt, pairs, isConst, TI.isAgg, splice, boxS, Edp, dpv, Nat.beq_eq, ZV.val, List.any_cons, List.any_nil, not_bool, extract_4, f0, f1, f5, f7, gc, w1, w2, hlg, hsh', hidx, hwr, sl1, Option.map_some, Option.map_none]
            refine app_fr (xs := [(((bt s' 0 : Nat) : Int), s'.extract (1 + k) (1 + k + n))]) hv (.inr ⟨1, rfl⟩) (by simp only [List.length_cons, List.length_nil]; omega) fun σ4 v4 fp4 k4 g4 => ?_
            have i4 := k4.at gc (by simp) hcf
            simp (disch := first | assumption | simp) only [↓sbD, sbU, tyB, Nat.reduceMul, Nat.reduceSub, Int.reduceEq, Int.reduceLT, Int.reduceLE, Int.reduceNe, Nat.reduceBneDiff, Nat.reduceBEq, decide_false, gt_iff_lt, Bool.or_self, Bool.false_eq_true, Nat.mul_one, Nat.one_mul, Nat.zero_mul, ↓reduceIte, Nat.reduceEqDiff, Nat.reduceLT, Nat.reduceAdd, Nat.reduceLeDiff, reduceCtorEq, goInt, pairs, isConst, TI.isAgg, splice, boxS, Edp, dpv, Nat.beq_eq, ZV.val, List.any_cons, List.any_nil, f0, w1, w2, sl2, Option.map_some, Option.map_none]
            refine ⟨_, l3.length, _, rfl, by rw [hm, List.length_cons]; omega, Le.refl _, l1 ++ [(((bt s' 0 : Nat) : Int), s'.extract (1 + k) (1 + k + n))], l3, _, _, fp4, rfl, by rw [hl]; simp, ?_, rfl, ?_, i4.2, hr, by omega, i4.1, ?_⟩
            · simp (disch := first | assumption | simp) only [↓sbD, sbU, tyB, Nat.reduceMul, Nat.reduceSub, Int.reduceEq, Int.reduceLT, Int.reduceLE, Int.reduceNe, Nat.reduceBneDiff, Nat.reduceBEq, decide_false, gt_iff_lt, Bool.or_self, Bool.false_eq_true, Nat.mul_one, Nat.one_mul, Nat.zero_mul, ↓reduceIte, Nat.reduceEqDiff, Nat.reduceLT, Nat.reduceAdd, Nat.reduceLeDiff, reduceCtorEq, goInt, pairs, isConst, TI.isAgg, splice, boxS, Edp, dpv, Nat.beq_eq, ZV.val, List.any_cons, List.any_nil]
            · simp (disch := first | assumption | simp) only [↓sbD, sbU, tyB, Nat.reduceMul, Nat.reduceSub, Int.reduceEq, Int.reduceLT, Int.reduceLE, Int.reduceNe, Nat.reduceBneDiff, Nat.reduceBEq, decide_false, gt_iff_lt, Bool.or_self, Bool.false_eq_true, Nat.mul_one, Nat.one_mul, Nat.zero_mul, ↓reduceIte, Nat.reduceEqDiff, Nat.reduceLT, Nat.reduceAdd, Nat.reduceLeDiff, reduceCtorEq, goInt, pairs, isConst, TI.isAgg, splice, boxS, Edp, dpv, Nat.beq_eq, ZV.val, List.any_cons, List.any_nil]
              exact g4
            · exact hk.trans (k4.wid (gp := c :: fp) (gp' := c :: fp4) (fun b hb => by simp [hb]) (fun b hb => by simp only [List.mem_cons] at hb ⊢; rcases hb with hb | hb <;> simp [hb]))
      · rw [ht] at hk4
        have hk4 : q ≤ (s'.extract 1 s'.size).size + 3 := hk4
        cases k with
        | zero =>
          have hn : nextF most s' = .wait := by unfold nextF; rw [if_pos hm', ht]
          obtain ⟨rfl, rfl, rfl⟩ := ha'.det (.wait h0 hn)
          rw [List.append_nil] at hl
          subst hl
          have e1 : ((0 : Nat) : Int) + 1 = 1 := rfl
          simp (disch := first | assumption | simp) only [↓sbD, sbU, tyB, Nat.reduceMul, Nat.reduceSub, Int.reduceEq, Int.reduceLT, Int.reduceLE, Int.reduceNe, Nat.reduceBneDiff, Nat.reduceBEq, decide_false, gt_iff_lt, Bool.or_self, Bool.false_eq_true, Nat.mul_one, Nat.one_mul, Nat.zero_mul, ↓reduceIte, Nat.reduceEqDiff, Nat.reduceLT, Nat.reduceAdd, Nat.reduceLeDiff, reduceCtorEq, goInt, pairs, isConst, TI.isAgg, splice, boxS, Edp, dpv, Nat.beq_eq, ZV.val, List.any_cons, List.any_nil, not_bool, extract_4, e1, f0, f1, f5, f7, gc, res_cellc, resC_some]
          exact downS_le (kc _).le (h _ hv.dl)
        | succ k =>
          have hn : nextF most s' = .bad (k + 2) 129 (1 + q) := by unfold nextF; rw [if_pos hm', ht]
          obtain ⟨rfl, rfl, rfl⟩ := ha'.det (.bad h0 hn)
          rw [List.append_nil] at hl
          subst hl
          have n1 : ¬ (((k + 1 : Nat) : Int) + 1 = 1) := by omega
          have n0 : ¬ (((k + 1 : Nat) : Int) + 1 = 0) := by omega
          have w3 : IntKind.i64.wrap (1 + (q : Int)) = ((1 + q : Nat) : Int) := by rw [wrap64 ⟨by omega, by omega⟩]; omega
          simp (disch := first | assumption | simp) only [↓sbD, sbU, tyB, Nat.reduceMul, Nat.reduceSub, Int.reduceEq, Int.reduceLT, Int.reduceLE, Int.reduceNe, Nat.reduceBneDiff, Nat.reduceBEq, decide_false, gt_iff_lt, Bool.or_self, Bool.false_eq_true, Nat.mul_one, Nat.one_mul, Nat.zero_mul, ↓reduceIte, Nat.reduceEqDiff, Nat.reduceLT, Nat.reduceAdd, Nat.reduceLeDiff, reduceCtorEq, goInt, pairs, isConst, TI.isAgg, splice, boxS, Edp, dpv, Nat.beq_eq, ZV.val, List.any_cons, List.any_nil, not_bool, extract_4, n1, n0, w3, f0, f1, f5, f7, gc, res_cellc, resC_some]
          exact downS_le (kc _).le (h _ hv.dl)
theorem specFSame {v u : Value} {l : List Fr} (ha : DL frC 2 v l) (hb : DL frC 2 u l) (hl : l.length ≤ 100000) (h : Q (.bool true) σ) : CallS E B 27 [v, u] σ Q := by
  have la := DLf.len ha
  have lb := DLf.len hb
  refine call27 (by simp) ?_
  simp only [strip, bodyOf, Tryd.f27, getD_body, keepN, bareOp_mk, lessOp_mk, lapp_cons, lapp_nil, List.map_cons, List.map_nil, array_toList, ↓reduceIte, Nat.reduceEqDiff, Bool.false_eq_true]
  simp (disch := first | assumption | simp) only [↓sbD, sbU, tyB, Nat.reduceMul, Nat.reduceSub, Int.reduceEq, Int.reduceLT, Int.reduceLE, Int.reduceNe, Nat.reduceBneDiff, Nat.reduceBEq, decide_false, gt_iff_lt, Bool.or_self, Bool.false_eq_true, Nat.mul_one, Nat.one_mul, Nat.zero_mul, ↓reduceIte, Nat.reduceEqDiff, Nat.reduceLT, Nat.reduceAdd, Nat.reduceLeDiff, reduceCtorEq, goInt, pairs, isConst, TI.isAgg, splice, boxS, Edp, dpv, Nat.beq_eq, ZV.val, List.any_cons, List.any_nil, la, lb]
  refine S_loop (fun m f σ' => σ' = σ ∧ ∃ i : Nat, m + i = l.length ∧ f 5 = .int .i64 i) l.length (Le.refl _) ⟨rfl, 0, rfl, by simp (disch := first | assumption | simp) only [↓sbD, sbU, tyB, Nat.reduceMul, Nat.reduceSub, Int.reduceEq, Int.reduceLT, Int.reduceLE, Int.reduceNe, Nat.reduceBneDiff, Nat.reduceBEq, decide_false, gt_iff_lt, Bool.or_self, Bool.false_eq_true, Nat.mul_one, Nat.one_mul, Nat.zero_mul, ↓reduceIte, Nat.reduceEqDiff, Nat.reduceLT, Nat.reduceAdd, Nat.reduceLeDiff, reduceCtorEq, goInt, pairs, isConst, TI.isAgg, splice, boxS, Edp, dpv, Nat.beq_eq, ZV.val, List.any_cons, List.any_nil]; rfl⟩ ?_
  rintro m f σ' ⟨rfl, i, hm, f5⟩ hf
  have f0 := hf 0 (by decide) (notMem_wr (by kernel_rfl))
  have f1 := hf 1 (by decide) (notMem_wr (by kernel_rfl))
  simp (disch := first | assumption | simp) only [↓sbD, sbU, tyB, Nat.reduceMul, Nat.reduceSub, Int.reduceEq, Int.reduceLT, Int.reduceLE, Int.reduceNe, Nat.reduceBneDiff, Nat.reduceBEq, decide_false, gt_iff_lt, Bool.or_self, Bool.false_eq_true, Nat.mul_one, Nat.one_mul, Nat.zero_mul, ↓reduceIte, Nat.reduceEqDiff, Nat.reduceLT, Nat.reduceAdd, Nat.reduceLeDiff, reduceCtorEq, goInt, pairs, isConst, TI.isAgg, splice, boxS, Edp, dpv, Nat.beq_eq, ZV.val, List.any_cons, List.any_nil] at f0 f1
  clear hf
  by_cases hi : (i : Int) < (l.length : Int)
  · have hi' : i < l.length := by omega
    have a1 := DLf.at ha hi'
    have b1 := DLf.at hb hi'
    have hw := wrap_suc (n := i) (by omega)
    generalize l[i] = y at a1 b1
    have hac : frC y = [.int .i64 y.1, .string y.2] := rfl
    simp (disch := first | assumption | simp) only [↓sbD, sbU, tyB, Nat.reduceMul, Nat.reduceSub, Int.reduceEq, Int.reduceLT, Int.reduceLE, Int.reduceNe, Nat.reduceBneDiff, Nat.reduceBEq, decide_false, gt_iff_lt, Bool.or_self, Bool.false_eq_true, Nat.mul_one, Nat.one_mul, Nat.zero_mul, ↓reduceIte, Nat.reduceEqDiff, Nat.reduceLT, Nat.reduceAdd, Nat.reduceLeDiff, reduceCtorEq, goInt, pairs, isConst, TI.isAgg, splice, boxS, Edp, dpv, Nat.beq_eq, ZV.val, List.any_cons, List.any_nil, f0, f1, f5, la, lb, hi, a1, b1, hac, frNe, decide_true, not_bool, hw]
    exact ⟨_, m - 1, _, rfl, by omega, Le.refl _, rfl, i + 1, by omega, by simp (disch := first | assumption | simp) only [↓sbD, sbU, tyB, Nat.reduceMul, Nat.reduceSub, Int.reduceEq, Int.reduceLT, Int.reduceLE, Int.reduceNe, Nat.reduceBneDiff, Nat.reduceBEq, decide_false, gt_iff_lt, Bool.or_self, Bool.false_eq_true, Nat.mul_one, Nat.one_mul, Nat.zero_mul, ↓reduceIte, Nat.reduceEqDiff, Nat.reduceLT, Nat.reduceAdd, Nat.reduceLeDiff, reduceCtorEq, goInt, pairs, isConst, TI.isAgg, splice, boxS, Edp, dpv, Nat.beq_eq, ZV.val, List.any_cons, List.any_nil]⟩
  · simp (disch := first | assumption | simp) only [↓sbD, sbU, tyB, Nat.reduceMul, Nat.reduceSub, Int.reduceEq, Int.reduceLT, Int.reduceLE, Int.reduceNe, Nat.reduceBneDiff, Nat.reduceBEq, decide_false, gt_iff_lt, Bool.or_self, Bool.false_eq_true, Nat.mul_one, Nat.one_mul, Nat.zero_mul, ↓reduceIte, Nat.reduceEqDiff, Nat.reduceLT, Nat.reduceAdd, Nat.reduceLeDiff, reduceCtorEq, goInt, pairs, isConst, TI.isAgg, splice, boxS, Edp, dpv, Nat.beq_eq, ZV.val, List.any_cons, List.any_nil, f0, f1, f5, la, lb, hi]
    exact downS_here h
end
end Go.Proofs.YtccimdfmddomaaaDoor.AbsA
