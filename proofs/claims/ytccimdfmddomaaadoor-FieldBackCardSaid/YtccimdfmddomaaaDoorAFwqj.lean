/-
  A part of a law's proof.
-/
import Derived.Test.YtccimdfmddomaaaDoorABaqc
namespace Go.Proofs.YtccimdfmddomaaaDoor.AbsA
open Go AbsYtccimdfmddomaaaDoor Abs
set_option maxRecDepth 100000
set_option maxHeartbeats 4000000
set_option linter.unusedSimpArgs false
set_option linter.unusedVariables false
/-- a writer behind some fields -/
def WSt (σ : AHeap) (w : Nat) (l : List Act) (i : Nat) : Prop := ∃ b fp, b.size ≤ 300 * i ∧ ((catW (l.take i) = some b ∧ IsW σ w b .nilIface fp) ∨ ∃ k q d z, d ≤ 2 ∧ ErN d (fv 129 (q : Int) z) k ∧ IsW σ w b (fv 129 (q : Int) z) fp)
theorem law9 {H : AHeap} {vs : List Value} (hB0 : Ext B H) (h : ArgsTyped E H 8 [66, 67] vs) : CallW E 8 vs H fun r _ => r = .bool true := by
  obtain ⟨v, vs', rfl, h1, h2⟩ := h.cons'
  obtain ⟨u, vs', rfl, h2, h3⟩ := h2.cons'
  obtain rfl := h3.nil'
  obtain ⟨l, hl⟩ := typed_acts h1
  replace h2 := h2.1
  obtain ⟨cut, rfl, hcut⟩ : ∃ n : Nat, u = .int .u16 (n : Int) ∧ n < 65536 := by
    obtain ⟨xs, g1, rfl⟩ := h2.one ty67 rfl
    simp only [Typed, ty67] at g1
    obtain ⟨n, rfl, g2⟩ := g1
    have g3 : 0 ≤ n ∧ n ≤ 65535 := by
      simp only [Lit.wf, decide_eq_true_eq, Bool.and_eq_true] at g2
      simpa [IntKind.min, IntKind.max, IntKind.signed, IntKind.bits] using g2
    exact ⟨n.toNat, by show Value.int .u16 n = _; congr 1; omega, by omega⟩
  clear h1 h2 h3
  have key : CallS E B 8 [v, .int .u16 (cut : Int)] .empty fun r _ => r = .bool true := by
    refine call8 (by simp) ?_
    simp only [strip, bodyOf, Tryd.f8, getD_body, keepN, bareOp_mk, lessOp_mk, lapp_cons, lapp_nil, List.map_cons, List.map_nil, array_toList, ↓reduceIte, Nat.reduceEqDiff, Bool.false_eq_true]
    simp (disch := first | assumption | simp) only [↓sbD, sbU, tyB, Nat.reduceMul, Nat.reduceSub, Int.reduceEq, Int.reduceLT, Int.reduceLE, Int.reduceNe, Nat.reduceBneDiff, Nat.reduceBEq, decide_false, gt_iff_lt, Bool.or_self, Bool.false_eq_true, Nat.mul_one, Nat.one_mul, Nat.zero_mul, ↓reduceIte, Nat.reduceEqDiff, Nat.reduceLT, Nat.reduceAdd, Nat.reduceLeDiff, reduceCtorEq, goInt, pairs, isConst, TI.isAgg, splice, boxS, Edp, dpv, Nat.beq_eq, ZV.val, List.any_cons, List.any_nil]
    refine specFew hl fun few hfew => ?_
    cases few with
    | false =>
      simp (disch := first | assumption | simp) only [↓sbD, sbU, tyB, Nat.reduceMul, Nat.reduceSub, Int.reduceEq, Int.reduceLT, Int.reduceLE, Int.reduceNe, Nat.reduceBneDiff, Nat.reduceBEq, decide_false, gt_iff_lt, Bool.or_self, Bool.false_eq_true, Nat.mul_one, Nat.one_mul, Nat.zero_mul, ↓reduceIte, Nat.reduceEqDiff, Nat.reduceLT, Nat.reduceAdd, Nat.reduceLeDiff, reduceCtorEq, goInt, pairs, isConst, TI.isAgg, splice, boxS, Edp, dpv, Nat.beq_eq, ZV.val, List.any_cons, List.any_nil, not_bool, Bool.not_false]
      refine specS33 ?_
      simp (disch := first | assumption | simp) only [↓sbD, sbU, tyB, Nat.reduceMul, Nat.reduceSub, Int.reduceEq, Int.reduceLT, Int.reduceLE, Int.reduceNe, Nat.reduceBneDiff, Nat.reduceBEq, decide_false, gt_iff_lt, Bool.or_self, Bool.false_eq_true, Nat.mul_one, Nat.one_mul, Nat.zero_mul, ↓reduceIte, Nat.reduceEqDiff, Nat.reduceLT, Nat.reduceAdd, Nat.reduceLeDiff, reduceCtorEq, goInt, pairs, isConst, TI.isAgg, splice, boxS, Edp, dpv, Nat.beq_eq, ZV.val, List.any_cons, List.any_nil]
      exact downS_here rfl
    | true =>
      obtain ⟨fe1, fe2⟩ := hfew rfl
      simp (disch := first | assumption | simp) only [↓sbD, sbU, tyB, Nat.reduceMul, Nat.reduceSub, Int.reduceEq, Int.reduceLT, Int.reduceLE, Int.reduceNe, Nat.reduceBneDiff, Nat.reduceBEq, decide_false, gt_iff_lt, Bool.or_self, Bool.false_eq_true, Nat.mul_one, Nat.one_mul, Nat.zero_mul, ↓reduceIte, Nat.reduceEqDiff, Nat.reduceLT, Nat.reduceAdd, Nat.reduceLeDiff, reduceCtorEq, goInt, pairs, isConst, TI.isAgg, splice, boxS, Edp, dpv, Nat.beq_eq, ZV.val, List.any_cons, List.any_nil, not_bool, Bool.not_true, AS_new]
      intro w hw
      generalize hσ1 : AHeap.set _ w _ = σ1
      have gw : σ1.get w = .cells [.slice none 0 0, .nilIface] true 0 := by rw [← hσ1]; exact AHeap.get_set_same _ _ _
      have hI : WSt σ1 w l 0 := ⟨emp, [w], by decide, .inl ⟨rfl, ⟨_, [], gw, .inl ⟨rfl, rfl, rfl⟩, rfl, by simp⟩⟩⟩
      clear gw hσ1 hw
      simp (disch := first | assumption | simp) only [↓sbD, sbU, tyB, Nat.reduceMul, Nat.reduceSub, Int.reduceEq, Int.reduceLT, Int.reduceLE, Int.reduceNe, Nat.reduceBneDiff, Nat.reduceBEq, decide_false, gt_iff_lt, Bool.or_self, Bool.false_eq_true, Nat.mul_one, Nat.one_mul, Nat.zero_mul, ↓reduceIte, Nat.reduceEqDiff, Nat.reduceLT, Nat.reduceAdd, Nat.reduceLeDiff, reduceCtorEq, goInt, pairs, isConst, TI.isAgg, splice, boxS, Edp, dpv, Nat.beq_eq, ZV.val, List.any_cons, List.any_nil]
      have hlen := hl.len
      refine S_loop (fun m f σ' => ∃ i : Nat, m + i = l.length ∧ f 6 = .int .i64 i ∧ WSt σ' w l i ∧ ∀ j (hj : j < l.length), j < i → kindOk (l[j]).k) l.length (Le.refl _) ⟨0, rfl, by simp (disch := first | assumption | simp) only [↓sbD, sbU, tyB, Nat.reduceMul, Nat.reduceSub, Int.reduceEq, Int.reduceLT, Int.reduceLE, Int.reduceNe, Nat.reduceBneDiff, Nat.reduceBEq, decide_false, gt_iff_lt, Bool.or_self, Bool.false_eq_true, Nat.mul_one, Nat.one_mul, Nat.zero_mul, ↓reduceIte, Nat.reduceEqDiff, Nat.reduceLT, Nat.reduceAdd, Nat.reduceLeDiff, reduceCtorEq, goInt, pairs, isConst, TI.isAgg, splice, boxS, Edp, dpv, Nat.beq_eq, ZV.val, List.any_cons, List.any_nil]; rfl, hI, fun j _ hj => by omega⟩ ?_
      clear hI
      rintro m f σ' ⟨i, hm, f6, ⟨b, fp, hb, hI⟩, hkind⟩ hf
      have f0 := hf 0 (by decide) (notMem_wr (by kernel_rfl))
      have f1 := hf 1 (by decide) (notMem_wr (by kernel_rfl))
      have f5 := hf 5 (by decide) (notMem_wr (by kernel_rfl))
      simp (disch := first | assumption | simp) only [↓sbD, sbU, tyB, Nat.reduceMul, Nat.reduceSub, Int.reduceEq, Int.reduceLT, Int.reduceLE, Int.reduceNe, Nat.reduceBneDiff, Nat.reduceBEq, decide_false, gt_iff_lt, Bool.or_self, Bool.false_eq_true, Nat.mul_one, Nat.one_mul, Nat.zero_mul, ↓reduceIte, Nat.reduceEqDiff, Nat.reduceLT, Nat.reduceAdd, Nat.reduceLeDiff, reduceCtorEq, goInt, pairs, isConst, TI.isAgg, splice, boxS, Edp, dpv, Nat.beq_eq, ZV.val, List.any_cons, List.any_nil] at f0 f1 f5
      clear hf
      have f1' := f1
      by_cases hi : (i : Int) < (l.length : Int)
      · have hi' : i < l.length := by omega
        have hia := hl.at hi'
        have hw := wrap_suc (n := i) (by omega)
        have hs := fe2 _ (List.getElem_mem hi')
        have hcat : ∀ m', actW l[i] = .inl m' → ∀ b, catW (l.take i) = some b → catW (l.take (i + 1)) = some (b ++ m') := fun m' hm' b hb => by
          rw [List.take_succ_eq_append_getElem hi']; exact catW_app hb (catW_one hm')
        have hnext : kindOk (l[i]).k → ∀ j (hj : j < l.length), j < i + 1 → kindOk (l[j]).k := fun hk j hj hji => by
          rcases (by omega : j < i ∨ j = i) with h3 | rfl
          · exact hkind j hj h3
          · exact hk
        generalize hact : l[i] = a at hia hs hcat hnext
        have hac : actC a = [.int .i64 a.k, .int .i64 a.n, .string a.s] := rfl
        have hagg : Value.agg ⟨[.int .i64 a.k, .int .i64 a.n, .string a.s]⟩ = .agg ⟨actC a⟩ := rfl
        by_cases g1 : a.k < 1
        · simp (disch := first | assumption | simp) only [↓sbD, sbU, tyB, Nat.reduceMul, Nat.reduceSub, Int.reduceEq, Int.reduceLT, Int.reduceLE, Int.reduceNe, Nat.reduceBneDiff, Nat.reduceBEq, decide_false, gt_iff_lt, Bool.or_self, Bool.false_eq_true, Nat.mul_one, Nat.one_mul, Nat.zero_mul, ↓reduceIte, Nat.reduceEqDiff, Nat.reduceLT, Nat.reduceAdd, Nat.reduceLeDiff, reduceCtorEq, goInt, pairs, isConst, TI.isAgg, splice, boxS, Edp, dpv, Nat.beq_eq, ZV.val, List.any_cons, List.any_nil, f0, f5, f6, hlen, hi, hia, hac, g1]
          refine specS33 ?_
          simp (disch := first | assumption | simp) only [↓sbD, sbU, tyB, Nat.reduceMul, Nat.reduceSub, Int.reduceEq, Int.reduceLT, Int.reduceLE, Int.reduceNe, Nat.reduceBneDiff, Nat.reduceBEq, decide_false, gt_iff_lt, Bool.or_self, Bool.false_eq_true, Nat.mul_one, Nat.one_mul, Nat.zero_mul, ↓reduceIte, Nat.reduceEqDiff, Nat.reduceLT, Nat.reduceAdd, Nat.reduceLeDiff, reduceCtorEq, goInt, pairs, isConst, TI.isAgg, splice, boxS, Edp, dpv, Nat.beq_eq, ZV.val, List.any_cons, List.any_nil]
          exact downS_here rfl
        by_cases g2 : (7 : Int) < a.k
        · simp (disch := first | assumption | simp) only [↓sbD, sbU, tyB, Nat.reduceMul, Nat.reduceSub, Int.reduceEq, Int.reduceLT, Int.reduceLE, Int.reduceNe, Nat.reduceBneDiff, Nat.reduceBEq, decide_false, gt_iff_lt, Bool.or_self, Bool.false_eq_true, Nat.mul_one, Nat.one_mul, Nat.zero_mul, ↓reduceIte, Nat.reduceEqDiff, Nat.reduceLT, Nat.reduceAdd, Nat.reduceLeDiff, reduceCtorEq, goInt, pairs, isConst, TI.isAgg, splice, boxS, Edp, dpv, Nat.beq_eq, ZV.val, List.any_cons, List.any_nil, f0, f5, f6, hlen, hi, hia, hac, g1, g2]
          refine specS33 ?_
          simp (disch := first | assumption | simp) only [↓sbD, sbU, tyB, Nat.reduceMul, Nat.reduceSub, Int.reduceEq, Int.reduceLT, Int.reduceLE, Int.reduceNe, Nat.reduceBneDiff, Nat.reduceBEq, decide_false, gt_iff_lt, Bool.or_self, Bool.false_eq_true, Nat.mul_one, Nat.one_mul, Nat.zero_mul, ↓reduceIte, Nat.reduceEqDiff, Nat.reduceLT, Nat.reduceAdd, Nat.reduceLeDiff, reduceCtorEq, goInt, pairs, isConst, TI.isAgg, splice, boxS, Edp, dpv, Nat.beq_eq, ZV.val, List.any_cons, List.any_nil]
          exact downS_here rfl
        by_cases g3 : a.k = 3
        · have g1' : ¬ (3 : Int) < 1 := by omega
          simp (disch := first | assumption | simp) only [↓sbD, sbU, tyB, Nat.reduceMul, Nat.reduceSub, Int.reduceEq, Int.reduceLT, Int.reduceLE, Int.reduceNe, Nat.reduceBneDiff, Nat.reduceBEq, decide_false, gt_iff_lt, Bool.or_self, Bool.false_eq_true, Nat.mul_one, Nat.one_mul, Nat.zero_mul, ↓reduceIte, Nat.reduceEqDiff, Nat.reduceLT, Nat.reduceAdd, Nat.reduceLeDiff, reduceCtorEq, goInt, pairs, isConst, TI.isAgg, splice, boxS, Edp, dpv, Nat.beq_eq, ZV.val, List.any_cons, List.any_nil, f0, f5, f6, hlen, hi, hia, hac, g1, g2, g3]
          refine specS33 ?_
          simp (disch := first | assumption | simp) only [↓sbD, sbU, tyB, Nat.reduceMul, Nat.reduceSub, Int.reduceEq, Int.reduceLT, Int.reduceLE, Int.reduceNe, Nat.reduceBneDiff, Nat.reduceBEq, decide_false, gt_iff_lt, Bool.or_self, Bool.false_eq_true, Nat.mul_one, Nat.one_mul, Nat.zero_mul, ↓reduceIte, Nat.reduceEqDiff, Nat.reduceLT, Nat.reduceAdd, Nat.reduceLeDiff, reduceCtorEq, goInt, pairs, isConst, TI.isAgg, splice, boxS, Edp, dpv, Nat.beq_eq, ZV.val, List.any_cons, List.any_nil]
          exact downS_here rfl
        have hk : kindOk a.k := by unfold kindOk; omega
        rcases hI with ⟨hc, iw⟩ | ⟨k, q, d, z, hd, he, iw⟩
        · simp (disch := first | assumption | simp) only [↓sbD, sbU, tyB, Nat.reduceMul, Nat.reduceSub, Int.reduceEq, Int.reduceLT, Int.reduceLE, Int.reduceNe, Nat.reduceBneDiff, Nat.reduceBEq, decide_false, gt_iff_lt, Bool.or_self, Bool.false_eq_true, Nat.mul_one, Nat.one_mul, Nat.zero_mul, ↓reduceIte, Nat.reduceEqDiff, Nat.reduceLT, Nat.reduceAdd, Nat.reduceLeDiff, reduceCtorEq, goInt, pairs, isConst, TI.isAgg, splice, boxS, Edp, dpv, Nat.beq_eq, ZV.val, List.any_cons, List.any_nil, f0, f5, f6, hlen, hi, hia, hac, g1, g2, g3]
          rw [hagg]
          refine specWrite iw (by omega) (by omega) fun σ2 fp2 k2 o2 => ?_
          simp (disch := first | assumption | simp) only [↓sbD, sbU, tyB, Nat.reduceMul, Nat.reduceSub, Int.reduceEq, Int.reduceLT, Int.reduceLE, Int.reduceNe, Nat.reduceBneDiff, Nat.reduceBEq, decide_false, gt_iff_lt, Bool.or_self, Bool.false_eq_true, Nat.mul_one, Nat.one_mul, Nat.zero_mul, ↓reduceIte, Nat.reduceEqDiff, Nat.reduceLT, Nat.reduceAdd, Nat.reduceLeDiff, reduceCtorEq, goInt, pairs, isConst, TI.isAgg, splice, boxS, Edp, dpv, Nat.beq_eq, ZV.val, List.any_cons, List.any_nil, f6, hw]
          refine ⟨_, m - 1, _, rfl, by omega, Le.refl _, i + 1, by omega, by simp (disch := first | assumption | simp) only [↓sbD, sbU, tyB, Nat.reduceMul, Nat.reduceSub, Int.reduceEq, Int.reduceLT, Int.reduceLE, Int.reduceNe, Nat.reduceBneDiff, Nat.reduceBEq, decide_false, gt_iff_lt, Bool.or_self, Bool.false_eq_true, Nat.mul_one, Nat.one_mul, Nat.zero_mul, ↓reduceIte, Nat.reduceEqDiff, Nat.reduceLT, Nat.reduceAdd, Nat.reduceLeDiff, reduceCtorEq, goInt, pairs, isConst, TI.isAgg, splice, boxS, Edp, dpv, Nat.beq_eq, ZV.val, List.any_cons, List.any_nil], ?_, hnext hk⟩
          cases hr : actW a with
          | inl m' =>
            rw [hr] at o2
            have hsz := actW_size hr
            exact ⟨b ++ m', fp2, by rw [size_app]; omega, .inl ⟨hcat m' hr b hc, o2⟩⟩
          | inr p =>
            obtain ⟨n, p⟩ := p
            rw [hr] at o2
            obtain ⟨d, z, hd, he, iw2⟩ := o2
            exact ⟨b, fp2, by omega, .inr ⟨n, b.size + p, d, z, hd, he, iw2⟩⟩
        · simp (disch := first | assumption | simp) only [↓sbD, sbU, tyB, Nat.reduceMul, Nat.reduceSub, Int.reduceEq, Int.reduceLT, Int.reduceLE, Int.reduceNe, Nat.reduceBneDiff, Nat.reduceBEq, decide_false, gt_iff_lt, Bool.or_self, Bool.false_eq_true, Nat.mul_one, Nat.one_mul, Nat.zero_mul, ↓reduceIte, Nat.reduceEqDiff, Nat.reduceLT, Nat.reduceAdd, Nat.reduceLeDiff, reduceCtorEq, goInt, pairs, isConst, TI.isAgg, splice, boxS, Edp, dpv, Nat.beq_eq, ZV.val, List.any_cons, List.any_nil, f0, f5, f6, hlen, hi, hia, hac, g1, g2, g3]
          rw [hagg]
          refine specWriteE iw ?_
          simp (disch := first | assumption | simp) only [↓sbD, sbU, tyB, Nat.reduceMul, Nat.reduceSub, Int.reduceEq, Int.reduceLT, Int.reduceLE, Int.reduceNe, Nat.reduceBneDiff, Nat.reduceBEq, decide_false, gt_iff_lt, Bool.or_self, Bool.false_eq_true, Nat.mul_one, Nat.one_mul, Nat.zero_mul, ↓reduceIte, Nat.reduceEqDiff, Nat.reduceLT, Nat.reduceAdd, Nat.reduceLeDiff, reduceCtorEq, goInt, pairs, isConst, TI.isAgg, splice, boxS, Edp, dpv, Nat.beq_eq, ZV.val, List.any_cons, List.any_nil, f6, hw]
          exact ⟨_, m - 1, _, rfl, by omega, Le.refl _, i + 1, by omega, by simp (disch := first | assumption | simp) only [↓sbD, sbU, tyB, Nat.reduceMul, Nat.reduceSub, Int.reduceEq, Int.reduceLT, Int.reduceLE, Int.reduceNe, Nat.reduceBneDiff, Nat.reduceBEq, decide_false, gt_iff_lt, Bool.or_self, Bool.false_eq_true, Nat.mul_one, Nat.one_mul, Nat.zero_mul, ↓reduceIte, Nat.reduceEqDiff, Nat.reduceLT, Nat.reduceAdd, Nat.reduceLeDiff, reduceCtorEq, goInt, pairs, isConst, TI.isAgg, splice, boxS, Edp, dpv, Nat.beq_eq, ZV.val, List.any_cons, List.any_nil], ⟨b, fp, by omega, .inr ⟨k, q, d, z, hd, he, iw⟩⟩, hnext hk⟩
      · obtain rfl : i = l.length := by omega
        rcases hI with ⟨hc, iw⟩ | ⟨k, q, d, z, hd, he, iw⟩
        rotate_left
        · simp (disch := first | assumption | simp) only [↓sbD, sbU, tyB, Nat.reduceMul, Nat.reduceSub, Int.reduceEq, Int.reduceLT, Int.reduceLE, Int.reduceNe, Nat.reduceBneDiff, Nat.reduceBEq, decide_false, gt_iff_lt, Bool.or_self, Bool.false_eq_true, Nat.mul_one, Nat.one_mul, Nat.zero_mul, ↓reduceIte, Nat.reduceEqDiff, Nat.reduceLT, Nat.reduceAdd, Nat.reduceLeDiff, reduceCtorEq, goInt, pairs, isConst, TI.isAgg, splice, boxS, Edp, dpv, Nat.beq_eq, ZV.val, List.any_cons, List.any_nil, f0, f5, f6, hlen, hi]
          refine specBytesE iw ?_
          simp (disch := first | assumption | simp) only [↓sbD, sbU, tyB, Nat.reduceMul, Nat.reduceSub, Int.reduceEq, Int.reduceLT, Int.reduceLE, Int.reduceNe, Nat.reduceBneDiff, Nat.reduceBEq, decide_false, gt_iff_lt, Bool.or_self, Bool.false_eq_true, Nat.mul_one, Nat.one_mul, Nat.zero_mul, ↓reduceIte, Nat.reduceEqDiff, Nat.reduceLT, Nat.reduceAdd, Nat.reduceLeDiff, reduceCtorEq, goInt, pairs, isConst, TI.isAgg, splice, boxS, Edp, dpv, Nat.beq_eq, ZV.val, List.any_cons, List.any_nil, emp_eq, eq_self]
          refine specS33 ?_
          simp (disch := first | assumption | simp) only [↓sbD, sbU, tyB, Nat.reduceMul, Nat.reduceSub, Int.reduceEq, Int.reduceLT, Int.reduceLE, Int.reduceNe, Nat.reduceBneDiff, Nat.reduceBEq, decide_false, gt_iff_lt, Bool.or_self, Bool.false_eq_true, Nat.mul_one, Nat.one_mul, Nat.zero_mul, ↓reduceIte, Nat.reduceEqDiff, Nat.reduceLT, Nat.reduceAdd, Nat.reduceLeDiff, reduceCtorEq, goInt, pairs, isConst, TI.isAgg, splice, boxS, Edp, dpv, Nat.beq_eq, ZV.val, List.any_cons, List.any_nil]
          exact downS_here rfl
        rw [List.take_length] at hc
        simp (disch := first | assumption | simp) only [↓sbD, sbU, tyB, Nat.reduceMul, Nat.reduceSub, Int.reduceEq, Int.reduceLT, Int.reduceLE, Int.reduceNe, Nat.reduceBneDiff, Nat.reduceBEq, decide_false, gt_iff_lt, Bool.or_self, Bool.false_eq_true, Nat.mul_one, Nat.one_mul, Nat.zero_mul, ↓reduceIte, Nat.reduceEqDiff, Nat.reduceLT, Nat.reduceAdd, Nat.reduceLeDiff, reduceCtorEq, goInt, pairs, isConst, TI.isAgg, splice, boxS, Edp, dpv, Nat.beq_eq, ZV.val, List.any_cons, List.any_nil, f0, f5, f6, hlen, hi]
        refine specBytes iw ?_
        simp (disch := first | assumption | simp) only [↓sbD, sbU, tyB, Nat.reduceMul, Nat.reduceSub, Int.reduceEq, Int.reduceLT, Int.reduceLE, Int.reduceNe, Nat.reduceBneDiff, Nat.reduceBEq, decide_false, gt_iff_lt, Bool.or_self, Bool.false_eq_true, Nat.mul_one, Nat.one_mul, Nat.zero_mul, ↓reduceIte, Nat.reduceEqDiff, Nat.reduceLT, Nat.reduceAdd, Nat.reduceLeDiff, reduceCtorEq, goInt, pairs, isConst, TI.isAgg, splice, boxS, Edp, dpv, Nat.beq_eq, ZV.val, List.any_cons, List.any_nil]
        refine specRNew fun r σ2 hr k2 ir => ?_
        simp (disch := first | assumption | simp) only [↓sbD, sbU, tyB, Nat.reduceMul, Nat.reduceSub, Int.reduceEq, Int.reduceLT, Int.reduceLE, Int.reduceNe, Nat.reduceBneDiff, Nat.reduceBEq, decide_false, gt_iff_lt, Bool.or_self, Bool.false_eq_true, Nat.mul_one, Nat.one_mul, Nat.zero_mul, ↓reduceIte, Nat.reduceEqDiff, Nat.reduceLT, Nat.reduceAdd, Nat.reduceLeDiff, reduceCtorEq, goInt, pairs, isConst, TI.isAgg, splice, boxS, Edp, dpv, Nat.beq_eq, ZV.val, List.any_cons, List.any_nil]
        clear hr k2 iw hb
        have hbz : b.size ≤ 6000 := by
          have := catW_le hc fe2
          omega
        have F0 := f0
        have F1 := f1'
        refine S_loop (fun m f σ' => ∃ i : Nat, m + i = l.length ∧ f 10 = .int .i64 i ∧ ∃ bi, catW (l.take i) = some bi ∧ IsR σ' r b bi.size .nilIface) l.length (Le.refl _) ⟨0, rfl, by simp (disch := first | assumption | simp) only [↓sbD, sbU, tyB, Nat.reduceMul, Nat.reduceSub, Int.reduceEq, Int.reduceLT, Int.reduceLE, Int.reduceNe, Nat.reduceBneDiff, Nat.reduceBEq, decide_false, gt_iff_lt, Bool.or_self, Bool.false_eq_true, Nat.mul_one, Nat.one_mul, Nat.zero_mul, ↓reduceIte, Nat.reduceEqDiff, Nat.reduceLT, Nat.reduceAdd, Nat.reduceLeDiff, reduceCtorEq, goInt, pairs, isConst, TI.isAgg, splice, boxS, Edp, dpv, Nat.beq_eq, ZV.val, List.any_cons, List.any_nil]; rfl, emp, rfl, ir⟩ ?_
        rintro m f σ' ⟨i, hm, f10, bi, hci, ir⟩ hf
        have f0 := hf 0 (by decide) (notMem_wr (by kernel_rfl))
        have f1 := hf 1 (by decide) (notMem_wr (by kernel_rfl))
        have f7 := hf 7 (by decide) (notMem_wr (by kernel_rfl))
        have f9 := hf 9 (by decide) (notMem_wr (by kernel_rfl))
        simp (disch := first | assumption | simp) only [↓sbD, sbU, tyB, Nat.reduceMul, Nat.reduceSub, Int.reduceEq, Int.reduceLT, Int.reduceLE, Int.reduceNe, Nat.reduceBneDiff, Nat.reduceBEq, decide_false, gt_iff_lt, Bool.or_self, Bool.false_eq_true, Nat.mul_one, Nat.one_mul, Nat.zero_mul, ↓reduceIte, Nat.reduceEqDiff, Nat.reduceLT, Nat.reduceAdd, Nat.reduceLeDiff, reduceCtorEq, goInt, pairs, isConst, TI.isAgg, splice, boxS, Edp, dpv, Nat.beq_eq, ZV.val, List.any_cons, List.any_nil, F0, F1] at f0 f1 f7 f9
        clear hf
        by_cases hi : (i : Int) < (l.length : Int)
        · have hi' : i < l.length := by omega
          have hia := hl.at hi'
          have hw := wrap_suc (n := i) (by omega)
          obtain ⟨bi', m', d, hci', hact', hnx, hbe⟩ := catW_at hc hi'
          rw [hci] at hci'
          injection hci' with hci'
          subst hci'
          have hk := hkind i hi' hi'
          have hrd := rdA_mid bi d hk hact'
          rw [← hbe] at hrd
          have hpz : bi.size ≤ b.size := by rw [hbe, size_app, size_app]; omega
          have hpz2 : bi.size + m'.size = (bi ++ m').size := by rw [size_app]
          generalize hact : l[i] = a at hia hrd hk
          have hac : actC a = [.int .i64 a.k, .int .i64 a.n, .string a.s] := rfl
          have hagg : Value.agg ⟨[.int .i64 a.k, .int .i64 a.n, .string a.s]⟩ = .agg ⟨actC a⟩ := rfl
          simp (disch := first | assumption | simp) only [↓sbD, sbU, tyB, Nat.reduceMul, Nat.reduceSub, Int.reduceEq, Int.reduceLT, Int.reduceLE, Int.reduceNe, Nat.reduceBneDiff, Nat.reduceBEq, decide_false, gt_iff_lt, Bool.or_self, Bool.false_eq_true, Nat.mul_one, Nat.one_mul, Nat.zero_mul, ↓reduceIte, Nat.reduceEqDiff, Nat.reduceLT, Nat.reduceAdd, Nat.reduceLeDiff, reduceCtorEq, goInt, pairs, isConst, TI.isAgg, splice, boxS, Edp, dpv, Nat.beq_eq, ZV.val, List.any_cons, List.any_nil, f0, f7, f9, f10, hlen, hi, hia, hac]
          rw [hagg]
          refine specRead hk ir hpz (by omega) (fun n t q hq σ3 k3 i3 => ?_) fun e q hq => ?_
          · rw [hrd] at hq
            simp only [Except.ok.injEq, Prod.mk.injEq] at hq
            obtain ⟨⟨hq1, hq3⟩, hq2⟩ := hq
            subst hq2
            rw [hpz2] at i3
            by_cases h6 : a.k < 6
            · rw [if_pos h6] at hq1 hq3
              subst hq1; subst hq3
              have h5 : ¬ (5 : Int) < a.k := by omega
              simp (disch := first | assumption | simp) only [↓sbD, sbU, tyB, Nat.reduceMul, Nat.reduceSub, Int.reduceEq, Int.reduceLT, Int.reduceLE, Int.reduceNe, Nat.reduceBneDiff, Nat.reduceBEq, decide_false, gt_iff_lt, Bool.or_self, Bool.false_eq_true, Nat.mul_one, Nat.one_mul, Nat.zero_mul, ↓reduceIte, Nat.reduceEqDiff, Nat.reduceLT, Nat.reduceAdd, Nat.reduceLeDiff, reduceCtorEq, goInt, pairs, isConst, TI.isAgg, splice, boxS, Edp, dpv, Nat.beq_eq, ZV.val, List.any_cons, List.any_nil, f0, f7, f9, f10, hlen, hia, hac, h6, h5, eq_self, hw]
              exact ⟨_, m - 1, _, rfl, by omega, Le.refl _, i + 1, by omega, by simp (disch := first | assumption | simp) only [↓sbD, sbU, tyB, Nat.reduceMul, Nat.reduceSub, Int.reduceEq, Int.reduceLT, Int.reduceLE, Int.reduceNe, Nat.reduceBneDiff, Nat.reduceBEq, decide_false, gt_iff_lt, Bool.or_self, Bool.false_eq_true, Nat.mul_one, Nat.one_mul, Nat.zero_mul, ↓reduceIte, Nat.reduceEqDiff, Nat.reduceLT, Nat.reduceAdd, Nat.reduceLeDiff, reduceCtorEq, goInt, pairs, isConst, TI.isAgg, splice, boxS, Edp, dpv, Nat.beq_eq, ZV.val, List.any_cons, List.any_nil], _, hnx, i3⟩
            · rw [if_neg h6] at hq1 hq3
              subst hq1; subst hq3
              have h5 : (5 : Int) < a.k := by omega
              simp (disch := first | assumption | simp) only [↓sbD, sbU, tyB, Nat.reduceMul, Nat.reduceSub, Int.reduceEq, Int.reduceLT, Int.reduceLE, Int.reduceNe, Nat.reduceBneDiff, Nat.reduceBEq, decide_false, gt_iff_lt, Bool.or_self, Bool.false_eq_true, Nat.mul_one, Nat.one_mul, Nat.zero_mul, ↓reduceIte, Nat.reduceEqDiff, Nat.reduceLT, Nat.reduceAdd, Nat.reduceLeDiff, reduceCtorEq, goInt, pairs, isConst, TI.isAgg, splice, boxS, Edp, dpv, Nat.beq_eq, ZV.val, List.any_cons, List.any_nil, f0, f7, f9, f10, hlen, hia, hac, h6, h5, eq_self, hw]
              exact ⟨_, m - 1, _, rfl, by omega, Le.refl _, i + 1, by omega, by simp (disch := first | assumption | simp) only [↓sbD, sbU, tyB, Nat.reduceMul, Nat.reduceSub, Int.reduceEq, Int.reduceLT, Int.reduceLE, Int.reduceNe, Nat.reduceBneDiff, Nat.reduceBEq, decide_false, gt_iff_lt, Bool.or_self, Bool.false_eq_true, Nat.mul_one, Nat.one_mul, Nat.zero_mul, ↓reduceIte, Nat.reduceEqDiff, Nat.reduceLT, Nat.reduceAdd, Nat.reduceLeDiff, reduceCtorEq, goInt, pairs, isConst, TI.isAgg, splice, boxS, Edp, dpv, Nat.beq_eq, ZV.val, List.any_cons, List.any_nil], _, hnx, i3⟩
          · rw [hrd] at hq; cases hq
        · obtain rfl : i = l.length := by omega
          rw [List.take_length, hc] at hci
          injection hci with hci
          subst hci
          simp (disch := first | assumption | simp) only [↓sbD, sbU, tyB, Nat.reduceMul, Nat.reduceSub, Int.reduceEq, Int.reduceLT, Int.reduceLE, Int.reduceNe, Nat.reduceBneDiff, Nat.reduceBEq, decide_false, gt_iff_lt, Bool.or_self, Bool.false_eq_true, Nat.mul_one, Nat.one_mul, Nat.zero_mul, ↓reduceIte, Nat.reduceEqDiff, Nat.reduceLT, Nat.reduceAdd, Nat.reduceLeDiff, reduceCtorEq, goInt, pairs, isConst, TI.isAgg, splice, boxS, Edp, dpv, Nat.beq_eq, ZV.val, List.any_cons, List.any_nil, f0, f7, f9, f10, hlen, hi]
          refine specRDone ir (by omega) (by omega) (fun _ => ?_) fun hlt => absurd hlt (by omega)
          simp (disch := first | assumption | simp) only [↓sbD, sbU, tyB, Nat.reduceMul, Nat.reduceSub, Int.reduceEq, Int.reduceLT, Int.reduceLE, Int.reduceNe, Nat.reduceBneDiff, Nat.reduceBEq, decide_false, gt_iff_lt, Bool.or_self, Bool.false_eq_true, Nat.mul_one, Nat.one_mul, Nat.zero_mul, ↓reduceIte, Nat.reduceEqDiff, Nat.reduceLT, Nat.reduceAdd, Nat.reduceLeDiff, reduceCtorEq, goInt, pairs, isConst, TI.isAgg, splice, boxS, Edp, dpv, Nat.beq_eq, ZV.val, List.any_cons, List.any_nil, f9]
          refine specRLeft ir (by omega) (by omega) ?_
          have hz0 : b.size - b.size = 0 := by omega
          have hz1 : ((0 : Nat) : Int) = 0 := rfl
          by_cases hb0 : (b.size : Int) = 0
          · simp (disch := first | assumption | simp) only [↓sbD, sbU, tyB, Nat.reduceMul, Nat.reduceSub, Int.reduceEq, Int.reduceLT, Int.reduceLE, Int.reduceNe, Nat.reduceBneDiff, Nat.reduceBEq, decide_false, gt_iff_lt, Bool.or_self, Bool.false_eq_true, Nat.mul_one, Nat.one_mul, Nat.zero_mul, ↓reduceIte, Nat.reduceEqDiff, Nat.reduceLT, Nat.reduceAdd, Nat.reduceLeDiff, reduceCtorEq, goInt, pairs, isConst, TI.isAgg, splice, boxS, Edp, dpv, Nat.beq_eq, ZV.val, List.any_cons, List.any_nil, f7, hz0, hz1, hb0]
            refine specS33 ?_
            simp (disch := first | assumption | simp) only [↓sbD, sbU, tyB, Nat.reduceMul, Nat.reduceSub, Int.reduceEq, Int.reduceLT, Int.reduceLE, Int.reduceNe, Nat.reduceBneDiff, Nat.reduceBEq, decide_false, gt_iff_lt, Bool.or_self, Bool.false_eq_true, Nat.mul_one, Nat.one_mul, Nat.zero_mul, ↓reduceIte, Nat.reduceEqDiff, Nat.reduceLT, Nat.reduceAdd, Nat.reduceLeDiff, reduceCtorEq, goInt, pairs, isConst, TI.isAgg, splice, boxS, Edp, dpv, Nat.beq_eq, ZV.val, List.any_cons, List.any_nil]
            exact downS_here rfl
          · have hcw : IntKind.i64.wrap (cut : Int) = (cut : Int) := wrap64 ⟨by omega, by omega⟩
            have hrm : aint .rem .i64 (cut : Int) (b.size : Int) = some (.int .i64 ((cut % b.size : Nat) : Int)) := by rw [rem_pos (Int.natCast_nonneg _) (by omega)]; rfl
            have hlt : cut % b.size < b.size := Nat.mod_lt _ (by omega)
            have hsl : ∀ τ : AHeap, aslice E τ 9 (.string b) none (some (.int .i64 ((cut % b.size : Nat) : Int))) none = some (.string (b.extract 0 (cut % b.size))) := fun τ => slice_to ty9 (by omega)
            have f1c : f 1 = .int .u16 (cut : Int) := f1
            generalize cut % b.size = j at hrm hlt hsl
            simp (disch := first | assumption | simp) only [↓sbD, sbU, tyB, Nat.reduceMul, Nat.reduceSub, Int.reduceEq, Int.reduceLT, Int.reduceLE, Int.reduceNe, Nat.reduceBneDiff, Nat.reduceBEq, decide_false, gt_iff_lt, Bool.or_self, Bool.false_eq_true, Nat.mul_one, Nat.one_mul, Nat.zero_mul, ↓reduceIte, Nat.reduceEqDiff, Nat.reduceLT, Nat.reduceAdd, Nat.reduceLeDiff, reduceCtorEq, goInt, pairs, isConst, TI.isAgg, splice, boxS, Edp, dpv, Nat.beq_eq, ZV.val, List.any_cons, List.any_nil, f1c, f7, hz0, hz1, hb0, hcw, hrm, hsl, Option.map_some, Option.map_none]
            refine specRNew fun c σ3 hc3 k3 ic => ?_
            simp (disch := first | assumption | simp) only [↓sbD, sbU, tyB, Nat.reduceMul, Nat.reduceSub, Int.reduceEq, Int.reduceLT, Int.reduceLE, Int.reduceNe, Nat.reduceBneDiff, Nat.reduceBEq, decide_false, gt_iff_lt, Bool.or_self, Bool.false_eq_true, Nat.mul_one, Nat.one_mul, Nat.zero_mul, ↓reduceIte, Nat.reduceEqDiff, Nat.reduceLT, Nat.reduceAdd, Nat.reduceLeDiff, reduceCtorEq, goInt, pairs, isConst, TI.isAgg, splice, boxS, Edp, dpv, Nat.beq_eq, ZV.val, List.any_cons, List.any_nil]
            clear hc3 k3
            have F0 := f0
            have hjz := ext_size (S := b) (j := j) (by omega)
            refine S_loop (fun m f σ' => ∃ i : Nat, m + i = l.length ∧ f 14 = .int .i64 i ∧ ((∃ bi, catW (l.take i) = some bi ∧ bi.size ≤ j ∧ IsR σ' c (b.extract 0 j) bi.size .nilIface) ∨ ∃ p q, RBad σ' c (b.extract 0 j) p 1 q)) l.length (Le.refl _) ⟨0, rfl, by simp (disch := first | assumption | simp) only [↓sbD, sbU, tyB, Nat.reduceMul, Nat.reduceSub, Int.reduceEq, Int.reduceLT, Int.reduceLE, Int.reduceNe, Nat.reduceBneDiff, Nat.reduceBEq, decide_false, gt_iff_lt, Bool.or_self, Bool.false_eq_true, Nat.mul_one, Nat.one_mul, Nat.zero_mul, ↓reduceIte, Nat.reduceEqDiff, Nat.reduceLT, Nat.reduceAdd, Nat.reduceLeDiff, reduceCtorEq, goInt, pairs, isConst, TI.isAgg, splice, boxS, Edp, dpv, Nat.beq_eq, ZV.val, List.any_cons, List.any_nil]; rfl, .inl ⟨emp, rfl, Nat.zero_le _, ic⟩⟩ ?_
            rintro m f σ' ⟨i, hm, f14, hI⟩ hf
            have f0 := hf 0 (by decide) (notMem_wr (by kernel_rfl))
            have f13 := hf 13 (by decide) (notMem_wr (by kernel_rfl))
            simp (disch := first | assumption | simp) only [↓sbD, sbU, tyB, Nat.reduceMul, Nat.reduceSub, Int.reduceEq, Int.reduceLT, Int.reduceLE, Int.reduceNe, Nat.reduceBneDiff, Nat.reduceBEq, decide_false, gt_iff_lt, Bool.or_self, Bool.false_eq_true, Nat.mul_one, Nat.one_mul, Nat.zero_mul, ↓reduceIte, Nat.reduceEqDiff, Nat.reduceLT, Nat.reduceAdd, Nat.reduceLeDiff, reduceCtorEq, goInt, pairs, isConst, TI.isAgg, splice, boxS, Edp, dpv, Nat.beq_eq, ZV.val, List.any_cons, List.any_nil, F0] at f0 f13
            clear hf
            by_cases hi : (i : Int) < (l.length : Int)
            · have hi' : i < l.length := by omega
              have hia := hl.at hi'
              have hw := wrap_suc (n := i) (by omega)
              obtain ⟨bi, m', d, hci, hact', hnx, hbe⟩ := catW_at hc hi'
              have hk := hkind i hi' hi'
              generalize hact : l[i] = a at hia hk hact'
              have hac : actC a = [.int .i64 a.k, .int .i64 a.n, .string a.s] := rfl
              have hagg : Value.agg ⟨[.int .i64 a.k, .int .i64 a.n, .string a.s]⟩ = .agg ⟨actC a⟩ := rfl
              simp (disch := first | assumption | simp) only [↓sbD, sbU, tyB, Nat.reduceMul, Nat.reduceSub, Int.reduceEq, Int.reduceLT, Int.reduceLE, Int.reduceNe, Nat.reduceBneDiff, Nat.reduceBEq, decide_false, gt_iff_lt, Bool.or_self, Bool.false_eq_true, Nat.mul_one, Nat.one_mul, Nat.zero_mul, ↓reduceIte, Nat.reduceEqDiff, Nat.reduceLT, Nat.reduceAdd, Nat.reduceLeDiff, reduceCtorEq, goInt, pairs, isConst, TI.isAgg, splice, boxS, Edp, dpv, Nat.beq_eq, ZV.val, List.any_cons, List.any_nil, f0, f13, f14, hlen, hi, hia, hac]
              rw [hagg]
              rcases hI with ⟨bi2, hci2, hle, ir⟩ | ⟨p, q, e, z, he1, he2, ir⟩
              · rw [hci] at hci2
                injection hci2 with hci2
                subst hci2
                by_cases hfit : bi.size + m'.size ≤ j
                · have ht : b.extract 0 j = bi ++ m' ++ d.extract 0 (j - (bi ++ m').size) := by rw [hbe, ext_app _ _ (by rw [size_app]; exact hfit)]
                  have hrd := rdA_mid bi (d.extract 0 (j - (bi ++ m').size)) hk hact'
                  rw [← ht] at hrd
                  refine specRead hk ir (by omega) (by omega) (fun n t q hq σ4 k4 i4 => ?_) fun e q hq => ?_
                  · rw [hrd] at hq
                    simp only [Except.ok.injEq, Prod.mk.injEq] at hq
                    obtain ⟨_, hq2⟩ := hq
                    subst hq2
                    simp (disch := first | assumption | simp) only [↓sbD, sbU, tyB, Nat.reduceMul, Nat.reduceSub, Int.reduceEq, Int.reduceLT, Int.reduceLE, Int.reduceNe, Nat.reduceBneDiff, Nat.reduceBEq, decide_false, gt_iff_lt, Bool.or_self, Bool.false_eq_true, Nat.mul_one, Nat.one_mul, Nat.zero_mul, ↓reduceIte, Nat.reduceEqDiff, Nat.reduceLT, Nat.reduceAdd, Nat.reduceLeDiff, reduceCtorEq, goInt, pairs, isConst, TI.isAgg, splice, boxS, Edp, dpv, Nat.beq_eq, ZV.val, List.any_cons, List.any_nil, f14, hw]
                    exact ⟨_, m - 1, _, rfl, by omega, Le.refl _, i + 1, by omega, by simp (disch := first | assumption | simp) only [↓sbD, sbU, tyB, Nat.reduceMul, Nat.reduceSub, Int.reduceEq, Int.reduceLT, Int.reduceLE, Int.reduceNe, Nat.reduceBneDiff, Nat.reduceBEq, decide_false, gt_iff_lt, Bool.or_self, Bool.false_eq_true, Nat.mul_one, Nat.one_mul, Nat.zero_mul, ↓reduceIte, Nat.reduceEqDiff, Nat.reduceLT, Nat.reduceAdd, Nat.reduceLeDiff, reduceCtorEq, goInt, pairs, isConst, TI.isAgg, splice, boxS, Edp, dpv, Nat.beq_eq, ZV.val, List.any_cons, List.any_nil], .inl ⟨bi ++ m', hnx, by rw [size_app]; exact hfit, by rw [size_app]; exact i4⟩⟩
                  · rw [hrd] at hq; cases hq
                · have ht : b.extract 0 j = bi ++ m'.extract 0 (j - bi.size) := by rw [hbe, app_assoc, ext_app _ _ hle, ext_left _ _ (by omega)]
                  obtain ⟨q0, hrd⟩ := rdA_cut bi (j := j - bi.size) hk hact' (by omega)
                  rw [← ht] at hrd
                  refine specRead hk ir (by omega) (by omega) (fun n t q hq σ4 k4 i4 => ?_) fun e q hq σ4 k4 i4 => ?_
                  · rw [hrd] at hq; cases hq
                  · rw [hrd] at hq
                    simp only [Except.error.injEq, Prod.mk.injEq] at hq
                    obtain ⟨hq1, hq2⟩ := hq
                    subst hq1; subst hq2
                    simp (disch := first | assumption | simp) only [↓sbD, sbU, tyB, Nat.reduceMul, Nat.reduceSub, Int.reduceEq, Int.reduceLT, Int.reduceLE, Int.reduceNe, Nat.reduceBneDiff, Nat.reduceBEq, decide_false, gt_iff_lt, Bool.or_self, Bool.false_eq_true, Nat.mul_one, Nat.one_mul, Nat.zero_mul, ↓reduceIte, Nat.reduceEqDiff, Nat.reduceLT, Nat.reduceAdd, Nat.reduceLeDiff, reduceCtorEq, goInt, pairs, isConst, TI.isAgg, splice, boxS, Edp, dpv, Nat.beq_eq, ZV.val, List.any_cons, List.any_nil, f14, hw]
                    exact ⟨_, m - 1, _, rfl, by omega, Le.refl _, i + 1, by omega, by simp (disch := first | assumption | simp) only [↓sbD, sbU, tyB, Nat.reduceMul, Nat.reduceSub, Int.reduceEq, Int.reduceLT, Int.reduceLE, Int.reduceNe, Nat.reduceBneDiff, Nat.reduceBEq, decide_false, gt_iff_lt, Bool.or_self, Bool.false_eq_true, Nat.mul_one, Nat.one_mul, Nat.zero_mul, ↓reduceIte, Nat.reduceEqDiff, Nat.reduceLT, Nat.reduceAdd, Nat.reduceLeDiff, reduceCtorEq, goInt, pairs, isConst, TI.isAgg, splice, boxS, Edp, dpv, Nat.beq_eq, ZV.val, List.any_cons, List.any_nil], .inr ⟨_, _, i4⟩⟩
              · refine specReadE hk ir fun σ4 k4 i4 => ?_
                simp (disch := first | assumption | simp) only [↓sbD, sbU, tyB, Nat.reduceMul, Nat.reduceSub, Int.reduceEq, Int.reduceLT, Int.reduceLE, Int.reduceNe, Nat.reduceBneDiff, Nat.reduceBEq, decide_false, gt_iff_lt, Bool.or_self, Bool.false_eq_true, Nat.mul_one, Nat.one_mul, Nat.zero_mul, ↓reduceIte, Nat.reduceEqDiff, Nat.reduceLT, Nat.reduceAdd, Nat.reduceLeDiff, reduceCtorEq, goInt, pairs, isConst, TI.isAgg, splice, boxS, Edp, dpv, Nat.beq_eq, ZV.val, List.any_cons, List.any_nil, f14, hw]
                exact ⟨_, m - 1, _, rfl, by omega, Le.refl _, i + 1, by omega, by simp (disch := first | assumption | simp) only [↓sbD, sbU, tyB, Nat.reduceMul, Nat.reduceSub, Int.reduceEq, Int.reduceLT, Int.reduceLE, Int.reduceNe, Nat.reduceBneDiff, Nat.reduceBEq, decide_false, gt_iff_lt, Bool.or_self, Bool.false_eq_true, Nat.mul_one, Nat.one_mul, Nat.zero_mul, ↓reduceIte, Nat.reduceEqDiff, Nat.reduceLT, Nat.reduceAdd, Nat.reduceLeDiff, reduceCtorEq, goInt, pairs, isConst, TI.isAgg, splice, boxS, Edp, dpv, Nat.beq_eq, ZV.val, List.any_cons, List.any_nil], .inr ⟨p, q, e, z, he1, he2, i4⟩⟩
            · obtain rfl : i = l.length := by omega
              rcases hI with ⟨bi2, hci2, hle, ir⟩ | ⟨p, q, e, z, he1, he2, ir⟩
              · rw [List.take_length, hc] at hci2
                injection hci2 with hci2
                subst hci2
                omega
              · simp (disch := first | assumption | simp) only [↓sbD, sbU, tyB, Nat.reduceMul, Nat.reduceSub, Int.reduceEq, Int.reduceLT, Int.reduceLE, Int.reduceNe, Nat.reduceBneDiff, Nat.reduceBEq, decide_false, gt_iff_lt, Bool.or_self, Bool.false_eq_true, Nat.mul_one, Nat.one_mul, Nat.zero_mul, ↓reduceIte, Nat.reduceEqDiff, Nat.reduceLT, Nat.reduceAdd, Nat.reduceLeDiff, reduceCtorEq, goInt, pairs, isConst, TI.isAgg, splice, boxS, Edp, dpv, Nat.beq_eq, ZV.val, List.any_cons, List.any_nil, f0, f13, f14, hlen, hi]
                refine specRErr ir ?_
                simp (disch := first | assumption | simp) only [↓sbD, sbU, tyB, Nat.reduceMul, Nat.reduceSub, Int.reduceEq, Int.reduceLT, Int.reduceLE, Int.reduceNe, Nat.reduceBneDiff, Nat.reduceBEq, decide_false, gt_iff_lt, Bool.or_self, Bool.false_eq_true, Nat.mul_one, Nat.one_mul, Nat.zero_mul, ↓reduceIte, Nat.reduceEqDiff, Nat.reduceLT, Nat.reduceAdd, Nat.reduceLeDiff, reduceCtorEq, goInt, pairs, isConst, TI.isAgg, splice, boxS, Edp, dpv, Nat.beq_eq, ZV.val, List.any_cons, List.any_nil]
                refine specNumber he2 (by omega) ?_
                have h11 : ((1 : Nat) : Int) = 1 := rfl
                simp (disch := first | assumption | simp) only [↓sbD, sbU, tyB, Nat.reduceMul, Nat.reduceSub, Int.reduceEq, Int.reduceLT, Int.reduceLE, Int.reduceNe, Nat.reduceBneDiff, Nat.reduceBEq, decide_false, gt_iff_lt, Bool.or_self, Bool.false_eq_true, Nat.mul_one, Nat.one_mul, Nat.zero_mul, ↓reduceIte, Nat.reduceEqDiff, Nat.reduceLT, Nat.reduceAdd, Nat.reduceLeDiff, reduceCtorEq, goInt, pairs, isConst, TI.isAgg, splice, boxS, Edp, dpv, Nat.beq_eq, ZV.val, List.any_cons, List.any_nil, h11, eq_self]
                refine specS33 ?_
                simp (disch := first | assumption | simp) only [↓sbD, sbU, tyB, Nat.reduceMul, Nat.reduceSub, Int.reduceEq, Int.reduceLT, Int.reduceLE, Int.reduceNe, Nat.reduceBneDiff, Nat.reduceBEq, decide_false, gt_iff_lt, Bool.or_self, Bool.false_eq_true, Nat.mul_one, Nat.one_mul, Nat.zero_mul, ↓reduceIte, Nat.reduceEqDiff, Nat.reduceLT, Nat.reduceAdd, Nat.reduceLeDiff, reduceCtorEq, goInt, pairs, isConst, TI.isAgg, splice, boxS, Edp, dpv, Nat.beq_eq, ZV.val, List.any_cons, List.any_nil]
                exact downS_here rfl
  exact (key H (ext_holds hB0)).mono fun r H' ⟨σ', _, h⟩ => h
end Go.Proofs.YtccimdfmddomaaaDoor.AbsA
