/-
  Parts of a law's proof.
-/
import Derived.Test.YtccimdfmddomaaaDoorAScqdJ
import Derived.Test.YtccimdfmddomaaaDoorAPrqhJ
namespace Go.Proofs.YtccimdfmddomaaaDoor.AbsA
open Go AbsYtccimdfmddomaaaDoor Abs
set_option maxRecDepth 100000
set_option maxHeartbeats 4000000
set_option linter.unusedSimpArgs false
set_option linter.unusedVariables false
attribute [local irreducible] afterS afterOpS opSK OpsS TrS CodeS condS condW thenS thenQ guardS guardTS outS drawS trSK consS
section
variable {σ : AHeap} {Q : Value → AHeap → Prop} {r p : Nat} {s : ByteArray} {R : Rd (List Nat)}
/-- the document's reader behind some numbers of a config -/
def YC (σ : AHeap) (r : Nat) (s : ByteArray) (R : Rd (List Nat)) (cs : List Int) : Prop :=
  (∃ acc p', IsY σ r s p' 0 0 ∧ p' ≤ s.size ∧ cs = castL acc ∧ numsR s p' (13 - cs.length) acc = R) ∨ ∃ (k q p' : Nat), k ≠ 0 ∧ p' ≤ s.size ∧ IsY σ r s p' (k : Int) (q : Int) ∧ R = .error (k, q)
theorem YC.kept {σ' : AHeap} {cs : List Int} {gp gp' : List Nat} (h : YC σ r s R cs) (k : Kept σ gp σ' gp') (hd : r ∉ gp) : YC σ' r s R cs := by
  rcases h with ⟨acc, p', h1, h2⟩ | ⟨k', q, p', h1, h2, h3, h4⟩
  · exact .inl ⟨acc, p', h1.kept k hd, h2⟩
  · exact .inr ⟨k', q, p', h1, h2, h3.kept k hd, h4⟩
theorem YC.set {cs : List Int} {d : Nat} {o : AObj} (h : YC σ r s R cs) (hd : d ≠ r) : YC (AHeap.set σ d o) r s R cs := by
  have e : (AHeap.set σ d o).get r = σ.get r := AHeap.get_set_ne _ _ hd
  rcases h with ⟨acc, p', h1, h2⟩ | ⟨k', q, p', h1, h2, h3, h4⟩
  · exact .inl ⟨acc, p', by unfold IsY; rw [e]; exact h1, h2⟩
  · exact .inr ⟨k', q, p', h1, h2, by unfold IsY; rw [e]; exact h3, h4⟩
theorem YC.live {cs : List Int} (h : YC σ r s R cs) : σ.get r ≠ .dead := by
  rcases h with ⟨acc, p', h1, h2⟩ | ⟨k', q, p', h1, h2, h3, h4⟩
  · rw [show σ.get r = _ from h1]; simp
  · rw [show σ.get r = _ from h3]; simp
theorem specYU32C {cs : List Int} (h : YC σ r s R cs) (hl : cs.length < 13) (hs : s.size ≤ 100000000) (hq : ∀ x σ', Kept σ [r] σ' [r] → YC σ' r s R (cs ++ [x]) → Q (.int .i64 x) σ') : CallS E B 80 [.pointer (some ⟨r, 0, none⟩)] σ Q := by
  rcases h with ⟨acc, p', h1, h2, h3, h4⟩ | ⟨k', q, p', h1, h2, h3, h4⟩
  · have h13 : 13 - cs.length = (13 - (cs.length + 1)) + 1 := by omega
    rw [h13] at h4
    simp only [numsR] at h4
    refine specYU32 h1 h2 (by omega) (fun n q hn σ' k1 i1 => ?_) fun k q hn σ' k1 i1 => ?_
    · rw [hn] at h4
      refine hq n σ' k1 (.inl ⟨acc ++ [n], q, i1, (numR_le hn).2, by rw [h3]; simp [castL], ?_⟩)
      rw [List.length_append]
      exact h4
    · rw [hn] at h4
      exact hq 0 σ' k1 (.inr ⟨k, q, p', numR_k hn, h2, i1, h4.symm⟩)
  · exact specYU32E h3 (by omega) (hq 0 σ (Kept.refl _ _) (.inr ⟨k', q, p', h1, h2, h3, h4⟩))
theorem specYConfig (hy : YC σ r s R []) (hs : s.size ≤ 100000000) (hq : ∀ cs σ', cs.length = 13 → Kept σ [r] σ' [r] → YC σ' r s R cs → Q (.agg ⟨cfgC cs⟩) σ') : CallS E B 75 [.pointer (some ⟨r, 0, none⟩)] σ Q := by
  have hlive := hy.live
  refine call75 (by simp) ?_
  simp only [strip, bodyOf, Tryd.f75, getD_body, keepN, bareOp_mk, lessOp_mk, lapp_cons, lapp_nil, List.map_cons, List.map_nil, array_toList, ↓reduceIte, Nat.reduceEqDiff, Bool.false_eq_true]
  simp (disch := first | assumption | simp) only [↓sbD, sbU, tyB, Nat.reduceMul, Nat.reduceSub, Int.reduceEq, Int.reduceLT, Int.reduceLE, Int.reduceNe, Nat.reduceBneDiff, Nat.reduceBEq, decide_false, gt_iff_lt, Bool.or_self, Bool.false_eq_true, Nat.mul_one, Nat.one_mul, Nat.zero_mul, ↓reduceIte, Nat.reduceEqDiff, Nat.reduceLT, Nat.reduceAdd, Nat.reduceLeDiff, reduceCtorEq, goInt, pairs, isConst, TI.isAgg, splice, boxS, Edp, dpv, Nat.beq_eq, ZV.val, List.any_cons, List.any_nil, AS_new, zeCfg']
  intro c hc d hd
  have hcr : c ≠ r := by rintro rfl; exact hlive hc
  have hdc : d ≠ c := by rintro rfl; rw [AHeap.get_set_same] at hd; cases hd
  have hd0 : σ.get d = .dead := by rw [AHeap.get_set_ne _ _ hdc.symm] at hd; exact hd
  have hdr : d ≠ r := by rintro rfl; exact hlive hd0
  have dc : ∀ (τ : AHeap) o, (AHeap.set τ d o).get c = τ.get c := fun τ o => AHeap.get_set_ne _ _ hdc
  generalize hσ1 : AHeap.set (AHeap.set (AHeap.set σ c _) d _) d _ = τ0
  have K0 : Kept σ [r] τ0 [r] := by rw [← hσ1]; exact (((Kept.refl σ [r]).setD hc).setD hd0).setD hd0
  have y0 : YC τ0 r s R [] := by rw [← hσ1]; exact ((hy.set hcr).set hdr).set hdr
  have gd0 : τ0.get d = .cells [.int .i64 0, .int .i64 0, .int .i64 0, .int .i64 0, .int .i64 0, .int .i64 0, .int .i64 0, .int .i64 0, .int .i64 0, .int .i64 0, .int .i64 0, .int .i64 0, .int .i64 0] true 0 := by rw [← hσ1]; exact AHeap.get_set_same _ _ _
  have gc0 : τ0.get c = .cells [.int .i64 0, .int .i64 0, .int .i64 0, .int .i64 0, .int .i64 0, .int .i64 0, .int .i64 0, .int .i64 0, .int .i64 0, .int .i64 0, .int .i64 0, .int .i64 0, .int .i64 0] true 0 := by rw [← hσ1, dc, dc]; exact AHeap.get_set_same _ _ _
  clear hσ1 hd hy
  refine specYU32C (cs := []) y0 (by simp) hs fun x0 σ1 k1 w1 => ?_
  have hd1 := (k1.at gd0 (by simp) (by simpa using hdr)).1
  have hc1 := (k1.at gc0 (by simp) (by simpa using hcr)).1
  simp (disch := first | assumption | simp) only [↓sbD, sbU, tyB, Nat.reduceMul, Nat.reduceSub, Int.reduceEq, Int.reduceLT, Int.reduceLE, Int.reduceNe, Nat.reduceBneDiff, Nat.reduceBEq, decide_false, gt_iff_lt, Bool.or_self, Bool.false_eq_true, Nat.mul_one, Nat.one_mul, Nat.zero_mul, ↓reduceIte, Nat.reduceEqDiff, Nat.reduceLT, Nat.reduceAdd, Nat.reduceLeDiff, reduceCtorEq, goInt, pairs, isConst, TI.isAgg, splice, boxS, Edp, dpv, Nat.beq_eq, ZV.val, List.any_cons, List.any_nil, hd1]
  generalize hτ : AHeap.set σ1 d _ = τ1
  have K1 : Kept σ [r] τ1 [r] := by rw [← hτ]; exact (K0.trans k1).setD hd0
  have y1 : YC τ1 r s R [x0] := by rw [← hτ]; exact w1.set hdr
  have gd1 : τ1.get d = .cells [.int .i64 x0, .int .i64 0, .int .i64 0, .int .i64 0, .int .i64 0, .int .i64 0, .int .i64 0, .int .i64 0, .int .i64 0, .int .i64 0, .int .i64 0, .int .i64 0, .int .i64 0] true 0 := by rw [← hτ]; exact AHeap.get_set_same _ _ _
  have gc1 : τ1.get c = .cells [.int .i64 0, .int .i64 0, .int .i64 0, .int .i64 0, .int .i64 0, .int .i64 0, .int .i64 0, .int .i64 0, .int .i64 0, .int .i64 0, .int .i64 0, .int .i64 0, .int .i64 0] true 0 := by rw [← hτ, dc]; exact hc1
  clear hτ gd0 gc0 hd1 hc1 w1 y0
  refine specYU32C (cs := [x0]) y1 (by simp) hs fun x1 σ2 k2 w2 => ?_
  have hd2 := (k2.at gd1 (by simp) (by simpa using hdr)).1
  have hc2 := (k2.at gc1 (by simp) (by simpa using hcr)).1
  simp (disch := first | assumption | simp) only [↓sbD, sbU, tyB, Nat.reduceMul, Nat.reduceSub, Int.reduceEq, Int.reduceLT, Int.reduceLE, Int.reduceNe, Nat.reduceBneDiff, Nat.reduceBEq, decide_false, gt_iff_lt, Bool.or_self, Bool.false_eq_true, Nat.mul_one, Nat.one_mul, Nat.zero_mul, ↓reduceIte, Nat.reduceEqDiff, Nat.reduceLT, Nat.reduceAdd, Nat.reduceLeDiff, reduceCtorEq, goInt, pairs, isConst, TI.isAgg, splice, boxS, Edp, dpv, Nat.beq_eq, ZV.val, List.any_cons, List.any_nil, hd2]
  generalize hτ : AHeap.set σ2 d _ = τ2
  have K2 : Kept σ [r] τ2 [r] := by rw [← hτ]; exact (K1.trans k2).setD hd0
  have y2 : YC τ2 r s R [x0, x1] := by rw [← hτ]; exact w2.set hdr
  have gd2 : τ2.get d = .cells [.int .i64 x0, .int .i64 x1, .int .i64 0, .int .i64 0, .int .i64 0, .int .i64 0, .int .i64 0, .int .i64 0, .int .i64 0, .int .i64 0, .int .i64 0, .int .i64 0, .int .i64 0] true 0 := by rw [← hτ]; exact AHeap.get_set_same _ _ _
  have gc2 : τ2.get c = .cells [.int .i64 0, .int .i64 0, .int .i64 0, .int .i64 0, .int .i64 0, .int .i64 0, .int .i64 0, .int .i64 0, .int .i64 0, .int .i64 0, .int .i64 0, .int .i64 0, .int .i64 0] true 0 := by rw [← hτ, dc]; exact hc2
  clear hτ gd1 gc1 hd2 hc2 w2 y1
  refine specYU32C (cs := [x0, x1]) y2 (by simp) hs fun x2 σ3 k3 w3 => ?_
  have hd3 := (k3.at gd2 (by simp) (by simpa using hdr)).1
  have hc3 := (k3.at gc2 (by simp) (by simpa using hcr)).1
  simp (disch := first | assumption | simp) only [↓sbD, sbU, tyB, Nat.reduceMul, Nat.reduceSub, Int.reduceEq, Int.reduceLT, Int.reduceLE, Int.reduceNe, Nat.reduceBneDiff, Nat.reduceBEq, decide_false, gt_iff_lt, Bool.or_self, Bool.false_eq_true, Nat.mul_one, Nat.one_mul, Nat.zero_mul, ↓reduceIte, Nat.reduceEqDiff, Nat.reduceLT, Nat.reduceAdd, Nat.reduceLeDiff, reduceCtorEq, goInt, pairs, isConst, TI.isAgg, splice, boxS, Edp, dpv, Nat.beq_eq, ZV.val, List.any_cons, List.any_nil, hd3]
  generalize hτ : AHeap.set σ3 d _ = τ3
  have K3 : Kept σ [r] τ3 [r] := by rw [← hτ]; exact (K2.trans k3).setD hd0
  have y3 : YC τ3 r s R [x0, x1, x2] := by rw [← hτ]; exact w3.set hdr
  have gd3 : τ3.get d = .cells [.int .i64 x0, .int .i64 x1, .int .i64 x2, .int .i64 0, .int .i64 0, .int .i64 0, .int .i64 0, .int .i64 0, .int .i64 0, .int .i64 0, .int .i64 0, .int .i64 0, .int .i64 0] true 0 := by rw [← hτ]; exact AHeap.get_set_same _ _ _
  have gc3 : τ3.get c = .cells [.int .i64 0, .int .i64 0, .int .i64 0, .int .i64 0, .int .i64 0, .int .i64 0, .int .i64 0, .int .i64 0, .int .i64 0, .int .i64 0, .int .i64 0, .int .i64 0, .int .i64 0] true 0 := by rw [← hτ, dc]; exact hc3
  clear hτ gd2 gc2 hd3 hc3 w3 y2
  refine specYU32C (cs := [x0, x1, x2]) y3 (by simp) hs fun x3 σ4 k4 w4 => ?_
  have hd4 := (k4.at gd3 (by simp) (by simpa using hdr)).1
  have hc4 := (k4.at gc3 (by simp) (by simpa using hcr)).1
  simp (disch := first | assumption | simp) only [↓sbD, sbU, tyB, Nat.reduceMul, Nat.reduceSub, Int.reduceEq, Int.reduceLT, Int.reduceLE, Int.reduceNe, Nat.reduceBneDiff, Nat.reduceBEq, decide_false, gt_iff_lt, Bool.or_self, Bool.false_eq_true, Nat.mul_one, Nat.one_mul, Nat.zero_mul, ↓reduceIte, Nat.reduceEqDiff, Nat.reduceLT, Nat.reduceAdd, Nat.reduceLeDiff, reduceCtorEq, goInt, pairs, isConst, TI.isAgg, splice, boxS, Edp, dpv, Nat.beq_eq, ZV.val, List.any_cons, List.any_nil, hd4]
  generalize hτ : AHeap.set σ4 d _ = τ4
  have K4 : Kept σ [r] τ4 [r] := by rw [← hτ]; exact (K3.trans k4).setD hd0
  have y4 : YC τ4 r s R [x0, x1, x2, x3] := by rw [← hτ]; exact w4.set hdr
  have gd4 : τ4.get d = .cells [.int .i64 x0, .int .i64 x1, .int .i64 x2, .int .i64 x3, .int .i64 0, .int .i64 0, .int .i64 0, .int .i64 0, .int .i64 0, .int .i64 0, .int .i64 0, .int .i64 0, .int .i64 0] true 0 := by rw [← hτ]; exact AHeap.get_set_same _ _ _
  have gc4 : τ4.get c = .cells [.int .i64 0, .int .i64 0, .int .i64 0, .int .i64 0, .int .i64 0, .int .i64 0, .int .i64 0, .int .i64 0, .int .i64 0, .int .i64 0, .int .i64 0, .int .i64 0, .int .i64 0] true 0 := by rw [← hτ, dc]; exact hc4
  clear hτ gd3 gc3 hd4 hc4 w4 y3
  refine specYU32C (cs := [x0, x1, x2, x3]) y4 (by simp) hs fun x4 σ5 k5 w5 => ?_
  have hd5 := (k5.at gd4 (by simp) (by simpa using hdr)).1
  have hc5 := (k5.at gc4 (by simp) (by simpa using hcr)).1
  simp (disch := first | assumption | simp) only [↓sbD, sbU, tyB, Nat.reduceMul, Nat.reduceSub, Int.reduceEq, Int.reduceLT, Int.reduceLE, Int.reduceNe, Nat.reduceBneDiff, Nat.reduceBEq, decide_false, gt_iff_lt, Bool.or_self, Bool.false_eq_true, Nat.mul_one, Nat.one_mul, Nat.zero_mul, ↓reduceIte, Nat.reduceEqDiff, Nat.reduceLT, Nat.reduceAdd, Nat.reduceLeDiff, reduceCtorEq, goInt, pairs, isConst, TI.isAgg, splice, boxS, Edp, dpv, Nat.beq_eq, ZV.val, List.any_cons, List.any_nil, hd5]
  generalize hτ : AHeap.set σ5 d _ = τ5
  have K5 : Kept σ [r] τ5 [r] := by rw [← hτ]; exact (K4.trans k5).setD hd0
  have y5 : YC τ5 r s R [x0, x1, x2, x3, x4] := by rw [← hτ]; exact w5.set hdr
  have gd5 : τ5.get d = .cells [.int .i64 x0, .int .i64 x1, .int .i64 x2, .int .i64 x3, .int .i64 x4, .int .i64 0, .int .i64 0, .int .i64 0, .int .i64 0, .int .i64 0, .int .i64 0, .int .i64 0, .int .i64 0] true 0 := by rw [← hτ]; exact AHeap.get_set_same _ _ _
  have gc5 : τ5.get c = .cells [.int .i64 0, .int .i64 0, .int .i64 0, .int .i64 0, .int .i64 0, .int .i64 0, .int .i64 0, .int .i64 0, .int .i64 0, .int .i64 0, .int .i64 0, .int .i64 0, .int .i64 0] true 0 := by rw [← hτ, dc]; exact hc5
  clear hτ gd4 gc4 hd5 hc5 w5 y4
  refine specYU32C (cs := [x0, x1, x2, x3, x4]) y5 (by simp) hs fun x5 σ6 k6 w6 => ?_
  have hd6 := (k6.at gd5 (by simp) (by simpa using hdr)).1
  have hc6 := (k6.at gc5 (by simp) (by simpa using hcr)).1
  simp (disch := first | assumption | simp) only [↓sbD, sbU, tyB, Nat.reduceMul, Nat.reduceSub, Int.reduceEq, Int.reduceLT, Int.reduceLE, Int.reduceNe, Nat.reduceBneDiff, Nat.reduceBEq, decide_false, gt_iff_lt, Bool.or_self, Bool.false_eq_true, Nat.mul_one, Nat.one_mul, Nat.zero_mul, ↓reduceIte, Nat.reduceEqDiff, Nat.reduceLT, Nat.reduceAdd, Nat.reduceLeDiff, reduceCtorEq, goInt, pairs, isConst, TI.isAgg, splice, boxS, Edp, dpv, Nat.beq_eq, ZV.val, List.any_cons, List.any_nil, hd6]
  generalize hτ : AHeap.set σ6 d _ = τ6
  have K6 : Kept σ [r] τ6 [r] := by rw [← hτ]; exact (K5.trans k6).setD hd0
  have y6 : YC τ6 r s R [x0, x1, x2, x3, x4, x5] := by rw [← hτ]; exact w6.set hdr
  have gd6 : τ6.get d = .cells [.int .i64 x0, .int .i64 x1, .int .i64 x2, .int .i64 x3, .int .i64 x4, .int .i64 x5, .int .i64 0, .int .i64 0, .int .i64 0, .int .i64 0, .int .i64 0, .int .i64 0, .int .i64 0] true 0 := by rw [← hτ]; exact AHeap.get_set_same _ _ _
  have gc6 : τ6.get c = .cells [.int .i64 0, .int .i64 0, .int .i64 0, .int .i64 0, .int .i64 0, .int .i64 0, .int .i64 0, .int .i64 0, .int .i64 0, .int .i64 0, .int .i64 0, .int .i64 0, .int .i64 0] true 0 := by rw [← hτ, dc]; exact hc6
  clear hτ gd5 gc5 hd6 hc6 w6 y5
  refine specYU32C (cs := [x0, x1, x2, x3, x4, x5]) y6 (by simp) hs fun x6 σ7 k7 w7 => ?_
  have hd7 := (k7.at gd6 (by simp) (by simpa using hdr)).1
  have hc7 := (k7.at gc6 (by simp) (by simpa using hcr)).1
  simp (disch := first | assumption | simp) only [↓sbD, sbU, tyB, Nat.reduceMul, Nat.reduceSub, Int.reduceEq, Int.reduceLT, Int.reduceLE, Int.reduceNe, Nat.reduceBneDiff, Nat.reduceBEq, decide_false, gt_iff_lt, Bool.or_self, Bool.false_eq_true, Nat.mul_one, Nat.one_mul, Nat.zero_mul, ↓reduceIte, Nat.reduceEqDiff, Nat.reduceLT, Nat.reduceAdd, Nat.reduceLeDiff, reduceCtorEq, goInt, pairs, isConst, TI.isAgg, splice, boxS, Edp, dpv, Nat.beq_eq, ZV.val, List.any_cons, List.any_nil, hd7]
  generalize hτ : AHeap.set σ7 d _ = τ7
  have K7 : Kept σ [r] τ7 [r] := by rw [← hτ]; exact (K6.trans k7).setD hd0
  have y7 : YC τ7 r s R [x0, x1, x2, x3, x4, x5, x6] := by rw [← hτ]; exact w7.set hdr
  have gd7 : τ7.get d = .cells [.int .i64 x0, .int .i64 x1, .int .i64 x2, .int .i64 x3, .int .i64 x4, .int .i64 x5, .int .i64 x6, .int .i64 0, .int .i64 0, .int .i64 0, .int .i64 0, .int .i64 0, .int .i64 0] true 0 := by rw [← hτ]; exact AHeap.get_set_same _ _ _
  have gc7 : τ7.get c = .cells [.int .i64 0, .int .i64 0, .int .i64 0, .int .i64 0, .int .i64 0, .int .i64 0, .int .i64 0, .int .i64 0, .int .i64 0, .int .i64 0, .int .i64 0, .int .i64 0, .int .i64 0] true 0 := by rw [← hτ, dc]; exact hc7
  clear hτ gd6 gc6 hd7 hc7 w7 y6
  refine specYU32C (cs := [x0, x1, x2, x3, x4, x5, x6]) y7 (by simp) hs fun x7 σ8 k8 w8 => ?_
  have hd8 := (k8.at gd7 (by simp) (by simpa using hdr)).1
  have hc8 := (k8.at gc7 (by simp) (by simpa using hcr)).1
  simp (disch := first | assumption | simp) only [↓sbD, sbU, tyB, Nat.reduceMul, Nat.reduceSub, Int.reduceEq, Int.reduceLT, Int.reduceLE, Int.reduceNe, Nat.reduceBneDiff, Nat.reduceBEq, decide_false, gt_iff_lt, Bool.or_self, Bool.false_eq_true, Nat.mul_one, Nat.one_mul, Nat.zero_mul, ↓reduceIte, Nat.reduceEqDiff, Nat.reduceLT, Nat.reduceAdd, Nat.reduceLeDiff, reduceCtorEq, goInt, pairs, isConst, TI.isAgg, splice, boxS, Edp, dpv, Nat.beq_eq, ZV.val, List.any_cons, List.any_nil, hd8]
  generalize hτ : AHeap.set σ8 d _ = τ8
  have K8 : Kept σ [r] τ8 [r] := by rw [← hτ]; exact (K7.trans k8).setD hd0
  have y8 : YC τ8 r s R [x0, x1, x2, x3, x4, x5, x6, x7] := by rw [← hτ]; exact w8.set hdr
  have gd8 : τ8.get d = .cells [.int .i64 x0, .int .i64 x1, .int .i64 x2, .int .i64 x3, .int .i64 x4, .int .i64 x5, .int .i64 x6, .int .i64 x7, .int .i64 0, .int .i64 0, .int .i64 0, .int .i64 0, .int .i64 0] true 0 := by rw [← hτ]; exact AHeap.get_set_same _ _ _
  have gc8 : τ8.get c = .cells [.int .i64 0, .int .i64 0, .int .i64 0, .int .i64 0, .int .i64 0, .int .i64 0, .int .i64 0, .int .i64 0, .int .i64 0, .int .i64 0, .int .i64 0, .int .i64 0, .int .i64 0] true 0 := by rw [← hτ, dc]; exact hc8
  clear hτ gd7 gc7 hd8 hc8 w8 y7
  refine specYU32C (cs := [x0, x1, x2, x3, x4, x5, x6, x7]) y8 (by simp) hs fun x8 σ9 k9 w9 => ?_
  have hd9 := (k9.at gd8 (by simp) (by simpa using hdr)).1
  have hc9 := (k9.at gc8 (by simp) (by simpa using hcr)).1
  simp (disch := first | assumption | simp) only [↓sbD, sbU, tyB, Nat.reduceMul, Nat.reduceSub, Int.reduceEq, Int.reduceLT, Int.reduceLE, Int.reduceNe, Nat.reduceBneDiff, Nat.reduceBEq, decide_false, gt_iff_lt, Bool.or_self, Bool.false_eq_true, Nat.mul_one, Nat.one_mul, Nat.zero_mul, ↓reduceIte, Nat.reduceEqDiff, Nat.reduceLT, Nat.reduceAdd, Nat.reduceLeDiff, reduceCtorEq, goInt, pairs, isConst, TI.isAgg, splice, boxS, Edp, dpv, Nat.beq_eq, ZV.val, List.any_cons, List.any_nil, hd9]
  generalize hτ : AHeap.set σ9 d _ = τ9
  have K9 : Kept σ [r] τ9 [r] := by rw [← hτ]; exact (K8.trans k9).setD hd0
  have y9 : YC τ9 r s R [x0, x1, x2, x3, x4, x5, x6, x7, x8] := by rw [← hτ]; exact w9.set hdr
  have gd9 : τ9.get d = .cells [.int .i64 x0, .int .i64 x1, .int .i64 x2, .int .i64 x3, .int .i64 x4, .int .i64 x5, .int .i64 x6, .int .i64 x7, .int .i64 x8, .int .i64 0, .int .i64 0, .int .i64 0, .int .i64 0] true 0 := by rw [← hτ]; exact AHeap.get_set_same _ _ _
  have gc9 : τ9.get c = .cells [.int .i64 0, .int .i64 0, .int .i64 0, .int .i64 0, .int .i64 0, .int .i64 0, .int .i64 0, .int .i64 0, .int .i64 0, .int .i64 0, .int .i64 0, .int .i64 0, .int .i64 0] true 0 := by rw [← hτ, dc]; exact hc9
  clear hτ gd8 gc8 hd9 hc9 w9 y8
  refine specYU32C (cs := [x0, x1, x2, x3, x4, x5, x6, x7, x8]) y9 (by simp) hs fun x9 σ10 k10 w10 => ?_
  have hd10 := (k10.at gd9 (by simp) (by simpa using hdr)).1
  have hc10 := (k10.at gc9 (by simp) (by simpa using hcr)).1
  simp (disch := first | assumption | simp) only [↓sbD, sbU, tyB, Nat.reduceMul, Nat.reduceSub, Int.reduceEq, Int.reduceLT, Int.reduceLE, Int.reduceNe, Nat.reduceBneDiff, Nat.reduceBEq, decide_false, gt_iff_lt, Bool.or_self, Bool.false_eq_true, Nat.mul_one, Nat.one_mul, Nat.zero_mul, ↓reduceIte, Nat.reduceEqDiff, Nat.reduceLT, Nat.reduceAdd, Nat.reduceLeDiff, reduceCtorEq, goInt, pairs, isConst, TI.isAgg, splice, boxS, Edp, dpv, Nat.beq_eq, ZV.val, List.any_cons, List.any_nil, hd10]
  generalize hτ : AHeap.set σ10 d _ = τ10
  have K10 : Kept σ [r] τ10 [r] := by rw [← hτ]; exact (K9.trans k10).setD hd0
  have y10 : YC τ10 r s R [x0, x1, x2, x3, x4, x5, x6, x7, x8, x9] := by rw [← hτ]; exact w10.set hdr
  have gd10 : τ10.get d = .cells [.int .i64 x0, .int .i64 x1, .int .i64 x2, .int .i64 x3, .int .i64 x4, .int .i64 x5, .int .i64 x6, .int .i64 x7, .int .i64 x8, .int .i64 x9, .int .i64 0, .int .i64 0, .int .i64 0] true 0 := by rw [← hτ]; exact AHeap.get_set_same _ _ _
  have gc10 : τ10.get c = .cells [.int .i64 0, .int .i64 0, .int .i64 0, .int .i64 0, .int .i64 0, .int .i64 0, .int .i64 0, .int .i64 0, .int .i64 0, .int .i64 0, .int .i64 0, .int .i64 0, .int .i64 0] true 0 := by rw [← hτ, dc]; exact hc10
  clear hτ gd9 gc9 hd10 hc10 w10 y9
  refine specYU32C (cs := [x0, x1, x2, x3, x4, x5, x6, x7, x8, x9]) y10 (by simp) hs fun x10 σ11 k11 w11 => ?_
  have hd11 := (k11.at gd10 (by simp) (by simpa using hdr)).1
  have hc11 := (k11.at gc10 (by simp) (by simpa using hcr)).1
  simp (disch := first | assumption | simp) only [↓sbD, sbU, tyB, Nat.reduceMul, Nat.reduceSub, Int.reduceEq, Int.reduceLT, Int.reduceLE, Int.reduceNe, Nat.reduceBneDiff, Nat.reduceBEq, decide_false, gt_iff_lt, Bool.or_self, Bool.false_eq_true, Nat.mul_one, Nat.one_mul, Nat.zero_mul, ↓reduceIte, Nat.reduceEqDiff, Nat.reduceLT, Nat.reduceAdd, Nat.reduceLeDiff, reduceCtorEq, goInt, pairs, isConst, TI.isAgg, splice, boxS, Edp, dpv, Nat.beq_eq, ZV.val, List.any_cons, List.any_nil, hd11]
  generalize hτ : AHeap.set σ11 d _ = τ11
  have K11 : Kept σ [r] τ11 [r] := by rw [← hτ]; exact (K10.trans k11).setD hd0
  have y11 : YC τ11 r s R [x0, x1, x2, x3, x4, x5, x6, x7, x8, x9, x10] := by rw [← hτ]; exact w11.set hdr
  have gd11 : τ11.get d = .cells [.int .i64 x0, .int .i64 x1, .int .i64 x2, .int .i64 x3, .int .i64 x4, .int .i64 x5, .int .i64 x6, .int .i64 x7, .int .i64 x8, .int .i64 x9, .int .i64 x10, .int .i64 0, .int .i64 0] true 0 := by rw [← hτ]; exact AHeap.get_set_same _ _ _
  have gc11 : τ11.get c = .cells [.int .i64 0, .int .i64 0, .int .i64 0, .int .i64 0, .int .i64 0, .int .i64 0, .int .i64 0, .int .i64 0, .int .i64 0, .int .i64 0, .int .i64 0, .int .i64 0, .int .i64 0] true 0 := by rw [← hτ, dc]; exact hc11
  clear hτ gd10 gc10 hd11 hc11 w11 y10
  refine specYU32C (cs := [x0, x1, x2, x3, x4, x5, x6, x7, x8, x9, x10]) y11 (by simp) hs fun x11 σ12 k12 w12 => ?_
  have hd12 := (k12.at gd11 (by simp) (by simpa using hdr)).1
  have hc12 := (k12.at gc11 (by simp) (by simpa using hcr)).1
  simp (disch := first | assumption | simp) only [↓sbD, sbU, tyB, Nat.reduceMul, Nat.reduceSub, Int.reduceEq, Int.reduceLT, Int.reduceLE, Int.reduceNe, Nat.reduceBneDiff, Nat.reduceBEq, decide_false, gt_iff_lt, Bool.or_self, Bool.false_eq_true, Nat.mul_one, Nat.one_mul, Nat.zero_mul, ↓reduceIte, Nat.reduceEqDiff, Nat.reduceLT, Nat.reduceAdd, Nat.reduceLeDiff, reduceCtorEq, goInt, pairs, isConst, TI.isAgg, splice, boxS, Edp, dpv, Nat.beq_eq, ZV.val, List.any_cons, List.any_nil, hd12]
  generalize hτ : AHeap.set σ12 d _ = τ12
  have K12 : Kept σ [r] τ12 [r] := by rw [← hτ]; exact (K11.trans k12).setD hd0
  have y12 : YC τ12 r s R [x0, x1, x2, x3, x4, x5, x6, x7, x8, x9, x10, x11] := by rw [← hτ]; exact w12.set hdr
  have gd12 : τ12.get d = .cells [.int .i64 x0, .int .i64 x1, .int .i64 x2, .int .i64 x3, .int .i64 x4, .int .i64 x5, .int .i64 x6, .int .i64 x7, .int .i64 x8, .int .i64 x9, .int .i64 x10, .int .i64 x11, .int .i64 0] true 0 := by rw [← hτ]; exact AHeap.get_set_same _ _ _
  have gc12 : τ12.get c = .cells [.int .i64 0, .int .i64 0, .int .i64 0, .int .i64 0, .int .i64 0, .int .i64 0, .int .i64 0, .int .i64 0, .int .i64 0, .int .i64 0, .int .i64 0, .int .i64 0, .int .i64 0] true 0 := by rw [← hτ, dc]; exact hc12
  clear hτ gd11 gc11 hd12 hc12 w12 y11
  refine specYU32C (cs := [x0, x1, x2, x3, x4, x5, x6, x7, x8, x9, x10, x11]) y12 (by simp) hs fun x12 σ13 k13 w13 => ?_
  have hd13 := (k13.at gd12 (by simp) (by simpa using hdr)).1
  have hc13 := (k13.at gc12 (by simp) (by simpa using hcr)).1
  simp (disch := first | assumption | simp) only [↓sbD, sbU, tyB, Nat.reduceMul, Nat.reduceSub, Int.reduceEq, Int.reduceLT, Int.reduceLE, Int.reduceNe, Nat.reduceBneDiff, Nat.reduceBEq, decide_false, gt_iff_lt, Bool.or_self, Bool.false_eq_true, Nat.mul_one, Nat.one_mul, Nat.zero_mul, ↓reduceIte, Nat.reduceEqDiff, Nat.reduceLT, Nat.reduceAdd, Nat.reduceLeDiff, reduceCtorEq, goInt, pairs, isConst, TI.isAgg, splice, boxS, Edp, dpv, Nat.beq_eq, ZV.val, List.any_cons, List.any_nil, hd13, dc, hc13, res_cellc, resC_some]
  exact downS_here (hq [x0, x1, x2, x3, x4, x5, x6, x7, x8, x9, x10, x11, x12] _ rfl (((K12.trans k13).setD hd0).setD hc) ((w13.set hdr).set hcr))
theorem specYMay {n : Int} (h : Q (.bool (decide (1 ≤ n ∧ n ≤ 7))) σ) : CallS E B 82 [.int .i64 n] σ Q := by
  refine call82 (by simp) ?_
  simp only [strip, bodyOf, Tryd.f82, getD_body, keepN, bareOp_mk, lessOp_mk, lapp_cons, lapp_nil, List.map_cons, List.map_nil, array_toList, ↓reduceIte, Nat.reduceEqDiff, Bool.false_eq_true]
  by_cases h1 : 1 ≤ n
  · by_cases h2 : n ≤ 7
    · simp (disch := first | assumption | simp) only [↓sbD, sbU, tyB, Nat.reduceMul, Nat.reduceSub, Int.reduceEq, Int.reduceLT, Int.reduceLE, Int.reduceNe, Nat.reduceBneDiff, Nat.reduceBEq, decide_false, gt_iff_lt, Bool.or_self, Bool.false_eq_true, Nat.mul_one, Nat.one_mul, Nat.zero_mul, ↓reduceIte, Nat.reduceEqDiff, Nat.reduceLT, Nat.reduceAdd, Nat.reduceLeDiff, reduceCtorEq, goInt, pairs, isConst, TI.isAgg, splice, boxS, Edp, dpv, Nat.beq_eq, ZV.val, List.any_cons, List.any_nil, h1, h2]; exact downS_here (by simpa [h1, h2] using h)
    · simp (disch := first | assumption | simp) only [↓sbD, sbU, tyB, Nat.reduceMul, Nat.reduceSub, Int.reduceEq, Int.reduceLT, Int.reduceLE, Int.reduceNe, Nat.reduceBneDiff, Nat.reduceBEq, decide_false, gt_iff_lt, Bool.or_self, Bool.false_eq_true, Nat.mul_one, Nat.one_mul, Nat.zero_mul, ↓reduceIte, Nat.reduceEqDiff, Nat.reduceLT, Nat.reduceAdd, Nat.reduceLeDiff, reduceCtorEq, goInt, pairs, isConst, TI.isAgg, splice, boxS, Edp, dpv, Nat.beq_eq, ZV.val, List.any_cons, List.any_nil, h1, h2]; exact downS_here (by simpa [h1, h2] using h)
  · simp (disch := first | assumption | simp) only [↓sbD, sbU, tyB, Nat.reduceMul, Nat.reduceSub, Int.reduceEq, Int.reduceLT, Int.reduceLE, Int.reduceNe, Nat.reduceBneDiff, Nat.reduceBEq, decide_false, gt_iff_lt, Bool.or_self, Bool.false_eq_true, Nat.mul_one, Nat.one_mul, Nat.zero_mul, ↓reduceIte, Nat.reduceEqDiff, Nat.reduceLT, Nat.reduceAdd, Nat.reduceLeDiff, reduceCtorEq, goInt, pairs, isConst, TI.isAgg, splice, boxS, Edp, dpv, Nat.beq_eq, ZV.val, List.any_cons, List.any_nil, h1]; exact downS_here (by simpa [h1] using h)
theorem specYOf {e a : Int} (hr : IsY σ r s p e a) (hp : p ≤ s.size) (hend : e = 0 → p = s.size → Q (flt 0 0 0) σ) (hmore : e = 0 → p < s.size → Q (flt 2 129 p) σ) (hbad : e ≠ 0 → Q (flt e 129 a) σ) : CallS E B 76 [.pointer (some ⟨r, 0, none⟩)] σ Q := by
  refine call76 (by simp) ?_
  simp only [strip, bodyOf, Tryd.f76, getD_body, keepN, bareOp_mk, lessOp_mk, lapp_cons, lapp_nil, List.map_cons, List.map_nil, array_toList, ↓reduceIte, Nat.reduceEqDiff, Bool.false_eq_true]
  simp (disch := first | assumption | simp) only [↓sbD, sbU, tyB, Nat.reduceMul, Nat.reduceSub, Int.reduceEq, Int.reduceLT, Int.reduceLE, Int.reduceNe, Nat.reduceBneDiff, Nat.reduceBEq, decide_false, gt_iff_lt, Bool.or_self, Bool.false_eq_true, Nat.mul_one, Nat.one_mul, Nat.zero_mul, ↓reduceIte, Nat.reduceEqDiff, Nat.reduceLT, Nat.reduceAdd, Nat.reduceLeDiff, reduceCtorEq, goInt, pairs, isConst, TI.isAgg, splice, boxS, Edp, dpv, Nat.beq_eq, ZV.val, List.any_cons, List.any_nil, AS_new, zeFlt]
  intro c hc
  have hcr : c ≠ r := by rintro rfl; rw [show σ.get c = _ from hr] at hc; cases hc
  have hr2 : ∀ o, IsY (AHeap.set σ c o) r s p e a := fun o => by unfold IsY; rw [AHeap.get_set_ne _ _ hcr]; exact hr
  refine specYDone (hr2 _) (fun he hpe => ?_) (fun he hpe => ?_) (fun he => ?_) hp
  · simp (disch := first | assumption | simp) only [↓sbD, sbU, tyB, Nat.reduceMul, Nat.reduceSub, Int.reduceEq, Int.reduceLT, Int.reduceLE, Int.reduceNe, Nat.reduceBneDiff, Nat.reduceBEq, decide_false, gt_iff_lt, Bool.or_self, Bool.false_eq_true, Nat.mul_one, Nat.one_mul, Nat.zero_mul, ↓reduceIte, Nat.reduceEqDiff, Nat.reduceLT, Nat.reduceAdd, Nat.reduceLeDiff, reduceCtorEq, goInt, pairs, isConst, TI.isAgg, splice, boxS, Edp, dpv, Nat.beq_eq, ZV.val, List.any_cons, List.any_nil]
    exact downS_le (Le.new' (Le.new hc) hc) (hend he hpe)
  · simp (disch := first | assumption | simp) only [↓sbD, sbU, tyB, Nat.reduceMul, Nat.reduceSub, Int.reduceEq, Int.reduceLT, Int.reduceLE, Int.reduceNe, Nat.reduceBneDiff, Nat.reduceBEq, decide_false, gt_iff_lt, Bool.or_self, Bool.false_eq_true, Nat.mul_one, Nat.one_mul, Nat.zero_mul, ↓reduceIte, Nat.reduceEqDiff, Nat.reduceLT, Nat.reduceAdd, Nat.reduceLeDiff, reduceCtorEq, goInt, pairs, isConst, TI.isAgg, splice, boxS, Edp, dpv, Nat.beq_eq, ZV.val, List.any_cons, List.any_nil]
    exact downS_le (Le.new' (Le.new hc) hc) (hmore he hpe)
  · simp (disch := first | assumption | simp) only [↓sbD, sbU, tyB, Nat.reduceMul, Nat.reduceSub, Int.reduceEq, Int.reduceLT, Int.reduceLE, Int.reduceNe, Nat.reduceBneDiff, Nat.reduceBEq, decide_false, gt_iff_lt, Bool.or_self, Bool.false_eq_true, Nat.mul_one, Nat.one_mul, Nat.zero_mul, ↓reduceIte, Nat.reduceEqDiff, Nat.reduceLT, Nat.reduceAdd, Nat.reduceLeDiff, reduceCtorEq, goInt, pairs, isConst, TI.isAgg, splice, boxS, Edp, dpv, Nat.beq_eq, ZV.val, List.any_cons, List.any_nil, he]
    exact downS_le (Le.new' (Le.new hc) hc) (hbad he)
/-- the document's error of a config -/
def cfgF : Option Nat → Value
  | none => flt 0 0 0
  | some i => flt 7 131 i
end
end Go.Proofs.YtccimdfmddomaaaDoor.AbsA
namespace Go.Proofs.YtccimdfmddomaaaDoor.AbsA
open Go AbsYtccimdfmddomaaaDoor Abs
set_option maxRecDepth 100000
set_option maxHeartbeats 4000000
set_option linter.unusedSimpArgs false
set_option linter.unusedVariables false
attribute [local irreducible] afterS afterOpS opSK OpsS TrS CodeS condS condW thenS thenQ guardS guardTS outS drawS trSK consS
def loL : List Int := [1, 64, 1, 0, 0, 0, 64, 0, 1, 0, 0, 0, 0]
def hiL : List Int := [8, 65536, 65535, 65535, 65536, 65536, 1048576, 16777216, 8, 65536, 65535, 4294967295, 4294967295]
section
variable {σ : AHeap} {Q : Value → AHeap → Prop} {r p : Nat} {s : ByteArray}
theorem zeArr' : azero E 180 = some [.int .i64 0, .int .i64 0, .int .i64 0, .int .i64 0, .int .i64 0, .int .i64 0, .int .i64 0, .int .i64 0, .int .i64 0, .int .i64 0, .int .i64 0, .int .i64 0, .int .i64 0] := rfl
def arrT (i : Option TI) (zs : List Value) (ps : List (Nat × Value)) : Option Value := match i with
  | some j => aggS (lfill (fun k => some (k * j.size, j.size)) zs ps)
  | none => none
theorem buildT_arr {E : Env} {n e a b : Nat} {zs : List ZV} {q : Bool} {ps : List (Nat × Value)} : buildT E (some ⟨.arr n e, a, b, some zs, q⟩) ps = arrT (E.ty.get e) (zs.map ZV.val) ps := by
  simp only [buildT]
  cases E.ty.get e with
  | none => rfl
  | some j => simp only [arrT, aggS]; cases lfill (fun k => some (k * j.size, j.size)) (zs.map ZV.val) ps <;> rfl
theorem arrT_some {j : TI} {zs : List Value} {ps : List (Nat × Value)} : arrT (some j) zs ps = aggS (lfill (fun k => some (k * j.size, j.size)) zs ps) := rfl
theorem cfgC_at {l : List Int} {i : Nat} (h : i < l.length) : (cfgC l)[i]? = some (.int .i64 l[i]) := by
  unfold cfgC; rw [List.getElem?_map, List.getElem?_eq_getElem h]; rfl
theorem specUCheck {l : List Int} (hl : l.length = 13) (h : Q (cfgF (cfgBad 0 l bndL)) σ) : CallS E B 77 [.agg ⟨cfgC l⟩] σ Q := by
  obtain ⟨x0, x1, x2, x3, x4, x5, x6, x7, x8, x9, x10, x11, x12, he⟩ := len13 hl
  have hcl : cfgC l = [.int .i64 x0, .int .i64 x1, .int .i64 x2, .int .i64 x3, .int .i64 x4, .int .i64 x5, .int .i64 x6, .int .i64 x7, .int .i64 x8, .int .i64 x9, .int .i64 x10, .int .i64 x11, .int .i64 x12] := by rw [he]; rfl
  have hlo : cfgC loL = [.int .i64 1, .int .i64 64, .int .i64 1, .int .i64 0, .int .i64 0, .int .i64 0, .int .i64 64, .int .i64 0, .int .i64 1, .int .i64 0, .int .i64 0, .int .i64 0, .int .i64 0] := rfl
  have hhi : cfgC hiL = [.int .i64 8, .int .i64 65536, .int .i64 65535, .int .i64 65535, .int .i64 65536, .int .i64 65536, .int .i64 1048576, .int .i64 16777216, .int .i64 8, .int .i64 65536, .int .i64 65535, .int .i64 4294967295, .int .i64 4294967295] := rfl
  refine call77 (by simp) ?_
  simp only [strip, bodyOf, Tryd.f77, getD_body, keepN, bareOp_mk, lessOp_mk, lapp_cons, lapp_nil, List.map_cons, List.map_nil, array_toList, ↓reduceIte, Nat.reduceEqDiff, Bool.false_eq_true]
  rw [hcl]
  simp (disch := first | assumption | simp) only [↓sbD, sbU, tyB, Nat.reduceMul, Nat.reduceSub, Int.reduceEq, Int.reduceLT, Int.reduceLE, Int.reduceNe, Nat.reduceBneDiff, Nat.reduceBEq, decide_false, gt_iff_lt, Bool.or_self, Bool.false_eq_true, Nat.mul_one, Nat.one_mul, Nat.zero_mul, ↓reduceIte, Nat.reduceEqDiff, Nat.reduceLT, Nat.reduceAdd, Nat.reduceLeDiff, reduceCtorEq, goInt, pairs, isConst, TI.isAgg, splice, boxS, Edp, dpv, Nat.beq_eq, ZV.val, List.any_cons, List.any_nil, AS_new, dpC, zeFlt]
  intro b hb c hc
  have hcb : c ≠ b := by rintro rfl; rw [AHeap.get_set_same] at hc; cases hc
  have hc0 : σ.get c = .dead := by rw [AHeap.get_set_ne _ _ hcb.symm] at hc; exact hc
  generalize hσ1 : AHeap.set (AHeap.set σ b _) c _ = σ1
  have gb1 : σ1.get b = .cells [.int .i64 x0, .int .i64 x1, .int .i64 x2, .int .i64 x3, .int .i64 x4, .int .i64 x5, .int .i64 x6, .int .i64 x7, .int .i64 x8, .int .i64 x9, .int .i64 x10, .int .i64 x11, .int .i64 x12] true 0 := by rw [← hσ1, AHeap.get_set_ne _ _ hcb]; exact AHeap.get_set_same _ _ _
  have gc1 : σ1.get c = .cells [.int .i64 0, .int .i64 0, .int .i64 0] true 0 := by rw [← hσ1]; exact AHeap.get_set_same _ _ _
  have hle1 : Le σ σ1 := by rw [← hσ1]; exact Le.new' (Le.new hb) hc0
  clear hσ1
  simp (disch := first | assumption | simp) only [↓sbD, sbU, tyB, Nat.reduceMul, Nat.reduceSub, Int.reduceEq, Int.reduceLT, Int.reduceLE, Int.reduceNe, Nat.reduceBneDiff, Nat.reduceBEq, decide_false, gt_iff_lt, Bool.or_self, Bool.false_eq_true, Nat.mul_one, Nat.one_mul, Nat.zero_mul, ↓reduceIte, Nat.reduceEqDiff, Nat.reduceLT, Nat.reduceAdd, Nat.reduceLeDiff, reduceCtorEq, goInt, pairs, isConst, TI.isAgg, splice, boxS, Edp, dpv, Nat.beq_eq, ZV.val, List.any_cons, List.any_nil, gb1, AS_new, zeArr', buildT_arr, arrT_some]
  intro d3 h3 d4 h4 d5 h5
  have n34 : d4 ≠ d3 := by rintro rfl; rw [AHeap.get_set_same] at h4; cases h4
  have h4a : (AHeap.set σ1 d3 (.cells [.int .i64 0, .int .i64 0, .int .i64 0, .int .i64 0, .int .i64 0, .int .i64 0, .int .i64 0, .int .i64 0, .int .i64 0, .int .i64 0, .int .i64 0, .int .i64 0, .int .i64 0] true 0)).get d4 = .dead := by rw [AHeap.get_set_ne _ _ n34.symm] at h4; exact h4
  have h4b : σ1.get d4 = .dead := by rw [AHeap.get_set_ne _ _ n34.symm] at h4a; exact h4a
  have n45 : d5 ≠ d4 := by rintro rfl; rw [AHeap.get_set_same] at h5; cases h5
  have n35 : d5 ≠ d3 := by
    rintro rfl
    rw [AHeap.get_set_ne _ _ n45.symm, AHeap.get_set_ne _ _ n45.symm, AHeap.get_set_same] at h5; cases h5
  have h5b : σ1.get d5 = .dead := by
    rw [AHeap.get_set_ne _ _ n45.symm, AHeap.get_set_ne _ _ n45.symm, AHeap.get_set_ne _ _ n35.symm, AHeap.get_set_ne _ _ n35.symm] at h5; exact h5
  have hc3 : d3 ≠ c := by rintro rfl; rw [gc1] at h3; cases h3
  have hc4 : d4 ≠ c := by rintro rfl; rw [gc1] at h4b; cases h4b
  have hc5 : d5 ≠ c := by rintro rfl; rw [gc1] at h5b; cases h5b
  generalize hσ2 : AHeap.set (AHeap.set (AHeap.set (AHeap.set (AHeap.set (AHeap.set σ1 d3 _) d3 _) d4 _) d4 _) d5 _) d5 _ = σ2
  have g3 : σ2.get d3 = .cells (cfgC l) true 0 := by rw [hcl, ← hσ2, AHeap.get_set_ne _ _ n35, AHeap.get_set_ne _ _ n35, AHeap.get_set_ne _ _ n34, AHeap.get_set_ne _ _ n34]; exact AHeap.get_set_same _ _ _
  have g4 : σ2.get d4 = .cells (cfgC loL) true 0 := by rw [hlo, ← hσ2, AHeap.get_set_ne _ _ n45, AHeap.get_set_ne _ _ n45]; exact AHeap.get_set_same _ _ _
  have g5 : σ2.get d5 = .cells (cfgC hiL) true 0 := by rw [hhi, ← hσ2]; exact AHeap.get_set_same _ _ _
  have gc2 : σ2.get c = .cells [.int .i64 0, .int .i64 0, .int .i64 0] true 0 := by rw [← hσ2, AHeap.get_set_ne _ _ hc5, AHeap.get_set_ne _ _ hc5, AHeap.get_set_ne _ _ hc4, AHeap.get_set_ne _ _ hc4, AHeap.get_set_ne _ _ hc3, AHeap.get_set_ne _ _ hc3]; exact gc1
  have hle2 : Le σ σ2 := by
    have hd : ∀ {x}, σ1.get x = .dead → σ.get x = .dead := fun {x} hx => by
      by_cases hh : σ.get x = .dead
      · exact hh
      · rw [← hle1 x hh]; exact hx
    rw [← hσ2]
    exact Le.new' (Le.new' (Le.new' (Le.new' (Le.new' (Le.new' hle1 (hd h3)) (hd h3)) (hd h4b)) (hd h4b)) (hd h5b)) (hd h5b)
  clear hσ2 h3 h4 h5 h4a
  refine S_loop (fun m f σ' => σ' = σ2 ∧ ∃ i : Nat, m + i = 13 ∧ f 6 = .int .i64 i ∧ cfgBad (0 + i) (l.drop i) (bndL.drop i) = cfgBad 0 l bndL) 13 (Le.refl _) ⟨rfl, 0, rfl, by simp (disch := first | assumption | simp) only [↓sbD, sbU, tyB, Nat.reduceMul, Nat.reduceSub, Int.reduceEq, Int.reduceLT, Int.reduceLE, Int.reduceNe, Nat.reduceBneDiff, Nat.reduceBEq, decide_false, gt_iff_lt, Bool.or_self, Bool.false_eq_true, Nat.mul_one, Nat.one_mul, Nat.zero_mul, ↓reduceIte, Nat.reduceEqDiff, Nat.reduceLT, Nat.reduceAdd, Nat.reduceLeDiff, reduceCtorEq, goInt, pairs, isConst, TI.isAgg, splice, boxS, Edp, dpv, Nat.beq_eq, ZV.val, List.any_cons, List.any_nil]; rfl, rfl⟩ ?_
  rintro m f σ' ⟨rfl, i, hm, f6, hcb2⟩ hf
  have f2 := hf 2 (by decide) (notMem_wr (by kernel_rfl))
  have f3 := hf 3 (by decide) (notMem_wr (by kernel_rfl))
  have f4 := hf 4 (by decide) (notMem_wr (by kernel_rfl))
  have f5 := hf 5 (by decide) (notMem_wr (by kernel_rfl))
  simp (disch := first | assumption | simp) only [↓sbD, sbU, tyB, Nat.reduceMul, Nat.reduceSub, Int.reduceEq, Int.reduceLT, Int.reduceLE, Int.reduceNe, Nat.reduceBneDiff, Nat.reduceBEq, decide_false, gt_iff_lt, Bool.or_self, Bool.false_eq_true, Nat.mul_one, Nat.one_mul, Nat.zero_mul, ↓reduceIte, Nat.reduceEqDiff, Nat.reduceLT, Nat.reduceAdd, Nat.reduceLeDiff, reduceCtorEq, goInt, pairs, isConst, TI.isAgg, splice, boxS, Edp, dpv, Nat.beq_eq, ZV.val, List.any_cons, List.any_nil] at f2 f3 f4 f5
  clear hf
  have hbl : bndL.length = 13 := rfl
  by_cases hi : (i : Int) < 13
  · have hi1 : i < l.length := by omega
    have hi2 : i < bndL.length := by omega
    rw [cfgBad_at hi1 hi2] at hcb2
    simp only [Nat.zero_add] at hcb2
    have hlo2 : (cfgC loL)[i]? = some (.int .i64 (bndL[i]).1) := by
      rw [cfgC_at (show i < loL.length by show i < 13; omega)]
      have : loL = bndL.map Prod.fst := rfl
      simp only [this, List.getElem_map]
    have hhi2 : (cfgC hiL)[i]? = some (.int .i64 (bndL[i]).2) := by
      rw [cfgC_at (show i < hiL.length by show i < 13; omega)]
      have : hiL = bndL.map Prod.snd := rfl
      simp only [this, List.getElem_map]
    have hx := cfgC_at hi1
    generalize l[i] = x at hx hcb2
    generalize bndL[i] = ab at hlo2 hhi2 hcb2
    obtain ⟨lo, hiB⟩ := ab
    simp only at hlo2 hhi2
    have hw := wrap_suc (n := i) (by omega)
    have hi0 : (0 : Int) ≤ (i : Int) := by omega
    have a3 := iaArr (d := d3) hi0 hi
    have a4 := iaArr (d := d4) hi0 hi
    have a5 := iaArr (d := d5) hi0 hi
    rw [Int.toNat_natCast] at a3 a4 a5
    by_cases hx1 : x < lo
    · rw [if_pos (.inl hx1)] at hcb2
      rw [← hcb2] at h
      simp (disch := first | assumption | simp) only [↓sbD, sbU, tyB, Nat.reduceMul, Nat.reduceSub, Int.reduceEq, Int.reduceLT, Int.reduceLE, Int.reduceNe, Nat.reduceBneDiff, Nat.reduceBEq, decide_false, gt_iff_lt, Bool.or_self, Bool.false_eq_true, Nat.mul_one, Nat.one_mul, Nat.zero_mul, ↓reduceIte, Nat.reduceEqDiff, Nat.reduceLT, Nat.reduceAdd, Nat.reduceLeDiff, reduceCtorEq, goInt, pairs, isConst, TI.isAgg, splice, boxS, Edp, dpv, Nat.beq_eq, ZV.val, List.any_cons, List.any_nil, f2, f3, f4, f5, f6, hi, a3, a4, g3, g4, hx, hlo2, hx1, gc2]
      exact downS_le (Le.new' hle2 hc0) h
    by_cases hx2 : hiB < x
    · rw [if_pos (.inr hx2)] at hcb2
      rw [← hcb2] at h
      simp (disch := first | assumption | simp) only [↓sbD, sbU, tyB, Nat.reduceMul, Nat.reduceSub, Int.reduceEq, Int.reduceLT, Int.reduceLE, Int.reduceNe, Nat.reduceBneDiff, Nat.reduceBEq, decide_false, gt_iff_lt, Bool.or_self, Bool.false_eq_true, Nat.mul_one, Nat.one_mul, Nat.zero_mul, ↓reduceIte, Nat.reduceEqDiff, Nat.reduceLT, Nat.reduceAdd, Nat.reduceLeDiff, reduceCtorEq, goInt, pairs, isConst, TI.isAgg, splice, boxS, Edp, dpv, Nat.beq_eq, ZV.val, List.any_cons, List.any_nil, f2, f3, f4, f5, f6, hi, a3, a4, a5, g3, g4, g5, hx, hlo2, hhi2, hx1, hx2, gc2]
      exact downS_le (Le.new' hle2 hc0) h
    · rw [if_neg (by omega)] at hcb2
      simp (disch := first | assumption | simp) only [↓sbD, sbU, tyB, Nat.reduceMul, Nat.reduceSub, Int.reduceEq, Int.reduceLT, Int.reduceLE, Int.reduceNe, Nat.reduceBneDiff, Nat.reduceBEq, decide_false, gt_iff_lt, Bool.or_self, Bool.false_eq_true, Nat.mul_one, Nat.one_mul, Nat.zero_mul, ↓reduceIte, Nat.reduceEqDiff, Nat.reduceLT, Nat.reduceAdd, Nat.reduceLeDiff, reduceCtorEq, goInt, pairs, isConst, TI.isAgg, splice, boxS, Edp, dpv, Nat.beq_eq, ZV.val, List.any_cons, List.any_nil, f2, f3, f4, f5, f6, hi, a3, a4, a5, g3, g4, g5, hx, hlo2, hhi2, hx1, hx2, hw]
      exact ⟨_, m - 1, _, rfl, by omega, Le.refl _, rfl, i + 1, by omega, by simp (disch := first | assumption | simp) only [↓sbD, sbU, tyB, Nat.reduceMul, Nat.reduceSub, Int.reduceEq, Int.reduceLT, Int.reduceLE, Int.reduceNe, Nat.reduceBneDiff, Nat.reduceBEq, decide_false, gt_iff_lt, Bool.or_self, Bool.false_eq_true, Nat.mul_one, Nat.one_mul, Nat.zero_mul, ↓reduceIte, Nat.reduceEqDiff, Nat.reduceLT, Nat.reduceAdd, Nat.reduceLeDiff, reduceCtorEq, goInt, pairs, isConst, TI.isAgg, splice, boxS, Edp, dpv, Nat.beq_eq, ZV.val, List.any_cons, List.any_nil], hcb2⟩
  · obtain rfl : i = 13 := by omega
    have hl0 : l.drop 13 = [] := List.drop_of_length_le (by omega)
    rw [hl0] at hcb2
    rw [← hcb2] at h
    simp (disch := first | assumption | simp) only [↓sbD, sbU, tyB, Nat.reduceMul, Nat.reduceSub, Int.reduceEq, Int.reduceLT, Int.reduceLE, Int.reduceNe, Nat.reduceBneDiff, Nat.reduceBEq, decide_false, gt_iff_lt, Bool.or_self, Bool.false_eq_true, Nat.mul_one, Nat.one_mul, Nat.zero_mul, ↓reduceIte, Nat.reduceEqDiff, Nat.reduceLT, Nat.reduceAdd, Nat.reduceLeDiff, reduceCtorEq, goInt, pairs, isConst, TI.isAgg, splice, boxS, Edp, dpv, Nat.beq_eq, ZV.val, List.any_cons, List.any_nil, f2, f3, f4, f5, f6, hi, gc2]
    exact downS_le (Le.new' hle2 hc0) h
/-- a reader, failed or not -/
def YG (σ : AHeap) (r : Nat) (s : ByteArray) (st : Nat ⊕ (Nat × Nat)) : Prop := match st with
  | .inl p => IsY σ r s p 0 0 ∧ p ≤ s.size
  | .inr (k, q) => k ≠ 0 ∧ ∃ p', p' ≤ s.size ∧ IsY σ r s p' (k : Int) (q : Int)
def stepN (s : ByteArray) (m : Nat) (st : Nat ⊕ (Nat × Nat)) : Int × (Nat ⊕ (Nat × Nat)) := match st with
  | .inl p => match numR s p m with
    | .ok (n, q) => (n, .inl q)
    | .error e => (0, .inr e)
  | .inr e => (0, .inr e)
def stepB (s : ByteArray) (st : Nat ⊕ (Nat × Nat)) : ByteArray × (Nat ⊕ (Nat × Nat)) := match st with
  | .inl p => match binR s p with
    | .ok (n, q) => (n, .inl q)
    | .error e => (emp, .inr e)
  | .inr e => (emp, .inr e)
theorem YG.set {st : Nat ⊕ (Nat × Nat)} {d : Nat} {o : AObj} (h : YG σ r s st) (hd : d ≠ r) : YG (AHeap.set σ d o) r s st := by
  have e : (AHeap.set σ d o).get r = σ.get r := AHeap.get_set_ne _ _ hd
  cases st with
  | inl p => exact ⟨by unfold IsY; rw [e]; exact h.1, h.2⟩
  | inr x => obtain ⟨k, q⟩ := x; obtain ⟨h1, p', h2, h3⟩ := h; exact ⟨h1, p', h2, by unfold IsY; rw [e]; exact h3⟩
theorem YG.live {st : Nat ⊕ (Nat × Nat)} (h : YG σ r s st) : σ.get r ≠ .dead := by
  cases st with
  | inl p => rw [show σ.get r = _ from h.1]; simp
  | inr x => obtain ⟨k, q⟩ := x; obtain ⟨h1, p', h2, h3⟩ := h; rw [show σ.get r = _ from h3]; simp
theorem binR_k {k q : Nat} (h : binR s p = .error (k, q)) : k ≠ 0 := by
  unfold binR at h
  cases hb : numR s p 2 with
  | ok a => obtain ⟨n, q'⟩ := a; rw [hb] at h; exact rawR_k h
  | error e => obtain ⟨j, q'⟩ := e; rw [hb] at h; simp only [Except.error.injEq, Prod.mk.injEq] at h; have := numR_k hb; omega
theorem specYU8G {st : Nat ⊕ (Nat × Nat)} (h : YG σ r s st) (hs : s.size ≤ 100000000) (hq : ∀ σ', Kept σ [r] σ' [r] → YG σ' r s (stepN s 1 st).2 → Q (.int .i64 (stepN s 1 st).1) σ') : CallS E B 79 [.pointer (some ⟨r, 0, none⟩)] σ Q := by
  cases st with
  | inl p =>
    refine specYU8 h.1 h.2 (by omega) (fun n q hn σ' k i => ?_) fun k q hn σ' kk i => ?_
    · have := hq σ' k; simp only [stepN, hn] at this; exact this ⟨i, (numR_le hn).2⟩
    · have := hq σ' kk; simp only [stepN, hn] at this; exact this ⟨numR_k hn, p, h.2, i⟩
  | inr e => obtain ⟨k, q⟩ := e; obtain ⟨h1, p', h2, h3⟩ := h; exact specYU8E h3 (by omega) (hq σ (Kept.refl _ _) ⟨h1, p', h2, h3⟩)
theorem specYU32G {st : Nat ⊕ (Nat × Nat)} (h : YG σ r s st) (hs : s.size ≤ 100000000) (hq : ∀ σ', Kept σ [r] σ' [r] → YG σ' r s (stepN s 4 st).2 → Q (.int .i64 (stepN s 4 st).1) σ') : CallS E B 80 [.pointer (some ⟨r, 0, none⟩)] σ Q := by
  cases st with
  | inl p =>
    refine specYU32 h.1 h.2 (by omega) (fun n q hn σ' k i => ?_) fun k q hn σ' kk i => ?_
    · have := hq σ' k; simp only [stepN, hn] at this; exact this ⟨i, (numR_le hn).2⟩
    · have := hq σ' kk; simp only [stepN, hn] at this; exact this ⟨numR_k hn, p, h.2, i⟩
  | inr e => obtain ⟨k, q⟩ := e; obtain ⟨h1, p', h2, h3⟩ := h; exact specYU32E h3 (by omega) (hq σ (Kept.refl _ _) ⟨h1, p', h2, h3⟩)
theorem specYBinG {st : Nat ⊕ (Nat × Nat)} (h : YG σ r s st) (hs : s.size ≤ 100000000) (hq : ∀ σ', Kept σ [r] σ' [r] → YG σ' r s (stepB s st).2 → Q (.string (stepB s st).1) σ') : CallS E B 81 [.pointer (some ⟨r, 0, none⟩)] σ Q := by
  cases st with
  | inl p =>
    refine specYBin h.1 h.2 (by omega) (fun n q hn σ' k i => ?_) fun k q hn σ' kk i => ?_
    · have := hq σ' k; simp only [stepB, hn] at this; exact this ⟨i, (binR_ok hn).1⟩
    · have := hq σ' kk; simp only [stepB, hn] at this; exact this ⟨binR_k hn, p, h.2, i⟩
  | inr e => obtain ⟨k, q⟩ := e; obtain ⟨h1, p', h2, h3⟩ := h; exact specYBinE h3 (by omega) fun σ' k i => hq σ' k ⟨h1, p', h2, i⟩
theorem ev_steps (s : ByteArray) (p : Nat) : match (stepB s (stepN s 4 (stepN s 1 (stepN s 1 (.inl p)).2).2).2).2 with
    | .inl q => evR s p = if 1 ≤ (stepN s 1 (.inl p)).1 ∧ (stepN s 1 (.inl p)).1 ≤ 7 then .ok (⟨(stepN s 1 (.inl p)).1, (stepN s 1 (stepN s 1 (.inl p)).2).1, (stepB s (stepN s 4 (stepN s 1 (stepN s 1 (.inl p)).2).2).2).1, (stepN s 4 (stepN s 1 (stepN s 1 (.inl p)).2).2).1⟩, q) else .error (2, 129, p)
    | .inr (k, q) => evR s p = .error (k, 129, q) := by
  unfold evR
  cases h1 : numR s p 1 with
  | error e => obtain ⟨k, q⟩ := e; simp only [stepN, stepB, h1]
  | ok a =>
    obtain ⟨kd, q1⟩ := a
    cases h2 : numR s q1 1 with
    | error e => obtain ⟨k, q⟩ := e; simp only [stepN, stepB, h1, h2]
    | ok a =>
      obtain ⟨cn, q2⟩ := a
      cases h3 : numR s q2 4 with
      | error e => obtain ⟨k, q⟩ := e; simp only [stepN, stepB, h1, h2, h3]
      | ok a =>
        obtain ⟨n, q3⟩ := a
        cases h4 : binR s q3 with
        | error e => obtain ⟨k, q⟩ := e; simp only [stepN, stepB, h1, h2, h3, h4]
        | ok a =>
          obtain ⟨b, q4⟩ := a
          simp only [stepN, stepB, h1, h2, h3, h4]
          have : ((1 : Int) ≤ (kd : Int) ∧ (kd : Int) ≤ 7) ↔ (1 ≤ kd ∧ kd ≤ 7) := by omega
          simp only [this]
end
end Go.Proofs.YtccimdfmddomaaaDoor.AbsA
namespace Go.Proofs.YtccimdfmddomaaaDoor.AbsA
open Go AbsYtccimdfmddomaaaDoor Abs
set_option maxRecDepth 100000
set_option maxHeartbeats 4000000
set_option linter.unusedSimpArgs false
set_option linter.unusedVariables false
attribute [local irreducible] afterS afterOpS opSK OpsS TrS CodeS condS condW thenS thenQ guardS guardTS outS drawS trSK consS
section
variable {σ : AHeap} {Q : Value → AHeap → Prop} {r p : Nat} {s : ByteArray}
theorem dpY : dp 129 = false := rfl
theorem ne_dead {τ : AHeap} {b x : Nat} {o : AObj} (hb : τ.get b = .dead) (hx : τ.get x = o) (ho : o ≠ .dead) : b ≠ x := by rintro rfl; rw [hx] at hb; exact ho hb
theorem specYTakeS (hs : s.size ≤ 100000000)
    (hok : ∀ c l, takeR s = .ok (c, l) → c.length = 13 → ∀ v, DL evC 4 v l → Q (.tuple #[.agg ⟨cfgC c⟩, v, flt 0 0 0]) σ)
    (hbad : ∀ k rr a : Nat, takeR s = .error (k, rr, a) → Q (.tuple #[.agg ⟨cfgC zero13⟩, .slice none 0 0, flt k rr a]) σ) :
    CallS E B 30 [.string s] σ Q := by
  unfold takeR headR at hok hbad
  simp only [z13] at hbad
  refine call30 (by simp) ?_
  simp only [strip, bodyOf, Tryd.f30, getD_body, keepN, bareOp_mk, lessOp_mk, lapp_cons, lapp_nil, List.map_cons, List.map_nil, array_toList, ↓reduceIte, Nat.reduceEqDiff, Bool.false_eq_true]
  simp (disch := first | assumption | simp) only [↓sbD, sbU, tyB, Nat.reduceMul, Nat.reduceSub, Int.reduceEq, Int.reduceLT, Int.reduceLE, Int.reduceNe, Nat.reduceBneDiff, Nat.reduceBEq, decide_false, gt_iff_lt, Bool.or_self, Bool.false_eq_true, Nat.mul_one, Nat.one_mul, Nat.zero_mul, ↓reduceIte, Nat.reduceEqDiff, Nat.reduceLT, Nat.reduceAdd, Nat.reduceLeDiff, reduceCtorEq, goInt, pairs, isConst, TI.isAgg, splice, boxS, Edp, dpv, Nat.beq_eq, ZV.val, List.any_cons, List.any_nil, AS_new, zeCfg', zeFlt, dpY]
  intro c hc e he r hr
  have hec : e ≠ c := by rintro rfl; rw [AHeap.get_set_same] at he; cases he
  have he0 : σ.get e = .dead := by rw [AHeap.get_set_ne _ _ hec.symm] at he; exact he
  have hre : r ≠ e := by rintro rfl; rw [AHeap.get_set_same] at hr; cases hr
  have hrc : r ≠ c := by rintro rfl; rw [AHeap.get_set_ne _ _ hec, AHeap.get_set_same] at hr; cases hr
  generalize hσ1 : AHeap.set (AHeap.set σ c _) e _ = σ1 at hr
  have k1 : Kept σ [] σ1 [] := by rw [← hσ1]; exact ((Kept.refl σ []).setD hc).setD he0
  have gc1 : σ1.get c = .cells [.int .i64 0, .int .i64 0, .int .i64 0, .int .i64 0, .int .i64 0, .int .i64 0, .int .i64 0, .int .i64 0, .int .i64 0, .int .i64 0, .int .i64 0, .int .i64 0, .int .i64 0] true 0 := by rw [← hσ1, AHeap.get_set_ne _ _ hec]; exact AHeap.get_set_same _ _ _
  have ge1 : σ1.get e = .cells [.int .i64 0, .int .i64 0, .int .i64 0] true 0 := by rw [← hσ1]; exact AHeap.get_set_same _ _ _
  clear hσ1 he
  generalize hτ : AHeap.set σ1 r _ = τ0
  have kr : Kept σ1 [] τ0 [r] := by rw [← hτ]; exact Kept.new' hr
  have i0 : IsY τ0 r s 0 0 0 := by rw [← hτ]; exact AHeap.get_set_same _ _ _
  have gc0 := (kr.at gc1 (by simp) (by simp)).1
  have ge0 := (kr.at ge1 (by simp) (by simp)).1
  clear hτ
  have fin : ∀ {τ : AHeap} {o o' : AObj}, Kept τ0 [r] τ [r] → Le σ (AHeap.set (AHeap.set τ c o) e o') := fun {τ o o'} k => Kept.le (((((k1.trans kr).trans k).wid (gp := []) (gp' := []) (fun _ h => by cases h) (fun _ h => by cases h)).setD hc).setD he0)
  have ec : ∀ (τ : AHeap) o, (AHeap.set τ c o).get e = τ.get e := fun τ o => AHeap.get_set_ne _ _ hec.symm
  refine specYRaw i0 (Nat.zero_le _) (by omega) (fun v q hv τ1 k1' i1 => ?_) fun k q hv τ1 k1' i1 => ?_
  rotate_left
  · rw [hv] at hbad
    simp only at hbad
    have hk0 := rawR_k hv
    have hk0' : ¬ (k : Int) = 0 := by omega
    have i1' := i1
    unfold IsY at i1'
    simp (disch := first | assumption | simp) only [↓sbD, sbU, tyB, Nat.reduceMul, Nat.reduceSub, Int.reduceEq, Int.reduceLT, Int.reduceLE, Int.reduceNe, Nat.reduceBneDiff, Nat.reduceBEq, decide_false, gt_iff_lt, Bool.or_self, Bool.false_eq_true, Nat.mul_one, Nat.one_mul, Nat.zero_mul, ↓reduceIte, Nat.reduceEqDiff, Nat.reduceLT, Nat.reduceAdd, Nat.reduceLeDiff, reduceCtorEq, goInt, pairs, isConst, TI.isAgg, splice, boxS, Edp, dpv, Nat.beq_eq, ZV.val, List.any_cons, List.any_nil, i1', hk0']
    refine specYConfig (R := .error (k, q)) (.inr ⟨k, q, 0, hk0, Nat.zero_le _, i1, rfl⟩) hs fun cs τ2 hcz k2 hy => ?_
    rcases hy with ⟨_, _, _, _, _, hnr⟩ | ⟨k2', q2', p2, _, hp2, iy2, hRe2⟩
    · exfalso
      rw [hcz, Nat.sub_self] at hnr
      simp only [numsR] at hnr
      cases hnr
    simp only [Except.error.injEq, Prod.mk.injEq] at hRe2
    obtain ⟨rfl, rfl⟩ := hRe2
    obtain ⟨x0, x1, x2, x3, x4, x5, x6, x7, x8, x9, x10, x11, x12, hce⟩ := len13 hcz
    have hcl : cfgC cs = [.int .i64 x0, .int .i64 x1, .int .i64 x2, .int .i64 x3, .int .i64 x4, .int .i64 x5, .int .i64 x6, .int .i64 x7, .int .i64 x8, .int .i64 x9, .int .i64 x10, .int .i64 x11, .int .i64 x12] := by rw [hce]; rfl
    have gcA := ((k1'.trans k2).at gc0 (by simp) (by simpa using hrc.symm)).1
    have geA := ((k1'.trans k2).at ge0 (by simp) (by simpa using hre.symm)).1
    simp (disch := first | assumption | simp) only [↓sbD, sbU, tyB, Nat.reduceMul, Nat.reduceSub, Int.reduceEq, Int.reduceLT, Int.reduceLE, Int.reduceNe, Nat.reduceBneDiff, Nat.reduceBEq, decide_false, gt_iff_lt, Bool.or_self, Bool.false_eq_true, Nat.mul_one, Nat.one_mul, Nat.zero_mul, ↓reduceIte, Nat.reduceEqDiff, Nat.reduceLT, Nat.reduceAdd, Nat.reduceLeDiff, reduceCtorEq, goInt, pairs, isConst, TI.isAgg, splice, boxS, Edp, dpv, Nat.beq_eq, ZV.val, List.any_cons, List.any_nil, AS_new, zeCfg', hcl]
    intro b hb
    have hbc := ne_dead hb gcA (by simp)
    have hbe := ne_dead hb geA (by simp)
    have bc : ∀ (τ : AHeap) o, (AHeap.set τ b o).get c = τ.get c := fun τ o => AHeap.get_set_ne _ _ hbc
    have be : ∀ (τ : AHeap) o, (AHeap.set τ b o).get e = τ.get e := fun τ o => AHeap.get_set_ne _ _ hbe
    have iy2' := iy2
    unfold IsY at iy2'
    have hbr := ne_dead hb iy2' (by simp)
    have br : ∀ (τ : AHeap) o, (AHeap.set τ b o).get r = τ.get r := fun τ o => AHeap.get_set_ne _ _ hbr
    simp (disch := first | assumption | simp) only [↓sbD, sbU, tyB, Nat.reduceMul, Nat.reduceSub, Int.reduceEq, Int.reduceLT, Int.reduceLE, Int.reduceNe, Nat.reduceBneDiff, Nat.reduceBEq, decide_false, gt_iff_lt, Bool.or_self, Bool.false_eq_true, Nat.mul_one, Nat.one_mul, Nat.zero_mul, ↓reduceIte, Nat.reduceEqDiff, Nat.reduceLT, Nat.reduceAdd, Nat.reduceLeDiff, reduceCtorEq, goInt, pairs, isConst, TI.isAgg, splice, boxS, Edp, dpv, Nat.beq_eq, ZV.val, List.any_cons, List.any_nil, br, iy2', hk0']
    refine specYOf (p := p2) (by unfold IsY; rw [br, br]; exact iy2') hp2 (fun h => absurd h hk0') (fun h => absurd h hk0') fun _ => ?_
    simp (disch := first | assumption | simp) only [↓sbD, sbU, tyB, Nat.reduceMul, Nat.reduceSub, Int.reduceEq, Int.reduceLT, Int.reduceLE, Int.reduceNe, Nat.reduceBneDiff, Nat.reduceBEq, decide_false, gt_iff_lt, Bool.or_self, Bool.false_eq_true, Nat.mul_one, Nat.one_mul, Nat.zero_mul, ↓reduceIte, Nat.reduceEqDiff, Nat.reduceLT, Nat.reduceAdd, Nat.reduceLeDiff, reduceCtorEq, goInt, pairs, isConst, TI.isAgg, splice, boxS, Edp, dpv, Nat.beq_eq, ZV.val, List.any_cons, List.any_nil, gcA, geA, bc, be, ec, AHeap.get_set_ne _ _ hec, res_cellc, resC_some]
    exact downS_le (Le.trans (fin (k1'.trans k2)) (Le.set (Le.set (Le.new' (Le.new hb) hb)))) (hbad _ 129 _ rfl)
  · rw [hv] at hok hbad
    simp only at hok hbad
    have hq := rawR_ok' (by decide) hv
    have i1' := i1
    unfold IsY at i1'
    by_cases hn : v = nameB
    rotate_left
    · have hn' : ¬ v = ⟨#[67, 82, 73, 69, 82]⟩ := hn
      rw [if_neg hn] at hbad
      have gc2 := (k1'.at gc0 (by simp) (by simpa using hrc.symm)).1
      have ge2 := (k1'.at ge0 (by simp) (by simpa using hre.symm)).1
      simp (disch := first | assumption | simp) only [↓sbD, sbU, tyB, Nat.reduceMul, Nat.reduceSub, Int.reduceEq, Int.reduceLT, Int.reduceLE, Int.reduceNe, Nat.reduceBneDiff, Nat.reduceBEq, decide_false, gt_iff_lt, Bool.or_self, Bool.false_eq_true, Nat.mul_one, Nat.one_mul, Nat.zero_mul, ↓reduceIte, Nat.reduceEqDiff, Nat.reduceLT, Nat.reduceAdd, Nat.reduceLeDiff, reduceCtorEq, goInt, pairs, isConst, TI.isAgg, splice, boxS, Edp, dpv, Nat.beq_eq, ZV.val, List.any_cons, List.any_nil, i1', hn', decide_true, gc2, ge2, ec, AHeap.get_set_ne _ _ hec, res_cellc, resC_some]
      exact downS_le (fin k1') (hbad 2 129 0 rfl)
    · have hn' : v = ⟨#[67, 82, 73, 69, 82]⟩ := hn
      rw [if_pos hn] at hok hbad
      unfold cfgR at hok hbad
      simp (disch := first | assumption | simp) only [↓sbD, sbU, tyB, Nat.reduceMul, Nat.reduceSub, Int.reduceEq, Int.reduceLT, Int.reduceLE, Int.reduceNe, Nat.reduceBneDiff, Nat.reduceBEq, decide_false, gt_iff_lt, Bool.or_self, Bool.false_eq_true, Nat.mul_one, Nat.one_mul, Nat.zero_mul, ↓reduceIte, Nat.reduceEqDiff, Nat.reduceLT, Nat.reduceAdd, Nat.reduceLeDiff, reduceCtorEq, goInt, pairs, isConst, TI.isAgg, splice, boxS, Edp, dpv, Nat.beq_eq, ZV.val, List.any_cons, List.any_nil, i1', hn', eq_self, decide_true]
      refine specYConfig (R := numsR s q 13 []) (.inl ⟨[], q, i1, hq.2.1, rfl, rfl⟩) hs fun cs τ2 hcz k2 hy => ?_
      rcases hy with ⟨acc, p', iy, hp', hca, hnr⟩ | ⟨k, q', p', hk0, hp', iy, hRe⟩
      rotate_left
      · have hk0' : ¬ (k : Int) = 0 := by omega
        rw [hRe] at hbad
        simp only at hbad
        have hy : YC τ2 r s (.error (k, q')) cs := .inr ⟨k, q', p', hk0, hp', iy, rfl⟩
        rcases hy with ⟨_, _, _, _, _, hnr⟩ | ⟨k2', q2', p2, _, hp2, iy2, hRe2⟩
        · exfalso
          rw [hcz, Nat.sub_self] at hnr
          simp only [numsR] at hnr
          cases hnr
        simp only [Except.error.injEq, Prod.mk.injEq] at hRe2
        obtain ⟨rfl, rfl⟩ := hRe2
        obtain ⟨x0, x1, x2, x3, x4, x5, x6, x7, x8, x9, x10, x11, x12, hce⟩ := len13 hcz
        have hcl : cfgC cs = [.int .i64 x0, .int .i64 x1, .int .i64 x2, .int .i64 x3, .int .i64 x4, .int .i64 x5, .int .i64 x6, .int .i64 x7, .int .i64 x8, .int .i64 x9, .int .i64 x10, .int .i64 x11, .int .i64 x12] := by rw [hce]; rfl
        have gcA := ((k1'.trans k2).at gc0 (by simp) (by simpa using hrc.symm)).1
        have geA := ((k1'.trans k2).at ge0 (by simp) (by simpa using hre.symm)).1
        simp (disch := first | assumption | simp) only [↓sbD, sbU, tyB, Nat.reduceMul, Nat.reduceSub, Int.reduceEq, Int.reduceLT, Int.reduceLE, Int.reduceNe, Nat.reduceBneDiff, Nat.reduceBEq, decide_false, gt_iff_lt, Bool.or_self, Bool.false_eq_true, Nat.mul_one, Nat.one_mul, Nat.zero_mul, ↓reduceIte, Nat.reduceEqDiff, Nat.reduceLT, Nat.reduceAdd, Nat.reduceLeDiff, reduceCtorEq, goInt, pairs, isConst, TI.isAgg, splice, boxS, Edp, dpv, Nat.beq_eq, ZV.val, List.any_cons, List.any_nil, AS_new, zeCfg', hcl]
        intro b hb
        have hbc := ne_dead hb gcA (by simp)
        have hbe := ne_dead hb geA (by simp)
        have bc : ∀ (τ : AHeap) o, (AHeap.set τ b o).get c = τ.get c := fun τ o => AHeap.get_set_ne _ _ hbc
        have be : ∀ (τ : AHeap) o, (AHeap.set τ b o).get e = τ.get e := fun τ o => AHeap.get_set_ne _ _ hbe
        have iy2' := iy2
        unfold IsY at iy2'
        have hbr := ne_dead hb iy2' (by simp)
        have br : ∀ (τ : AHeap) o, (AHeap.set τ b o).get r = τ.get r := fun τ o => AHeap.get_set_ne _ _ hbr
        simp (disch := first | assumption | simp) only [↓sbD, sbU, tyB, Nat.reduceMul, Nat.reduceSub, Int.reduceEq, Int.reduceLT, Int.reduceLE, Int.reduceNe, Nat.reduceBneDiff, Nat.reduceBEq, decide_false, gt_iff_lt, Bool.or_self, Bool.false_eq_true, Nat.mul_one, Nat.one_mul, Nat.zero_mul, ↓reduceIte, Nat.reduceEqDiff, Nat.reduceLT, Nat.reduceAdd, Nat.reduceLeDiff, reduceCtorEq, goInt, pairs, isConst, TI.isAgg, splice, boxS, Edp, dpv, Nat.beq_eq, ZV.val, List.any_cons, List.any_nil, br, iy2', hk0']
        refine specYOf (p := p2) (by unfold IsY; rw [br, br]; exact iy2') hp2 (fun h => absurd h hk0') (fun h => absurd h hk0') fun _ => ?_
        simp (disch := first | assumption | simp) only [↓sbD, sbU, tyB, Nat.reduceMul, Nat.reduceSub, Int.reduceEq, Int.reduceLT, Int.reduceLE, Int.reduceNe, Nat.reduceBneDiff, Nat.reduceBEq, decide_false, gt_iff_lt, Bool.or_self, Bool.false_eq_true, Nat.mul_one, Nat.one_mul, Nat.zero_mul, ↓reduceIte, Nat.reduceEqDiff, Nat.reduceLT, Nat.reduceAdd, Nat.reduceLeDiff, reduceCtorEq, goInt, pairs, isConst, TI.isAgg, splice, boxS, Edp, dpv, Nat.beq_eq, ZV.val, List.any_cons, List.any_nil, gcA, geA, bc, be, ec, AHeap.get_set_ne _ _ hec, res_cellc, resC_some]
        exact downS_le (Le.trans (fin (k1'.trans k2)) (Le.set (Le.set (Le.new' (Le.new hb) hb)))) (hbad _ 129 _ rfl)
      · rw [hcz, Nat.sub_self] at hnr
        have hnr2 : (Except.ok (acc, p') : Rd (List Nat)) = numsR s q 13 [] := hnr
        rw [← hnr2] at hok hbad
        simp only at hok hbad
        rw [← hca] at hok hbad
        obtain ⟨x0, x1, x2, x3, x4, x5, x6, x7, x8, x9, x10, x11, x12, hce⟩ := len13 hcz
        have hcl : cfgC cs = [.int .i64 x0, .int .i64 x1, .int .i64 x2, .int .i64 x3, .int .i64 x4, .int .i64 x5, .int .i64 x6, .int .i64 x7, .int .i64 x8, .int .i64 x9, .int .i64 x10, .int .i64 x11, .int .i64 x12] := by rw [hce]; rfl
        have gcA := ((k1'.trans k2).at gc0 (by simp) (by simpa using hrc.symm)).1
        have geA := ((k1'.trans k2).at ge0 (by simp) (by simpa using hre.symm)).1
        simp (disch := first | assumption | simp) only [↓sbD, sbU, tyB, Nat.reduceMul, Nat.reduceSub, Int.reduceEq, Int.reduceLT, Int.reduceLE, Int.reduceNe, Nat.reduceBneDiff, Nat.reduceBEq, decide_false, gt_iff_lt, Bool.or_self, Bool.false_eq_true, Nat.mul_one, Nat.one_mul, Nat.zero_mul, ↓reduceIte, Nat.reduceEqDiff, Nat.reduceLT, Nat.reduceAdd, Nat.reduceLeDiff, reduceCtorEq, goInt, pairs, isConst, TI.isAgg, splice, boxS, Edp, dpv, Nat.beq_eq, ZV.val, List.any_cons, List.any_nil, AS_new, zeCfg', hcl]
        intro b hb
        have hbc := ne_dead hb gcA (by simp)
        have hbe := ne_dead hb geA (by simp)
        have bc : ∀ (τ : AHeap) o, (AHeap.set τ b o).get c = τ.get c := fun τ o => AHeap.get_set_ne _ _ hbc
        have be : ∀ (τ : AHeap) o, (AHeap.set τ b o).get e = τ.get e := fun τ o => AHeap.get_set_ne _ _ hbe
        have iy' := iy
        unfold IsY at iy'
        generalize hτ3 : AHeap.set (AHeap.set τ2 b _) b _ = τ3
        have gb3 : τ3.get b = .cells [.int .i64 x0, .int .i64 x1, .int .i64 x2, .int .i64 x3, .int .i64 x4, .int .i64 x5, .int .i64 x6, .int .i64 x7, .int .i64 x8, .int .i64 x9, .int .i64 x10, .int .i64 x11, .int .i64 x12] true 0 := by rw [← hτ3]; exact AHeap.get_set_same _ _ _
        have k3 : Kept τ2 [] τ3 [] := by rw [← hτ3]; exact Kept.tmp hb
        have gc3 := (k3.at gcA (by simp) (by simp)).1
        have ge3 := (k3.at geA (by simp) (by simp)).1
        have iy3 : IsY τ3 r s p' 0 0 := iy.kept k3 (by simp)
        clear hτ3
        have K3 : Kept τ0 [r] τ3 [r] := (k1'.trans k2).trans (k3.wid (gp := [r]) (gp' := [r]) (fun _ h => by cases h) (fun _ h => .inr h))
        have iy3' := iy3
        unfold IsY at iy3'
        simp (disch := first | assumption | simp) only [↓sbD, sbU, tyB, Nat.reduceMul, Nat.reduceSub, Int.reduceEq, Int.reduceLT, Int.reduceLE, Int.reduceNe, Nat.reduceBneDiff, Nat.reduceBEq, decide_false, gt_iff_lt, Bool.or_self, Bool.false_eq_true, Nat.mul_one, Nat.one_mul, Nat.zero_mul, ↓reduceIte, Nat.reduceEqDiff, Nat.reduceLT, Nat.reduceAdd, Nat.reduceLeDiff, reduceCtorEq, goInt, pairs, isConst, TI.isAgg, splice, boxS, Edp, dpv, Nat.beq_eq, ZV.val, List.any_cons, List.any_nil, iy3', gb3]
        rw [← hcl]
        refine specUCheck hcz ?_
        cases hcb : cfgBad 0 cs bndL with
        | some i =>
          rw [hcb] at hbad
          simp only [cfgF]
          have h7 : ¬ (7 : Int) = 0 := by decide
          simp (disch := first | assumption | simp) only [↓sbD, sbU, tyB, Nat.reduceMul, Nat.reduceSub, Int.reduceEq, Int.reduceLT, Int.reduceLE, Int.reduceNe, Nat.reduceBneDiff, Nat.reduceBEq, decide_false, gt_iff_lt, Bool.or_self, Bool.false_eq_true, Nat.mul_one, Nat.one_mul, Nat.zero_mul, ↓reduceIte, Nat.reduceEqDiff, Nat.reduceLT, Nat.reduceAdd, Nat.reduceLeDiff, reduceCtorEq, goInt, pairs, isConst, TI.isAgg, splice, boxS, Edp, dpv, Nat.beq_eq, ZV.val, List.any_cons, List.any_nil, AS_new, zeFlt]
          intro d hd
          have hdc := ne_dead hd gc3 (by simp)
          have hde := ne_dead hd ge3 (by simp)
          have dc : ∀ (τ : AHeap) o, (AHeap.set τ d o).get c = τ.get c := fun τ o => AHeap.get_set_ne _ _ hdc
          have de : ∀ (τ : AHeap) o, (AHeap.set τ d o).get e = τ.get e := fun τ o => AHeap.get_set_ne _ _ hde
          have cd : ∀ (τ : AHeap) o, (AHeap.set τ c o).get d = τ.get d := fun τ o => AHeap.get_set_ne _ _ hdc.symm
          have ed : ∀ (τ : AHeap) o, (AHeap.set τ e o).get d = τ.get d := fun τ o => AHeap.get_set_ne _ _ hde.symm
          have hcd : Nat.beq c d = false := beq_ne hdc.symm
          have hed : Nat.beq e d = false := beq_ne hde.symm
          simp (disch := first | assumption | simp) only [↓sbD, sbU, tyB, Nat.reduceMul, Nat.reduceSub, Int.reduceEq, Int.reduceLT, Int.reduceLE, Int.reduceNe, Nat.reduceBneDiff, Nat.reduceBEq, decide_false, gt_iff_lt, Bool.or_self, Bool.false_eq_true, Nat.mul_one, Nat.one_mul, Nat.zero_mul, ↓reduceIte, Nat.reduceEqDiff, Nat.reduceLT, Nat.reduceAdd, Nat.reduceLeDiff, reduceCtorEq, goInt, pairs, isConst, TI.isAgg, splice, boxS, Edp, dpv, Nat.beq_eq, ZV.val, List.any_cons, List.any_nil, gc3, ge3, dc, de, cd, ec]
          refine drawS_l (fl := [(1, 2)]) (by kernel_rfl) ?_ ?_
          rotate_left; simp only [lastP_cc, lastP_one]; rotate_left
          · simp only [List.all_cons, List.all_nil, floatS, List.getElem?_cons_succ, List.getElem?_cons_zero, List.getElem?_toArray, Region.wanted, Bool.not_true, Bool.not_false, Bool.false_or, Bool.true_or, Bool.or_true, Bool.true_and, reads, looksWeak, aev_tmp, aev_const, upd_at, ↓reduceIte, Nat.reduceEqDiff, Nat.reduceLT, Nat.reduceAdd, ofL_zero, ofL_succ, blkOf, oeq_refl, oeq_of, dead_cells, dead_map, Bool.and_true, Bool.and_self, Bool.false_eq_true, Bool.not_false, gc3, ge3, dc, de, cd, ed, ec, hcd, hed, AHeap.get_set_same]
          simp (disch := first | assumption | simp) only [↓sbD, sbU, tyB, Nat.reduceMul, Nat.reduceSub, Int.reduceEq, Int.reduceLT, Int.reduceLE, Int.reduceNe, Nat.reduceBneDiff, Nat.reduceBEq, decide_false, gt_iff_lt, Bool.or_self, Bool.false_eq_true, Nat.mul_one, Nat.one_mul, Nat.zero_mul, ↓reduceIte, Nat.reduceEqDiff, Nat.reduceLT, Nat.reduceAdd, Nat.reduceLeDiff, reduceCtorEq, goInt, pairs, isConst, TI.isAgg, splice, boxS, Edp, dpv, Nat.beq_eq, ZV.val, List.any_cons, List.any_nil, gc3, ge3, dc, de, cd, ec, AHeap.get_set_ne _ _ hec, res_cellc, resC_some]
          exact downS_le (Le.trans (fin K3) (Le.set (Le.set (Le.new' (Le.new hd) hd)))) (hbad 7 131 i rfl)
        | none =>
          rw [hcb] at hok hbad
          simp only at hok hbad
          simp only [cfgF]
          simp (disch := first | assumption | simp) only [↓sbD, sbU, tyB, Nat.reduceMul, Nat.reduceSub, Int.reduceEq, Int.reduceLT, Int.reduceLE, Int.reduceNe, Nat.reduceBneDiff, Nat.reduceBEq, decide_false, gt_iff_lt, Bool.or_self, Bool.false_eq_true, Nat.mul_one, Nat.one_mul, Nat.zero_mul, ↓reduceIte, Nat.reduceEqDiff, Nat.reduceLT, Nat.reduceAdd, Nat.reduceLeDiff, reduceCtorEq, goInt, pairs, isConst, TI.isAgg, splice, boxS, Edp, dpv, Nat.beq_eq, ZV.val, List.any_cons, List.any_nil, AS_new, zeFlt]
          intro d hd
          have hdc := ne_dead hd gc3 (by simp)
          have hde := ne_dead hd ge3 (by simp)
          have hdr := ne_dead hd iy3' (by simp)
          have hdb := ne_dead hd gb3 (by simp)
          generalize hτ4 : AHeap.set (AHeap.set τ3 d _) d _ = τ4
          have k4 : Kept τ3 [] τ4 [] := by rw [← hτ4]; exact Kept.tmp hd
          have gd4 : τ4.get d = .cells [.int .i64 0, .int .i64 0, .int .i64 0] true 0 := by rw [← hτ4]; exact AHeap.get_set_same _ _ _
          have gb4 := (k4.at gb3 (by simp) (by simp)).1
          have gc4 := (k4.at gc3 (by simp) (by simp)).1
          have ge4 := (k4.at ge3 (by simp) (by simp)).1
          have iy4 : IsY τ4 r s p' 0 0 := iy3.kept k4 (by simp)
          have iy4' := iy4
          unfold IsY at iy4'
          clear hτ4
          have K4 : Kept τ0 [r] τ4 [r] := K3.trans (k4.wid (gp := [r]) (gp' := [r]) (fun _ h => by cases h) (fun _ h => .inr h))
          simp (disch := first | assumption | simp) only [↓sbD, sbU, tyB, Nat.reduceMul, Nat.reduceSub, Int.reduceEq, Int.reduceLT, Int.reduceLE, Int.reduceNe, Nat.reduceBneDiff, Nat.reduceBEq, decide_false, gt_iff_lt, Bool.or_self, Bool.false_eq_true, Nat.mul_one, Nat.one_mul, Nat.zero_mul, ↓reduceIte, Nat.reduceEqDiff, Nat.reduceLT, Nat.reduceAdd, Nat.reduceLeDiff, reduceCtorEq, goInt, pairs, isConst, TI.isAgg, splice, boxS, Edp, dpv, Nat.beq_eq, ZV.val, List.any_cons, List.any_nil, gd4, iy4']
          refine specYU16 iy4 hp' (by omega) (fun n q2 hn2 τ5 k5 i5 => ?_) fun k q2 hn2 τ5 k5 i5 => ?_
          rotate_left
          · rw [hn2] at hbad
            simp only at hbad
            have hk0 := numR_k hn2
            have hk0' : ¬ (k : Int) = 0 := by omega
            have i5' := i5
            unfold IsY at i5'
            have gc5 := (k5.at gc4 (by simp) (by simpa using hrc.symm)).1
            have ge5 := (k5.at ge4 (by simp) (by simpa using hre.symm)).1
            simp (disch := first | assumption | simp) only [↓sbD, sbU, tyB, Nat.reduceMul, Nat.reduceSub, Int.reduceEq, Int.reduceLT, Int.reduceLE, Int.reduceNe, Nat.reduceBneDiff, Nat.reduceBEq, decide_false, gt_iff_lt, Bool.or_self, Bool.false_eq_true, Nat.mul_one, Nat.one_mul, Nat.zero_mul, ↓reduceIte, Nat.reduceEqDiff, Nat.reduceLT, Nat.reduceAdd, Nat.reduceLeDiff, reduceCtorEq, goInt, pairs, isConst, TI.isAgg, splice, boxS, Edp, dpv, Nat.beq_eq, ZV.val, List.any_cons, List.any_nil, i5', hk0']
            refine specYOf i5 hp' (fun h => absurd h hk0') (fun h => absurd h hk0') fun _ => ?_
            simp (disch := first | assumption | simp) only [↓sbD, sbU, tyB, Nat.reduceMul, Nat.reduceSub, Int.reduceEq, Int.reduceLT, Int.reduceLE, Int.reduceNe, Nat.reduceBneDiff, Nat.reduceBEq, decide_false, gt_iff_lt, Bool.or_self, Bool.false_eq_true, Nat.mul_one, Nat.one_mul, Nat.zero_mul, ↓reduceIte, Nat.reduceEqDiff, Nat.reduceLT, Nat.reduceAdd, Nat.reduceLeDiff, reduceCtorEq, goInt, pairs, isConst, TI.isAgg, splice, boxS, Edp, dpv, Nat.beq_eq, ZV.val, List.any_cons, List.any_nil, gc5, ge5, ec, AHeap.get_set_ne _ _ hec, res_cellc, resC_some]
            exact downS_le (fin (K4.trans k5)) (hbad k 129 q2 rfl)
          · rw [hn2] at hok hbad
            simp only at hok hbad
            have hn2l := numR_le hn2
            have i5' := i5
            unfold IsY at i5'
            have hrb : b ≠ r := ne_dead hb iy' (by simp)
            have gb5 := (k5.at gb4 (by simp) (by simpa using hrb)).1
            have gc5 := (k5.at gc4 (by simp) (by simpa using hrc.symm)).1
            have ge5 := (k5.at ge4 (by simp) (by simpa using hre.symm)).1
            have K5 := K4.trans k5
            by_cases hbig : (16384 : Int) < (n : Int)
            · rw [if_pos (by omega)] at hbad
              simp (disch := first | assumption | simp) only [↓sbD, sbU, tyB, Nat.reduceMul, Nat.reduceSub, Int.reduceEq, Int.reduceLT, Int.reduceLE, Int.reduceNe, Nat.reduceBneDiff, Nat.reduceBEq, decide_false, gt_iff_lt, Bool.or_self, Bool.false_eq_true, Nat.mul_one, Nat.one_mul, Nat.zero_mul, ↓reduceIte, Nat.reduceEqDiff, Nat.reduceLT, Nat.reduceAdd, Nat.reduceLeDiff, reduceCtorEq, goInt, pairs, isConst, TI.isAgg, splice, boxS, Edp, dpv, Nat.beq_eq, ZV.val, List.any_cons, List.any_nil, i5', hbig, gc5, ge5, ec, AHeap.get_set_ne _ _ hec, res_cellc, resC_some]
              exact downS_le (fin K5) (hbad 4 149 p' rfl)
            rw [if_neg (by omega)] at hok hbad
            simp only at hok hbad
            simp (disch := first | assumption | simp) only [↓sbD, sbU, tyB, Nat.reduceMul, Nat.reduceSub, Int.reduceEq, Int.reduceLT, Int.reduceLE, Int.reduceNe, Nat.reduceBneDiff, Nat.reduceBEq, decide_false, gt_iff_lt, Bool.or_self, Bool.false_eq_true, Nat.mul_one, Nat.one_mul, Nat.zero_mul, ↓reduceIte, Nat.reduceEqDiff, Nat.reduceLT, Nat.reduceAdd, Nat.reduceLeDiff, reduceCtorEq, goInt, pairs, isConst, TI.isAgg, splice, boxS, Edp, dpv, Nat.beq_eq, ZV.val, List.any_cons, List.any_nil, i5', hbig]
            generalize hR : evsR s n q2 [] = R at hok hbad
            refine S_loop (fun m f τ => ∃ (i p2 : Nat) (l : List Ev) (v : Value) (fp : List Nat), m + i = n ∧ f 12 = .int .i64 i ∧ f 11 = v ∧ DG evC 4 τ v l fp ∧ r ∉ fp ∧ IsY τ r s p2 0 0 ∧ p2 ≤ s.size ∧ Kept τ5 [r] τ (r :: fp) ∧ evsR s (n - i) p2 l = R ∧ l.length = i) n (Le.refl _) ⟨0, q2, [], _, [], rfl, by simp (disch := first | assumption | simp) only [↓sbD, sbU, tyB, Nat.reduceMul, Nat.reduceSub, Int.reduceEq, Int.reduceLT, Int.reduceLE, Int.reduceNe, Nat.reduceBneDiff, Nat.reduceBEq, decide_false, gt_iff_lt, Bool.or_self, Bool.false_eq_true, Nat.mul_one, Nat.one_mul, Nat.zero_mul, ↓reduceIte, Nat.reduceEqDiff, Nat.reduceLT, Nat.reduceAdd, Nat.reduceLeDiff, reduceCtorEq, goInt, pairs, isConst, TI.isAgg, splice, boxS, Edp, dpv, Nat.beq_eq, ZV.val, List.any_cons, List.any_nil]; rfl, rfl, by simp (disch := first | assumption | simp) only [↓sbD, sbU, tyB, Nat.reduceMul, Nat.reduceSub, Int.reduceEq, Int.reduceLT, Int.reduceLE, Int.reduceNe, Nat.reduceBneDiff, Nat.reduceBEq, decide_false, gt_iff_lt, Bool.or_self, Bool.false_eq_true, Nat.mul_one, Nat.one_mul, Nat.zero_mul, ↓reduceIte, Nat.reduceEqDiff, Nat.reduceLT, Nat.reduceAdd, Nat.reduceLeDiff, reduceCtorEq, goInt, pairs, isConst, TI.isAgg, splice, boxS, Edp, dpv, Nat.beq_eq, ZV.val, List.any_cons, List.any_nil]; exact DG.nil, by simp, i5, hn2l.2, Kept.refl _ _, hR, rfl⟩ ?_
            rintro m f τ ⟨i, p2, l, v2, fp, hm, f12, f11, hg, hrf, iyL, hp2, hk, hev, hli⟩ hf
            have f2 := hf 2 (by decide) (notMem_wr (by kernel_rfl))
            have f4 := hf 4 (by decide) (notMem_wr (by kernel_rfl))
            have f5 := hf 5 (by decide) (notMem_wr (by kernel_rfl))
            have f7 := hf 7 (by decide) (notMem_wr (by kernel_rfl))
            have f10 := hf 10 (by decide) (notMem_wr (by kernel_rfl))
            simp (disch := first | assumption | simp) only [↓sbD, sbU, tyB, Nat.reduceMul, Nat.reduceSub, Int.reduceEq, Int.reduceLT, Int.reduceLE, Int.reduceNe, Nat.reduceBneDiff, Nat.reduceBEq, decide_false, gt_iff_lt, Bool.or_self, Bool.false_eq_true, Nat.mul_one, Nat.one_mul, Nat.zero_mul, ↓reduceIte, Nat.reduceEqDiff, Nat.reduceLT, Nat.reduceAdd, Nat.reduceLeDiff, reduceCtorEq, goInt, pairs, isConst, TI.isAgg, splice, boxS, Edp, dpv, Nat.beq_eq, ZV.val, List.any_cons, List.any_nil] at f2 f4 f5 f7 f10
            clear hf
            have gbL := hk.at gb5 (by simp) (by simpa using hrb)
            have gcL := hk.at gc5 (by simp) (by simpa using hrc.symm)
            have geL := hk.at ge5 (by simp) (by simpa using hre.symm)
            have iyL' := iyL
            unfold IsY at iyL'
            have KL : Kept τ0 [r] τ [r] := K5.trans hk.self
            by_cases hi : (i : Int) < (n : Int)
            · have hw := wrap_suc (n := i) (by omega)
              have hni : n - i = (n - (i + 1)) + 1 := by omega
              rw [hni] at hev
              simp only [evsR] at hev
              have hes := ev_steps s p2
              simp (disch := first | assumption | simp) only [↓sbD, sbU, tyB, Nat.reduceMul, Nat.reduceSub, Int.reduceEq, Int.reduceLT, Int.reduceLE, Int.reduceNe, Nat.reduceBneDiff, Nat.reduceBEq, decide_false, gt_iff_lt, Bool.or_self, Bool.false_eq_true, Nat.mul_one, Nat.one_mul, Nat.zero_mul, ↓reduceIte, Nat.reduceEqDiff, Nat.reduceLT, Nat.reduceAdd, Nat.reduceLeDiff, reduceCtorEq, goInt, pairs, isConst, TI.isAgg, splice, boxS, Edp, dpv, Nat.beq_eq, ZV.val, List.any_cons, List.any_nil, f5, f10, f12, hi, iyL']
              refine specYU8G (st := .inl p2) ⟨iyL, hp2⟩ hs fun τ6 k6 y6 => ?_
              obtain ⟨a1, s1, h1⟩ : ∃ a t, stepN s 1 (.inl p2) = (a, t) := ⟨_, _, rfl⟩
              simp only [h1] at y6 hes ⊢
              simp (disch := first | assumption | simp) only [↓sbD, sbU, tyB, Nat.reduceMul, Nat.reduceSub, Int.reduceEq, Int.reduceLT, Int.reduceLE, Int.reduceNe, Nat.reduceBneDiff, Nat.reduceBEq, decide_false, gt_iff_lt, Bool.or_self, Bool.false_eq_true, Nat.mul_one, Nat.one_mul, Nat.zero_mul, ↓reduceIte, Nat.reduceEqDiff, Nat.reduceLT, Nat.reduceAdd, Nat.reduceLeDiff, reduceCtorEq, goInt, pairs, isConst, TI.isAgg, splice, boxS, Edp, dpv, Nat.beq_eq, ZV.val, List.any_cons, List.any_nil, AS_new, zeEv]
              intro d hd
              have hdr : d ≠ r := by rintro rfl; exact y6.live hd
              generalize hτ6 : AHeap.set (AHeap.set τ6 d _) d _ = τ6'
              have kd6 : Kept τ6 [] τ6' [] := by rw [← hτ6]; exact Kept.tmp hd
              have y6' : YG τ6' r s s1 := by rw [← hτ6]; exact (y6.set hdr).set hdr
              have gd6 : τ6'.get d = .cells [.int .i64 a1, .int .i64 0, .string ⟨#[]⟩, .int .i64 0] true 0 := by rw [← hτ6]; exact AHeap.get_set_same _ _ _
              clear hτ6
              have hdτ : τ.get d = .dead := by
                by_cases hh : τ.get d = .dead
                · exact hh
                · rw [k6.get d hh (by simpa using hdr)] at hd; exact absurd hd hh
              have M6 : Kept τ [r] τ6' [r] := k6.trans (kd6.wid (gp := [r]) (gp' := [r]) (fun _ h => by cases h) (fun _ h => .inr h))
              simp (disch := first | assumption | simp) only [↓sbD, sbU, tyB, Nat.reduceMul, Nat.reduceSub, Int.reduceEq, Int.reduceLT, Int.reduceLE, Int.reduceNe, Nat.reduceBneDiff, Nat.reduceBEq, decide_false, gt_iff_lt, Bool.or_self, Bool.false_eq_true, Nat.mul_one, Nat.one_mul, Nat.zero_mul, ↓reduceIte, Nat.reduceEqDiff, Nat.reduceLT, Nat.reduceAdd, Nat.reduceLeDiff, reduceCtorEq, goInt, pairs, isConst, TI.isAgg, splice, boxS, Edp, dpv, Nat.beq_eq, ZV.val, List.any_cons, List.any_nil, f5]
              refine specYU8G y6' hs fun τ7 k7 y7 => ?_
              obtain ⟨a2, s2, h2⟩ : ∃ a t, stepN s 1 s1 = (a, t) := ⟨_, _, rfl⟩
              simp only [h2] at y7 hes ⊢
              have gd7 := (k7.at gd6 (by simp) (by simpa using hdr)).1
              simp (disch := first | assumption | simp) only [↓sbD, sbU, tyB, Nat.reduceMul, Nat.reduceSub, Int.reduceEq, Int.reduceLT, Int.reduceLE, Int.reduceNe, Nat.reduceBneDiff, Nat.reduceBEq, decide_false, gt_iff_lt, Bool.or_self, Bool.false_eq_true, Nat.mul_one, Nat.one_mul, Nat.zero_mul, ↓reduceIte, Nat.reduceEqDiff, Nat.reduceLT, Nat.reduceAdd, Nat.reduceLeDiff, reduceCtorEq, goInt, pairs, isConst, TI.isAgg, splice, boxS, Edp, dpv, Nat.beq_eq, ZV.val, List.any_cons, List.any_nil, gd7, f5]
              generalize hτ7 : AHeap.set τ7 d _ = τ7'
              have y7' : YG τ7' r s s2 := by rw [← hτ7]; exact y7.set hdr
              have M7 : Kept τ [r] τ7' [r] := by rw [← hτ7]; exact (M6.trans k7).setD hdτ
              have gd7' : τ7'.get d = .cells [.int .i64 a1, .int .i64 a2, .string ⟨#[]⟩, .int .i64 0] true 0 := by rw [← hτ7]; exact AHeap.get_set_same _ _ _
              clear hτ7
              refine specYU32G y7' hs fun τ8 k8 y8 => ?_
              obtain ⟨a3, s3, h3⟩ : ∃ a t, stepN s 4 s2 = (a, t) := ⟨_, _, rfl⟩
              simp only [h3] at y8 hes ⊢
              have gd8 := (k8.at gd7' (by simp) (by simpa using hdr)).1
              simp (disch := first | assumption | simp) only [↓sbD, sbU, tyB, Nat.reduceMul, Nat.reduceSub, Int.reduceEq, Int.reduceLT, Int.reduceLE, Int.reduceNe, Nat.reduceBneDiff, Nat.reduceBEq, decide_false, gt_iff_lt, Bool.or_self, Bool.false_eq_true, Nat.mul_one, Nat.one_mul, Nat.zero_mul, ↓reduceIte, Nat.reduceEqDiff, Nat.reduceLT, Nat.reduceAdd, Nat.reduceLeDiff, reduceCtorEq, goInt, pairs, isConst, TI.isAgg, splice, boxS, Edp, dpv, Nat.beq_eq, ZV.val, List.any_cons, List.any_nil, gd8, f5]
              generalize hτ8 : AHeap.set τ8 d _ = τ8'
              have y8' : YG τ8' r s s3 := by rw [← hτ8]; exact y8.set hdr
              have M8 : Kept τ [r] τ8' [r] := by rw [← hτ8]; exact (M7.trans k8).setD hdτ
              have gd8' : τ8'.get d = .cells [.int .i64 a1, .int .i64 a2, .string ⟨#[]⟩, .int .i64 a3] true 0 := by rw [← hτ8]; exact AHeap.get_set_same _ _ _
              clear hτ8
              refine specYBinG y8' hs fun τ9 k9 y9 => ?_
              obtain ⟨b4, s4, h4⟩ : ∃ a t, stepB s s3 = (a, t) := ⟨_, _, rfl⟩
              simp only [h4] at y9 hes ⊢
              have gd9 := (k9.at gd8' (by simp) (by simpa using hdr)).1
              have M9 : ∀ o, Kept τ [r] (AHeap.set τ9 d o) [r] := fun o => (M8.trans k9).setD hdτ
              have dr : ∀ (τ : AHeap) o, (AHeap.set τ d o).get r = τ.get r := fun τ o => AHeap.get_set_ne _ _ hdr
              have gcN : ∀ o, (AHeap.set τ9 d o).get c = .cells [.int .i64 0, .int .i64 0, .int .i64 0, .int .i64 0, .int .i64 0, .int .i64 0, .int .i64 0, .int .i64 0, .int .i64 0, .int .i64 0, .int .i64 0, .int .i64 0, .int .i64 0] true 0 := fun o => ((M9 o).at gcL.1 (by simp) (by simpa using hrc.symm)).1
              have geN : ∀ o, (AHeap.set τ9 d o).get e = .cells [.int .i64 0, .int .i64 0, .int .i64 0] true 0 := fun o => ((M9 o).at geL.1 (by simp) (by simpa using hre.symm)).1
              cases s4 with
              | inr x =>
                obtain ⟨k, q3⟩ := x
                obtain ⟨hk0, p9, hp9, iy9⟩ := y9
                have hk0' : ¬ (k : Int) = 0 := by omega
                have iy9' := iy9
                unfold IsY at iy9'
                simp only at hes
                rw [hes] at hev
                simp only at hev
                rw [← hev] at hbad
                simp (disch := first | assumption | simp) only [↓sbD, sbU, tyB, Nat.reduceMul, Nat.reduceSub, Int.reduceEq, Int.reduceLT, Int.reduceLE, Int.reduceNe, Nat.reduceBneDiff, Nat.reduceBEq, decide_false, gt_iff_lt, Bool.or_self, Bool.false_eq_true, Nat.mul_one, Nat.one_mul, Nat.zero_mul, ↓reduceIte, Nat.reduceEqDiff, Nat.reduceLT, Nat.reduceAdd, Nat.reduceLeDiff, reduceCtorEq, goInt, pairs, isConst, TI.isAgg, splice, boxS, Edp, dpv, Nat.beq_eq, ZV.val, List.any_cons, List.any_nil, gd9, f5, dr, iy9', hk0']
                refine specYOf (p := p9) (by unfold IsY; rw [dr]; exact iy9') hp9 (fun h => absurd h hk0') (fun h => absurd h hk0') fun _ => ?_
                simp (disch := first | assumption | simp) only [↓sbD, sbU, tyB, Nat.reduceMul, Nat.reduceSub, Int.reduceEq, Int.reduceLT, Int.reduceLE, Int.reduceNe, Nat.reduceBneDiff, Nat.reduceBEq, decide_false, gt_iff_lt, Bool.or_self, Bool.false_eq_true, Nat.mul_one, Nat.one_mul, Nat.zero_mul, ↓reduceIte, Nat.reduceEqDiff, Nat.reduceLT, Nat.reduceAdd, Nat.reduceLeDiff, reduceCtorEq, goInt, pairs, isConst, TI.isAgg, splice, boxS, Edp, dpv, Nat.beq_eq, ZV.val, List.any_cons, List.any_nil, f2, f4, gcN, geN, ec, AHeap.get_set_ne _ _ hec, res_cellc, resC_some]
                exact downS_le (fin (KL.trans (M9 _))) (hbad k 129 q3 rfl)
              | inl q3 =>
                obtain ⟨iy9, hp9⟩ := y9
                have iy9' := iy9
                unfold IsY at iy9'
                simp only at hes
                simp (disch := first | assumption | simp) only [↓sbD, sbU, tyB, Nat.reduceMul, Nat.reduceSub, Int.reduceEq, Int.reduceLT, Int.reduceLE, Int.reduceNe, Nat.reduceBneDiff, Nat.reduceBEq, decide_false, gt_iff_lt, Bool.or_self, Bool.false_eq_true, Nat.mul_one, Nat.one_mul, Nat.zero_mul, ↓reduceIte, Nat.reduceEqDiff, Nat.reduceLT, Nat.reduceAdd, Nat.reduceLeDiff, reduceCtorEq, goInt, pairs, isConst, TI.isAgg, splice, boxS, Edp, dpv, Nat.beq_eq, ZV.val, List.any_cons, List.any_nil, gd9, f5, dr, iy9', AHeap.get_set_same]
                refine specYMay ?_
                by_cases hma : 1 ≤ a1 ∧ a1 ≤ 7
                · rw [if_pos hma] at hes
                  rw [hes] at hev
                  simp only at hev
                  rw [decide_eq_true hma]
                  have hg9 := hg.kept (M9 (.cells [.int .i64 a1, .int .i64 a2, .string b4, .int .i64 a3] true 0)) (fun b hb hm => hrf (by obtain rfl := List.mem_singleton.1 hm; exact hb))
                  simp (disch := first | assumption | simp) only [↓sbD, sbU, tyB, Nat.reduceMul, Nat.reduceSub, Int.reduceEq, Int.reduceLT, Int.reduceLE, Int.reduceNe, Nat.reduceBneDiff, Nat.reduceBEq, decide_false, gt_iff_lt, Bool.or_self, Bool.false_eq_true, Nat.mul_one, Nat.one_mul, Nat.zero_mul, ↓reduceIte, Nat.reduceEqDiff, Nat.reduceLT, Nat.reduceAdd, Nat.reduceLeDiff, reduceCtorEq, goInt, pairs, isConst, TI.isAgg, splice, boxS, Edp, dpv, Nat.beq_eq, ZV.val, List.any_cons, List.any_nil, not_bool, f11, AHeap.get_set_same]
                  refine app_ev (xs := [⟨a1, a2, b4, a3⟩]) hg9 (.inr ⟨1, rfl⟩) (by simp only [List.length_cons, List.length_nil]; omega) fun τA vA fpA kA gA => ?_
                  have iA := kA.at (show (AHeap.set τ9 d (.cells [.int .i64 a1, .int .i64 a2, .string b4, .int .i64 a3] true 0)).get r = _ from (dr _ _).trans iy9') (by simp) hrf
                  simp (disch := first | assumption | simp) only [↓sbD, sbU, tyB, Nat.reduceMul, Nat.reduceSub, Int.reduceEq, Int.reduceLT, Int.reduceLE, Int.reduceNe, Nat.reduceBneDiff, Nat.reduceBEq, decide_false, gt_iff_lt, Bool.or_self, Bool.false_eq_true, Nat.mul_one, Nat.one_mul, Nat.zero_mul, ↓reduceIte, Nat.reduceEqDiff, Nat.reduceLT, Nat.reduceAdd, Nat.reduceLeDiff, reduceCtorEq, goInt, pairs, isConst, TI.isAgg, splice, boxS, Edp, dpv, Nat.beq_eq, ZV.val, List.any_cons, List.any_nil, f12, hw]
                  refine ⟨_, m - 1, τA, rfl, by omega, Le.refl _, i + 1, q3, l ++ [⟨a1, a2, b4, a3⟩], vA, fpA, by omega, by simp (disch := first | assumption | simp) only [↓sbD, sbU, tyB, Nat.reduceMul, Nat.reduceSub, Int.reduceEq, Int.reduceLT, Int.reduceLE, Int.reduceNe, Nat.reduceBneDiff, Nat.reduceBEq, decide_false, gt_iff_lt, Bool.or_self, Bool.false_eq_true, Nat.mul_one, Nat.one_mul, Nat.zero_mul, ↓reduceIte, Nat.reduceEqDiff, Nat.reduceLT, Nat.reduceAdd, Nat.reduceLeDiff, reduceCtorEq, goInt, pairs, isConst, TI.isAgg, splice, boxS, Edp, dpv, Nat.beq_eq, ZV.val, List.any_cons, List.any_nil], rfl, gA, iA.2, iA.1, hp9, ?_, hev, by rw [List.length_append, hli]; rfl⟩
                  exact hk.trans (((M9 _).wid (gp := r :: fp) (gp' := r :: fp) (fun b hb => by simp at hb; simp [hb]) (fun b hb => .inr hb)).trans (kA.wid (gp := r :: fp) (gp' := r :: fpA) (fun b hb => by simp [hb]) (fun b hb => by simp only [List.mem_cons] at hb ⊢; rcases hb with hb | hb <;> simp [hb])))
                · rw [if_neg hma] at hes
                  rw [hes] at hev
                  simp only at hev
                  rw [← hev] at hbad
                  rw [decide_eq_false hma]
                  simp (disch := first | assumption | simp) only [↓sbD, sbU, tyB, Nat.reduceMul, Nat.reduceSub, Int.reduceEq, Int.reduceLT, Int.reduceLE, Int.reduceNe, Nat.reduceBneDiff, Nat.reduceBEq, decide_false, gt_iff_lt, Bool.or_self, Bool.false_eq_true, Nat.mul_one, Nat.one_mul, Nat.zero_mul, ↓reduceIte, Nat.reduceEqDiff, Nat.reduceLT, Nat.reduceAdd, Nat.reduceLeDiff, reduceCtorEq, goInt, pairs, isConst, TI.isAgg, splice, boxS, Edp, dpv, Nat.beq_eq, ZV.val, List.any_cons, List.any_nil, not_bool, f2, f4, gcN, geN, ec, AHeap.get_set_ne _ _ hec, res_cellc, resC_some]
                  exact downS_le (fin (KL.trans (M9 _))) (hbad 2 129 p2 rfl)
            · obtain rfl : i = n := by omega
              rw [Nat.sub_self] at hev
              simp only [evsR] at hev
              rw [← hev] at hok hbad
              simp only at hok hbad
              simp (disch := first | assumption | simp) only [↓sbD, sbU, tyB, Nat.reduceMul, Nat.reduceSub, Int.reduceEq, Int.reduceLT, Int.reduceLE, Int.reduceNe, Nat.reduceBneDiff, Nat.reduceBEq, decide_false, gt_iff_lt, Bool.or_self, Bool.false_eq_true, Nat.mul_one, Nat.one_mul, Nat.zero_mul, ↓reduceIte, Nat.reduceEqDiff, Nat.reduceLT, Nat.reduceAdd, Nat.reduceLeDiff, reduceCtorEq, goInt, pairs, isConst, TI.isAgg, splice, boxS, Edp, dpv, Nat.beq_eq, ZV.val, List.any_cons, List.any_nil, f5, f10, f12, hi]
              refine specYOf iyL hp2 (fun _ hpe => ?_) (fun _ hlt => ?_) fun h => absurd rfl h
              · rw [if_neg (by omega)] at hok
                simp (disch := first | assumption | simp) only [↓sbD, sbU, tyB, Nat.reduceMul, Nat.reduceSub, Int.reduceEq, Int.reduceLT, Int.reduceLE, Int.reduceNe, Nat.reduceBneDiff, Nat.reduceBEq, decide_false, gt_iff_lt, Bool.or_self, Bool.false_eq_true, Nat.mul_one, Nat.one_mul, Nat.zero_mul, ↓reduceIte, Nat.reduceEqDiff, Nat.reduceLT, Nat.reduceAdd, Nat.reduceLeDiff, reduceCtorEq, goInt, pairs, isConst, TI.isAgg, splice, boxS, Edp, dpv, Nat.beq_eq, ZV.val, List.any_cons, List.any_nil, AS_new, zeFlt]
                intro d hd
                have hdb := ne_dead hd gbL.1 (by simp)
                have hdc := ne_dead hd gcL.1 (by simp)
                have hde := ne_dead hd geL.1 (by simp)
                have dc : ∀ (τ : AHeap) o, (AHeap.set τ d o).get c = τ.get c := fun τ o => AHeap.get_set_ne _ _ hdc
                have de : ∀ (τ : AHeap) o, (AHeap.set τ d o).get e = τ.get e := fun τ o => AHeap.get_set_ne _ _ hde
                have db : ∀ (τ : AHeap) o, (AHeap.set τ d o).get b = τ.get b := fun τ o => AHeap.get_set_ne _ _ hdb
                simp (disch := first | assumption | simp) only [↓sbD, sbU, tyB, Nat.reduceMul, Nat.reduceSub, Int.reduceEq, Int.reduceLT, Int.reduceLE, Int.reduceNe, Nat.reduceBneDiff, Nat.reduceBEq, decide_false, gt_iff_lt, Bool.or_self, Bool.false_eq_true, Nat.mul_one, Nat.one_mul, Nat.zero_mul, ↓reduceIte, Nat.reduceEqDiff, Nat.reduceLT, Nat.reduceAdd, Nat.reduceLeDiff, reduceCtorEq, goInt, pairs, isConst, TI.isAgg, splice, boxS, Edp, dpv, Nat.beq_eq, ZV.val, List.any_cons, List.any_nil, f2, f4, f7, f11, gbL.1, gcL.1, geL.1, dc, de, db, ec, AHeap.get_set_ne _ _ hec, res_cellc, resC_some]
                have hx := hok cs l rfl hcz v2 hg.dl
                rw [hcl] at hx
                exact downS_le (Le.trans (fin KL) (Le.set (Le.set (Le.new' (Le.new hd) hd)))) hx
              · rw [if_pos hlt] at hbad
                simp (disch := first | assumption | simp) only [↓sbD, sbU, tyB, Nat.reduceMul, Nat.reduceSub, Int.reduceEq, Int.reduceLT, Int.reduceLE, Int.reduceNe, Nat.reduceBneDiff, Nat.reduceBEq, decide_false, gt_iff_lt, Bool.or_self, Bool.false_eq_true, Nat.mul_one, Nat.one_mul, Nat.zero_mul, ↓reduceIte, Nat.reduceEqDiff, Nat.reduceLT, Nat.reduceAdd, Nat.reduceLeDiff, reduceCtorEq, goInt, pairs, isConst, TI.isAgg, splice, boxS, Edp, dpv, Nat.beq_eq, ZV.val, List.any_cons, List.any_nil, AS_new, zeFlt]
                intro d hd
                have hdc := ne_dead hd gcL.1 (by simp)
                have hde := ne_dead hd geL.1 (by simp)
                have dc : ∀ (τ : AHeap) o, (AHeap.set τ d o).get c = τ.get c := fun τ o => AHeap.get_set_ne _ _ hdc
                have de : ∀ (τ : AHeap) o, (AHeap.set τ d o).get e = τ.get e := fun τ o => AHeap.get_set_ne _ _ hde
                have cd : ∀ (τ : AHeap) o, (AHeap.set τ c o).get d = τ.get d := fun τ o => AHeap.get_set_ne _ _ hdc.symm
                have ed : ∀ (τ : AHeap) o, (AHeap.set τ e o).get d = τ.get d := fun τ o => AHeap.get_set_ne _ _ hde.symm
                have hcd : Nat.beq c d = false := beq_ne hdc.symm
                have hed : Nat.beq e d = false := beq_ne hde.symm
                simp (disch := first | assumption | simp) only [↓sbD, sbU, tyB, Nat.reduceMul, Nat.reduceSub, Int.reduceEq, Int.reduceLT, Int.reduceLE, Int.reduceNe, Nat.reduceBneDiff, Nat.reduceBEq, decide_false, gt_iff_lt, Bool.or_self, Bool.false_eq_true, Nat.mul_one, Nat.one_mul, Nat.zero_mul, ↓reduceIte, Nat.reduceEqDiff, Nat.reduceLT, Nat.reduceAdd, Nat.reduceLeDiff, reduceCtorEq, goInt, pairs, isConst, TI.isAgg, splice, boxS, Edp, dpv, Nat.beq_eq, ZV.val, List.any_cons, List.any_nil, f2, f4, gcL.1, geL.1, dc, de, cd, ec]
                refine drawS_l (fl := [(1, 2)]) (by kernel_rfl) ?_ ?_
                rotate_left; simp only [lastP_cc, lastP_one]; rotate_left
                · simp only [List.all_cons, List.all_nil, floatS, List.getElem?_cons_succ, List.getElem?_cons_zero, List.getElem?_toArray, Region.wanted, Bool.not_true, Bool.not_false, Bool.false_or, Bool.true_or, Bool.or_true, Bool.true_and, reads, looksWeak, aev_tmp, aev_const, upd_at, ↓reduceIte, Nat.reduceEqDiff, Nat.reduceLT, Nat.reduceAdd, ofL_zero, ofL_succ, blkOf, oeq_refl, oeq_of, dead_cells, dead_map, Bool.and_true, Bool.and_self, Bool.false_eq_true, Bool.not_false, f2, f4, gcL.1, geL.1, dc, de, cd, ed, ec, hcd, hed, AHeap.get_set_same]
                simp (disch := first | assumption | simp) only [↓sbD, sbU, tyB, Nat.reduceMul, Nat.reduceSub, Int.reduceEq, Int.reduceLT, Int.reduceLE, Int.reduceNe, Nat.reduceBneDiff, Nat.reduceBEq, decide_false, gt_iff_lt, Bool.or_self, Bool.false_eq_true, Nat.mul_one, Nat.one_mul, Nat.zero_mul, ↓reduceIte, Nat.reduceEqDiff, Nat.reduceLT, Nat.reduceAdd, Nat.reduceLeDiff, reduceCtorEq, goInt, pairs, isConst, TI.isAgg, splice, boxS, Edp, dpv, Nat.beq_eq, ZV.val, List.any_cons, List.any_nil, f2, f4, gcL.1, geL.1, dc, de, cd, ec, AHeap.get_set_ne _ _ hec, res_cellc, resC_some]
                exact downS_le (Le.trans (fin KL) (Le.set (Le.set (Le.new' (Le.new hd) hd)))) (hbad 2 129 p2 rfl)
end
end Go.Proofs.YtccimdfmddomaaaDoor.AbsA
namespace Go.Proofs.YtccimdfmddomaaaDoor.AbsA
open Go AbsYtccimdfmddomaaaDoor Abs
set_option maxRecDepth 100000
set_option maxHeartbeats 4000000
set_option linter.unusedSimpArgs false
set_option linter.unusedVariables false
attribute [local irreducible] afterS afterOpS opSK OpsS TrS CodeS condS condW thenS thenQ guardS guardTS outS drawS trSK consS
section
variable {σ : AHeap} {Q : Value → AHeap → Prop}
theorem DLe.len {v : Value} {l : List Ev} (h : DL evC 4 v l) (σ : AHeap) : abuiltin E σ .len [24] [v] = some (.int .i64 (l.length : Int), σ) := by
  rcases h with ⟨rfl, rfl⟩ | ⟨m, rfl⟩ <;> rfl
theorem DLe.at {v : Value} {l : List Ev} (h : DL evC 4 v l) {i : Nat} (hi : i < l.length) : aindexAddr E 24 v (.int .i64 (i : Int)) = some (dptr (evC l[i] ++ (l.drop (i + 1)).flatMap evC)) := by
  rcases h with ⟨rfl, rfl⟩ | ⟨m, rfl⟩
  · simp at hi
  · rw [ia_dsl hi, drop_flat evC_len hi]; rfl
theorem evNe {cs : Bool} {e : Ev} : abin E σ .neq 104 cs (.agg ⟨evC e⟩) (.agg ⟨evC e⟩) = some (.bool false) := by
  simp only [evC, abin, nonNum, eqAsk, aeq, aeqs, apart, ty104, ty3, ty9, TI.isAgg, Bool.and_self, if_true, Bool.false_eq_true, if_false, List.getElem?_cons_zero, List.getElem?_cons_succ, ↓reduceIte, beq_self_eq_true, bytes_dec, decide_true, Option.map_some, Bool.not_true]
theorem specESame {v u : Value} {l : List Ev} (ha : DL evC 4 v l) (hb : DL evC 4 u l) (hl : l.length ≤ 100000) (h : Q (.bool true) σ) : CallS E B 15 [v, u] σ Q := by
  have la := DLe.len ha
  have lb := DLe.len hb
  refine call15 (by simp) ?_
  simp only [strip, bodyOf, Tryd.f15, getD_body, keepN, bareOp_mk, lessOp_mk, lapp_cons, lapp_nil, List.map_cons, List.map_nil, array_toList, ↓reduceIte, Nat.reduceEqDiff, Bool.false_eq_true]
  simp (disch := first | assumption | simp) only [↓sbD, sbU, tyB, Nat.reduceMul, Nat.reduceSub, Int.reduceEq, Int.reduceLT, Int.reduceLE, Int.reduceNe, Nat.reduceBneDiff, Nat.reduceBEq, decide_false, gt_iff_lt, Bool.or_self, Bool.false_eq_true, Nat.mul_one, Nat.one_mul, Nat.zero_mul, ↓reduceIte, Nat.reduceEqDiff, Nat.reduceLT, Nat.reduceAdd, Nat.reduceLeDiff, reduceCtorEq, goInt, pairs, isConst, TI.isAgg, splice, boxS, Edp, dpv, Nat.beq_eq, ZV.val, List.any_cons, List.any_nil, la, lb]
  refine S_loop (fun m f σ' => σ' = σ ∧ ∃ i : Nat, m + i = l.length ∧ f 5 = .int .i64 i) l.length (Le.refl _) ⟨rfl, 0, rfl, by simp (disch := first | assumption | simp) only [↓sbD, sbU, tyB, Nat.reduceMul, Nat.reduceSub, Int.reduceEq, Int.reduceLT, Int.reduceLE, Int.reduceNe, Nat.reduceBneDiff, Nat.reduceBEq, decide_false, gt_iff_lt, Bool.or_self, Bool.false_eq_true, Nat.mul_one, Nat.one_mul, Nat.zero_mul, ↓reduceIte, Nat.reduceEqDiff, Nat.reduceLT, Nat.reduceAdd, Nat.reduceLeDiff, reduceCtorEq, goInt, pairs, isConst, TI.isAgg, splice, boxS, Edp, dpv, Nat.beq_eq, ZV.val, List.any_cons, List.any_nil]; rfl⟩ ?_
  rintro m f σ' ⟨rfl, i, hm, f5⟩ hf
  have f0 := hf 0 (by decide) (notMem_wr (by kernel_rfl))
  have f1 := hf 1 (by decide) (notMem_wr (by kernel_rfl))
  simp (disch := first | assumption | simp) only [↓sbD, sbU, tyB, Nat.reduceMul, Nat.reduceSub, Int.reduceEq, Int.reduceLT, Int.reduceLE, Int.reduceNe, Nat.reduceBneDiff, Nat.reduceBEq, decide_false, gt_iff_lt, Bool.or_self, Bool.false_eq_true, Nat.mul_one, Nat.one_mul, Nat.zero_mul, ↓reduceIte, Nat.reduceEqDiff, Nat.reduceLT, Nat.reduceAdd, Nat.reduceLeDiff, reduceCtorEq, goInt, pairs, isConst, TI.isAgg, splice, boxS, Edp, dpv, Nat.beq_eq, ZV.val, List.any_cons, List.any_nil] at f0 f1
  clear hf
  by_cases hi : (i : Int) < (l.length : Int)
  · have hi' : i < l.length := by omega
    have a1 := DLe.at ha hi'
    have b1 := DLe.at hb hi'
    have hw := wrap_suc (n := i) (by omega)
    generalize l[i] = y at a1 b1
    have hac : evC y = [.int .i64 y.k, .int .i64 y.c, .string y.b, .int .i64 y.n] := rfl
    have hn : ∀ τ : AHeap, ∀ cs, abin E τ .neq 104 cs (.agg ⟨[.int .i64 y.k, .int .i64 y.c, .string y.b, .int .i64 y.n]⟩) (.agg ⟨[.int .i64 y.k, .int .i64 y.c, .string y.b, .int .i64 y.n]⟩) = some (.bool false) := fun τ cs => evNe (e := y)
    simp (disch := first | assumption | simp) only [↓sbD, sbU, tyB, Nat.reduceMul, Nat.reduceSub, Int.reduceEq, Int.reduceLT, Int.reduceLE, Int.reduceNe, Nat.reduceBneDiff, Nat.reduceBEq, decide_false, gt_iff_lt, Bool.or_self, Bool.false_eq_true, Nat.mul_one, Nat.one_mul, Nat.zero_mul, ↓reduceIte, Nat.reduceEqDiff, Nat.reduceLT, Nat.reduceAdd, Nat.reduceLeDiff, reduceCtorEq, goInt, pairs, isConst, TI.isAgg, splice, boxS, Edp, dpv, Nat.beq_eq, ZV.val, List.any_cons, List.any_nil, f0, f1, f5, la, lb, hi, a1, b1, hac, hn, hw]
    exact ⟨_, m - 1, _, rfl, by omega, Le.refl _, rfl, i + 1, by omega, by simp (disch := first | assumption | simp) only [↓sbD, sbU, tyB, Nat.reduceMul, Nat.reduceSub, Int.reduceEq, Int.reduceLT, Int.reduceLE, Int.reduceNe, Nat.reduceBneDiff, Nat.reduceBEq, decide_false, gt_iff_lt, Bool.or_self, Bool.false_eq_true, Nat.mul_one, Nat.one_mul, Nat.zero_mul, ↓reduceIte, Nat.reduceEqDiff, Nat.reduceLT, Nat.reduceAdd, Nat.reduceLeDiff, reduceCtorEq, goInt, pairs, isConst, TI.isAgg, splice, boxS, Edp, dpv, Nat.beq_eq, ZV.val, List.any_cons, List.any_nil]⟩
  · simp (disch := first | assumption | simp) only [↓sbD, sbU, tyB, Nat.reduceMul, Nat.reduceSub, Int.reduceEq, Int.reduceLT, Int.reduceLE, Int.reduceNe, Nat.reduceBneDiff, Nat.reduceBEq, decide_false, gt_iff_lt, Bool.or_self, Bool.false_eq_true, Nat.mul_one, Nat.one_mul, Nat.zero_mul, ↓reduceIte, Nat.reduceEqDiff, Nat.reduceLT, Nat.reduceAdd, Nat.reduceLeDiff, reduceCtorEq, goInt, pairs, isConst, TI.isAgg, splice, boxS, Edp, dpv, Nat.beq_eq, ZV.val, List.any_cons, List.any_nil, f0, f1, f5, la, lb, hi]
    exact downS_here h
theorem specEsameNil (h : Q (.bool true) σ) : CallS E B 31 [.nilIface, flt 0 0 0] σ Q := by
  refine call31 (by simp) ?_
  simp only [strip, bodyOf, Tryd.f31, getD_body, keepN, bareOp_mk, lessOp_mk, lapp_cons, lapp_nil, List.map_cons, List.map_nil, array_toList, ↓reduceIte, Nat.reduceEqDiff, Bool.false_eq_true]
  simp (disch := first | assumption | simp) only [↓sbD, sbU, tyB, Nat.reduceMul, Nat.reduceSub, Int.reduceEq, Int.reduceLT, Int.reduceLE, Int.reduceNe, Nat.reduceBneDiff, Nat.reduceBEq, decide_false, gt_iff_lt, Bool.or_self, Bool.false_eq_true, Nat.mul_one, Nat.one_mul, Nat.zero_mul, ↓reduceIte, Nat.reduceEqDiff, Nat.reduceLT, Nat.reduceAdd, Nat.reduceLeDiff, reduceCtorEq, goInt, pairs, isConst, TI.isAgg, splice, boxS, Edp, dpv, Nat.beq_eq, ZV.val, List.any_cons, List.any_nil]
  refine specNumberNil ?_
  simp (disch := first | assumption | simp) only [↓sbD, sbU, tyB, Nat.reduceMul, Nat.reduceSub, Int.reduceEq, Int.reduceLT, Int.reduceLE, Int.reduceNe, Nat.reduceBneDiff, Nat.reduceBEq, decide_false, gt_iff_lt, Bool.or_self, Bool.false_eq_true, Nat.mul_one, Nat.one_mul, Nat.zero_mul, ↓reduceIte, Nat.reduceEqDiff, Nat.reduceLT, Nat.reduceAdd, Nat.reduceLeDiff, reduceCtorEq, goInt, pairs, isConst, TI.isAgg, splice, boxS, Edp, dpv, Nat.beq_eq, ZV.val, List.any_cons, List.any_nil, eq_self]
  refine drawS_l (fl := [(3, 1), (13, 11), (19, 17)]) (by kernel_rfl) ?_ ?_
  rotate_left; simp only [lastP_cc, lastP_one]; rotate_left
  · simp only [List.all_cons, List.all_nil, floatS, List.getElem?_cons_succ, List.getElem?_cons_zero, List.getElem?_toArray, Region.wanted, Bool.not_true, Bool.not_false, Bool.false_or, Bool.true_or, Bool.or_true, Bool.true_and, reads, looksWeak, aev_tmp, aev_const, upd_at, ↓reduceIte, Nat.reduceEqDiff, Nat.reduceLT, Nat.reduceAdd, ofL_zero, ofL_succ, blkOf, oeq_refl, oeq_of, dead_cells, dead_map, Bool.and_true, Bool.and_self, Bool.false_eq_true, Bool.not_false, yield_list, yield_here, yield_next, truth_bool]
    try rfl
  simp (disch := first | assumption | simp) only [↓sbD, sbU, tyB, Nat.reduceMul, Nat.reduceSub, Int.reduceEq, Int.reduceLT, Int.reduceLE, Int.reduceNe, Nat.reduceBneDiff, Nat.reduceBEq, decide_false, gt_iff_lt, Bool.or_self, Bool.false_eq_true, Nat.mul_one, Nat.one_mul, Nat.zero_mul, ↓reduceIte, Nat.reduceEqDiff, Nat.reduceLT, Nat.reduceAdd, Nat.reduceLeDiff, reduceCtorEq, goInt, pairs, isConst, TI.isAgg, splice, boxS, Edp, dpv, Nat.beq_eq, ZV.val, List.any_cons, List.any_nil]
  exact downS_here h
theorem specEsameE {d k r a : Nat} {z : Value} (he : ErN d (fv r a z) k) (hd : d ≤ 4) (h : Q (.bool true) σ) : CallS E B 31 [fv r a z, flt k r a] σ Q := by
  have hk := he.val
  have hk0 : ¬ (k : Int) = 0 := by omega
  refine call31 (by simp) ?_
  simp only [strip, bodyOf, Tryd.f31, getD_body, keepN, bareOp_mk, lessOp_mk, lapp_cons, lapp_nil, List.map_cons, List.map_nil, array_toList, ↓reduceIte, Nat.reduceEqDiff, Bool.false_eq_true]
  simp (disch := first | assumption | simp) only [↓sbD, sbU, tyB, Nat.reduceMul, Nat.reduceSub, Int.reduceEq, Int.reduceLT, Int.reduceLE, Int.reduceNe, Nat.reduceBneDiff, Nat.reduceBEq, decide_false, gt_iff_lt, Bool.or_self, Bool.false_eq_true, Nat.mul_one, Nat.one_mul, Nat.zero_mul, ↓reduceIte, Nat.reduceEqDiff, Nat.reduceLT, Nat.reduceAdd, Nat.reduceLeDiff, reduceCtorEq, goInt, pairs, isConst, TI.isAgg, splice, boxS, Edp, dpv, Nat.beq_eq, ZV.val, List.any_cons, List.any_nil]
  refine specNumber he hd ?_
  simp (disch := first | assumption | simp) only [↓sbD, sbU, tyB, Nat.reduceMul, Nat.reduceSub, Int.reduceEq, Int.reduceLT, Int.reduceLE, Int.reduceNe, Nat.reduceBneDiff, Nat.reduceBEq, decide_false, gt_iff_lt, Bool.or_self, Bool.false_eq_true, Nat.mul_one, Nat.one_mul, Nat.zero_mul, ↓reduceIte, Nat.reduceEqDiff, Nat.reduceLT, Nat.reduceAdd, Nat.reduceLeDiff, reduceCtorEq, goInt, pairs, isConst, TI.isAgg, splice, boxS, Edp, dpv, Nat.beq_eq, ZV.val, List.any_cons, List.any_nil, eq_self, hk0]
  refine specReason ?_
  simp (disch := first | assumption | simp) only [↓sbD, sbU, tyB, Nat.reduceMul, Nat.reduceSub, Int.reduceEq, Int.reduceLT, Int.reduceLE, Int.reduceNe, Nat.reduceBneDiff, Nat.reduceBEq, decide_false, gt_iff_lt, Bool.or_self, Bool.false_eq_true, Nat.mul_one, Nat.one_mul, Nat.zero_mul, ↓reduceIte, Nat.reduceEqDiff, Nat.reduceLT, Nat.reduceAdd, Nat.reduceLeDiff, reduceCtorEq, goInt, pairs, isConst, TI.isAgg, splice, boxS, Edp, dpv, Nat.beq_eq, ZV.val, List.any_cons, List.any_nil, eq_self]
  refine specAt ?_
  simp (disch := first | assumption | simp) only [↓sbD, sbU, tyB, Nat.reduceMul, Nat.reduceSub, Int.reduceEq, Int.reduceLT, Int.reduceLE, Int.reduceNe, Nat.reduceBneDiff, Nat.reduceBEq, decide_false, gt_iff_lt, Bool.or_self, Bool.false_eq_true, Nat.mul_one, Nat.one_mul, Nat.zero_mul, ↓reduceIte, Nat.reduceEqDiff, Nat.reduceLT, Nat.reduceAdd, Nat.reduceLeDiff, reduceCtorEq, goInt, pairs, isConst, TI.isAgg, splice, boxS, Edp, dpv, Nat.beq_eq, ZV.val, List.any_cons, List.any_nil, eq_self]
  refine drawS_l (fl := [(3, 1), (13, 11), (19, 17)]) (by kernel_rfl) ?_ ?_
  rotate_left; simp only [lastP_cc, lastP_one]; rotate_left
  · simp only [List.all_cons, List.all_nil, floatS, List.getElem?_cons_succ, List.getElem?_cons_zero, List.getElem?_toArray, Region.wanted, Bool.not_true, Bool.not_false, Bool.false_or, Bool.true_or, Bool.or_true, Bool.true_and, reads, looksWeak, aev_tmp, aev_const, upd_at, ↓reduceIte, Nat.reduceEqDiff, Nat.reduceLT, Nat.reduceAdd, ofL_zero, ofL_succ, blkOf, oeq_refl, oeq_of, dead_cells, dead_map, Bool.and_true, Bool.and_self, Bool.false_eq_true, Bool.not_false, yield_list, yield_here, yield_next, truth_bool]
    try rfl
  simp (disch := first | assumption | simp) only [↓sbD, sbU, tyB, Nat.reduceMul, Nat.reduceSub, Int.reduceEq, Int.reduceLT, Int.reduceLE, Int.reduceNe, Nat.reduceBneDiff, Nat.reduceBEq, decide_false, gt_iff_lt, Bool.or_self, Bool.false_eq_true, Nat.mul_one, Nat.one_mul, Nat.zero_mul, ↓reduceIte, Nat.reduceEqDiff, Nat.reduceLT, Nat.reduceAdd, Nat.reduceLeDiff, reduceCtorEq, goInt, pairs, isConst, TI.isAgg, splice, boxS, Edp, dpv, Nat.beq_eq, ZV.val, List.any_cons, List.any_nil]
  exact downS_here h
theorem cfgEq {t : AHeap} {cs : Bool} {x0 x1 x2 x3 x4 x5 x6 x7 x8 x9 x10 x11 x12 : Int} : abin E t .eql 23 cs (.agg ⟨[.int .i64 x0, .int .i64 x1, .int .i64 x2, .int .i64 x3, .int .i64 x4, .int .i64 x5, .int .i64 x6, .int .i64 x7, .int .i64 x8, .int .i64 x9, .int .i64 x10, .int .i64 x11, .int .i64 x12]⟩) (.agg ⟨[.int .i64 x0, .int .i64 x1, .int .i64 x2, .int .i64 x3, .int .i64 x4, .int .i64 x5, .int .i64 x6, .int .i64 x7, .int .i64 x8, .int .i64 x9, .int .i64 x10, .int .i64 x11, .int .i64 x12]⟩) = some (.bool true) := by
  simp only [abin, nonNum, eqAsk, aeq, aeqs, apart, ty23, ty3, TI.isAgg, Bool.and_self, if_true, Bool.false_eq_true, if_false, List.getElem?_cons_zero, List.getElem?_cons_succ, ↓reduceIte, beq_self_eq_true, Option.map_some]
end
theorem law7 {H : AHeap} {vs : List Value} (hB0 : Ext B H) (h : ArgsTyped E H 8 [9] vs) : CallW E 7 vs H fun r _ => r = .bool true := by
  obtain ⟨u, vs1, rfl, t1, e1⟩ := h.cons'
  obtain rfl := e1.nil'
  obtain ⟨s, rfl⟩ := typed_s t1
  clear t1 e1 h
  have key : CallS E B 7 [.string s] .empty fun r _ => r = .bool true := by
    refine call7 (by simp) ?_
    simp only [strip, bodyOf, Tryd.f7, getD_body, keepN, bareOp_mk, lessOp_mk, lapp_cons, lapp_nil, List.map_cons, List.map_nil, array_toList, ↓reduceIte, Nat.reduceEqDiff, Bool.false_eq_true]
    by_cases hz : (8192 : Int) < (s.size : Int)
    · simp (disch := first | assumption | simp) only [↓sbD, sbU, tyB, Nat.reduceMul, Nat.reduceSub, Int.reduceEq, Int.reduceLT, Int.reduceLE, Int.reduceNe, Nat.reduceBneDiff, Nat.reduceBEq, decide_false, gt_iff_lt, Bool.or_self, Bool.false_eq_true, Nat.mul_one, Nat.one_mul, Nat.zero_mul, ↓reduceIte, Nat.reduceEqDiff, Nat.reduceLT, Nat.reduceAdd, Nat.reduceLeDiff, reduceCtorEq, goInt, pairs, isConst, TI.isAgg, splice, boxS, Edp, dpv, Nat.beq_eq, ZV.val, List.any_cons, List.any_nil, hz]
      refine specS12 ?_
      simp (disch := first | assumption | simp) only [↓sbD, sbU, tyB, Nat.reduceMul, Nat.reduceSub, Int.reduceEq, Int.reduceLT, Int.reduceLE, Int.reduceNe, Nat.reduceBneDiff, Nat.reduceBEq, decide_false, gt_iff_lt, Bool.or_self, Bool.false_eq_true, Nat.mul_one, Nat.one_mul, Nat.zero_mul, ↓reduceIte, Nat.reduceEqDiff, Nat.reduceLT, Nat.reduceAdd, Nat.reduceLeDiff, reduceCtorEq, goInt, pairs, isConst, TI.isAgg, splice, boxS, Edp, dpv, Nat.beq_eq, ZV.val, List.any_cons, List.any_nil]
      exact downS_here rfl
    simp (disch := first | assumption | simp) only [↓sbD, sbU, tyB, Nat.reduceMul, Nat.reduceSub, Int.reduceEq, Int.reduceLT, Int.reduceLE, Int.reduceNe, Nat.reduceBneDiff, Nat.reduceBEq, decide_false, gt_iff_lt, Bool.or_self, Bool.false_eq_true, Nat.mul_one, Nat.one_mul, Nat.zero_mul, ↓reduceIte, Nat.reduceEqDiff, Nat.reduceLT, Nat.reduceAdd, Nat.reduceLeDiff, reduceCtorEq, goInt, pairs, isConst, TI.isAgg, splice, boxS, Edp, dpv, Nat.beq_eq, ZV.val, List.any_cons, List.any_nil, hz]
    refine specSTake (by omega) (fun cf l ht hcz hlz v hv => ?_) fun k rr a ht d z hd her => ?_
    · obtain ⟨x0, x1, x2, x3, x4, x5, x6, x7, x8, x9, x10, x11, x12, hce⟩ := len13 hcz
      have hcl : cfgC cf = [.int .i64 x0, .int .i64 x1, .int .i64 x2, .int .i64 x3, .int .i64 x4, .int .i64 x5, .int .i64 x6, .int .i64 x7, .int .i64 x8, .int .i64 x9, .int .i64 x10, .int .i64 x11, .int .i64 x12] := by rw [hce]; rfl
      simp (disch := first | assumption | simp) only [↓sbD, sbU, tyB, Nat.reduceMul, Nat.reduceSub, Int.reduceEq, Int.reduceLT, Int.reduceLE, Int.reduceNe, Nat.reduceBneDiff, Nat.reduceBEq, decide_false, gt_iff_lt, Bool.or_self, Bool.false_eq_true, Nat.mul_one, Nat.one_mul, Nat.zero_mul, ↓reduceIte, Nat.reduceEqDiff, Nat.reduceLT, Nat.reduceAdd, Nat.reduceLeDiff, reduceCtorEq, goInt, pairs, isConst, TI.isAgg, splice, boxS, Edp, dpv, Nat.beq_eq, ZV.val, List.any_cons, List.any_nil, AS_new, zeCfg', hcl]
      intro b hb
      refine specYTakeS (by omega) (fun cf2 l2 ht2 hcz2 v2 hv2 => ?_) fun k rr a ht2 => by rw [ht] at ht2; cases ht2
      rw [ht] at ht2
      simp only [Except.ok.injEq, Prod.mk.injEq] at ht2
      obtain ⟨rfl, rfl⟩ := ht2
      simp (disch := first | assumption | simp) only [↓sbD, sbU, tyB, Nat.reduceMul, Nat.reduceSub, Int.reduceEq, Int.reduceLT, Int.reduceLE, Int.reduceNe, Nat.reduceBneDiff, Nat.reduceBEq, decide_false, gt_iff_lt, Bool.or_self, Bool.false_eq_true, Nat.mul_one, Nat.one_mul, Nat.zero_mul, ↓reduceIte, Nat.reduceEqDiff, Nat.reduceLT, Nat.reduceAdd, Nat.reduceLeDiff, reduceCtorEq, goInt, pairs, isConst, TI.isAgg, splice, boxS, Edp, dpv, Nat.beq_eq, ZV.val, List.any_cons, List.any_nil, AS_new, zeCfg', zeFlt, hcl]
      intro b2 hb2 d hd
      have h21 : b2 ≠ b := by rintro rfl; rw [AHeap.get_set_same] at hb2; cases hb2
      have hd2 : d ≠ b2 := by rintro rfl; rw [AHeap.get_set_same] at hd; cases hd
      have hd1 : d ≠ b := by rintro rfl; rw [AHeap.get_set_ne _ _ h21, AHeap.get_set_same] at hd; cases hd
      have n1 : ∀ (τ : AHeap) o, (AHeap.set τ b2 o).get b = τ.get b := fun τ o => AHeap.get_set_ne _ _ h21
      have n2 : ∀ (τ : AHeap) o, (AHeap.set τ d o).get b2 = τ.get b2 := fun τ o => AHeap.get_set_ne _ _ hd2
      have n3 : ∀ (τ : AHeap) o, (AHeap.set τ d o).get b = τ.get b := fun τ o => AHeap.get_set_ne _ _ hd1
      have n4 : ∀ (τ : AHeap) o, (AHeap.set τ b2 o).get d = τ.get d := fun τ o => AHeap.get_set_ne _ _ hd2.symm
      simp (disch := first | assumption | simp) only [↓sbD, sbU, tyB, Nat.reduceMul, Nat.reduceSub, Int.reduceEq, Int.reduceLT, Int.reduceLE, Int.reduceNe, Nat.reduceBneDiff, Nat.reduceBEq, decide_false, gt_iff_lt, Bool.or_self, Bool.false_eq_true, Nat.mul_one, Nat.one_mul, Nat.zero_mul, ↓reduceIte, Nat.reduceEqDiff, Nat.reduceLT, Nat.reduceAdd, Nat.reduceLeDiff, reduceCtorEq, goInt, pairs, isConst, TI.isAgg, splice, boxS, Edp, dpv, Nat.beq_eq, ZV.val, List.any_cons, List.any_nil, n1, n2, n3, n4, AHeap.get_set_same, cfgEq]
      refine specESame hv hv2 (by omega) ?_
      simp (disch := first | assumption | simp) only [↓sbD, sbU, tyB, Nat.reduceMul, Nat.reduceSub, Int.reduceEq, Int.reduceLT, Int.reduceLE, Int.reduceNe, Nat.reduceBneDiff, Nat.reduceBEq, decide_false, gt_iff_lt, Bool.or_self, Bool.false_eq_true, Nat.mul_one, Nat.one_mul, Nat.zero_mul, ↓reduceIte, Nat.reduceEqDiff, Nat.reduceLT, Nat.reduceAdd, Nat.reduceLeDiff, reduceCtorEq, goInt, pairs, isConst, TI.isAgg, splice, boxS, Edp, dpv, Nat.beq_eq, ZV.val, List.any_cons, List.any_nil, n1, n2, n3, n4, AHeap.get_set_same]
      refine specEsameNil ?_
      simp (disch := first | assumption | simp) only [↓sbD, sbU, tyB, Nat.reduceMul, Nat.reduceSub, Int.reduceEq, Int.reduceLT, Int.reduceLE, Int.reduceNe, Nat.reduceBneDiff, Nat.reduceBEq, decide_false, gt_iff_lt, Bool.or_self, Bool.false_eq_true, Nat.mul_one, Nat.one_mul, Nat.zero_mul, ↓reduceIte, Nat.reduceEqDiff, Nat.reduceLT, Nat.reduceAdd, Nat.reduceLeDiff, reduceCtorEq, goInt, pairs, isConst, TI.isAgg, splice, boxS, Edp, dpv, Nat.beq_eq, ZV.val, List.any_cons, List.any_nil]
      refine specS12 ?_
      simp (disch := first | assumption | simp) only [↓sbD, sbU, tyB, Nat.reduceMul, Nat.reduceSub, Int.reduceEq, Int.reduceLT, Int.reduceLE, Int.reduceNe, Nat.reduceBneDiff, Nat.reduceBEq, decide_false, gt_iff_lt, Bool.or_self, Bool.false_eq_true, Nat.mul_one, Nat.one_mul, Nat.zero_mul, ↓reduceIte, Nat.reduceEqDiff, Nat.reduceLT, Nat.reduceAdd, Nat.reduceLeDiff, reduceCtorEq, goInt, pairs, isConst, TI.isAgg, splice, boxS, Edp, dpv, Nat.beq_eq, ZV.val, List.any_cons, List.any_nil]
      exact downS_here rfl
    · simp (disch := first | assumption | simp) only [↓sbD, sbU, tyB, Nat.reduceMul, Nat.reduceSub, Int.reduceEq, Int.reduceLT, Int.reduceLE, Int.reduceNe, Nat.reduceBneDiff, Nat.reduceBEq, decide_false, gt_iff_lt, Bool.or_self, Bool.false_eq_true, Nat.mul_one, Nat.one_mul, Nat.zero_mul, ↓reduceIte, Nat.reduceEqDiff, Nat.reduceLT, Nat.reduceAdd, Nat.reduceLeDiff, reduceCtorEq, goInt, pairs, isConst, TI.isAgg, splice, boxS, Edp, dpv, Nat.beq_eq, ZV.val, List.any_cons, List.any_nil, AS_new, zeCfg', z13]
      intro b hb
      refine specYTakeS (by omega) (fun cf2 l2 ht2 _ _ _ => by rw [ht] at ht2; cases ht2) fun k2 rr2 a2 ht2 => ?_
      rw [ht] at ht2
      simp only [Except.error.injEq, Prod.mk.injEq] at ht2
      obtain ⟨rfl, rfl, rfl⟩ := ht2
      simp (disch := first | assumption | simp) only [↓sbD, sbU, tyB, Nat.reduceMul, Nat.reduceSub, Int.reduceEq, Int.reduceLT, Int.reduceLE, Int.reduceNe, Nat.reduceBneDiff, Nat.reduceBEq, decide_false, gt_iff_lt, Bool.or_self, Bool.false_eq_true, Nat.mul_one, Nat.one_mul, Nat.zero_mul, ↓reduceIte, Nat.reduceEqDiff, Nat.reduceLT, Nat.reduceAdd, Nat.reduceLeDiff, reduceCtorEq, goInt, pairs, isConst, TI.isAgg, splice, boxS, Edp, dpv, Nat.beq_eq, ZV.val, List.any_cons, List.any_nil, AS_new, zeCfg', zeFlt, z13]
      intro b2 hb2 d2 hd'
      have h21 : b2 ≠ b := by rintro rfl; rw [AHeap.get_set_same] at hb2; cases hb2
      have hd2 : d2 ≠ b2 := by rintro rfl; rw [AHeap.get_set_same] at hd'; cases hd'
      have hd1 : d2 ≠ b := by rintro rfl; rw [AHeap.get_set_ne _ _ h21, AHeap.get_set_same] at hd'; cases hd'
      have n1 : ∀ (τ : AHeap) o, (AHeap.set τ b2 o).get b = τ.get b := fun τ o => AHeap.get_set_ne _ _ h21
      have n2 : ∀ (τ : AHeap) o, (AHeap.set τ d2 o).get b2 = τ.get b2 := fun τ o => AHeap.get_set_ne _ _ hd2
      have n3 : ∀ (τ : AHeap) o, (AHeap.set τ d2 o).get b = τ.get b := fun τ o => AHeap.get_set_ne _ _ hd1
      have n4 : ∀ (τ : AHeap) o, (AHeap.set τ b2 o).get d2 = τ.get d2 := fun τ o => AHeap.get_set_ne _ _ hd2.symm
      simp (disch := first | assumption | simp) only [↓sbD, sbU, tyB, Nat.reduceMul, Nat.reduceSub, Int.reduceEq, Int.reduceLT, Int.reduceLE, Int.reduceNe, Nat.reduceBneDiff, Nat.reduceBEq, decide_false, gt_iff_lt, Bool.or_self, Bool.false_eq_true, Nat.mul_one, Nat.one_mul, Nat.zero_mul, ↓reduceIte, Nat.reduceEqDiff, Nat.reduceLT, Nat.reduceAdd, Nat.reduceLeDiff, reduceCtorEq, goInt, pairs, isConst, TI.isAgg, splice, boxS, Edp, dpv, Nat.beq_eq, ZV.val, List.any_cons, List.any_nil, n1, n2, n3, n4, AHeap.get_set_same, cfgEq]
      refine specESame (l := []) (.inl ⟨rfl, rfl⟩) (.inl ⟨rfl, rfl⟩) (by simp) ?_
      simp (disch := first | assumption | simp) only [↓sbD, sbU, tyB, Nat.reduceMul, Nat.reduceSub, Int.reduceEq, Int.reduceLT, Int.reduceLE, Int.reduceNe, Nat.reduceBneDiff, Nat.reduceBEq, decide_false, gt_iff_lt, Bool.or_self, Bool.false_eq_true, Nat.mul_one, Nat.one_mul, Nat.zero_mul, ↓reduceIte, Nat.reduceEqDiff, Nat.reduceLT, Nat.reduceAdd, Nat.reduceLeDiff, reduceCtorEq, goInt, pairs, isConst, TI.isAgg, splice, boxS, Edp, dpv, Nat.beq_eq, ZV.val, List.any_cons, List.any_nil, n1, n2, n3, n4, AHeap.get_set_same]
      refine specEsameE her (by omega) ?_
      simp (disch := first | assumption | simp) only [↓sbD, sbU, tyB, Nat.reduceMul, Nat.reduceSub, Int.reduceEq, Int.reduceLT, Int.reduceLE, Int.reduceNe, Nat.reduceBneDiff, Nat.reduceBEq, decide_false, gt_iff_lt, Bool.or_self, Bool.false_eq_true, Nat.mul_one, Nat.one_mul, Nat.zero_mul, ↓reduceIte, Nat.reduceEqDiff, Nat.reduceLT, Nat.reduceAdd, Nat.reduceLeDiff, reduceCtorEq, goInt, pairs, isConst, TI.isAgg, splice, boxS, Edp, dpv, Nat.beq_eq, ZV.val, List.any_cons, List.any_nil]
      refine specS12 ?_
      simp (disch := first | assumption | simp) only [↓sbD, sbU, tyB, Nat.reduceMul, Nat.reduceSub, Int.reduceEq, Int.reduceLT, Int.reduceLE, Int.reduceNe, Nat.reduceBneDiff, Nat.reduceBEq, decide_false, gt_iff_lt, Bool.or_self, Bool.false_eq_true, Nat.mul_one, Nat.one_mul, Nat.zero_mul, ↓reduceIte, Nat.reduceEqDiff, Nat.reduceLT, Nat.reduceAdd, Nat.reduceLeDiff, reduceCtorEq, goInt, pairs, isConst, TI.isAgg, splice, boxS, Edp, dpv, Nat.beq_eq, ZV.val, List.any_cons, List.any_nil]
      exact downS_here rfl
  exact (key H (ext_holds hB0)).mono fun r H' ⟨σ', _, h⟩ => h
end Go.Proofs.YtccimdfmddomaaaDoor.AbsA
