/-
  A part of a law's proof.
-/
import Derived.Test.YtccimdfmddomaaaDoorAFrqd
namespace Go.Proofs.YtccimdfmddomaaaDoor.AbsA
open Go AbsYtccimdfmddomaaaDoor Abs
set_option maxRecDepth 100000
set_option maxHeartbeats 4000000
set_option linter.unusedSimpArgs false
set_option linter.unusedVariables false
attribute [local irreducible] afterS afterOpS opSK OpsS TrS CodeS condS condW thenS thenQ guardS guardTS outS drawS trSK consS
section
variable {σ : AHeap} {Q : Value → AHeap → Prop} {x : Nat} {most : Int} {w : ByteArray}
theorem zeFr : azero E 37 = some [.int .i64 0, .string ⟨#[]⟩] := rfl
theorem zeFlt : azero E 40 = some [.int .i64 0, .int .i64 0, .int .i64 0] := rfl
theorem Kept.none {σ σ' : AHeap} {fp fp' : List Nat} (h : Kept σ fp σ' fp') : Kept σ fp σ' [] := ⟨h.get, fun _ h => by cases h⟩
theorem specNextNil (h : Q (.tuple #[frV 0 emp, .bool false, .nilIface]) σ) : CallS E B 29 [.pointer none] σ Q := by
  refine call29 (by simp) ?_
  simp only [strip, bodyOf, Tryd.f29, getD_body, keepN, bareOp_mk, lessOp_mk, lapp_cons, lapp_nil, List.map_cons, List.map_nil, array_toList, ↓reduceIte, Nat.reduceEqDiff, Bool.false_eq_true]
  simp (disch := first | assumption | simp) only [↓sbD, sbU, tyB, Nat.reduceMul, Nat.reduceSub, Int.reduceEq, Int.reduceLT, Int.reduceLE, Int.reduceNe, Nat.reduceBneDiff, Nat.reduceBEq, decide_false, gt_iff_lt, Bool.or_self, Bool.false_eq_true, Nat.mul_one, Nat.one_mul, Nat.zero_mul, ↓reduceIte, Nat.reduceEqDiff, Nat.reduceLT, Nat.reduceAdd, Nat.reduceLeDiff, reduceCtorEq, goInt, pairs, isConst, TI.isAgg, splice, boxS, Edp, dpv, Nat.beq_eq, ZV.val, List.any_cons, List.any_nil, AS_new, zeFr]
  intro c hc
  refine specFLeftNil ?_
  simp (disch := first | assumption | simp) only [↓sbD, sbU, tyB, Nat.reduceMul, Nat.reduceSub, Int.reduceEq, Int.reduceLT, Int.reduceLE, Int.reduceNe, Nat.reduceBneDiff, Nat.reduceBEq, decide_false, gt_iff_lt, Bool.or_self, Bool.false_eq_true, Nat.mul_one, Nat.one_mul, Nat.zero_mul, ↓reduceIte, Nat.reduceEqDiff, Nat.reduceLT, Nat.reduceAdd, Nat.reduceLeDiff, reduceCtorEq, goInt, pairs, isConst, TI.isAgg, splice, boxS, Edp, dpv, Nat.beq_eq, ZV.val, List.any_cons, List.any_nil]
  refine specFFirstNil ?_
  simp (disch := first | assumption | simp) only [↓sbD, sbU, tyB, Nat.reduceMul, Nat.reduceSub, Int.reduceEq, Int.reduceLT, Int.reduceLE, Int.reduceNe, Nat.reduceBneDiff, Nat.reduceBEq, decide_false, gt_iff_lt, Bool.or_self, Bool.false_eq_true, Nat.mul_one, Nat.one_mul, Nat.zero_mul, ↓reduceIte, Nat.reduceEqDiff, Nat.reduceLT, Nat.reduceAdd, Nat.reduceLeDiff, reduceCtorEq, goInt, pairs, isConst, TI.isAgg, splice, boxS, Edp, dpv, Nat.beq_eq, ZV.val, List.any_cons, List.any_nil, res_cellc, resC_some]
  exact downS_le (Le.new' (Le.new hc) hc) h
theorem specNextE {u : Nat} {v : Value} (hx : IsF σ x most w (.iface u v)) (h : Q (.tuple #[frV 0 emp, .bool false, .iface u v]) σ) : CallS E B 29 [.pointer (some ⟨x, 0, none⟩)] σ Q := by
  refine call29 (by simp) ?_
  simp only [strip, bodyOf, Tryd.f29, getD_body, keepN, bareOp_mk, lessOp_mk, lapp_cons, lapp_nil, List.map_cons, List.map_nil, array_toList, ↓reduceIte, Nat.reduceEqDiff, Bool.false_eq_true]
  simp (disch := first | assumption | simp) only [↓sbD, sbU, tyB, Nat.reduceMul, Nat.reduceSub, Int.reduceEq, Int.reduceLT, Int.reduceLE, Int.reduceNe, Nat.reduceBneDiff, Nat.reduceBEq, decide_false, gt_iff_lt, Bool.or_self, Bool.false_eq_true, Nat.mul_one, Nat.one_mul, Nat.zero_mul, ↓reduceIte, Nat.reduceEqDiff, Nat.reduceLT, Nat.reduceAdd, Nat.reduceLeDiff, reduceCtorEq, goInt, pairs, isConst, TI.isAgg, splice, boxS, Edp, dpv, Nat.beq_eq, ZV.val, List.any_cons, List.any_nil, AS_new, zeFr]
  intro c hc
  have hne : c ≠ x := by rintro rfl; rw [hx] at hc; cases hc
  have hx1 : ∀ o, (AHeap.set σ c o).get x = .cells [.int .i64 most, .string w, .iface u v] true 0 := fun o => by rw [AHeap.get_set_ne _ _ hne]; exact hx
  refine specFLeft (hx1 _) ?_
  by_cases h0 : (w.size : Int) = 0
  · simp (disch := first | assumption | simp) only [↓sbD, sbU, tyB, Nat.reduceMul, Nat.reduceSub, Int.reduceEq, Int.reduceLT, Int.reduceLE, Int.reduceNe, Nat.reduceBneDiff, Nat.reduceBEq, decide_false, gt_iff_lt, Bool.or_self, Bool.false_eq_true, Nat.mul_one, Nat.one_mul, Nat.zero_mul, ↓reduceIte, Nat.reduceEqDiff, Nat.reduceLT, Nat.reduceAdd, Nat.reduceLeDiff, reduceCtorEq, goInt, pairs, isConst, TI.isAgg, splice, boxS, Edp, dpv, Nat.beq_eq, ZV.val, List.any_cons, List.any_nil, h0]
    refine specFFirst (hx1 _) ?_
    simp (disch := first | assumption | simp) only [↓sbD, sbU, tyB, Nat.reduceMul, Nat.reduceSub, Int.reduceEq, Int.reduceLT, Int.reduceLE, Int.reduceNe, Nat.reduceBneDiff, Nat.reduceBEq, decide_false, gt_iff_lt, Bool.or_self, Bool.false_eq_true, Nat.mul_one, Nat.one_mul, Nat.zero_mul, ↓reduceIte, Nat.reduceEqDiff, Nat.reduceLT, Nat.reduceAdd, Nat.reduceLeDiff, reduceCtorEq, goInt, pairs, isConst, TI.isAgg, splice, boxS, Edp, dpv, Nat.beq_eq, ZV.val, List.any_cons, List.any_nil, res_cellc, resC_some]
    exact downS_le (Le.new' (Le.new hc) hc) h
  · simp (disch := first | assumption | simp) only [↓sbD, sbU, tyB, Nat.reduceMul, Nat.reduceSub, Int.reduceEq, Int.reduceLT, Int.reduceLE, Int.reduceNe, Nat.reduceBneDiff, Nat.reduceBEq, decide_false, gt_iff_lt, Bool.or_self, Bool.false_eq_true, Nat.mul_one, Nat.one_mul, Nat.zero_mul, ↓reduceIte, Nat.reduceEqDiff, Nat.reduceLT, Nat.reduceAdd, Nat.reduceLeDiff, reduceCtorEq, goInt, pairs, isConst, TI.isAgg, splice, boxS, Edp, dpv, Nat.beq_eq, ZV.val, List.any_cons, List.any_nil, h0, hx1]
    refine specFFirst (hx1 _) ?_
    simp (disch := first | assumption | simp) only [↓sbD, sbU, tyB, Nat.reduceMul, Nat.reduceSub, Int.reduceEq, Int.reduceLT, Int.reduceLE, Int.reduceNe, Nat.reduceBneDiff, Nat.reduceBEq, decide_false, gt_iff_lt, Bool.or_self, Bool.false_eq_true, Nat.mul_one, Nat.one_mul, Nat.zero_mul, ↓reduceIte, Nat.reduceEqDiff, Nat.reduceLT, Nat.reduceAdd, Nat.reduceLeDiff, reduceCtorEq, goInt, pairs, isConst, TI.isAgg, splice, boxS, Edp, dpv, Nat.beq_eq, ZV.val, List.any_cons, List.any_nil, res_cellc, resC_some]
    exact downS_le (Le.new' (Le.new hc) hc) h
theorem specNext (hx : IsF σ x most w .nilIface) (hs : w.size ≤ 10000)
    (h0 : w.size = 0 → Q (.tuple #[frV 0 emp, .bool false, .nilIface]) σ)
    (hw : w.size ≠ 0 → nextF most w = .wait → ∀ σ', Kept σ [x] σ' [x] → IsF σ' x most w .nilIface → Q (.tuple #[frV 0 emp, .bool false, .nilIface]) σ')
    (hb : ∀ k r a : Nat, w.size ≠ 0 → nextF most w = .bad k r a → ∀ σ' d z, Kept σ [x] σ' [x] → d ≤ 2 → ErN d (fv r a z) k → IsF σ' x most w (fv r a z) → Q (.tuple #[frV 0 emp, .bool false, fv r a z]) σ')
    (hg : ∀ f b t, w.size ≠ 0 → nextF most w = .got f b t → ∀ σ', Kept σ [x] σ' [x] → IsF σ' x most t .nilIface → Q (.tuple #[frV f b, .bool true, .nilIface]) σ') : CallS E B 29 [.pointer (some ⟨x, 0, none⟩)] σ Q := by
  refine call29 (by simp) ?_
  simp only [strip, bodyOf, Tryd.f29, getD_body, keepN, bareOp_mk, lessOp_mk, lapp_cons, lapp_nil, List.map_cons, List.map_nil, array_toList, ↓reduceIte, Nat.reduceEqDiff, Bool.false_eq_true]
  simp (disch := first | assumption | simp) only [↓sbD, sbU, tyB, Nat.reduceMul, Nat.reduceSub, Int.reduceEq, Int.reduceLT, Int.reduceLE, Int.reduceNe, Nat.reduceBneDiff, Nat.reduceBEq, decide_false, gt_iff_lt, Bool.or_self, Bool.false_eq_true, Nat.mul_one, Nat.one_mul, Nat.zero_mul, ↓reduceIte, Nat.reduceEqDiff, Nat.reduceLT, Nat.reduceAdd, Nat.reduceLeDiff, reduceCtorEq, goInt, pairs, isConst, TI.isAgg, splice, boxS, Edp, dpv, Nat.beq_eq, ZV.val, List.any_cons, List.any_nil, AS_new, zeFr]
  intro c hc
  have hne : c ≠ x := by rintro rfl; rw [hx] at hc; cases hc
  have hx1 : ∀ o, (AHeap.set σ c o).get x = .cells [.int .i64 most, .string w, .nilIface] true 0 := fun o => by rw [AHeap.get_set_ne _ _ hne]; exact hx
  refine specFLeft (hx1 _) ?_
  by_cases hz : (w.size : Int) = 0
  · simp (disch := first | assumption | simp) only [↓sbD, sbU, tyB, Nat.reduceMul, Nat.reduceSub, Int.reduceEq, Int.reduceLT, Int.reduceLE, Int.reduceNe, Nat.reduceBneDiff, Nat.reduceBEq, decide_false, gt_iff_lt, Bool.or_self, Bool.false_eq_true, Nat.mul_one, Nat.one_mul, Nat.zero_mul, ↓reduceIte, Nat.reduceEqDiff, Nat.reduceLT, Nat.reduceAdd, Nat.reduceLeDiff, reduceCtorEq, goInt, pairs, isConst, TI.isAgg, splice, boxS, Edp, dpv, Nat.beq_eq, ZV.val, List.any_cons, List.any_nil, hz]
    refine specFFirst (hx1 _) ?_
    simp (disch := first | assumption | simp) only [↓sbD, sbU, tyB, Nat.reduceMul, Nat.reduceSub, Int.reduceEq, Int.reduceLT, Int.reduceLE, Int.reduceNe, Nat.reduceBneDiff, Nat.reduceBEq, decide_false, gt_iff_lt, Bool.or_self, Bool.false_eq_true, Nat.mul_one, Nat.one_mul, Nat.zero_mul, ↓reduceIte, Nat.reduceEqDiff, Nat.reduceLT, Nat.reduceAdd, Nat.reduceLeDiff, reduceCtorEq, goInt, pairs, isConst, TI.isAgg, splice, boxS, Edp, dpv, Nat.beq_eq, ZV.val, List.any_cons, List.any_nil, res_cellc, resC_some]
    exact downS_le (Le.new' (Le.new hc) hc) (h0 (by omega))
  · have hz' : w.size ≠ 0 := by omega
    have hidx : aindex E 9 (.string w) (.int .i64 0) = some (.int .u8 ((bt w 0 : Nat) : Int)) := idx_str (i := 0) (by omega)
    have hbl := bt_lt w 0
    have hwr : IntKind.i64.wrap ((bt w 0 : Nat) : Int) = ((bt w 0 : Nat) : Int) := wrap64 ⟨by omega, by omega⟩
    simp (disch := first | assumption | simp) only [↓sbD, sbU, tyB, Nat.reduceMul, Nat.reduceSub, Int.reduceEq, Int.reduceLT, Int.reduceLE, Int.reduceNe, Nat.reduceBneDiff, Nat.reduceBEq, decide_false, gt_iff_lt, Bool.or_self, Bool.false_eq_true, Nat.mul_one, Nat.one_mul, Nat.zero_mul, ↓reduceIte, Nat.reduceEqDiff, Nat.reduceLT, Nat.reduceAdd, Nat.reduceLeDiff, reduceCtorEq, goInt, pairs, isConst, TI.isAgg, splice, boxS, Edp, dpv, Nat.beq_eq, ZV.val, List.any_cons, List.any_nil, hz, hx1, hidx, hwr]
    have gx : ∀ (τ : AHeap) o, (AHeap.set τ c o).get x = τ.get x := fun τ o => AHeap.get_set_ne _ _ hne
    have xc : ∀ (τ : AHeap) o, (AHeap.set τ x o).get c = τ.get c := fun τ o => AHeap.get_set_ne _ _ hne.symm
    have gc : ∀ o o', (AHeap.set (AHeap.set σ c o) x o').get c = o := fun o o' => by rw [AHeap.get_set_ne _ _ hne.symm, AHeap.get_set_same]
    have gd : ∀ o', (AHeap.set σ x o').get c = .dead := fun o' => by rw [AHeap.get_set_ne _ _ hne.symm]; exact hc
    have hcx : Nat.beq c x = false := beq_ne hne
    refine specFCheck (fun hm => ?_) fun hm => ?_
    · rw [mayN_I] at hm
      simp (disch := first | assumption | simp) only [↓sbD, sbU, tyB, Nat.reduceMul, Nat.reduceSub, Int.reduceEq, Int.reduceLT, Int.reduceLE, Int.reduceNe, Nat.reduceBneDiff, Nat.reduceBEq, decide_false, gt_iff_lt, Bool.or_self, Bool.false_eq_true, Nat.mul_one, Nat.one_mul, Nat.zero_mul, ↓reduceIte, Nat.reduceEqDiff, Nat.reduceLT, Nat.reduceAdd, Nat.reduceLeDiff, reduceCtorEq, goInt, pairs, isConst, TI.isAgg, splice, boxS, Edp, dpv, Nat.beq_eq, ZV.val, List.any_cons, List.any_nil, hx1]
      have ix2 : IsF (AHeap.set (AHeap.set σ c (.cells [.int .i64 0, .string ⟨#[]⟩] true 0)) x (.cells [.int .i64 most, .string w, .nilIface] true 0)) x most w .nilIface := AHeap.get_set_same _ _ _
      refine specLength ix2 hz' hs (fun q ht => ?_) (fun k q d z n m ht hd he => ?_) (fun n k ht hl => ?_) fun n k ht hl => ?_
      · have hn : nextF most w = .wait := by unfold nextF; rw [if_pos hm, ht]
        simp (disch := first | assumption | simp) only [↓sbD, sbU, tyB, Nat.reduceMul, Nat.reduceSub, Int.reduceEq, Int.reduceLT, Int.reduceLE, Int.reduceNe, Nat.reduceBneDiff, Nat.reduceBEq, decide_false, gt_iff_lt, Bool.or_self, Bool.false_eq_true, Nat.mul_one, Nat.one_mul, Nat.zero_mul, ↓reduceIte, Nat.reduceEqDiff, Nat.reduceLT, Nat.reduceAdd, Nat.reduceLeDiff, reduceCtorEq, goInt, pairs, isConst, TI.isAgg, splice, boxS, Edp, dpv, Nat.beq_eq, ZV.val, List.any_cons, List.any_nil, not_bool, xc]
        refine drawS_l (fl := [(4, 5)]) (by kernel_rfl) ?_ ?_
        rotate_left; simp only [lastP_cc, lastP_one]; rotate_left
        · simp only [List.all_cons, List.all_nil, floatS, List.getElem?_cons_succ, List.getElem?_cons_zero, List.getElem?_toArray, Region.wanted, Bool.not_true, Bool.not_false, Bool.false_or, Bool.true_or, Bool.or_true, Bool.true_and, reads, looksWeak, aev_tmp, aev_const, upd_at, ↓reduceIte, Nat.reduceEqDiff, Nat.reduceLT, Nat.reduceAdd, ofL_zero, ofL_succ, blkOf, oeq_refl, oeq_of, dead_cells, dead_map, Bool.and_true, Bool.and_self, Bool.false_eq_true, Bool.not_false, xc, hcx, gx, AHeap.get_set_same]
        simp (disch := first | assumption | simp) only [↓sbD, sbU, tyB, Nat.reduceMul, Nat.reduceSub, Int.reduceEq, Int.reduceLT, Int.reduceLE, Int.reduceNe, Nat.reduceBneDiff, Nat.reduceBEq, decide_false, gt_iff_lt, Bool.or_self, Bool.false_eq_true, Nat.mul_one, Nat.one_mul, Nat.zero_mul, ↓reduceIte, Nat.reduceEqDiff, Nat.reduceLT, Nat.reduceAdd, Nat.reduceLeDiff, reduceCtorEq, goInt, pairs, isConst, TI.isAgg, splice, boxS, Edp, dpv, Nat.beq_eq, ZV.val, List.any_cons, List.any_nil, res_cellc, resC_some, xc]
        have hh := hw hz' hn (AHeap.set σ x (.cells [.int .i64 most, .string w, .nilIface] true 0)) (Kept.set (by simp)) (AHeap.get_set_same _ _ _)
        exact downS_le (Le.new' (Le.set (Le.new hc)) (gd _)) hh
      · have hn : nextF most w = .bad (k + 2) 129 (1 + q) := by unfold nextF; rw [if_pos hm, ht]
        simp (disch := first | assumption | simp) only [↓sbD, sbU, tyB, Nat.reduceMul, Nat.reduceSub, Int.reduceEq, Int.reduceLT, Int.reduceLE, Int.reduceNe, Nat.reduceBneDiff, Nat.reduceBEq, decide_false, gt_iff_lt, Bool.or_self, Bool.false_eq_true, Nat.mul_one, Nat.one_mul, Nat.zero_mul, ↓reduceIte, Nat.reduceEqDiff, Nat.reduceLT, Nat.reduceAdd, Nat.reduceLeDiff, reduceCtorEq, goInt, pairs, isConst, TI.isAgg, splice, boxS, Edp, dpv, Nat.beq_eq, ZV.val, List.any_cons, List.any_nil, not_bool, xc]
        refine drawS_l (fl := [(4, 5)]) (by kernel_rfl) ?_ ?_
        rotate_left; simp only [lastP_cc, lastP_one]; rotate_left
        · simp only [List.all_cons, List.all_nil, floatS, List.getElem?_cons_succ, List.getElem?_cons_zero, List.getElem?_toArray, Region.wanted, Bool.not_true, Bool.not_false, Bool.false_or, Bool.true_or, Bool.or_true, Bool.true_and, reads, looksWeak, aev_tmp, aev_const, upd_at, ↓reduceIte, Nat.reduceEqDiff, Nat.reduceLT, Nat.reduceAdd, ofL_zero, ofL_succ, blkOf, oeq_refl, oeq_of, dead_cells, dead_map, Bool.and_true, Bool.and_self, Bool.false_eq_true, Bool.not_false, xc, hcx, gx, AHeap.get_set_same]
        simp (disch := first | assumption | simp) only [↓sbD, sbU, tyB, Nat.reduceMul, Nat.reduceSub, Int.reduceEq, Int.reduceLT, Int.reduceLE, Int.reduceNe, Nat.reduceBneDiff, Nat.reduceBEq, decide_false, gt_iff_lt, Bool.or_self, Bool.false_eq_true, Nat.mul_one, Nat.one_mul, Nat.zero_mul, ↓reduceIte, Nat.reduceEqDiff, Nat.reduceLT, Nat.reduceAdd, Nat.reduceLeDiff, reduceCtorEq, goInt, pairs, isConst, TI.isAgg, splice, boxS, Edp, dpv, Nat.beq_eq, ZV.val, List.any_cons, List.any_nil, res_cellc, resC_some, xc]
        have hh := hb _ _ _ hz' hn (AHeap.set (AHeap.set σ x (.cells [.int .i64 most, .string w, .nilIface] true 0)) x (.cells [.int .i64 most, .string w, fv (129 : Nat) ((1 + q : Nat) : Int) z] true 0)) d z ((Kept.set (by simp)).trans (Kept.set (by simp))) hd he (AHeap.get_set_same _ _ _)
        exact downS_le (Le.new' (Le.set (Le.set (Le.new hc))) (by rw [AHeap.get_set_ne _ _ hne.symm]; exact gd _)) hh
      · have hn : nextF most w = .bad 4 149 0 := by unfold nextF; rw [if_pos hm, ht]; simp only [if_pos hl]
        simp (disch := first | assumption | simp) only [↓sbD, sbU, tyB, Nat.reduceMul, Nat.reduceSub, Int.reduceEq, Int.reduceLT, Int.reduceLE, Int.reduceNe, Nat.reduceBneDiff, Nat.reduceBEq, decide_false, gt_iff_lt, Bool.or_self, Bool.false_eq_true, Nat.mul_one, Nat.one_mul, Nat.zero_mul, ↓reduceIte, Nat.reduceEqDiff, Nat.reduceLT, Nat.reduceAdd, Nat.reduceLeDiff, reduceCtorEq, goInt, pairs, isConst, TI.isAgg, splice, boxS, Edp, dpv, Nat.beq_eq, ZV.val, List.any_cons, List.any_nil, not_bool, xc]
        refine drawS_l (fl := [(4, 5)]) (by kernel_rfl) ?_ ?_
        rotate_left; simp only [lastP_cc, lastP_one]; rotate_left
        · simp only [List.all_cons, List.all_nil, floatS, List.getElem?_cons_succ, List.getElem?_cons_zero, List.getElem?_toArray, Region.wanted, Bool.not_true, Bool.not_false, Bool.false_or, Bool.true_or, Bool.or_true, Bool.true_and, reads, looksWeak, aev_tmp, aev_const, upd_at, ↓reduceIte, Nat.reduceEqDiff, Nat.reduceLT, Nat.reduceAdd, ofL_zero, ofL_succ, blkOf, oeq_refl, oeq_of, dead_cells, dead_map, Bool.and_true, Bool.and_self, Bool.false_eq_true, Bool.not_false, xc, hcx, gx, AHeap.get_set_same]
        simp (disch := first | assumption | simp) only [↓sbD, sbU, tyB, Nat.reduceMul, Nat.reduceSub, Int.reduceEq, Int.reduceLT, Int.reduceLE, Int.reduceNe, Nat.reduceBneDiff, Nat.reduceBEq, decide_false, gt_iff_lt, Bool.or_self, Bool.false_eq_true, Nat.mul_one, Nat.one_mul, Nat.zero_mul, ↓reduceIte, Nat.reduceEqDiff, Nat.reduceLT, Nat.reduceAdd, Nat.reduceLeDiff, reduceCtorEq, goInt, pairs, isConst, TI.isAgg, splice, boxS, Edp, dpv, Nat.beq_eq, ZV.val, List.any_cons, List.any_nil, res_cellc, resC_some, xc]
        have hh := hb _ _ _ hz' hn (AHeap.set (AHeap.set σ x (.cells [.int .i64 most, .string w, .nilIface] true 0)) x (.cells [.int .i64 most, .string w, fv 149 0 (sent 4)] true 0)) 1 _ ((Kept.set (by simp)).trans (Kept.set (by simp))) (by omega) (ErN.new _ _ ⟨by omega, by omega⟩) (AHeap.get_set_same _ _ _)
        exact downS_le (Le.new' (Le.set (Le.set (Le.new hc))) (by rw [AHeap.get_set_ne _ _ hne.symm]; exact gd _)) hh
      · have hk := takeF_k (w.extract 1 w.size) 4 0 0 (by omega)
        rw [ht] at hk
        have hk : k ≤ (w.extract 1 w.size).size := hk
        have hzz : (w.extract 1 w.size).size ≤ 10000 := by rw [ByteArray.size_extract]; omega
        have hnn := takeF_n ht
        have w1 : IntKind.i64.wrap (1 + (k : Int)) = ((1 + k : Nat) : Int) := by rw [wrap64 ⟨by omega, by omega⟩]; omega
        have w2 : IntKind.i64.wrap (((1 + k : Nat) : Int) + (n : Int)) = ((1 + k + n : Nat) : Int) := by rw [wrap64 ⟨by omega, by omega⟩]; omega
        by_cases hsh : w.size < 1 + k + n
        · have hn : nextF most w = .wait := by unfold nextF; rw [if_pos hm, ht]; simp only [if_neg hl, if_pos hsh]
          have hsh' : (w.size : Int) < ((1 + k + n : Nat) : Int) := by omega
          simp (disch := first | assumption | simp) only [↓sbD, sbU, tyB, Nat.reduceMul, Nat.reduceSub, Int.reduceEq, Int.reduceLT, Int.reduceLE, Int.reduceNe, Nat.reduceBneDiff, Nat.reduceBEq, decide_false, gt_iff_lt, Bool.or_self, Bool.false_eq_true, Nat.mul_one, Nat.one_mul, Nat.zero_mul, ↓reduceIte, Nat.reduceEqDiff, Nat.reduceLT, Nat.reduceAdd, Nat.reduceLeDiff, reduceCtorEq, goInt, pairs, isConst, TI.isAgg, splice, boxS, Edp, dpv, Nat.beq_eq, ZV.val, List.any_cons, List.any_nil, not_bool, xc, w1, w2, hsh']
          refine drawS_l (fl := [(4, 5)]) (by kernel_rfl) ?_ ?_
          rotate_left; simp only [lastP_cc, lastP_one]; rotate_left
          · simp only [List.all_cons, List.all_nil, floatS, List.getElem?_cons_succ, List.getElem?_cons_zero, List.getElem?_toArray, Region.wanted, Bool.not_true, Bool.not_false, Bool.false_or, Bool.true_or, Bool.or_true, Bool.true_and, reads, looksWeak, aev_tmp, aev_const, upd_at, ↓reduceIte, Nat.reduceEqDiff, Nat.reduceLT, Nat.reduceAdd, ofL_zero, ofL_succ, blkOf, oeq_refl, oeq_of, dead_cells, dead_map, Bool.and_true, Bool.and_self, Bool.false_eq_true, Bool.not_false, xc, hcx, gx, AHeap.get_set_same]
          simp (disch := first | assumption | simp) only [↓sbD, sbU, tyB, Nat.reduceMul, Nat.reduceSub, Int.reduceEq, Int.reduceLT, Int.reduceLE, Int.reduceNe, Nat.reduceBneDiff, Nat.reduceBEq, decide_false, gt_iff_lt, Bool.or_self, Bool.false_eq_true, Nat.mul_one, Nat.one_mul, Nat.zero_mul, ↓reduceIte, Nat.reduceEqDiff, Nat.reduceLT, Nat.reduceAdd, Nat.reduceLeDiff, reduceCtorEq, goInt, pairs, isConst, TI.isAgg, splice, boxS, Edp, dpv, Nat.beq_eq, ZV.val, List.any_cons, List.any_nil, res_cellc, resC_some, xc]
          have hh := hw hz' hn (AHeap.set σ x (.cells [.int .i64 most, .string w, .nilIface] true 0)) (Kept.set (by simp)) (AHeap.get_set_same _ _ _)
          exact downS_le (Le.new' (Le.set (Le.new hc)) (gd _)) hh
        · have hn : nextF most w = .got (bt w 0) (w.extract (1 + k) (1 + k + n)) (w.extract (1 + k + n) w.size) := by unfold nextF; rw [if_pos hm, ht]; simp only [if_neg hl, if_neg hsh]
          have hsh' : ¬ (w.size : Int) < ((1 + k + n : Nat) : Int) := by omega
          have sl1 : ∀ τ : AHeap, aslice E τ 9 (.string w) (some (.int .i64 ((1 + k : Nat) : Int))) (some (.int .i64 ((1 + k + n : Nat) : Int))) none = some (.string (w.extract (1 + k) (1 + k + n))) := fun τ => slice_str ty9 (by omega) (by omega)
          have sl2 : ∀ τ : AHeap, aslice E τ 9 (.string w) (some (.int .i64 ((1 + k + n : Nat) : Int))) none none = some (.string (w.extract (1 + k + n) w.size)) := fun τ => slice_from ty9 (by omega)
          simp (disch := first | assumption | simp) only [↓sbD, sbU, tyB, Nat.reduceMul, Nat.reduceSub, Int.reduceEq, Int.reduceLT, Int.reduceLE, Int.reduceNe, Nat.reduceBneDiff, Nat.reduceBEq, decide_false, gt_iff_lt, Bool.or_self, Bool.false_eq_true, Nat.mul_one, Nat.one_mul, Nat.zero_mul, ↓reduceIte, Nat.reduceEqDiff, Nat.reduceLT, Nat.reduceAdd, Nat.reduceLeDiff, reduceCtorEq, goInt, pairs, isConst, TI.isAgg, splice, boxS, Edp, dpv, Nat.beq_eq, ZV.val, List.any_cons, List.any_nil, not_bool, xc, w1, w2, hsh', sl1, AS_new, zeFr, Option.map_some, Option.map_none]
          intro d hd
          have hdx : d ≠ x := by rintro rfl; rw [AHeap.get_set_same] at hd; cases hd
          have hdc : d ≠ c := by rintro rfl; rw [gc] at hd; cases hd
          have dx : ∀ (τ : AHeap) o, (AHeap.set τ d o).get x = τ.get x := fun τ o => AHeap.get_set_ne _ _ hdx
          have dc : ∀ (τ : AHeap) o, (AHeap.set τ d o).get c = τ.get c := fun τ o => AHeap.get_set_ne _ _ hdc
          have xd : ∀ (τ : AHeap) o, (AHeap.set τ x o).get d = τ.get d := fun τ o => AHeap.get_set_ne _ _ hdx.symm
          simp (disch := first | assumption | simp) only [↓sbD, sbU, tyB, Nat.reduceMul, Nat.reduceSub, Int.reduceEq, Int.reduceLT, Int.reduceLE, Int.reduceNe, Nat.reduceBneDiff, Nat.reduceBEq, decide_false, gt_iff_lt, Bool.or_self, Bool.false_eq_true, Nat.mul_one, Nat.one_mul, Nat.zero_mul, ↓reduceIte, Nat.reduceEqDiff, Nat.reduceLT, Nat.reduceAdd, Nat.reduceLeDiff, reduceCtorEq, goInt, pairs, isConst, TI.isAgg, splice, boxS, Edp, dpv, Nat.beq_eq, ZV.val, List.any_cons, List.any_nil, dx, dc, xd, xc, gx, sl2, w2, Option.map_some, Option.map_none, res_cellc, resC_some]
          have hd0 : σ.get d = .dead := by rw [xd, AHeap.get_set_ne _ _ hdc.symm] at hd; exact hd
          have hd1 : (AHeap.set σ x (.cells [.int .i64 most, .string w, .nilIface] true 0)).get d = .dead := by rw [xd]; exact hd0
          have hh := hg _ _ _ hz' hn (AHeap.set (AHeap.set σ x (.cells [.int .i64 most, .string w, .nilIface] true 0)) x (.cells [.int .i64 most, .string (w.extract (1 + k + n) w.size), .nilIface] true 0)) ((Kept.set (by simp)).trans (Kept.set (by simp))) (AHeap.get_set_same _ _ _)
          exact downS_le (Le.new' (Le.set (Le.new' (Le.new' (Le.set (Le.new hc)) hd1) hd1)) (by rw [xc]; exact gd _)) hh
    · have hn : nextF most w = .bad 2 129 0 := by rw [mayN_I] at hm; unfold nextF; rw [if_neg (by rw [hm]; decide)]
      simp (disch := first | assumption | simp) only [↓sbD, sbU, tyB, Nat.reduceMul, Nat.reduceSub, Int.reduceEq, Int.reduceLT, Int.reduceLE, Int.reduceNe, Nat.reduceBneDiff, Nat.reduceBEq, decide_false, gt_iff_lt, Bool.or_self, Bool.false_eq_true, Nat.mul_one, Nat.one_mul, Nat.zero_mul, ↓reduceIte, Nat.reduceEqDiff, Nat.reduceLT, Nat.reduceAdd, Nat.reduceLeDiff, reduceCtorEq, goInt, pairs, isConst, TI.isAgg, splice, boxS, Edp, dpv, Nat.beq_eq, ZV.val, List.any_cons, List.any_nil, hx1, xc]
      refine drawS_l (fl := [(4, 5)]) (by kernel_rfl) ?_ ?_
      rotate_left; simp only [lastP_cc, lastP_one]; rotate_left
      · simp only [List.all_cons, List.all_nil, floatS, List.getElem?_cons_succ, List.getElem?_cons_zero, List.getElem?_toArray, Region.wanted, Bool.not_true, Bool.not_false, Bool.false_or, Bool.true_or, Bool.or_true, Bool.true_and, reads, looksWeak, aev_tmp, aev_const, upd_at, ↓reduceIte, Nat.reduceEqDiff, Nat.reduceLT, Nat.reduceAdd, ofL_zero, ofL_succ, blkOf, oeq_refl, oeq_of, dead_cells, dead_map, Bool.and_true, Bool.and_self, Bool.false_eq_true, Bool.not_false, xc, hcx, gx, AHeap.get_set_same]
      simp (disch := first | assumption | simp) only [↓sbD, sbU, tyB, Nat.reduceMul, Nat.reduceSub, Int.reduceEq, Int.reduceLT, Int.reduceLE, Int.reduceNe, Nat.reduceBneDiff, Nat.reduceBEq, decide_false, gt_iff_lt, Bool.or_self, Bool.false_eq_true, Nat.mul_one, Nat.one_mul, Nat.zero_mul, ↓reduceIte, Nat.reduceEqDiff, Nat.reduceLT, Nat.reduceAdd, Nat.reduceLeDiff, reduceCtorEq, goInt, pairs, isConst, TI.isAgg, splice, boxS, Edp, dpv, Nat.beq_eq, ZV.val, List.any_cons, List.any_nil, res_cellc, resC_some, xc]
      have hh := hb _ _ _ hz' hn (AHeap.set σ x (.cells [.int .i64 most, .string w, fv 129 0 (sent 2)] true 0)) 1 _ (Kept.set (by simp)) (by omega) (ErN.new _ _ ⟨by omega, by omega⟩) (AHeap.get_set_same _ _ _)
      exact downS_le (Le.new' (Le.set (Le.new hc)) (gd _)) hh
end
end Go.Proofs.YtccimdfmddomaaaDoor.AbsA
