/-
  Parts of a law's proof.
-/
import Derived.Test.YtkhcbbpfchgemaaASsqaJ
import Derived.Test.YtkhcbbpfchgemaaASbqaJ
namespace Go.Proofs.Ytkhcbbpfchgemaa.AbsN
open Go AbsYtkhcbbpfchgemaa Abs
open AbsA (Pr propC DL Kept Kept.refl Kept.trans Kept.none Kept.setD Kept.set Kept.new' Kept.wid Kept.at GS Ms msC msC_len msC_oc Ms.vc Ms.withV IsQ disj dl_vc dead_of nd fm_len res_cellc resC_some drawS_l lastP_cc lastP_one)
open AbsS (msgC PS)
set_option maxRecDepth 100000
set_option maxHeartbeats 4000000
set_option linter.unusedSimpArgs false
set_option linter.unusedVariables false
attribute [local irreducible] afterS afterOpS opSK OpsS TrS CodeS condS condW thenS thenQ guardS guardTS outS drawS trSK consS
section
variable {σ : AHeap} {Q : Value → AHeap → Prop} {b : Nat} {most : Int} {W : List Ms} {fp : List Nat}
abbrev MSZ : List Value := [.string ⟨#[]⟩, .string ⟨#[]⟩, .int .i64 0, .bool false, .slice none 0 0, .string ⟨#[]⟩, .int .i64 0, .int .i64 0, .string ⟨#[]⟩]
theorem specComeC {m : Ms} {now : Int} (hq : ∀ σ' c, Kept σ [] σ' [] → (m.u ≤ 0 → c = false) → Q (.bool c) σ') : CallS E B 50 [.agg ⟨msC m⟩, .int .i64 now] σ Q := by
  by_cases hu : m.u ≤ 0
  · exact specCome hu fun σ' k => hq σ' false k fun _ => rfl
  · exact specComeB fun σ' c k => hq σ' c k fun h => absurd h hu
/-- the first message -/
theorem isQ_head {m : Ms} {R : List Ms} (h : IsQ σ b most (m :: R) fp) : ∃ v fp0 d o xs, σ.get b = .cells [.int .i64 most, v] true 0 ∧ GS msC 9 σ v (m :: R) fp0 ∧ fp = b :: fp0 ∧ aindexAddr E 22 v (.int .i64 0) = some (.pointer (some ⟨d, o, none⟩)) ∧ σ.get d = .cells xs true 9 ∧ o + 9 ≤ xs.length ∧ (xs.drop o).take 9 = msC m ∧ fp0 = [d] := by
  obtain ⟨v, fp0, gb, gs, rfl⟩ := h
  obtain ⟨d, o, xs, h1, h2, h3, h4, h5, _⟩ := gs.at (E := E) msC_len (i := 0) (by simp) ty22 ty37
  exact ⟨v, fp0, d, o, xs, gb, gs, rfl, h1, h2, h3, h4, h5⟩
theorem specQFirst {now : Int} (hw : IsQ σ b most W fp) (hl : ∀ m ∈ W, m.l.length ≤ 100000)
    (hnone : ∀ σ' fp', ((∀ m ∈ W, m.u ≤ 0) → W = []) → IsQ σ' b most [] fp' → Kept σ fp σ' fp' → Q (.tuple #[.agg ⟨MSZ⟩, .bool false]) σ')
    (hsome : ∀ k m R σ' fp', W.drop k = m :: R → ((∀ m ∈ W, m.u ≤ 0) → k = 0) → IsQ σ' b most (m :: R) fp' → Kept σ fp σ' fp' → ∀ v h, Q (.tuple #[.agg ⟨msC (m.withV v m.l h)⟩, .bool true]) σ') :
    CallS E B 31 [.pointer (some ⟨b, 0, none⟩), .int .i64 now] σ Q := by
  refine call31 (by simp) ?_
  simp only [strip, bodyOf, Try.f31, getD_body, keepN, bareOp_mk, lessOp_mk, lapp_cons, lapp_nil, List.map_cons, List.map_nil, array_toList, ↓reduceIte, Nat.reduceEqDiff, Bool.false_eq_true]
  simp (disch := first | assumption | simp) only [↓sbD, sbU, tyB, Nat.reduceMul, Nat.reduceSub, Int.reduceEq, Int.reduceLT, Int.reduceLE, Int.reduceNe, Nat.reduceBneDiff, Nat.reduceBEq, decide_false, gt_iff_lt, Bool.or_self, Bool.false_eq_true, Nat.mul_one, Nat.one_mul, Nat.zero_mul, ↓reduceIte, Nat.reduceEqDiff, Nat.reduceLT, Nat.reduceAdd, Nat.reduceLeDiff, reduceCtorEq, goInt, pairs, isConst, TI.isAgg, splice, boxS, Edp, dpv, Nat.beq_eq, ZV.val, List.any_cons, List.any_nil, Bool.false_and, AS_new, zeMs]
  intro a ha
  generalize hσ1 : AHeap.set σ a _ = σ1
  have k1 : Kept σ [] σ1 [] := by rw [← hσ1]; exact (Kept.refl σ []).setD ha
  have ga1 : σ1.get a = .cells MSZ true 0 := by rw [← hσ1]; exact AHeap.get_set_same _ _ _
  have hw1 : IsQ σ1 b most W fp := hw.kept k1 (fun _ _ h => by cases h)
  have hafp : a ∉ fp := fun h => hw.live a h ha
  have K1 : Kept σ fp σ1 fp := k1.wid (fun _ h => by cases h) (fun _ h => .inr h)
  clear hσ1
  try simp (disch := first | assumption | simp) only [↓sbD, sbU, tyB, Nat.reduceMul, Nat.reduceSub, Int.reduceEq, Int.reduceLT, Int.reduceLE, Int.reduceNe, Nat.reduceBneDiff, Nat.reduceBEq, decide_false, gt_iff_lt, Bool.or_self, Bool.false_eq_true, Nat.mul_one, Nat.one_mul, Nat.zero_mul, ↓reduceIte, Nat.reduceEqDiff, Nat.reduceLT, Nat.reduceAdd, Nat.reduceLeDiff, reduceCtorEq, goInt, pairs, isConst, TI.isAgg, splice, boxS, Edp, dpv, Nat.beq_eq, ZV.val, List.any_cons, List.any_nil, Bool.false_and]
  refine S_loop (fun j f σ' => ∃ k fp', j + k = W.length ∧ ((∀ m ∈ W, m.u ≤ 0) → k = 0) ∧ IsQ σ' b most (W.drop k) fp' ∧ Kept σ1 fp σ' fp') W.length (Le.refl _) ⟨0, fp, by omega, fun _ => rfl, hw1, Kept.refl _ _⟩ ?_
  rintro j f σ2 ⟨k, fp2, hj, h0, hw2, K2⟩ hf
  have f0 := hf 0 (by decide) (notMem_wr (by kernel_rfl))
  have f1 := hf 1 (by decide) (notMem_wr (by kernel_rfl))
  have f4 := hf 4 (by decide) (notMem_wr (by kernel_rfl))
  simp (disch := first | assumption | simp) only [↓sbD, sbU, tyB, Nat.reduceMul, Nat.reduceSub, Int.reduceEq, Int.reduceLT, Int.reduceLE, Int.reduceNe, Nat.reduceBneDiff, Nat.reduceBEq, decide_false, gt_iff_lt, Bool.or_self, Bool.false_eq_true, Nat.mul_one, Nat.one_mul, Nat.zero_mul, ↓reduceIte, Nat.reduceEqDiff, Nat.reduceLT, Nat.reduceAdd, Nat.reduceLeDiff, reduceCtorEq, goInt, pairs, isConst, TI.isAgg, splice, boxS, Edp, dpv, Nat.beq_eq, ZV.val, List.any_cons, List.any_nil, Bool.false_and] at f0 f1 f4
  clear hf
  obtain ⟨ga2, hafp2⟩ := K2.at ga1 (by simp) hafp
  have fin : ∀ {τ : AHeap} {fp' : List Nat} {o : AObj}, Kept σ1 fp τ fp' → Kept σ fp (τ.set a o) fp' := fun kt => (K1.trans kt).setD ha
  simp (disch := first | assumption | simp) only [↓sbD, sbU, tyB, Nat.reduceMul, Nat.reduceSub, Int.reduceEq, Int.reduceLT, Int.reduceLE, Int.reduceNe, Nat.reduceBneDiff, Nat.reduceBEq, decide_false, gt_iff_lt, Bool.or_self, Bool.false_eq_true, Nat.mul_one, Nat.one_mul, Nat.zero_mul, ↓reduceIte, Nat.reduceEqDiff, Nat.reduceLT, Nat.reduceAdd, Nat.reduceLeDiff, reduceCtorEq, goInt, pairs, isConst, TI.isAgg, splice, boxS, Edp, dpv, Nat.beq_eq, ZV.val, List.any_cons, List.any_nil, Bool.false_and, f0]
  refine specQLen hw2 ?_
  rcases hd : W.drop k with _ | ⟨m, R⟩
  · rw [hd] at hw2
    have hw0 : (∀ m ∈ W, m.u ≤ 0) → W = [] := fun h => by rw [h0 h] at hd; simpa using hd
    have h00 : ((0 : Nat) : Int) = 0 := rfl
    simp only [List.length_nil]
    simp (disch := first | assumption | simp) only [↓sbD, sbU, tyB, Nat.reduceMul, Nat.reduceSub, Int.reduceEq, Int.reduceLT, Int.reduceLE, Int.reduceNe, Nat.reduceBneDiff, Nat.reduceBEq, decide_false, gt_iff_lt, Bool.or_self, Bool.false_eq_true, Nat.mul_one, Nat.one_mul, Nat.zero_mul, ↓reduceIte, Nat.reduceEqDiff, Nat.reduceLT, Nat.reduceAdd, Nat.reduceLeDiff, reduceCtorEq, goInt, pairs, isConst, TI.isAgg, splice, boxS, Edp, dpv, Nat.beq_eq, ZV.val, List.any_cons, List.any_nil, Bool.false_and, f0, h00]
    refine specQLen hw2 ?_
    simp (disch := first | assumption | simp) only [↓sbD, sbU, tyB, Nat.reduceMul, Nat.reduceSub, Int.reduceEq, Int.reduceLT, Int.reduceLE, Int.reduceNe, Nat.reduceBneDiff, Nat.reduceBEq, decide_false, gt_iff_lt, Bool.or_self, Bool.false_eq_true, Nat.mul_one, Nat.one_mul, Nat.zero_mul, ↓reduceIte, Nat.reduceEqDiff, Nat.reduceLT, Nat.reduceAdd, Nat.reduceLeDiff, reduceCtorEq, goInt, pairs, isConst, TI.isAgg, splice, boxS, Edp, dpv, Nat.beq_eq, ZV.val, List.any_cons, List.any_nil, Bool.false_and, f4, h00, zeMs, ga2, AHeap.get_set_same, res_cellc, resC_some]
    exact downS_here (hnone _ fp2 hw0 (hw2.kept (show Kept σ2 [a] (σ2.set a _) [a] from Kept.set (by simp)) fun x hx h => by obtain rfl := List.mem_singleton.1 h; exact hafp2 hx) (fin K2))
  rw [hd] at hw2
  have hmW : m ∈ W := List.mem_of_mem_drop (by rw [hd]; simp)
  have hkl : k < W.length := by
    have := congrArg List.length hd
    rw [List.length_drop] at this
    simp only [List.length_cons] at this
    omega
  have hpos : (0 : Int) < ((R.length + 1 : Nat) : Int) := by omega
  have hne0 : ¬ ((R.length + 1 : Nat) : Int) = 0 := by omega
  simp only [List.length_cons]
  obtain ⟨v, fp0, d, o, xs, gb, gs, rfl, hia, gd, hle, hta, hfd⟩ := isQ_head hw2
  have hmc : msC m = [.string m.t, .string m.p, .int .i64 m.q, .bool m.r, m.v, .string m.f, .int .i64 m.u, .int .i64 m.n, .string m.g] := rfl
  simp (disch := first | assumption | simp) only [↓sbD, sbU, tyB, Nat.reduceMul, Nat.reduceSub, Int.reduceEq, Int.reduceLT, Int.reduceLE, Int.reduceNe, Nat.reduceBneDiff, Nat.reduceBEq, decide_false, gt_iff_lt, Bool.or_self, Bool.false_eq_true, Nat.mul_one, Nat.one_mul, Nat.zero_mul, ↓reduceIte, Nat.reduceEqDiff, Nat.reduceLT, Nat.reduceAdd, Nat.reduceLeDiff, reduceCtorEq, goInt, pairs, isConst, TI.isAgg, splice, boxS, Edp, dpv, Nat.beq_eq, ZV.val, List.any_cons, List.any_nil, Bool.false_and, f0, f1, hpos, gb, hia, gd, hle, hta]
  refine specComeC fun σ3 c k3 hc => ?_
  have hw3 := hw2.kept k3 (fun _ _ h => by cases h)
  have K3 := K2.trans (k3.wid (gp := b :: fp0) (gp' := b :: fp0) (fun _ h => by cases h) (fun _ h => .inr h))
  obtain ⟨ga3, _⟩ := K3.at ga1 (by simp) hafp
  have gb3 := (k3.at gb (by simp) (by simp)).1
  have gd3 := (k3.at gd (by simp) (by simp)).1
  have gs3 := gs.kept k3 (fun _ _ h => by cases h)
  have hbf : b ∉ fp0 := gs.off gb (by decide)
  cases c with
  | true =>
    obtain ⟨v4, hs4, gs4⟩ := gs3.drop (E := E) msC_len (i := 1) (by simp only [List.length_cons]; omega) ty22 ty37
    have hs4' : aslice E σ3 22 v (some (.int .i64 1)) none none = some v4 := hs4
    have gv4 := gs4.vc
    simp (disch := first | assumption | simp) only [↓sbD, sbU, tyB, Nat.reduceMul, Nat.reduceSub, Int.reduceEq, Int.reduceLT, Int.reduceLE, Int.reduceNe, Nat.reduceBneDiff, Nat.reduceBEq, decide_false, gt_iff_lt, Bool.or_self, Bool.false_eq_true, Nat.mul_one, Nat.one_mul, Nat.zero_mul, ↓reduceIte, Nat.reduceEqDiff, Nat.reduceLT, Nat.reduceAdd, Nat.reduceLeDiff, reduceCtorEq, goInt, pairs, isConst, TI.isAgg, splice, boxS, Edp, dpv, Nat.beq_eq, ZV.val, List.any_cons, List.any_nil, Bool.false_and, f0, f1, gb3, hs4', gv4.1, gv4.2, List.length_cons, List.length_nil, List.cons_append, List.nil_append, List.drop_succ_cons, List.drop_zero, List.set_cons_zero, List.set_cons_succ, decide_true]
    refine ⟨_, j - 1, _, rfl, by omega, Le.refl _, k + 1, b :: fp0, by omega, fun h => ?_, ⟨v4, fp0, AHeap.get_set_same _ _ _, ?_, rfl⟩, K3.trans (Kept.set (by simp))⟩
    · have := hc (h m hmW)
      cases this
    · have := gs4.set (o := .cells [.int .i64 most, v4] true 0) hbf
      rw [show (m :: R).drop 1 = R from rfl] at this
      rw [← List.drop_drop, hd]
      exact this
  | false =>
    simp (disch := first | assumption | simp) only [↓sbD, sbU, tyB, Nat.reduceMul, Nat.reduceSub, Int.reduceEq, Int.reduceLT, Int.reduceLE, Int.reduceNe, Nat.reduceBneDiff, Nat.reduceBEq, decide_false, gt_iff_lt, Bool.or_self, Bool.false_eq_true, Nat.mul_one, Nat.one_mul, Nat.zero_mul, ↓reduceIte, Nat.reduceEqDiff, Nat.reduceLT, Nat.reduceAdd, Nat.reduceLeDiff, reduceCtorEq, goInt, pairs, isConst, TI.isAgg, splice, boxS, Edp, dpv, Nat.beq_eq, ZV.val, List.any_cons, List.any_nil, Bool.false_and, f0]
    refine specQLen hw3 ?_
    simp only [List.length_cons]
    have hvc := m.vc
    rw [hmc] at hta
    simp (disch := first | assumption | simp) only [↓sbD, sbU, tyB, Nat.reduceMul, Nat.reduceSub, Int.reduceEq, Int.reduceLT, Int.reduceLE, Int.reduceNe, Nat.reduceBneDiff, Nat.reduceBEq, decide_false, gt_iff_lt, Bool.or_self, Bool.false_eq_true, Nat.mul_one, Nat.one_mul, Nat.zero_mul, ↓reduceIte, Nat.reduceEqDiff, Nat.reduceLT, Nat.reduceAdd, Nat.reduceLeDiff, reduceCtorEq, goInt, pairs, isConst, TI.isAgg, splice, boxS, Edp, dpv, Nat.beq_eq, ZV.val, List.any_cons, List.any_nil, Bool.false_and, f0, f4, hne0, gb3, hia, gd3, hle, hta, AS_new, zeMs, nd1.1, hvc.1, hvc.2]
    intro e he
    have hea : a ≠ e := by rintro rfl; rw [ga3] at he; cases he
    have hefp : e ∉ b :: fp0 := fun h => hw3.live e h he
    try simp (disch := first | assumption | simp) only [↓sbD, sbU, tyB, Nat.reduceMul, Nat.reduceSub, Int.reduceEq, Int.reduceLT, Int.reduceLE, Int.reduceNe, Nat.reduceBneDiff, Nat.reduceBEq, decide_false, gt_iff_lt, Bool.or_self, Bool.false_eq_true, Nat.mul_one, Nat.one_mul, Nat.zero_mul, ↓reduceIte, Nat.reduceEqDiff, Nat.reduceLT, Nat.reduceAdd, Nat.reduceLeDiff, reduceCtorEq, goInt, pairs, isConst, TI.isAgg, splice, boxS, Edp, dpv, Nat.beq_eq, ZV.val, List.any_cons, List.any_nil, Bool.false_and, AHeap.get_set_same]
    generalize hσ4 : AHeap.set (AHeap.set σ3 e _) e _ = σ4
    have k4 : Kept σ3 [] σ4 [] := by rw [← hσ4]; exact ((Kept.refl σ3 []).setD he).setD he
    have ge4 : σ4.get e = .cells [.string m.t, .string m.p, .int .i64 m.q, .bool m.r, m.v, .string m.f, .int .i64 m.u, .int .i64 m.n, .string m.g] true 0 := by rw [← hσ4]; exact AHeap.get_set_same _ _ _
    have hw4 := hw3.kept k4 (fun _ _ h => by cases h)
    have ga4 := (k4.at ga3 (by simp) (by simp)).1
    clear hσ4
    try simp (disch := first | assumption | simp) only [↓sbD, sbU, tyB, Nat.reduceMul, Nat.reduceSub, Int.reduceEq, Int.reduceLT, Int.reduceLE, Int.reduceNe, Nat.reduceBneDiff, Nat.reduceBEq, decide_false, gt_iff_lt, Bool.or_self, Bool.false_eq_true, Nat.mul_one, Nat.one_mul, Nat.zero_mul, ↓reduceIte, Nat.reduceEqDiff, Nat.reduceLT, Nat.reduceAdd, Nat.reduceLeDiff, reduceCtorEq, goInt, pairs, isConst, TI.isAgg, splice, boxS, Edp, dpv, Nat.beq_eq, ZV.val, List.any_cons, List.any_nil, Bool.false_and, ge4]
    refine specCloP (ps_dl m.hv) (hl m hmW) fun v5 σ5 hv5 k5 => ?_
    have ge5 := (k5.at ge4 (by simp) (by simp)).1
    have ga5 := (k5.at ga4 (by simp) (by simp)).1
    have hvc5 := dl_vc hv5
    simp (disch := first | assumption | simp) only [↓sbD, sbU, tyB, Nat.reduceMul, Nat.reduceSub, Int.reduceEq, Int.reduceLT, Int.reduceLE, Int.reduceNe, Nat.reduceBneDiff, Nat.reduceBEq, decide_false, gt_iff_lt, Bool.or_self, Bool.false_eq_true, Nat.mul_one, Nat.one_mul, Nat.zero_mul, ↓reduceIte, Nat.reduceEqDiff, Nat.reduceLT, Nat.reduceAdd, Nat.reduceLeDiff, reduceCtorEq, goInt, pairs, isConst, TI.isAgg, splice, boxS, Edp, dpv, Nat.beq_eq, ZV.val, List.any_cons, List.any_nil, Bool.false_and, ge5, hvc5.1, hvc5.2, List.length_cons, List.length_nil, List.cons_append, List.nil_append, List.drop_succ_cons, List.drop_zero, List.set_cons_zero, List.set_cons_succ, decide_true]
    generalize hσ6 : AHeap.set σ5 e _ = σ6
    have k6 : Kept σ3 [] σ6 [] := by rw [← hσ6]; exact (k4.trans k5).setD he
    have ge6 : σ6.get e = .cells [.string m.t, .string m.p, .int .i64 m.q, .bool m.r, v5, .string m.f, .int .i64 m.u, .int .i64 m.n, .string m.g] true 0 := by rw [← hσ6]; exact AHeap.get_set_same _ _ _
    have ga6 := (k6.at ga3 (by simp) (by simp)).1
    have hw6 := hw3.kept k6 (fun _ _ h => by cases h)
    clear hσ6
    try simp (disch := first | assumption | simp) only [↓sbD, sbU, tyB, Nat.reduceMul, Nat.reduceSub, Int.reduceEq, Int.reduceLT, Int.reduceLE, Int.reduceNe, Nat.reduceBneDiff, Nat.reduceBEq, decide_false, gt_iff_lt, Bool.or_self, Bool.false_eq_true, Nat.mul_one, Nat.one_mul, Nat.zero_mul, ↓reduceIte, Nat.reduceEqDiff, Nat.reduceLT, Nat.reduceAdd, Nat.reduceLeDiff, reduceCtorEq, goInt, pairs, isConst, TI.isAgg, splice, boxS, Edp, dpv, Nat.beq_eq, ZV.val, List.any_cons, List.any_nil, Bool.false_and, f4, ge6]
    simp (disch := first | assumption | simp) only [↓sbD, sbU, tyB, Nat.reduceMul, Nat.reduceSub, Int.reduceEq, Int.reduceLT, Int.reduceLE, Int.reduceNe, Nat.reduceBneDiff, Nat.reduceBEq, decide_false, gt_iff_lt, Bool.or_self, Bool.false_eq_true, Nat.mul_one, Nat.one_mul, Nat.zero_mul, ↓reduceIte, Nat.reduceEqDiff, Nat.reduceLT, Nat.reduceAdd, Nat.reduceLeDiff, reduceCtorEq, goInt, pairs, isConst, TI.isAgg, splice, boxS, Edp, dpv, Nat.beq_eq, ZV.val, List.any_cons, List.any_nil, Bool.false_and, f4, ge6, ga6, AHeap.get_set_same, hvc5.1, hvc5.2, res_cellc, resC_some]
    refine downS_here (hsome k m R _ (b :: fp0) hd h0 (hw6.kept (show Kept σ6 [a] (σ6.set a _) [a] from Kept.set (by simp)) fun x hx h => by obtain rfl := List.mem_singleton.1 h; exact hafp2 hx) (fin (K3.trans (k6.wid (fun _ h => by cases h) (fun _ h => .inr h)))) v5 hv5)
end
end Go.Proofs.Ytkhcbbpfchgemaa.AbsN
namespace Go.Proofs.Ytkhcbbpfchgemaa.AbsN
open Go AbsYtkhcbbpfchgemaa Abs
open AbsA (Pr propC DL Kept Kept.refl Kept.trans Kept.none Kept.setD Kept.set Kept.new' Kept.wid Kept.at GS GS.nil GS.app Ms msC msC_len msC_oc Ms.vc Ms.withV IsQ disj dl_vc dead_of nd fm_len res_cellc resC_some drawS_l lastP_cc lastP_one)
open AbsS (msgC PS)
set_option maxRecDepth 100000
set_option maxHeartbeats 4000000
set_option linter.unusedSimpArgs false
set_option linter.unusedVariables false
attribute [local irreducible] afterS afterOpS opSK OpsS TrS CodeS condS condW thenS thenQ guardS guardTS outS drawS trSK consS
section
variable {σ : AHeap} {Q : Value → AHeap → Prop} {b : Nat} {most : Int} {W : List Ms} {fp : List Nat}
theorem specCloM_nil {cs : Bool} : abin E σ .eql 22 cs (.slice none 0 0) (.slice none 0 0) = some (.bool true) := by
  simp only [abin, nonNum, eqAsk, aeq, ty22]
  cases cs <;> rfl
theorem specCloM_sl {cs : Bool} {a : Addr} {n c : Nat} : abin E σ .eql 22 cs (.slice (some a) n c) (.slice none 0 0) = some (.bool false) := by
  simp only [abin, nonNum, eqAsk, aeq, ty22]
  cases cs <;> rfl
theorem specCloM_bs0 {K : Value → AHeap → Prop} (hq : ∀ b, σ.get b = .dead → K (.slice (some ⟨b, 0, some 1⟩) 0 0) (σ.set b (.cells [] true 9))) : afterOpS E B (some (bsS E σ 22 0 [])) σ K := by
  simp (disch := first | assumption | simp) only [↓sbD, sbU, tyB, Nat.reduceMul, Nat.reduceSub, Int.reduceEq, Int.reduceLT, Int.reduceLE, Int.reduceNe, Nat.reduceBneDiff, Nat.reduceBEq, decide_false, gt_iff_lt, Bool.or_self, Bool.false_eq_true, Nat.mul_one, Nat.one_mul, Nat.zero_mul, ↓reduceIte, Nat.reduceEqDiff, Nat.reduceLT, Nat.reduceAdd, Nat.reduceLeDiff, reduceCtorEq, goInt, pairs, isConst, TI.isAgg, splice, boxS, Edp, dpv, Nat.beq_eq, ZV.val, List.any_cons, List.any_nil, Bool.false_and, AS_any]
  intro b hb
  exact ⟨_, _, rfl, hq b (dead_of hb)⟩
theorem specCloM {v : Value} {l : List Ms} {fp : List Nat} (h : GS msC 9 σ v l fp) (hs : l.length ≤ 100000) (hq : ∀ v' σ' fp', GS msC 9 σ' v' l fp' → Kept σ [] σ' fp' → Q v' σ') : CallS E B 59 [v] σ Q := by
  have hsrc := h.src msC_len
  have h0 := h
  rcases h with ⟨rfl, rfl, rfl⟩ | ⟨d, ex, c, pre, cs, rfl, h2, h3, h4, h5, rfl⟩
  · refine call59 (by simp) ?_
    simp only [strip, bodyOf, Try.f59, getD_body, keepN, bareOp_mk, lessOp_mk, lapp_cons, lapp_nil, List.map_cons, List.map_nil, array_toList, ↓reduceIte, Nat.reduceEqDiff, Bool.false_eq_true]
    simp (disch := first | assumption | simp) only [↓sbD, sbU, tyB, Nat.reduceMul, Nat.reduceSub, Int.reduceEq, Int.reduceLT, Int.reduceLE, Int.reduceNe, Nat.reduceBneDiff, Nat.reduceBEq, decide_false, gt_iff_lt, Bool.or_self, Bool.false_eq_true, Nat.mul_one, Nat.one_mul, Nat.zero_mul, ↓reduceIte, Nat.reduceEqDiff, Nat.reduceLT, Nat.reduceAdd, Nat.reduceLeDiff, reduceCtorEq, goInt, pairs, isConst, TI.isAgg, splice, boxS, Edp, dpv, Nat.beq_eq, ZV.val, List.any_cons, List.any_nil, Bool.false_and, specCloM_nil]
    exact downS_here (hq _ _ _ GS.nil (Kept.refl _ _))
  refine call59 (by simp) ?_
  simp only [strip, bodyOf, Try.f59, getD_body, keepN, bareOp_mk, lessOp_mk, lapp_cons, lapp_nil, List.map_cons, List.map_nil, array_toList, ↓reduceIte, Nat.reduceEqDiff, Bool.false_eq_true]
  simp (disch := first | assumption | simp) only [↓sbD, sbU, tyB, Nat.reduceMul, Nat.reduceSub, Int.reduceEq, Int.reduceLT, Int.reduceLE, Int.reduceNe, Nat.reduceBneDiff, Nat.reduceBEq, decide_false, gt_iff_lt, Bool.or_self, Bool.false_eq_true, Nat.mul_one, Nat.one_mul, Nat.zero_mul, ↓reduceIte, Nat.reduceEqDiff, Nat.reduceLT, Nat.reduceAdd, Nat.reduceLeDiff, reduceCtorEq, goInt, pairs, isConst, TI.isAgg, splice, boxS, Edp, dpv, Nat.beq_eq, ZV.val, List.any_cons, List.any_nil, Bool.false_and, specCloM_sl]
  refine specCloM_bs0 fun b hb => ?_
  generalize hσ1 : AHeap.set σ b _ = σ1
  have k1 : Kept σ [] σ1 [b] := by rw [← hσ1]; exact Kept.new' hb
  have gb1 : σ1.get b = .cells [] true 9 := by rw [← hσ1]; exact AHeap.get_set_same _ _ _
  have h1 := h0.kept k1 (fun _ _ h => by cases h)
  have hsrc1 := h1.src msC_len
  clear hσ1
  try simp (disch := first | assumption | simp) only [↓sbD, sbU, tyB, Nat.reduceMul, Nat.reduceSub, Int.reduceEq, Int.reduceLT, Int.reduceLE, Int.reduceNe, Nat.reduceBneDiff, Nat.reduceBEq, decide_false, gt_iff_lt, Bool.or_self, Bool.false_eq_true, Nat.mul_one, Nat.one_mul, Nat.zero_mul, ↓reduceIte, Nat.reduceEqDiff, Nat.reduceLT, Nat.reduceAdd, Nat.reduceLeDiff, reduceCtorEq, goInt, pairs, isConst, TI.isAgg, splice, boxS, Edp, dpv, Nat.beq_eq, ZV.val, List.any_cons, List.any_nil, Bool.false_and]
  refine GS.app (l := []) (xs := l) (fp := [b]) (.inr ⟨b, some 1, 0, [], [], rfl, gb1, Nat.le_refl _, by simp, .inr rfl, rfl⟩) ty22 ty37 rfl (by decide) (by decide) ty22 rfl rfl msC_len msC_oc hsrc1 (by simp only [List.length_nil]; omega) (.inr ⟨_, _, _, rfl⟩) fun σ' v' fp' k g => ?_
  simp (disch := first | assumption | simp) only [↓sbD, sbU, tyB, Nat.reduceMul, Nat.reduceSub, Int.reduceEq, Int.reduceLT, Int.reduceLE, Int.reduceNe, Nat.reduceBneDiff, Nat.reduceBEq, decide_false, gt_iff_lt, Bool.or_self, Bool.false_eq_true, Nat.mul_one, Nat.one_mul, Nat.zero_mul, ↓reduceIte, Nat.reduceEqDiff, Nat.reduceLT, Nat.reduceAdd, Nat.reduceLeDiff, reduceCtorEq, goInt, pairs, isConst, TI.isAgg, splice, boxS, Edp, dpv, Nat.beq_eq, ZV.val, List.any_cons, List.any_nil, Bool.false_and]
  rw [List.nil_append] at g
  exact downS_here (hq _ _ _ g (k1.trans k))
theorem specQAll (hw : IsQ σ b most W fp) (hs : W.length ≤ 100000) (hq : ∀ v' σ' fp', GS msC 9 σ' v' W fp' → Kept σ [] σ' fp' → Q v' σ') : CallS E B 37 [.pointer (some ⟨b, 0, none⟩)] σ Q := by
  obtain ⟨v, fp0, gb, gs, rfl⟩ := hw
  refine call37 (by simp) ?_
  simp only [strip, bodyOf, Try.f37, getD_body, keepN, bareOp_mk, lessOp_mk, lapp_cons, lapp_nil, List.map_cons, List.map_nil, array_toList, ↓reduceIte, Nat.reduceEqDiff, Bool.false_eq_true]
  simp (disch := first | assumption | simp) only [↓sbD, sbU, tyB, Nat.reduceMul, Nat.reduceSub, Int.reduceEq, Int.reduceLT, Int.reduceLE, Int.reduceNe, Nat.reduceBneDiff, Nat.reduceBEq, decide_false, gt_iff_lt, Bool.or_self, Bool.false_eq_true, Nat.mul_one, Nat.one_mul, Nat.zero_mul, ↓reduceIte, Nat.reduceEqDiff, Nat.reduceLT, Nat.reduceAdd, Nat.reduceLeDiff, reduceCtorEq, goInt, pairs, isConst, TI.isAgg, splice, boxS, Edp, dpv, Nat.beq_eq, ZV.val, List.any_cons, List.any_nil, Bool.false_and, gb]
  refine specCloM gs hs fun v' σ' fp' g k => ?_
  simp (disch := first | assumption | simp) only [↓sbD, sbU, tyB, Nat.reduceMul, Nat.reduceSub, Int.reduceEq, Int.reduceLT, Int.reduceLE, Int.reduceNe, Nat.reduceBneDiff, Nat.reduceBEq, decide_false, gt_iff_lt, Bool.or_self, Bool.false_eq_true, Nat.mul_one, Nat.one_mul, Nat.zero_mul, ↓reduceIte, Nat.reduceEqDiff, Nat.reduceLT, Nat.reduceAdd, Nat.reduceLeDiff, reduceCtorEq, goInt, pairs, isConst, TI.isAgg, splice, boxS, Edp, dpv, Nat.beq_eq, ZV.val, List.any_cons, List.any_nil, Bool.false_and]
  exact downS_here (hq _ _ _ g k)
theorem specQPop {now : Int} (hw : IsQ σ b most W fp) (hl : ∀ m ∈ W, m.l.length ≤ 100000)
    (hnone : ∀ σ' fp', ((∀ m ∈ W, m.u ≤ 0) → W = []) → IsQ σ' b most [] fp' → Kept σ fp σ' fp' → Q (.tuple #[.agg ⟨MSZ⟩, .bool false]) σ')
    (hsome : ∀ k m R σ' fp', W.drop k = m :: R → ((∀ m ∈ W, m.u ≤ 0) → k = 0) → IsQ σ' b most R fp' → Kept σ fp σ' fp' → ∀ v h, Q (.tuple #[.agg ⟨msC (m.withV v m.l h)⟩, .bool true]) σ') :
    CallS E B 33 [.pointer (some ⟨b, 0, none⟩), .int .i64 now] σ Q := by
  refine call33 (by simp) ?_
  simp only [strip, bodyOf, Try.f33, getD_body, keepN, bareOp_mk, lessOp_mk, lapp_cons, lapp_nil, List.map_cons, List.map_nil, array_toList, ↓reduceIte, Nat.reduceEqDiff, Bool.false_eq_true]
  simp (disch := first | assumption | simp) only [↓sbD, sbU, tyB, Nat.reduceMul, Nat.reduceSub, Int.reduceEq, Int.reduceLT, Int.reduceLE, Int.reduceNe, Nat.reduceBneDiff, Nat.reduceBEq, decide_false, gt_iff_lt, Bool.or_self, Bool.false_eq_true, Nat.mul_one, Nat.one_mul, Nat.zero_mul, ↓reduceIte, Nat.reduceEqDiff, Nat.reduceLT, Nat.reduceAdd, Nat.reduceLeDiff, reduceCtorEq, goInt, pairs, isConst, TI.isAgg, splice, boxS, Edp, dpv, Nat.beq_eq, ZV.val, List.any_cons, List.any_nil, Bool.false_and, AS_new, zeMs]
  intro a ha
  generalize hσ1 : AHeap.set σ a _ = σ1
  have k1 : Kept σ [] σ1 [] := by rw [← hσ1]; exact (Kept.refl σ []).setD ha
  have ga1 : σ1.get a = .cells MSZ true 0 := by rw [← hσ1]; exact AHeap.get_set_same _ _ _
  have hw1 : IsQ σ1 b most W fp := hw.kept k1 (fun _ _ h => by cases h)
  have hafp : a ∉ fp := fun h => hw.live a h ha
  have K1 : Kept σ fp σ1 fp := k1.wid (fun _ h => by cases h) (fun _ h => .inr h)
  clear hσ1
  try simp (disch := first | assumption | simp) only [↓sbD, sbU, tyB, Nat.reduceMul, Nat.reduceSub, Int.reduceEq, Int.reduceLT, Int.reduceLE, Int.reduceNe, Nat.reduceBneDiff, Nat.reduceBEq, decide_false, gt_iff_lt, Bool.or_self, Bool.false_eq_true, Nat.mul_one, Nat.one_mul, Nat.zero_mul, ↓reduceIte, Nat.reduceEqDiff, Nat.reduceLT, Nat.reduceAdd, Nat.reduceLeDiff, reduceCtorEq, goInt, pairs, isConst, TI.isAgg, splice, boxS, Edp, dpv, Nat.beq_eq, ZV.val, List.any_cons, List.any_nil, Bool.false_and]
  refine specQFirst hw1 hl (fun σ2 fp2 hn hw2 K2 => ?_) fun k m R σ2 fp2 hd h0 hw2 K2 v2 hv2 => ?_
  · obtain ⟨ga2, hafp2⟩ := K2.at ga1 (by simp) hafp
    simp (disch := first | assumption | simp) only [↓sbD, sbU, tyB, Nat.reduceMul, Nat.reduceSub, Int.reduceEq, Int.reduceLT, Int.reduceLE, Int.reduceNe, Nat.reduceBneDiff, Nat.reduceBEq, decide_false, gt_iff_lt, Bool.or_self, Bool.false_eq_true, Nat.mul_one, Nat.one_mul, Nat.zero_mul, ↓reduceIte, Nat.reduceEqDiff, Nat.reduceLT, Nat.reduceAdd, Nat.reduceLeDiff, reduceCtorEq, goInt, pairs, isConst, TI.isAgg, splice, boxS, Edp, dpv, Nat.beq_eq, ZV.val, List.any_cons, List.any_nil, Bool.false_and, AS_new, zeMs, nd1.1]
    intro e he
    have hea : e ≠ a := by rintro rfl; rw [ga2] at he; cases he
    have ea : ∀ (τ : AHeap) o, (AHeap.set τ e o).get a = τ.get a := fun τ o => AHeap.get_set_ne _ _ hea
    have ae : ∀ (τ : AHeap) o, (AHeap.set τ a o).get e = τ.get e := fun τ o => AHeap.get_set_ne _ _ hea.symm
    try simp (disch := first | assumption | simp) only [↓sbD, sbU, tyB, Nat.reduceMul, Nat.reduceSub, Int.reduceEq, Int.reduceLT, Int.reduceLE, Int.reduceNe, Nat.reduceBneDiff, Nat.reduceBEq, decide_false, gt_iff_lt, Bool.or_self, Bool.false_eq_true, Nat.mul_one, Nat.one_mul, Nat.zero_mul, ↓reduceIte, Nat.reduceEqDiff, Nat.reduceLT, Nat.reduceAdd, Nat.reduceLeDiff, reduceCtorEq, goInt, pairs, isConst, TI.isAgg, splice, boxS, Edp, dpv, Nat.beq_eq, ZV.val, List.any_cons, List.any_nil, Bool.false_and, AHeap.get_set_same, ea, ae, ga2]
    simp (disch := first | assumption | simp) only [↓sbD, sbU, tyB, Nat.reduceMul, Nat.reduceSub, Int.reduceEq, Int.reduceLT, Int.reduceLE, Int.reduceNe, Nat.reduceBneDiff, Nat.reduceBEq, decide_false, gt_iff_lt, Bool.or_self, Bool.false_eq_true, Nat.mul_one, Nat.one_mul, Nat.zero_mul, ↓reduceIte, Nat.reduceEqDiff, Nat.reduceLT, Nat.reduceAdd, Nat.reduceLeDiff, reduceCtorEq, goInt, pairs, isConst, TI.isAgg, splice, boxS, Edp, dpv, Nat.beq_eq, ZV.val, List.any_cons, List.any_nil, Bool.false_and, AHeap.get_set_same, ea, ae, ga2, res_cellc, resC_some]
    refine downS_here (hnone _ fp2 hn (hw2.kept (gp := [a]) (gp' := [a]) ?_ fun x hx h => by obtain rfl := List.mem_singleton.1 h; exact hafp2 hx) (((K1.trans K2).tl (((Kept.refl σ2 []).setD he).setD he)).setD ha))
    exact (((Kept.refl σ2 [a]).setD he).setD he).trans (Kept.set (by simp))
  · obtain ⟨ga2, hafp2⟩ := K2.at ga1 (by simp) hafp
    have hvc2 := dl_vc hv2
    have hw20 := hw2
    obtain ⟨v, fp0, d, o, xs, gb, gs, rfl, hia, gd, hle, hta, hfd⟩ := isQ_head hw2
    have hmc : msC (m.withV v2 m.l hv2) = [.string m.t, .string m.p, .int .i64 m.q, .bool m.r, v2, .string m.f, .int .i64 m.u, .int .i64 m.n, .string m.g] := rfl
    have hbf : b ∉ fp0 := gs.off gb (by decide)
    rw [hmc]
    simp (disch := first | assumption | simp) only [↓sbD, sbU, tyB, Nat.reduceMul, Nat.reduceSub, Int.reduceEq, Int.reduceLT, Int.reduceLE, Int.reduceNe, Nat.reduceBneDiff, Nat.reduceBEq, decide_false, gt_iff_lt, Bool.or_self, Bool.false_eq_true, Nat.mul_one, Nat.one_mul, Nat.zero_mul, ↓reduceIte, Nat.reduceEqDiff, Nat.reduceLT, Nat.reduceAdd, Nat.reduceLeDiff, reduceCtorEq, goInt, pairs, isConst, TI.isAgg, splice, boxS, Edp, dpv, Nat.beq_eq, ZV.val, List.any_cons, List.any_nil, Bool.false_and, AS_new, zeMs, nd1.1, hvc2.1, hvc2.2]
    intro e he
    have hea : e ≠ a := by rintro rfl; rw [ga2] at he; cases he
    have heb : e ≠ b := by rintro rfl; rw [gb] at he; cases he
    generalize hσ3 : AHeap.set (AHeap.set σ2 e _) e _ = σ3
    have k3 : Kept σ2 [] σ3 [] := by rw [← hσ3]; exact ((Kept.refl σ2 []).setD he).setD he
    have ge3 : σ3.get e = .cells [.string m.t, .string m.p, .int .i64 m.q, .bool m.r, v2, .string m.f, .int .i64 m.u, .int .i64 m.n, .string m.g] true 0 := by rw [← hσ3]; exact AHeap.get_set_same _ _ _
    have gb3 := (k3.at gb (by simp) (by simp)).1
    have ga3 := (k3.at ga2 (by simp) (by simp)).1
    have gs3 := gs.kept k3 (fun _ _ h => by cases h)
    clear hσ3
    obtain ⟨v4, hs4, gs4⟩ := gs3.drop (E := E) msC_len (i := 1) (by simp only [List.length_cons]; omega) ty22 ty37
    have hs4' : aslice E σ3 22 v (some (.int .i64 1)) none none = some v4 := hs4
    have gv4 := gs4.vc
    have eb : ∀ (τ : AHeap) o, (AHeap.set τ b o).get e = τ.get e := fun τ o => AHeap.get_set_ne _ _ heb.symm
    have hab : a ≠ b := fun h => hafp2 (by simp [h])
    have ab : ∀ (τ : AHeap) o, (AHeap.set τ b o).get a = τ.get a := fun τ o => AHeap.get_set_ne _ _ hab.symm
    simp (disch := first | assumption | simp) only [↓sbD, sbU, tyB, Nat.reduceMul, Nat.reduceSub, Int.reduceEq, Int.reduceLT, Int.reduceLE, Int.reduceNe, Nat.reduceBneDiff, Nat.reduceBEq, decide_false, gt_iff_lt, Bool.or_self, Bool.false_eq_true, Nat.mul_one, Nat.one_mul, Nat.zero_mul, ↓reduceIte, Nat.reduceEqDiff, Nat.reduceLT, Nat.reduceAdd, Nat.reduceLeDiff, reduceCtorEq, goInt, pairs, isConst, TI.isAgg, splice, boxS, Edp, dpv, Nat.beq_eq, ZV.val, List.any_cons, List.any_nil, Bool.false_and, gb3, hs4', gv4.1, gv4.2, List.length_cons, List.length_nil, List.cons_append, List.nil_append, List.drop_succ_cons, List.drop_zero, List.set_cons_zero, List.set_cons_succ, decide_true]
    simp (disch := first | assumption | simp) only [↓sbD, sbU, tyB, Nat.reduceMul, Nat.reduceSub, Int.reduceEq, Int.reduceLT, Int.reduceLE, Int.reduceNe, Nat.reduceBneDiff, Nat.reduceBEq, decide_false, gt_iff_lt, Bool.or_self, Bool.false_eq_true, Nat.mul_one, Nat.one_mul, Nat.zero_mul, ↓reduceIte, Nat.reduceEqDiff, Nat.reduceLT, Nat.reduceAdd, Nat.reduceLeDiff, reduceCtorEq, goInt, pairs, isConst, TI.isAgg, splice, boxS, Edp, dpv, Nat.beq_eq, ZV.val, List.any_cons, List.any_nil, Bool.false_and, ge3, ga3, eb, ab, hvc2.1, hvc2.2, AHeap.get_set_same, res_cellc, resC_some]
    refine downS_here (hsome k m R _ (b :: fp0) hd h0 ⟨v4, fp0, ?_, ?_, rfl⟩ ?_ v2 hv2)
    · rw [AHeap.get_set_ne _ _ hab]; exact AHeap.get_set_same _ _ _
    · exact (gs4.set hbf).set (fun h => hafp2 (List.mem_cons_of_mem _ h))
    · exact (((K1.trans K2).tl k3).trans (Kept.set (by simp))).setD ha
end
end Go.Proofs.Ytkhcbbpfchgemaa.AbsN
namespace Go.Proofs.Ytkhcbbpfchgemaa.AbsA
open Go AbsYtkhcbbpfchgemaa Abs
open AbsS (msgC PS)
set_option maxRecDepth 100000
set_option maxHeartbeats 4000000
set_option linter.unusedSimpArgs false
set_option linter.unusedVariables false
attribute [local irreducible] afterS afterOpS opSK OpsS TrS CodeS condS condW thenS thenQ guardS guardTS outS drawS trSK consS
section
variable {σ : AHeap} {Q : Value → AHeap → Prop} {b : Nat} {F : List Fl} {fp : List Nat}
theorem ndA : dp 37 = false ∧ dp 88 = false ∧ dp 50 = false ∧ dp 3 = false ∧ dp 42 = false ∧ dp 73 = false ∧ dp 31 = false ∧ dp 34 = false ∧ dp 25 = false ∧ dp 27 = false ∧ dp 84 = false := ⟨rfl, rfl, rfl, rfl, rfl, rfl, rfl, rfl, rfl, rfl, rfl⟩
theorem ps_dlA {v : Value} {l : List Pr} (h : DL propC 4 v l) : PS σ v l := by
  rcases h with h | h
  · exact .inl h
  · exact .inr (.inl h)
theorem zeMsA : azero E 37 = some [.string ⟨#[]⟩, .string ⟨#[]⟩, .int .i64 0, .bool false, .slice none 0 0, .string ⟨#[]⟩, .int .i64 0, .int .i64 0, .string ⟨#[]⟩] := rfl
theorem flCe (x : Fl) : flC x = [.int .i64 x.id, .int .i64 x.st, .string x.m.t, .string x.m.p, .int .i64 x.m.q, .bool x.m.r, x.m.v, .string x.m.f, .int .i64 x.m.u, .int .i64 x.m.n, .string x.m.g] := rfl
theorem msCe (m : Ms) : msC m = [.string m.t, .string m.p, .int .i64 m.q, .bool m.r, m.v, .string m.f, .int .i64 m.u, .int .i64 m.n, .string m.g] := rfl
theorem specCloF_nil {cs : Bool} : abin E σ .eql 45 cs (.slice none 0 0) (.slice none 0 0) = some (.bool true) := by
  simp only [abin, nonNum, eqAsk, aeq, ty45]
  cases cs <;> rfl
theorem specCloF_sl {cs : Bool} {a : Addr} {n c : Nat} : abin E σ .eql 45 cs (.slice (some a) n c) (.slice none 0 0) = some (.bool false) := by
  simp only [abin, nonNum, eqAsk, aeq, ty45]
  cases cs <;> rfl
theorem specCloF_bs0 {K : Value → AHeap → Prop} (hq : ∀ b, σ.get b = .dead → K (.slice (some ⟨b, 0, some 1⟩) 0 0) (σ.set b (.cells [] true 11))) : afterOpS E B (some (bsS E σ 45 0 [])) σ K := by
  simp (disch := first | assumption | simp) only [↓sbD, sbU, tyB, Nat.reduceMul, Nat.reduceSub, Int.reduceEq, Int.reduceLT, Int.reduceLE, Int.reduceNe, Nat.reduceBneDiff, Nat.reduceBEq, decide_false, gt_iff_lt, Bool.or_self, Bool.false_eq_true, Nat.mul_one, Nat.one_mul, Nat.zero_mul, ↓reduceIte, Nat.reduceEqDiff, Nat.reduceLT, Nat.reduceAdd, Nat.reduceLeDiff, reduceCtorEq, goInt, pairs, isConst, TI.isAgg, splice, boxS, Edp, dpv, Nat.beq_eq, ZV.val, List.any_cons, List.any_nil, Bool.false_and, AS_any]
  intro b hb
  exact ⟨_, _, rfl, hq b (dead_of hb)⟩
theorem specCloF {v : Value} {l : List Fl} {fp : List Nat} (h : GS flC 11 σ v l fp) (hs : l.length ≤ 100000) (hq : ∀ v' σ' fp', GS flC 11 σ' v' l fp' → Kept σ [] σ' fp' → Q v' σ') : CallS E B 54 [v] σ Q := by
  have hsrc := h.src flC_len
  have h0 := h
  rcases h with ⟨rfl, rfl, rfl⟩ | ⟨d, ex, c, pre, cs, rfl, h2, h3, h4, h5, rfl⟩
  · refine call54 (by simp) ?_
    simp only [strip, bodyOf, Try.f54, getD_body, keepN, bareOp_mk, lessOp_mk, lapp_cons, lapp_nil, List.map_cons, List.map_nil, array_toList, ↓reduceIte, Nat.reduceEqDiff, Bool.false_eq_true]
    simp (disch := first | assumption | simp) only [↓sbD, sbU, tyB, Nat.reduceMul, Nat.reduceSub, Int.reduceEq, Int.reduceLT, Int.reduceLE, Int.reduceNe, Nat.reduceBneDiff, Nat.reduceBEq, decide_false, gt_iff_lt, Bool.or_self, Bool.false_eq_true, Nat.mul_one, Nat.one_mul, Nat.zero_mul, ↓reduceIte, Nat.reduceEqDiff, Nat.reduceLT, Nat.reduceAdd, Nat.reduceLeDiff, reduceCtorEq, goInt, pairs, isConst, TI.isAgg, splice, boxS, Edp, dpv, Nat.beq_eq, ZV.val, List.any_cons, List.any_nil, Bool.false_and, specCloF_nil]
    exact downS_here (hq _ _ _ GS.nil (Kept.refl _ _))
  refine call54 (by simp) ?_
  simp only [strip, bodyOf, Try.f54, getD_body, keepN, bareOp_mk, lessOp_mk, lapp_cons, lapp_nil, List.map_cons, List.map_nil, array_toList, ↓reduceIte, Nat.reduceEqDiff, Bool.false_eq_true]
  simp (disch := first | assumption | simp) only [↓sbD, sbU, tyB, Nat.reduceMul, Nat.reduceSub, Int.reduceEq, Int.reduceLT, Int.reduceLE, Int.reduceNe, Nat.reduceBneDiff, Nat.reduceBEq, decide_false, gt_iff_lt, Bool.or_self, Bool.false_eq_true, Nat.mul_one, Nat.one_mul, Nat.zero_mul, ↓reduceIte, Nat.reduceEqDiff, Nat.reduceLT, Nat.reduceAdd, Nat.reduceLeDiff, reduceCtorEq, goInt, pairs, isConst, TI.isAgg, splice, boxS, Edp, dpv, Nat.beq_eq, ZV.val, List.any_cons, List.any_nil, Bool.false_and, specCloF_sl]
  refine specCloF_bs0 fun b hb => ?_
  generalize hσ1 : AHeap.set σ b _ = σ1
  have k1 : Kept σ [] σ1 [b] := by rw [← hσ1]; exact Kept.new' hb
  have gb1 : σ1.get b = .cells [] true 11 := by rw [← hσ1]; exact AHeap.get_set_same _ _ _
  have h1 := h0.kept k1 (fun _ _ h => by cases h)
  have hsrc1 := h1.src flC_len
  clear hσ1
  try simp (disch := first | assumption | simp) only [↓sbD, sbU, tyB, Nat.reduceMul, Nat.reduceSub, Int.reduceEq, Int.reduceLT, Int.reduceLE, Int.reduceNe, Nat.reduceBneDiff, Nat.reduceBEq, decide_false, gt_iff_lt, Bool.or_self, Bool.false_eq_true, Nat.mul_one, Nat.one_mul, Nat.zero_mul, ↓reduceIte, Nat.reduceEqDiff, Nat.reduceLT, Nat.reduceAdd, Nat.reduceLeDiff, reduceCtorEq, goInt, pairs, isConst, TI.isAgg, splice, boxS, Edp, dpv, Nat.beq_eq, ZV.val, List.any_cons, List.any_nil, Bool.false_and]
  refine GS.app (l := []) (xs := l) (fp := [b]) (.inr ⟨b, some 1, 0, [], [], rfl, gb1, Nat.le_refl _, by simp, .inr rfl, rfl⟩) ty45 ty50 rfl (by decide) (by decide) ty45 rfl rfl flC_len flC_oc hsrc1 (by simp only [List.length_nil]; omega) (.inr ⟨_, _, _, rfl⟩) fun σ' v' fp' k g => ?_
  simp (disch := first | assumption | simp) only [↓sbD, sbU, tyB, Nat.reduceMul, Nat.reduceSub, Int.reduceEq, Int.reduceLT, Int.reduceLE, Int.reduceNe, Nat.reduceBneDiff, Nat.reduceBEq, decide_false, gt_iff_lt, Bool.or_self, Bool.false_eq_true, Nat.mul_one, Nat.one_mul, Nat.zero_mul, ↓reduceIte, Nat.reduceEqDiff, Nat.reduceLT, Nat.reduceAdd, Nat.reduceLeDiff, reduceCtorEq, goInt, pairs, isConst, TI.isAgg, splice, boxS, Edp, dpv, Nat.beq_eq, ZV.val, List.any_cons, List.any_nil, Bool.false_and]
  rw [List.nil_append] at g
  exact downS_here (hq _ _ _ g (k1.trans k))
theorem specONew (hq : ∀ b σ' fp', IsO σ' b [] fp' → Kept σ [] σ' fp' → Q (.pointer (some ⟨b, 0, none⟩)) σ') : CallS E B 22 [] σ Q := by
  refine call22 (by simp) ?_
  simp only [strip, bodyOf, Try.f22, getD_body, keepN, bareOp_mk, lessOp_mk, lapp_cons, lapp_nil, List.map_cons, List.map_nil, array_toList, ↓reduceIte, Nat.reduceEqDiff, Bool.false_eq_true]
  simp (disch := first | assumption | simp) only [↓sbD, sbU, tyB, Nat.reduceMul, Nat.reduceSub, Int.reduceEq, Int.reduceLT, Int.reduceLE, Int.reduceNe, Nat.reduceBneDiff, Nat.reduceBEq, decide_false, gt_iff_lt, Bool.or_self, Bool.false_eq_true, Nat.mul_one, Nat.one_mul, Nat.zero_mul, ↓reduceIte, Nat.reduceEqDiff, Nat.reduceLT, Nat.reduceAdd, Nat.reduceLeDiff, reduceCtorEq, goInt, pairs, isConst, TI.isAgg, splice, boxS, Edp, dpv, Nat.beq_eq, ZV.val, List.any_cons, List.any_nil, Bool.false_and]
  refine specPNew fun bp bm σ1 P k1 => ?_
  simp (disch := first | assumption | simp) only [↓sbD, sbU, tyB, Nat.reduceMul, Nat.reduceSub, Int.reduceEq, Int.reduceLT, Int.reduceLE, Int.reduceNe, Nat.reduceBneDiff, Nat.reduceBEq, decide_false, gt_iff_lt, Bool.or_self, Bool.false_eq_true, Nat.mul_one, Nat.one_mul, Nat.zero_mul, ↓reduceIte, Nat.reduceEqDiff, Nat.reduceLT, Nat.reduceAdd, Nat.reduceLeDiff, reduceCtorEq, goInt, pairs, isConst, TI.isAgg, splice, boxS, Edp, dpv, Nat.beq_eq, ZV.val, List.any_cons, List.any_nil, Bool.false_and, AS_new, ndA.2.1]
  intro b hb
  have hbp : b ≠ bp := nd hb P.gp (by simp)
  obtain ⟨es, clk, gm⟩ := P.gm
  have hbm : b ≠ bm := nd hb gm (by simp)
  try simp (disch := first | assumption | simp) only [↓sbD, sbU, tyB, Nat.reduceMul, Nat.reduceSub, Int.reduceEq, Int.reduceLT, Int.reduceLE, Int.reduceNe, Nat.reduceBneDiff, Nat.reduceBEq, decide_false, gt_iff_lt, Bool.or_self, Bool.false_eq_true, Nat.mul_one, Nat.one_mul, Nat.zero_mul, ↓reduceIte, Nat.reduceEqDiff, Nat.reduceLT, Nat.reduceAdd, Nat.reduceLeDiff, reduceCtorEq, goInt, pairs, isConst, TI.isAgg, splice, boxS, Edp, dpv, Nat.beq_eq, ZV.val, List.any_cons, List.any_nil, Bool.false_and]
  refine downS_here (hq b _ [b, bp, bm] ⟨⟨_, [], bp, bm, 0, AHeap.get_set_same _ _ _, GS.nil, P.kept (show Kept σ1 [] (σ1.set b _) [b] from Kept.new' hb) (by simp) (by simp), hbp, rfl⟩, by simp, fun x hx => by cases hx⟩ ?_)
  refine ⟨fun c hc _ => ?_, fun c hc => ?_⟩
  · have h1 := k1.get c hc (by simp)
    rw [AHeap.get_set_ne _ _ (by rintro rfl; rw [hb] at h1; exact hc h1.symm)]; exact h1
  · right
    rcases List.mem_cons.1 hc with rfl | hc
    · by_cases h : σ.get c = .dead
      · exact h
      · have := k1.get c h (by simp); rw [hb] at this; exact absurd this.symm h
    · rcases k1.new c hc with h | h
      · cases h
      · exact h
theorem specOLen (h : IsO σ b F fp) (hq : Q (.int .i64 (F.length : Int)) σ) : CallS E B 48 [.pointer (some ⟨b, 0, none⟩)] σ Q := by
  obtain ⟨v, fp0, bp, bm, last, gb, gs, P, hne, rfl⟩ := h.ex
  have hl := fun τ : AHeap => gs.len (E := E) (τ := τ) ty45
  refine call48 (by simp) ?_
  simp only [strip, bodyOf, Try.f48, getD_body, keepN, bareOp_mk, lessOp_mk, lapp_cons, lapp_nil, List.map_cons, List.map_nil, array_toList, ↓reduceIte, Nat.reduceEqDiff, Bool.false_eq_true]
  simp (disch := first | assumption | simp) only [↓sbD, sbU, tyB, Nat.reduceMul, Nat.reduceSub, Int.reduceEq, Int.reduceLT, Int.reduceLE, Int.reduceNe, Nat.reduceBneDiff, Nat.reduceBEq, decide_false, gt_iff_lt, Bool.or_self, Bool.false_eq_true, Nat.mul_one, Nat.one_mul, Nat.zero_mul, ↓reduceIte, Nat.reduceEqDiff, Nat.reduceLT, Nat.reduceAdd, Nat.reduceLeDiff, reduceCtorEq, goInt, pairs, isConst, TI.isAgg, splice, boxS, Edp, dpv, Nat.beq_eq, ZV.val, List.any_cons, List.any_nil, Bool.false_and, gb, hl]
  exact downS_here hq
theorem specOAll (h : IsO σ b F fp) (hs : F.length ≤ 100000) (hq : ∀ v' σ' fp', GS flC 11 σ' v' F fp' → Kept σ [] σ' fp' → Q v' σ') : CallS E B 35 [.pointer (some ⟨b, 0, none⟩)] σ Q := by
  obtain ⟨v, fp0, bp, bm, last, gb, gs, P, hne, rfl⟩ := h.ex
  refine call35 (by simp) ?_
  simp only [strip, bodyOf, Try.f35, getD_body, keepN, bareOp_mk, lessOp_mk, lapp_cons, lapp_nil, List.map_cons, List.map_nil, array_toList, ↓reduceIte, Nat.reduceEqDiff, Bool.false_eq_true]
  simp (disch := first | assumption | simp) only [↓sbD, sbU, tyB, Nat.reduceMul, Nat.reduceSub, Int.reduceEq, Int.reduceLT, Int.reduceLE, Int.reduceNe, Nat.reduceBneDiff, Nat.reduceBEq, decide_false, gt_iff_lt, Bool.or_self, Bool.false_eq_true, Nat.mul_one, Nat.one_mul, Nat.zero_mul, ↓reduceIte, Nat.reduceEqDiff, Nat.reduceLT, Nat.reduceAdd, Nat.reduceLeDiff, reduceCtorEq, goInt, pairs, isConst, TI.isAgg, splice, boxS, Edp, dpv, Nat.beq_eq, ZV.val, List.any_cons, List.any_nil, Bool.false_and, gb]
  refine specCloF gs hs fun v' σ' fp' g k => ?_
  simp (disch := first | assumption | simp) only [↓sbD, sbU, tyB, Nat.reduceMul, Nat.reduceSub, Int.reduceEq, Int.reduceLT, Int.reduceLE, Int.reduceNe, Nat.reduceBneDiff, Nat.reduceBEq, decide_false, gt_iff_lt, Bool.or_self, Bool.false_eq_true, Nat.mul_one, Nat.one_mul, Nat.zero_mul, ↓reduceIte, Nat.reduceEqDiff, Nat.reduceLT, Nat.reduceAdd, Nat.reduceLeDiff, reduceCtorEq, goInt, pairs, isConst, TI.isAgg, splice, boxS, Edp, dpv, Nat.beq_eq, ZV.val, List.any_cons, List.any_nil, Bool.false_and]
  exact downS_here (hq _ _ _ g k)
theorem bs_fl {x : Fl} {K : Value → AHeap → Prop} (hq : ∀ d, σ.get d = .dead → K (.slice (some ⟨d, 0, some 1⟩) 1 1) (σ.set d (.cells (flC x) true 11))) : afterOpS E B (some (bsS E σ 45 1 [(0, .agg ⟨flC x⟩)])) σ K := by
  have hvc := x.m.vc
  simp only [flCe] at hq ⊢
  simp (disch := first | assumption | simp) only [↓sbD, sbU, tyB, Nat.reduceMul, Nat.reduceSub, Int.reduceEq, Int.reduceLT, Int.reduceLE, Int.reduceNe, Nat.reduceBneDiff, Nat.reduceBEq, decide_false, gt_iff_lt, Bool.or_self, Bool.false_eq_true, Nat.mul_one, Nat.one_mul, Nat.zero_mul, ↓reduceIte, Nat.reduceEqDiff, Nat.reduceLT, Nat.reduceAdd, Nat.reduceLeDiff, reduceCtorEq, goInt, pairs, isConst, TI.isAgg, splice, boxS, Edp, dpv, Nat.beq_eq, ZV.val, List.any_cons, List.any_nil, Bool.false_and, AS_any, hvc.1, hvc.2]
  intro d hd
  exact ⟨_, _, rfl, hq d (dead_of hd)⟩
theorem src_fl {d : Nat} {x : Fl} (g : σ.get d = .cells (flC x) true 11) : srcCells σ 11 (.slice (some ⟨d, 0, some 1⟩) 1 1) = some ([x].length, [x].flatMap flC) := by
  simp only [srcCells, takeCells, g]
  rfl
theorem NextIs.pos {last c : Int} {K : List Int} (h : NextIs last K c) : 1 ≤ c ∧ c ∉ K := by
  obtain ⟨j, h1, rfl⟩ := h
  exact ⟨cand_lo, h1.2⟩
theorem specOSend {m : Ms} {qos : Int} (h : IsO σ b F fp) (hF : F.length ≤ 100) (hqo : qos = 1 ∨ qos = 2) (hl : m.l.length ≤ 100000)
    (hq : ∀ c v hv σ' fp', 1 ≤ c → IsO σ' b (F ++ [⟨c, qos, m.withV v m.l hv⟩]) fp' → Kept σ fp σ' fp' → Q (.tuple #[.int .i64 c, .bool true]) σ') :
    CallS E B 53 [.pointer (some ⟨b, 0, none⟩), .agg ⟨msC m⟩, .int .i64 qos] σ Q := by
  have h0 := h
  obtain ⟨v, fp0, bp, bm, last, gb, gs, P, hne, rfl⟩ := h.ex
  have hvc := m.vc
  have gvc := gs.vc
  have hbf : b ∉ fp0 := gs.off gb (by decide)
  have hpf : bp ∉ fp0 := gs.off P.gp (by decide)
  obtain ⟨es, clk, gm⟩ := P.gm
  have hmf : bm ∉ fp0 := gs.offm gm
  have hbm : b ≠ bm := by rintro rfl; rw [gb] at gm; cases gm
  have hpm := P.ne
  simp only [msCe]
  refine call53 (by simp) ?_
  simp only [strip, bodyOf, Try.f53, getD_body, keepN, bareOp_mk, lessOp_mk, lapp_cons, lapp_nil, List.map_cons, List.map_nil, array_toList, ↓reduceIte, Nat.reduceEqDiff, Bool.false_eq_true]
  simp (disch := first | assumption | simp) only [↓sbD, sbU, tyB, Nat.reduceMul, Nat.reduceSub, Int.reduceEq, Int.reduceLT, Int.reduceLE, Int.reduceNe, Nat.reduceBneDiff, Nat.reduceBEq, decide_false, gt_iff_lt, Bool.or_self, Bool.false_eq_true, Nat.mul_one, Nat.one_mul, Nat.zero_mul, ↓reduceIte, Nat.reduceEqDiff, Nat.reduceLT, Nat.reduceAdd, Nat.reduceLeDiff, reduceCtorEq, goInt, pairs, isConst, TI.isAgg, splice, boxS, Edp, dpv, Nat.beq_eq, ZV.val, List.any_cons, List.any_nil, Bool.false_and, AS_new, ndA.1, hvc.1, hvc.2]
  intro c hc
  generalize hσ1 : AHeap.set σ c _ = σ1
  have k1 : Kept σ [] σ1 [] := by rw [← hσ1]; exact (Kept.refl σ []).setD hc
  have h1 := h0.kept k1 (fun _ _ h => by cases h)
  have gb1 := (k1.at gb (by simp) (by simp)).1
  have gs1 := gs.kept k1 (fun _ _ h => by cases h)
  have P1 := P.kept k1 (by simp) (by simp)
  have hcfp : c ∉ b :: bp :: bm :: fp0 := fun h => h0.live c h hc
  have gc1 : σ1.get c = .cells [.string m.t, .string m.p, .int .i64 m.q, .bool m.r, m.v, .string m.f, .int .i64 m.u, .int .i64 m.n, .string m.g] true 0 := by rw [← hσ1]; exact AHeap.get_set_same _ _ _
  clear hσ1
  simp only [List.mem_cons, not_or] at hcfp
  obtain ⟨n1, n2, n3, n4⟩ := hcfp
  rcases hqo with rfl | rfl
  all_goals
    simp (disch := first | assumption | simp) only [↓sbD, sbU, tyB, Nat.reduceMul, Nat.reduceSub, Int.reduceEq, Int.reduceLT, Int.reduceLE, Int.reduceNe, Nat.reduceBneDiff, Nat.reduceBEq, decide_false, gt_iff_lt, Bool.or_self, Bool.false_eq_true, Nat.mul_one, Nat.one_mul, Nat.zero_mul, ↓reduceIte, Nat.reduceEqDiff, Nat.reduceLT, Nat.reduceAdd, Nat.reduceLeDiff, reduceCtorEq, goInt, pairs, isConst, TI.isAgg, splice, boxS, Edp, dpv, Nat.beq_eq, ZV.val, List.any_cons, List.any_nil, Bool.false_and, gb1]
    refine specPNext P1 (by rw [List.length_map]; exact hF) fun id σ2 hid P2 k2 => ?_
    have hidp := hid.pos
    have gb2 := (k2.at gb1 (by simp) (by simp [hne, hbm])).1
    have gc2 := (k2.at gc1 (by simp) (by simp [n2, n3])).1
    have gs2 := gs1.kept k2 (fun x hx hy => by
      rcases List.mem_cons.1 hy with rfl | hy
      · exact hpf hx
      · obtain rfl := List.mem_singleton.1 hy; exact hmf hx)
    simp (disch := first | assumption | simp) only [↓sbD, sbU, tyB, Nat.reduceMul, Nat.reduceSub, Int.reduceEq, Int.reduceLT, Int.reduceLE, Int.reduceNe, Nat.reduceBneDiff, Nat.reduceBEq, decide_false, gt_iff_lt, Bool.or_self, Bool.false_eq_true, Nat.mul_one, Nat.one_mul, Nat.zero_mul, ↓reduceIte, Nat.reduceEqDiff, Nat.reduceLT, Nat.reduceAdd, Nat.reduceLeDiff, reduceCtorEq, goInt, pairs, isConst, TI.isAgg, splice, boxS, Edp, dpv, Nat.beq_eq, ZV.val, List.any_cons, List.any_nil, Bool.false_and, gc2]
    refine specCloP (ps_dlA m.hv) hl fun v3 σ3 hv3 k3 => ?_
    have gb3 := (k3.at gb2 (by simp) (by simp)).1
    have gc3 := (k3.at gc2 (by simp) (by simp)).1
    have gs3 := gs2.kept k3 (fun _ _ h => by cases h)
    have P3 := P2.kept k3 (by simp) (by simp)
    have hvc3 := dl_vc hv3
    have A1 : Kept σ (b :: bp :: bm :: fp0) σ2 (b :: bp :: bm :: fp0) := (k1.wid (fun _ h => by cases h) (fun _ h => .inr h)).trans (k2.wid (fun y h => by rcases List.mem_cons.1 h with rfl | h; simp; obtain rfl := List.mem_singleton.1 h; simp) (fun _ h => .inr h))
    simp (disch := first | assumption | simp) only [↓sbD, sbU, tyB, Nat.reduceMul, Nat.reduceSub, Int.reduceEq, Int.reduceLT, Int.reduceLE, Int.reduceNe, Nat.reduceBneDiff, Nat.reduceBEq, decide_false, gt_iff_lt, Bool.or_self, Bool.false_eq_true, Nat.mul_one, Nat.one_mul, Nat.zero_mul, ↓reduceIte, Nat.reduceEqDiff, Nat.reduceLT, Nat.reduceAdd, Nat.reduceLeDiff, reduceCtorEq, goInt, pairs, isConst, TI.isAgg, splice, boxS, Edp, dpv, Nat.beq_eq, ZV.val, List.any_cons, List.any_nil, Bool.false_and, gc3, hvc3.1, hvc3.2, List.length_cons, List.length_nil, List.cons_append, List.nil_append, List.drop_succ_cons, List.drop_zero, List.set_cons_zero, List.set_cons_succ, decide_true]
    generalize hσ4 : AHeap.set σ3 c _ = σ4
    have k4 : Kept σ3 [c] σ4 [c] := by rw [← hσ4]; exact Kept.set (by simp)
    have A4 : Kept σ (b :: bp :: bm :: fp0) σ4 (b :: bp :: bm :: fp0) := by rw [← hσ4]; exact (A1.tl k3).setD hc
    have gc4 : σ4.get c = .cells [.string m.t, .string m.p, .int .i64 m.q, .bool m.r, v3, .string m.f, .int .i64 m.u, .int .i64 m.n, .string m.g] true 0 := by rw [← hσ4]; exact AHeap.get_set_same _ _ _
    have gb4 := (k4.at gb3 (by simp) (by simp [Ne.symm n1])).1
    have gs4 := gs3.kept k4 (fun x hx hy => by obtain rfl := List.mem_singleton.1 hy; exact n4 hx)
    have P4 := P3.kept k4 (by simp [Ne.symm n2]) (by simp [Ne.symm n3])
    clear hσ4
    simp (disch := first | assumption | simp) only [↓sbD, sbU, tyB, Nat.reduceMul, Nat.reduceSub, Int.reduceEq, Int.reduceLT, Int.reduceLE, Int.reduceNe, Nat.reduceBneDiff, Nat.reduceBEq, decide_false, gt_iff_lt, Bool.or_self, Bool.false_eq_true, Nat.mul_one, Nat.one_mul, Nat.zero_mul, ↓reduceIte, Nat.reduceEqDiff, Nat.reduceLT, Nat.reduceAdd, Nat.reduceLeDiff, reduceCtorEq, goInt, pairs, isConst, TI.isAgg, splice, boxS, Edp, dpv, Nat.beq_eq, ZV.val, List.any_cons, List.any_nil, Bool.false_and, gb4, gc4]
    refine bs_fl (x := ⟨id, _, m.withV v3 m.l hv3⟩) fun d hd => ?_
    generalize hx : (⟨id, _, m.withV v3 m.l hv3⟩ : Fl) = x
    have hxi : x.id = id := by rw [← hx]
    generalize hσ5 : AHeap.set σ4 d _ = σ5
    have k5 : Kept σ4 [] σ5 [] := by rw [← hσ5]; exact (Kept.refl _ []).setD hd
    have gd5 : σ5.get d = .cells (flC x) true 11 := by rw [← hσ5]; exact AHeap.get_set_same _ _ _
    have gs5 := gs4.kept k5 (fun _ _ h => by cases h)
    have gb5 := (k5.at gb4 (by simp) (by simp)).1
    have P5 := P4.kept k5 (by simp) (by simp)
    clear hσ5
    try simp (disch := first | assumption | simp) only [↓sbD, sbU, tyB, Nat.reduceMul, Nat.reduceSub, Int.reduceEq, Int.reduceLT, Int.reduceLE, Int.reduceNe, Nat.reduceBneDiff, Nat.reduceBEq, decide_false, gt_iff_lt, Bool.or_self, Bool.false_eq_true, Nat.mul_one, Nat.one_mul, Nat.zero_mul, ↓reduceIte, Nat.reduceEqDiff, Nat.reduceLT, Nat.reduceAdd, Nat.reduceLeDiff, reduceCtorEq, goInt, pairs, isConst, TI.isAgg, splice, boxS, Edp, dpv, Nat.beq_eq, ZV.val, List.any_cons, List.any_nil, Bool.false_and]
    refine gs5.app (xs := [x]) ty45 ty50 rfl (by decide) (by decide) ty45 rfl rfl flC_len flC_oc (src_fl gd5) (by simp only [List.length_cons, List.length_nil]; omega) (.inl rfl) fun σ6 v6 fp6 k6 gs6 => ?_
    have gb6 := (k6.at gb5 (by simp) hbf).1
    have gv6 := gs6.vc
    have P6 := P5.kept k6 hpf hmf
    have hbf6 : b ∉ fp6 := gs6.off gb6 (by decide)
    simp (disch := first | assumption | simp) only [↓sbD, sbU, tyB, Nat.reduceMul, Nat.reduceSub, Int.reduceEq, Int.reduceLT, Int.reduceLE, Int.reduceNe, Nat.reduceBneDiff, Nat.reduceBEq, decide_false, gt_iff_lt, Bool.or_self, Bool.false_eq_true, Nat.mul_one, Nat.one_mul, Nat.zero_mul, ↓reduceIte, Nat.reduceEqDiff, Nat.reduceLT, Nat.reduceAdd, Nat.reduceLeDiff, reduceCtorEq, goInt, pairs, isConst, TI.isAgg, splice, boxS, Edp, dpv, Nat.beq_eq, ZV.val, List.any_cons, List.any_nil, Bool.false_and, gb6, gv6.1, gv6.2, List.length_cons, List.length_nil, List.cons_append, List.nil_append, List.drop_succ_cons, List.drop_zero, List.set_cons_zero, List.set_cons_succ, decide_true]
    generalize hσ7 : AHeap.set σ6 b _ = σ7
    have gb7 : σ7.get b = .cells [.pointer (some ⟨bp, 0, none⟩), v6] true 0 := by rw [← hσ7]; exact AHeap.get_set_same _ _ _
    have k7 : Kept σ6 [b] σ7 [b] := by rw [← hσ7]; exact Kept.set (by simp)
    clear hσ7
    try simp (disch := first | assumption | simp) only [↓sbD, sbU, tyB, Nat.reduceMul, Nat.reduceSub, Int.reduceEq, Int.reduceLT, Int.reduceLE, Int.reduceNe, Nat.reduceBneDiff, Nat.reduceBEq, decide_false, gt_iff_lt, Bool.or_self, Bool.false_eq_true, Nat.mul_one, Nat.one_mul, Nat.zero_mul, ↓reduceIte, Nat.reduceEqDiff, Nat.reduceLT, Nat.reduceAdd, Nat.reduceLeDiff, reduceCtorEq, goInt, pairs, isConst, TI.isAgg, splice, boxS, Edp, dpv, Nat.beq_eq, ZV.val, List.any_cons, List.any_nil, Bool.false_and]
    have e1 : (F ++ [x]).map Fl.id = F.map Fl.id ++ [id] := by rw [List.map_append, List.map_cons, List.map_nil, hxi]
    have P7 := P6.kept k7 (by simp [Ne.symm hne]) (by simp [Ne.symm hbm])
    have gs7 := gs6.kept k7 (fun y hy h => by obtain rfl := List.mem_singleton.1 h; exact hbf6 hy)
    rw [← hx] at gs7 e1
    refine downS_here (hq id v3 hv3 σ7 (b :: bp :: bm :: fp6) hidp.1 ⟨⟨v6, fp6, bp, bm, id, gb7, gs7, by rw [e1]; exact P7, hne, rfl⟩, ?_, ?_⟩ ?_)
    · rw [e1, List.nodup_append]
      refine ⟨h0.nd, by simp, fun a ha b' hb' => ?_⟩
      obtain rfl := List.mem_singleton.1 hb'
      rintro rfl
      exact hidp.2 ha
    · intro y hy
      rcases List.mem_append.1 hy with hy | hy
      · exact h0.pos y hy
      · obtain rfl := List.mem_singleton.1 hy; exact hidp.1
    · refine ((A4.tl k5).trans (k6.wid (gp := b :: bp :: bm :: fp0) (gp' := b :: bp :: bm :: fp6) (fun y h => by simp [h]) (fun y h => ?_))).trans (k7.wid (gp := b :: bp :: bm :: fp6) (gp' := b :: bp :: bm :: fp6) (fun y h => by obtain rfl := List.mem_singleton.1 h; simp) (fun y h => .inr h))
      simp only [List.mem_cons] at h ⊢
      rcases h with h | h | h | h
      · exact .inr (.inl h)
      · exact .inr (.inr (.inl h))
      · exact .inr (.inr (.inr (.inl h)))
      · exact .inl h
end
end Go.Proofs.Ytkhcbbpfchgemaa.AbsA
namespace Go.Proofs.Ytkhcbbpfchgemaa.AbsA
open Go AbsYtkhcbbpfchgemaa Abs
open AbsS (msgC PS)
set_option maxRecDepth 100000
set_option maxHeartbeats 4000000
set_option linter.unusedSimpArgs false
set_option linter.unusedVariables false
attribute [local irreducible] afterS afterOpS opSK OpsS TrS CodeS condS condW thenS thenQ guardS guardTS outS drawS trSK consS
section
variable {σ : AHeap} {Q : Value → AHeap → Prop} {b : Nat} {F : List Fl} {fp : List Nat}
theorem zePk : azero E 42 = some [.int .i64 0, .int .i64 0, .int .i64 0, .slice none 0 0, .bool false, .int .i64 0, .string ⟨#[]⟩, .bool false, .string ⟨#[]⟩, .string ⟨#[]⟩, .int .i64 0, .bool false, .slice none 0 0, .bool false, .string ⟨#[]⟩, .bool false, .string ⟨#[]⟩, .bool false, .string ⟨#[]⟩, .string ⟨#[]⟩, .int .i64 0, .bool false, .bool false, .slice none 0 0, .slice none 0 0, .slice none 0 0] := rfl
abbrev unit : Value := .tuple #[]
theorem specFind1 {c : Nat} {x : Fl} {id : Int} (hc : σ.get c = .cells [.int .i64 id] true 0) (hq : ∀ σ', Kept σ [] σ' [] → Q (.bool (decide (x.id = id))) σ') : CallS E B 67 [.agg ⟨flC x⟩, .pointer (some ⟨c, 0, none⟩)] σ Q := by
  have hvc := x.m.vc
  simp only [flCe]
  refine call67 (by simp) ?_
  simp only [strip, bodyOf, Try.f67, getD_body, keepN, bareOp_mk, lessOp_mk, lapp_cons, lapp_nil, List.map_cons, List.map_nil, array_toList, ↓reduceIte, Nat.reduceEqDiff, Bool.false_eq_true]
  simp (disch := first | assumption | simp) only [↓sbD, sbU, tyB, Nat.reduceMul, Nat.reduceSub, Int.reduceEq, Int.reduceLT, Int.reduceLE, Int.reduceNe, Nat.reduceBneDiff, Nat.reduceBEq, decide_false, gt_iff_lt, Bool.or_self, Bool.false_eq_true, Nat.mul_one, Nat.one_mul, Nat.zero_mul, ↓reduceIte, Nat.reduceEqDiff, Nat.reduceLT, Nat.reduceAdd, Nat.reduceLeDiff, reduceCtorEq, goInt, pairs, isConst, TI.isAgg, splice, boxS, Edp, dpv, Nat.beq_eq, ZV.val, List.any_cons, List.any_nil, Bool.false_and, AS_new, ndA.2.2.1, hvc.1, hvc.2]
  intro d hd
  have hdc : d ≠ c := by rintro rfl; rw [hc] at hd; cases hd
  have dc : ∀ (τ : AHeap) o, (AHeap.set τ d o).get c = τ.get c := fun τ o => AHeap.get_set_ne _ _ hdc
  try simp (disch := first | assumption | simp) only [↓sbD, sbU, tyB, Nat.reduceMul, Nat.reduceSub, Int.reduceEq, Int.reduceLT, Int.reduceLE, Int.reduceNe, Nat.reduceBneDiff, Nat.reduceBEq, decide_false, gt_iff_lt, Bool.or_self, Bool.false_eq_true, Nat.mul_one, Nat.one_mul, Nat.zero_mul, ↓reduceIte, Nat.reduceEqDiff, Nat.reduceLT, Nat.reduceAdd, Nat.reduceLeDiff, reduceCtorEq, goInt, pairs, isConst, TI.isAgg, splice, boxS, Edp, dpv, Nat.beq_eq, ZV.val, List.any_cons, List.any_nil, Bool.false_and, AHeap.get_set_same, dc, hc]
  exact downS_here (hq _ ((Kept.refl σ []).setD hd))
theorem specIdxF {c : Nat} {id : Int} {v : Value} (g : GS flC 11 σ v F fp) (hc : σ.get c = .cells [.int .i64 id] true 0) (hs : F.length ≤ 100000)
    (hin : ∀ i (hi : i < F.length) σ', F[i].id = id → (∀ j (hj : j < F.length), j < i → F[j].id ≠ id) → Kept σ [] σ' [] → Q (.int .i64 (i : Int)) σ') (hout : ∀ σ', (∀ x ∈ F, x.id ≠ id) → Kept σ [] σ' [] → Q (.int .i64 (-1)) σ') :
    CallS E B 66 [v, .func (.func 67) ⟨[]⟩ ⟨[.pointer (some ⟨c, 0, none⟩)]⟩] σ Q := by
  have hlen := fun τ : AHeap => g.len (E := E) (τ := τ) ty45
  refine call66 (by simp) ?_
  simp only [strip, bodyOf, Try.f66, getD_body, keepN, bareOp_mk, lessOp_mk, lapp_cons, lapp_nil, List.map_cons, List.map_nil, array_toList, ↓reduceIte, Nat.reduceEqDiff, Bool.false_eq_true]
  simp (disch := first | assumption | simp) only [↓sbD, sbU, tyB, Nat.reduceMul, Nat.reduceSub, Int.reduceEq, Int.reduceLT, Int.reduceLE, Int.reduceNe, Nat.reduceBneDiff, Nat.reduceBEq, decide_false, gt_iff_lt, Bool.or_self, Bool.false_eq_true, Nat.mul_one, Nat.one_mul, Nat.zero_mul, ↓reduceIte, Nat.reduceEqDiff, Nat.reduceLT, Nat.reduceAdd, Nat.reduceLeDiff, reduceCtorEq, goInt, pairs, isConst, TI.isAgg, splice, boxS, Edp, dpv, Nat.beq_eq, ZV.val, List.any_cons, List.any_nil, Bool.false_and, hlen]
  refine S_loop (fun m f σ' => ∃ i : Nat, m + i = F.length ∧ f 8 = .int .i64 i ∧ (∀ j (hj : j < F.length), j < i → F[j].id ≠ id) ∧ Kept σ [] σ' []) F.length (Le.refl _) ⟨0, rfl, by simp (disch := first | assumption | simp) only [↓sbD, sbU, tyB, Nat.reduceMul, Nat.reduceSub, Int.reduceEq, Int.reduceLT, Int.reduceLE, Int.reduceNe, Nat.reduceBneDiff, Nat.reduceBEq, decide_false, gt_iff_lt, Bool.or_self, Bool.false_eq_true, Nat.mul_one, Nat.one_mul, Nat.zero_mul, ↓reduceIte, Nat.reduceEqDiff, Nat.reduceLT, Nat.reduceAdd, Nat.reduceLeDiff, reduceCtorEq, goInt, pairs, isConst, TI.isAgg, splice, boxS, Edp, dpv, Nat.beq_eq, ZV.val, List.any_cons, List.any_nil, Bool.false_and]; rfl, fun j _ hj => by omega, Kept.refl _ _⟩ ?_
  rintro m f σ1 ⟨i, hm, f8, hno, k1⟩ hf
  have f0 := hf 0 (by decide) (notMem_wr (by kernel_rfl))
  have f1 := hf 1 (by decide) (notMem_wr (by kernel_rfl))
  have f7 := hf 7 (by decide) (notMem_wr (by kernel_rfl))
  simp (disch := first | assumption | simp) only [↓sbD, sbU, tyB, Nat.reduceMul, Nat.reduceSub, Int.reduceEq, Int.reduceLT, Int.reduceLE, Int.reduceNe, Nat.reduceBneDiff, Nat.reduceBEq, decide_false, gt_iff_lt, Bool.or_self, Bool.false_eq_true, Nat.mul_one, Nat.one_mul, Nat.zero_mul, ↓reduceIte, Nat.reduceEqDiff, Nat.reduceLT, Nat.reduceAdd, Nat.reduceLeDiff, reduceCtorEq, goInt, pairs, isConst, TI.isAgg, splice, boxS, Edp, dpv, Nat.beq_eq, ZV.val, List.any_cons, List.any_nil, Bool.false_and] at f0 f1 f7
  clear hf
  by_cases hi : (i : Int) < (F.length : Int)
  · have hi' : i < F.length := by omega
    have g1 := g.kept k1 (fun _ _ h => by cases h)
    have hc1 := (k1.at hc (by simp) (by simp)).1
    obtain ⟨d, o, xs, hia, gd, hle, hta, hfd, _⟩ := g1.at (E := E) flC_len hi' ty45 ty50
    have hw := wrap_suc (n := i) (by omega)
    have hin' := hin i hi'
    generalize hy : F[i] = y at hta hin'
    simp (disch := first | assumption | simp) only [↓sbD, sbU, tyB, Nat.reduceMul, Nat.reduceSub, Int.reduceEq, Int.reduceLT, Int.reduceLE, Int.reduceNe, Nat.reduceBneDiff, Nat.reduceBEq, decide_false, gt_iff_lt, Bool.or_self, Bool.false_eq_true, Nat.mul_one, Nat.one_mul, Nat.zero_mul, ↓reduceIte, Nat.reduceEqDiff, Nat.reduceLT, Nat.reduceAdd, Nat.reduceLeDiff, reduceCtorEq, goInt, pairs, isConst, TI.isAgg, splice, boxS, Edp, dpv, Nat.beq_eq, ZV.val, List.any_cons, List.any_nil, Bool.false_and, f0, f1, f7, f8, hi, hia, gd, hle, hta]
    refine specFind1 (x := y) hc1 fun σ2 k2 => ?_
    by_cases he : y.id = id
    · simp (disch := first | assumption | simp) only [↓sbD, sbU, tyB, Nat.reduceMul, Nat.reduceSub, Int.reduceEq, Int.reduceLT, Int.reduceLE, Int.reduceNe, Nat.reduceBneDiff, Nat.reduceBEq, decide_false, gt_iff_lt, Bool.or_self, Bool.false_eq_true, Nat.mul_one, Nat.one_mul, Nat.zero_mul, ↓reduceIte, Nat.reduceEqDiff, Nat.reduceLT, Nat.reduceAdd, Nat.reduceLeDiff, reduceCtorEq, goInt, pairs, isConst, TI.isAgg, splice, boxS, Edp, dpv, Nat.beq_eq, ZV.val, List.any_cons, List.any_nil, Bool.false_and, he]
      exact downS_here (hin' _ he hno (k1.trans k2))
    · simp (disch := first | assumption | simp) only [↓sbD, sbU, tyB, Nat.reduceMul, Nat.reduceSub, Int.reduceEq, Int.reduceLT, Int.reduceLE, Int.reduceNe, Nat.reduceBneDiff, Nat.reduceBEq, decide_false, gt_iff_lt, Bool.or_self, Bool.false_eq_true, Nat.mul_one, Nat.one_mul, Nat.zero_mul, ↓reduceIte, Nat.reduceEqDiff, Nat.reduceLT, Nat.reduceAdd, Nat.reduceLeDiff, reduceCtorEq, goInt, pairs, isConst, TI.isAgg, splice, boxS, Edp, dpv, Nat.beq_eq, ZV.val, List.any_cons, List.any_nil, Bool.false_and, he, f8, hw]
      refine ⟨_, m - 1, _, rfl, by omega, Le.refl _, i + 1, by omega, by simp (disch := first | assumption | simp) only [↓sbD, sbU, tyB, Nat.reduceMul, Nat.reduceSub, Int.reduceEq, Int.reduceLT, Int.reduceLE, Int.reduceNe, Nat.reduceBneDiff, Nat.reduceBEq, decide_false, gt_iff_lt, Bool.or_self, Bool.false_eq_true, Nat.mul_one, Nat.one_mul, Nat.zero_mul, ↓reduceIte, Nat.reduceEqDiff, Nat.reduceLT, Nat.reduceAdd, Nat.reduceLeDiff, reduceCtorEq, goInt, pairs, isConst, TI.isAgg, splice, boxS, Edp, dpv, Nat.beq_eq, ZV.val, List.any_cons, List.any_nil, Bool.false_and], fun j hj hji => ?_, k1.trans k2⟩
      rcases (by omega : j < i ∨ j = i) with h3 | rfl
      · exact hno j hj h3
      · rw [hy]; exact he
  · simp (disch := first | assumption | simp) only [↓sbD, sbU, tyB, Nat.reduceMul, Nat.reduceSub, Int.reduceEq, Int.reduceLT, Int.reduceLE, Int.reduceNe, Nat.reduceBneDiff, Nat.reduceBEq, decide_false, gt_iff_lt, Bool.or_self, Bool.false_eq_true, Nat.mul_one, Nat.one_mul, Nat.zero_mul, ↓reduceIte, Nat.reduceEqDiff, Nat.reduceLT, Nat.reduceAdd, Nat.reduceLeDiff, reduceCtorEq, goInt, pairs, isConst, TI.isAgg, splice, boxS, Edp, dpv, Nat.beq_eq, ZV.val, List.any_cons, List.any_nil, Bool.false_and, f0, f1, f7, f8, hi]
    refine downS_here (hout _ (fun p hp => ?_) k1)
    obtain ⟨j, hj, rfl⟩ := List.getElem_of_mem hp
    exact hno j hj (by omega)
theorem specOFind {id : Int} (h : IsO σ b F fp) (hs : F.length ≤ 100000)
    (hin : ∀ i (hi : i < F.length) σ', F[i].id = id → (∀ j (hj : j < F.length), j < i → F[j].id ≠ id) → Kept σ [] σ' [] → Q (.int .i64 (i : Int)) σ') (hout : ∀ σ', (∀ x ∈ F, x.id ≠ id) → Kept σ [] σ' [] → Q (.int .i64 (-1)) σ') :
    CallS E B 55 [.pointer (some ⟨b, 0, none⟩), .int .i64 id] σ Q := by
  obtain ⟨v, fp0, bp, bm, last, gb, gs, P, hne, rfl⟩ := h.ex
  refine call55 (by simp) ?_
  simp only [strip, bodyOf, Try.f55, getD_body, keepN, bareOp_mk, lessOp_mk, lapp_cons, lapp_nil, List.map_cons, List.map_nil, array_toList, ↓reduceIte, Nat.reduceEqDiff, Bool.false_eq_true]
  simp (disch := first | assumption | simp) only [↓sbD, sbU, tyB, Nat.reduceMul, Nat.reduceSub, Int.reduceEq, Int.reduceLT, Int.reduceLE, Int.reduceNe, Nat.reduceBneDiff, Nat.reduceBEq, decide_false, gt_iff_lt, Bool.or_self, Bool.false_eq_true, Nat.mul_one, Nat.one_mul, Nat.zero_mul, ↓reduceIte, Nat.reduceEqDiff, Nat.reduceLT, Nat.reduceAdd, Nat.reduceLeDiff, reduceCtorEq, goInt, pairs, isConst, TI.isAgg, splice, boxS, Edp, dpv, Nat.beq_eq, ZV.val, List.any_cons, List.any_nil, Bool.false_and, AS_new, ndA.2.2.2.1]
  intro c hc
  have hcb : c ≠ b := nd hc gb (by simp)
  have cb : ∀ (τ : AHeap) o, (AHeap.set τ c o).get b = τ.get b := fun τ o => AHeap.get_set_ne _ _ hcb
  generalize hσ1 : AHeap.set σ c _ = σ1
  have k1 : Kept σ [] σ1 [] := by rw [← hσ1]; exact (Kept.refl σ []).setD hc
  have gc1 : σ1.get c = .cells [.int .i64 id] true 0 := by rw [← hσ1]; exact AHeap.get_set_same _ _ _
  have gb1 := (k1.at gb (by simp) (by simp)).1
  have gs1 := gs.kept k1 (fun _ _ h => by cases h)
  clear hσ1
  simp (disch := first | assumption | simp) only [↓sbD, sbU, tyB, Nat.reduceMul, Nat.reduceSub, Int.reduceEq, Int.reduceLT, Int.reduceLE, Int.reduceNe, Nat.reduceBneDiff, Nat.reduceBEq, decide_false, gt_iff_lt, Bool.or_self, Bool.false_eq_true, Nat.mul_one, Nat.one_mul, Nat.zero_mul, ↓reduceIte, Nat.reduceEqDiff, Nat.reduceLT, Nat.reduceAdd, Nat.reduceLeDiff, reduceCtorEq, goInt, pairs, isConst, TI.isAgg, splice, boxS, Edp, dpv, Nat.beq_eq, ZV.val, List.any_cons, List.any_nil, Bool.false_and, gb1, AbsS.arr_map]
  refine specIdxF gs1 gc1 hs (fun i hi σ2 h1 h2 k2 => ?_) fun σ2 h1 k2 => ?_
  · simp (disch := first | assumption | simp) only [↓sbD, sbU, tyB, Nat.reduceMul, Nat.reduceSub, Int.reduceEq, Int.reduceLT, Int.reduceLE, Int.reduceNe, Nat.reduceBneDiff, Nat.reduceBEq, decide_false, gt_iff_lt, Bool.or_self, Bool.false_eq_true, Nat.mul_one, Nat.one_mul, Nat.zero_mul, ↓reduceIte, Nat.reduceEqDiff, Nat.reduceLT, Nat.reduceAdd, Nat.reduceLeDiff, reduceCtorEq, goInt, pairs, isConst, TI.isAgg, splice, boxS, Edp, dpv, Nat.beq_eq, ZV.val, List.any_cons, List.any_nil, Bool.false_and]
    exact downS_here (hin i hi _ h1 h2 (k1.trans k2))
  · simp (disch := first | assumption | simp) only [↓sbD, sbU, tyB, Nat.reduceMul, Nat.reduceSub, Int.reduceEq, Int.reduceLT, Int.reduceLE, Int.reduceNe, Nat.reduceBneDiff, Nat.reduceBEq, decide_false, gt_iff_lt, Bool.or_self, Bool.false_eq_true, Nat.mul_one, Nat.one_mul, Nat.zero_mul, ↓reduceIte, Nat.reduceEqDiff, Nat.reduceLT, Nat.reduceAdd, Nat.reduceLeDiff, reduceCtorEq, goInt, pairs, isConst, TI.isAgg, splice, boxS, Edp, dpv, Nat.beq_eq, ZV.val, List.any_cons, List.any_nil, Bool.false_and]
    exact downS_here (hout _ h1 (k1.trans k2))
def awaits (k : Int) : Int := if k = 4 then 1 else if k = 5 then 2 else if k = 7 then 3 else 0
theorem specAwaits {k : Int} (h : Q (.int .i64 (awaits k)) σ) : CallS E B 56 [.int .i64 k] σ Q := by
  unfold awaits at h
  by_cases h4 : k = 4
  · rw [if_pos h4] at h
    refine call56 (by simp) ?_
    simp only [strip, bodyOf, Try.f56, getD_body, keepN, bareOp_mk, lessOp_mk, lapp_cons, lapp_nil, List.map_cons, List.map_nil, array_toList, ↓reduceIte, Nat.reduceEqDiff, Bool.false_eq_true]
    simp (disch := first | assumption | simp) only [↓sbD, sbU, tyB, Nat.reduceMul, Nat.reduceSub, Int.reduceEq, Int.reduceLT, Int.reduceLE, Int.reduceNe, Nat.reduceBneDiff, Nat.reduceBEq, decide_false, gt_iff_lt, Bool.or_self, Bool.false_eq_true, Nat.mul_one, Nat.one_mul, Nat.zero_mul, ↓reduceIte, Nat.reduceEqDiff, Nat.reduceLT, Nat.reduceAdd, Nat.reduceLeDiff, reduceCtorEq, goInt, pairs, isConst, TI.isAgg, splice, boxS, Edp, dpv, Nat.beq_eq, ZV.val, List.any_cons, List.any_nil, Bool.false_and, h4]
    exact downS_here h
  rw [if_neg h4] at h
  by_cases h5 : k = 5
  · rw [if_pos h5] at h
    refine call56 (by simp) ?_
    simp only [strip, bodyOf, Try.f56, getD_body, keepN, bareOp_mk, lessOp_mk, lapp_cons, lapp_nil, List.map_cons, List.map_nil, array_toList, ↓reduceIte, Nat.reduceEqDiff, Bool.false_eq_true]
    simp (disch := first | assumption | simp) only [↓sbD, sbU, tyB, Nat.reduceMul, Nat.reduceSub, Int.reduceEq, Int.reduceLT, Int.reduceLE, Int.reduceNe, Nat.reduceBneDiff, Nat.reduceBEq, decide_false, gt_iff_lt, Bool.or_self, Bool.false_eq_true, Nat.mul_one, Nat.one_mul, Nat.zero_mul, ↓reduceIte, Nat.reduceEqDiff, Nat.reduceLT, Nat.reduceAdd, Nat.reduceLeDiff, reduceCtorEq, goInt, pairs, isConst, TI.isAgg, splice, boxS, Edp, dpv, Nat.beq_eq, ZV.val, List.any_cons, List.any_nil, Bool.false_and, h4, h5]
    exact downS_here h
  rw [if_neg h5] at h
  by_cases h7 : k = 7
  · rw [if_pos h7] at h
    refine call56 (by simp) ?_
    simp only [strip, bodyOf, Try.f56, getD_body, keepN, bareOp_mk, lessOp_mk, lapp_cons, lapp_nil, List.map_cons, List.map_nil, array_toList, ↓reduceIte, Nat.reduceEqDiff, Bool.false_eq_true]
    simp (disch := first | assumption | simp) only [↓sbD, sbU, tyB, Nat.reduceMul, Nat.reduceSub, Int.reduceEq, Int.reduceLT, Int.reduceLE, Int.reduceNe, Nat.reduceBneDiff, Nat.reduceBEq, decide_false, gt_iff_lt, Bool.or_self, Bool.false_eq_true, Nat.mul_one, Nat.one_mul, Nat.zero_mul, ↓reduceIte, Nat.reduceEqDiff, Nat.reduceLT, Nat.reduceAdd, Nat.reduceLeDiff, reduceCtorEq, goInt, pairs, isConst, TI.isAgg, splice, boxS, Edp, dpv, Nat.beq_eq, ZV.val, List.any_cons, List.any_nil, Bool.false_and, h4, h5, h7]
    exact downS_here h
  · rw [if_neg h7] at h
    refine call56 (by simp) ?_
    simp only [strip, bodyOf, Try.f56, getD_body, keepN, bareOp_mk, lessOp_mk, lapp_cons, lapp_nil, List.map_cons, List.map_nil, array_toList, ↓reduceIte, Nat.reduceEqDiff, Bool.false_eq_true]
    simp (disch := first | assumption | simp) only [↓sbD, sbU, tyB, Nat.reduceMul, Nat.reduceSub, Int.reduceEq, Int.reduceLT, Int.reduceLE, Int.reduceNe, Nat.reduceBneDiff, Nat.reduceBEq, decide_false, gt_iff_lt, Bool.or_self, Bool.false_eq_true, Nat.mul_one, Nat.one_mul, Nat.zero_mul, ↓reduceIte, Nat.reduceEqDiff, Nat.reduceLT, Nat.reduceAdd, Nat.reduceLeDiff, reduceCtorEq, goInt, pairs, isConst, TI.isAgg, splice, boxS, Edp, dpv, Nat.beq_eq, ZV.val, List.any_cons, List.any_nil, Bool.false_and, h4, h5, h7]
    exact downS_here h
def badR (r : Int) : Bool := decide (128 ≤ r ∧ r ≤ 255)
theorem specBad {r : Int} (h : Q (.bool (badR r)) σ) : CallS E B 57 [.int .i64 r] σ Q := by
  unfold badR at h
  refine call57 (by simp) ?_
  simp only [strip, bodyOf, Try.f57, getD_body, keepN, bareOp_mk, lessOp_mk, lapp_cons, lapp_nil, List.map_cons, List.map_nil, array_toList, ↓reduceIte, Nat.reduceEqDiff, Bool.false_eq_true]
  by_cases h1 : 128 ≤ r
  · by_cases h2 : r ≤ 255
    · simp (disch := first | assumption | simp) only [↓sbD, sbU, tyB, Nat.reduceMul, Nat.reduceSub, Int.reduceEq, Int.reduceLT, Int.reduceLE, Int.reduceNe, Nat.reduceBneDiff, Nat.reduceBEq, decide_false, gt_iff_lt, Bool.or_self, Bool.false_eq_true, Nat.mul_one, Nat.one_mul, Nat.zero_mul, ↓reduceIte, Nat.reduceEqDiff, Nat.reduceLT, Nat.reduceAdd, Nat.reduceLeDiff, reduceCtorEq, goInt, pairs, isConst, TI.isAgg, splice, boxS, Edp, dpv, Nat.beq_eq, ZV.val, List.any_cons, List.any_nil, Bool.false_and, h1, h2]
      rw [decide_eq_true ⟨h1, h2⟩] at h
      exact downS_here h
    · simp (disch := first | assumption | simp) only [↓sbD, sbU, tyB, Nat.reduceMul, Nat.reduceSub, Int.reduceEq, Int.reduceLT, Int.reduceLE, Int.reduceNe, Nat.reduceBneDiff, Nat.reduceBEq, decide_false, gt_iff_lt, Bool.or_self, Bool.false_eq_true, Nat.mul_one, Nat.one_mul, Nat.zero_mul, ↓reduceIte, Nat.reduceEqDiff, Nat.reduceLT, Nat.reduceAdd, Nat.reduceLeDiff, reduceCtorEq, goInt, pairs, isConst, TI.isAgg, splice, boxS, Edp, dpv, Nat.beq_eq, ZV.val, List.any_cons, List.any_nil, Bool.false_and, h1, h2]
      rw [decide_eq_false (fun h => h2 h.2)] at h
      exact downS_here h
  · simp (disch := first | assumption | simp) only [↓sbD, sbU, tyB, Nat.reduceMul, Nat.reduceSub, Int.reduceEq, Int.reduceLT, Int.reduceLE, Int.reduceNe, Nat.reduceBneDiff, Nat.reduceBEq, decide_false, gt_iff_lt, Bool.or_self, Bool.false_eq_true, Nat.mul_one, Nat.one_mul, Nat.zero_mul, ↓reduceIte, Nat.reduceEqDiff, Nat.reduceLT, Nat.reduceAdd, Nat.reduceLeDiff, reduceCtorEq, goInt, pairs, isConst, TI.isAgg, splice, boxS, Edp, dpv, Nat.beq_eq, ZV.val, List.any_cons, List.any_nil, Bool.false_and, h1]
    rw [decide_eq_false (fun h => h1 h.1)] at h
    exact downS_here h
theorem eraseIdx_map {α β : Type} (f : α → β) : ∀ (l : List α) (i : Nat), (l.eraseIdx i).map f = (l.map f).eraseIdx i
  | [], i => rfl
  | a :: l, 0 => rfl
  | a :: l, i + 1 => by simp [eraseIdx_map f l i]
/-- slices.Delete of one -/
theorem specDelF {v : Value} {i : Nat} (g : GS flC 11 σ v F fp) (hi : i < F.length) (hs : F.length ≤ 100000) (hq : ∀ v' σ', GS flC 11 σ' v' (F.eraseIdx i) fp → Kept σ fp σ' fp → Q v' σ') :
    CallS E B 69 [v, .int .i64 (i : Int), .int .i64 ((i + 1 : Nat) : Int)] σ Q := by
  have hlen := fun τ : AHeap => g.len (E := E) (τ := τ) ty45
  obtain ⟨va, vb, vd, v1, vc, σ1, o2, d, h1, h2, h3, h4, h5, h6, h7, h8, rfl, h9, h10⟩ := g.del (E := E) flC_len flC_oc hi ty45 ty50 rfl rfl (by decide) (by decide) ty45 rfl
  have hne : ¬ (i : Int) = ((i + 1 : Nat) : Int) := by omega
  refine call69 (by simp) ?_
  simp only [strip, bodyOf, Try.f69, getD_body, keepN, bareOp_mk, lessOp_mk, lapp_cons, lapp_nil, List.map_cons, List.map_nil, array_toList, ↓reduceIte, Nat.reduceEqDiff, Bool.false_eq_true]
  simp (disch := first | assumption | simp) only [↓sbD, sbU, tyB, Nat.reduceMul, Nat.reduceSub, Int.reduceEq, Int.reduceLT, Int.reduceLE, Int.reduceNe, Nat.reduceBneDiff, Nat.reduceBEq, decide_false, gt_iff_lt, Bool.or_self, Bool.false_eq_true, Nat.mul_one, Nat.one_mul, Nat.zero_mul, ↓reduceIte, Nat.reduceEqDiff, Nat.reduceLT, Nat.reduceAdd, Nat.reduceLeDiff, reduceCtorEq, goInt, pairs, isConst, TI.isAgg, splice, boxS, Edp, dpv, Nat.beq_eq, ZV.val, List.any_cons, List.any_nil, Bool.false_and, hlen, h1, hne, h2, h3]
  refine (fun {K : Value → AHeap → Prop} (hk : K v1 σ1) => (show afterOpS E B (some (.any fun b => aappend E (σ.resize b) [45, 45] [va, vb])) σ K from by
    simp (disch := first | assumption | simp) only [↓sbD, sbU, tyB, Nat.reduceMul, Nat.reduceSub, Int.reduceEq, Int.reduceLT, Int.reduceLE, Int.reduceNe, Nat.reduceBneDiff, Nat.reduceBEq, decide_false, gt_iff_lt, Bool.or_self, Bool.false_eq_true, Nat.mul_one, Nat.one_mul, Nat.zero_mul, ↓reduceIte, Nat.reduceEqDiff, Nat.reduceLT, Nat.reduceAdd, Nat.reduceLeDiff, reduceCtorEq, goInt, pairs, isConst, TI.isAgg, splice, boxS, Edp, dpv, Nat.beq_eq, ZV.val, List.any_cons, List.any_nil, Bool.false_and, AS_any]
    intro b hb
    exact ⟨v1, σ1.resize b, h4 b, by rw [h5 b]; exact hk⟩)) ?_
  simp (disch := first | assumption | simp) only [↓sbD, sbU, tyB, Nat.reduceMul, Nat.reduceSub, Int.reduceEq, Int.reduceLT, Int.reduceLE, Int.reduceNe, Nat.reduceBneDiff, Nat.reduceBEq, decide_false, gt_iff_lt, Bool.or_self, Bool.false_eq_true, Nat.mul_one, Nat.one_mul, Nat.zero_mul, ↓reduceIte, Nat.reduceEqDiff, Nat.reduceLT, Nat.reduceAdd, Nat.reduceLeDiff, reduceCtorEq, goInt, pairs, isConst, TI.isAgg, splice, boxS, Edp, dpv, Nat.beq_eq, ZV.val, List.any_cons, List.any_nil, Bool.false_and, h6, h7, h8]
  exact downS_here (hq _ _ h10 ⟨fun c hc hn => by
    have hcd : c ≠ d := fun e => hn (by simp [e])
    rw [AHeap.get_set_ne _ _ hcd.symm, h9 c hcd], fun c hc => .inl hc⟩)
theorem specOEnd {i : Nat} (h : IsO σ b F fp) (hi : i < F.length) (hs : F.length ≤ 100000) (hq : ∀ σ' fp', IsO σ' b (F.eraseIdx i) fp' → Kept σ fp σ' fp' → Q unit σ') :
    CallS E B 58 [.pointer (some ⟨b, 0, none⟩), .int .i64 (i : Int)] σ Q := by
  obtain ⟨v, fp0, bp, bm, last, gb, gs, P, hne, rfl⟩ := h.ex
  have hbf : b ∉ fp0 := gs.off gb (by decide)
  have hpf : bp ∉ fp0 := gs.off P.gp (by decide)
  obtain ⟨es, clk, gm⟩ := P.gm
  have hmf : bm ∉ fp0 := gs.offm gm
  have hbm : b ≠ bm := by rintro rfl; rw [gb] at gm; cases gm
  have hpm := P.ne
  obtain ⟨d, o, xs, hia, gd, hle, hta, hfd, _⟩ := gs.at (E := E) flC_len hi ty45 ty50
  rw [flCe] at hta
  have hvc := F[i].m.vc
  have hx0 : xs[o]? = some (.int .i64 F[i].id) := by
    have := congrArg (fun l => l[0]?) hta
    simp only [List.getElem?_take, List.getElem?_drop] at this
    simpa using this
  have hwi := wrap_suc (n := i) (by omega)
  refine call58 (by simp) ?_
  simp only [strip, bodyOf, Try.f58, getD_body, keepN, bareOp_mk, lessOp_mk, lapp_cons, lapp_nil, List.map_cons, List.map_nil, array_toList, ↓reduceIte, Nat.reduceEqDiff, Bool.false_eq_true]
  simp (disch := first | assumption | simp) only [↓sbD, sbU, tyB, Nat.reduceMul, Nat.reduceSub, Int.reduceEq, Int.reduceLT, Int.reduceLE, Int.reduceNe, Nat.reduceBneDiff, Nat.reduceBEq, decide_false, gt_iff_lt, Bool.or_self, Bool.false_eq_true, Nat.mul_one, Nat.one_mul, Nat.zero_mul, ↓reduceIte, Nat.reduceEqDiff, Nat.reduceLT, Nat.reduceAdd, Nat.reduceLeDiff, reduceCtorEq, goInt, pairs, isConst, TI.isAgg, splice, boxS, Edp, dpv, Nat.beq_eq, ZV.val, List.any_cons, List.any_nil, Bool.false_and, gb, hia, gd, hx0]
  refine specPFree P fun σ1 P1 k1 => ?_
  have gb1 := (k1.at gb (by simp) (by simp [hbm])).1
  have gs1 := gs.kept k1 (fun x hx hy => by obtain rfl := List.mem_singleton.1 hy; exact hmf hx)
  simp (disch := first | assumption | simp) only [↓sbD, sbU, tyB, Nat.reduceMul, Nat.reduceSub, Int.reduceEq, Int.reduceLT, Int.reduceLE, Int.reduceNe, Nat.reduceBneDiff, Nat.reduceBEq, decide_false, gt_iff_lt, Bool.or_self, Bool.false_eq_true, Nat.mul_one, Nat.one_mul, Nat.zero_mul, ↓reduceIte, Nat.reduceEqDiff, Nat.reduceLT, Nat.reduceAdd, Nat.reduceLeDiff, reduceCtorEq, goInt, pairs, isConst, TI.isAgg, splice, boxS, Edp, dpv, Nat.beq_eq, ZV.val, List.any_cons, List.any_nil, Bool.false_and, gb1]
  refine specCloF gs1 hs fun v2 σ2 fp2 g2 k2 => ?_
  have gb2 := (k2.at gb1 (by simp) (by simp)).1
  have hb2 := (k2.at gb1 (by simp) (by simp)).2
  have P2 := P1.kept k2 (by simp) (by simp)
  have hp2 : bp ∉ fp2 := (k2.at P1.gp (by simp) (by simp)).2
  obtain ⟨es1, clk1, gm1⟩ := P1.gm
  have hm2 : bm ∉ fp2 := (k2.at gm1 (by simp) (by simp)).2
  simp (disch := first | assumption | simp) only [↓sbD, sbU, tyB, Nat.reduceMul, Nat.reduceSub, Int.reduceEq, Int.reduceLT, Int.reduceLE, Int.reduceNe, Nat.reduceBneDiff, Nat.reduceBEq, decide_false, gt_iff_lt, Bool.or_self, Bool.false_eq_true, Nat.mul_one, Nat.one_mul, Nat.zero_mul, ↓reduceIte, Nat.reduceEqDiff, Nat.reduceLT, Nat.reduceAdd, Nat.reduceLeDiff, reduceCtorEq, goInt, pairs, isConst, TI.isAgg, splice, boxS, Edp, dpv, Nat.beq_eq, ZV.val, List.any_cons, List.any_nil, Bool.false_and, hwi]
  refine specDelF g2 hi hs fun v3 σ3 g3 k3 => ?_
  have gb3 := (k3.at gb2 (by simp) hb2).1
  have P3 := P2.kept k3 hp2 hm2
  have gv3 := g3.vc
  simp (disch := first | assumption | simp) only [↓sbD, sbU, tyB, Nat.reduceMul, Nat.reduceSub, Int.reduceEq, Int.reduceLT, Int.reduceLE, Int.reduceNe, Nat.reduceBneDiff, Nat.reduceBEq, decide_false, gt_iff_lt, Bool.or_self, Bool.false_eq_true, Nat.mul_one, Nat.one_mul, Nat.zero_mul, ↓reduceIte, Nat.reduceEqDiff, Nat.reduceLT, Nat.reduceAdd, Nat.reduceLeDiff, reduceCtorEq, goInt, pairs, isConst, TI.isAgg, splice, boxS, Edp, dpv, Nat.beq_eq, ZV.val, List.any_cons, List.any_nil, Bool.false_and, gb3, gv3.1, gv3.2, List.length_cons, List.length_nil, List.cons_append, List.nil_append, List.drop_succ_cons, List.drop_zero, List.set_cons_zero, List.set_cons_succ, decide_true]
  have hk4 : ∀ o, Kept σ3 [b] (σ3.set b o) [b] := fun o => Kept.set (by simp)
  have e1 : (F.eraseIdx i).map Fl.id = (F.map Fl.id).erase F[i].id := by
    rw [eraseIdx_map, ← erase_at (by rw [List.length_map]; exact hi) h.nd, List.getElem_map]
  refine downS_here (hq _ (b :: bp :: bm :: fp2) ⟨⟨v3, fp2, bp, bm, last, AHeap.get_set_same _ _ _, g3.set hb2, ?_, hne, rfl⟩, ?_, fun x hx => h.pos x (List.mem_of_mem_eraseIdx hx)⟩ ?_)
  · rw [e1]; exact P3.kept (hk4 _) (by simp [Ne.symm hne]) (by simp [Ne.symm hbm])
  · rw [e1]; exact h.nd.erase _
  · have A1 : Kept σ (b :: bp :: bm :: fp0) σ1 (b :: bp :: bm :: fp0) := k1.wid (fun y h => by obtain rfl := List.mem_singleton.1 h; simp) (fun _ h => .inr h)
    have A2 : Kept σ1 (b :: bp :: bm :: fp0) σ2 (b :: bp :: bm :: fp2) := k2.wid (fun _ h => by cases h) (fun y h => by
      simp only [List.mem_cons] at h ⊢
      rcases h with h | h | h | h
      · exact .inr (.inl h)
      · exact .inr (.inr (.inl h))
      · exact .inr (.inr (.inr (.inl h)))
      · exact .inl h)
    have A3 : Kept σ2 (b :: bp :: bm :: fp2) σ3 (b :: bp :: bm :: fp2) := k3.wid (fun y h => by simp [h]) (fun _ h => .inr h)
    exact ((A1.trans A2).trans A3).trans ((hk4 _).wid (fun y h => by obtain rfl := List.mem_singleton.1 h; simp) (fun _ h => .inr h))
theorem specPacket {m : Ms} {t p f g : ByteArray} {q u n id qo : Int} {r dup : Bool} {v : Value} {l : List Pr} (hv : PS σ v l) (hs : l.length ≤ 100000)
    (hq : ∀ σ' w, DL propC 4 w l → Kept σ [] σ' [] → Q (.agg ⟨[.int .i64 3, .int .i64 id, .int .i64 0, w, .bool false, .int .i64 0, .string ⟨#[]⟩, .bool false, .string ⟨#[]⟩, .string ⟨#[]⟩, .int .i64 0, .bool false, .slice none 0 0, .bool false, .string ⟨#[]⟩, .bool false, .string ⟨#[]⟩, .bool false, .string t, .string p, .int .i64 qo, .bool r, .bool dup, .slice none 0 0, .slice none 0 0, .slice none 0 0]⟩) σ') :
    CallS E B 43 [.agg ⟨msgC t p q r v f u n g⟩, .int .i64 qo, .int .i64 id, .bool dup] σ Q := by
  have hvc := hv.vc
  simp only [msgC]
  refine call43 (by simp) ?_
  simp only [strip, bodyOf, Try.f43, getD_body, keepN, bareOp_mk, lessOp_mk, lapp_cons, lapp_nil, List.map_cons, List.map_nil, array_toList, ↓reduceIte, Nat.reduceEqDiff, Bool.false_eq_true]
  simp (disch := first | assumption | simp) only [↓sbD, sbU, tyB, Nat.reduceMul, Nat.reduceSub, Int.reduceEq, Int.reduceLT, Int.reduceLE, Int.reduceNe, Nat.reduceBneDiff, Nat.reduceBEq, decide_false, gt_iff_lt, Bool.or_self, Bool.false_eq_true, Nat.mul_one, Nat.one_mul, Nat.zero_mul, ↓reduceIte, Nat.reduceEqDiff, Nat.reduceLT, Nat.reduceAdd, Nat.reduceLeDiff, reduceCtorEq, goInt, pairs, isConst, TI.isAgg, splice, boxS, Edp, dpv, Nat.beq_eq, ZV.val, List.any_cons, List.any_nil, Bool.false_and, AS_new, zePk, ndA.1, hvc.1, hvc.2]
  intro a ha c hc
  have hca : c ≠ a := by rintro rfl; rw [AHeap.get_set_same] at hc; cases hc
  have hcd : σ.get c = .dead := by rw [AHeap.get_set_ne _ _ hca.symm] at hc; exact hc
  generalize hσ1 : AHeap.set (AHeap.set σ a _) c _ = σ1
  have k1 : Kept σ [] σ1 [] := by rw [← hσ1]; exact ((Kept.refl σ []).setD ha).setD hcd
  have ga1 : σ1.get a = .cells [.string t, .string p, .int .i64 q, .bool r, v, .string f, .int .i64 u, .int .i64 n, .string g] true 0 := by rw [← hσ1, AHeap.get_set_ne _ _ hca]; exact AHeap.get_set_same _ _ _
  have gc1 : σ1.get c = .cells [.int .i64 0, .int .i64 0, .int .i64 0, .slice none 0 0, .bool false, .int .i64 0, .string ⟨#[]⟩, .bool false, .string ⟨#[]⟩, .string ⟨#[]⟩, .int .i64 0, .bool false, .slice none 0 0, .bool false, .string ⟨#[]⟩, .bool false, .string ⟨#[]⟩, .bool false, .string ⟨#[]⟩, .string ⟨#[]⟩, .int .i64 0, .bool false, .bool false, .slice none 0 0, .slice none 0 0, .slice none 0 0] true 0 := by rw [← hσ1]; exact AHeap.get_set_same _ _ _
  have hv1 : PS σ1 v l := hv.kept fun b hb => k1.get b hb (by simp)
  clear hσ1
  try simp (disch := first | assumption | simp) only [↓sbD, sbU, tyB, Nat.reduceMul, Nat.reduceSub, Int.reduceEq, Int.reduceLT, Int.reduceLE, Int.reduceNe, Nat.reduceBneDiff, Nat.reduceBEq, decide_false, gt_iff_lt, Bool.or_self, Bool.false_eq_true, Nat.mul_one, Nat.one_mul, Nat.zero_mul, ↓reduceIte, Nat.reduceEqDiff, Nat.reduceLT, Nat.reduceAdd, Nat.reduceLeDiff, reduceCtorEq, goInt, pairs, isConst, TI.isAgg, splice, boxS, Edp, dpv, Nat.beq_eq, ZV.val, List.any_cons, List.any_nil, Bool.false_and, ga1]
  refine specCloP hv1 hs fun w σ2 hw k2 => ?_
  have ga2 := (k2.at ga1 (by simp) (by simp)).1
  have gc2 := (k2.at gc1 (by simp) (by simp)).1
  have hwc := dl_vc hw
  simp (disch := first | assumption | simp) only [↓sbD, sbU, tyB, Nat.reduceMul, Nat.reduceSub, Int.reduceEq, Int.reduceLT, Int.reduceLE, Int.reduceNe, Nat.reduceBneDiff, Nat.reduceBEq, decide_false, gt_iff_lt, Bool.or_self, Bool.false_eq_true, Nat.mul_one, Nat.one_mul, Nat.zero_mul, ↓reduceIte, Nat.reduceEqDiff, Nat.reduceLT, Nat.reduceAdd, Nat.reduceLeDiff, reduceCtorEq, goInt, pairs, isConst, TI.isAgg, splice, boxS, Edp, dpv, Nat.beq_eq, ZV.val, List.any_cons, List.any_nil, Bool.false_and, ga1, ga2, gc2, hwc.1, hwc.2, List.length_cons, List.length_nil, List.cons_append, List.nil_append, List.drop_succ_cons, List.drop_zero, List.set_cons_zero, List.set_cons_succ, decide_true, AHeap.get_set_same]
  refine drawS_l (fl := [(4, 11), (6, 11), (8, 11)]) (by kernel_rfl) ?_ ?_
  rotate_left; simp only [lastP_cc, lastP_one]; rotate_left
  · simp only [List.all_cons, List.all_nil, floatS, List.getElem?_cons_succ, List.getElem?_cons_zero, List.getElem?_toArray, Region.wanted, Bool.not_true, Bool.not_false, Bool.false_or, Bool.true_or, Bool.or_true, Bool.true_and, reads, looksWeak, aev_tmp, aev_const, upd_at, ↓reduceIte, Nat.reduceEqDiff, Nat.reduceLT, Nat.reduceAdd, ofL_zero, ofL_succ, blkOf, oeq_refl, oeq_of, dead_cells, dead_map, Bool.and_true, Bool.and_self, Bool.false_eq_true, Bool.not_false, ga1, ga2, gc2]
    try rfl
  simp (disch := first | assumption | simp) only [↓sbD, sbU, tyB, Nat.reduceMul, Nat.reduceSub, Int.reduceEq, Int.reduceLT, Int.reduceLE, Int.reduceNe, Nat.reduceBneDiff, Nat.reduceBEq, decide_false, gt_iff_lt, Bool.or_self, Bool.false_eq_true, Nat.mul_one, Nat.one_mul, Nat.zero_mul, ↓reduceIte, Nat.reduceEqDiff, Nat.reduceLT, Nat.reduceAdd, Nat.reduceLeDiff, reduceCtorEq, goInt, pairs, isConst, TI.isAgg, splice, boxS, Edp, dpv, Nat.beq_eq, ZV.val, List.any_cons, List.any_nil, Bool.false_and, gc2, hwc.1, hwc.2, AHeap.get_set_same, res_cellc, resC_some]
  exact downS_here (hq _ w hw ((k1.trans k2).setD hcd))
end
end Go.Proofs.Ytkhcbbpfchgemaa.AbsA
namespace Go.Proofs.Ytkhcbbpfchgemaa.AbsA
open Go AbsYtkhcbbpfchgemaa Abs
open AbsS (msgC PS)
set_option maxRecDepth 100000
set_option maxHeartbeats 4000000
set_option linter.unusedSimpArgs false
set_option linter.unusedVariables false
attribute [local irreducible] afterS afterOpS opSK OpsS TrS CodeS condS condW thenS thenQ guardS guardTS outS drawS trSK consS
section
variable {σ : AHeap} {Q : Value → AHeap → Prop} {b : Nat} {F : List Fl} {fp : List Nat}
def mz0 : Ms := ⟨⟨#[]⟩, ⟨#[]⟩, 0, false, .slice none 0 0, ⟨#[]⟩, 0, 0, ⟨#[]⟩, [], .inl ⟨rfl, rfl⟩⟩
def Fl.rel (x : Fl) : Fl := { x with st := 3 }
/-- what an acknowledgement makes of the messages under way -/
inductive AckR (k id r : Int) (F : List Fl) : List Fl → Prop
  | none : (∀ x ∈ F, x.id ≠ id) → AckR k id r F F
  | zero : awaits k = 0 → AckR k id r F F
  | wrong (i : Nat) (hi : i < F.length) : F[i].id = id → F[i].st ≠ awaits k → AckR k id r F F
  | rel (i : Nat) (hi : i < F.length) : F[i].id = id → F[i].st = 2 → awaits k = 2 → badR r = false → AckR k id r F (F.set i F[i].rel)
  | fin (i : Nat) (hi : i < F.length) : F[i].id = id → F[i].st = awaits k → ¬ (awaits k = 2 ∧ badR r = false) → AckR k id r F (F.eraseIdx i)
theorem set_one {xs A B : List Value} {o : Nat} {a x y : Value} {R : List Value} (hA : A.length = o) (hx : xs = A ++ (a :: x :: R ++ B)) : xs.take (o + 1) ++ [y] ++ xs.drop (o + 1 + 1) = A ++ (a :: y :: R) ++ B := by
  subst hA hx
  rw [List.take_length_add_append, Nat.add_assoc, ← List.drop_drop, List.drop_left' rfl]
  simp
theorem map_set_id {F : List Fl} {i : Nat} (hi : i < F.length) {y : Fl} (hy : y.id = F[i].id) : (F.set i y).map Fl.id = F.map Fl.id := by
  rw [List.map_set, hy, ← List.getElem_map Fl.id (h := by rw [List.length_map]; exact hi), List.set_getElem_self]
theorem awaits_cases (k : Int) : awaits k = 0 ∨ awaits k = 1 ∨ awaits k = 2 ∨ awaits k = 3 := by
  unfold awaits
  split
  · exact .inr (.inl rfl)
  · split
    · exact .inr (.inr (.inl rfl))
    · split
      · exact .inr (.inr (.inr rfl))
      · exact .inl rfl
theorem specOAck {p : Pk} {vp vw vs vf vc : Value} (hO : IsO σ b F fp) (hs : F.length ≤ 100000) (h1 : vcells vp = [vp] ∧ oneCell vp = true) (h2 : vcells vw = [vw] ∧ oneCell vw = true) (h3 : vcells vs = [vs] ∧ oneCell vs = true) (h4 : vcells vf = [vf] ∧ oneCell vf = true) (h5 : vcells vc = [vc] ∧ oneCell vc = true)
    (hq : ∀ F' σ' fp' n mm, AckR p.kind p.id p.rea F F' → IsO σ' b F' fp' → Kept σ fp σ' fp' → Q (.tuple #[.int .i64 n, .agg ⟨msC mm⟩]) σ') : CallS E B 36 [.pointer (some ⟨b, 0, none⟩), .agg ⟨pkC p vp vw vs vf vc⟩] σ Q := by
  have hmz : msC mz0 = [.string ⟨#[]⟩, .string ⟨#[]⟩, .int .i64 0, .bool false, .slice none 0 0, .string ⟨#[]⟩, .int .i64 0, .int .i64 0, .string ⟨#[]⟩] := rfl
  simp only [pkC]
  refine call36 (by simp) ?_
  simp only [strip, bodyOf, Try.f36, getD_body, keepN, bareOp_mk, lessOp_mk, lapp_cons, lapp_nil, List.map_cons, List.map_nil, array_toList, ↓reduceIte, Nat.reduceEqDiff, Bool.false_eq_true]
  simp (disch := first | assumption | simp) only [↓sbD, sbU, tyB, Nat.reduceMul, Nat.reduceSub, Int.reduceEq, Int.reduceLT, Int.reduceLE, Int.reduceNe, Nat.reduceBneDiff, Nat.reduceBEq, decide_false, gt_iff_lt, Bool.or_self, Bool.false_eq_true, Nat.mul_one, Nat.one_mul, Nat.zero_mul, ↓reduceIte, Nat.reduceEqDiff, Nat.reduceLT, Nat.reduceAdd, Nat.reduceLeDiff, reduceCtorEq, goInt, pairs, isConst, TI.isAgg, splice, boxS, Edp, dpv, Nat.beq_eq, ZV.val, List.any_cons, List.any_nil, Bool.false_and, AS_new, zeMsA, ndA.1, ndA.2.2.2.2.1, h1.1, h1.2, h2.1, h2.2, h3.1, h3.2, h4.1, h4.2, h5.1, h5.2]
  intro a ha e he
  have hae : a ≠ e := by rintro rfl; rw [AHeap.get_set_same] at he; cases he
  have hed : σ.get e = .dead := by rw [AHeap.get_set_ne _ _ hae] at he; exact he
  have hafp : a ∉ fp := fun h => hO.live a h ha
  have hefp : e ∉ fp := fun h => hO.live e h hed
  generalize hσ1 : AHeap.set (AHeap.set σ a _) e _ = σ1
  have k1 : Kept σ [] σ1 [] := by rw [← hσ1]; exact ((Kept.refl σ []).setD ha).setD hed
  obtain ⟨xs, ga1⟩ : ∃ xs, σ1.get a = .cells (.int .i64 p.kind :: .int .i64 p.id :: .int .i64 p.rea :: xs) true 0 := ⟨_, by rw [← hσ1, AHeap.get_set_ne _ _ hae.symm]; exact AHeap.get_set_same _ _ _⟩
  have ge1 : σ1.get e = .cells [.string ⟨#[]⟩, .string ⟨#[]⟩, .int .i64 0, .bool false, .slice none 0 0, .string ⟨#[]⟩, .int .i64 0, .int .i64 0, .string ⟨#[]⟩] true 0 := by rw [← hσ1]; exact AHeap.get_set_same _ _ _
  have hO1 := hO.kept k1 (fun _ _ h => by cases h)
  have K1 : Kept σ fp σ1 fp := k1.wid (fun _ h => by cases h) (fun _ h => .inr h)
  clear hσ1
  -- the end without a message
  have FIN0 : ∀ {n : Int} {τ : AHeap}, Kept σ1 [] τ [] → AckR p.kind p.id p.rea F F → ∀ o, Q (.tuple #[.int .i64 n, .agg ⟨[.string ⟨#[]⟩, .string ⟨#[]⟩, .int .i64 0, .bool false, .slice none 0 0, .string ⟨#[]⟩, .int .i64 0, .int .i64 0, .string ⟨#[]⟩]⟩]) (τ.set e o) := fun {n τ} kt hr o => by
    rw [← hmz]
    exact hq F _ fp n mz0 hr ((hO1.kept kt (fun _ _ h => by cases h)).kept (show Kept τ [e] (τ.set e o) [e] from Kept.set (by simp)) fun x hx h => by obtain rfl := List.mem_singleton.1 h; exact hefp hx) ((K1.tl kt).setD hed)
  have ew := awaits_cases p.kind
  simp (disch := first | assumption | simp) only [↓sbD, sbU, tyB, Nat.reduceMul, Nat.reduceSub, Int.reduceEq, Int.reduceLT, Int.reduceLE, Int.reduceNe, Nat.reduceBneDiff, Nat.reduceBEq, decide_false, gt_iff_lt, Bool.or_self, Bool.false_eq_true, Nat.mul_one, Nat.one_mul, Nat.zero_mul, ↓reduceIte, Nat.reduceEqDiff, Nat.reduceLT, Nat.reduceAdd, Nat.reduceLeDiff, reduceCtorEq, goInt, pairs, isConst, TI.isAgg, splice, boxS, Edp, dpv, Nat.beq_eq, ZV.val, List.any_cons, List.any_nil, Bool.false_and, ga1]
  refine specOFind hO1 hs (fun i hi σ2 hid hfst k2 => ?_) fun σ2 hno k2 => ?_
  rotate_left
  · obtain ⟨ga2, -⟩ := k2.at ga1 (by simp) (by simp)
    obtain ⟨ge2, -⟩ := k2.at ge1 (by simp) (by simp)
    simp (disch := first | assumption | simp) only [↓sbD, sbU, tyB, Nat.reduceMul, Nat.reduceSub, Int.reduceEq, Int.reduceLT, Int.reduceLE, Int.reduceNe, Nat.reduceBneDiff, Nat.reduceBEq, decide_false, gt_iff_lt, Bool.or_self, Bool.false_eq_true, Nat.mul_one, Nat.one_mul, Nat.zero_mul, ↓reduceIte, Nat.reduceEqDiff, Nat.reduceLT, Nat.reduceAdd, Nat.reduceLeDiff, reduceCtorEq, goInt, pairs, isConst, TI.isAgg, splice, boxS, Edp, dpv, Nat.beq_eq, ZV.val, List.any_cons, List.any_nil, Bool.false_and, ga2]
    refine specAwaits ?_
    simp (disch := first | assumption | simp) only [↓sbD, sbU, tyB, Nat.reduceMul, Nat.reduceSub, Int.reduceEq, Int.reduceLT, Int.reduceLE, Int.reduceNe, Nat.reduceBneDiff, Nat.reduceBEq, decide_false, gt_iff_lt, Bool.or_self, Bool.false_eq_true, Nat.mul_one, Nat.one_mul, Nat.zero_mul, ↓reduceIte, Nat.reduceEqDiff, Nat.reduceLT, Nat.reduceAdd, Nat.reduceLeDiff, reduceCtorEq, goInt, pairs, isConst, TI.isAgg, splice, boxS, Edp, dpv, Nat.beq_eq, ZV.val, List.any_cons, List.any_nil, Bool.false_and]
    refine drawS_l (fl := [(5, 3)]) (by kernel_rfl) ?_ ?_
    rotate_left; simp only [lastP_cc, lastP_one]; rotate_left
    · simp only [List.all_cons, List.all_nil, floatS, List.getElem?_cons_succ, List.getElem?_cons_zero, List.getElem?_toArray, Region.wanted, Bool.not_true, Bool.not_false, Bool.false_or, Bool.true_or, Bool.or_true, Bool.true_and, reads, looksWeak, aev_tmp, aev_const, upd_at, ↓reduceIte, Nat.reduceEqDiff, Nat.reduceLT, Nat.reduceAdd, ofL_zero, ofL_succ, blkOf, oeq_refl, oeq_of, dead_cells, dead_map, Bool.and_true, Bool.and_self, Bool.false_eq_true, Bool.not_false, ga1, ga2]
      try rfl
    generalize awaits p.kind = w at ew
    rcases ew with rfl | rfl | rfl | rfl
    all_goals
      simp (disch := first | assumption | simp) only [↓sbD, sbU, tyB, Nat.reduceMul, Nat.reduceSub, Int.reduceEq, Int.reduceLT, Int.reduceLE, Int.reduceNe, Nat.reduceBneDiff, Nat.reduceBEq, decide_false, gt_iff_lt, Bool.or_self, Bool.false_eq_true, Nat.mul_one, Nat.one_mul, Nat.zero_mul, ↓reduceIte, Nat.reduceEqDiff, Nat.reduceLT, Nat.reduceAdd, Nat.reduceLeDiff, reduceCtorEq, goInt, pairs, isConst, TI.isAgg, splice, boxS, Edp, dpv, Nat.beq_eq, ZV.val, List.any_cons, List.any_nil, Bool.false_and, ge2, zeMsA, AHeap.get_set_same, res_cellc, resC_some]
      exact downS_here (FIN0 k2 (.none hno) _)
  obtain ⟨ga2, -⟩ := k2.at ga1 (by simp) (by simp)
  obtain ⟨ge2, -⟩ := k2.at ge1 (by simp) (by simp)
  have hO2 := hO1.kept k2 (fun _ _ h => by cases h)
  have hi0 : ¬ (i : Int) < 0 := by omega
  obtain ⟨v, fp0, bp, bm, last, gb, gs, P, hne, rfl⟩ := hO2.ex
  have hbf : b ∉ fp0 := gs.off gb (by decide)
  have hpf : bp ∉ fp0 := gs.off P.gp (by decide)
  obtain ⟨es, clk, gm⟩ := P.gm
  have hmf : bm ∉ fp0 := gs.offm gm
  obtain ⟨d, o, xs2, hia, gd, hle, hta, hfd, hset⟩ := gs.at (E := E) flC_len hi ty45 ty50
  subst hfd
  rw [flCe] at hta
  have hvc := F[i].m.vc
  have hx1 : xs2[o + 1]? = some (.int .i64 F[i].st) := by
    have := congrArg (fun l => l[1]?) hta
    simp only [List.getElem?_take, List.getElem?_drop] at this
    simpa using this
  have hle9 : o + 2 + 9 ≤ xs2.length := by omega
  have hta9 : (xs2.drop (o + 2)).take 9 = [.string F[i].m.t, .string F[i].m.p, .int .i64 F[i].m.q, .bool F[i].m.r, F[i].m.v, .string F[i].m.f, .int .i64 F[i].m.u, .int .i64 F[i].m.n, .string F[i].m.g] := by
    have := congrArg (fun l => (l.drop 2).take 9) hta
    simp only [List.drop_take, List.take_take, List.drop_drop] at this
    simpa using this
  simp (disch := first | assumption | simp) only [↓sbD, sbU, tyB, Nat.reduceMul, Nat.reduceSub, Int.reduceEq, Int.reduceLT, Int.reduceLE, Int.reduceNe, Nat.reduceBneDiff, Nat.reduceBEq, decide_false, gt_iff_lt, Bool.or_self, Bool.false_eq_true, Nat.mul_one, Nat.one_mul, Nat.zero_mul, ↓reduceIte, Nat.reduceEqDiff, Nat.reduceLT, Nat.reduceAdd, Nat.reduceLeDiff, reduceCtorEq, goInt, pairs, isConst, TI.isAgg, splice, boxS, Edp, dpv, Nat.beq_eq, ZV.val, List.any_cons, List.any_nil, Bool.false_and, ga2]
  refine specAwaits ?_
  simp (disch := first | assumption | simp) only [↓sbD, sbU, tyB, Nat.reduceMul, Nat.reduceSub, Int.reduceEq, Int.reduceLT, Int.reduceLE, Int.reduceNe, Nat.reduceBneDiff, Nat.reduceBEq, decide_false, gt_iff_lt, Bool.or_self, Bool.false_eq_true, Nat.mul_one, Nat.one_mul, Nat.zero_mul, ↓reduceIte, Nat.reduceEqDiff, Nat.reduceLT, Nat.reduceAdd, Nat.reduceLeDiff, reduceCtorEq, goInt, pairs, isConst, TI.isAgg, splice, boxS, Edp, dpv, Nat.beq_eq, ZV.val, List.any_cons, List.any_nil, Bool.false_and]
  refine drawS_l (fl := [(5, 3)]) (by kernel_rfl) ?_ ?_
  rotate_left; simp only [lastP_cc, lastP_one]; rotate_left
  · simp only [List.all_cons, List.all_nil, floatS, List.getElem?_cons_succ, List.getElem?_cons_zero, List.getElem?_toArray, Region.wanted, Bool.not_true, Bool.not_false, Bool.false_or, Bool.true_or, Bool.or_true, Bool.true_and, reads, looksWeak, aev_tmp, aev_const, upd_at, ↓reduceIte, Nat.reduceEqDiff, Nat.reduceLT, Nat.reduceAdd, ofL_zero, ofL_succ, blkOf, oeq_refl, oeq_of, dead_cells, dead_map, Bool.and_true, Bool.and_self, Bool.false_eq_true, Bool.not_false, ga1, ga2]
    try rfl
  by_cases h0 : awaits p.kind = 0
  · have h0' := h0
    generalize awaits p.kind = w at h0'
    subst h0'
    simp (disch := first | assumption | simp) only [↓sbD, sbU, tyB, Nat.reduceMul, Nat.reduceSub, Int.reduceEq, Int.reduceLT, Int.reduceLE, Int.reduceNe, Nat.reduceBneDiff, Nat.reduceBEq, decide_false, gt_iff_lt, Bool.or_self, Bool.false_eq_true, Nat.mul_one, Nat.one_mul, Nat.zero_mul, ↓reduceIte, Nat.reduceEqDiff, Nat.reduceLT, Nat.reduceAdd, Nat.reduceLeDiff, reduceCtorEq, goInt, pairs, isConst, TI.isAgg, splice, boxS, Edp, dpv, Nat.beq_eq, ZV.val, List.any_cons, List.any_nil, Bool.false_and, ge2, zeMsA, AHeap.get_set_same, res_cellc, resC_some]
    exact downS_here (FIN0 k2 (.zero h0) _)
  by_cases hst : F[i].st = awaits p.kind
  rotate_left
  · simp (disch := first | assumption | simp) only [↓sbD, sbU, tyB, Nat.reduceMul, Nat.reduceSub, Int.reduceEq, Int.reduceLT, Int.reduceLE, Int.reduceNe, Nat.reduceBneDiff, Nat.reduceBEq, decide_false, gt_iff_lt, Bool.or_self, Bool.false_eq_true, Nat.mul_one, Nat.one_mul, Nat.zero_mul, ↓reduceIte, Nat.reduceEqDiff, Nat.reduceLT, Nat.reduceAdd, Nat.reduceLeDiff, reduceCtorEq, goInt, pairs, isConst, TI.isAgg, splice, boxS, Edp, dpv, Nat.beq_eq, ZV.val, List.any_cons, List.any_nil, Bool.false_and, h0, hi0, gb, hia, gd, hx1, hst, ge2, zeMsA, AHeap.get_set_same, res_cellc, resC_some]
    exact downS_here (FIN0 k2 (.wrong i hi hid hst) _)
  simp (disch := first | assumption | simp) only [↓sbD, sbU, tyB, Nat.reduceMul, Nat.reduceSub, Int.reduceEq, Int.reduceLT, Int.reduceLE, Int.reduceNe, Nat.reduceBneDiff, Nat.reduceBEq, decide_false, gt_iff_lt, Bool.or_self, Bool.false_eq_true, Nat.mul_one, Nat.one_mul, Nat.zero_mul, ↓reduceIte, Nat.reduceEqDiff, Nat.reduceLT, Nat.reduceAdd, Nat.reduceLeDiff, reduceCtorEq, goInt, pairs, isConst, TI.isAgg, splice, boxS, Edp, dpv, Nat.beq_eq, ZV.val, List.any_cons, List.any_nil, Bool.false_and, h0, hi0, gb, hia, gd, hx1, hst, eq_self, not_true_eq_false, AS_new, zeMsA, hle9, hta9, hvc.1, hvc.2]
  intro c hc
  have hca : c ≠ a := nd hc ga2 (by simp)
  have hce : c ≠ e := nd hc ge2 (by simp)
  have hcfp : c ∉ b :: bp :: bm :: [d] := fun h => hO2.live c h hc
  try simp (disch := first | assumption | simp) only [↓sbD, sbU, tyB, Nat.reduceMul, Nat.reduceSub, Int.reduceEq, Int.reduceLT, Int.reduceLE, Int.reduceNe, Nat.reduceBneDiff, Nat.reduceBEq, decide_false, gt_iff_lt, Bool.or_self, Bool.false_eq_true, Nat.mul_one, Nat.one_mul, Nat.zero_mul, ↓reduceIte, Nat.reduceEqDiff, Nat.reduceLT, Nat.reduceAdd, Nat.reduceLeDiff, reduceCtorEq, goInt, pairs, isConst, TI.isAgg, splice, boxS, Edp, dpv, Nat.beq_eq, ZV.val, List.any_cons, List.any_nil, Bool.false_and, AHeap.get_set_same]
  generalize hσ3 : AHeap.set (AHeap.set σ2 c _) c _ = σ3
  have k3 : Kept σ2 [] σ3 [] := by rw [← hσ3]; exact ((Kept.refl σ2 []).setD hc).setD hc
  have gc3 : σ3.get c = .cells [.string F[i].m.t, .string F[i].m.p, .int .i64 F[i].m.q, .bool F[i].m.r, F[i].m.v, .string F[i].m.f, .int .i64 F[i].m.u, .int .i64 F[i].m.n, .string F[i].m.g] true 0 := by rw [← hσ3]; exact AHeap.get_set_same _ _ _
  have ga3 := (k3.at ga2 (by simp) (by simp)).1
  have ge3 := (k3.at ge2 (by simp) (by simp)).1
  have gb3 := (k3.at gb (by simp) (by simp)).1
  have gd3 := (k3.at gd (by simp) (by simp)).1
  have hO3 := hO2.kept k3 (fun _ _ h => by cases h)
  have P3 := P.kept k3 (by simp) (by simp)
  have gs3 := gs.kept k3 (fun _ _ h => by cases h)
  have k13 := k2.trans k3
  clear hσ3
  try simp (disch := first | assumption | simp) only [↓sbD, sbU, tyB, Nat.reduceMul, Nat.reduceSub, Int.reduceEq, Int.reduceLT, Int.reduceLE, Int.reduceNe, Nat.reduceBneDiff, Nat.reduceBEq, decide_false, gt_iff_lt, Bool.or_self, Bool.false_eq_true, Nat.mul_one, Nat.one_mul, Nat.zero_mul, ↓reduceIte, Nat.reduceEqDiff, Nat.reduceLT, Nat.reduceAdd, Nat.reduceLeDiff, reduceCtorEq, goInt, pairs, isConst, TI.isAgg, splice, boxS, Edp, dpv, Nat.beq_eq, ZV.val, List.any_cons, List.any_nil, Bool.false_and, ga3]
  refine specBad ?_
  have hmm : msC F[i].m = [.string F[i].m.t, .string F[i].m.p, .int .i64 F[i].m.q, .bool F[i].m.r, F[i].m.v, .string F[i].m.f, .int .i64 F[i].m.u, .int .i64 F[i].m.n, .string F[i].m.g] := rfl
  -- the end with the message
  have FIN1 : ∀ {n : Int} {τ : AHeap} {F' : List Fl} {fp' : List Nat}, Kept σ3 (b :: bp :: bm :: [d]) τ fp' → e ∉ fp' → AckR p.kind p.id p.rea F F' → IsO τ b F' fp' → ∀ o, Q (.tuple #[.int .i64 n, .agg ⟨msC F[i].m⟩]) (τ.set e o) := fun {n τ F' fp'} kt hef hr ho o =>
    hq F' _ fp' n _ hr (ho.kept (show Kept τ [e] (τ.set e o) [e] from Kept.set (by simp)) fun x hx h => by obtain rfl := List.mem_singleton.1 h; exact hef hx) (((K1.tl k13).trans kt).setD hed)
  rw [hmm] at FIN1
  have hefp3 : e ∉ b :: bp :: bm :: [d] := hefp
  have hcfp3 : c ∉ b :: bp :: bm :: [d] := hcfp
  by_cases hb : awaits p.kind = 2 ∧ badR p.rea = false
  · have hsp : xs2.take (o + 1) ++ [.int .i64 3] ++ xs2.drop (o + 1 + 1) = xs2.take o ++ flC F[i].rel ++ xs2.drop (o + 11) := by
      have hx : xs2 = xs2.take o ++ (flC F[i] ++ xs2.drop (o + 11)) := by
        rw [flCe, ← hta, ← List.drop_drop, List.take_append_drop, List.take_append_drop]
      exact set_one (A := xs2.take o) (B := xs2.drop (o + 11)) (a := .int .i64 F[i].id) (x := .int .i64 F[i].st) (R := msC F[i].m) (by rw [List.length_take]; omega) hx
    have hle1 : o + 1 + 1 ≤ xs2.length := by omega
    simp (disch := first | assumption | simp) only [↓sbD, sbU, tyB, Nat.reduceMul, Nat.reduceSub, Int.reduceEq, Int.reduceLT, Int.reduceLE, Int.reduceNe, Nat.reduceBneDiff, Nat.reduceBEq, decide_false, gt_iff_lt, Bool.or_self, Bool.false_eq_true, Nat.mul_one, Nat.one_mul, Nat.zero_mul, ↓reduceIte, Nat.reduceEqDiff, Nat.reduceLT, Nat.reduceAdd, Nat.reduceLeDiff, reduceCtorEq, goInt, pairs, isConst, TI.isAgg, splice, boxS, Edp, dpv, Nat.beq_eq, ZV.val, List.any_cons, List.any_nil, Bool.false_and, hb.1, hb.2, not_bool, Bool.not_false, gb3, hia, gd3, hle1, List.length_cons, List.length_nil, List.cons_append, List.nil_append, List.drop_succ_cons, List.drop_zero, List.set_cons_zero, List.set_cons_succ, decide_true]
    rw [hsp]
    generalize hσ4 : AHeap.set σ3 d _ = σ4
    have k4 : Kept σ3 [d] σ4 [d] := by rw [← hσ4]; exact Kept.set (by simp)
    have gs4 : GS flC 11 σ4 v (F.set i F[i].rel) [d] := by
      obtain ⟨d', o', xs', hia', gd', hle', hta', hfd', hset'⟩ := gs3.at (E := E) flC_len hi ty45 ty50
      rw [hia] at hia'
      injection hia' with hia'; injection hia' with hia'; injection hia' with hia'; injection hia' with e1 e2
      subst e1 e2
      rw [gd3] at gd'
      injection gd' with e3
      subst e3
      rw [← hσ4]
      exact hset' _
    clear hσ4
    have hcd : c ≠ d := fun h => hcfp3 (by simp [h])
    have hed' : e ≠ d := fun h => hefp3 (by simp [h])
    have hbd : b ≠ d := fun h => hbf (by simp [h])
    have gc4 := (k4.at gc3 (by simp) (by simp [hcd])).1
    have ge4 := (k4.at ge3 (by simp) (by simp [hed'])).1
    have gb4 := (k4.at gb3 (by simp) (by simp [hbd])).1
    have P4 := P3.kept k4 (fun h => hpf h) (fun h => hmf h)
    have em : (F.set i F[i].rel).map Fl.id = F.map Fl.id := map_set_id hi rfl
    simp (disch := first | assumption | simp) only [↓sbD, sbU, tyB, Nat.reduceMul, Nat.reduceSub, Int.reduceEq, Int.reduceLT, Int.reduceLE, Int.reduceNe, Nat.reduceBneDiff, Nat.reduceBEq, decide_false, gt_iff_lt, Bool.or_self, Bool.false_eq_true, Nat.mul_one, Nat.one_mul, Nat.zero_mul, ↓reduceIte, Nat.reduceEqDiff, Nat.reduceLT, Nat.reduceAdd, Nat.reduceLeDiff, reduceCtorEq, goInt, pairs, isConst, TI.isAgg, splice, boxS, Edp, dpv, Nat.beq_eq, ZV.val, List.any_cons, List.any_nil, Bool.false_and, gc4, ge4, hvc.1, hvc.2, AHeap.get_set_same, res_cellc, resC_some]
    refine downS_here (FIN1 (F' := F.set i F[i].rel) (fp' := b :: bp :: bm :: [d]) (k4.wid (fun x h => by obtain rfl := List.mem_singleton.1 h; simp) (fun _ h => .inr h)) hefp3 (.rel i hi hid (hst.trans hb.1) hb.1 hb.2) ⟨⟨v, [d], bp, bm, last, gb4, gs4, by rw [em]; exact P4, hne, rfl⟩, by rw [em]; exact hO2.nd, fun x hx => ?_⟩ _)
    rcases List.mem_or_eq_of_mem_set hx with h | rfl
    · exact hO2.pos x h
    · exact hO2.pos F[i] (List.getElem_mem hi)
  have ew' := ew
  have FINe : ∀ {n : Int} {τ : AHeap} {fp' : List Nat}, IsO τ b (F.eraseIdx i) fp' → Kept σ3 (b :: bp :: bm :: [d]) τ fp' → ∀ o, Q (.tuple #[.int .i64 n, .agg ⟨[.string F[i].m.t, .string F[i].m.p, .int .i64 F[i].m.q, .bool F[i].m.r, F[i].m.v, .string F[i].m.f, .int .i64 F[i].m.u, .int .i64 F[i].m.n, .string F[i].m.g]⟩]) (τ.set e o) := fun ho kt => FIN1 kt (kt.at ge3 (by simp) hefp3).2 (.fin i hi hid hst hb) ho
  generalize awaits p.kind = w at h0 hb ew
  generalize badR p.rea = z at hb
  rcases ew with rfl | rfl | rfl | rfl
  · exact absurd rfl h0
  all_goals
    cases z
  all_goals try exact absurd ⟨rfl, rfl⟩ hb
  all_goals
    simp (disch := first | assumption | simp) only [↓sbD, sbU, tyB, Nat.reduceMul, Nat.reduceSub, Int.reduceEq, Int.reduceLT, Int.reduceLE, Int.reduceNe, Nat.reduceBneDiff, Nat.reduceBEq, decide_false, gt_iff_lt, Bool.or_self, Bool.false_eq_true, Nat.mul_one, Nat.one_mul, Nat.zero_mul, ↓reduceIte, Nat.reduceEqDiff, Nat.reduceLT, Nat.reduceAdd, Nat.reduceLeDiff, reduceCtorEq, goInt, pairs, isConst, TI.isAgg, splice, boxS, Edp, dpv, Nat.beq_eq, ZV.val, List.any_cons, List.any_nil, Bool.false_and, not_bool, Bool.not_true, Bool.not_false]
    refine specOEnd hO3 hi hs fun σ4 fp4 ho4 k4 => ?_
    obtain ⟨gc4, -⟩ := k4.at gc3 (by simp) hcfp3
    obtain ⟨ge4, -⟩ := k4.at ge3 (by simp) hefp3
    simp (disch := first | assumption | simp) only [↓sbD, sbU, tyB, Nat.reduceMul, Nat.reduceSub, Int.reduceEq, Int.reduceLT, Int.reduceLE, Int.reduceNe, Nat.reduceBneDiff, Nat.reduceBEq, decide_false, gt_iff_lt, Bool.or_self, Bool.false_eq_true, Nat.mul_one, Nat.one_mul, Nat.zero_mul, ↓reduceIte, Nat.reduceEqDiff, Nat.reduceLT, Nat.reduceAdd, Nat.reduceLeDiff, reduceCtorEq, goInt, pairs, isConst, TI.isAgg, splice, boxS, Edp, dpv, Nat.beq_eq, ZV.val, List.any_cons, List.any_nil, Bool.false_and, gc4, ge4, hvc.1, hvc.2, AHeap.get_set_same, res_cellc, resC_some]
    exact downS_here (FINe ho4 k4 _)
end
end Go.Proofs.Ytkhcbbpfchgemaa.AbsA
namespace Go.Proofs.Ytkhcbbpfchgemaa.AbsS
open Go AbsYtkhcbbpfchgemaa Abs
open AbsA (Pr propC Kept drawS_l lastP_cc lastP_one)
set_option maxRecDepth 100000
set_option maxHeartbeats 4000000
set_option linter.unusedSimpArgs false
set_option linter.unusedVariables false
attribute [local irreducible] afterS afterOpS opSK OpsS TrS CodeS condS condW thenS thenQ guardS guardTS outS drawS trSK consS
section
variable {σ : AHeap} {Q : Value → AHeap → Prop}
theorem specCome0 {t p f g : ByteArray} {q u n now : Int} {r : Bool} {v : Value} (hu : u ≤ 0) (hv : vcells v = [v] ∧ oneCell v = true) (hq : ∀ σ', Kept σ [] σ' [] → Q (.bool false) σ') : CallS E B 50 [.agg ⟨msgC t p q r v f u n g⟩, .int .i64 now] σ Q := by
  have h1 : ¬ 0 < u := by omega
  simp only [msgC]
  refine call50 (by simp) ?_
  simp only [strip, bodyOf, Try.f50, getD_body, keepN, bareOp_mk, lessOp_mk, lapp_cons, lapp_nil, List.map_cons, List.map_nil, array_toList, ↓reduceIte, Nat.reduceEqDiff, Bool.false_eq_true]
  simp (disch := first | assumption | simp) only [↓sbD, sbU, tyB, Nat.reduceMul, Nat.reduceSub, Int.reduceEq, Int.reduceLT, Int.reduceLE, Int.reduceNe, Nat.reduceBneDiff, Nat.reduceBEq, decide_false, gt_iff_lt, Bool.or_self, Bool.false_eq_true, Nat.mul_one, Nat.one_mul, Nat.zero_mul, ↓reduceIte, Nat.reduceEqDiff, Nat.reduceLT, Nat.reduceAdd, Nat.reduceLeDiff, reduceCtorEq, goInt, pairs, isConst, TI.isAgg, splice, boxS, Edp, dpv, Nat.beq_eq, ZV.val, List.any_cons, List.any_nil, Bool.false_and, AS_new, dpM, hv.1, hv.2]
  intro b hb
  try simp (disch := first | assumption | simp) only [↓sbD, sbU, tyB, Nat.reduceMul, Nat.reduceSub, Int.reduceEq, Int.reduceLT, Int.reduceLE, Int.reduceNe, Nat.reduceBneDiff, Nat.reduceBEq, decide_false, gt_iff_lt, Bool.or_self, Bool.false_eq_true, Nat.mul_one, Nat.one_mul, Nat.zero_mul, ↓reduceIte, Nat.reduceEqDiff, Nat.reduceLT, Nat.reduceAdd, Nat.reduceLeDiff, reduceCtorEq, goInt, pairs, isConst, TI.isAgg, splice, boxS, Edp, dpv, Nat.beq_eq, ZV.val, List.any_cons, List.any_nil, Bool.false_and, AHeap.get_set_same, h1]
  exact downS_here (hq _ ((AbsA.Kept.refl σ []).setD hb))
/-- a message whose time never comes -/
theorem specLeft0 {t p f g : ByteArray} {q u n now : Int} {r : Bool} {v : Value} {l : List Pr} (hu : u ≤ 0) (hv : PS σ v l) (hs : l.length ≤ 100000)
    (hq : ∀ σ' v', PS σ' v' l → (∀ d ex n c, v' = .slice (some ⟨d, 0, ex⟩) n c → σ.get d = .dead) → Kept σ [] σ' [] → Q (.tuple #[.agg ⟨msgC t p q r v' f u n g⟩, .bool true]) σ') :
    CallS E B 52 [.agg ⟨msgC t p q r v f u n g⟩, .int .i64 now] σ Q := by
  have hvc := hv.vc
  have hu' : ¬ 0 < u := by omega
  simp only [msgC]
  refine call52 (by simp) ?_
  simp only [strip, bodyOf, Try.f52, getD_body, keepN, bareOp_mk, lessOp_mk, lapp_cons, lapp_nil, List.map_cons, List.map_nil, array_toList, ↓reduceIte, Nat.reduceEqDiff, Bool.false_eq_true]
  simp (disch := first | assumption | simp) only [↓sbD, sbU, tyB, Nat.reduceMul, Nat.reduceSub, Int.reduceEq, Int.reduceLT, Int.reduceLE, Int.reduceNe, Nat.reduceBneDiff, Nat.reduceBEq, decide_false, gt_iff_lt, Bool.or_self, Bool.false_eq_true, Nat.mul_one, Nat.one_mul, Nat.zero_mul, ↓reduceIte, Nat.reduceEqDiff, Nat.reduceLT, Nat.reduceAdd, Nat.reduceLeDiff, reduceCtorEq, goInt, pairs, isConst, TI.isAgg, splice, boxS, Edp, dpv, Nat.beq_eq, ZV.val, List.any_cons, List.any_nil, Bool.false_and, AS_new, dpM, zeMsg, hvc.1, hvc.2]
  intro a ha b hb
  have hab : a ≠ b := by rintro rfl; rw [AHeap.get_set_same] at hb; cases hb
  have hbd : σ.get b = .dead := by rw [AHeap.get_set_ne _ _ hab] at hb; exact hb
  generalize hσ1 : AHeap.set (AHeap.set σ a _) b _ = σ1
  have k1 : Kept σ [] σ1 [] := by rw [← hσ1]; exact ((AbsA.Kept.refl σ []).setD ha).setD hbd
  have ga1 : σ1.get a = .cells [.string t, .string p, .int .i64 q, .bool r, v, .string f, .int .i64 u, .int .i64 n, .string g] true 0 := by rw [← hσ1, AHeap.get_set_ne _ _ hab.symm]; exact AHeap.get_set_same _ _ _
  have gb1 : σ1.get b = .cells [.string ⟨#[]⟩, .string ⟨#[]⟩, .int .i64 0, .bool false, .slice none 0 0, .string ⟨#[]⟩, .int .i64 0, .int .i64 0, .string ⟨#[]⟩] true 0 := by rw [← hσ1]; exact AHeap.get_set_same _ _ _
  clear hσ1
  try simp (disch := first | assumption | simp) only [↓sbD, sbU, tyB, Nat.reduceMul, Nat.reduceSub, Int.reduceEq, Int.reduceLT, Int.reduceLE, Int.reduceNe, Nat.reduceBneDiff, Nat.reduceBEq, decide_false, gt_iff_lt, Bool.or_self, Bool.false_eq_true, Nat.mul_one, Nat.one_mul, Nat.zero_mul, ↓reduceIte, Nat.reduceEqDiff, Nat.reduceLT, Nat.reduceAdd, Nat.reduceLeDiff, reduceCtorEq, goInt, pairs, isConst, TI.isAgg, splice, boxS, Edp, dpv, Nat.beq_eq, ZV.val, List.any_cons, List.any_nil, Bool.false_and, ga1]
  refine specCome0 hu hvc fun σ2 k2' => ?_
  have ga2 := (k2'.at ga1 (by simp) (by simp)).1
  have gb2 := (k2'.at gb1 (by simp) (by simp)).1
  have k2 := k1.trans k2'
  have hv2 : PS σ2 v l := hv.kept fun b hb => k2.get b hb (by simp)
  simp (disch := first | assumption | simp) only [↓sbD, sbU, tyB, Nat.reduceMul, Nat.reduceSub, Int.reduceEq, Int.reduceLT, Int.reduceLE, Int.reduceNe, Nat.reduceBneDiff, Nat.reduceBEq, decide_false, gt_iff_lt, Bool.or_self, Bool.false_eq_true, Nat.mul_one, Nat.one_mul, Nat.zero_mul, ↓reduceIte, Nat.reduceEqDiff, Nat.reduceLT, Nat.reduceAdd, Nat.reduceLeDiff, reduceCtorEq, goInt, pairs, isConst, TI.isAgg, splice, boxS, Edp, dpv, Nat.beq_eq, ZV.val, List.any_cons, List.any_nil, Bool.false_and, ga2]
  refine specCloW hv2 hs fun σ3 w hw hk3 hshape => ?_
  have hnew : ∀ d ex n c, w = .slice (some ⟨d, 0, ex⟩) n c → σ.get d = .dead := fun d ex n c hw' => by
    rcases hshape with rfl | ⟨d', ex', rfl, hd, _⟩
    · cases hw'
    · injection hw' with e; injection e with e; injection e with e
      subst e
      by_cases h : σ.get d' = .dead
      · exact h
      · rw [k2.get d' h (by simp)] at hd; exact absurd hd h
  have ga3 : σ3.get a = _ := (hk3 a (by rw [ga2]; simp)).trans ga2
  have gb3 : σ3.get b = _ := (hk3 b (by rw [gb2]; simp)).trans gb2
  have k3 : Kept σ [] σ3 [] := k2.trans ⟨fun b hb _ => hk3 b hb, fun _ h => by cases h⟩
  have hwc := hw.ps.vc
  simp (disch := first | assumption | simp) only [↓sbD, sbU, tyB, Nat.reduceMul, Nat.reduceSub, Int.reduceEq, Int.reduceLT, Int.reduceLE, Int.reduceNe, Nat.reduceBneDiff, Nat.reduceBEq, decide_false, gt_iff_lt, Bool.or_self, Bool.false_eq_true, Nat.mul_one, Nat.one_mul, Nat.zero_mul, ↓reduceIte, Nat.reduceEqDiff, Nat.reduceLT, Nat.reduceAdd, Nat.reduceLeDiff, reduceCtorEq, goInt, pairs, isConst, TI.isAgg, splice, boxS, Edp, dpv, Nat.beq_eq, ZV.val, List.any_cons, List.any_nil, Bool.false_and, ga3, hwc.1, hwc.2, List.length_cons, List.length_nil, List.cons_append, List.nil_append, List.drop_succ_cons, List.drop_zero, List.set_cons_zero, List.set_cons_succ, decide_true]
  generalize hσ4 : AHeap.set σ3 a _ = σ4
  have k4 : Kept σ [] σ4 [] := by rw [← hσ4]; exact k3.setD ha
  have ga4 : σ4.get a = .cells [.string t, .string p, .int .i64 q, .bool r, w, .string f, .int .i64 u, .int .i64 n, .string g] true 0 := by rw [← hσ4]; exact AHeap.get_set_same _ _ _
  have gb4 : σ4.get b = _ := (show σ4.get b = σ3.get b by rw [← hσ4]; exact AHeap.get_set_ne _ _ hab).trans gb3
  have hw4 : PS σ4 w l := by
    rcases hw with h | ⟨d, ex, c, cs, h1, h2, h3⟩
    · exact .inl h
    · have hda : a ≠ d := by rintro rfl; rw [ga3] at h2; simp at h2
      exact .inr (.inr ⟨d, ex, c, cs, h1, by rw [← hσ4, AHeap.get_set_ne _ _ hda]; exact h2⟩)
  clear hσ4
  simp (disch := first | assumption | simp) only [↓sbD, sbU, tyB, Nat.reduceMul, Nat.reduceSub, Int.reduceEq, Int.reduceLT, Int.reduceLE, Int.reduceNe, Nat.reduceBneDiff, Nat.reduceBEq, decide_false, gt_iff_lt, Bool.or_self, Bool.false_eq_true, Nat.mul_one, Nat.one_mul, Nat.zero_mul, ↓reduceIte, Nat.reduceEqDiff, Nat.reduceLT, Nat.reduceAdd, Nat.reduceLeDiff, reduceCtorEq, goInt, pairs, isConst, TI.isAgg, splice, boxS, Edp, dpv, Nat.beq_eq, ZV.val, List.any_cons, List.any_nil, Bool.false_and, ga4, gb4, hu', AHeap.get_set_same, hwc.1, hwc.2, AbsA.res_cellc, AbsA.resC_some]
  refine downS_here (hq _ w ?_ hnew (k4.setD hbd))
  rcases hw4 with h | h | ⟨d, ex, c, cs, h1, h2⟩
  · exact .inl h
  · exact .inr (.inl h)
  · have hdb : b ≠ d := by rintro rfl; rw [gb4] at h2; simp at h2
    exact .inr (.inr ⟨d, ex, c, cs, h1, by rw [AHeap.get_set_ne _ _ hdb]; exact h2⟩)
end
end Go.Proofs.Ytkhcbbpfchgemaa.AbsS
