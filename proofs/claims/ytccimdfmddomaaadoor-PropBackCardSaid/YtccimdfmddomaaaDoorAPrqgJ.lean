/-
  Parts of a law's proof.
-/
import Derived.Test.YtccimdfmddomaaaDoorAPrqbJ
import Derived.Test.YtccimdfmddomaaaDoorARdqcJ
namespace Go.Proofs.YtccimdfmddomaaaDoor.AbsA
open Go AbsYtccimdfmddomaaaDoor Abs
set_option maxRecDepth 100000
set_option maxHeartbeats 2000000
set_option linter.unusedSimpArgs false
set_option linter.unusedVariables false
attribute [local irreducible] afterS afterOpS opSK OpsS TrS CodeS condS condW thenS thenQ guardS guardTS outS drawS trSK consS
section
variable {σ : AHeap} {Q : Value → AHeap → Prop} {w : Nat} {fp : List Nat} {r : ByteArray ⊕ (Nat × Nat)}
def stepW (r : ByteArray ⊕ (Nat × Nat)) (l : List Act) : ByteArray ⊕ (Nat × Nat) := match r with
  | .inl b => runW b l
  | .inr e => .inr e
theorem stepW_app {l m : List Act} : stepW (stepW r l) m = stepW r (l ++ m) := by
  cases r with
  | inl b => simp only [stepW]; rw [runW_app]; cases runW b l <;> rfl
  | inr e => rfl
def leW (r : ByteArray ⊕ (Nat × Nat)) (n : Nat) : Prop := ∀ b, r = .inl b → b.size ≤ n
theorem leW_step {n : Nat} {a : Act} (h : leW r n) : leW (stepW r [a]) (n + a.s.size + 4) := by
  intro b hb
  cases r with
  | inr e => cases hb
  | inl c =>
    have hc := h c rfl
    simp only [stepW, runW] at hb
    cases ha : actW a with
    | inl m =>
      rw [ha] at hb
      injection hb with hb; subst hb
      have := actW_size ha
      rw [size_app]; omega
    | inr e => rw [ha] at hb; cases hb
theorem WOut.run {a : ByteArray} {act : Act} (h : WOut σ w a (actW act) fp) : WRun σ w (runW a [act]) fp := by
  unfold WOut at h
  unfold runW
  cases ha : actW act with
  | inl m => rw [ha] at h; exact h
  | inr e =>
    obtain ⟨k, q⟩ := e
    rw [ha] at h
    obtain ⟨d, x, h1, h2, h3⟩ := h
    exact ⟨a, d, x, h1, h2, h3⟩
theorem specVarR {n : Int} {s : ByteArray} (hw : WRun σ w r fp) (hz : leW r 1000000) (h : ∀ σ' fp', Kept σ fp σ' fp' → WRun σ' w (stepW r [⟨5, n, s⟩]) fp' → Q unit σ') : CallS E B 87 [.pointer (some ⟨w, 0, none⟩), .int .i64 n] σ Q := by
  cases r with
  | inl b => exact specVar hw (hz b rfl) fun σ' fp' k o => h σ' fp' k (WOut.run (act := ⟨5, n, s⟩) o)
  | inr e => obtain ⟨k, q⟩ := e; obtain ⟨b, d, z, h1, h2, h3⟩ := hw; exact specVarE h3 (h σ fp (Kept.refl _ _) ⟨b, d, z, h1, h2, h3⟩)
theorem specU8R {n : Int} {s : ByteArray} (hw : WRun σ w r fp) (hz : leW r 1000000) (h : ∀ σ' fp', Kept σ fp σ' fp' → WRun σ' w (stepW r [⟨1, n, s⟩]) fp' → Q unit σ') : CallS E B 62 [.pointer (some ⟨w, 0, none⟩), .int .i64 n] σ Q := by
  cases r with
  | inl b => exact specU8 hw (hz b rfl) fun σ' fp' k o => h σ' fp' k (WOut.run (act := ⟨1, n, s⟩) o)
  | inr e => obtain ⟨k, q⟩ := e; obtain ⟨b, d, z, h1, h2, h3⟩ := hw; exact specU8E h3 (h σ fp (Kept.refl _ _) ⟨b, d, z, h1, h2, h3⟩)
theorem specU16R {n : Int} {s : ByteArray} (hw : WRun σ w r fp) (hz : leW r 1000000) (h : ∀ σ' fp', Kept σ fp σ' fp' → WRun σ' w (stepW r [⟨2, n, s⟩]) fp' → Q unit σ') : CallS E B 60 [.pointer (some ⟨w, 0, none⟩), .int .i64 n] σ Q := by
  cases r with
  | inl b => exact specU16 hw (hz b rfl) fun σ' fp' k o => h σ' fp' k (WOut.run (act := ⟨2, n, s⟩) o)
  | inr e => obtain ⟨k, q⟩ := e; obtain ⟨b, d, z, h1, h2, h3⟩ := hw; exact specU16E h3 (h σ fp (Kept.refl _ _) ⟨b, d, z, h1, h2, h3⟩)
theorem specU32R {n : Int} {s : ByteArray} (hw : WRun σ w r fp) (hz : leW r 1000000) (h : ∀ σ' fp', Kept σ fp σ' fp' → WRun σ' w (stepW r [⟨4, n, s⟩]) fp' → Q unit σ') : CallS E B 59 [.pointer (some ⟨w, 0, none⟩), .int .i64 n] σ Q := by
  cases r with
  | inl b => exact specU32 hw (hz b rfl) fun σ' fp' k o => h σ' fp' k (WOut.run (act := ⟨4, n, s⟩) o)
  | inr e => obtain ⟨k, q⟩ := e; obtain ⟨b, d, z, h1, h2, h3⟩ := hw; exact specU32E h3 (h σ fp (Kept.refl _ _) ⟨b, d, z, h1, h2, h3⟩)
theorem specBinR {n : Int} {s : ByteArray} (hw : WRun σ w r fp) (hz : leW r 1000000) (hs : s.size ≤ 100000) (h : ∀ σ' fp', Kept σ fp σ' fp' → WRun σ' w (stepW r [⟨7, n, s⟩]) fp' → Q unit σ') : CallS E B 63 [.pointer (some ⟨w, 0, none⟩), .string s] σ Q := by
  cases r with
  | inl b => exact specBin hw (hz b rfl) (by omega) fun σ' fp' k o => h σ' fp' k (WOut.run (act := ⟨7, n, s⟩) o)
  | inr e => obtain ⟨k, q⟩ := e; obtain ⟨b, d, z, h1, h2, h3⟩ := hw; exact specBinE h3 (h σ fp (Kept.refl _ _) ⟨b, d, z, h1, h2, h3⟩)
theorem specTextR {n : Int} {s : ByteArray} (hw : WRun σ w r fp) (hz : leW r 1000000) (hs : s.size ≤ 100000) (h : ∀ σ' fp', Kept σ fp σ' fp' → WRun σ' w (stepW r [⟨6, n, s⟩]) fp' → Q unit σ') : CallS E B 83 [.pointer (some ⟨w, 0, none⟩), .string s] σ Q := by
  cases r with
  | inl b => exact specText hw (hz b rfl) hs fun σ' fp' k o => h σ' fp' k (WOut.run (act := ⟨6, n, s⟩) o)
  | inr e => obtain ⟨k, q⟩ := e; obtain ⟨b, d, z, h1, h2, h3⟩ := hw; exact specTextE h3 (h σ fp (Kept.refl _ _) ⟨b, d, z, h1, h2, h3⟩)
theorem specRawR {n : Int} {s : ByteArray} (hw : WRun σ w r fp) (hz : leW r 10000000) (hs : s.size ≤ 10000000) (h : ∀ σ' fp', Kept σ fp σ' fp' → WRun σ' w (stepW r [⟨8, n, s⟩]) fp' → Q unit σ') : CallS E B 57 [.pointer (some ⟨w, 0, none⟩), .string s] σ Q := by
  cases r with
  | inl b => exact specRaw hw (by have := hz b rfl; omega) fun σ' fp' k o => h σ' fp' k (WOut.run (act := ⟨8, n, s⟩) o)
  | inr e => obtain ⟨k, q⟩ := e; obtain ⟨b, d, z, h1, h2, h3⟩ := hw; exact specRawE h3 (h σ fp (Kept.refl _ _) ⟨b, d, z, h1, h2, h3⟩)
theorem specBytesR (hw : WRun σ w r fp) (hok : ∀ b, r = .inl b → Q (.tuple #[.string b, .nilIface]) σ) (hbad : ∀ k q d z, r = .inr (k, q) → d ≤ 2 → ErN d (fv 129 (q : Int) z) k → Q (.tuple #[.string emp, fv 129 (q : Int) z]) σ) : CallS E B 35 [.pointer (some ⟨w, 0, none⟩)] σ Q := by
  cases r with
  | inl b => exact specBytes hw (hok b rfl)
  | inr e => obtain ⟨k, q⟩ := e; obtain ⟨b, d, z, h1, h2, h3⟩ := hw; exact specBytesE h3 (hbad k q d z rfl h1 h2)
theorem typ_cases (id : Int) : typI id = 0 ∨ typI id = 1 ∨ typI id = 2 ∨ typI id = 4 ∨ typI id = 5 ∨ typI id = 6 ∨ typI id = 7 ∨ typI id = 9 := by
  unfold typI
  (repeat' split) <;> simp
theorem dpW : dp 72 = false := rfl
theorem WRun.kept {σ' : AHeap} {gp gp' : List Nat} (h : WRun σ w r fp) (k : Kept σ gp σ' gp') (hd : ∀ b ∈ fp, b ∉ gp) : WRun σ' w r fp := by
  cases r with
  | inl b => exact IsW.kept h k hd
  | inr e => obtain ⟨n, q⟩ := e; obtain ⟨b, d, z, h1, h2, h3⟩ := h; exact ⟨b, d, z, h1, h2, IsW.kept h3 k hd⟩
theorem specPWrite {p : Pr} {n : Nat} (hw : WRun σ w r fp) (hz : leW r n) (hn : n ≤ 900000) (h1 : p.s.size ≤ 10000) (h2 : p.v.size ≤ 10000) (h : ∀ σ' fp', Kept σ fp σ' fp' → WRun σ' w (stepW r (actsP p)) fp' → leW (stepW r (actsP p)) (n + p.s.size + p.v.size + 12) → Q unit σ') :
    CallS E B 103 [.pointer (some ⟨w, 0, none⟩), .agg ⟨propC p⟩] σ Q := by
  have hz1 := leW_step (a := ⟨5, p.id, emp⟩) hz
  have he : emp.size = 0 := rfl
  simp only [he] at hz1
  have hstep : ∀ l, stepW (stepW r [⟨5, p.id, emp⟩]) l = stepW r (⟨5, p.id, emp⟩ :: l) := fun l => stepW_app
  simp only [propC]
  refine call103 (by simp) ?_
  simp only [strip, bodyOf, Tryd.f103, getD_body, keepN, bareOp_mk, lessOp_mk, lapp_cons, lapp_nil, List.map_cons, List.map_nil, array_toList, ↓reduceIte, Nat.reduceEqDiff, Bool.false_eq_true]
  simp (disch := first | assumption | simp) only [↓sbD, sbU, tyB, Nat.reduceMul, Nat.reduceSub, Int.reduceEq, Int.reduceLT, Int.reduceLE, Int.reduceNe, Nat.reduceBneDiff, Nat.reduceBEq, decide_false, gt_iff_lt, Bool.or_self, Bool.false_eq_true, Nat.mul_one, Nat.one_mul, Nat.zero_mul, ↓reduceIte, Nat.reduceEqDiff, Nat.reduceLT, Nat.reduceAdd, Nat.reduceLeDiff, reduceCtorEq, goInt, pairs, isConst, TI.isAgg, splice, boxS, Edp, dpv, Nat.beq_eq, ZV.val, List.any_cons, List.any_nil]
  refine specVarR (s := emp) hw (fun b hb => by have := hz b hb; omega) fun σ1 fp1 k1 w1 => ?_
  simp (disch := first | assumption | simp) only [↓sbD, sbU, tyB, Nat.reduceMul, Nat.reduceSub, Int.reduceEq, Int.reduceLT, Int.reduceLE, Int.reduceNe, Nat.reduceBneDiff, Nat.reduceBEq, decide_false, gt_iff_lt, Bool.or_self, Bool.false_eq_true, Nat.mul_one, Nat.one_mul, Nat.zero_mul, ↓reduceIte, Nat.reduceEqDiff, Nat.reduceLT, Nat.reduceAdd, Nat.reduceLeDiff, reduceCtorEq, goInt, pairs, isConst, TI.isAgg, splice, boxS, Edp, dpv, Nat.beq_eq, ZV.val, List.any_cons, List.any_nil]
  refine specType ?_
  unfold actsP at h
  rcases typ_cases p.id with ht | ht | ht | ht | ht | ht | ht | ht
  · rw [ht] at h
    simp only [Int.reduceEq, if_false, if_true] at h
    simp (disch := first | assumption | simp) only [↓sbD, sbU, tyB, Nat.reduceMul, Nat.reduceSub, Int.reduceEq, Int.reduceLT, Int.reduceLE, Int.reduceNe, Nat.reduceBneDiff, Nat.reduceBEq, decide_false, gt_iff_lt, Bool.or_self, Bool.false_eq_true, Nat.mul_one, Nat.one_mul, Nat.zero_mul, ↓reduceIte, Nat.reduceEqDiff, Nat.reduceLT, Nat.reduceAdd, Nat.reduceLeDiff, reduceCtorEq, goInt, pairs, isConst, TI.isAgg, splice, boxS, Edp, dpv, Nat.beq_eq, ZV.val, List.any_cons, List.any_nil, ht]
    exact downS_here (h _ _ k1 w1 fun b hb => by have := hz1 b hb; omega)
  · rw [ht] at h
    simp only [Int.reduceEq, if_false, if_true] at h
    simp (disch := first | assumption | simp) only [↓sbD, sbU, tyB, Nat.reduceMul, Nat.reduceSub, Int.reduceEq, Int.reduceLT, Int.reduceLE, Int.reduceNe, Nat.reduceBneDiff, Nat.reduceBEq, decide_false, gt_iff_lt, Bool.or_self, Bool.false_eq_true, Nat.mul_one, Nat.one_mul, Nat.zero_mul, ↓reduceIte, Nat.reduceEqDiff, Nat.reduceLT, Nat.reduceAdd, Nat.reduceLeDiff, reduceCtorEq, goInt, pairs, isConst, TI.isAgg, splice, boxS, Edp, dpv, Nat.beq_eq, ZV.val, List.any_cons, List.any_nil, ht]
    refine specU8R (s := p.s) w1 (fun b hb => by have := hz1 b hb; omega) fun σ2 fp2 k2 w2 => ?_
    simp (disch := first | assumption | simp) only [↓sbD, sbU, tyB, Nat.reduceMul, Nat.reduceSub, Int.reduceEq, Int.reduceLT, Int.reduceLE, Int.reduceNe, Nat.reduceBneDiff, Nat.reduceBEq, decide_false, gt_iff_lt, Bool.or_self, Bool.false_eq_true, Nat.mul_one, Nat.one_mul, Nat.zero_mul, ↓reduceIte, Nat.reduceEqDiff, Nat.reduceLT, Nat.reduceAdd, Nat.reduceLeDiff, reduceCtorEq, goInt, pairs, isConst, TI.isAgg, splice, boxS, Edp, dpv, Nat.beq_eq, ZV.val, List.any_cons, List.any_nil]
    rw [hstep] at w2
    have hz2 := leW_step (a := ⟨1, p.n, p.s⟩) hz1
    rw [hstep] at hz2
    simp only at hz2
    exact downS_here (h _ _ (k1.trans k2) w2 fun b hb => by have := hz2 b hb; omega)
  · rw [ht] at h
    simp only [Int.reduceEq, if_false, if_true] at h
    simp (disch := first | assumption | simp) only [↓sbD, sbU, tyB, Nat.reduceMul, Nat.reduceSub, Int.reduceEq, Int.reduceLT, Int.reduceLE, Int.reduceNe, Nat.reduceBneDiff, Nat.reduceBEq, decide_false, gt_iff_lt, Bool.or_self, Bool.false_eq_true, Nat.mul_one, Nat.one_mul, Nat.zero_mul, ↓reduceIte, Nat.reduceEqDiff, Nat.reduceLT, Nat.reduceAdd, Nat.reduceLeDiff, reduceCtorEq, goInt, pairs, isConst, TI.isAgg, splice, boxS, Edp, dpv, Nat.beq_eq, ZV.val, List.any_cons, List.any_nil, ht]
    refine specU16R (s := p.s) w1 (fun b hb => by have := hz1 b hb; omega) fun σ2 fp2 k2 w2 => ?_
    simp (disch := first | assumption | simp) only [↓sbD, sbU, tyB, Nat.reduceMul, Nat.reduceSub, Int.reduceEq, Int.reduceLT, Int.reduceLE, Int.reduceNe, Nat.reduceBneDiff, Nat.reduceBEq, decide_false, gt_iff_lt, Bool.or_self, Bool.false_eq_true, Nat.mul_one, Nat.one_mul, Nat.zero_mul, ↓reduceIte, Nat.reduceEqDiff, Nat.reduceLT, Nat.reduceAdd, Nat.reduceLeDiff, reduceCtorEq, goInt, pairs, isConst, TI.isAgg, splice, boxS, Edp, dpv, Nat.beq_eq, ZV.val, List.any_cons, List.any_nil]
    rw [hstep] at w2
    have hz2 := leW_step (a := ⟨2, p.n, p.s⟩) hz1
    rw [hstep] at hz2
    simp only at hz2
    exact downS_here (h _ _ (k1.trans k2) w2 fun b hb => by have := hz2 b hb; omega)
  · rw [ht] at h
    simp only [Int.reduceEq, if_false, if_true] at h
    simp (disch := first | assumption | simp) only [↓sbD, sbU, tyB, Nat.reduceMul, Nat.reduceSub, Int.reduceEq, Int.reduceLT, Int.reduceLE, Int.reduceNe, Nat.reduceBneDiff, Nat.reduceBEq, decide_false, gt_iff_lt, Bool.or_self, Bool.false_eq_true, Nat.mul_one, Nat.one_mul, Nat.zero_mul, ↓reduceIte, Nat.reduceEqDiff, Nat.reduceLT, Nat.reduceAdd, Nat.reduceLeDiff, reduceCtorEq, goInt, pairs, isConst, TI.isAgg, splice, boxS, Edp, dpv, Nat.beq_eq, ZV.val, List.any_cons, List.any_nil, ht]
    refine specU32R (s := p.s) w1 (fun b hb => by have := hz1 b hb; omega) fun σ2 fp2 k2 w2 => ?_
    simp (disch := first | assumption | simp) only [↓sbD, sbU, tyB, Nat.reduceMul, Nat.reduceSub, Int.reduceEq, Int.reduceLT, Int.reduceLE, Int.reduceNe, Nat.reduceBneDiff, Nat.reduceBEq, decide_false, gt_iff_lt, Bool.or_self, Bool.false_eq_true, Nat.mul_one, Nat.one_mul, Nat.zero_mul, ↓reduceIte, Nat.reduceEqDiff, Nat.reduceLT, Nat.reduceAdd, Nat.reduceLeDiff, reduceCtorEq, goInt, pairs, isConst, TI.isAgg, splice, boxS, Edp, dpv, Nat.beq_eq, ZV.val, List.any_cons, List.any_nil]
    rw [hstep] at w2
    have hz2 := leW_step (a := ⟨4, p.n, p.s⟩) hz1
    rw [hstep] at hz2
    simp only at hz2
    exact downS_here (h _ _ (k1.trans k2) w2 fun b hb => by have := hz2 b hb; omega)
  · rw [ht] at h
    simp only [Int.reduceEq, if_false, if_true] at h
    simp (disch := first | assumption | simp) only [↓sbD, sbU, tyB, Nat.reduceMul, Nat.reduceSub, Int.reduceEq, Int.reduceLT, Int.reduceLE, Int.reduceNe, Nat.reduceBneDiff, Nat.reduceBEq, decide_false, gt_iff_lt, Bool.or_self, Bool.false_eq_true, Nat.mul_one, Nat.one_mul, Nat.zero_mul, ↓reduceIte, Nat.reduceEqDiff, Nat.reduceLT, Nat.reduceAdd, Nat.reduceLeDiff, reduceCtorEq, goInt, pairs, isConst, TI.isAgg, splice, boxS, Edp, dpv, Nat.beq_eq, ZV.val, List.any_cons, List.any_nil, ht]
    refine specVarR (s := p.s) w1 (fun b hb => by have := hz1 b hb; omega) fun σ2 fp2 k2 w2 => ?_
    simp (disch := first | assumption | simp) only [↓sbD, sbU, tyB, Nat.reduceMul, Nat.reduceSub, Int.reduceEq, Int.reduceLT, Int.reduceLE, Int.reduceNe, Nat.reduceBneDiff, Nat.reduceBEq, decide_false, gt_iff_lt, Bool.or_self, Bool.false_eq_true, Nat.mul_one, Nat.one_mul, Nat.zero_mul, ↓reduceIte, Nat.reduceEqDiff, Nat.reduceLT, Nat.reduceAdd, Nat.reduceLeDiff, reduceCtorEq, goInt, pairs, isConst, TI.isAgg, splice, boxS, Edp, dpv, Nat.beq_eq, ZV.val, List.any_cons, List.any_nil]
    rw [hstep] at w2
    have hz2 := leW_step (a := ⟨5, p.n, p.s⟩) hz1
    rw [hstep] at hz2
    simp only at hz2
    exact downS_here (h _ _ (k1.trans k2) w2 fun b hb => by have := hz2 b hb; omega)
  · rw [ht] at h
    simp only [Int.reduceEq, if_false, if_true] at h
    simp (disch := first | assumption | simp) only [↓sbD, sbU, tyB, Nat.reduceMul, Nat.reduceSub, Int.reduceEq, Int.reduceLT, Int.reduceLE, Int.reduceNe, Nat.reduceBneDiff, Nat.reduceBEq, decide_false, gt_iff_lt, Bool.or_self, Bool.false_eq_true, Nat.mul_one, Nat.one_mul, Nat.zero_mul, ↓reduceIte, Nat.reduceEqDiff, Nat.reduceLT, Nat.reduceAdd, Nat.reduceLeDiff, reduceCtorEq, goInt, pairs, isConst, TI.isAgg, splice, boxS, Edp, dpv, Nat.beq_eq, ZV.val, List.any_cons, List.any_nil, ht]
    refine specTextR (n := p.n) w1 (fun b hb => by have := hz1 b hb; omega) (by omega) fun σ2 fp2 k2 w2 => ?_
    simp (disch := first | assumption | simp) only [↓sbD, sbU, tyB, Nat.reduceMul, Nat.reduceSub, Int.reduceEq, Int.reduceLT, Int.reduceLE, Int.reduceNe, Nat.reduceBneDiff, Nat.reduceBEq, decide_false, gt_iff_lt, Bool.or_self, Bool.false_eq_true, Nat.mul_one, Nat.one_mul, Nat.zero_mul, ↓reduceIte, Nat.reduceEqDiff, Nat.reduceLT, Nat.reduceAdd, Nat.reduceLeDiff, reduceCtorEq, goInt, pairs, isConst, TI.isAgg, splice, boxS, Edp, dpv, Nat.beq_eq, ZV.val, List.any_cons, List.any_nil]
    rw [hstep] at w2
    have hz2 := leW_step (a := ⟨6, p.n, p.s⟩) hz1
    rw [hstep] at hz2
    simp only at hz2
    exact downS_here (h _ _ (k1.trans k2) w2 fun b hb => by have := hz2 b hb; omega)
  · rw [ht] at h
    simp only [Int.reduceEq, if_false, if_true] at h
    simp (disch := first | assumption | simp) only [↓sbD, sbU, tyB, Nat.reduceMul, Nat.reduceSub, Int.reduceEq, Int.reduceLT, Int.reduceLE, Int.reduceNe, Nat.reduceBneDiff, Nat.reduceBEq, decide_false, gt_iff_lt, Bool.or_self, Bool.false_eq_true, Nat.mul_one, Nat.one_mul, Nat.zero_mul, ↓reduceIte, Nat.reduceEqDiff, Nat.reduceLT, Nat.reduceAdd, Nat.reduceLeDiff, reduceCtorEq, goInt, pairs, isConst, TI.isAgg, splice, boxS, Edp, dpv, Nat.beq_eq, ZV.val, List.any_cons, List.any_nil, ht]
    refine specBinR (n := p.n) w1 (fun b hb => by have := hz1 b hb; omega) (by omega) fun σ2 fp2 k2 w2 => ?_
    simp (disch := first | assumption | simp) only [↓sbD, sbU, tyB, Nat.reduceMul, Nat.reduceSub, Int.reduceEq, Int.reduceLT, Int.reduceLE, Int.reduceNe, Nat.reduceBneDiff, Nat.reduceBEq, decide_false, gt_iff_lt, Bool.or_self, Bool.false_eq_true, Nat.mul_one, Nat.one_mul, Nat.zero_mul, ↓reduceIte, Nat.reduceEqDiff, Nat.reduceLT, Nat.reduceAdd, Nat.reduceLeDiff, reduceCtorEq, goInt, pairs, isConst, TI.isAgg, splice, boxS, Edp, dpv, Nat.beq_eq, ZV.val, List.any_cons, List.any_nil]
    rw [hstep] at w2
    have hz2 := leW_step (a := ⟨7, p.n, p.s⟩) hz1
    rw [hstep] at hz2
    simp only at hz2
    exact downS_here (h _ _ (k1.trans k2) w2 fun b hb => by have := hz2 b hb; omega)
  · rw [ht] at h
    simp only [Int.reduceEq, if_false, if_true] at h
    simp (disch := first | assumption | simp) only [↓sbD, sbU, tyB, Nat.reduceMul, Nat.reduceSub, Int.reduceEq, Int.reduceLT, Int.reduceLE, Int.reduceNe, Nat.reduceBneDiff, Nat.reduceBEq, decide_false, gt_iff_lt, Bool.or_self, Bool.false_eq_true, Nat.mul_one, Nat.one_mul, Nat.zero_mul, ↓reduceIte, Nat.reduceEqDiff, Nat.reduceLT, Nat.reduceAdd, Nat.reduceLeDiff, reduceCtorEq, goInt, pairs, isConst, TI.isAgg, splice, boxS, Edp, dpv, Nat.beq_eq, ZV.val, List.any_cons, List.any_nil, ht]
    refine specTextR (n := 0) w1 (fun b hb => by have := hz1 b hb; omega) (by omega) fun σ2 fp2 k2 w2 => ?_
    rw [hstep] at w2
    have hz2 := leW_step (a := ⟨6, 0, p.s⟩) hz1
    rw [hstep] at hz2
    simp only at hz2
    simp (disch := first | assumption | simp) only [↓sbD, sbU, tyB, Nat.reduceMul, Nat.reduceSub, Int.reduceEq, Int.reduceLT, Int.reduceLE, Int.reduceNe, Nat.reduceBneDiff, Nat.reduceBEq, decide_false, gt_iff_lt, Bool.or_self, Bool.false_eq_true, Nat.mul_one, Nat.one_mul, Nat.zero_mul, ↓reduceIte, Nat.reduceEqDiff, Nat.reduceLT, Nat.reduceAdd, Nat.reduceLeDiff, reduceCtorEq, goInt, pairs, isConst, TI.isAgg, splice, boxS, Edp, dpv, Nat.beq_eq, ZV.val, List.any_cons, List.any_nil]
    refine specTextR (n := 0) w2 (fun b hb => by have := hz2 b hb; omega) (by omega) fun σ3 fp3 k3 w3 => ?_
    have hz3 := leW_step (a := ⟨6, 0, p.v⟩) hz2
    rw [stepW_app] at w3 hz3
    simp only [List.cons_append, List.nil_append] at w3 hz3
    simp (disch := first | assumption | simp) only [↓sbD, sbU, tyB, Nat.reduceMul, Nat.reduceSub, Int.reduceEq, Int.reduceLT, Int.reduceLE, Int.reduceNe, Nat.reduceBneDiff, Nat.reduceBEq, decide_false, gt_iff_lt, Bool.or_self, Bool.false_eq_true, Nat.mul_one, Nat.one_mul, Nat.zero_mul, ↓reduceIte, Nat.reduceEqDiff, Nat.reduceLT, Nat.reduceAdd, Nat.reduceLeDiff, reduceCtorEq, goInt, pairs, isConst, TI.isAgg, splice, boxS, Edp, dpv, Nat.beq_eq, ZV.val, List.any_cons, List.any_nil]
    exact downS_here (h _ _ (k1.trans (k2.trans k3)) w3 fun b hb => by have := hz3 b hb; omega)
def smallP (l : List Pr) : Prop := l.length ≤ 100 ∧ ∀ p ∈ l, p.s.size ≤ 3000 ∧ p.v.size ≤ 3000
theorem specPEncode {pl : Int} {v : Value} {l : List Pr} (hl : DL propC 4 v l) (hs : smallP l) (hok : ∀ c, encP pl l = .ok c → c.size ≤ 700000 → Q (.tuple #[.string c, .nilIface]) σ) (hbad : ∀ (k r a d : Nat) z, encP pl l = .error (k, r, a) → d ≤ 2 → ErN d (fv r a z) k → Q (.tuple #[.string emp, fv r a z]) σ) :
    CallS E B 46 [.int .i64 pl, v] σ Q := by
  have hlen := DLp.len hl
  obtain ⟨hs1, hs2⟩ := hs
  unfold encP at hok hbad
  refine call46 (by simp) ?_
  simp only [strip, bodyOf, Tryd.f46, getD_body, keepN, bareOp_mk, lessOp_mk, lapp_cons, lapp_nil, List.map_cons, List.map_nil, array_toList, ↓reduceIte, Nat.reduceEqDiff, Bool.false_eq_true]
  simp (disch := first | assumption | simp) only [↓sbD, sbU, tyB, Nat.reduceMul, Nat.reduceSub, Int.reduceEq, Int.reduceLT, Int.reduceLE, Int.reduceNe, Nat.reduceBneDiff, Nat.reduceBEq, decide_false, gt_iff_lt, Bool.or_self, Bool.false_eq_true, Nat.mul_one, Nat.one_mul, Nat.zero_mul, ↓reduceIte, Nat.reduceEqDiff, Nat.reduceLT, Nat.reduceAdd, Nat.reduceLeDiff, reduceCtorEq, goInt, pairs, isConst, TI.isAgg, splice, boxS, Edp, dpv, Nat.beq_eq, ZV.val, List.any_cons, List.any_nil]
  refine specPCheck hl (by omega) (fun hc => ?_) fun k r a hc hk => ?_
  rotate_left
  · rw [hc] at hbad
    simp (disch := first | assumption | simp) only [↓sbD, sbU, tyB, Nat.reduceMul, Nat.reduceSub, Int.reduceEq, Int.reduceLT, Int.reduceLE, Int.reduceNe, Nat.reduceBneDiff, Nat.reduceBEq, decide_false, gt_iff_lt, Bool.or_self, Bool.false_eq_true, Nat.mul_one, Nat.one_mul, Nat.zero_mul, ↓reduceIte, Nat.reduceEqDiff, Nat.reduceLT, Nat.reduceAdd, Nat.reduceLeDiff, reduceCtorEq, goInt, pairs, isConst, TI.isAgg, splice, boxS, Edp, dpv, Nat.beq_eq, ZV.val, List.any_cons, List.any_nil]
    exact downS_here (hbad k r a 1 _ rfl (by omega) (ErN.new _ _ hk))
  rw [hc] at hok hbad
  simp (disch := first | assumption | simp) only [↓sbD, sbU, tyB, Nat.reduceMul, Nat.reduceSub, Int.reduceEq, Int.reduceLT, Int.reduceLE, Int.reduceNe, Nat.reduceBneDiff, Nat.reduceBEq, decide_false, gt_iff_lt, Bool.or_self, Bool.false_eq_true, Nat.mul_one, Nat.one_mul, Nat.zero_mul, ↓reduceIte, Nat.reduceEqDiff, Nat.reduceLT, Nat.reduceAdd, Nat.reduceLeDiff, reduceCtorEq, goInt, pairs, isConst, TI.isAgg, splice, boxS, Edp, dpv, Nat.beq_eq, ZV.val, List.any_cons, List.any_nil, AS_new, dpW, hlen]
  intro w hw
  generalize hσ1 : AHeap.set σ w _ = σ1
  have gw : σ1.get w = .cells [.slice none 0 0, .nilIface] true 0 := by rw [← hσ1]; exact AHeap.get_set_same _ _ _
  have k1 : Kept σ [] σ1 [w] := by rw [← hσ1]; exact Kept.new' hw
  have hI : WRun σ1 w (runW emp []) [w] := ⟨_, [], gw, .inl ⟨rfl, rfl, rfl⟩, rfl, by simp⟩
  clear gw hσ1
  refine S_loop (fun m f σ' => ∃ (i : Nat) (fp : List Nat), m + i = l.length ∧ f 23 = .int .i64 i ∧ WRun σ' w (runW emp ((l.take i).flatMap actsP)) fp ∧ leW (runW emp ((l.take i).flatMap actsP)) (6012 * i) ∧ Kept σ [] σ' fp) l.length (Le.refl _) ⟨0, [w], rfl, by simp (disch := first | assumption | simp) only [↓sbD, sbU, tyB, Nat.reduceMul, Nat.reduceSub, Int.reduceEq, Int.reduceLT, Int.reduceLE, Int.reduceNe, Nat.reduceBneDiff, Nat.reduceBEq, decide_false, gt_iff_lt, Bool.or_self, Bool.false_eq_true, Nat.mul_one, Nat.one_mul, Nat.zero_mul, ↓reduceIte, Nat.reduceEqDiff, Nat.reduceLT, Nat.reduceAdd, Nat.reduceLeDiff, reduceCtorEq, goInt, pairs, isConst, TI.isAgg, splice, boxS, Edp, dpv, Nat.beq_eq, ZV.val, List.any_cons, List.any_nil]; rfl, hI, fun b hb => by injection hb with hb; subst hb; show emp.size ≤ _; exact Nat.zero_le _, k1⟩ ?_
  clear hI k1
  rintro m f σ2 ⟨i, fp, hm, f23, hI, hz, hk⟩ hf
  have f0 := hf 0 (by decide) (notMem_wr (by kernel_rfl))
  have f1 := hf 1 (by decide) (notMem_wr (by kernel_rfl))
  have f7 := hf 7 (by decide) (notMem_wr (by kernel_rfl))
  have f21 := hf 21 (by decide) (notMem_wr (by kernel_rfl))
  have f22 := hf 22 (by decide) (notMem_wr (by kernel_rfl))
  simp (disch := first | assumption | simp) only [↓sbD, sbU, tyB, Nat.reduceMul, Nat.reduceSub, Int.reduceEq, Int.reduceLT, Int.reduceLE, Int.reduceNe, Nat.reduceBneDiff, Nat.reduceBEq, decide_false, gt_iff_lt, Bool.or_self, Bool.false_eq_true, Nat.mul_one, Nat.one_mul, Nat.zero_mul, ↓reduceIte, Nat.reduceEqDiff, Nat.reduceLT, Nat.reduceAdd, Nat.reduceLeDiff, reduceCtorEq, goInt, pairs, isConst, TI.isAgg, splice, boxS, Edp, dpv, Nat.beq_eq, ZV.val, List.any_cons, List.any_nil] at f0 f1 f7 f21 f22
  clear hf
  by_cases hi : (i : Int) < (l.length : Int)
  · have hi' : i < l.length := by omega
    have hia := DLp.at hl hi'
    have hsz := hs2 _ (List.getElem_mem hi')
    have hwi := wrap_suc (n := i) (by omega)
    have htk : l.take (i + 1) = l.take i ++ [l[i]] := List.take_succ_eq_append_getElem hi'
    generalize l[i] = y at hia hsz htk
    have hac : propC y = [.int .i64 y.id, .int .i64 y.n, .string y.s, .string y.v] := rfl
    have hst : runW emp ((l.take (i + 1)).flatMap actsP) = stepW (runW emp ((l.take i).flatMap actsP)) (actsP y) := by
      rw [htk, List.flatMap_append, runW_app]
      simp only [List.flatMap_cons, List.flatMap_nil, List.append_nil]
      cases runW emp ((l.take i).flatMap actsP) <;> rfl
    simp (disch := first | assumption | simp) only [↓sbD, sbU, tyB, Nat.reduceMul, Nat.reduceSub, Int.reduceEq, Int.reduceLT, Int.reduceLE, Int.reduceNe, Nat.reduceBneDiff, Nat.reduceBEq, decide_false, gt_iff_lt, Bool.or_self, Bool.false_eq_true, Nat.mul_one, Nat.one_mul, Nat.zero_mul, ↓reduceIte, Nat.reduceEqDiff, Nat.reduceLT, Nat.reduceAdd, Nat.reduceLeDiff, reduceCtorEq, goInt, pairs, isConst, TI.isAgg, splice, boxS, Edp, dpv, Nat.beq_eq, ZV.val, List.any_cons, List.any_nil, f0, f1, f7, f21, f22, f23, hi, hia, hac, AS_new, zePr]
    intro b hb
    have kb : Kept σ2 [] _ [] := Kept.tmp (o := .cells [.int .i64 0, .int .i64 0, .string ⟨#[]⟩, .string ⟨#[]⟩] true 0) (o' := .cells [.int .i64 y.id, .int .i64 y.n, .string y.s, .string y.v] true 0) hb
    rw [propC_ag]
    refine specPWrite (p := y) (WRun.kept hI kb (fun _ _ h => by cases h)) hz (by omega) (by omega) (by omega) fun σ3 fp3 k3 w3 z3 => ?_
    simp (disch := first | assumption | simp) only [↓sbD, sbU, tyB, Nat.reduceMul, Nat.reduceSub, Int.reduceEq, Int.reduceLT, Int.reduceLE, Int.reduceNe, Nat.reduceBneDiff, Nat.reduceBEq, decide_false, gt_iff_lt, Bool.or_self, Bool.false_eq_true, Nat.mul_one, Nat.one_mul, Nat.zero_mul, ↓reduceIte, Nat.reduceEqDiff, Nat.reduceLT, Nat.reduceAdd, Nat.reduceLeDiff, reduceCtorEq, goInt, pairs, isConst, TI.isAgg, splice, boxS, Edp, dpv, Nat.beq_eq, ZV.val, List.any_cons, List.any_nil, f23, hwi]
    refine ⟨_, m - 1, σ3, rfl, by omega, Le.refl _, i + 1, fp3, by omega, ?_, by rw [hst]; exact w3, ?_, ?_⟩
    · simp (disch := first | assumption | simp) only [↓sbD, sbU, tyB, Nat.reduceMul, Nat.reduceSub, Int.reduceEq, Int.reduceLT, Int.reduceLE, Int.reduceNe, Nat.reduceBneDiff, Nat.reduceBEq, decide_false, gt_iff_lt, Bool.or_self, Bool.false_eq_true, Nat.mul_one, Nat.one_mul, Nat.zero_mul, ↓reduceIte, Nat.reduceEqDiff, Nat.reduceLT, Nat.reduceAdd, Nat.reduceLeDiff, reduceCtorEq, goInt, pairs, isConst, TI.isAgg, splice, boxS, Edp, dpv, Nat.beq_eq, ZV.val, List.any_cons, List.any_nil]
    · intro b hb; rw [hst] at hb; have := z3 b hb; omega
    · exact hk.trans ((kb.wid (gp := fp) (gp' := fp) (fun _ h => by cases h) (fun _ h => .inr h)).trans k3)
  · obtain rfl : i = l.length := by omega
    rw [List.take_length] at hI hz
    simp (disch := first | assumption | simp) only [↓sbD, sbU, tyB, Nat.reduceMul, Nat.reduceSub, Int.reduceEq, Int.reduceLT, Int.reduceLE, Int.reduceNe, Nat.reduceBneDiff, Nat.reduceBEq, decide_false, gt_iff_lt, Bool.or_self, Bool.false_eq_true, Nat.mul_one, Nat.one_mul, Nat.zero_mul, ↓reduceIte, Nat.reduceEqDiff, Nat.reduceLT, Nat.reduceAdd, Nat.reduceLeDiff, reduceCtorEq, goInt, pairs, isConst, TI.isAgg, splice, boxS, Edp, dpv, Nat.beq_eq, ZV.val, List.any_cons, List.any_nil, f0, f1, f7, f21, f22, f23, hi]
    refine specBytesR hI (fun b hb => ?_) fun k q d z hr hd he => ?_
    · rw [hb] at hok hbad
      have hbz := hz b hb
      simp (disch := first | assumption | simp) only [↓sbD, sbU, tyB, Nat.reduceMul, Nat.reduceSub, Int.reduceEq, Int.reduceLT, Int.reduceLE, Int.reduceNe, Nat.reduceBneDiff, Nat.reduceBEq, decide_false, gt_iff_lt, Bool.or_self, Bool.false_eq_true, Nat.mul_one, Nat.one_mul, Nat.zero_mul, ↓reduceIte, Nat.reduceEqDiff, Nat.reduceLT, Nat.reduceAdd, Nat.reduceLeDiff, reduceCtorEq, goInt, pairs, isConst, TI.isAgg, splice, boxS, Edp, dpv, Nat.beq_eq, ZV.val, List.any_cons, List.any_nil, AS_new, dpW]
      intro x hx
      generalize hσ3 : AHeap.set σ2 x _ = σ3
      have gx : σ3.get x = .cells [.slice none 0 0, .nilIface] true 0 := by rw [← hσ3]; exact AHeap.get_set_same _ _ _
      have k3 : Kept σ2 [] σ3 [x] := by rw [← hσ3]; exact Kept.new' hx
      have wx : WRun σ3 x (.inl emp) [x] := ⟨_, [], gx, .inl ⟨rfl, rfl, rfl⟩, rfl, by simp⟩
      refine specVarR (s := emp) wx (fun b hb => by injection hb with hb; subst hb; show emp.size ≤ _; exact Nat.zero_le _) fun σ4 fp4 k4 w4 => ?_
      have hv : stepW (.inl emp) [⟨5, (b.size : Int), emp⟩] = .inl (str (enc b.size)) := by
        simp only [stepW, runW, actW, varW]
        rw [if_neg (by decide), if_neg (by decide), if_neg (by decide), if_pos trivial, if_neg (by omega)]
        simp only [Int.toNat_natCast]
        rw [emp_app']
      rw [hv] at w4
      have es : (str (enc b.size)).size ≤ 4 := by rw [str_size, enc_len]; exact (vsize_pos _).2
      simp (disch := first | assumption | simp) only [↓sbD, sbU, tyB, Nat.reduceMul, Nat.reduceSub, Int.reduceEq, Int.reduceLT, Int.reduceLE, Int.reduceNe, Nat.reduceBneDiff, Nat.reduceBEq, decide_false, gt_iff_lt, Bool.or_self, Bool.false_eq_true, Nat.mul_one, Nat.one_mul, Nat.zero_mul, ↓reduceIte, Nat.reduceEqDiff, Nat.reduceLT, Nat.reduceAdd, Nat.reduceLeDiff, reduceCtorEq, goInt, pairs, isConst, TI.isAgg, splice, boxS, Edp, dpv, Nat.beq_eq, ZV.val, List.any_cons, List.any_nil]
      refine specRawR (n := 0) w4 (fun c hc => by injection hc with hc; subst hc; omega) (by omega) fun σ5 fp5 k5 w5 => ?_
      have hv2 : stepW (.inl (str (enc b.size))) [⟨8, 0, b⟩] = .inl (str (enc b.size) ++ b) := by
        simp only [stepW, runW, actW]
        rw [if_neg (by decide), if_neg (by decide), if_neg (by decide), if_neg (by decide), if_neg (by decide), if_neg (by decide), if_pos trivial]
      rw [hv2] at w5
      simp (disch := first | assumption | simp) only [↓sbD, sbU, tyB, Nat.reduceMul, Nat.reduceSub, Int.reduceEq, Int.reduceLT, Int.reduceLE, Int.reduceNe, Nat.reduceBneDiff, Nat.reduceBEq, decide_false, gt_iff_lt, Bool.or_self, Bool.false_eq_true, Nat.mul_one, Nat.one_mul, Nat.zero_mul, ↓reduceIte, Nat.reduceEqDiff, Nat.reduceLT, Nat.reduceAdd, Nat.reduceLeDiff, reduceCtorEq, goInt, pairs, isConst, TI.isAgg, splice, boxS, Edp, dpv, Nat.beq_eq, ZV.val, List.any_cons, List.any_nil]
      refine specBytesR w5 (fun c hc => ?_) fun k q d z hr hd he => by cases hr
      injection hc with hc
      subst hc
      simp (disch := first | assumption | simp) only [↓sbD, sbU, tyB, Nat.reduceMul, Nat.reduceSub, Int.reduceEq, Int.reduceLT, Int.reduceLE, Int.reduceNe, Nat.reduceBneDiff, Nat.reduceBEq, decide_false, gt_iff_lt, Bool.or_self, Bool.false_eq_true, Nat.mul_one, Nat.one_mul, Nat.zero_mul, ↓reduceIte, Nat.reduceEqDiff, Nat.reduceLT, Nat.reduceAdd, Nat.reduceLeDiff, reduceCtorEq, goInt, pairs, isConst, TI.isAgg, splice, boxS, Edp, dpv, Nat.beq_eq, ZV.val, List.any_cons, List.any_nil]
      have kk : Kept σ [] σ5 [] := (hk.wid (gp := []) (gp' := []) (fun _ h => by cases h) (fun _ h => by cases h)).trans ((k3.trans (k4.trans k5)).wid (gp := []) (gp' := []) (fun _ h => by cases h) (fun _ h => by cases h))
      exact downS_le (Kept.le kk) (hok _ rfl (by rw [size_app]; omega))
    · rw [hr] at hbad
      simp (disch := first | assumption | simp) only [↓sbD, sbU, tyB, Nat.reduceMul, Nat.reduceSub, Int.reduceEq, Int.reduceLT, Int.reduceLE, Int.reduceNe, Nat.reduceBneDiff, Nat.reduceBEq, decide_false, gt_iff_lt, Bool.or_self, Bool.false_eq_true, Nat.mul_one, Nat.one_mul, Nat.zero_mul, ↓reduceIte, Nat.reduceEqDiff, Nat.reduceLT, Nat.reduceAdd, Nat.reduceLeDiff, reduceCtorEq, goInt, pairs, isConst, TI.isAgg, splice, boxS, Edp, dpv, Nat.beq_eq, ZV.val, List.any_cons, List.any_nil]
      have kk : Kept σ [] σ2 [] := hk.wid (gp := []) (gp' := []) (fun _ h => by cases h) (fun _ h => by cases h)
      exact downS_le (Kept.le kk) (hbad k 129 q d z rfl hd he)
end
end Go.Proofs.YtccimdfmddomaaaDoor.AbsA
namespace Go.Proofs.YtccimdfmddomaaaDoor.AbsA
open Go AbsYtccimdfmddomaaaDoor Abs
set_option maxRecDepth 100000
set_option maxHeartbeats 2000000
set_option linter.unusedSimpArgs false
set_option linter.unusedVariables false
attribute [local irreducible] afterS afterOpS opSK OpsS TrS CodeS condS condW thenS thenQ guardS guardTS outS drawS trSK consS
theorem Kept.setD {σ σ' : AHeap} {fp fp' : List Nat} {c : Nat} {o : AObj} (k : Kept σ fp σ' fp') (hc : σ.get c = .dead) : Kept σ fp (σ'.set c o) fp' :=
  ⟨fun b hb hn => by rw [AHeap.get_set_ne _ _ (by rintro rfl; exact hb hc)]; exact k.get b hb hn, k.new⟩
theorem Kept.fst {σ σ' : AHeap} {fp : List Nat} {r : Nat} (k : Kept σ [] σ' fp) : Kept σ [r] σ' [r] := ⟨fun b hb hn => k.get b hb (by simp), fun _ h => .inl h⟩
theorem numR_le {s : ByteArray} {p k n q : Nat} (h : numR s p k = .ok (n, q)) : p ≤ q ∧ q ≤ s.size := by
  have := numR_ok h; omega
theorem varR_le {s : ByteArray} {p n q : Nat} (hp : p ≤ s.size) (h : varR s p = .ok (n, q)) : p < q ∧ q ≤ s.size ∧ n < 268435456 := by
  unfold varR at h
  have h1 := takeF_k (s.extract p s.size) 4 0 0 (by omega)
  have h2 := takeF_pos (s.extract p s.size) 4 0 0
  cases ht : takeF (s.extract p s.size) 4 0 0 with
  | inl a =>
    obtain ⟨m, j⟩ := a
    rw [ht] at h h1 h2
    have h1 : j ≤ (s.extract p s.size).size := h1
    have h2 : 0 < j := h2
    have h3 := takeF_n ht
    rw [ByteArray.size_extract] at h1
    simp only [Except.ok.injEq, Prod.mk.injEq] at h
    omega
  | inr e => obtain ⟨k, q'⟩ := e; rw [ht] at h; cases h
theorem textR_ok {s v : ByteArray} {p q : Nat} (h : textR s p = .ok (v, q)) : p ≤ q ∧ q ≤ s.size := by
  unfold textR at h
  cases hb : binR s p with
  | error e => rw [hb] at h; cases h
  | ok a =>
    obtain ⟨b, q'⟩ := a
    rw [hb] at h
    have := binR_ok hb
    simp only at h
    split at h
    · simp only [Except.ok.injEq, Prod.mk.injEq] at h; omega
    · cases h
section
variable {σ : AHeap} {Q : Value → AHeap → Prop} {r : Nat} {s : ByteArray} {p : Nat}
theorem valueR_le {id : Int} {x : Pr} {q : Nat} (hp : p ≤ s.size) (h : valueR id s p = .ok (x, q)) : p ≤ q ∧ q ≤ s.size := by
  unfold valueR at h
  split at h
  · cases h1 : textR s p with
    | error e => rw [h1] at h; cases h
    | ok a =>
      obtain ⟨a, q1⟩ := a
      rw [h1] at h
      simp only at h
      cases h2 : textR s q1 with
      | error e => rw [h2] at h; cases h
      | ok b =>
        obtain ⟨b, q2⟩ := b
        rw [h2] at h
        have := textR_ok h1
        have := textR_ok h2
        simp only [Except.ok.injEq, Prod.mk.injEq] at h
        omega
  · have key : ∀ n a q, rdA (typI id) s p = .ok ((n, a), q) → p ≤ q ∧ q ≤ s.size := by
      intro n a q h
      unfold rdA at h
      have mN : ∀ r : Rd Nat, mapN r = .ok ((n, a), q) → ∃ m, r = .ok (m, q) := by
        intro r hr
        unfold mapN at hr
        split at hr
        · rename_i m q'; simp only [Except.ok.injEq, Prod.mk.injEq] at hr; exact ⟨m, by rw [hr.2]⟩
        · cases hr
      have mS : ∀ r : Rd ByteArray, mapS r = .ok ((n, a), q) → ∃ m, r = .ok (m, q) := by
        intro r hr
        unfold mapS at hr
        split at hr
        · rename_i m q'; simp only [Except.ok.injEq, Prod.mk.injEq] at hr; exact ⟨m, by rw [hr.2]⟩
        · cases hr
      split at h
      · obtain ⟨m, h⟩ := mN _ h; exact numR_le h
      split at h
      · obtain ⟨m, h⟩ := mN _ h; exact numR_le h
      split at h
      · obtain ⟨m, h⟩ := mN _ h; exact numR_le h
      split at h
      · obtain ⟨m, h⟩ := mN _ h; have := varR_le hp h; omega
      split at h
      · obtain ⟨m, h⟩ := mS _ h; exact textR_ok h
      · obtain ⟨m, h⟩ := mS _ h; have := binR_ok h; omega
    cases h1 : rdA (typI id) s p with
    | error e => rw [h1] at h; cases h
    | ok a =>
      obtain ⟨⟨n, a⟩, q1⟩ := a
      rw [h1] at h
      simp only [Except.ok.injEq, Prod.mk.injEq] at h
      have := key _ _ _ h1
      omega
theorem specPValue {id : Int} (ht0 : typI id ≠ 0) (hr : IsR σ r s p .nilIface) (hp : p ≤ s.size) (hs : s.size ≤ 100000000)
    (hok : ∀ x q, valueR id s p = .ok (x, q) → ∀ σ', Kept σ [r] σ' [r] → IsR σ' r s q .nilIface → Q (.agg ⟨propC x⟩) σ')
    (hbad : ∀ k q, valueR id s p = .error (k, q) → ∀ σ' p' y, Kept σ [r] σ' [r] → RBad σ' r s p' k q → Q (.agg ⟨propC y⟩) σ') :
    CallS E B 137 [.pointer (some ⟨r, 0, none⟩), .int .i64 id] σ Q := by
  unfold valueR at hok hbad
  refine call137 (by simp) ?_
  simp only [strip, bodyOf, Tryd.f137, getD_body, keepN, bareOp_mk, lessOp_mk, lapp_cons, lapp_nil, List.map_cons, List.map_nil, array_toList, ↓reduceIte, Nat.reduceEqDiff, Bool.false_eq_true]
  simp (disch := first | assumption | simp) only [↓sbD, sbU, tyB, Nat.reduceMul, Nat.reduceSub, Int.reduceEq, Int.reduceLT, Int.reduceLE, Int.reduceNe, Nat.reduceBneDiff, Nat.reduceBEq, decide_false, gt_iff_lt, Bool.or_self, Bool.false_eq_true, Nat.mul_one, Nat.one_mul, Nat.zero_mul, ↓reduceIte, Nat.reduceEqDiff, Nat.reduceLT, Nat.reduceAdd, Nat.reduceLeDiff, reduceCtorEq, goInt, pairs, isConst, TI.isAgg, splice, boxS, Edp, dpv, Nat.beq_eq, ZV.val, List.any_cons, List.any_nil, AS_new, zePr]
  intro c hc d hd
  have hcr : c ≠ r := by rintro rfl; rw [hr] at hc; cases hc
  have hdc : d ≠ c := by rintro rfl; rw [AHeap.get_set_same] at hd; cases hd
  have hd0 : σ.get d = .dead := by rw [AHeap.get_set_ne _ _ hdc.symm] at hd; exact hd
  have hdr : d ≠ r := by rintro rfl; rw [hr] at hd0; cases hd0
  generalize hσ1 : AHeap.set (AHeap.set (AHeap.set σ c _) d _) d _ = σ1
  have k1 : Kept σ [r] σ1 [r] := by rw [← hσ1]; exact (((Kept.refl σ [r]).setD hc).setD hd0).setD hd0
  have g1 : σ1.get d = .cells [.int .i64 id, .int .i64 0, .string ⟨#[]⟩, .string ⟨#[]⟩] true 0 := by rw [← hσ1]; exact AHeap.get_set_same _ _ _
  have gc1 : σ1.get c = .cells [.int .i64 0, .int .i64 0, .string ⟨#[]⟩, .string ⟨#[]⟩] true 0 := by rw [← hσ1, AHeap.get_set_ne _ _ hdc, AHeap.get_set_ne _ _ hdc]; exact AHeap.get_set_same _ _ _
  have i1 : IsR σ1 r s p .nilIface := by rw [← hσ1]; unfold IsR; rw [AHeap.get_set_ne _ _ hdr, AHeap.get_set_ne _ _ hdr, AHeap.get_set_ne _ _ hcr]; exact hr
  clear hσ1 hd
  have dc : ∀ (τ : AHeap) o, (AHeap.set τ d o).get c = τ.get c := fun τ o => AHeap.get_set_ne _ _ hdc
  have xr : ∀ (τ : AHeap) o o', (AHeap.set (AHeap.set τ d o) c o').get r = τ.get r := fun τ o o' => by rw [AHeap.get_set_ne _ _ hcr, AHeap.get_set_ne _ _ hdr]
  refine specType ?_
  rcases typ_cases id with ht | ht | ht | ht | ht | ht | ht | ht
  · exact absurd ht ht0
  · rw [ht, if_neg (by decide)] at hok hbad
    simp only [rdA, Int.reduceEq, if_true, if_false] at hok hbad
    simp (disch := first | assumption | simp) only [↓sbD, sbU, tyB, Nat.reduceMul, Nat.reduceSub, Int.reduceEq, Int.reduceLT, Int.reduceLE, Int.reduceNe, Nat.reduceBneDiff, Nat.reduceBEq, decide_false, gt_iff_lt, Bool.or_self, Bool.false_eq_true, Nat.mul_one, Nat.one_mul, Nat.zero_mul, ↓reduceIte, Nat.reduceEqDiff, Nat.reduceLT, Nat.reduceAdd, Nat.reduceLeDiff, reduceCtorEq, goInt, pairs, isConst, TI.isAgg, splice, boxS, Edp, dpv, Nat.beq_eq, ZV.val, List.any_cons, List.any_nil, ht]
    refine specRU8 i1 hp (by omega) (fun n q hn σ2 k2 i2 => ?_) fun k q hn σ2 k2 i2 => ?_
    · have g2 := (k2.at g1 (by simp) (by simpa using hdr)).1
      have gc2 := (k2.at gc1 (by simp) (by simpa using hcr)).1
      simp (disch := first | assumption | simp) only [↓sbD, sbU, tyB, Nat.reduceMul, Nat.reduceSub, Int.reduceEq, Int.reduceLT, Int.reduceLE, Int.reduceNe, Nat.reduceBneDiff, Nat.reduceBEq, decide_false, gt_iff_lt, Bool.or_self, Bool.false_eq_true, Nat.mul_one, Nat.one_mul, Nat.zero_mul, ↓reduceIte, Nat.reduceEqDiff, Nat.reduceLT, Nat.reduceAdd, Nat.reduceLeDiff, reduceCtorEq, goInt, pairs, isConst, TI.isAgg, splice, boxS, Edp, dpv, Nat.beq_eq, ZV.val, List.any_cons, List.any_nil, g2, gc2, dc]
      have kk := (k1.trans k2).setD (o := .cells [.int .i64 id, .int .i64 (n : Int), .string ⟨#[]⟩, .string ⟨#[]⟩] true 0) hd0
      have kk2 := kk.setD (o := .cells [.int .i64 id, .int .i64 (n : Int), .string ⟨#[]⟩, .string ⟨#[]⟩] true 0) hc
      exact downS_here (hok ⟨id, n, emp, emp⟩ q (by rw [hn]; rfl) _ kk2 (by unfold IsR; rw [xr]; exact i2))
    · obtain ⟨e, z, he1, he2, i3⟩ := i2
      have g2 := (k2.at g1 (by simp) (by simpa using hdr)).1
      have gc2 := (k2.at gc1 (by simp) (by simpa using hcr)).1
      simp (disch := first | assumption | simp) only [↓sbD, sbU, tyB, Nat.reduceMul, Nat.reduceSub, Int.reduceEq, Int.reduceLT, Int.reduceLE, Int.reduceNe, Nat.reduceBneDiff, Nat.reduceBEq, decide_false, gt_iff_lt, Bool.or_self, Bool.false_eq_true, Nat.mul_one, Nat.one_mul, Nat.zero_mul, ↓reduceIte, Nat.reduceEqDiff, Nat.reduceLT, Nat.reduceAdd, Nat.reduceLeDiff, reduceCtorEq, goInt, pairs, isConst, TI.isAgg, splice, boxS, Edp, dpv, Nat.beq_eq, ZV.val, List.any_cons, List.any_nil, g2, gc2, dc]
      have kk := (k1.trans k2).setD (o := .cells [.int .i64 id, .int .i64 0, .string ⟨#[]⟩, .string ⟨#[]⟩] true 0) hd0
      have kk2 := kk.setD (o := .cells [.int .i64 id, .int .i64 0, .string ⟨#[]⟩, .string ⟨#[]⟩] true 0) hc
      exact downS_here (hbad k q (by rw [hn]; rfl) _ p ⟨id, 0, emp, emp⟩ kk2 ⟨e, z, he1, he2, by unfold IsR; rw [xr]; exact i3⟩)
  · rw [ht, if_neg (by decide)] at hok hbad
    simp only [rdA, Int.reduceEq, if_true, if_false] at hok hbad
    simp (disch := first | assumption | simp) only [↓sbD, sbU, tyB, Nat.reduceMul, Nat.reduceSub, Int.reduceEq, Int.reduceLT, Int.reduceLE, Int.reduceNe, Nat.reduceBneDiff, Nat.reduceBEq, decide_false, gt_iff_lt, Bool.or_self, Bool.false_eq_true, Nat.mul_one, Nat.one_mul, Nat.zero_mul, ↓reduceIte, Nat.reduceEqDiff, Nat.reduceLT, Nat.reduceAdd, Nat.reduceLeDiff, reduceCtorEq, goInt, pairs, isConst, TI.isAgg, splice, boxS, Edp, dpv, Nat.beq_eq, ZV.val, List.any_cons, List.any_nil, ht]
    refine specRU16 i1 hp (by omega) (fun n q hn σ2 k2 i2 => ?_) fun k q hn σ2 k2 i2 => ?_
    · have g2 := (k2.at g1 (by simp) (by simpa using hdr)).1
      have gc2 := (k2.at gc1 (by simp) (by simpa using hcr)).1
      simp (disch := first | assumption | simp) only [↓sbD, sbU, tyB, Nat.reduceMul, Nat.reduceSub, Int.reduceEq, Int.reduceLT, Int.reduceLE, Int.reduceNe, Nat.reduceBneDiff, Nat.reduceBEq, decide_false, gt_iff_lt, Bool.or_self, Bool.false_eq_true, Nat.mul_one, Nat.one_mul, Nat.zero_mul, ↓reduceIte, Nat.reduceEqDiff, Nat.reduceLT, Nat.reduceAdd, Nat.reduceLeDiff, reduceCtorEq, goInt, pairs, isConst, TI.isAgg, splice, boxS, Edp, dpv, Nat.beq_eq, ZV.val, List.any_cons, List.any_nil, g2, gc2, dc]
      have kk := (k1.trans k2).setD (o := .cells [.int .i64 id, .int .i64 (n : Int), .string ⟨#[]⟩, .string ⟨#[]⟩] true 0) hd0
      have kk2 := kk.setD (o := .cells [.int .i64 id, .int .i64 (n : Int), .string ⟨#[]⟩, .string ⟨#[]⟩] true 0) hc
      exact downS_here (hok ⟨id, n, emp, emp⟩ q (by rw [hn]; rfl) _ kk2 (by unfold IsR; rw [xr]; exact i2))
    · obtain ⟨e, z, he1, he2, i3⟩ := i2
      have g2 := (k2.at g1 (by simp) (by simpa using hdr)).1
      have gc2 := (k2.at gc1 (by simp) (by simpa using hcr)).1
      simp (disch := first | assumption | simp) only [↓sbD, sbU, tyB, Nat.reduceMul, Nat.reduceSub, Int.reduceEq, Int.reduceLT, Int.reduceLE, Int.reduceNe, Nat.reduceBneDiff, Nat.reduceBEq, decide_false, gt_iff_lt, Bool.or_self, Bool.false_eq_true, Nat.mul_one, Nat.one_mul, Nat.zero_mul, ↓reduceIte, Nat.reduceEqDiff, Nat.reduceLT, Nat.reduceAdd, Nat.reduceLeDiff, reduceCtorEq, goInt, pairs, isConst, TI.isAgg, splice, boxS, Edp, dpv, Nat.beq_eq, ZV.val, List.any_cons, List.any_nil, g2, gc2, dc]
      have kk := (k1.trans k2).setD (o := .cells [.int .i64 id, .int .i64 0, .string ⟨#[]⟩, .string ⟨#[]⟩] true 0) hd0
      have kk2 := kk.setD (o := .cells [.int .i64 id, .int .i64 0, .string ⟨#[]⟩, .string ⟨#[]⟩] true 0) hc
      exact downS_here (hbad k q (by rw [hn]; rfl) _ p ⟨id, 0, emp, emp⟩ kk2 ⟨e, z, he1, he2, by unfold IsR; rw [xr]; exact i3⟩)
  · rw [ht, if_neg (by decide)] at hok hbad
    simp only [rdA, Int.reduceEq, if_true, if_false] at hok hbad
    simp (disch := first | assumption | simp) only [↓sbD, sbU, tyB, Nat.reduceMul, Nat.reduceSub, Int.reduceEq, Int.reduceLT, Int.reduceLE, Int.reduceNe, Nat.reduceBneDiff, Nat.reduceBEq, decide_false, gt_iff_lt, Bool.or_self, Bool.false_eq_true, Nat.mul_one, Nat.one_mul, Nat.zero_mul, ↓reduceIte, Nat.reduceEqDiff, Nat.reduceLT, Nat.reduceAdd, Nat.reduceLeDiff, reduceCtorEq, goInt, pairs, isConst, TI.isAgg, splice, boxS, Edp, dpv, Nat.beq_eq, ZV.val, List.any_cons, List.any_nil, ht]
    refine specRU32 i1 hp (by omega) (fun n q hn σ2 k2 i2 => ?_) fun k q hn σ2 k2 i2 => ?_
    · have g2 := (k2.at g1 (by simp) (by simpa using hdr)).1
      have gc2 := (k2.at gc1 (by simp) (by simpa using hcr)).1
      simp (disch := first | assumption | simp) only [↓sbD, sbU, tyB, Nat.reduceMul, Nat.reduceSub, Int.reduceEq, Int.reduceLT, Int.reduceLE, Int.reduceNe, Nat.reduceBneDiff, Nat.reduceBEq, decide_false, gt_iff_lt, Bool.or_self, Bool.false_eq_true, Nat.mul_one, Nat.one_mul, Nat.zero_mul, ↓reduceIte, Nat.reduceEqDiff, Nat.reduceLT, Nat.reduceAdd, Nat.reduceLeDiff, reduceCtorEq, goInt, pairs, isConst, TI.isAgg, splice, boxS, Edp, dpv, Nat.beq_eq, ZV.val, List.any_cons, List.any_nil, g2, gc2, dc]
      have kk := (k1.trans k2).setD (o := .cells [.int .i64 id, .int .i64 (n : Int), .string ⟨#[]⟩, .string ⟨#[]⟩] true 0) hd0
      have kk2 := kk.setD (o := .cells [.int .i64 id, .int .i64 (n : Int), .string ⟨#[]⟩, .string ⟨#[]⟩] true 0) hc
      exact downS_here (hok ⟨id, n, emp, emp⟩ q (by rw [hn]; rfl) _ kk2 (by unfold IsR; rw [xr]; exact i2))
    · obtain ⟨e, z, he1, he2, i3⟩ := i2
      have g2 := (k2.at g1 (by simp) (by simpa using hdr)).1
      have gc2 := (k2.at gc1 (by simp) (by simpa using hcr)).1
      simp (disch := first | assumption | simp) only [↓sbD, sbU, tyB, Nat.reduceMul, Nat.reduceSub, Int.reduceEq, Int.reduceLT, Int.reduceLE, Int.reduceNe, Nat.reduceBneDiff, Nat.reduceBEq, decide_false, gt_iff_lt, Bool.or_self, Bool.false_eq_true, Nat.mul_one, Nat.one_mul, Nat.zero_mul, ↓reduceIte, Nat.reduceEqDiff, Nat.reduceLT, Nat.reduceAdd, Nat.reduceLeDiff, reduceCtorEq, goInt, pairs, isConst, TI.isAgg, splice, boxS, Edp, dpv, Nat.beq_eq, ZV.val, List.any_cons, List.any_nil, g2, gc2, dc]
      have kk := (k1.trans k2).setD (o := .cells [.int .i64 id, .int .i64 0, .string ⟨#[]⟩, .string ⟨#[]⟩] true 0) hd0
      have kk2 := kk.setD (o := .cells [.int .i64 id, .int .i64 0, .string ⟨#[]⟩, .string ⟨#[]⟩] true 0) hc
      exact downS_here (hbad k q (by rw [hn]; rfl) _ p ⟨id, 0, emp, emp⟩ kk2 ⟨e, z, he1, he2, by unfold IsR; rw [xr]; exact i3⟩)
  · rw [ht, if_neg (by decide)] at hok hbad
    simp only [rdA, Int.reduceEq, if_true, if_false] at hok hbad
    simp (disch := first | assumption | simp) only [↓sbD, sbU, tyB, Nat.reduceMul, Nat.reduceSub, Int.reduceEq, Int.reduceLT, Int.reduceLE, Int.reduceNe, Nat.reduceBneDiff, Nat.reduceBEq, decide_false, gt_iff_lt, Bool.or_self, Bool.false_eq_true, Nat.mul_one, Nat.one_mul, Nat.zero_mul, ↓reduceIte, Nat.reduceEqDiff, Nat.reduceLT, Nat.reduceAdd, Nat.reduceLeDiff, reduceCtorEq, goInt, pairs, isConst, TI.isAgg, splice, boxS, Edp, dpv, Nat.beq_eq, ZV.val, List.any_cons, List.any_nil, ht]
    refine specRVar i1 hp (by omega) (fun n q hn σ2 k2 i2 => ?_) fun k q hn σ2 k2 i2 => ?_
    · have g2 := (k2.at g1 (by simp) (by simpa using hdr)).1
      have gc2 := (k2.at gc1 (by simp) (by simpa using hcr)).1
      simp (disch := first | assumption | simp) only [↓sbD, sbU, tyB, Nat.reduceMul, Nat.reduceSub, Int.reduceEq, Int.reduceLT, Int.reduceLE, Int.reduceNe, Nat.reduceBneDiff, Nat.reduceBEq, decide_false, gt_iff_lt, Bool.or_self, Bool.false_eq_true, Nat.mul_one, Nat.one_mul, Nat.zero_mul, ↓reduceIte, Nat.reduceEqDiff, Nat.reduceLT, Nat.reduceAdd, Nat.reduceLeDiff, reduceCtorEq, goInt, pairs, isConst, TI.isAgg, splice, boxS, Edp, dpv, Nat.beq_eq, ZV.val, List.any_cons, List.any_nil, g2, gc2, dc]
      have kk := (k1.trans k2).setD (o := .cells [.int .i64 id, .int .i64 (n : Int), .string ⟨#[]⟩, .string ⟨#[]⟩] true 0) hd0
      have kk2 := kk.setD (o := .cells [.int .i64 id, .int .i64 (n : Int), .string ⟨#[]⟩, .string ⟨#[]⟩] true 0) hc
      exact downS_here (hok ⟨id, n, emp, emp⟩ q (by rw [hn]; rfl) _ kk2 (by unfold IsR; rw [xr]; exact i2))
    · obtain ⟨e, z, he1, he2, i3⟩ := i2
      have g2 := (k2.at g1 (by simp) (by simpa using hdr)).1
      have gc2 := (k2.at gc1 (by simp) (by simpa using hcr)).1
      simp (disch := first | assumption | simp) only [↓sbD, sbU, tyB, Nat.reduceMul, Nat.reduceSub, Int.reduceEq, Int.reduceLT, Int.reduceLE, Int.reduceNe, Nat.reduceBneDiff, Nat.reduceBEq, decide_false, gt_iff_lt, Bool.or_self, Bool.false_eq_true, Nat.mul_one, Nat.one_mul, Nat.zero_mul, ↓reduceIte, Nat.reduceEqDiff, Nat.reduceLT, Nat.reduceAdd, Nat.reduceLeDiff, reduceCtorEq, goInt, pairs, isConst, TI.isAgg, splice, boxS, Edp, dpv, Nat.beq_eq, ZV.val, List.any_cons, List.any_nil, g2, gc2, dc]
      have kk := (k1.trans k2).setD (o := .cells [.int .i64 id, .int .i64 0, .string ⟨#[]⟩, .string ⟨#[]⟩] true 0) hd0
      have kk2 := kk.setD (o := .cells [.int .i64 id, .int .i64 0, .string ⟨#[]⟩, .string ⟨#[]⟩] true 0) hc
      exact downS_here (hbad k q (by rw [hn]; rfl) _ p ⟨id, 0, emp, emp⟩ kk2 ⟨e, z, he1, he2, by unfold IsR; rw [xr]; exact i3⟩)
  · rw [ht, if_neg (by decide)] at hok hbad
    simp only [rdA, Int.reduceEq, if_true, if_false] at hok hbad
    simp (disch := first | assumption | simp) only [↓sbD, sbU, tyB, Nat.reduceMul, Nat.reduceSub, Int.reduceEq, Int.reduceLT, Int.reduceLE, Int.reduceNe, Nat.reduceBneDiff, Nat.reduceBEq, decide_false, gt_iff_lt, Bool.or_self, Bool.false_eq_true, Nat.mul_one, Nat.one_mul, Nat.zero_mul, ↓reduceIte, Nat.reduceEqDiff, Nat.reduceLT, Nat.reduceAdd, Nat.reduceLeDiff, reduceCtorEq, goInt, pairs, isConst, TI.isAgg, splice, boxS, Edp, dpv, Nat.beq_eq, ZV.val, List.any_cons, List.any_nil, ht]
    refine specDText i1 hp (by omega) (fun n q hn σ2 k2 i2 => ?_) fun k q hn σ2 k2 i2 => ?_
    · have g2 := (k2.at g1 (by simp) (by simpa using hdr)).1
      have gc2 := (k2.at gc1 (by simp) (by simpa using hcr)).1
      simp (disch := first | assumption | simp) only [↓sbD, sbU, tyB, Nat.reduceMul, Nat.reduceSub, Int.reduceEq, Int.reduceLT, Int.reduceLE, Int.reduceNe, Nat.reduceBneDiff, Nat.reduceBEq, decide_false, gt_iff_lt, Bool.or_self, Bool.false_eq_true, Nat.mul_one, Nat.one_mul, Nat.zero_mul, ↓reduceIte, Nat.reduceEqDiff, Nat.reduceLT, Nat.reduceAdd, Nat.reduceLeDiff, reduceCtorEq, goInt, pairs, isConst, TI.isAgg, splice, boxS, Edp, dpv, Nat.beq_eq, ZV.val, List.any_cons, List.any_nil, g2, gc2, dc]
      have kk := (k1.trans k2).setD (o := .cells [.int .i64 id, .int .i64 0, .string n, .string ⟨#[]⟩] true 0) hd0
      have kk2 := kk.setD (o := .cells [.int .i64 id, .int .i64 0, .string n, .string ⟨#[]⟩] true 0) hc
      exact downS_here (hok ⟨id, 0, n, emp⟩ q (by rw [hn]; rfl) _ kk2 (by unfold IsR; rw [xr]; exact i2))
    · obtain ⟨e, z, he1, he2, i3⟩ := i2
      have g2 := (k2.at g1 (by simp) (by simpa using hdr)).1
      have gc2 := (k2.at gc1 (by simp) (by simpa using hcr)).1
      simp (disch := first | assumption | simp) only [↓sbD, sbU, tyB, Nat.reduceMul, Nat.reduceSub, Int.reduceEq, Int.reduceLT, Int.reduceLE, Int.reduceNe, Nat.reduceBneDiff, Nat.reduceBEq, decide_false, gt_iff_lt, Bool.or_self, Bool.false_eq_true, Nat.mul_one, Nat.one_mul, Nat.zero_mul, ↓reduceIte, Nat.reduceEqDiff, Nat.reduceLT, Nat.reduceAdd, Nat.reduceLeDiff, reduceCtorEq, goInt, pairs, isConst, TI.isAgg, splice, boxS, Edp, dpv, Nat.beq_eq, ZV.val, List.any_cons, List.any_nil, g2, gc2, dc]
      have kk := (k1.trans k2).setD (o := .cells [.int .i64 id, .int .i64 0, .string ⟨#[]⟩, .string ⟨#[]⟩] true 0) hd0
      have kk2 := kk.setD (o := .cells [.int .i64 id, .int .i64 0, .string ⟨#[]⟩, .string ⟨#[]⟩] true 0) hc
      exact downS_here (hbad k q (by rw [hn]; rfl) _ p ⟨id, 0, emp, emp⟩ kk2 ⟨e, z, he1, he2, by unfold IsR; rw [xr]; exact i3⟩)
  · rw [ht, if_neg (by decide)] at hok hbad
    simp only [rdA, Int.reduceEq, if_true, if_false] at hok hbad
    simp (disch := first | assumption | simp) only [↓sbD, sbU, tyB, Nat.reduceMul, Nat.reduceSub, Int.reduceEq, Int.reduceLT, Int.reduceLE, Int.reduceNe, Nat.reduceBneDiff, Nat.reduceBEq, decide_false, gt_iff_lt, Bool.or_self, Bool.false_eq_true, Nat.mul_one, Nat.one_mul, Nat.zero_mul, ↓reduceIte, Nat.reduceEqDiff, Nat.reduceLT, Nat.reduceAdd, Nat.reduceLeDiff, reduceCtorEq, goInt, pairs, isConst, TI.isAgg, splice, boxS, Edp, dpv, Nat.beq_eq, ZV.val, List.any_cons, List.any_nil, ht]
    refine specRBin i1 hp (by omega) (fun n q hn σ2 k2 i2 => ?_) fun k q hn σ2 k2 i2 => ?_
    · have g2 := (k2.at g1 (by simp) (by simpa using hdr)).1
      have gc2 := (k2.at gc1 (by simp) (by simpa using hcr)).1
      simp (disch := first | assumption | simp) only [↓sbD, sbU, tyB, Nat.reduceMul, Nat.reduceSub, Int.reduceEq, Int.reduceLT, Int.reduceLE, Int.reduceNe, Nat.reduceBneDiff, Nat.reduceBEq, decide_false, gt_iff_lt, Bool.or_self, Bool.false_eq_true, Nat.mul_one, Nat.one_mul, Nat.zero_mul, ↓reduceIte, Nat.reduceEqDiff, Nat.reduceLT, Nat.reduceAdd, Nat.reduceLeDiff, reduceCtorEq, goInt, pairs, isConst, TI.isAgg, splice, boxS, Edp, dpv, Nat.beq_eq, ZV.val, List.any_cons, List.any_nil, g2, gc2, dc]
      have kk := (k1.trans k2).setD (o := .cells [.int .i64 id, .int .i64 0, .string n, .string ⟨#[]⟩] true 0) hd0
      have kk2 := kk.setD (o := .cells [.int .i64 id, .int .i64 0, .string n, .string ⟨#[]⟩] true 0) hc
      exact downS_here (hok ⟨id, 0, n, emp⟩ q (by rw [hn]; rfl) _ kk2 (by unfold IsR; rw [xr]; exact i2))
    · obtain ⟨e, z, he1, he2, i3⟩ := i2
      have g2 := (k2.at g1 (by simp) (by simpa using hdr)).1
      have gc2 := (k2.at gc1 (by simp) (by simpa using hcr)).1
      simp (disch := first | assumption | simp) only [↓sbD, sbU, tyB, Nat.reduceMul, Nat.reduceSub, Int.reduceEq, Int.reduceLT, Int.reduceLE, Int.reduceNe, Nat.reduceBneDiff, Nat.reduceBEq, decide_false, gt_iff_lt, Bool.or_self, Bool.false_eq_true, Nat.mul_one, Nat.one_mul, Nat.zero_mul, ↓reduceIte, Nat.reduceEqDiff, Nat.reduceLT, Nat.reduceAdd, Nat.reduceLeDiff, reduceCtorEq, goInt, pairs, isConst, TI.isAgg, splice, boxS, Edp, dpv, Nat.beq_eq, ZV.val, List.any_cons, List.any_nil, g2, gc2, dc]
      have kk := (k1.trans k2).setD (o := .cells [.int .i64 id, .int .i64 0, .string ⟨#[]⟩, .string ⟨#[]⟩] true 0) hd0
      have kk2 := kk.setD (o := .cells [.int .i64 id, .int .i64 0, .string ⟨#[]⟩, .string ⟨#[]⟩] true 0) hc
      exact downS_here (hbad k q (by rw [hn]; rfl) _ p ⟨id, 0, emp, emp⟩ kk2 ⟨e, z, he1, he2, by unfold IsR; rw [xr]; exact i3⟩)
  · rw [ht, if_pos rfl] at hok hbad
    simp (disch := first | assumption | simp) only [↓sbD, sbU, tyB, Nat.reduceMul, Nat.reduceSub, Int.reduceEq, Int.reduceLT, Int.reduceLE, Int.reduceNe, Nat.reduceBneDiff, Nat.reduceBEq, decide_false, gt_iff_lt, Bool.or_self, Bool.false_eq_true, Nat.mul_one, Nat.one_mul, Nat.zero_mul, ↓reduceIte, Nat.reduceEqDiff, Nat.reduceLT, Nat.reduceAdd, Nat.reduceLeDiff, reduceCtorEq, goInt, pairs, isConst, TI.isAgg, splice, boxS, Edp, dpv, Nat.beq_eq, ZV.val, List.any_cons, List.any_nil, ht]
    refine specDText i1 hp (by omega) (fun a q ha σ2 k2 i2 => ?_) fun k q ha σ2 k2 i2 => ?_
    · have hq := textR_ok ha
      have g2 := (k2.at g1 (by simp) (by simpa using hdr)).1
      have gc2 := (k2.at gc1 (by simp) (by simpa using hcr)).1
      simp (disch := first | assumption | simp) only [↓sbD, sbU, tyB, Nat.reduceMul, Nat.reduceSub, Int.reduceEq, Int.reduceLT, Int.reduceLE, Int.reduceNe, Nat.reduceBneDiff, Nat.reduceBEq, decide_false, gt_iff_lt, Bool.or_self, Bool.false_eq_true, Nat.mul_one, Nat.one_mul, Nat.zero_mul, ↓reduceIte, Nat.reduceEqDiff, Nat.reduceLT, Nat.reduceAdd, Nat.reduceLeDiff, reduceCtorEq, goInt, pairs, isConst, TI.isAgg, splice, boxS, Edp, dpv, Nat.beq_eq, ZV.val, List.any_cons, List.any_nil, g2, gc2, dc]
      generalize hσ3 : AHeap.set σ2 d _ = σ3
      have g3 : σ3.get d = .cells [.int .i64 id, .int .i64 0, .string a, .string ⟨#[]⟩] true 0 := by rw [← hσ3]; exact AHeap.get_set_same _ _ _
      have gc3 : σ3.get c = .cells [.int .i64 0, .int .i64 0, .string ⟨#[]⟩, .string ⟨#[]⟩] true 0 := by rw [← hσ3, dc]; exact gc2
      have k3 : Kept σ [r] σ3 [r] := by rw [← hσ3]; exact (k1.trans k2).setD hd0
      have i3 : IsR σ3 r s q .nilIface := by rw [← hσ3]; unfold IsR; rw [AHeap.get_set_ne _ _ hdr]; exact i2
      refine specDText i3 hq.2 (by omega) (fun b q2 hb σ4 k4 i4 => ?_) fun k q2 hb σ4 k4 i4 => ?_
      · have g4 := (k4.at g3 (by simp) (by simpa using hdr)).1
        have gc4 := (k4.at gc3 (by simp) (by simpa using hcr)).1
        simp (disch := first | assumption | simp) only [↓sbD, sbU, tyB, Nat.reduceMul, Nat.reduceSub, Int.reduceEq, Int.reduceLT, Int.reduceLE, Int.reduceNe, Nat.reduceBneDiff, Nat.reduceBEq, decide_false, gt_iff_lt, Bool.or_self, Bool.false_eq_true, Nat.mul_one, Nat.one_mul, Nat.zero_mul, ↓reduceIte, Nat.reduceEqDiff, Nat.reduceLT, Nat.reduceAdd, Nat.reduceLeDiff, reduceCtorEq, goInt, pairs, isConst, TI.isAgg, splice, boxS, Edp, dpv, Nat.beq_eq, ZV.val, List.any_cons, List.any_nil, g4, gc4, dc]
        have kk := (k3.trans k4).setD (o := .cells [.int .i64 id, .int .i64 0, .string a, .string b] true 0) hd0
        have kk2 := kk.setD (o := .cells [.int .i64 id, .int .i64 0, .string a, .string b] true 0) hc
        exact downS_here (hok ⟨id, 0, a, b⟩ q2 (by rw [ha]; simp only [hb]) _ kk2 (by unfold IsR; rw [xr]; exact i4))
      · obtain ⟨e, z, he1, he2, i5⟩ := i4
        have g4 := (k4.at g3 (by simp) (by simpa using hdr)).1
        have gc4 := (k4.at gc3 (by simp) (by simpa using hcr)).1
        simp (disch := first | assumption | simp) only [↓sbD, sbU, tyB, Nat.reduceMul, Nat.reduceSub, Int.reduceEq, Int.reduceLT, Int.reduceLE, Int.reduceNe, Nat.reduceBneDiff, Nat.reduceBEq, decide_false, gt_iff_lt, Bool.or_self, Bool.false_eq_true, Nat.mul_one, Nat.one_mul, Nat.zero_mul, ↓reduceIte, Nat.reduceEqDiff, Nat.reduceLT, Nat.reduceAdd, Nat.reduceLeDiff, reduceCtorEq, goInt, pairs, isConst, TI.isAgg, splice, boxS, Edp, dpv, Nat.beq_eq, ZV.val, List.any_cons, List.any_nil, g4, gc4, dc]
        have kk := (k3.trans k4).setD (o := .cells [.int .i64 id, .int .i64 0, .string a, .string ⟨#[]⟩] true 0) hd0
        have kk2 := kk.setD (o := .cells [.int .i64 id, .int .i64 0, .string a, .string ⟨#[]⟩] true 0) hc
        exact downS_here (hbad k q2 (by rw [ha]; simp only [hb]) _ q ⟨id, 0, a, emp⟩ kk2 ⟨e, z, he1, he2, by unfold IsR; rw [xr]; exact i5⟩)
    · obtain ⟨e, z, he1, he2, i3⟩ := i2
      have g2 := (k2.at g1 (by simp) (by simpa using hdr)).1
      have gc2 := (k2.at gc1 (by simp) (by simpa using hcr)).1
      simp (disch := first | assumption | simp) only [↓sbD, sbU, tyB, Nat.reduceMul, Nat.reduceSub, Int.reduceEq, Int.reduceLT, Int.reduceLE, Int.reduceNe, Nat.reduceBneDiff, Nat.reduceBEq, decide_false, gt_iff_lt, Bool.or_self, Bool.false_eq_true, Nat.mul_one, Nat.one_mul, Nat.zero_mul, ↓reduceIte, Nat.reduceEqDiff, Nat.reduceLT, Nat.reduceAdd, Nat.reduceLeDiff, reduceCtorEq, goInt, pairs, isConst, TI.isAgg, splice, boxS, Edp, dpv, Nat.beq_eq, ZV.val, List.any_cons, List.any_nil, g2, gc2, dc]
      generalize hσ3 : AHeap.set σ2 d _ = σ3
      have g3 : σ3.get d = .cells [.int .i64 id, .int .i64 0, .string ⟨#[]⟩, .string ⟨#[]⟩] true 0 := by rw [← hσ3]; exact AHeap.get_set_same _ _ _
      have gc3 : σ3.get c = .cells [.int .i64 0, .int .i64 0, .string ⟨#[]⟩, .string ⟨#[]⟩] true 0 := by rw [← hσ3, dc]; exact gc2
      have k3 : Kept σ [r] σ3 [r] := by rw [← hσ3]; exact (k1.trans k2).setD hd0
      have i4 : IsR σ3 r s p (fv 129 (q : Int) z) := by rw [← hσ3]; unfold IsR; rw [AHeap.get_set_ne _ _ hdr]; exact i3
      refine specDTextE i4 fun σ4 k4 i5 => ?_
      have g4 := (k4.at g3 (by simp) (by simpa using hdr)).1
      have gc4 := (k4.at gc3 (by simp) (by simpa using hcr)).1
      simp (disch := first | assumption | simp) only [↓sbD, sbU, tyB, Nat.reduceMul, Nat.reduceSub, Int.reduceEq, Int.reduceLT, Int.reduceLE, Int.reduceNe, Nat.reduceBneDiff, Nat.reduceBEq, decide_false, gt_iff_lt, Bool.or_self, Bool.false_eq_true, Nat.mul_one, Nat.one_mul, Nat.zero_mul, ↓reduceIte, Nat.reduceEqDiff, Nat.reduceLT, Nat.reduceAdd, Nat.reduceLeDiff, reduceCtorEq, goInt, pairs, isConst, TI.isAgg, splice, boxS, Edp, dpv, Nat.beq_eq, ZV.val, List.any_cons, List.any_nil, g4, gc4, dc]
      have kk := (k3.trans k4).setD (o := .cells [.int .i64 id, .int .i64 0, .string ⟨#[]⟩, .string emp] true 0) hd0
      have kk2 := kk.setD (o := .cells [.int .i64 id, .int .i64 0, .string ⟨#[]⟩, .string emp] true 0) hc
      exact downS_here (hbad k q (by rw [ha]) _ p ⟨id, 0, emp, emp⟩ kk2 ⟨e, z, he1, he2, by unfold IsR; rw [xr]; exact i5⟩)
theorem rawR_er {n : Int} {k q : Nat} (hp : p ≤ s.size) (h : rawR s p n = .error (k, q)) : q ≤ s.size := by
  unfold rawR at h
  split at h
  · simp only [Except.error.injEq, Prod.mk.injEq] at h; omega
  split at h
  · simp only [Except.error.injEq, Prod.mk.injEq] at h; omega
  · cases h
theorem rawR_ok' {n : Int} {v : ByteArray} {q : Nat} (hn : 0 ≤ n) (h : rawR s p n = .ok (v, q)) : q = p + n.toNat ∧ q ≤ s.size ∧ v.size = n.toNat := by
  unfold rawR at h
  split at h
  · cases h
  split at h
  · cases h
  · simp only [Except.ok.injEq, Prod.mk.injEq] at h
    obtain ⟨h1, h2⟩ := h
    subst h1
    rw [ByteArray.size_extract]
    omega
theorem numR_er {m k q : Nat} (hp : p ≤ s.size) (h : numR s p m = .error (k, q)) : q ≤ s.size := by
  unfold numR at h
  cases hb : rawR s p (m : Int) with
  | ok a => rw [hb] at h; cases h
  | error e => obtain ⟨j, q'⟩ := e; rw [hb] at h; simp only [Except.error.injEq, Prod.mk.injEq] at h; have := rawR_er hp hb; omega
theorem varR_er {k q : Nat} (hp : p ≤ s.size) (h : varR s p = .error (k, q)) : q ≤ s.size + 3 := by
  unfold varR at h
  have h1 := takeF_k (s.extract p s.size) 4 0 0 (by omega)
  cases ht : takeF (s.extract p s.size) 4 0 0 with
  | inl a => obtain ⟨m, j⟩ := a; rw [ht] at h; cases h
  | inr e =>
    obtain ⟨j, q'⟩ := e
    rw [ht] at h h1
    have h1 : q' ≤ (s.extract p s.size).size + 3 := h1
    rw [ByteArray.size_extract] at h1
    simp only [Except.error.injEq, Prod.mk.injEq] at h
    omega
theorem binR_er {k q : Nat} (hp : p ≤ s.size) (h : binR s p = .error (k, q)) : q ≤ s.size := by
  unfold binR at h
  cases hb : numR s p 2 with
  | ok a => obtain ⟨n, q'⟩ := a; rw [hb] at h; exact rawR_er (numR_le hb).2 h
  | error e => obtain ⟨j, q'⟩ := e; rw [hb] at h; simp only [Except.error.injEq, Prod.mk.injEq] at h; have := numR_er hp hb; omega
theorem textR_er {k q : Nat} (hp : p ≤ s.size) (h : textR s p = .error (k, q)) : q ≤ s.size + 65537 := by
  unfold textR at h
  cases hb : binR s p with
  | error e => obtain ⟨j, q'⟩ := e; rw [hb] at h; simp only [Except.error.injEq, Prod.mk.injEq] at h; have := binR_er hp hb; omega
  | ok a =>
    obtain ⟨b, q'⟩ := a
    rw [hb] at h
    have h1 := binR_ok hb
    simp only at h
    cases ht : textF b with
    | inl m => rw [ht] at h; cases h
    | inr e =>
      obtain ⟨j, i⟩ := e
      have h2 := textF_p ht
      rw [ht] at h
      simp only [Except.error.injEq, Prod.mk.injEq] at h
      omega
theorem valueR_er {id : Int} {k q : Nat} (hp : p ≤ s.size) (h : valueR id s p = .error (k, q)) : q ≤ s.size + 65537 := by
  unfold valueR at h
  split at h
  · cases h1 : textR s p with
    | error e => obtain ⟨j, q'⟩ := e; rw [h1] at h; simp only [Except.error.injEq, Prod.mk.injEq] at h; have := textR_er hp h1; omega
    | ok a =>
      obtain ⟨a, q1⟩ := a
      rw [h1] at h
      simp only at h
      cases h2 : textR s q1 with
      | error e => obtain ⟨j, q'⟩ := e; rw [h2] at h; simp only [Except.error.injEq, Prod.mk.injEq] at h; have := textR_er (textR_ok h1).2 h2; omega
      | ok b => obtain ⟨b, q2⟩ := b; rw [h2] at h; cases h
  · have key : ∀ k q, rdA (typI id) s p = .error (k, q) → q ≤ s.size + 65537 := by
      intro k q h
      unfold rdA at h
      have mN : ∀ r : Rd Nat, mapN r = .error (k, q) → r = .error (k, q) := by
        intro r hr
        unfold mapN at hr
        split at hr
        · cases hr
        · simp only [Except.error.injEq] at hr ⊢; exact hr
      have mS : ∀ r : Rd ByteArray, mapS r = .error (k, q) → r = .error (k, q) := by
        intro r hr
        unfold mapS at hr
        split at hr
        · cases hr
        · simp only [Except.error.injEq] at hr ⊢; exact hr
      split at h
      · have := numR_er hp (mN _ h); omega
      split at h
      · have := numR_er hp (mN _ h); omega
      split at h
      · have := numR_er hp (mN _ h); omega
      split at h
      · have := varR_er hp (mN _ h); omega
      split at h
      · exact textR_er hp (mS _ h)
      · have := binR_er hp (mS _ h); omega
    cases h1 : rdA (typI id) s p with
    | error e => obtain ⟨j, q'⟩ := e; rw [h1] at h; simp only [Except.error.injEq, Prod.mk.injEq] at h; have := key _ _ h1; omega
    | ok a => obtain ⟨⟨n, a⟩, q1⟩ := a; rw [h1] at h; cases h
end
end Go.Proofs.YtccimdfmddomaaaDoor.AbsA
namespace Go.Proofs.YtccimdfmddomaaaDoor.AbsA
open Go AbsYtccimdfmddomaaaDoor Abs
set_option maxRecDepth 100000
set_option maxHeartbeats 2000000
set_option linter.unusedSimpArgs false
set_option linter.unusedVariables false
attribute [local irreducible] afterS afterOpS opSK OpsS TrS CodeS condS condW thenS thenQ guardS guardTS outS drawS trSK consS
section
variable {σ : AHeap} {Q : Value → AHeap → Prop} {r : Nat} {s : ByteArray} {p : Nat}
theorem groundP_typ {pl id : Int} {l : List Pr} (h : groundP pl l id = none) : typI id ≠ 0 ∧ l.length < 64 := by
  unfold groundP at h
  split at h
  · cases h
  split at h
  · cases h
  · rename_i h1 h2
    exact ⟨fun h3 => h2 (.inl h3), by omega⟩
theorem oneR_ok {pl : Int} {ahead : List Pr} {x : Pr} {q : Nat} (hp : p ≤ s.size) (h : oneR pl s p ahead = .ok (x, q)) : p < q ∧ q ≤ s.size ∧ ahead.length < 64 ∧ badP pl ahead x = none := by
  unfold oneR at h
  cases hv : varR s p with
  | error e => obtain ⟨k, q'⟩ := e; rw [hv] at h; cases h
  | ok a =>
    obtain ⟨id, q1⟩ := a
    rw [hv] at h
    have h1 := varR_le hp hv
    simp only at h
    cases hg : groundP pl ahead id with
    | some e => obtain ⟨k, rr⟩ := e; rw [hg] at h; cases h
    | none =>
      have h2 := groundP_typ hg
      rw [hg] at h
      simp only at h
      cases hw : valueR id s q1 with
      | error e => obtain ⟨k, q'⟩ := e; rw [hw] at h; cases h
      | ok b =>
        obtain ⟨y, q2⟩ := b
        have h3 := valueR_le h1.2.1 hw
        rw [hw] at h
        simp only at h
        cases hn : numOk y with
        | false => rw [hn] at h; simp at h
        | true =>
          rw [hn] at h
          simp only [if_true, Except.ok.injEq, Prod.mk.injEq] at h
          obtain ⟨rfl, rfl⟩ := h
          have hid : y.id = id := by
            unfold valueR at hw
            split at hw
            · cases ht : textR s q1 with
              | error e => rw [ht] at hw; cases hw
              | ok a =>
                obtain ⟨a, q3⟩ := a
                rw [ht] at hw
                simp only at hw
                cases ht2 : textR s q3 with
                | error e => rw [ht2] at hw; cases hw
                | ok a => obtain ⟨b, q4⟩ := a; rw [ht2] at hw; simp only [Except.ok.injEq, Prod.mk.injEq] at hw; rw [← hw.1]
            · cases ht : rdA (typI id) s q1 with
              | error e => rw [ht] at hw; cases hw
              | ok a => obtain ⟨⟨n, a⟩, q3⟩ := a; rw [ht] at hw; simp only [Except.ok.injEq, Prod.mk.injEq] at hw; rw [← hw.1]
          exact ⟨by omega, by omega, h2.2, by unfold badP; rw [hid, hg]; simp [hn]⟩
theorem specOne {pl : Int} {v : Value} {l : List Pr} (hl : DL propC 4 v l) (hll : l.length ≤ 100000) (hr : IsR σ r s p .nilIface) (hp : p ≤ s.size) (hs : s.size ≤ 100000000)
    (hok : ∀ x q, oneR pl s p l = .ok (x, q) → ∀ σ', Kept σ [r] σ' [r] → IsR σ' r s q .nilIface → Q (.tuple #[.agg ⟨propC x⟩, .nilIface]) σ')
    (hbad : ∀ k rr a : Nat, oneR pl s p l = .error (k, rr, a) → ∀ σ' d z y, Kept σ [r] σ' [r] → d ≤ 2 → ErN d (fv rr a z) k → a ≤ s.size + 65537 → Q (.tuple #[.agg ⟨propC y⟩, fv rr a z]) σ') :
    CallS E B 99 [.pointer (some ⟨r, 0, none⟩), .int .i64 pl, v] σ Q := by
  unfold oneR at hok hbad
  refine call99 (by simp) ?_
  simp only [strip, bodyOf, Tryd.f99, getD_body, keepN, bareOp_mk, lessOp_mk, lapp_cons, lapp_nil, List.map_cons, List.map_nil, array_toList, ↓reduceIte, Nat.reduceEqDiff, Bool.false_eq_true]
  simp (disch := first | assumption | simp) only [↓sbD, sbU, tyB, Nat.reduceMul, Nat.reduceSub, Int.reduceEq, Int.reduceLT, Int.reduceLE, Int.reduceNe, Nat.reduceBneDiff, Nat.reduceBEq, decide_false, gt_iff_lt, Bool.or_self, Bool.false_eq_true, Nat.mul_one, Nat.one_mul, Nat.zero_mul, ↓reduceIte, Nat.reduceEqDiff, Nat.reduceLT, Nat.reduceAdd, Nat.reduceLeDiff, reduceCtorEq, goInt, pairs, isConst, TI.isAgg, splice, boxS, Edp, dpv, Nat.beq_eq, ZV.val, List.any_cons, List.any_nil, AS_new, zePr]
  intro c hc
  have hcr : c ≠ r := by rintro rfl; rw [hr] at hc; cases hc
  generalize hσ1 : AHeap.set σ c _ = σ1
  have k1 : Kept σ [r] σ1 [r] := by rw [← hσ1]; exact (Kept.refl σ [r]).setD hc
  have gc1 : σ1.get c = .cells [.int .i64 0, .int .i64 0, .string ⟨#[]⟩, .string ⟨#[]⟩] true 0 := by rw [← hσ1]; exact AHeap.get_set_same _ _ _
  have i1 : IsR σ1 r s p .nilIface := by rw [← hσ1]; unfold IsR; rw [AHeap.get_set_ne _ _ hcr]; exact hr
  clear hσ1
  refine specRAt i1 ?_
  simp (disch := first | assumption | simp) only [↓sbD, sbU, tyB, Nat.reduceMul, Nat.reduceSub, Int.reduceEq, Int.reduceLT, Int.reduceLE, Int.reduceNe, Nat.reduceBneDiff, Nat.reduceBEq, decide_false, gt_iff_lt, Bool.or_self, Bool.false_eq_true, Nat.mul_one, Nat.one_mul, Nat.zero_mul, ↓reduceIte, Nat.reduceEqDiff, Nat.reduceLT, Nat.reduceAdd, Nat.reduceLeDiff, reduceCtorEq, goInt, pairs, isConst, TI.isAgg, splice, boxS, Edp, dpv, Nat.beq_eq, ZV.val, List.any_cons, List.any_nil]
  refine specRVar i1 hp hs (fun n q hn σ2 k2 i2 => ?_) fun k q hn σ2 k2 i2 => ?_
  rotate_left
  · obtain ⟨d, z, hd, he, i3⟩ := i2
    rw [hn] at hbad
    have gc2 := (k2.at gc1 (by simp) (by simpa using hcr)).1
    have hq := varR_er hp hn
    simp (disch := first | assumption | simp) only [↓sbD, sbU, tyB, Nat.reduceMul, Nat.reduceSub, Int.reduceEq, Int.reduceLT, Int.reduceLE, Int.reduceNe, Nat.reduceBneDiff, Nat.reduceBEq, decide_false, gt_iff_lt, Bool.or_self, Bool.false_eq_true, Nat.mul_one, Nat.one_mul, Nat.zero_mul, ↓reduceIte, Nat.reduceEqDiff, Nat.reduceLT, Nat.reduceAdd, Nat.reduceLeDiff, reduceCtorEq, goInt, pairs, isConst, TI.isAgg, splice, boxS, Edp, dpv, Nat.beq_eq, ZV.val, List.any_cons, List.any_nil]
    refine specRErr i3 ?_
    simp (disch := first | assumption | simp) only [↓sbD, sbU, tyB, Nat.reduceMul, Nat.reduceSub, Int.reduceEq, Int.reduceLT, Int.reduceLE, Int.reduceNe, Nat.reduceBneDiff, Nat.reduceBEq, decide_false, gt_iff_lt, Bool.or_self, Bool.false_eq_true, Nat.mul_one, Nat.one_mul, Nat.zero_mul, ↓reduceIte, Nat.reduceEqDiff, Nat.reduceLT, Nat.reduceAdd, Nat.reduceLeDiff, reduceCtorEq, goInt, pairs, isConst, TI.isAgg, splice, boxS, Edp, dpv, Nat.beq_eq, ZV.val, List.any_cons, List.any_nil, gc2, res_cellc, resC_some]
    exact downS_here (hbad k 129 q rfl _ d z ⟨0, 0, emp, emp⟩ ((k1.trans k2).setD hc) hd he (by omega))
  · have hv := varR_le hp hn
    rw [hn] at hok hbad
    simp only at hok hbad
    have gc2 := (k2.at gc1 (by simp) (by simpa using hcr)).1
    simp (disch := first | assumption | simp) only [↓sbD, sbU, tyB, Nat.reduceMul, Nat.reduceSub, Int.reduceEq, Int.reduceLT, Int.reduceLE, Int.reduceNe, Nat.reduceBneDiff, Nat.reduceBEq, decide_false, gt_iff_lt, Bool.or_self, Bool.false_eq_true, Nat.mul_one, Nat.one_mul, Nat.zero_mul, ↓reduceIte, Nat.reduceEqDiff, Nat.reduceLT, Nat.reduceAdd, Nat.reduceLeDiff, reduceCtorEq, goInt, pairs, isConst, TI.isAgg, splice, boxS, Edp, dpv, Nat.beq_eq, ZV.val, List.any_cons, List.any_nil]
    refine specRErr i2 ?_
    simp (disch := first | assumption | simp) only [↓sbD, sbU, tyB, Nat.reduceMul, Nat.reduceSub, Int.reduceEq, Int.reduceLT, Int.reduceLE, Int.reduceNe, Nat.reduceBneDiff, Nat.reduceBEq, decide_false, gt_iff_lt, Bool.or_self, Bool.false_eq_true, Nat.mul_one, Nat.one_mul, Nat.zero_mul, ↓reduceIte, Nat.reduceEqDiff, Nat.reduceLT, Nat.reduceAdd, Nat.reduceLeDiff, reduceCtorEq, goInt, pairs, isConst, TI.isAgg, splice, boxS, Edp, dpv, Nat.beq_eq, ZV.val, List.any_cons, List.any_nil]
    refine specGround hl hll (fun hg => ?_) fun k rr hg hk => ?_
    rotate_left
    · rw [hg] at hbad
      simp (disch := first | assumption | simp) only [↓sbD, sbU, tyB, Nat.reduceMul, Nat.reduceSub, Int.reduceEq, Int.reduceLT, Int.reduceLE, Int.reduceNe, Nat.reduceBneDiff, Nat.reduceBEq, decide_false, gt_iff_lt, Bool.or_self, Bool.false_eq_true, Nat.mul_one, Nat.one_mul, Nat.zero_mul, ↓reduceIte, Nat.reduceEqDiff, Nat.reduceLT, Nat.reduceAdd, Nat.reduceLeDiff, reduceCtorEq, goInt, pairs, isConst, TI.isAgg, splice, boxS, Edp, dpv, Nat.beq_eq, ZV.val, List.any_cons, List.any_nil, gc2, res_cellc, resC_some]
      exact downS_here (hbad k rr p rfl _ 1 _ ⟨0, 0, emp, emp⟩ ((k1.trans k2).setD hc) (by omega) (ErN.new _ _ hk) (by omega))
    · rw [hg] at hok hbad
      simp only at hok hbad
      have ht0 := (groundP_typ hg).1
      simp (disch := first | assumption | simp) only [↓sbD, sbU, tyB, Nat.reduceMul, Nat.reduceSub, Int.reduceEq, Int.reduceLT, Int.reduceLE, Int.reduceNe, Nat.reduceBneDiff, Nat.reduceBEq, decide_false, gt_iff_lt, Bool.or_self, Bool.false_eq_true, Nat.mul_one, Nat.one_mul, Nat.zero_mul, ↓reduceIte, Nat.reduceEqDiff, Nat.reduceLT, Nat.reduceAdd, Nat.reduceLeDiff, reduceCtorEq, goInt, pairs, isConst, TI.isAgg, splice, boxS, Edp, dpv, Nat.beq_eq, ZV.val, List.any_cons, List.any_nil]
      refine specPValue ht0 i2 hv.2.1 hs (fun x q2 hx σ3 k3 i3 => ?_) fun k q2 hx σ3 p' y k3 i3 => ?_
      rotate_left
      · obtain ⟨d, z, hd, he, i4⟩ := i3
        rw [hx] at hbad
        have gc3 := (k3.at gc2 (by simp) (by simpa using hcr)).1
        have hq := valueR_er hv.2.1 hx
        have hac : propC y = [.int .i64 y.id, .int .i64 y.n, .string y.s, .string y.v] := rfl
        simp (disch := first | assumption | simp) only [↓sbD, sbU, tyB, Nat.reduceMul, Nat.reduceSub, Int.reduceEq, Int.reduceLT, Int.reduceLE, Int.reduceNe, Nat.reduceBneDiff, Nat.reduceBEq, decide_false, gt_iff_lt, Bool.or_self, Bool.false_eq_true, Nat.mul_one, Nat.one_mul, Nat.zero_mul, ↓reduceIte, Nat.reduceEqDiff, Nat.reduceLT, Nat.reduceAdd, Nat.reduceLeDiff, reduceCtorEq, goInt, pairs, isConst, TI.isAgg, splice, boxS, Edp, dpv, Nat.beq_eq, ZV.val, List.any_cons, List.any_nil, AS_new, zePr, hac]
        intro b hb
        have hb0 : b ≠ c := by rintro rfl; rw [gc3] at hb; cases hb
        have hbr : b ≠ r := by rintro rfl; rw [i4] at hb; cases hb
        have bc : ∀ (τ : AHeap) o, (AHeap.set τ b o).get c = τ.get c := fun τ o => AHeap.get_set_ne _ _ hb0
        have i5 : ∀ o o', IsR (AHeap.set (AHeap.set σ3 b o) b o') r s p' (fv 129 (q2 : Int) z) := fun o o' => by unfold IsR; rw [AHeap.get_set_ne _ _ hbr, AHeap.get_set_ne _ _ hbr]; exact i4
        refine specRErr (i5 _ _) ?_
        simp (disch := first | assumption | simp) only [↓sbD, sbU, tyB, Nat.reduceMul, Nat.reduceSub, Int.reduceEq, Int.reduceLT, Int.reduceLE, Int.reduceNe, Nat.reduceBneDiff, Nat.reduceBEq, decide_false, gt_iff_lt, Bool.or_self, Bool.false_eq_true, Nat.mul_one, Nat.one_mul, Nat.zero_mul, ↓reduceIte, Nat.reduceEqDiff, Nat.reduceLT, Nat.reduceAdd, Nat.reduceLeDiff, reduceCtorEq, goInt, pairs, isConst, TI.isAgg, splice, boxS, Edp, dpv, Nat.beq_eq, ZV.val, List.any_cons, List.any_nil, gc3, bc, res_cellc, resC_some]
        have hb1 : ∀ o, (AHeap.set σ3 c o).get b = .dead := fun o => by rw [AHeap.get_set_ne _ _ hb0.symm]; exact hb
        refine downS_le ?_ (hbad k 129 q2 rfl (σ3.set c (.cells [.int .i64 0, .int .i64 0, .string ⟨#[]⟩, .string ⟨#[]⟩] true 0)) d z ⟨0, 0, emp, emp⟩ (((k1.trans k2).trans k3).setD hc) hd he hq)
        exact Le.set (Le.new' (Le.new hb) hb)
      · rw [hx] at hok hbad
        simp only at hok hbad
        have gc3 := (k3.at gc2 (by simp) (by simpa using hcr)).1
        have hac : propC x = [.int .i64 x.id, .int .i64 x.n, .string x.s, .string x.v] := rfl
        simp (disch := first | assumption | simp) only [↓sbD, sbU, tyB, Nat.reduceMul, Nat.reduceSub, Int.reduceEq, Int.reduceLT, Int.reduceLE, Int.reduceNe, Nat.reduceBneDiff, Nat.reduceBEq, decide_false, gt_iff_lt, Bool.or_self, Bool.false_eq_true, Nat.mul_one, Nat.one_mul, Nat.zero_mul, ↓reduceIte, Nat.reduceEqDiff, Nat.reduceLT, Nat.reduceAdd, Nat.reduceLeDiff, reduceCtorEq, goInt, pairs, isConst, TI.isAgg, splice, boxS, Edp, dpv, Nat.beq_eq, ZV.val, List.any_cons, List.any_nil, AS_new, zePr, hac]
        intro b hb
        have hb0 : b ≠ c := by rintro rfl; rw [gc3] at hb; cases hb
        have hbr : b ≠ r := by rintro rfl; rw [i3] at hb; cases hb
        have bc : ∀ (τ : AHeap) o, (AHeap.set τ b o).get c = τ.get c := fun τ o => AHeap.get_set_ne _ _ hb0
        have cb : ∀ (τ : AHeap) o, (AHeap.set τ c o).get b = τ.get b := fun τ o => AHeap.get_set_ne _ _ hb0.symm
        have i5 : ∀ o o', IsR (AHeap.set (AHeap.set σ3 b o) b o') r s q2 .nilIface := fun o o' => by unfold IsR; rw [AHeap.get_set_ne _ _ hbr, AHeap.get_set_ne _ _ hbr]; exact i3
        refine specRErr (i5 _ _) ?_
        simp (disch := first | assumption | simp) only [↓sbD, sbU, tyB, Nat.reduceMul, Nat.reduceSub, Int.reduceEq, Int.reduceLT, Int.reduceLE, Int.reduceNe, Nat.reduceBneDiff, Nat.reduceBEq, decide_false, gt_iff_lt, Bool.or_self, Bool.false_eq_true, Nat.mul_one, Nat.one_mul, Nat.zero_mul, ↓reduceIte, Nat.reduceEqDiff, Nat.reduceLT, Nat.reduceAdd, Nat.reduceLeDiff, reduceCtorEq, goInt, pairs, isConst, TI.isAgg, splice, boxS, Edp, dpv, Nat.beq_eq, ZV.val, List.any_cons, List.any_nil]
        rw [propC_ag]
        have hcb : Nat.beq c b = false := beq_ne hb0.symm
        refine specBadP (fun hn => ?_) fun hn => ?_
        · rw [hn] at hok
          simp (disch := first | assumption | simp) only [↓sbD, sbU, tyB, Nat.reduceMul, Nat.reduceSub, Int.reduceEq, Int.reduceLT, Int.reduceLE, Int.reduceNe, Nat.reduceBneDiff, Nat.reduceBEq, decide_false, gt_iff_lt, Bool.or_self, Bool.false_eq_true, Nat.mul_one, Nat.one_mul, Nat.zero_mul, ↓reduceIte, Nat.reduceEqDiff, Nat.reduceLT, Nat.reduceAdd, Nat.reduceLeDiff, reduceCtorEq, goInt, pairs, isConst, TI.isAgg, splice, boxS, Edp, dpv, Nat.beq_eq, ZV.val, List.any_cons, List.any_nil, gc3, bc, cb, hac]
          refine drawS_l (fl := [(0, 3)]) (by kernel_rfl) ?_ ?_
          rotate_left; simp only [lastP_cc, lastP_one]; rotate_left
          · simp only [List.all_cons, List.all_nil, floatS, List.getElem?_cons_succ, List.getElem?_cons_zero, List.getElem?_toArray, Region.wanted, Bool.not_true, Bool.not_false, Bool.false_or, Bool.true_or, Bool.or_true, Bool.true_and, reads, looksWeak, aev_tmp, aev_const, upd_at, ↓reduceIte, Nat.reduceEqDiff, Nat.reduceLT, Nat.reduceAdd, ofL_zero, ofL_succ, blkOf, oeq_refl, oeq_of, dead_cells, dead_map, Bool.and_true, Bool.and_self, Bool.false_eq_true, Bool.not_false, gc3, bc, cb, hcb, AHeap.get_set_same]
          simp (disch := first | assumption | simp) only [↓sbD, sbU, tyB, Nat.reduceMul, Nat.reduceSub, Int.reduceEq, Int.reduceLT, Int.reduceLE, Int.reduceNe, Nat.reduceBneDiff, Nat.reduceBEq, decide_false, gt_iff_lt, Bool.or_self, Bool.false_eq_true, Nat.mul_one, Nat.one_mul, Nat.zero_mul, ↓reduceIte, Nat.reduceEqDiff, Nat.reduceLT, Nat.reduceAdd, Nat.reduceLeDiff, reduceCtorEq, goInt, pairs, isConst, TI.isAgg, splice, boxS, Edp, dpv, Nat.beq_eq, ZV.val, List.any_cons, List.any_nil, gc3, bc, cb, hac, res_cellc, resC_some]
          have hcr2 : ∀ (τ : AHeap) o, (AHeap.set τ c o).get r = τ.get r := fun τ o => AHeap.get_set_ne _ _ hcr
          refine downS_le ?_ (hok x q2 rfl (σ3.set c (.cells [.int .i64 x.id, .int .i64 x.n, .string x.s, .string x.v] true 0)) (((k1.trans k2).trans k3).setD hc) (by unfold IsR; rw [hcr2]; exact i3))
          exact Le.set (Le.new' (Le.new hb) hb)
        · rw [hn] at hbad
          simp (disch := first | assumption | simp) only [↓sbD, sbU, tyB, Nat.reduceMul, Nat.reduceSub, Int.reduceEq, Int.reduceLT, Int.reduceLE, Int.reduceNe, Nat.reduceBneDiff, Nat.reduceBEq, decide_false, gt_iff_lt, Bool.or_self, Bool.false_eq_true, Nat.mul_one, Nat.one_mul, Nat.zero_mul, ↓reduceIte, Nat.reduceEqDiff, Nat.reduceLT, Nat.reduceAdd, Nat.reduceLeDiff, reduceCtorEq, goInt, pairs, isConst, TI.isAgg, splice, boxS, Edp, dpv, Nat.beq_eq, ZV.val, List.any_cons, List.any_nil, gc3, bc, cb, hac]
          refine drawS_l (fl := [(0, 3)]) (by kernel_rfl) ?_ ?_
          rotate_left; simp only [lastP_cc, lastP_one]; rotate_left
          · simp only [List.all_cons, List.all_nil, floatS, List.getElem?_cons_succ, List.getElem?_cons_zero, List.getElem?_toArray, Region.wanted, Bool.not_true, Bool.not_false, Bool.false_or, Bool.true_or, Bool.or_true, Bool.true_and, reads, looksWeak, aev_tmp, aev_const, upd_at, ↓reduceIte, Nat.reduceEqDiff, Nat.reduceLT, Nat.reduceAdd, ofL_zero, ofL_succ, blkOf, oeq_refl, oeq_of, dead_cells, dead_map, Bool.and_true, Bool.and_self, Bool.false_eq_true, Bool.not_false, gc3, bc, cb, hcb, AHeap.get_set_same]
          simp (disch := first | assumption | simp) only [↓sbD, sbU, tyB, Nat.reduceMul, Nat.reduceSub, Int.reduceEq, Int.reduceLT, Int.reduceLE, Int.reduceNe, Nat.reduceBneDiff, Nat.reduceBEq, decide_false, gt_iff_lt, Bool.or_self, Bool.false_eq_true, Nat.mul_one, Nat.one_mul, Nat.zero_mul, ↓reduceIte, Nat.reduceEqDiff, Nat.reduceLT, Nat.reduceAdd, Nat.reduceLeDiff, reduceCtorEq, goInt, pairs, isConst, TI.isAgg, splice, boxS, Edp, dpv, Nat.beq_eq, ZV.val, List.any_cons, List.any_nil, gc3, bc, cb, hac, res_cellc, resC_some]
          refine downS_le ?_ (hbad 3 130 p rfl (σ3.set c (.cells [.int .i64 x.id, .int .i64 x.n, .string x.s, .string x.v] true 0)) 1 _ x (((k1.trans k2).trans k3).setD hc) (by omega) (ErN.new _ _ ⟨by omega, by omega⟩) (by omega))
          exact Le.set (Le.new' (Le.new hb) hb)
end
end Go.Proofs.YtccimdfmddomaaaDoor.AbsA
namespace Go.Proofs.YtccimdfmddomaaaDoor.AbsA
open Go AbsYtccimdfmddomaaaDoor Abs
set_option maxRecDepth 100000
set_option maxHeartbeats 2000000
set_option linter.unusedSimpArgs false
set_option linter.unusedVariables false
attribute [local irreducible] afterS afterOpS opSK OpsS TrS CodeS condS condW thenS thenQ guardS guardTS outS drawS trSK consS
section
variable {σ : AHeap} {Q : Value → AHeap → Prop} {r : Nat} {s : ByteArray} {p : Nat}
theorem specPRead {pl : Int} (hr : IsR σ r s p .nilIface) (hp : p ≤ s.size) (hs : s.size ≤ 100000000)
    (hok : ∀ l q, ReadP pl s p (.ok (l, q)) → ∀ v σ', DL propC 4 v l → Kept σ [r] σ' [r] → IsR σ' r s q .nilIface → q ≤ s.size → Q (.tuple #[v, .nilIface]) σ')
    (hbad : ∀ k rr a : Nat, ReadP pl s p (.error (k, rr, a)) → ∀ σ' d z, Kept σ [r] σ' [r] → d ≤ 3 → ErN d (fv rr a z) k → Q (.tuple #[.slice none 0 0, fv rr a z]) σ') :
    CallS E B 44 [.pointer (some ⟨r, 0, none⟩), .int .i64 pl] σ Q := by
  unfold ReadP at hok hbad
  refine call44 (by simp) ?_
  simp only [strip, bodyOf, Tryd.f44, getD_body, keepN, bareOp_mk, lessOp_mk, lapp_cons, lapp_nil, List.map_cons, List.map_nil, array_toList, ↓reduceIte, Nat.reduceEqDiff, Bool.false_eq_true]
  simp (disch := first | assumption | simp) only [↓sbD, sbU, tyB, Nat.reduceMul, Nat.reduceSub, Int.reduceEq, Int.reduceLT, Int.reduceLE, Int.reduceNe, Nat.reduceBneDiff, Nat.reduceBEq, decide_false, gt_iff_lt, Bool.or_self, Bool.false_eq_true, Nat.mul_one, Nat.one_mul, Nat.zero_mul, ↓reduceIte, Nat.reduceEqDiff, Nat.reduceLT, Nat.reduceAdd, Nat.reduceLeDiff, reduceCtorEq, goInt, pairs, isConst, TI.isAgg, splice, boxS, Edp, dpv, Nat.beq_eq, ZV.val, List.any_cons, List.any_nil]
  refine specRVar hr hp hs (fun n q hn σ2 k2 i2 => ?_) fun k q hn σ2 k2 i2 => ?_
  rotate_left
  · rw [hn] at hbad
    obtain ⟨d, z, hd, he, i3⟩ := i2
    simp (disch := first | assumption | simp) only [↓sbD, sbU, tyB, Nat.reduceMul, Nat.reduceSub, Int.reduceEq, Int.reduceLT, Int.reduceLE, Int.reduceNe, Nat.reduceBneDiff, Nat.reduceBEq, decide_false, gt_iff_lt, Bool.or_self, Bool.false_eq_true, Nat.mul_one, Nat.one_mul, Nat.zero_mul, ↓reduceIte, Nat.reduceEqDiff, Nat.reduceLT, Nat.reduceAdd, Nat.reduceLeDiff, reduceCtorEq, goInt, pairs, isConst, TI.isAgg, splice, boxS, Edp, dpv, Nat.beq_eq, ZV.val, List.any_cons, List.any_nil]
    refine specRRawE i3 ?_
    simp (disch := first | assumption | simp) only [↓sbD, sbU, tyB, Nat.reduceMul, Nat.reduceSub, Int.reduceEq, Int.reduceLT, Int.reduceLE, Int.reduceNe, Nat.reduceBneDiff, Nat.reduceBEq, decide_false, gt_iff_lt, Bool.or_self, Bool.false_eq_true, Nat.mul_one, Nat.one_mul, Nat.zero_mul, ↓reduceIte, Nat.reduceEqDiff, Nat.reduceLT, Nat.reduceAdd, Nat.reduceLeDiff, reduceCtorEq, goInt, pairs, isConst, TI.isAgg, splice, boxS, Edp, dpv, Nat.beq_eq, ZV.val, List.any_cons, List.any_nil]
    refine specRErr i3 ?_
    simp (disch := first | assumption | simp) only [↓sbD, sbU, tyB, Nat.reduceMul, Nat.reduceSub, Int.reduceEq, Int.reduceLT, Int.reduceLE, Int.reduceNe, Nat.reduceBneDiff, Nat.reduceBEq, decide_false, gt_iff_lt, Bool.or_self, Bool.false_eq_true, Nat.mul_one, Nat.one_mul, Nat.zero_mul, ↓reduceIte, Nat.reduceEqDiff, Nat.reduceLT, Nat.reduceAdd, Nat.reduceLeDiff, reduceCtorEq, goInt, pairs, isConst, TI.isAgg, splice, boxS, Edp, dpv, Nat.beq_eq, ZV.val, List.any_cons, List.any_nil]
    exact downS_here (hbad k 129 q rfl _ d z k2 (by omega) he)
  have hv := varR_le hp hn
  rw [hn] at hok hbad
  simp only at hok hbad
  simp (disch := first | assumption | simp) only [↓sbD, sbU, tyB, Nat.reduceMul, Nat.reduceSub, Int.reduceEq, Int.reduceLT, Int.reduceLE, Int.reduceNe, Nat.reduceBneDiff, Nat.reduceBEq, decide_false, gt_iff_lt, Bool.or_self, Bool.false_eq_true, Nat.mul_one, Nat.one_mul, Nat.zero_mul, ↓reduceIte, Nat.reduceEqDiff, Nat.reduceLT, Nat.reduceAdd, Nat.reduceLeDiff, reduceCtorEq, goInt, pairs, isConst, TI.isAgg, splice, boxS, Edp, dpv, Nat.beq_eq, ZV.val, List.any_cons, List.any_nil]
  refine specRRaw i2 hv.2.1 (by omega) (fun all q2 ha σ3 k3 i3 => ?_) fun k q2 ha σ3 k3 i3 => ?_
  rotate_left
  · rw [ha] at hbad
    obtain ⟨d, z, hd, he, i4⟩ := i3
    simp (disch := first | assumption | simp) only [↓sbD, sbU, tyB, Nat.reduceMul, Nat.reduceSub, Int.reduceEq, Int.reduceLT, Int.reduceLE, Int.reduceNe, Nat.reduceBneDiff, Nat.reduceBEq, decide_false, gt_iff_lt, Bool.or_self, Bool.false_eq_true, Nat.mul_one, Nat.one_mul, Nat.zero_mul, ↓reduceIte, Nat.reduceEqDiff, Nat.reduceLT, Nat.reduceAdd, Nat.reduceLeDiff, reduceCtorEq, goInt, pairs, isConst, TI.isAgg, splice, boxS, Edp, dpv, Nat.beq_eq, ZV.val, List.any_cons, List.any_nil]
    refine specRErr i4 ?_
    simp (disch := first | assumption | simp) only [↓sbD, sbU, tyB, Nat.reduceMul, Nat.reduceSub, Int.reduceEq, Int.reduceLT, Int.reduceLE, Int.reduceNe, Nat.reduceBneDiff, Nat.reduceBEq, decide_false, gt_iff_lt, Bool.or_self, Bool.false_eq_true, Nat.mul_one, Nat.one_mul, Nat.zero_mul, ↓reduceIte, Nat.reduceEqDiff, Nat.reduceLT, Nat.reduceAdd, Nat.reduceLeDiff, reduceCtorEq, goInt, pairs, isConst, TI.isAgg, splice, boxS, Edp, dpv, Nat.beq_eq, ZV.val, List.any_cons, List.any_nil]
    exact downS_here (hbad k 129 q2 rfl _ d z (k2.trans k3) (by omega) he)
  have hq2 := rawR_ok' (by omega) ha
  rw [Int.toNat_natCast] at hq2
  rw [ha] at hok hbad
  simp only at hok hbad
  simp (disch := first | assumption | simp) only [↓sbD, sbU, tyB, Nat.reduceMul, Nat.reduceSub, Int.reduceEq, Int.reduceLT, Int.reduceLE, Int.reduceNe, Nat.reduceBneDiff, Nat.reduceBEq, decide_false, gt_iff_lt, Bool.or_self, Bool.false_eq_true, Nat.mul_one, Nat.one_mul, Nat.zero_mul, ↓reduceIte, Nat.reduceEqDiff, Nat.reduceLT, Nat.reduceAdd, Nat.reduceLeDiff, reduceCtorEq, goInt, pairs, isConst, TI.isAgg, splice, boxS, Edp, dpv, Nat.beq_eq, ZV.val, List.any_cons, List.any_nil]
  refine specRErr i3 ?_
  simp (disch := first | assumption | simp) only [↓sbD, sbU, tyB, Nat.reduceMul, Nat.reduceSub, Int.reduceEq, Int.reduceLT, Int.reduceLE, Int.reduceNe, Nat.reduceBneDiff, Nat.reduceBEq, decide_false, gt_iff_lt, Bool.or_self, Bool.false_eq_true, Nat.mul_one, Nat.one_mul, Nat.zero_mul, ↓reduceIte, Nat.reduceEqDiff, Nat.reduceLT, Nat.reduceAdd, Nat.reduceLeDiff, reduceCtorEq, goInt, pairs, isConst, TI.isAgg, splice, boxS, Edp, dpv, Nat.beq_eq, ZV.val, List.any_cons, List.any_nil]
  refine specRAt i3 ?_
  have hwf : IntKind.i64.wrap ((q2 : Int) - (all.size : Int)) = ((q2 - all.size : Nat) : Int) := by rw [wrap64 ⟨by omega, by omega⟩]; omega
  simp (disch := first | assumption | simp) only [↓sbD, sbU, tyB, Nat.reduceMul, Nat.reduceSub, Int.reduceEq, Int.reduceLT, Int.reduceLE, Int.reduceNe, Nat.reduceBneDiff, Nat.reduceBEq, decide_false, gt_iff_lt, Bool.or_self, Bool.false_eq_true, Nat.mul_one, Nat.one_mul, Nat.zero_mul, ↓reduceIte, Nat.reduceEqDiff, Nat.reduceLT, Nat.reduceAdd, Nat.reduceLeDiff, reduceCtorEq, goInt, pairs, isConst, TI.isAgg, splice, boxS, Edp, dpv, Nat.beq_eq, ZV.val, List.any_cons, List.any_nil, hwf]
  refine specRNew fun x σ4 hx k4 i4 => ?_
  have hrx : r ∉ [x] := by
    intro hm
    obtain rfl := List.mem_singleton.1 hm
    rw [i3] at hx; cases hx
  simp (disch := first | assumption | simp) only [↓sbD, sbU, tyB, Nat.reduceMul, Nat.reduceSub, Int.reduceEq, Int.reduceLT, Int.reduceLE, Int.reduceNe, Nat.reduceBneDiff, Nat.reduceBEq, decide_false, gt_iff_lt, Bool.or_self, Bool.false_eq_true, Nat.mul_one, Nat.one_mul, Nat.zero_mul, ↓reduceIte, Nat.reduceEqDiff, Nat.reduceLT, Nat.reduceAdd, Nat.reduceLeDiff, reduceCtorEq, goInt, pairs, isConst, TI.isAgg, splice, boxS, Edp, dpv, Nat.beq_eq, ZV.val, List.any_cons, List.any_nil]
  refine S_loop (fun m f σ' => ∃ (p' : Nat) (l : List Pr) (v : Value) (fp : List Nat), m + p' = all.size ∧ p' ≤ all.size ∧ f 10 = v ∧ DG propC 4 σ' v l fp ∧ x ∉ fp ∧ l.length ≤ 64 ∧ IsR σ' x all p' .nilIface ∧ Kept σ3 [] σ' (x :: fp) ∧ ∀ R, AllP pl all p' l R → AllP pl all 0 [] R) all.size (Le.refl _) ⟨0, [], _, [], rfl, Nat.zero_le _, rfl, by simp (disch := first | assumption | simp) only [↓sbD, sbU, tyB, Nat.reduceMul, Nat.reduceSub, Int.reduceEq, Int.reduceLT, Int.reduceLE, Int.reduceNe, Nat.reduceBneDiff, Nat.reduceBEq, decide_false, gt_iff_lt, Bool.or_self, Bool.false_eq_true, Nat.mul_one, Nat.one_mul, Nat.zero_mul, ↓reduceIte, Nat.reduceEqDiff, Nat.reduceLT, Nat.reduceAdd, Nat.reduceLeDiff, reduceCtorEq, goInt, pairs, isConst, TI.isAgg, splice, boxS, Edp, dpv, Nat.beq_eq, ZV.val, List.any_cons, List.any_nil]; exact DG.nil, by simp, by simp, i4, k4, fun R h => h⟩ ?_
  clear k4 i4
  rintro m f σ5 ⟨p', l, v, fp, hm, hp', f10, hg, hxf, hl64, ix, hk, hback⟩ hf
  have f0 := hf 0 (by decide) (notMem_wr (by kernel_rfl))
  have f1 := hf 1 (by decide) (notMem_wr (by kernel_rfl))
  have f8 := hf 8 (by decide) (notMem_wr (by kernel_rfl))
  have f9 := hf 9 (by decide) (notMem_wr (by kernel_rfl))
  simp (disch := first | assumption | simp) only [↓sbD, sbU, tyB, Nat.reduceMul, Nat.reduceSub, Int.reduceEq, Int.reduceLT, Int.reduceLE, Int.reduceNe, Nat.reduceBneDiff, Nat.reduceBEq, decide_false, gt_iff_lt, Bool.or_self, Bool.false_eq_true, Nat.mul_one, Nat.one_mul, Nat.zero_mul, ↓reduceIte, Nat.reduceEqDiff, Nat.reduceLT, Nat.reduceAdd, Nat.reduceLeDiff, reduceCtorEq, goInt, pairs, isConst, TI.isAgg, splice, boxS, Edp, dpv, Nat.beq_eq, ZV.val, List.any_cons, List.any_nil] at f0 f1 f8 f9
  clear hf
  have ir := (hk.at i3 (by simp) (by simp)).1
  simp (disch := first | assumption | simp) only [↓sbD, sbU, tyB, Nat.reduceMul, Nat.reduceSub, Int.reduceEq, Int.reduceLT, Int.reduceLE, Int.reduceNe, Nat.reduceBneDiff, Nat.reduceBEq, decide_false, gt_iff_lt, Bool.or_self, Bool.false_eq_true, Nat.mul_one, Nat.one_mul, Nat.zero_mul, ↓reduceIte, Nat.reduceEqDiff, Nat.reduceLT, Nat.reduceAdd, Nat.reduceLeDiff, reduceCtorEq, goInt, pairs, isConst, TI.isAgg, splice, boxS, Edp, dpv, Nat.beq_eq, ZV.val, List.any_cons, List.any_nil, f9]
  refine specRLeft ix hp' (by omega) ?_
  by_cases hlt : p' < all.size
  · have h0 : (0 : Int) < ((all.size - p' : Nat) : Int) := by omega
    simp (disch := first | assumption | simp) only [↓sbD, sbU, tyB, Nat.reduceMul, Nat.reduceSub, Int.reduceEq, Int.reduceLT, Int.reduceLE, Int.reduceNe, Nat.reduceBneDiff, Nat.reduceBEq, decide_false, gt_iff_lt, Bool.or_self, Bool.false_eq_true, Nat.mul_one, Nat.one_mul, Nat.zero_mul, ↓reduceIte, Nat.reduceEqDiff, Nat.reduceLT, Nat.reduceAdd, Nat.reduceLeDiff, reduceCtorEq, goInt, pairs, isConst, TI.isAgg, splice, boxS, Edp, dpv, Nat.beq_eq, ZV.val, List.any_cons, List.any_nil, h0, f9, f1, f10]
    refine specOne hg.dl (by omega) ix hp' (by omega) (fun y q3 ho σ6 k6 i6 => ?_) fun k rr a ho σ6 d z y k6 hd he hab => ?_
    · have hoq := oneR_ok hp' ho
      have hg6 := hg.kept k6 (fun b hb hm => hxf (by obtain rfl := List.mem_singleton.1 hm; exact hb))
      have hac : propC y = [.int .i64 y.id, .int .i64 y.n, .string y.s, .string y.v] := rfl
      simp (disch := first | assumption | simp) only [↓sbD, sbU, tyB, Nat.reduceMul, Nat.reduceSub, Int.reduceEq, Int.reduceLT, Int.reduceLE, Int.reduceNe, Nat.reduceBneDiff, Nat.reduceBEq, decide_false, gt_iff_lt, Bool.or_self, Bool.false_eq_true, Nat.mul_one, Nat.one_mul, Nat.zero_mul, ↓reduceIte, Nat.reduceEqDiff, Nat.reduceLT, Nat.reduceAdd, Nat.reduceLeDiff, reduceCtorEq, goInt, pairs, isConst, TI.isAgg, splice, boxS, Edp, dpv, Nat.beq_eq, ZV.val, List.any_cons, List.any_nil, AS_new, zePr, hac, f10]
      intro b hb
      have kb : Kept σ6 [] _ [] := Kept.tmp (o := .cells [.int .i64 0, .int .i64 0, .string ⟨#[]⟩, .string ⟨#[]⟩] true 0) (o' := .cells [.int .i64 y.id, .int .i64 y.n, .string y.s, .string y.v] true 0) hb
      have hg7 := hg6.kept kb (fun _ _ h => by cases h)
      have i7 := (kb.at i6 (by simp) (by simp)).1
      refine app_pr (xs := [y]) hg7 (.inr ⟨1, rfl⟩) (by simp only [List.length_cons, List.length_nil]; omega) fun σ8 v8 fp8 k8 g8 => ?_
      have i8 := k8.at i7 (by simp) hxf
      simp (disch := first | assumption | simp) only [↓sbD, sbU, tyB, Nat.reduceMul, Nat.reduceSub, Int.reduceEq, Int.reduceLT, Int.reduceLE, Int.reduceNe, Nat.reduceBneDiff, Nat.reduceBEq, decide_false, gt_iff_lt, Bool.or_self, Bool.false_eq_true, Nat.mul_one, Nat.one_mul, Nat.zero_mul, ↓reduceIte, Nat.reduceEqDiff, Nat.reduceLT, Nat.reduceAdd, Nat.reduceLeDiff, reduceCtorEq, goInt, pairs, isConst, TI.isAgg, splice, boxS, Edp, dpv, Nat.beq_eq, ZV.val, List.any_cons, List.any_nil]
      refine ⟨_, m - (q3 - p'), σ8, rfl, by omega, Le.refl _, q3, l ++ [y], v8, fp8, by omega, by omega, rfl, g8, i8.2, by rw [List.length_append]; simp only [List.length_cons, List.length_nil]; omega, i8.1, ?_, fun R h => hback R (.step hlt ho h)⟩
      exact hk.trans ((k6.wid (gp := x :: fp) (gp' := x :: fp) (fun b hb => by simp at hb; simp [hb]) (fun b hb => .inr hb)).trans ((kb.wid (gp := x :: fp) (gp' := x :: fp) (fun _ h => by cases h) (fun _ h => .inr h)).trans (k8.wid (gp := x :: fp) (gp' := x :: fp8) (fun b hb => by simp [hb]) (fun b hb => by simp only [List.mem_cons] at hb ⊢; rcases hb with hb | hb <;> simp [hb]))))
    · have hac : propC y = [.int .i64 y.id, .int .i64 y.n, .string y.s, .string y.v] := rfl
      simp (disch := first | assumption | simp) only [↓sbD, sbU, tyB, Nat.reduceMul, Nat.reduceSub, Int.reduceEq, Int.reduceLT, Int.reduceLE, Int.reduceNe, Nat.reduceBneDiff, Nat.reduceBEq, decide_false, gt_iff_lt, Bool.or_self, Bool.false_eq_true, Nat.mul_one, Nat.one_mul, Nat.zero_mul, ↓reduceIte, Nat.reduceEqDiff, Nat.reduceLT, Nat.reduceAdd, Nat.reduceLeDiff, reduceCtorEq, goInt, pairs, isConst, TI.isAgg, splice, boxS, Edp, dpv, Nat.beq_eq, ZV.val, List.any_cons, List.any_nil, AS_new, zePr, hac, f8]
      intro b hb
      refine specDeeper (n := a) (m := q2 - all.size) (by omega) (by omega) ?_
      simp (disch := first | assumption | simp) only [↓sbD, sbU, tyB, Nat.reduceMul, Nat.reduceSub, Int.reduceEq, Int.reduceLT, Int.reduceLE, Int.reduceNe, Nat.reduceBneDiff, Nat.reduceBEq, decide_false, gt_iff_lt, Bool.or_self, Bool.false_eq_true, Nat.mul_one, Nat.one_mul, Nat.zero_mul, ↓reduceIte, Nat.reduceEqDiff, Nat.reduceLT, Nat.reduceAdd, Nat.reduceLeDiff, reduceCtorEq, goInt, pairs, isConst, TI.isAgg, splice, boxS, Edp, dpv, Nat.beq_eq, ZV.val, List.any_cons, List.any_nil]
      have kk : Kept σ3 [] σ6 [] := (hk.wid (gp := []) (gp' := x :: fp) (fun _ h => by cases h) (fun _ h => .inl h)).trans (k6.wid (gp := x :: fp) (gp' := []) (fun b hb => by simp at hb; simp [hb]) (fun _ h => by cases h))
      exact downS_le (Le.new' (Le.new hb) hb) (hbad k rr _ ⟨.error (k, rr, a), hback _ (.bad hlt ho), rfl⟩ σ6 (d + 1) _ ((k2.trans k3).trans kk.fst) (by omega) (ErN.deeper _ _ he))
  · have h0 : ¬ (0 : Int) < ((all.size - p' : Nat) : Int) := by omega
    simp (disch := first | assumption | simp) only [↓sbD, sbU, tyB, Nat.reduceMul, Nat.reduceSub, Int.reduceEq, Int.reduceLT, Int.reduceLE, Int.reduceNe, Nat.reduceBneDiff, Nat.reduceBEq, decide_false, gt_iff_lt, Bool.or_self, Bool.false_eq_true, Nat.mul_one, Nat.one_mul, Nat.zero_mul, ↓reduceIte, Nat.reduceEqDiff, Nat.reduceLT, Nat.reduceAdd, Nat.reduceLeDiff, reduceCtorEq, goInt, pairs, isConst, TI.isAgg, splice, boxS, Edp, dpv, Nat.beq_eq, ZV.val, List.any_cons, List.any_nil, h0, f10]
    exact downS_here (hok l q2 ⟨.ok l, hback _ (.nil (by omega)), rfl⟩ v _ hg.dl ((k2.trans k3).trans hk.fst) ir hq2.2.1)
end
theorem AllP.det {pl : Int} {s : ByteArray} {p : Nat} {l : List Pr} {r : Except (Nat × Nat × Nat) (List Pr)} (h : AllP pl s p l r) : ∀ {r'}, AllP pl s p l r' → r = r' := by
  induction h with
  | nil h =>
    intro r' h'
    cases h' with
    | nil _ => rfl
    | bad h1 _ => omega
    | step h1 _ _ => omega
  | bad h ho =>
    intro r' h'
    cases h' with
    | nil h1 => omega
    | bad _ h1 => rw [ho] at h1; injection h1 with h1; rw [h1]
    | step _ h1 _ => rw [ho] at h1; cases h1
  | step h ho hr ih =>
    intro r' h'
    cases h' with
    | nil h1 => omega
    | bad _ h1 => rw [ho] at h1; cases h1
    | step _ h1 h2 =>
      rw [ho] at h1
      simp only [Except.ok.injEq, Prod.mk.injEq] at h1
      obtain ⟨rfl, rfl⟩ := h1
      exact ih h2
theorem AllP.chk {pl : Int} {s : ByteArray} {p : Nat} {l : List Pr} {r : Except (Nat × Nat × Nat) (List Pr)} (h : AllP pl s p l r) (hp : p ≤ s.size) (hl : l.length ≤ 64) (hc : chk pl [] l = none) : ∀ m, r = .ok m → _root_.Go.Proofs.YtccimdfmddomaaaDoor.AbsA.chk pl [] m = none ∧ m.length ≤ 64 := by
  induction h with
  | nil h => intro m hm; injection hm with hm; subst hm; exact ⟨hc, hl⟩
  | bad h ho => intro m hm; cases hm
  | step h ho hr ih =>
    have := oneR_ok hp ho
    exact ih this.2.1 (by rw [List.length_append]; simp only [List.length_cons, List.length_nil]; omega) (chk_snoc hc (by simpa using this.2.2.2))
end Go.Proofs.YtccimdfmddomaaaDoor.AbsA
namespace Go.Proofs.YtccimdfmddomaaaDoor.AbsA
open Go AbsYtccimdfmddomaaaDoor Abs
set_option maxRecDepth 100000
set_option maxHeartbeats 2000000
set_option linter.unusedSimpArgs false
set_option linter.unusedVariables false
/-- has a property nothing but what its type has -/
def plain (x : Pr) : Prop := (typI x.id < 6 → x.s = emp ∧ x.v = emp) ∧ (5 < typI x.id → x.n = 0) ∧ (typI x.id = 6 ∨ typI x.id = 7 → x.v = emp)
theorem badP_none {pl : Int} {a : List Pr} {x : Pr} (h : badP pl a x = none) : groundP pl a x.id = none ∧ numOk x = true := by
  unfold badP at h
  cases hg : groundP pl a x.id with
  | some e => rw [hg] at h; cases h
  | none =>
    rw [hg] at h
    cases hn : numOk x with
    | true => exact ⟨rfl, rfl⟩
    | false => rw [hn] at h; simp at h
theorem one_mid {pl : Int} {ahead : List Pr} {x : Pr} {m : ByteArray} (A Bt : ByteArray) (hb : badP pl ahead x = none) (hpl : plain x) (hm : catW (actsP x) = some m) : oneR pl (A ++ m ++ Bt) A.size ahead = .ok (x, A.size + m.size) := by
  obtain ⟨hg, hn⟩ := badP_none hb
  have ht0 := (groundP_typ hg).1
  obtain ⟨id, n, s, v⟩ := x
  simp only at *
  have hsp : actsP ⟨id, n, s, v⟩ = [⟨5, id, emp⟩] ++ (if typI id = 9 then [⟨6, 0, s⟩, ⟨6, 0, v⟩] else if typI id = 0 then [] else [⟨typI id, n, s⟩]) := rfl
  rw [hsp] at hm
  obtain ⟨m1, m2, h1, h2, rfl⟩ := catW_split hm
  have hid : actW ⟨5, id, emp⟩ = .inl m1 := by
    simp only [catW] at h1
    cases ha : actW ⟨5, id, emp⟩ with
    | inl m' => rw [ha] at h1; simp only [Option.some.injEq, app_emp'] at h1; rw [h1]
    | inr e => rw [ha] at h1; simp at h1
  have e1 : A ++ (m1 ++ m2) ++ Bt = A ++ m1 ++ (m2 ++ Bt) := by simp only [app_assoc]
  have r1 := rdA_mid A (m2 ++ Bt) (a := ⟨5, id, emp⟩) (by unfold kindOk; simp) hid
  simp only [rdA, Int.reduceEq, Int.reduceLT, if_true, if_false] at r1
  have hvar : ∃ N : Nat, (N : Int) = id ∧ varR (A ++ m1 ++ (m2 ++ Bt)) A.size = .ok (N, A.size + m1.size) := by
    cases hv : varR (A ++ m1 ++ (m2 ++ Bt)) A.size with
    | error e => rw [hv] at r1; cases r1
    | ok a =>
      obtain ⟨N, q⟩ := a
      rw [hv] at r1
      simp only [mapN, Except.ok.injEq, Prod.mk.injEq] at r1
      exact ⟨N, r1.1.1, by rw [r1.2]⟩
  obtain ⟨N, rfl, hvar⟩ := hvar
  unfold oneR
  rw [e1, hvar]
  simp only [hg]
  have e2 : A ++ m1 ++ (m2 ++ Bt) = (A ++ m1) ++ m2 ++ Bt := by simp only [app_assoc]
  have ez : A.size + m1.size = (A ++ m1).size := (size_app _ _).symm
  have ez2 : A.size + (m1 ++ m2).size = (A ++ m1).size + m2.size := by simp only [size_app]; omega
  rw [e2, ez, ez2]
  generalize A ++ m1 = A1
  have hval : valueR (N : Int) (A1 ++ m2 ++ Bt) A1.size = .ok (⟨N, n, s, v⟩, A1.size + m2.size) := by
    unfold valueR
    obtain ⟨p1, p2, p3⟩ := hpl
    simp only at p1 p2 p3
    by_cases h9 : typI (N : Int) = 9
    · rw [if_pos h9] at h2 ⊢
      have hsp2 : ([⟨6, 0, s⟩, ⟨6, 0, v⟩] : List Act) = [⟨6, 0, s⟩] ++ [⟨6, 0, v⟩] := rfl
      rw [hsp2] at h2
      obtain ⟨m3, m4, h3, h4, rfl⟩ := catW_split h2
      have one : ∀ (t m : ByteArray), catW [⟨6, 0, t⟩] = some m → actW ⟨6, 0, t⟩ = .inl m := by
        intro t m h
        simp only [catW] at h
        cases ha : actW ⟨6, 0, t⟩ with
        | inl m' => rw [ha] at h; simp only [Option.some.injEq, app_emp'] at h; rw [h]
        | inr e => rw [ha] at h; simp at h
      have tx : ∀ (A B t m : ByteArray), catW [⟨6, 0, t⟩] = some m → textR (A ++ m ++ B) A.size = .ok (t, A.size + m.size) := by
        intro A B t m h
        have r := rdA_mid A B (a := ⟨6, 0, t⟩) (by unfold kindOk; simp) (one t m h)
        simp only [rdA, Int.reduceEq, Int.reduceLT, if_true, if_false] at r
        cases hv : textR (A ++ m ++ B) A.size with
        | error e => rw [hv] at r; cases r
        | ok a =>
          obtain ⟨b, q⟩ := a
          rw [hv] at r
          simp only [mapS, Except.ok.injEq, Prod.mk.injEq] at r
          rw [r.1.2, r.2]
      have e3 : A1 ++ (m3 ++ m4) ++ Bt = A1 ++ m3 ++ (m4 ++ Bt) := by simp only [app_assoc]
      rw [e3, tx A1 (m4 ++ Bt) s m3 h3]
      simp only
      have e4 : A1 ++ m3 ++ (m4 ++ Bt) = (A1 ++ m3) ++ m4 ++ Bt := by simp only [app_assoc]
      have ez3 : A1.size + m3.size = (A1 ++ m3).size := (size_app _ _).symm
      rw [e4, ez3, tx (A1 ++ m3) Bt v m4 h4]
      simp only
      rw [p2 (by omega)]
      simp only [size_app, Except.ok.injEq, Prod.mk.injEq, true_and]
      omega
    · rw [if_neg h9, if_neg ht0] at h2
      rw [if_neg h9]
      have ha : actW ⟨typI N, n, s⟩ = .inl m2 := by
        simp only [catW] at h2
        cases ha : actW ⟨typI N, n, s⟩ with
        | inl m' => rw [ha] at h2; simp only [Option.some.injEq, app_emp'] at h2; rw [h2]
        | inr e => rw [ha] at h2; simp at h2
      have hk : kindOk (typI (N : Int)) := by
        have := typ_cases (N : Int)
        unfold kindOk; omega
      rw [rdA_mid A1 Bt (a := ⟨typI N, n, s⟩) hk ha]
      simp only
      by_cases h6 : typI (N : Int) < 6
      · rw [if_pos h6, if_pos h6, (p1 h6).1, (p1 h6).2]
      · have := typ_cases (N : Int)
        rw [if_neg h6, if_neg h6, p2 (by omega), p3 (by omega)]
  rw [hval]
  simp only [hn, if_true]
theorem runW_cat : ∀ {l : List Act} {b c : ByteArray}, runW b l = .inl c → ∃ d, catW l = some d ∧ c = b ++ d
  | [], b, c, h => by
    injection h with h
    exact ⟨emp, rfl, by rw [← h, app_emp']⟩
  | a :: l, b, c, h => by
    simp only [runW] at h
    cases ha : actW a with
    | inl m =>
      rw [ha] at h
      obtain ⟨d, h1, rfl⟩ := runW_cat h
      exact ⟨m ++ d, by simp only [catW, ha, h1], by rw [app_assoc]⟩
    | inr e => obtain ⟨k, q⟩ := e; rw [ha] at h; cases h
theorem all_mid {pl : Int} {l : List Pr} {C : ByteArray} (hc : chk pl [] l = none) (hpl : ∀ x ∈ l, plain x) (hm : catW (l.flatMap actsP) = some C) : ∀ (k i : Nat), i + k = l.length → ∃ A, catW ((l.take i).flatMap actsP) = some A ∧ AllP pl C A.size (l.take i) (.ok l)
  | 0, i, hi => by
    have : l.take i = l := List.take_of_length_le (by omega)
    rw [this]
    exact ⟨C, hm, .nil (Nat.le_refl _)⟩
  | k + 1, i, hi => by
    obtain ⟨A', hA', hall⟩ := all_mid hc hpl hm k (i + 1) (by omega)
    have hi' : i < l.length := by omega
    have htk : l.take (i + 1) = l.take i ++ [l[i]] := List.take_succ_eq_append_getElem hi'
    have hsp : l = l.take (i + 1) ++ l.drop (i + 1) := (List.take_append_drop _ _).symm
    have hm2 := hm
    rw [hsp, List.flatMap_append] at hm2
    obtain ⟨X, D, h1, h2, h3⟩ := catW_split hm2
    rw [hA'] at h1; injection h1 with h1; subst h1
    rw [htk, List.flatMap_append] at hA'
    obtain ⟨A, m, h4, h5, rfl⟩ := catW_split hA'
    simp only [List.flatMap_cons, List.flatMap_nil, List.append_nil] at h5
    have hb := chk_at (a := []) hi' hc
    rw [List.nil_append] at hb
    have ho := one_mid A D hb (hpl _ (List.getElem_mem hi')) h5
    rw [← h3] at ho
    refine ⟨A, h4, .step ?_ ho ?_⟩
    · have hpos : 0 < m.size := by
        have := oneR_ok (s := C) (p := A.size) (by rw [h3]; simp only [size_app]; omega) ho
        omega
      rw [h3]; simp only [size_app]; omega
    · rw [← htk, ← size_app]; exact hall
theorem read_enc {pl : Int} {l : List Pr} {c t : ByteArray} (he : encP pl l = .ok c) (hpl : ∀ x ∈ l, plain x) (hz : c.size ≤ 700000) {r : Except (Nat × Nat × Nat) (List Pr × Nat)} (h : ReadP pl (c ++ t) 0 r) : r = .ok (l, c.size) := by
  unfold encP at he
  cases hc : chk pl [] l with
  | some e => rw [hc] at he; cases he
  | none =>
    rw [hc] at he
    simp only at he
    cases hr : runW emp (l.flatMap actsP) with
    | inr e => obtain ⟨k, q⟩ := e; rw [hr] at he; cases he
    | inl C =>
      rw [hr] at he
      simp only [Except.ok.injEq] at he
      subst he
      obtain ⟨D, hD, rfl⟩ := runW_cat hr
      rw [emp_app'] at *
      rw [size_app] at hz
      obtain ⟨A, hA, hall⟩ := all_mid hc hpl hD l.length 0 (by omega)
      have : A = emp := by
        have : some emp = some A := hA
        injection this with this; exact this.symm
      subst this
      unfold ReadP at h
      have e1 : str (enc D.size) ++ D ++ t = emp ++ str (enc D.size) ++ (D ++ t) := by rw [emp_app', app_assoc]
      have hv := var_mid emp (D ++ t) (N := D.size) (by omega)
      rw [← e1] at hv
      have he0 : emp.size = 0 := rfl
      rw [he0, Nat.zero_add] at hv
      rw [hv] at h
      simp only at h
      have es : (str (enc D.size)).size = vsize D.size := by rw [str_size, enc_len]
      have hraw := raw_mid (str (enc D.size)) D t
      rw [es] at hraw
      rw [hraw] at h
      simp only at h
      obtain ⟨r', h1, h2⟩ := h
      have := hall.det h1
      subst this
      rw [h2, size_app, es]
end Go.Proofs.YtccimdfmddomaaaDoor.AbsA
