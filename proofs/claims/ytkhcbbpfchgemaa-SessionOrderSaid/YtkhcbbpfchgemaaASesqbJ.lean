/-
  Parts of a law's proof.
-/
import Derived.Test.YtkhcbbpfchgemaaAQnqcJ
namespace Go.Proofs.Ytkhcbbpfchgemaa.AbsA
open Go AbsYtkhcbbpfchgemaa Abs
open AbsS (msgC PS)
set_option maxRecDepth 100000
set_option maxHeartbeats 4000000
set_option linter.unusedSimpArgs false
set_option linter.unusedVariables false
attribute [local irreducible] afterS afterOpS opSK OpsS TrS CodeS condS condW thenS thenQ guardS guardTS outS drawS trSK consS
section
variable {σ : AHeap} {Q : Value → AHeap → Prop} {b : Nat} {on : Bool} {t : Tm} {W : List Ms} {F : List Fl} {most : Int} {fp : List Nat}
theorem ndS : dp 73 = false ∧ dp 31 = false ∧ dp 34 = false ∧ dp 25 = false ∧ dp 27 = false ∧ dp 84 = false ∧ dp 37 = false ∧ dp 42 = false := ⟨rfl, rfl, rfl, rfl, rfl, rfl, rfl, rfl⟩
def sesC (pin : Value) (cl : ByteArray) (on : Bool) (t : Tm) (w : Wl) (vw : Value) (en : Int) (sm bo bq : Nat) (ag : Value) : List Value := [pin, .string cl, .bool on, .int .i64 t.e, .int .i64 t.r, .int .i64 t.p, .int .i64 t.a, .int .i64 t.k, .bool t.b, .bool w.has, .string w.topic, .string w.pay, .int .i64 w.qos, .bool w.ret, vw, .int .i64 en, .map (some sm), .pointer (some ⟨bo, 0, none⟩), .pointer (some ⟨bq, 0, none⟩), ag]
/-- a session, nothing of which is to be sent again -/
def IsS (σ : AHeap) (b : Nat) (on : Bool) (t : Tm) (W : List Ms) (F : List Fl) (most : Int) (fp : List Nat) : Prop :=
  ∃ (pin : Value) (cl : ByteArray) (w : Wl) (vw : Value) (en : Int) (sm bo bq : Nat) (fpO fpQ : List Nat), σ.get b = .cells (sesC pin cl on t w vw en sm bo bq (.slice none 0 0)) true 0 ∧ (vcells pin = [pin] ∧ oneCell pin = true) ∧ (vcells vw = [vw] ∧ oneCell vw = true) ∧ IsO σ bo F fpO ∧ IsQ σ bq most W fpQ ∧ disj fpO fpQ ∧ b ∉ fpO ∧ b ∉ fpQ ∧ fp = b :: (fpO ++ fpQ)
theorem IsS.kept {σ' : AHeap} {gp gp' : List Nat} (hS : IsS σ b on t W F most fp) (k : Kept σ gp σ' gp') (hd : disj fp gp) : IsS σ' b on t W F most fp := by
  obtain ⟨pin, cl, w, vw, en, sm, bo, bq, fpO, fpQ, gb, hpin, hvw, hO, hQ, hdj, hbO, hbQ, rfl⟩ := hS
  exact ⟨pin, cl, w, vw, en, sm, bo, bq, fpO, fpQ, (k.at gb (by simp) (hd b (by simp))).1, hpin, hvw, hO.kept k (fun x hx => hd x (by simp [hx])), hQ.kept k (fun x hx => hd x (by simp [hx])), hdj, hbO, hbQ, rfl⟩
theorem IsS.live (hS : IsS σ b on t W F most fp) : ∀ c ∈ fp, σ.get c ≠ .dead := by
  obtain ⟨pin, cl, w, vw, en, sm, bo, bq, fpO, fpQ, gb, hpin, hvw, hO, hQ, hdj, hbO, hbQ, rfl⟩ := hS
  intro c hc
  simp only [List.mem_cons, List.mem_append] at hc
  rcases hc with rfl | hc | hc
  · rw [gb]; simp
  · exact hO.live c hc
  · exact hQ.live c hc
/-- the queue becomes another one -/
theorem IsS.putQ {σ' : AHeap} {pin : Value} {cl : ByteArray} {w : Wl} {vw : Value} {en : Int} {sm bo bq : Nat} {fpO fpQ fpQ' : List Nat} {W' : List Ms} (gb : σ.get b = .cells (sesC pin cl on t w vw en sm bo bq (.slice none 0 0)) true 0) (hpin : vcells pin = [pin] ∧ oneCell pin = true) (hvw : vcells vw = [vw] ∧ oneCell vw = true) (hO : IsO σ bo F fpO) (hdj : disj fpO fpQ) (hbO : b ∉ fpO) (hbQ : b ∉ fpQ) (k : Kept σ fpQ σ' fpQ') (hQ' : IsQ σ' bq most W' fpQ') :
    IsS σ' b on t W' F most (b :: (fpO ++ fpQ')) ∧ Kept σ (b :: (fpO ++ fpQ)) σ' (b :: (fpO ++ fpQ')) := by
  obtain ⟨gb', hb'⟩ := k.at gb (by simp) hbQ
  refine ⟨⟨pin, cl, w, vw, en, sm, bo, bq, fpO, fpQ', gb', hpin, hvw, hO.kept k hdj, hQ', disj.new hdj hO.live k, hbO, hb', rfl⟩, k.wid (fun x h => by simp [h]) (fun x h => ?_)⟩
  simp only [List.mem_cons, List.mem_append] at h ⊢
  rcases h with h | h | h
  · exact .inr (.inl h)
  · exact .inr (.inr (.inl h))
  · exact .inl h
/-- what is under way becomes something else -/
theorem IsS.putO {σ' : AHeap} {pin : Value} {cl : ByteArray} {w : Wl} {vw : Value} {en : Int} {sm bo bq : Nat} {fpO fpQ fpO' : List Nat} {F' : List Fl} (gb : σ.get b = .cells (sesC pin cl on t w vw en sm bo bq (.slice none 0 0)) true 0) (hpin : vcells pin = [pin] ∧ oneCell pin = true) (hvw : vcells vw = [vw] ∧ oneCell vw = true) (hQ : IsQ σ bq most W fpQ) (hdj : disj fpO fpQ) (hbO : b ∉ fpO) (hbQ : b ∉ fpQ) (k : Kept σ fpO σ' fpO') (hO' : IsO σ' bo F' fpO') :
    IsS σ' b on t W F' most (b :: (fpO' ++ fpQ)) ∧ Kept σ (b :: (fpO ++ fpQ)) σ' (b :: (fpO' ++ fpQ)) := by
  obtain ⟨gb', hb'⟩ := k.at gb (by simp) hbO
  refine ⟨⟨pin, cl, w, vw, en, sm, bo, bq, fpO', fpQ, gb', hpin, hvw, hO', hQ.kept k hdj.symm, (disj.new hdj.symm hQ.live k).symm, hb', hbQ, rfl⟩, k.wid (fun x h => by simp [h]) (fun x h => ?_)⟩
  simp only [List.mem_cons, List.mem_append] at h ⊢
  rcases h with h | h | h
  · exact .inr (.inl h)
  · exact .inl h
  · exact .inr (.inr (.inr h))
theorem mapNe1 {cs : Bool} {m : Nat} : abin E σ .neq 66 cs (.map (some m)) (.map none) = some (.bool true) := by
  simp only [abin, nonNum, eqAsk, aeq, ty66]
  cases cs <;> rfl
theorem specGiven (hS : IsS σ b on t W F most fp) (hq : Q (.bool true) σ) : CallS E B 24 [.pointer (some ⟨b, 0, none⟩)] σ Q := by
  obtain ⟨pin, cl, w, vw, en, sm, bo, bq, fpO, fpQ, gb, hpin, hvw, hO, hQ, hdj, hbO, hbQ, rfl⟩ := hS
  simp only [sesC] at gb
  refine call24 (by simp) ?_
  simp only [strip, bodyOf, Try.f24, getD_body, keepN, bareOp_mk, lessOp_mk, lapp_cons, lapp_nil, List.map_cons, List.map_nil, array_toList, ↓reduceIte, Nat.reduceEqDiff, Bool.false_eq_true]
  simp (disch := first | assumption | simp) only [↓sbD, sbU, tyB, Nat.reduceMul, Nat.reduceSub, Int.reduceEq, Int.reduceLT, Int.reduceLE, Int.reduceNe, Nat.reduceBneDiff, Nat.reduceBEq, decide_false, gt_iff_lt, Bool.or_self, Bool.false_eq_true, Nat.mul_one, Nat.one_mul, Nat.zero_mul, ↓reduceIte, Nat.reduceEqDiff, Nat.reduceLT, Nat.reduceAdd, Nat.reduceLeDiff, reduceCtorEq, goInt, pairs, isConst, TI.isAgg, splice, boxS, Edp, dpv, Nat.beq_eq, ZV.val, List.any_cons, List.any_nil, Bool.false_and, gb, mapNe1]
  exact downS_here hq
theorem specOnline (hS : IsS σ b on t W F most fp) (hq : Q (.bool on) σ) : CallS E B 19 [.pointer (some ⟨b, 0, none⟩)] σ Q := by
  obtain ⟨pin, cl, w, vw, en, sm, bo, bq, fpO, fpQ, gb, hpin, hvw, hO, hQ, hdj, hbO, hbQ, rfl⟩ := hS
  simp only [sesC] at gb
  refine call19 (by simp) ?_
  simp only [strip, bodyOf, Try.f19, getD_body, keepN, bareOp_mk, lessOp_mk, lapp_cons, lapp_nil, List.map_cons, List.map_nil, array_toList, ↓reduceIte, Nat.reduceEqDiff, Bool.false_eq_true]
  simp (disch := first | assumption | simp) only [↓sbD, sbU, tyB, Nat.reduceMul, Nat.reduceSub, Int.reduceEq, Int.reduceLT, Int.reduceLE, Int.reduceNe, Nat.reduceBneDiff, Nat.reduceBEq, decide_false, gt_iff_lt, Bool.or_self, Bool.false_eq_true, Nat.mul_one, Nat.one_mul, Nat.zero_mul, ↓reduceIte, Nat.reduceEqDiff, Nat.reduceLT, Nat.reduceAdd, Nat.reduceLeDiff, reduceCtorEq, goInt, pairs, isConst, TI.isAgg, splice, boxS, Edp, dpv, Nat.beq_eq, ZV.val, List.any_cons, List.any_nil, Bool.false_and, gb]
  exact downS_here hq
theorem specFlights (hS : IsS σ b on t W F most fp) (hs : F.length ≤ 100000) (hq : ∀ v' σ' fp', GS flC 11 σ' v' F fp' → Kept σ [] σ' fp' → Q v' σ') : CallS E B 12 [.pointer (some ⟨b, 0, none⟩)] σ Q := by
  obtain ⟨pin, cl, w, vw, en, sm, bo, bq, fpO, fpQ, gb, hpin, hvw, hO, hQ, hdj, hbO, hbQ, rfl⟩ := hS
  simp only [sesC] at gb
  refine call12 (by simp) ?_
  simp only [strip, bodyOf, Try.f12, getD_body, keepN, bareOp_mk, lessOp_mk, lapp_cons, lapp_nil, List.map_cons, List.map_nil, array_toList, ↓reduceIte, Nat.reduceEqDiff, Bool.false_eq_true]
  simp (disch := first | assumption | simp) only [↓sbD, sbU, tyB, Nat.reduceMul, Nat.reduceSub, Int.reduceEq, Int.reduceLT, Int.reduceLE, Int.reduceNe, Nat.reduceBneDiff, Nat.reduceBEq, decide_false, gt_iff_lt, Bool.or_self, Bool.false_eq_true, Nat.mul_one, Nat.one_mul, Nat.zero_mul, ↓reduceIte, Nat.reduceEqDiff, Nat.reduceLT, Nat.reduceAdd, Nat.reduceLeDiff, reduceCtorEq, goInt, pairs, isConst, TI.isAgg, splice, boxS, Edp, dpv, Nat.beq_eq, ZV.val, List.any_cons, List.any_nil, Bool.false_and, gb]
  refine specOAll hO hs fun v' σ' fp' g k => ?_
  simp (disch := first | assumption | simp) only [↓sbD, sbU, tyB, Nat.reduceMul, Nat.reduceSub, Int.reduceEq, Int.reduceLT, Int.reduceLE, Int.reduceNe, Nat.reduceBneDiff, Nat.reduceBEq, decide_false, gt_iff_lt, Bool.or_self, Bool.false_eq_true, Nat.mul_one, Nat.one_mul, Nat.zero_mul, ↓reduceIte, Nat.reduceEqDiff, Nat.reduceLT, Nat.reduceAdd, Nat.reduceLeDiff, reduceCtorEq, goInt, pairs, isConst, TI.isAgg, splice, boxS, Edp, dpv, Nat.beq_eq, ZV.val, List.any_cons, List.any_nil, Bool.false_and]
  exact downS_here (hq _ _ _ g k)
theorem specWaiting (hS : IsS σ b on t W F most fp) (hs : W.length ≤ 100000) (hq : ∀ v' σ' fp', GS msC 9 σ' v' W fp' → Kept σ [] σ' fp' → Q v' σ') : CallS E B 14 [.pointer (some ⟨b, 0, none⟩)] σ Q := by
  obtain ⟨pin, cl, w, vw, en, sm, bo, bq, fpO, fpQ, gb, hpin, hvw, hO, hQ, hdj, hbO, hbQ, rfl⟩ := hS
  simp only [sesC] at gb
  refine call14 (by simp) ?_
  simp only [strip, bodyOf, Try.f14, getD_body, keepN, bareOp_mk, lessOp_mk, lapp_cons, lapp_nil, List.map_cons, List.map_nil, array_toList, ↓reduceIte, Nat.reduceEqDiff, Bool.false_eq_true]
  simp (disch := first | assumption | simp) only [↓sbD, sbU, tyB, Nat.reduceMul, Nat.reduceSub, Int.reduceEq, Int.reduceLT, Int.reduceLE, Int.reduceNe, Nat.reduceBneDiff, Nat.reduceBEq, decide_false, gt_iff_lt, Bool.or_self, Bool.false_eq_true, Nat.mul_one, Nat.one_mul, Nat.zero_mul, ↓reduceIte, Nat.reduceEqDiff, Nat.reduceLT, Nat.reduceAdd, Nat.reduceLeDiff, reduceCtorEq, goInt, pairs, isConst, TI.isAgg, splice, boxS, Edp, dpv, Nat.beq_eq, ZV.val, List.any_cons, List.any_nil, Bool.false_and, gb]
  refine sub37 (AbsN.specQAll hQ hs fun v' σ' fp' g k => ?_)
  simp (disch := first | assumption | simp) only [↓sbD, sbU, tyB, Nat.reduceMul, Nat.reduceSub, Int.reduceEq, Int.reduceLT, Int.reduceLE, Int.reduceNe, Nat.reduceBneDiff, Nat.reduceBEq, decide_false, gt_iff_lt, Bool.or_self, Bool.false_eq_true, Nat.mul_one, Nat.one_mul, Nat.zero_mul, ↓reduceIte, Nat.reduceEqDiff, Nat.reduceLT, Nat.reduceAdd, Nat.reduceLeDiff, reduceCtorEq, goInt, pairs, isConst, TI.isAgg, splice, boxS, Edp, dpv, Nat.beq_eq, ZV.val, List.any_cons, List.any_nil, Bool.false_and]
  exact downS_here (hq _ _ _ g k)
theorem specPush {m : Ms} (hS : IsS σ b true t W F most fp) (hz : W.length ≤ 100000) (hl : m.l.length ≤ 100000) (hr : (W.length : Int) < most)
    (hok : ∀ v h σ' fp', IsS σ' b true t (W ++ [m.withV v m.l h]) F most fp' → Kept σ fp σ' fp' → Q (.bool true) σ') :
    CallS E B 10 [.pointer (some ⟨b, 0, none⟩), .agg ⟨msC m⟩] σ Q := by
  have hS0 := hS
  obtain ⟨pin, cl, w, vw, en, sm, bo, bq, fpO, fpQ, gb, hpin, hvw, hO, hQ, hdj, hbO, hbQ, rfl⟩ := hS
  have hvc := m.vc
  have gb0 := gb
  simp only [sesC] at gb
  simp only [msCe]
  refine call10 (by simp) ?_
  simp only [strip, bodyOf, Try.f10, getD_body, keepN, bareOp_mk, lessOp_mk, lapp_cons, lapp_nil, List.map_cons, List.map_nil, array_toList, ↓reduceIte, Nat.reduceEqDiff, Bool.false_eq_true]
  simp (disch := first | assumption | simp) only [↓sbD, sbU, tyB, Nat.reduceMul, Nat.reduceSub, Int.reduceEq, Int.reduceLT, Int.reduceLE, Int.reduceNe, Nat.reduceBneDiff, Nat.reduceBEq, decide_false, gt_iff_lt, Bool.or_self, Bool.false_eq_true, Nat.mul_one, Nat.one_mul, Nat.zero_mul, ↓reduceIte, Nat.reduceEqDiff, Nat.reduceLT, Nat.reduceAdd, Nat.reduceLeDiff, reduceCtorEq, goInt, pairs, isConst, TI.isAgg, splice, boxS, Edp, dpv, Nat.beq_eq, ZV.val, List.any_cons, List.any_nil, Bool.false_and, AS_new, ndS.2.2.2.2.2.2.1, hvc.1, hvc.2]
  intro c hc
  generalize hσ1 : AHeap.set σ c _ = σ1
  have k1 : Kept σ [] σ1 [] := by rw [← hσ1]; exact (Kept.refl σ []).setD hc
  have gc1 : σ1.get c = .cells [.string m.t, .string m.p, .int .i64 m.q, .bool m.r, m.v, .string m.f, .int .i64 m.u, .int .i64 m.n, .string m.g] true 0 := by rw [← hσ1]; exact AHeap.get_set_same _ _ _
  have gb1 := (k1.at gb (by simp) (by simp)).1
  have gb01 := (k1.at gb0 (by simp) (by simp)).1
  have hQ1 := hQ.kept k1 (fun _ _ h => by cases h)
  have hO1 := hO.kept k1 (fun _ _ h => by cases h)
  have hS1 := hS0.kept k1 (fun _ _ h => by cases h)
  clear hσ1
  try simp (disch := first | assumption | simp) only [↓sbD, sbU, tyB, Nat.reduceMul, Nat.reduceSub, Int.reduceEq, Int.reduceLT, Int.reduceLE, Int.reduceNe, Nat.reduceBneDiff, Nat.reduceBEq, decide_false, gt_iff_lt, Bool.or_self, Bool.false_eq_true, Nat.mul_one, Nat.one_mul, Nat.zero_mul, ↓reduceIte, Nat.reduceEqDiff, Nat.reduceLT, Nat.reduceAdd, Nat.reduceLeDiff, reduceCtorEq, goInt, pairs, isConst, TI.isAgg, splice, boxS, Edp, dpv, Nat.beq_eq, ZV.val, List.any_cons, List.any_nil, Bool.false_and]
  refine specGiven hS1 ?_
  by_cases hq0 : m.q = 0
  focus simp (disch := first | assumption | simp) only [↓sbD, sbU, tyB, Nat.reduceMul, Nat.reduceSub, Int.reduceEq, Int.reduceLT, Int.reduceLE, Int.reduceNe, Nat.reduceBneDiff, Nat.reduceBEq, decide_false, gt_iff_lt, Bool.or_self, Bool.false_eq_true, Nat.mul_one, Nat.one_mul, Nat.zero_mul, ↓reduceIte, Nat.reduceEqDiff, Nat.reduceLT, Nat.reduceAdd, Nat.reduceLeDiff, reduceCtorEq, goInt, pairs, isConst, TI.isAgg, splice, boxS, Edp, dpv, Nat.beq_eq, ZV.val, List.any_cons, List.any_nil, Bool.false_and, gc1, gb1, eq_true hq0]
  rotate_left
  focus simp (disch := first | assumption | simp) only [↓sbD, sbU, tyB, Nat.reduceMul, Nat.reduceSub, Int.reduceEq, Int.reduceLT, Int.reduceLE, Int.reduceNe, Nat.reduceBneDiff, Nat.reduceBEq, decide_false, gt_iff_lt, Bool.or_self, Bool.false_eq_true, Nat.mul_one, Nat.one_mul, Nat.zero_mul, ↓reduceIte, Nat.reduceEqDiff, Nat.reduceLT, Nat.reduceAdd, Nat.reduceLeDiff, reduceCtorEq, goInt, pairs, isConst, TI.isAgg, splice, boxS, Edp, dpv, Nat.beq_eq, ZV.val, List.any_cons, List.any_nil, Bool.false_and, gc1, gb1, hq0]
  all_goals
    refine sub28 (AbsN.specQPush (m := m) hQ1 hz hl (fun h => by omega) fun _ v2 h2 σ2 fp2 hQ2 k2 => ?_)
    simp (disch := first | assumption | simp) only [↓sbD, sbU, tyB, Nat.reduceMul, Nat.reduceSub, Int.reduceEq, Int.reduceLT, Int.reduceLE, Int.reduceNe, Nat.reduceBneDiff, Nat.reduceBEq, decide_false, gt_iff_lt, Bool.or_self, Bool.false_eq_true, Nat.mul_one, Nat.one_mul, Nat.zero_mul, ↓reduceIte, Nat.reduceEqDiff, Nat.reduceLT, Nat.reduceAdd, Nat.reduceLeDiff, reduceCtorEq, goInt, pairs, isConst, TI.isAgg, splice, boxS, Edp, dpv, Nat.beq_eq, ZV.val, List.any_cons, List.any_nil, Bool.false_and]
    obtain ⟨hS2, K2⟩ := IsS.putQ gb01 hpin hvw hO1 hdj hbO hbQ k2 hQ2
    exact downS_here (hok v2 h2 σ2 _ hS2 ((k1.wid (fun _ h => by cases h) (fun _ h => .inr h)).trans K2))
theorem eqp_nil {cs : Bool} : abin E σ .eql 71 cs (.slice none 0 0) (.slice none 0 0) = some (.bool true) := by
  simp only [abin, nonNum, eqAsk, aeq, ty71]
  cases cs <;> rfl
theorem specClK0 (h : Q (.slice none 0 0) σ) : CallS E B 45 [.slice none 0 0] σ Q := by
  refine call45 (by simp) ?_
  simp only [strip, bodyOf, Try.f45, getD_body, keepN, bareOp_mk, lessOp_mk, lapp_cons, lapp_nil, List.map_cons, List.map_nil, array_toList, ↓reduceIte, Nat.reduceEqDiff, Bool.false_eq_true]
  simp (disch := first | assumption | simp) only [↓sbD, sbU, tyB, Nat.reduceMul, Nat.reduceSub, Int.reduceEq, Int.reduceLT, Int.reduceLE, Int.reduceNe, Nat.reduceBneDiff, Nat.reduceBEq, decide_false, gt_iff_lt, Bool.or_self, Bool.false_eq_true, Nat.mul_one, Nat.one_mul, Nat.zero_mul, ↓reduceIte, Nat.reduceEqDiff, Nat.reduceLT, Nat.reduceAdd, Nat.reduceLeDiff, reduceCtorEq, goInt, pairs, isConst, TI.isAgg, splice, boxS, Edp, dpv, Nat.beq_eq, ZV.val, List.any_cons, List.any_nil, Bool.false_and, eqp_nil]
  exact downS_here h
theorem specIdK0 {f : Value} (h : Q (.int .i64 (-1)) σ) : CallS E B 61 [.slice none 0 0, f] σ Q := by
  refine call61 (by simp) ?_
  simp only [strip, bodyOf, Try.f61, getD_body, keepN, bareOp_mk, lessOp_mk, lapp_cons, lapp_nil, List.map_cons, List.map_nil, array_toList, ↓reduceIte, Nat.reduceEqDiff, Bool.false_eq_true]
  simp (disch := first | assumption | simp) only [↓sbD, sbU, tyB, Nat.reduceMul, Nat.reduceSub, Int.reduceEq, Int.reduceLT, Int.reduceLE, Int.reduceNe, Nat.reduceBneDiff, Nat.reduceBEq, decide_false, gt_iff_lt, Bool.or_self, Bool.false_eq_true, Nat.mul_one, Nat.one_mul, Nat.zero_mul, ↓reduceIte, Nat.reduceEqDiff, Nat.reduceLT, Nat.reduceAdd, Nat.reduceLeDiff, reduceCtorEq, goInt, pairs, isConst, TI.isAgg, splice, boxS, Edp, dpv, Nat.beq_eq, ZV.val, List.any_cons, List.any_nil, Bool.false_and]
  refine S_loop (fun m f σ' => σ' = σ ∧ f 8 = .int .i64 0) 0 (Le.refl _) ⟨rfl, by simp (disch := first | assumption | simp) only [↓sbD, sbU, tyB, Nat.reduceMul, Nat.reduceSub, Int.reduceEq, Int.reduceLT, Int.reduceLE, Int.reduceNe, Nat.reduceBneDiff, Nat.reduceBEq, decide_false, gt_iff_lt, Bool.or_self, Bool.false_eq_true, Nat.mul_one, Nat.one_mul, Nat.zero_mul, ↓reduceIte, Nat.reduceEqDiff, Nat.reduceLT, Nat.reduceAdd, Nat.reduceLeDiff, reduceCtorEq, goInt, pairs, isConst, TI.isAgg, splice, boxS, Edp, dpv, Nat.beq_eq, ZV.val, List.any_cons, List.any_nil, Bool.false_and]⟩ ?_
  rintro m f σ' ⟨rfl, f8⟩ hf
  have f7 := hf 7 (by decide) (notMem_wr (by kernel_rfl))
  simp (disch := first | assumption | simp) only [↓sbD, sbU, tyB, Nat.reduceMul, Nat.reduceSub, Int.reduceEq, Int.reduceLT, Int.reduceLE, Int.reduceNe, Nat.reduceBneDiff, Nat.reduceBEq, decide_false, gt_iff_lt, Bool.or_self, Bool.false_eq_true, Nat.mul_one, Nat.one_mul, Nat.zero_mul, ↓reduceIte, Nat.reduceEqDiff, Nat.reduceLT, Nat.reduceAdd, Nat.reduceLeDiff, reduceCtorEq, goInt, pairs, isConst, TI.isAgg, splice, boxS, Edp, dpv, Nat.beq_eq, ZV.val, List.any_cons, List.any_nil, Bool.false_and] at f7
  clear hf
  have h00 : ((0 : Nat) : Int) = 0 := rfl
  simp (disch := first | assumption | simp) only [↓sbD, sbU, tyB, Nat.reduceMul, Nat.reduceSub, Int.reduceEq, Int.reduceLT, Int.reduceLE, Int.reduceNe, Nat.reduceBneDiff, Nat.reduceBEq, decide_false, gt_iff_lt, Bool.or_self, Bool.false_eq_true, Nat.mul_one, Nat.one_mul, Nat.zero_mul, ↓reduceIte, Nat.reduceEqDiff, Nat.reduceLT, Nat.reduceAdd, Nat.reduceLeDiff, reduceCtorEq, goInt, pairs, isConst, TI.isAgg, splice, boxS, Edp, dpv, Nat.beq_eq, ZV.val, List.any_cons, List.any_nil, Bool.false_and, f7, f8, h00]
  exact downS_here h
theorem specDlK0 {f : Value} (h : Q (.slice none 0 0) σ) : CallS E B 44 [.slice none 0 0, f] σ Q := by
  refine call44 (by simp) ?_
  simp only [strip, bodyOf, Try.f44, getD_body, keepN, bareOp_mk, lessOp_mk, lapp_cons, lapp_nil, List.map_cons, List.map_nil, array_toList, ↓reduceIte, Nat.reduceEqDiff, Bool.false_eq_true]
  simp (disch := first | assumption | simp) only [↓sbD, sbU, tyB, Nat.reduceMul, Nat.reduceSub, Int.reduceEq, Int.reduceLT, Int.reduceLE, Int.reduceNe, Nat.reduceBneDiff, Nat.reduceBEq, decide_false, gt_iff_lt, Bool.or_self, Bool.false_eq_true, Nat.mul_one, Nat.one_mul, Nat.zero_mul, ↓reduceIte, Nat.reduceEqDiff, Nat.reduceLT, Nat.reduceAdd, Nat.reduceLeDiff, reduceCtorEq, goInt, pairs, isConst, TI.isAgg, splice, boxS, Edp, dpv, Nat.beq_eq, ZV.val, List.any_cons, List.any_nil, Bool.false_and]
  refine specIdK0 ?_
  simp (disch := first | assumption | simp) only [↓sbD, sbU, tyB, Nat.reduceMul, Nat.reduceSub, Int.reduceEq, Int.reduceLT, Int.reduceLE, Int.reduceNe, Nat.reduceBneDiff, Nat.reduceBEq, decide_false, gt_iff_lt, Bool.or_self, Bool.false_eq_true, Nat.mul_one, Nat.one_mul, Nat.zero_mul, ↓reduceIte, Nat.reduceEqDiff, Nat.reduceLT, Nat.reduceAdd, Nat.reduceLeDiff, reduceCtorEq, goInt, pairs, isConst, TI.isAgg, splice, boxS, Edp, dpv, Nat.beq_eq, ZV.val, List.any_cons, List.any_nil, Bool.false_and]
  exact downS_here h
theorem specLeftK (hS : IsS σ b on t W F most fp) (hq : ∀ σ', Kept σ [] σ' [] → Q (.slice none 0 0) σ') : CallS E B 29 [.pointer (some ⟨b, 0, none⟩)] σ Q := by
  obtain ⟨pin, cl, w, vw, en, sm, bo, bq, fpO, fpQ, gb, hpin, hvw, hO, hQ, hdj, hbO, hbQ, rfl⟩ := hS
  simp only [sesC] at gb
  refine call29 (by simp) ?_
  simp only [strip, bodyOf, Try.f29, getD_body, keepN, bareOp_mk, lessOp_mk, lapp_cons, lapp_nil, List.map_cons, List.map_nil, array_toList, ↓reduceIte, Nat.reduceEqDiff, Bool.false_eq_true]
  simp (disch := first | assumption | simp) only [↓sbD, sbU, tyB, Nat.reduceMul, Nat.reduceSub, Int.reduceEq, Int.reduceLT, Int.reduceLE, Int.reduceNe, Nat.reduceBneDiff, Nat.reduceBEq, decide_false, gt_iff_lt, Bool.or_self, Bool.false_eq_true, Nat.mul_one, Nat.one_mul, Nat.zero_mul, ↓reduceIte, Nat.reduceEqDiff, Nat.reduceLT, Nat.reduceAdd, Nat.reduceLeDiff, reduceCtorEq, goInt, pairs, isConst, TI.isAgg, splice, boxS, Edp, dpv, Nat.beq_eq, ZV.val, List.any_cons, List.any_nil, Bool.false_and, AS_new, ndS.2.2.2.2.1]
  intro c hc
  have hcb : c ≠ b := nd hc gb (by simp)
  have cb : ∀ (τ : AHeap) o, (AHeap.set τ c o).get b = τ.get b := fun τ o => AHeap.get_set_ne _ _ hcb
  try simp (disch := first | assumption | simp) only [↓sbD, sbU, tyB, Nat.reduceMul, Nat.reduceSub, Int.reduceEq, Int.reduceLT, Int.reduceLE, Int.reduceNe, Nat.reduceBneDiff, Nat.reduceBEq, decide_false, gt_iff_lt, Bool.or_self, Bool.false_eq_true, Nat.mul_one, Nat.one_mul, Nat.zero_mul, ↓reduceIte, Nat.reduceEqDiff, Nat.reduceLT, Nat.reduceAdd, Nat.reduceLeDiff, reduceCtorEq, goInt, pairs, isConst, TI.isAgg, splice, boxS, Edp, dpv, Nat.beq_eq, ZV.val, List.any_cons, List.any_nil, Bool.false_and, AHeap.get_set_same, cb, gb]
  refine specClK0 ?_
  simp (disch := first | assumption | simp) only [↓sbD, sbU, tyB, Nat.reduceMul, Nat.reduceSub, Int.reduceEq, Int.reduceLT, Int.reduceLE, Int.reduceNe, Nat.reduceBneDiff, Nat.reduceBEq, decide_false, gt_iff_lt, Bool.or_self, Bool.false_eq_true, Nat.mul_one, Nat.one_mul, Nat.zero_mul, ↓reduceIte, Nat.reduceEqDiff, Nat.reduceLT, Nat.reduceAdd, Nat.reduceLeDiff, reduceCtorEq, goInt, pairs, isConst, TI.isAgg, splice, boxS, Edp, dpv, Nat.beq_eq, ZV.val, List.any_cons, List.any_nil, Bool.false_and, AbsS.arr_map]
  refine specDlK0 ?_
  simp (disch := first | assumption | simp) only [↓sbD, sbU, tyB, Nat.reduceMul, Nat.reduceSub, Int.reduceEq, Int.reduceLT, Int.reduceLE, Int.reduceNe, Nat.reduceBneDiff, Nat.reduceBEq, decide_false, gt_iff_lt, Bool.or_self, Bool.false_eq_true, Nat.mul_one, Nat.one_mul, Nat.zero_mul, ↓reduceIte, Nat.reduceEqDiff, Nat.reduceLT, Nat.reduceAdd, Nat.reduceLeDiff, reduceCtorEq, goInt, pairs, isConst, TI.isAgg, splice, boxS, Edp, dpv, Nat.beq_eq, ZV.val, List.any_cons, List.any_nil, Bool.false_and]
  exact downS_here (hq _ ((Kept.refl σ []).setD hc))
theorem specRoom (hS : IsS σ b true t W F most fp) (hr : 0 ≤ t.r ∧ t.r ≤ 1000000) (hF : F.length ≤ 100000) (hq : ∀ σ' (n : Int), Kept σ [] σ' [] → (0 < n ↔ (F.length : Int) < t.r) → Q (.int .i64 n) σ') : CallS E B 51 [.pointer (some ⟨b, 0, none⟩)] σ Q := by
  have hS0 := hS
  obtain ⟨pin, cl, w, vw, en, sm, bo, bq, fpO, fpQ, gb, hpin, hvw, hO, hQ, hdj, hbO, hbQ, rfl⟩ := hS
  simp only [sesC] at gb
  have h00 : ((0 : Nat) : Int) = 0 := rfl
  have hsub : aint .sub .i64 t.r (F.length : Int) = some (.int .i64 (t.r - (F.length : Int))) := by
    show some (Value.int .i64 (IntKind.i64.wrap (t.r - (F.length : Int)))) = _
    rw [wrap64 ⟨by omega, by omega⟩]
  refine call51 (by simp) ?_
  simp only [strip, bodyOf, Try.f51, getD_body, keepN, bareOp_mk, lessOp_mk, lapp_cons, lapp_nil, List.map_cons, List.map_nil, array_toList, ↓reduceIte, Nat.reduceEqDiff, Bool.false_eq_true]
  simp (disch := first | assumption | simp) only [↓sbD, sbU, tyB, Nat.reduceMul, Nat.reduceSub, Int.reduceEq, Int.reduceLT, Int.reduceLE, Int.reduceNe, Nat.reduceBneDiff, Nat.reduceBEq, decide_false, gt_iff_lt, Bool.or_self, Bool.false_eq_true, Nat.mul_one, Nat.one_mul, Nat.zero_mul, ↓reduceIte, Nat.reduceEqDiff, Nat.reduceLT, Nat.reduceAdd, Nat.reduceLeDiff, reduceCtorEq, goInt, pairs, isConst, TI.isAgg, splice, boxS, Edp, dpv, Nat.beq_eq, ZV.val, List.any_cons, List.any_nil, Bool.false_and]
  refine specOnline hS0 ?_
  simp (disch := first | assumption | simp) only [↓sbD, sbU, tyB, Nat.reduceMul, Nat.reduceSub, Int.reduceEq, Int.reduceLT, Int.reduceLE, Int.reduceNe, Nat.reduceBneDiff, Nat.reduceBEq, decide_false, gt_iff_lt, Bool.or_self, Bool.false_eq_true, Nat.mul_one, Nat.one_mul, Nat.zero_mul, ↓reduceIte, Nat.reduceEqDiff, Nat.reduceLT, Nat.reduceAdd, Nat.reduceLeDiff, reduceCtorEq, goInt, pairs, isConst, TI.isAgg, splice, boxS, Edp, dpv, Nat.beq_eq, ZV.val, List.any_cons, List.any_nil, Bool.false_and, not_bool, Bool.not_true]
  refine specLeftK hS0 fun σ1 k1 => ?_
  have gb1 := (k1.at gb (by simp) (by simp)).1
  have hO1 := hO.kept k1 (fun _ _ h => by cases h)
  by_cases hlt : (0 : Int) < t.r - (F.length : Int)
  · simp (disch := first | assumption | simp) only [↓sbD, sbU, tyB, Nat.reduceMul, Nat.reduceSub, Int.reduceEq, Int.reduceLT, Int.reduceLE, Int.reduceNe, Nat.reduceBneDiff, Nat.reduceBEq, decide_false, gt_iff_lt, Bool.or_self, Bool.false_eq_true, Nat.mul_one, Nat.one_mul, Nat.zero_mul, ↓reduceIte, Nat.reduceEqDiff, Nat.reduceLT, Nat.reduceAdd, Nat.reduceLeDiff, reduceCtorEq, goInt, pairs, isConst, TI.isAgg, splice, boxS, Edp, dpv, Nat.beq_eq, ZV.val, List.any_cons, List.any_nil, Bool.false_and, h00, gb1]
    refine specOLen hO1 ?_
    simp (disch := first | assumption | simp) only [↓sbD, sbU, tyB, Nat.reduceMul, Nat.reduceSub, Int.reduceEq, Int.reduceLT, Int.reduceLE, Int.reduceNe, Nat.reduceBneDiff, Nat.reduceBEq, decide_false, gt_iff_lt, Bool.or_self, Bool.false_eq_true, Nat.mul_one, Nat.one_mul, Nat.zero_mul, ↓reduceIte, Nat.reduceEqDiff, Nat.reduceLT, Nat.reduceAdd, Nat.reduceLeDiff, reduceCtorEq, goInt, pairs, isConst, TI.isAgg, splice, boxS, Edp, dpv, Nat.beq_eq, ZV.val, List.any_cons, List.any_nil, Bool.false_and, hsub, hlt]
    refine drawS_l (fl := [(4, 9)]) (by kernel_rfl) ?_ ?_
    rotate_left; simp only [lastP_cc, lastP_one]; rotate_left
    · simp only [List.all_cons, List.all_nil, floatS, List.getElem?_cons_succ, List.getElem?_cons_zero, List.getElem?_toArray, Region.wanted, Bool.not_true, Bool.not_false, Bool.false_or, Bool.true_or, Bool.or_true, Bool.true_and, reads, looksWeak, aev_tmp, aev_const, upd_at, ↓reduceIte, Nat.reduceEqDiff, Nat.reduceLT, Nat.reduceAdd, ofL_zero, ofL_succ, blkOf, oeq_refl, oeq_of, dead_cells, dead_map, Bool.and_true, Bool.and_self, Bool.false_eq_true, Bool.not_false, gb1]
      try rfl
    simp (disch := first | assumption | simp) only [↓sbD, sbU, tyB, Nat.reduceMul, Nat.reduceSub, Int.reduceEq, Int.reduceLT, Int.reduceLE, Int.reduceNe, Nat.reduceBneDiff, Nat.reduceBEq, decide_false, gt_iff_lt, Bool.or_self, Bool.false_eq_true, Nat.mul_one, Nat.one_mul, Nat.zero_mul, ↓reduceIte, Nat.reduceEqDiff, Nat.reduceLT, Nat.reduceAdd, Nat.reduceLeDiff, reduceCtorEq, goInt, pairs, isConst, TI.isAgg, splice, boxS, Edp, dpv, Nat.beq_eq, ZV.val, List.any_cons, List.any_nil, Bool.false_and, hsub, hlt]
    exact downS_here (hq _ _ k1 (by constructor <;> omega))
  · simp (disch := first | assumption | simp) only [↓sbD, sbU, tyB, Nat.reduceMul, Nat.reduceSub, Int.reduceEq, Int.reduceLT, Int.reduceLE, Int.reduceNe, Nat.reduceBneDiff, Nat.reduceBEq, decide_false, gt_iff_lt, Bool.or_self, Bool.false_eq_true, Nat.mul_one, Nat.one_mul, Nat.zero_mul, ↓reduceIte, Nat.reduceEqDiff, Nat.reduceLT, Nat.reduceAdd, Nat.reduceLeDiff, reduceCtorEq, goInt, pairs, isConst, TI.isAgg, splice, boxS, Edp, dpv, Nat.beq_eq, ZV.val, List.any_cons, List.any_nil, Bool.false_and, h00, gb1]
    refine specOLen hO1 ?_
    simp (disch := first | assumption | simp) only [↓sbD, sbU, tyB, Nat.reduceMul, Nat.reduceSub, Int.reduceEq, Int.reduceLT, Int.reduceLE, Int.reduceNe, Nat.reduceBneDiff, Nat.reduceBEq, decide_false, gt_iff_lt, Bool.or_self, Bool.false_eq_true, Nat.mul_one, Nat.one_mul, Nat.zero_mul, ↓reduceIte, Nat.reduceEqDiff, Nat.reduceLT, Nat.reduceAdd, Nat.reduceLeDiff, reduceCtorEq, goInt, pairs, isConst, TI.isAgg, splice, boxS, Edp, dpv, Nat.beq_eq, ZV.val, List.any_cons, List.any_nil, Bool.false_and, hsub, hlt]
    refine drawS_l (fl := [(4, 9)]) (by kernel_rfl) ?_ ?_
    rotate_left; simp only [lastP_cc, lastP_one]; rotate_left
    · simp only [List.all_cons, List.all_nil, floatS, List.getElem?_cons_succ, List.getElem?_cons_zero, List.getElem?_toArray, Region.wanted, Bool.not_true, Bool.not_false, Bool.false_or, Bool.true_or, Bool.or_true, Bool.true_and, reads, looksWeak, aev_tmp, aev_const, upd_at, ↓reduceIte, Nat.reduceEqDiff, Nat.reduceLT, Nat.reduceAdd, ofL_zero, ofL_succ, blkOf, oeq_refl, oeq_of, dead_cells, dead_map, Bool.and_true, Bool.and_self, Bool.false_eq_true, Bool.not_false, gb1]
      try rfl
    simp (disch := first | assumption | simp) only [↓sbD, sbU, tyB, Nat.reduceMul, Nat.reduceSub, Int.reduceEq, Int.reduceLT, Int.reduceLE, Int.reduceNe, Nat.reduceBneDiff, Nat.reduceBEq, decide_false, gt_iff_lt, Bool.or_self, Bool.false_eq_true, Nat.mul_one, Nat.one_mul, Nat.zero_mul, ↓reduceIte, Nat.reduceEqDiff, Nat.reduceLT, Nat.reduceAdd, Nat.reduceLeDiff, reduceCtorEq, goInt, pairs, isConst, TI.isAgg, splice, boxS, Edp, dpv, Nat.beq_eq, ZV.val, List.any_cons, List.any_nil, Bool.false_and, hsub, hlt]
    exact downS_here (hq _ _ k1 (by constructor <;> omega))
theorem specMay {m : Ms} (hS : IsS σ b true t W F most fp) (hr : 0 ≤ t.r ∧ t.r ≤ 1000000) (hF : F.length ≤ 100000) (hq : ∀ σ', Kept σ [] σ' [] → Q (.bool (decide (m.q ≤ 0 ∨ (F.length : Int) < t.r))) σ') : CallS E B 32 [.pointer (some ⟨b, 0, none⟩), .agg ⟨msC m⟩] σ Q := by
  have hvc := m.vc
  simp only [msCe]
  refine call32 (by simp) ?_
  simp only [strip, bodyOf, Try.f32, getD_body, keepN, bareOp_mk, lessOp_mk, lapp_cons, lapp_nil, List.map_cons, List.map_nil, array_toList, ↓reduceIte, Nat.reduceEqDiff, Bool.false_eq_true]
  simp (disch := first | assumption | simp) only [↓sbD, sbU, tyB, Nat.reduceMul, Nat.reduceSub, Int.reduceEq, Int.reduceLT, Int.reduceLE, Int.reduceNe, Nat.reduceBneDiff, Nat.reduceBEq, decide_false, gt_iff_lt, Bool.or_self, Bool.false_eq_true, Nat.mul_one, Nat.one_mul, Nat.zero_mul, ↓reduceIte, Nat.reduceEqDiff, Nat.reduceLT, Nat.reduceAdd, Nat.reduceLeDiff, reduceCtorEq, goInt, pairs, isConst, TI.isAgg, splice, boxS, Edp, dpv, Nat.beq_eq, ZV.val, List.any_cons, List.any_nil, Bool.false_and, AS_new, ndS.2.2.2.2.2.2.1, hvc.1, hvc.2]
  intro c hc
  generalize hσ1 : AHeap.set σ c _ = σ1
  have k1 : Kept σ [] σ1 [] := by rw [← hσ1]; exact (Kept.refl σ []).setD hc
  have gc1 : σ1.get c = .cells [.string m.t, .string m.p, .int .i64 m.q, .bool m.r, m.v, .string m.f, .int .i64 m.u, .int .i64 m.n, .string m.g] true 0 := by rw [← hσ1]; exact AHeap.get_set_same _ _ _
  have hS1 := hS.kept k1 (fun _ _ h => by cases h)
  clear hσ1
  by_cases h0 : m.q ≤ 0
  · simp (disch := first | assumption | simp) only [↓sbD, sbU, tyB, Nat.reduceMul, Nat.reduceSub, Int.reduceEq, Int.reduceLT, Int.reduceLE, Int.reduceNe, Nat.reduceBneDiff, Nat.reduceBEq, decide_false, gt_iff_lt, Bool.or_self, Bool.false_eq_true, Nat.mul_one, Nat.one_mul, Nat.zero_mul, ↓reduceIte, Nat.reduceEqDiff, Nat.reduceLT, Nat.reduceAdd, Nat.reduceLeDiff, reduceCtorEq, goInt, pairs, isConst, TI.isAgg, splice, boxS, Edp, dpv, Nat.beq_eq, ZV.val, List.any_cons, List.any_nil, Bool.false_and, gc1, h0]
    have := hq _ k1
    rw [decide_eq_true (.inl h0)] at this
    exact downS_here this
  · simp (disch := first | assumption | simp) only [↓sbD, sbU, tyB, Nat.reduceMul, Nat.reduceSub, Int.reduceEq, Int.reduceLT, Int.reduceLE, Int.reduceNe, Nat.reduceBneDiff, Nat.reduceBEq, decide_false, gt_iff_lt, Bool.or_self, Bool.false_eq_true, Nat.mul_one, Nat.one_mul, Nat.zero_mul, ↓reduceIte, Nat.reduceEqDiff, Nat.reduceLT, Nat.reduceAdd, Nat.reduceLeDiff, reduceCtorEq, goInt, pairs, isConst, TI.isAgg, splice, boxS, Edp, dpv, Nat.beq_eq, ZV.val, List.any_cons, List.any_nil, Bool.false_and, gc1, h0]
    refine specRoom hS1 hr hF fun σ2 n k2 hn => ?_
    have := hq _ (k1.trans k2)
    by_cases hp : 0 < n
    · simp (disch := first | assumption | simp) only [↓sbD, sbU, tyB, Nat.reduceMul, Nat.reduceSub, Int.reduceEq, Int.reduceLT, Int.reduceLE, Int.reduceNe, Nat.reduceBneDiff, Nat.reduceBEq, decide_false, gt_iff_lt, Bool.or_self, Bool.false_eq_true, Nat.mul_one, Nat.one_mul, Nat.zero_mul, ↓reduceIte, Nat.reduceEqDiff, Nat.reduceLT, Nat.reduceAdd, Nat.reduceLeDiff, reduceCtorEq, goInt, pairs, isConst, TI.isAgg, splice, boxS, Edp, dpv, Nat.beq_eq, ZV.val, List.any_cons, List.any_nil, Bool.false_and, hp]
      rw [decide_eq_true (.inr (hn.1 hp))] at this
      exact downS_here this
    · simp (disch := first | assumption | simp) only [↓sbD, sbU, tyB, Nat.reduceMul, Nat.reduceSub, Int.reduceEq, Int.reduceLT, Int.reduceLE, Int.reduceNe, Nat.reduceBneDiff, Nat.reduceBEq, decide_false, gt_iff_lt, Bool.or_self, Bool.false_eq_true, Nat.mul_one, Nat.one_mul, Nat.zero_mul, ↓reduceIte, Nat.reduceEqDiff, Nat.reduceLT, Nat.reduceAdd, Nat.reduceLeDiff, reduceCtorEq, goInt, pairs, isConst, TI.isAgg, splice, boxS, Edp, dpv, Nat.beq_eq, ZV.val, List.any_cons, List.any_nil, Bool.false_and, hp]
      rw [decide_eq_false (fun h => h.elim h0 fun h => hp (hn.2 h))] at this
      exact downS_here this
end
end Go.Proofs.Ytkhcbbpfchgemaa.AbsA
namespace Go.Proofs.Ytkhcbbpfchgemaa.AbsA
open Go AbsYtkhcbbpfchgemaa Abs
open AbsS (msgC PS)
set_option maxRecDepth 100000
set_option maxHeartbeats 4000000
set_option linter.unusedSimpArgs false
set_option linter.unusedVariables false
attribute [local irreducible] afterS afterOpS opSK OpsS TrS CodeS condS condW thenS thenQ guardS guardTS outS drawS trSK consS
section
variable {σ : AHeap} {Q : Value → AHeap → Prop} {b : Nat} {on : Bool} {t : Tm} {W : List Ms} {F : List Fl} {most : Int} {fp : List Nat}
def tm0 : Tm := ⟨0, 0, 0, 0, 0, false⟩
theorem specINew {n : Int} (hq : ∀ b σ', Kept σ [] σ' [] → Q (.pointer (some ⟨b, 0, none⟩)) σ') : CallS E B 21 [.int .i64 n] σ Q := by
  refine call21 (by simp) ?_
  simp only [strip, bodyOf, Try.f21, getD_body, keepN, bareOp_mk, lessOp_mk, lapp_cons, lapp_nil, List.map_cons, List.map_nil, array_toList, ↓reduceIte, Nat.reduceEqDiff, Bool.false_eq_true]
  simp (disch := first | assumption | simp) only [↓sbD, sbU, tyB, Nat.reduceMul, Nat.reduceSub, Int.reduceEq, Int.reduceLT, Int.reduceLE, Int.reduceNe, Nat.reduceBneDiff, Nat.reduceBEq, decide_false, gt_iff_lt, Bool.or_self, Bool.false_eq_true, Nat.mul_one, Nat.one_mul, Nat.zero_mul, ↓reduceIte, Nat.reduceEqDiff, Nat.reduceLT, Nat.reduceAdd, Nat.reduceLeDiff, reduceCtorEq, goInt, pairs, isConst, TI.isAgg, splice, boxS, Edp, dpv, Nat.beq_eq, ZV.val, List.any_cons, List.any_nil, Bool.false_and, AS_new, ndS.2.2.2.2.2.1]
  intro c hc d hd
  have hcd : c ≠ d := by rintro rfl; rw [AHeap.get_set_same] at hd; cases hd
  have hdd : σ.get d = .dead := by rw [AHeap.get_set_ne _ _ hcd] at hd; exact hd
  exact downS_here (hq d _ (((Kept.refl σ []).setD hc).setD hdd))
theorem specSNew {x0 x1 x2 x3 x4 x5 x6 x7 x8 x9 x10 x11 x12 : Int} {cl : ByteArray} (hq : ∀ b σ' fp', IsS σ' b false tm0 [] [] x4 fp' → Kept σ [] σ' fp' → Q (.pointer (some ⟨b, 0, none⟩)) σ') :
    CallS E B 7 [.string cl, .agg ⟨[.int .i64 x0, .int .i64 x1, .int .i64 x2, .int .i64 x3, .int .i64 x4, .int .i64 x5, .int .i64 x6, .int .i64 x7, .int .i64 x8, .int .i64 x9, .int .i64 x10, .int .i64 x11, .int .i64 x12]⟩] σ Q := by
  refine call7 (by simp) ?_
  simp only [strip, bodyOf, Try.f7, getD_body, keepN, bareOp_mk, lessOp_mk, lapp_cons, lapp_nil, List.map_cons, List.map_nil, array_toList, ↓reduceIte, Nat.reduceEqDiff, Bool.false_eq_true]
  simp (disch := first | assumption | simp) only [↓sbD, sbU, tyB, Nat.reduceMul, Nat.reduceSub, Int.reduceEq, Int.reduceLT, Int.reduceLE, Int.reduceNe, Nat.reduceBneDiff, Nat.reduceBEq, decide_false, gt_iff_lt, Bool.or_self, Bool.false_eq_true, Nat.mul_one, Nat.one_mul, Nat.zero_mul, ↓reduceIte, Nat.reduceEqDiff, Nat.reduceLT, Nat.reduceAdd, Nat.reduceLeDiff, reduceCtorEq, goInt, pairs, isConst, TI.isAgg, splice, boxS, Edp, dpv, Nat.beq_eq, ZV.val, List.any_cons, List.any_nil, Bool.false_and, AS_new, ndS.2.2.2.1]
  intro c hc
  generalize hσ1 : AHeap.set σ c _ = σ1
  have k1 : Kept σ [] σ1 [] := by rw [← hσ1]; exact (Kept.refl σ []).setD hc
  have gc1 : σ1.get c = .cells [.int .i64 x0, .int .i64 x1, .int .i64 x2, .int .i64 x3, .int .i64 x4, .int .i64 x5, .int .i64 x6, .int .i64 x7, .int .i64 x8, .int .i64 x9, .int .i64 x10, .int .i64 x11, .int .i64 x12] true 0 := by rw [← hσ1]; exact AHeap.get_set_same _ _ _
  clear hσ1
  try simp (disch := first | assumption | simp) only [↓sbD, sbU, tyB, Nat.reduceMul, Nat.reduceSub, Int.reduceEq, Int.reduceLT, Int.reduceLE, Int.reduceNe, Nat.reduceBneDiff, Nat.reduceBEq, decide_false, gt_iff_lt, Bool.or_self, Bool.false_eq_true, Nat.mul_one, Nat.one_mul, Nat.zero_mul, ↓reduceIte, Nat.reduceEqDiff, Nat.reduceLT, Nat.reduceAdd, Nat.reduceLeDiff, reduceCtorEq, goInt, pairs, isConst, TI.isAgg, splice, boxS, Edp, dpv, Nat.beq_eq, ZV.val, List.any_cons, List.any_nil, Bool.false_and, gc1]
  refine specINew fun bi σ2 k2 => ?_
  have gc2 := (k2.at gc1 (by simp) (by simp)).1
  simp (disch := first | assumption | simp) only [↓sbD, sbU, tyB, Nat.reduceMul, Nat.reduceSub, Int.reduceEq, Int.reduceLT, Int.reduceLE, Int.reduceNe, Nat.reduceBneDiff, Nat.reduceBEq, decide_false, gt_iff_lt, Bool.or_self, Bool.false_eq_true, Nat.mul_one, Nat.one_mul, Nat.zero_mul, ↓reduceIte, Nat.reduceEqDiff, Nat.reduceLT, Nat.reduceAdd, Nat.reduceLeDiff, reduceCtorEq, goInt, pairs, isConst, TI.isAgg, splice, boxS, Edp, dpv, Nat.beq_eq, ZV.val, List.any_cons, List.any_nil, Bool.false_and, AS_new]
  intro sm hsm
  have hcm : c ≠ sm := by rintro rfl; rw [gc2] at hsm; cases hsm
  generalize hσ3 : AHeap.set σ2 sm _ = σ3
  have k3 : Kept σ2 [] σ3 [] := by rw [← hσ3]; exact (Kept.refl _ []).setD hsm
  have gc3 := (k3.at gc2 (by simp) (by simp)).1
  have K3 := (k1.trans k2).trans k3
  clear hσ3
  try simp (disch := first | assumption | simp) only [↓sbD, sbU, tyB, Nat.reduceMul, Nat.reduceSub, Int.reduceEq, Int.reduceLT, Int.reduceLE, Int.reduceNe, Nat.reduceBneDiff, Nat.reduceBEq, decide_false, gt_iff_lt, Bool.or_self, Bool.false_eq_true, Nat.mul_one, Nat.one_mul, Nat.zero_mul, ↓reduceIte, Nat.reduceEqDiff, Nat.reduceLT, Nat.reduceAdd, Nat.reduceLeDiff, reduceCtorEq, goInt, pairs, isConst, TI.isAgg, splice, boxS, Edp, dpv, Nat.beq_eq, ZV.val, List.any_cons, List.any_nil, Bool.false_and]
  refine specONew fun bo σ4 fpO hO k4 => ?_
  have gc4 := (k4.at gc3 (by simp) (by simp)).1
  simp (disch := first | assumption | simp) only [↓sbD, sbU, tyB, Nat.reduceMul, Nat.reduceSub, Int.reduceEq, Int.reduceLT, Int.reduceLE, Int.reduceNe, Nat.reduceBneDiff, Nat.reduceBEq, decide_false, gt_iff_lt, Bool.or_self, Bool.false_eq_true, Nat.mul_one, Nat.one_mul, Nat.zero_mul, ↓reduceIte, Nat.reduceEqDiff, Nat.reduceLT, Nat.reduceAdd, Nat.reduceLeDiff, reduceCtorEq, goInt, pairs, isConst, TI.isAgg, splice, boxS, Edp, dpv, Nat.beq_eq, ZV.val, List.any_cons, List.any_nil, Bool.false_and, gc4]
  refine sub23 (AbsN.specQNew fun bq σ5 hQ k5 => ?_)
  have gc5 := (k5.at gc4 (by simp) (by simp)).1
  have hO5 := hO.kept k5 (fun _ _ h => by cases h)
  have K4 := K3.trans k4
  have hdj : disj fpO [bq] := disj.new (gp := []) (fun _ _ h => by cases h) hO.live k5
  simp (disch := first | assumption | simp) only [↓sbD, sbU, tyB, Nat.reduceMul, Nat.reduceSub, Int.reduceEq, Int.reduceLT, Int.reduceLE, Int.reduceNe, Nat.reduceBneDiff, Nat.reduceBEq, decide_false, gt_iff_lt, Bool.or_self, Bool.false_eq_true, Nat.mul_one, Nat.one_mul, Nat.zero_mul, ↓reduceIte, Nat.reduceEqDiff, Nat.reduceLT, Nat.reduceAdd, Nat.reduceLeDiff, reduceCtorEq, goInt, pairs, isConst, TI.isAgg, splice, boxS, Edp, dpv, Nat.beq_eq, ZV.val, List.any_cons, List.any_nil, Bool.false_and, AS_new, ndS.1]
  intro b hb
  have hbO : b ∉ fpO := fun h => hO5.live b h hb
  have hbQ : b ∉ [bq] := fun h => hQ.live b h hb
  have hbc : b ≠ c := nd hb gc5 (by simp)
  try simp (disch := first | assumption | simp) only [↓sbD, sbU, tyB, Nat.reduceMul, Nat.reduceSub, Int.reduceEq, Int.reduceLT, Int.reduceLE, Int.reduceNe, Nat.reduceBneDiff, Nat.reduceBEq, decide_false, gt_iff_lt, Bool.or_self, Bool.false_eq_true, Nat.mul_one, Nat.one_mul, Nat.zero_mul, ↓reduceIte, Nat.reduceEqDiff, Nat.reduceLT, Nat.reduceAdd, Nat.reduceLeDiff, reduceCtorEq, goInt, pairs, isConst, TI.isAgg, splice, boxS, Edp, dpv, Nat.beq_eq, ZV.val, List.any_cons, List.any_nil, Bool.false_and]
  refine drawS_l (fl := [(7, 2), (7, 5)]) (by kernel_rfl) ?_ ?_
  rotate_left; simp only [lastP_cc, lastP_one]; rotate_left
  · simp only [List.all_cons, List.all_nil, floatS, List.getElem?_cons_succ, List.getElem?_cons_zero, List.getElem?_toArray, Region.wanted, Bool.not_true, Bool.not_false, Bool.false_or, Bool.true_or, Bool.or_true, Bool.true_and, reads, looksWeak, aev_tmp, aev_const, upd_at, ↓reduceIte, Nat.reduceEqDiff, Nat.reduceLT, Nat.reduceAdd, ofL_zero, ofL_succ, blkOf, oeq_refl, oeq_of, dead_cells, dead_map, Bool.and_true, Bool.and_self, Bool.false_eq_true, Bool.not_false, gc1, gc2, gc3, gc4, gc5]
    try rfl
  simp (disch := first | assumption | simp) only [↓sbD, sbU, tyB, Nat.reduceMul, Nat.reduceSub, Int.reduceEq, Int.reduceLT, Int.reduceLE, Int.reduceNe, Nat.reduceBneDiff, Nat.reduceBEq, decide_false, gt_iff_lt, Bool.or_self, Bool.false_eq_true, Nat.mul_one, Nat.one_mul, Nat.zero_mul, ↓reduceIte, Nat.reduceEqDiff, Nat.reduceLT, Nat.reduceAdd, Nat.reduceLeDiff, reduceCtorEq, goInt, pairs, isConst, TI.isAgg, splice, boxS, Edp, dpv, Nat.beq_eq, ZV.val, List.any_cons, List.any_nil, Bool.false_and]
  have k6 : ∀ o, Kept σ5 [] (σ5.set b o) [b] := fun o => Kept.new' hb
  refine downS_here (hq b _ (b :: (fpO ++ [bq])) ⟨_, cl, ⟨false, ⟨#[]⟩, ⟨#[]⟩, 0, false, []⟩, .slice none 0 0, 0, sm, bo, bq, fpO, [bq], AHeap.get_set_same _ _ _, ⟨rfl, rfl⟩, ⟨rfl, rfl⟩, hO5.kept (k6 _) (fun _ _ h => by cases h), hQ.kept (k6 _) (fun _ _ h => by cases h), hdj, hbO, hbQ, rfl⟩ ?_)
  have K5 : Kept σ [] σ5 (fpO ++ [bq]) := by
    refine ⟨fun x hx hn => ?_, fun x hx => ?_⟩
    · rw [k5.get x (by rw [K4.get x hx hn]; exact hx) (by simp), K4.get x hx hn]
    · rcases List.mem_append.1 hx with h | h
      · exact K4.new x h
      · rcases k5.new x h with h | h
        · cases h
        · by_cases h0 : σ.get x = .dead
          · exact .inr h0
          · rw [K4.get x h0 (by simp)] at h; exact absurd h h0
  refine ⟨fun x hx hn => ?_, fun x hx => ?_⟩
  · have := K5.get x hx hn
    rw [AHeap.get_set_ne _ _ (by rintro rfl; rw [hb] at this; exact hx this.symm)]; exact this
  · rcases List.mem_cons.1 hx with rfl | h
    · by_cases h0 : σ.get x = .dead
      · exact .inr h0
      · have := K5.get x h0 (by simp); rw [hb] at this; exact absurd this.symm h0
    · exact K5.new x h
theorem specSetWill {w2 : Wl} {vw2 : Value} (hS : IsS σ b on t W F most fp) (hw : DL propC 4 vw2 w2.props) (hl : w2.props.length ≤ 100000) (hq : ∀ σ', IsS σ' b on t W F most fp → Kept σ fp σ' fp → Q unit σ') : CallS E B 25 [.pointer (some ⟨b, 0, none⟩), .agg ⟨wlC w2 vw2⟩] σ Q := by
  have hS0 := hS
  obtain ⟨pin, cl, w, vw, en, sm, bo, bq, fpO, fpQ, gb, hpin, hvw, hO, hQ, hdj, hbO, hbQ, rfl⟩ := hS
  have hvc := dl_vc hw
  simp only [wlC]
  refine call25 (by simp) ?_
  simp only [strip, bodyOf, Try.f25, getD_body, keepN, bareOp_mk, lessOp_mk, lapp_cons, lapp_nil, List.map_cons, List.map_nil, array_toList, ↓reduceIte, Nat.reduceEqDiff, Bool.false_eq_true]
  simp (disch := first | assumption | simp) only [↓sbD, sbU, tyB, Nat.reduceMul, Nat.reduceSub, Int.reduceEq, Int.reduceLT, Int.reduceLE, Int.reduceNe, Nat.reduceBneDiff, Nat.reduceBEq, decide_false, gt_iff_lt, Bool.or_self, Bool.false_eq_true, Nat.mul_one, Nat.one_mul, Nat.zero_mul, ↓reduceIte, Nat.reduceEqDiff, Nat.reduceLT, Nat.reduceAdd, Nat.reduceLeDiff, reduceCtorEq, goInt, pairs, isConst, TI.isAgg, splice, boxS, Edp, dpv, Nat.beq_eq, ZV.val, List.any_cons, List.any_nil, Bool.false_and, AS_new, ndS.2.2.1, hvc.1, hvc.2]
  intro c hc
  have hcb : c ≠ b := nd hc gb (by simp)
  generalize hσ1 : AHeap.set σ c _ = σ1
  have k1 : Kept σ [] σ1 [] := by rw [← hσ1]; exact (Kept.refl σ []).setD hc
  have gc1 : σ1.get c = .cells [.bool w2.has, .string w2.topic, .string w2.pay, .int .i64 w2.qos, .bool w2.ret, vw2] true 0 := by rw [← hσ1]; exact AHeap.get_set_same _ _ _
  have hS1 := hS0.kept k1 (fun _ _ h => by cases h)
  clear hσ1
  try simp (disch := first | assumption | simp) only [↓sbD, sbU, tyB, Nat.reduceMul, Nat.reduceSub, Int.reduceEq, Int.reduceLT, Int.reduceLE, Int.reduceNe, Nat.reduceBneDiff, Nat.reduceBEq, decide_false, gt_iff_lt, Bool.or_self, Bool.false_eq_true, Nat.mul_one, Nat.one_mul, Nat.zero_mul, ↓reduceIte, Nat.reduceEqDiff, Nat.reduceLT, Nat.reduceAdd, Nat.reduceLeDiff, reduceCtorEq, goInt, pairs, isConst, TI.isAgg, splice, boxS, Edp, dpv, Nat.beq_eq, ZV.val, List.any_cons, List.any_nil, Bool.false_and]
  refine specGiven hS1 ?_
  simp (disch := first | assumption | simp) only [↓sbD, sbU, tyB, Nat.reduceMul, Nat.reduceSub, Int.reduceEq, Int.reduceLT, Int.reduceLE, Int.reduceNe, Nat.reduceBneDiff, Nat.reduceBEq, decide_false, gt_iff_lt, Bool.or_self, Bool.false_eq_true, Nat.mul_one, Nat.one_mul, Nat.zero_mul, ↓reduceIte, Nat.reduceEqDiff, Nat.reduceLT, Nat.reduceAdd, Nat.reduceLeDiff, reduceCtorEq, goInt, pairs, isConst, TI.isAgg, splice, boxS, Edp, dpv, Nat.beq_eq, ZV.val, List.any_cons, List.any_nil, Bool.false_and, gc1]
  refine specCloP (ps_dlA hw) hl fun v2 σ2 hv2 k2 => ?_
  have gc2 := (k2.at gc1 (by simp) (by simp)).1
  have hvc2 := dl_vc hv2
  simp (disch := first | assumption | simp) only [↓sbD, sbU, tyB, Nat.reduceMul, Nat.reduceSub, Int.reduceEq, Int.reduceLT, Int.reduceLE, Int.reduceNe, Nat.reduceBneDiff, Nat.reduceBEq, decide_false, gt_iff_lt, Bool.or_self, Bool.false_eq_true, Nat.mul_one, Nat.one_mul, Nat.zero_mul, ↓reduceIte, Nat.reduceEqDiff, Nat.reduceLT, Nat.reduceAdd, Nat.reduceLeDiff, reduceCtorEq, goInt, pairs, isConst, TI.isAgg, splice, boxS, Edp, dpv, Nat.beq_eq, ZV.val, List.any_cons, List.any_nil, Bool.false_and, gc2, hvc2.1, hvc2.2, List.length_cons, List.length_nil, List.cons_append, List.nil_append, List.drop_succ_cons, List.drop_zero, List.set_cons_zero, List.set_cons_succ, decide_true]
  generalize hσ3 : AHeap.set σ2 c _ = σ3
  have K3 : Kept σ [] σ3 [] := by rw [← hσ3]; exact (k1.trans k2).setD hc
  have gc3 : σ3.get c = .cells [.bool w2.has, .string w2.topic, .string w2.pay, .int .i64 w2.qos, .bool w2.ret, v2] true 0 := by rw [← hσ3]; exact AHeap.get_set_same _ _ _
  have gb3 := (K3.at gb (by simp) (by simp)).1
  have hO3 := hO.kept K3 (fun _ _ h => by cases h)
  have hQ3 := hQ.kept K3 (fun _ _ h => by cases h)
  clear hσ3
  simp only [sesC] at gb3
  simp (disch := first | assumption | simp) only [↓sbD, sbU, tyB, Nat.reduceMul, Nat.reduceSub, Int.reduceEq, Int.reduceLT, Int.reduceLE, Int.reduceNe, Nat.reduceBneDiff, Nat.reduceBEq, decide_false, gt_iff_lt, Bool.or_self, Bool.false_eq_true, Nat.mul_one, Nat.one_mul, Nat.zero_mul, ↓reduceIte, Nat.reduceEqDiff, Nat.reduceLT, Nat.reduceAdd, Nat.reduceLeDiff, reduceCtorEq, goInt, pairs, isConst, TI.isAgg, splice, boxS, Edp, dpv, Nat.beq_eq, ZV.val, List.any_cons, List.any_nil, Bool.false_and, gc3, gb3, hvc2.1, hvc2.2, hpin.1, hpin.2, hvw.1, hvw.2, List.length_cons, List.length_nil, List.cons_append, List.nil_append, List.drop_succ_cons, List.drop_zero, List.set_cons_zero, List.set_cons_succ, decide_true]
  have k4 : ∀ o, Kept σ3 [b] (σ3.set b o) [b] := fun o => Kept.set (by simp)
  refine downS_here (hq _ ⟨pin, cl, { w2 with props := w2.props }, v2, en, sm, bo, bq, fpO, fpQ, AHeap.get_set_same _ _ _, hpin, hvc2, hO3.kept (k4 _) (fun x hx h => by obtain rfl := List.mem_singleton.1 h; exact hbO hx), hQ3.kept (k4 _) (fun x hx h => by obtain rfl := List.mem_singleton.1 h; exact hbQ hx), hdj, hbO, hbQ, rfl⟩ ?_)
  exact (K3.wid (fun _ h => by cases h) (fun _ h => .inr h)).trans ((k4 _).wid (fun x h => by obtain rfl := List.mem_singleton.1 h; simp) (fun _ h => .inr h))
theorem specAgain0 (hO : IsO σ b ([] : List Fl) fp) (hq : ∀ σ', Kept σ [] σ' [] → Q (.slice none 0 0) σ') : CallS E B 26 [.pointer (some ⟨b, 0, none⟩)] σ Q := by
  refine call26 (by simp) ?_
  simp only [strip, bodyOf, Try.f26, getD_body, keepN, bareOp_mk, lessOp_mk, lapp_cons, lapp_nil, List.map_cons, List.map_nil, array_toList, ↓reduceIte, Nat.reduceEqDiff, Bool.false_eq_true]
  simp (disch := first | assumption | simp) only [↓sbD, sbU, tyB, Nat.reduceMul, Nat.reduceSub, Int.reduceEq, Int.reduceLT, Int.reduceLE, Int.reduceNe, Nat.reduceBneDiff, Nat.reduceBEq, decide_false, gt_iff_lt, Bool.or_self, Bool.false_eq_true, Nat.mul_one, Nat.one_mul, Nat.zero_mul, ↓reduceIte, Nat.reduceEqDiff, Nat.reduceLT, Nat.reduceAdd, Nat.reduceLeDiff, reduceCtorEq, goInt, pairs, isConst, TI.isAgg, splice, boxS, Edp, dpv, Nat.beq_eq, ZV.val, List.any_cons, List.any_nil, Bool.false_and]
  refine specOAll hO (by simp) fun v σ1 fp1 g1 k1 => ?_
  have hl := fun τ : AHeap => g1.len (E := E) (τ := τ) ty45
  have h00 : ((0 : Nat) : Int) = 0 := rfl
  simp (disch := first | assumption | simp) only [↓sbD, sbU, tyB, Nat.reduceMul, Nat.reduceSub, Int.reduceEq, Int.reduceLT, Int.reduceLE, Int.reduceNe, Nat.reduceBneDiff, Nat.reduceBEq, decide_false, gt_iff_lt, Bool.or_self, Bool.false_eq_true, Nat.mul_one, Nat.one_mul, Nat.zero_mul, ↓reduceIte, Nat.reduceEqDiff, Nat.reduceLT, Nat.reduceAdd, Nat.reduceLeDiff, reduceCtorEq, goInt, pairs, isConst, TI.isAgg, splice, boxS, Edp, dpv, Nat.beq_eq, ZV.val, List.any_cons, List.any_nil, Bool.false_and, hl, List.length_nil, h00]
  refine S_loop (fun m f σ' => σ' = σ1 ∧ f 9 = .int .i64 0 ∧ f 8 = .int .i64 0 ∧ f 3 = .slice none 0 0) 0 (Le.refl _) ⟨rfl, by simp (disch := first | assumption | simp) only [↓sbD, sbU, tyB, Nat.reduceMul, Nat.reduceSub, Int.reduceEq, Int.reduceLT, Int.reduceLE, Int.reduceNe, Nat.reduceBneDiff, Nat.reduceBEq, decide_false, gt_iff_lt, Bool.or_self, Bool.false_eq_true, Nat.mul_one, Nat.one_mul, Nat.zero_mul, ↓reduceIte, Nat.reduceEqDiff, Nat.reduceLT, Nat.reduceAdd, Nat.reduceLeDiff, reduceCtorEq, goInt, pairs, isConst, TI.isAgg, splice, boxS, Edp, dpv, Nat.beq_eq, ZV.val, List.any_cons, List.any_nil, Bool.false_and], by simp (disch := first | assumption | simp) only [↓sbD, sbU, tyB, Nat.reduceMul, Nat.reduceSub, Int.reduceEq, Int.reduceLT, Int.reduceLE, Int.reduceNe, Nat.reduceBneDiff, Nat.reduceBEq, decide_false, gt_iff_lt, Bool.or_self, Bool.false_eq_true, Nat.mul_one, Nat.one_mul, Nat.zero_mul, ↓reduceIte, Nat.reduceEqDiff, Nat.reduceLT, Nat.reduceAdd, Nat.reduceLeDiff, reduceCtorEq, goInt, pairs, isConst, TI.isAgg, splice, boxS, Edp, dpv, Nat.beq_eq, ZV.val, List.any_cons, List.any_nil, Bool.false_and], by simp (disch := first | assumption | simp) only [↓sbD, sbU, tyB, Nat.reduceMul, Nat.reduceSub, Int.reduceEq, Int.reduceLT, Int.reduceLE, Int.reduceNe, Nat.reduceBneDiff, Nat.reduceBEq, decide_false, gt_iff_lt, Bool.or_self, Bool.false_eq_true, Nat.mul_one, Nat.one_mul, Nat.zero_mul, ↓reduceIte, Nat.reduceEqDiff, Nat.reduceLT, Nat.reduceAdd, Nat.reduceLeDiff, reduceCtorEq, goInt, pairs, isConst, TI.isAgg, splice, boxS, Edp, dpv, Nat.beq_eq, ZV.val, List.any_cons, List.any_nil, Bool.false_and]⟩ ?_
  rintro m f σ' ⟨rfl, f9, f8, f3⟩ hf
  simp (disch := first | assumption | simp) only [↓sbD, sbU, tyB, Nat.reduceMul, Nat.reduceSub, Int.reduceEq, Int.reduceLT, Int.reduceLE, Int.reduceNe, Nat.reduceBneDiff, Nat.reduceBEq, decide_false, gt_iff_lt, Bool.or_self, Bool.false_eq_true, Nat.mul_one, Nat.one_mul, Nat.zero_mul, ↓reduceIte, Nat.reduceEqDiff, Nat.reduceLT, Nat.reduceAdd, Nat.reduceLeDiff, reduceCtorEq, goInt, pairs, isConst, TI.isAgg, splice, boxS, Edp, dpv, Nat.beq_eq, ZV.val, List.any_cons, List.any_nil, Bool.false_and, f9, f8, f3]
  exact downS_here (hq _ k1.none)
theorem specBegin {t2 : Tm} {w2 : Wl} {vw2 : Value} (hS : IsS σ b on t W [] most fp) (hw : DL propC 4 vw2 w2.props) (hl : w2.props.length ≤ 100000) (hq : ∀ σ', IsS σ' b true t2 W [] most fp → Kept σ fp σ' fp → Q unit σ') : CallS E B 8 [.pointer (some ⟨b, 0, none⟩), .agg ⟨tmC t2⟩, .agg ⟨wlC w2 vw2⟩] σ Q := by
  have hS0 := hS
  obtain ⟨pin, cl, w, vw, en, sm, bo, bq, fpO, fpQ, gb, hpin, hvw, hO, hQ, hdj, hbO, hbQ, rfl⟩ := hS
  have hvc := dl_vc hw
  simp only [wlC, tmC]
  refine call8 (by simp) ?_
  simp only [strip, bodyOf, Try.f8, getD_body, keepN, bareOp_mk, lessOp_mk, lapp_cons, lapp_nil, List.map_cons, List.map_nil, array_toList, ↓reduceIte, Nat.reduceEqDiff, Bool.false_eq_true]
  simp (disch := first | assumption | simp) only [↓sbD, sbU, tyB, Nat.reduceMul, Nat.reduceSub, Int.reduceEq, Int.reduceLT, Int.reduceLE, Int.reduceNe, Nat.reduceBneDiff, Nat.reduceBEq, decide_false, gt_iff_lt, Bool.or_self, Bool.false_eq_true, Nat.mul_one, Nat.one_mul, Nat.zero_mul, ↓reduceIte, Nat.reduceEqDiff, Nat.reduceLT, Nat.reduceAdd, Nat.reduceLeDiff, reduceCtorEq, goInt, pairs, isConst, TI.isAgg, splice, boxS, Edp, dpv, Nat.beq_eq, ZV.val, List.any_cons, List.any_nil, Bool.false_and, AS_new, ndS.2.1, ndS.2.2.1, hvc.1, hvc.2]
  intro c hc d hd
  have hcd : c ≠ d := by rintro rfl; rw [AHeap.get_set_same] at hd; cases hd
  have hdd : σ.get d = .dead := by rw [AHeap.get_set_ne _ _ hcd] at hd; exact hd
  have hcb : c ≠ b := nd hc gb (by simp)
  have hdb : d ≠ b := nd hdd gb (by simp)
  generalize hσ1 : AHeap.set (AHeap.set σ c _) d _ = σ1
  have k1 : Kept σ [] σ1 [] := by rw [← hσ1]; exact ((Kept.refl σ []).setD hc).setD hdd
  have gc1 : σ1.get c = .cells [.int .i64 t2.e, .int .i64 t2.r, .int .i64 t2.p, .int .i64 t2.a, .int .i64 t2.k, .bool t2.b] true 0 := by rw [← hσ1, AHeap.get_set_ne _ _ hcd.symm]; exact AHeap.get_set_same _ _ _
  have gd1 : σ1.get d = .cells [.bool w2.has, .string w2.topic, .string w2.pay, .int .i64 w2.qos, .bool w2.ret, vw2] true 0 := by rw [← hσ1]; exact AHeap.get_set_same _ _ _
  have hS1 := hS0.kept k1 (fun _ _ h => by cases h)
  have gb1 := (k1.at gb (by simp) (by simp)).1
  have hO1 := hO.kept k1 (fun _ _ h => by cases h)
  have hQ1 := hQ.kept k1 (fun _ _ h => by cases h)
  clear hσ1
  simp only [sesC] at gb1
  try simp (disch := first | assumption | simp) only [↓sbD, sbU, tyB, Nat.reduceMul, Nat.reduceSub, Int.reduceEq, Int.reduceLT, Int.reduceLE, Int.reduceNe, Nat.reduceBneDiff, Nat.reduceBEq, decide_false, gt_iff_lt, Bool.or_self, Bool.false_eq_true, Nat.mul_one, Nat.one_mul, Nat.zero_mul, ↓reduceIte, Nat.reduceEqDiff, Nat.reduceLT, Nat.reduceAdd, Nat.reduceLeDiff, reduceCtorEq, goInt, pairs, isConst, TI.isAgg, splice, boxS, Edp, dpv, Nat.beq_eq, ZV.val, List.any_cons, List.any_nil, Bool.false_and]
  refine specGiven hS1 ?_
  have bc : ∀ (τ : AHeap) o, (AHeap.set τ b o).get c = τ.get c := fun τ o => AHeap.get_set_ne _ _ hcb.symm
  simp (disch := first | assumption | simp) only [↓sbD, sbU, tyB, Nat.reduceMul, Nat.reduceSub, Int.reduceEq, Int.reduceLT, Int.reduceLE, Int.reduceNe, Nat.reduceBneDiff, Nat.reduceBEq, decide_false, gt_iff_lt, Bool.or_self, Bool.false_eq_true, Nat.mul_one, Nat.one_mul, Nat.zero_mul, ↓reduceIte, Nat.reduceEqDiff, Nat.reduceLT, Nat.reduceAdd, Nat.reduceLeDiff, reduceCtorEq, goInt, pairs, isConst, TI.isAgg, splice, boxS, Edp, dpv, Nat.beq_eq, ZV.val, List.any_cons, List.any_nil, Bool.false_and, not_bool, Bool.not_true, gc1, gb1, bc, AHeap.get_set_same, hpin.1, hpin.2, hvw.1, hvw.2, List.length_cons, List.length_nil, List.cons_append, List.nil_append, List.drop_succ_cons, List.drop_zero, List.set_cons_zero, List.set_cons_succ, decide_true]
  refine drawS_l (fl := [(2, 5)]) (by kernel_rfl) ?_ ?_
  rotate_left; simp only [lastP_cc, lastP_one]; rotate_left
  · simp only [List.all_cons, List.all_nil, floatS, List.getElem?_cons_succ, List.getElem?_cons_zero, List.getElem?_toArray, Region.wanted, Bool.not_true, Bool.not_false, Bool.false_or, Bool.true_or, Bool.or_true, Bool.true_and, reads, looksWeak, aev_tmp, aev_const, upd_at, ↓reduceIte, Nat.reduceEqDiff, Nat.reduceLT, Nat.reduceAdd, ofL_zero, ofL_succ, blkOf, oeq_refl, oeq_of, dead_cells, dead_map, Bool.and_true, Bool.and_self, Bool.false_eq_true, Bool.not_false, gc1, gb1, bc, AHeap.get_set_same]
    try rfl
  have k2 : ∀ o o', Kept σ1 [b] ((σ1.set b o).set b o') [b] := fun o o' => (Kept.set (by simp)).trans (Kept.set (by simp))
  generalize hσ2 : AHeap.set (AHeap.set σ1 b _) b _ = σ2
  have k2' : Kept σ1 [b] σ2 [b] := by rw [← hσ2]; exact k2 _ _
  have hS2 : IsS σ2 b true t2 W [] most (b :: (fpO ++ fpQ)) := ⟨pin, cl, w, vw, en, sm, bo, bq, fpO, fpQ, by rw [← hσ2]; exact AHeap.get_set_same _ _ _, hpin, hvw, hO1.kept k2' (fun x hx h => by obtain rfl := List.mem_singleton.1 h; exact hbO hx), hQ1.kept k2' (fun x hx h => by obtain rfl := List.mem_singleton.1 h; exact hbQ hx), hdj, hbO, hbQ, rfl⟩
  have gd2 := (k2'.at gd1 (by simp) (by simp [hdb])).1
  have K2 : Kept σ (b :: (fpO ++ fpQ)) σ2 (b :: (fpO ++ fpQ)) := (k1.wid (fun _ h => by cases h) (fun _ h => .inr h)).trans (k2'.wid (fun x h => by obtain rfl := List.mem_singleton.1 h; simp) (fun _ h => .inr h))
  clear hσ2 k2
  simp (disch := first | assumption | simp) only [↓sbD, sbU, tyB, Nat.reduceMul, Nat.reduceSub, Int.reduceEq, Int.reduceLT, Int.reduceLE, Int.reduceNe, Nat.reduceBneDiff, Nat.reduceBEq, decide_false, gt_iff_lt, Bool.or_self, Bool.false_eq_true, Nat.mul_one, Nat.one_mul, Nat.zero_mul, ↓reduceIte, Nat.reduceEqDiff, Nat.reduceLT, Nat.reduceAdd, Nat.reduceLeDiff, reduceCtorEq, goInt, pairs, isConst, TI.isAgg, splice, boxS, Edp, dpv, Nat.beq_eq, ZV.val, List.any_cons, List.any_nil, Bool.false_and, gd2]
  refine specSetWill (w2 := w2) hS2 hw hl fun σ3 hS3 k3 => ?_
  have K3 := K2.trans k3
  obtain ⟨pin3, cl3, w3, vw3, en3, sm3, bo3, bq3, fpO3, fpQ3, gb3, hpin3, hvw3, hO3, hQ3, hdj3, hbO3, hbQ3, hfp3⟩ := hS3
  simp only [sesC] at gb3
  simp (disch := first | assumption | simp) only [↓sbD, sbU, tyB, Nat.reduceMul, Nat.reduceSub, Int.reduceEq, Int.reduceLT, Int.reduceLE, Int.reduceNe, Nat.reduceBneDiff, Nat.reduceBEq, decide_false, gt_iff_lt, Bool.or_self, Bool.false_eq_true, Nat.mul_one, Nat.one_mul, Nat.zero_mul, ↓reduceIte, Nat.reduceEqDiff, Nat.reduceLT, Nat.reduceAdd, Nat.reduceLeDiff, reduceCtorEq, goInt, pairs, isConst, TI.isAgg, splice, boxS, Edp, dpv, Nat.beq_eq, ZV.val, List.any_cons, List.any_nil, Bool.false_and, gb3]
  refine specAgain0 hO3 fun σ4 k4 => ?_
  have gb4 := (k4.at gb3 (by simp) (by simp)).1
  have hO4 := hO3.kept k4 (fun _ _ h => by cases h)
  have hQ4 := hQ3.kept k4 (fun _ _ h => by cases h)
  simp (disch := first | assumption | simp) only [↓sbD, sbU, tyB, Nat.reduceMul, Nat.reduceSub, Int.reduceEq, Int.reduceLT, Int.reduceLE, Int.reduceNe, Nat.reduceBneDiff, Nat.reduceBEq, decide_false, gt_iff_lt, Bool.or_self, Bool.false_eq_true, Nat.mul_one, Nat.one_mul, Nat.zero_mul, ↓reduceIte, Nat.reduceEqDiff, Nat.reduceLT, Nat.reduceAdd, Nat.reduceLeDiff, reduceCtorEq, goInt, pairs, isConst, TI.isAgg, splice, boxS, Edp, dpv, Nat.beq_eq, ZV.val, List.any_cons, List.any_nil, Bool.false_and, gb4, hpin3.1, hpin3.2, hvw3.1, hvw3.2, List.length_cons, List.length_nil, List.cons_append, List.nil_append, List.drop_succ_cons, List.drop_zero, List.set_cons_zero, List.set_cons_succ, decide_true]
  have k5 : ∀ o, Kept σ4 [b] (σ4.set b o) [b] := fun o => Kept.set (by simp)
  refine downS_here (hq _ ⟨pin3, cl3, w3, vw3, en3, sm3, bo3, bq3, fpO3, fpQ3, AHeap.get_set_same _ _ _, hpin3, hvw3, hO4.kept (k5 _) (fun x hx h => by obtain rfl := List.mem_singleton.1 h; exact hbO3 hx), hQ4.kept (k5 _) (fun x hx h => by obtain rfl := List.mem_singleton.1 h; exact hbQ3 hx), hdj3, hbO3, hbQ3, hfp3⟩ ?_)
  exact (K3.tl k4).trans ((k5 _).wid (fun x h => by obtain rfl := List.mem_singleton.1 h; simp) (fun _ h => .inr h))
theorem specAck {p : Pk} {vp vw vs vf vc : Value} (hS : IsS σ b on t W F most fp) (hs : F.length ≤ 100000) (h1 : vcells vp = [vp] ∧ oneCell vp = true) (h2 : vcells vw = [vw] ∧ oneCell vw = true) (h3 : vcells vs = [vs] ∧ oneCell vs = true) (h4 : vcells vf = [vf] ∧ oneCell vf = true) (h5 : vcells vc = [vc] ∧ oneCell vc = true)
    (hq : ∀ F' σ' fp' n mm, AckR p.kind p.id p.rea F F' → IsS σ' b on t W F' most fp' → Kept σ fp σ' fp' → Q (.tuple #[.int .i64 n, .agg ⟨msC mm⟩]) σ') : CallS E B 13 [.pointer (some ⟨b, 0, none⟩), .agg ⟨pkC p vp vw vs vf vc⟩] σ Q := by
  have hS0 := hS
  obtain ⟨pin, cl, w, vw0, en, sm, bo, bq, fpO, fpQ, gb, hpin, hvw, hO, hQ, hdj, hbO, hbQ, rfl⟩ := hS
  have gb0 := gb
  simp only [pkC]
  refine call13 (by simp) ?_
  simp only [strip, bodyOf, Try.f13, getD_body, keepN, bareOp_mk, lessOp_mk, lapp_cons, lapp_nil, List.map_cons, List.map_nil, array_toList, ↓reduceIte, Nat.reduceEqDiff, Bool.false_eq_true]
  simp (disch := first | assumption | simp) only [↓sbD, sbU, tyB, Nat.reduceMul, Nat.reduceSub, Int.reduceEq, Int.reduceLT, Int.reduceLE, Int.reduceNe, Nat.reduceBneDiff, Nat.reduceBEq, decide_false, gt_iff_lt, Bool.or_self, Bool.false_eq_true, Nat.mul_one, Nat.one_mul, Nat.zero_mul, ↓reduceIte, Nat.reduceEqDiff, Nat.reduceLT, Nat.reduceAdd, Nat.reduceLeDiff, reduceCtorEq, goInt, pairs, isConst, TI.isAgg, splice, boxS, Edp, dpv, Nat.beq_eq, ZV.val, List.any_cons, List.any_nil, Bool.false_and, AS_new, zeMsA, ndS.2.2.2.2.2.2.2, h1.1, h1.2, h2.1, h2.2, h3.1, h3.2, h4.1, h4.2, h5.1, h5.2]
  intro a ha e he
  have hae : a ≠ e := by rintro rfl; rw [AHeap.get_set_same] at he; cases he
  have hed : σ.get e = .dead := by rw [AHeap.get_set_ne _ _ hae] at he; exact he
  generalize hσ1 : AHeap.set (AHeap.set σ a _) e _ = σ1
  have k1 : Kept σ [] σ1 [] := by rw [← hσ1]; exact ((Kept.refl σ []).setD ha).setD hed
  have ga1 : σ1.get a = .cells (pkC p vp vw vs vf vc) true 0 := by rw [← hσ1, AHeap.get_set_ne _ _ hae.symm]; exact AHeap.get_set_same _ _ _
  have ge1 : σ1.get e = .cells [.string ⟨#[]⟩, .string ⟨#[]⟩, .int .i64 0, .bool false, .slice none 0 0, .string ⟨#[]⟩, .int .i64 0, .int .i64 0, .string ⟨#[]⟩] true 0 := by rw [← hσ1]; exact AHeap.get_set_same _ _ _
  have gb1 := (k1.at gb (by simp) (by simp)).1
  have gb01 := gb1
  have hO1 := hO.kept k1 (fun _ _ h => by cases h)
  have hQ1 := hQ.kept k1 (fun _ _ h => by cases h)
  have hefp : e ∉ b :: (fpO ++ fpQ) := fun h => hS0.live e h hed
  clear hσ1
  simp only [sesC] at gb1
  simp only [pkC] at ga1
  simp (disch := first | assumption | simp) only [↓sbD, sbU, tyB, Nat.reduceMul, Nat.reduceSub, Int.reduceEq, Int.reduceLT, Int.reduceLE, Int.reduceNe, Nat.reduceBneDiff, Nat.reduceBEq, decide_false, gt_iff_lt, Bool.or_self, Bool.false_eq_true, Nat.mul_one, Nat.one_mul, Nat.zero_mul, ↓reduceIte, Nat.reduceEqDiff, Nat.reduceLT, Nat.reduceAdd, Nat.reduceLeDiff, reduceCtorEq, goInt, pairs, isConst, TI.isAgg, splice, boxS, Edp, dpv, Nat.beq_eq, ZV.val, List.any_cons, List.any_nil, Bool.false_and, ga1, gb1]
  refine specOAck hO1 hs h1 h2 h3 h4 h5 fun F' σ2 fp2 n mm hr hO2 k2 => ?_
  obtain ⟨hS2, K2⟩ := IsS.putO gb01 hpin hvw hQ1 hdj hbO hbQ k2 hO2
  obtain ⟨ge2, hefp2⟩ := K2.at ge1 (by simp) hefp
  have hvm := mm.vc
  simp only [msCe]
  simp (disch := first | assumption | simp) only [↓sbD, sbU, tyB, Nat.reduceMul, Nat.reduceSub, Int.reduceEq, Int.reduceLT, Int.reduceLE, Int.reduceNe, Nat.reduceBneDiff, Nat.reduceBEq, decide_false, gt_iff_lt, Bool.or_self, Bool.false_eq_true, Nat.mul_one, Nat.one_mul, Nat.zero_mul, ↓reduceIte, Nat.reduceEqDiff, Nat.reduceLT, Nat.reduceAdd, Nat.reduceLeDiff, reduceCtorEq, goInt, pairs, isConst, TI.isAgg, splice, boxS, Edp, dpv, Nat.beq_eq, ZV.val, List.any_cons, List.any_nil, Bool.false_and, ge2, hvm.1, hvm.2, AHeap.get_set_same, res_cellc, resC_some]
  refine downS_here (hq F' _ _ n mm hr (hS2.kept (show Kept σ2 [e] (σ2.set e _) [e] from Kept.set (by simp)) (fun x hx h => by obtain rfl := List.mem_singleton.1 h; exact hefp2 hx)) (((k1.wid (fun _ h => by cases h) (fun _ h => .inr h)).trans K2).setD hed))
end
end Go.Proofs.Ytkhcbbpfchgemaa.AbsA
namespace Go.Proofs.Ytkhcbbpfchgemaa.AbsA
open Go AbsYtkhcbbpfchgemaa Abs
open AbsS (msgC PS)
set_option maxRecDepth 100000
set_option maxHeartbeats 4000000
set_option linter.unusedSimpArgs false
set_option linter.unusedVariables false
attribute [local irreducible] afterS afterOpS opSK OpsS TrS CodeS condS condW thenS thenQ guardS guardTS outS drawS trSK consS
section
variable {σ : AHeap} {Q : Value → AHeap → Prop} {b : Nat} {on : Bool} {t : Tm} {W : List Ms} {F : List Fl} {most : Int} {fp : List Nat}
/-- the packet of a message -/
def pubC (m : Ms) (qo id : Int) (w : Value) : List Value := [.int .i64 3, .int .i64 id, .int .i64 0, w, .bool false, .int .i64 0, .string ⟨#[]⟩, .bool false, .string ⟨#[]⟩, .string ⟨#[]⟩, .int .i64 0, .bool false, .slice none 0 0, .bool false, .string ⟨#[]⟩, .bool false, .string ⟨#[]⟩, .bool false, .string m.t, .string m.p, .int .i64 qo, .bool m.r, .bool false, .slice none 0 0, .slice none 0 0, .slice none 0 0]
def qosOf (q : Int) : Int := if q ≤ 0 then 0 else if 2 < q then 2 else q
theorem specSend {m : Ms} {now : Int} (hS : IsS σ b true t W F most fp) (hF : F.length ≤ 100) (hu : m.u ≤ 0) (hl : m.l.length ≤ 100000)
    (h0 : m.q ≤ 0 → ∀ σ' v, (vcells v = [v] ∧ oneCell v = true) → Kept σ [] σ' [] → Q (.tuple #[.agg ⟨pubC m 0 0 v⟩, .bool true]) σ')
    (h1 : 0 < m.q → ∀ c v hv σ' fp' v2, (vcells v2 = [v2] ∧ oneCell v2 = true) → 1 ≤ c → IsS σ' b true t W (F ++ [⟨c, qosOf m.q, m.withV v m.l hv⟩]) most fp' → Kept σ fp σ' fp' → Q (.tuple #[.agg ⟨pubC m (qosOf m.q) c v2⟩, .bool true]) σ') :
    CallS E B 34 [.pointer (some ⟨b, 0, none⟩), .agg ⟨msC m⟩, .int .i64 now] σ Q := by
  have hS0 := hS
  obtain ⟨pin, cl, w, vw, en, sm, bo, bq, fpO, fpQ, gb, hpin, hvw, hO, hQ, hdj, hbO, hbQ, rfl⟩ := hS
  have gb0 := gb
  have hvc := m.vc
  simp only [msCe]
  refine call34 (by simp) ?_
  simp only [strip, bodyOf, Try.f34, getD_body, keepN, bareOp_mk, lessOp_mk, lapp_cons, lapp_nil, List.map_cons, List.map_nil, array_toList, ↓reduceIte, Nat.reduceEqDiff, Bool.false_eq_true]
  simp (disch := first | assumption | simp) only [↓sbD, sbU, tyB, Nat.reduceMul, Nat.reduceSub, Int.reduceEq, Int.reduceLT, Int.reduceLE, Int.reduceNe, Nat.reduceBneDiff, Nat.reduceBEq, decide_false, gt_iff_lt, Bool.or_self, Bool.false_eq_true, Nat.mul_one, Nat.one_mul, Nat.zero_mul, ↓reduceIte, Nat.reduceEqDiff, Nat.reduceLT, Nat.reduceAdd, Nat.reduceLeDiff, reduceCtorEq, goInt, pairs, isConst, TI.isAgg, splice, boxS, Edp, dpv, Nat.beq_eq, ZV.val, List.any_cons, List.any_nil, Bool.false_and, AS_new, zePk, ndS.2.2.2.2.2.2.1, hvc.1, hvc.2]
  intro c hc a ha
  have hca : c ≠ a := by rintro rfl; rw [AHeap.get_set_same] at ha; cases ha
  have had : σ.get a = .dead := by rw [AHeap.get_set_ne _ _ hca] at ha; exact ha
  generalize hσ1 : AHeap.set (AHeap.set σ c _) a _ = σ1
  have k1 : Kept σ [] σ1 [] := by rw [← hσ1]; exact ((Kept.refl σ []).setD hc).setD had
  have gc1 : σ1.get c = .cells [.string m.t, .string m.p, .int .i64 m.q, .bool m.r, m.v, .string m.f, .int .i64 m.u, .int .i64 m.n, .string m.g] true 0 := by rw [← hσ1, AHeap.get_set_ne _ _ hca.symm]; exact AHeap.get_set_same _ _ _
  have ga1 : σ1.get a = .cells [.int .i64 0, .int .i64 0, .int .i64 0, .slice none 0 0, .bool false, .int .i64 0, .string ⟨#[]⟩, .bool false, .string ⟨#[]⟩, .string ⟨#[]⟩, .int .i64 0, .bool false, .slice none 0 0, .bool false, .string ⟨#[]⟩, .bool false, .string ⟨#[]⟩, .bool false, .string ⟨#[]⟩, .string ⟨#[]⟩, .int .i64 0, .bool false, .bool false, .slice none 0 0, .slice none 0 0, .slice none 0 0] true 0 := by rw [← hσ1]; exact AHeap.get_set_same _ _ _
  clear hσ1
  try simp (disch := first | assumption | simp) only [↓sbD, sbU, tyB, Nat.reduceMul, Nat.reduceSub, Int.reduceEq, Int.reduceLT, Int.reduceLE, Int.reduceNe, Nat.reduceBneDiff, Nat.reduceBEq, decide_false, gt_iff_lt, Bool.or_self, Bool.false_eq_true, Nat.mul_one, Nat.one_mul, Nat.zero_mul, ↓reduceIte, Nat.reduceEqDiff, Nat.reduceLT, Nat.reduceAdd, Nat.reduceLeDiff, reduceCtorEq, goInt, pairs, isConst, TI.isAgg, splice, boxS, Edp, dpv, Nat.beq_eq, ZV.val, List.any_cons, List.any_nil, Bool.false_and, gc1]
  refine sub52 (AbsS.specLeft0 (t := m.t) (p := m.p) (f := m.f) (g := m.g) (q := m.q) (n := m.n) (r := m.r) hu (ps_dlA m.hv) hl fun σ2 v2 hv2 hn2 k2 => ?_)
  have gc2 := (k2.at gc1 (by simp) (by simp)).1
  have ga2 := (k2.at ga1 (by simp) (by simp)).1
  have hvc2 := hv2.vc
  simp only [msgC]
  simp (disch := first | assumption | simp) only [↓sbD, sbU, tyB, Nat.reduceMul, Nat.reduceSub, Int.reduceEq, Int.reduceLT, Int.reduceLE, Int.reduceNe, Nat.reduceBneDiff, Nat.reduceBEq, decide_false, gt_iff_lt, Bool.or_self, Bool.false_eq_true, Nat.mul_one, Nat.one_mul, Nat.zero_mul, ↓reduceIte, Nat.reduceEqDiff, Nat.reduceLT, Nat.reduceAdd, Nat.reduceLeDiff, reduceCtorEq, goInt, pairs, isConst, TI.isAgg, splice, boxS, Edp, dpv, Nat.beq_eq, ZV.val, List.any_cons, List.any_nil, Bool.false_and, AS_new, zeMsA, hvc2.1, hvc2.2]
  intro e he
  have hea : e ≠ a := nd he ga2 (by simp)
  have hec : e ≠ c := nd he gc2 (by simp)
  try simp (disch := first | assumption | simp) only [↓sbD, sbU, tyB, Nat.reduceMul, Nat.reduceSub, Int.reduceEq, Int.reduceLT, Int.reduceLE, Int.reduceNe, Nat.reduceBneDiff, Nat.reduceBEq, decide_false, gt_iff_lt, Bool.or_self, Bool.false_eq_true, Nat.mul_one, Nat.one_mul, Nat.zero_mul, ↓reduceIte, Nat.reduceEqDiff, Nat.reduceLT, Nat.reduceAdd, Nat.reduceLeDiff, reduceCtorEq, goInt, pairs, isConst, TI.isAgg, splice, boxS, Edp, dpv, Nat.beq_eq, ZV.val, List.any_cons, List.any_nil, Bool.false_and, AHeap.get_set_same]
  generalize hσ3 : AHeap.set (AHeap.set σ2 e _) e _ = σ3
  have k3 : Kept σ2 [] σ3 [] := by rw [← hσ3]; exact ((Kept.refl _ []).setD he).setD he
  have ge3 : σ3.get e = .cells [.string m.t, .string m.p, .int .i64 m.q, .bool m.r, v2, .string m.f, .int .i64 m.u, .int .i64 m.n, .string m.g] true 0 := by rw [← hσ3]; exact AHeap.get_set_same _ _ _
  have gc3 := (k3.at gc2 (by simp) (by simp)).1
  have ga3 := (k3.at ga2 (by simp) (by simp)).1
  have hv3 : PS σ3 v2 m.l := hv2.kept fun x hx => k3.get x hx (by simp)
  have K3 := (k1.trans k2).trans k3
  clear hσ3
  by_cases hq0 : m.q ≤ 0
  · have h0' := h0 hq0
    simp (disch := first | assumption | simp) only [↓sbD, sbU, tyB, Nat.reduceMul, Nat.reduceSub, Int.reduceEq, Int.reduceLT, Int.reduceLE, Int.reduceNe, Nat.reduceBneDiff, Nat.reduceBEq, decide_false, gt_iff_lt, Bool.or_self, Bool.false_eq_true, Nat.mul_one, Nat.one_mul, Nat.zero_mul, ↓reduceIte, Nat.reduceEqDiff, Nat.reduceLT, Nat.reduceAdd, Nat.reduceLeDiff, reduceCtorEq, goInt, pairs, isConst, TI.isAgg, splice, boxS, Edp, dpv, Nat.beq_eq, ZV.val, List.any_cons, List.any_nil, Bool.false_and, gc3, hq0, ge3, hvc2.1, hvc2.2]
    refine specPacket (m := m) (t := m.t) (p := m.p) (f := m.f) (g := m.g) (q := m.q) (u := m.u) (n := m.n) (r := m.r) hv3 hl fun σ4 w4 hw4 k4 => ?_
    have ga4 := (k4.at ga3 (by simp) (by simp)).1
    have hwc4 := dl_vc hw4
    simp (disch := first | assumption | simp) only [↓sbD, sbU, tyB, Nat.reduceMul, Nat.reduceSub, Int.reduceEq, Int.reduceLT, Int.reduceLE, Int.reduceNe, Nat.reduceBneDiff, Nat.reduceBEq, decide_false, gt_iff_lt, Bool.or_self, Bool.false_eq_true, Nat.mul_one, Nat.one_mul, Nat.zero_mul, ↓reduceIte, Nat.reduceEqDiff, Nat.reduceLT, Nat.reduceAdd, Nat.reduceLeDiff, reduceCtorEq, goInt, pairs, isConst, TI.isAgg, splice, boxS, Edp, dpv, Nat.beq_eq, ZV.val, List.any_cons, List.any_nil, Bool.false_and, ga4, hwc4.1, hwc4.2, AHeap.get_set_same, res_cellc, resC_some]
    exact downS_here (h0' _ w4 hwc4 ((K3.trans k4).setD had))
  have hqp : 0 < m.q := by omega
  have h1' := h1 hqp
  have gb3 := (K3.at gb (by simp) (by simp)).1
  have gb03 := gb3
  have hO3 := hO.kept K3 (fun _ _ h => by cases h)
  have hQ3 := hQ.kept K3 (fun _ _ h => by cases h)
  simp only [sesC] at gb3
  have hafp : a ∉ b :: (fpO ++ fpQ) := fun h => hS0.live a h had
  have hefp : e ∉ b :: (fpO ++ fpQ) := by
    intro h
    have hS2 := (hS0.kept (k1.trans k2) (fun _ _ h => by cases h)).live e h
    exact hS2 he
  have hqe : qosOf m.q = if 2 < m.q then 2 else m.q := by unfold qosOf; rw [if_neg hq0]
  have hqq : qosOf m.q = 1 ∨ qosOf m.q = 2 := by
    rw [hqe]
    split
    · right; rfl
    · omega
  rw [hqe] at h1' hqq
  simp (disch := first | assumption | simp) only [↓sbD, sbU, tyB, Nat.reduceMul, Nat.reduceSub, Int.reduceEq, Int.reduceLT, Int.reduceLE, Int.reduceNe, Nat.reduceBneDiff, Nat.reduceBEq, decide_false, gt_iff_lt, Bool.or_self, Bool.false_eq_true, Nat.mul_one, Nat.one_mul, Nat.zero_mul, ↓reduceIte, Nat.reduceEqDiff, Nat.reduceLT, Nat.reduceAdd, Nat.reduceLeDiff, reduceCtorEq, goInt, pairs, isConst, TI.isAgg, splice, boxS, Edp, dpv, Nat.beq_eq, ZV.val, List.any_cons, List.any_nil, Bool.false_and, gc3, hq0, gb3]
  generalize (if 2 < m.q then 2 else m.q) = qq at h1' hqq ⊢
  focus
    refine specOSend (m := m) hO3 hF hqq hl fun id v4 hv4 σ4 fp4 hid hO4 k4 => ?_
    obtain ⟨hS4, K4⟩ := IsS.putO gb03 hpin hvw hQ3 hdj hbO hbQ k4 hO4
    obtain ⟨ga4, hafp4⟩ := K4.at ga3 (by simp) hafp
    obtain ⟨ge4, -⟩ := K4.at ge3 (by simp) hefp
    have hsrc : PS σ4 v2 m.l := by
      rcases hv3 with h | h | ⟨d, ex, c', cs, h2, h3⟩
      · exact .inl h
      · exact .inr (.inl h)
      · have hd0 : d ∉ b :: (fpO ++ fpQ) := fun h => hS0.live d h (by
          have h5 := hn2 d ex _ _ h2
          by_cases h6 : σ.get d = .dead
          · exact h6
          · rw [k1.get d h6 (by simp)] at h5; exact absurd h5 h6)
        exact .inr (.inr ⟨d, ex, c', cs, h2, (K4.at h3 (by simp) hd0).1⟩)
    simp (disch := first | assumption | simp) only [↓sbD, sbU, tyB, Nat.reduceMul, Nat.reduceSub, Int.reduceEq, Int.reduceLT, Int.reduceLE, Int.reduceNe, Nat.reduceBneDiff, Nat.reduceBEq, decide_false, gt_iff_lt, Bool.or_self, Bool.false_eq_true, Nat.mul_one, Nat.one_mul, Nat.zero_mul, ↓reduceIte, Nat.reduceEqDiff, Nat.reduceLT, Nat.reduceAdd, Nat.reduceLeDiff, reduceCtorEq, goInt, pairs, isConst, TI.isAgg, splice, boxS, Edp, dpv, Nat.beq_eq, ZV.val, List.any_cons, List.any_nil, Bool.false_and, not_bool, Bool.not_true, ge4, hvc2.1, hvc2.2]
    refine specPacket (m := m) (t := m.t) (p := m.p) (f := m.f) (g := m.g) (q := m.q) (u := m.u) (n := m.n) (r := m.r) hsrc hl fun σ5 w5 hw5 k5 => ?_
    obtain ⟨ga5, -⟩ := k5.at ga4 (by simp) (by simp)
    have hwc5 := dl_vc hw5
    simp (disch := first | assumption | simp) only [↓sbD, sbU, tyB, Nat.reduceMul, Nat.reduceSub, Int.reduceEq, Int.reduceLT, Int.reduceLE, Int.reduceNe, Nat.reduceBneDiff, Nat.reduceBEq, decide_false, gt_iff_lt, Bool.or_self, Bool.false_eq_true, Nat.mul_one, Nat.one_mul, Nat.zero_mul, ↓reduceIte, Nat.reduceEqDiff, Nat.reduceLT, Nat.reduceAdd, Nat.reduceLeDiff, reduceCtorEq, goInt, pairs, isConst, TI.isAgg, splice, boxS, Edp, dpv, Nat.beq_eq, ZV.val, List.any_cons, List.any_nil, Bool.false_and, ga5, hwc5.1, hwc5.2, AHeap.get_set_same, res_cellc, resC_some]
    have hS5 := hS4.kept k5 (fun _ _ h => by cases h)
    have k6 : ∀ o, Kept σ5 [a] (σ5.set a o) [a] := fun o => Kept.set (by simp)
    exact downS_here (h1' id v4 hv4 _ _ w5 hwc5 hid (hS5.kept (k6 _) (fun x hx h => by obtain rfl := List.mem_singleton.1 h; exact hafp4 hx)) ((((K3.wid (fun _ h => by cases h) (fun _ h => .inr h)).trans K4).tl k5).setD had))
theorem specNext {now : Int} (hS : IsS σ b true t W F most fp) (hr : 0 ≤ t.r ∧ t.r ≤ 1000000) (hF : F.length ≤ 100) (hu : ∀ m ∈ W, m.u ≤ 0) (hl : ∀ m ∈ W, m.l.length ≤ 100000)
    (h0 : ∀ σ' fp', (∀ m R, W = m :: R → 0 < m.q ∧ t.r ≤ (F.length : Int)) → IsS σ' b true t W F most fp' → Kept σ fp σ' fp' → Q (.tuple #[.agg ⟨[.int .i64 0, .int .i64 0, .int .i64 0, .slice none 0 0, .bool false, .int .i64 0, .string ⟨#[]⟩, .bool false, .string ⟨#[]⟩, .string ⟨#[]⟩, .int .i64 0, .bool false, .slice none 0 0, .bool false, .string ⟨#[]⟩, .bool false, .string ⟨#[]⟩, .bool false, .string ⟨#[]⟩, .string ⟨#[]⟩, .int .i64 0, .bool false, .bool false, .slice none 0 0, .slice none 0 0, .slice none 0 0]⟩, .bool false]) σ')
    (h1 : ∀ m R v0 hv0 σ' fp' v, W = m :: R → m.q ≤ 0 → (vcells v = [v] ∧ oneCell v = true) → IsS σ' b true t R F most fp' → Kept σ fp σ' fp' → Q (.tuple #[.agg ⟨pubC (m.withV v0 m.l hv0) 0 0 v⟩, .bool true]) σ')
    (h2 : ∀ m R v0 hv0 σ' fp' v c m2, W = m :: R → 0 < m.q → (F.length : Int) < t.r → (vcells v = [v] ∧ oneCell v = true) → 1 ≤ c → IsS σ' b true t R (F ++ [⟨c, qosOf m.q, m2⟩]) most fp' → Kept σ fp σ' fp' → Q (.tuple #[.agg ⟨pubC (m.withV v0 m.l hv0) (qosOf m.q) c v⟩, .bool true]) σ') :
    CallS E B 11 [.pointer (some ⟨b, 0, none⟩), .int .i64 now] σ Q := by
  have hS0 := hS
  obtain ⟨pin, cl, w, vw, en, sm, bo, bq, fpO, fpQ, gb, hpin, hvw, hO, hQ, hdj, hbO, hbQ, rfl⟩ := hS
  have gb0 := gb
  refine call11 (by simp) ?_
  simp only [strip, bodyOf, Try.f11, getD_body, keepN, bareOp_mk, lessOp_mk, lapp_cons, lapp_nil, List.map_cons, List.map_nil, array_toList, ↓reduceIte, Nat.reduceEqDiff, Bool.false_eq_true]
  simp (disch := first | assumption | simp) only [↓sbD, sbU, tyB, Nat.reduceMul, Nat.reduceSub, Int.reduceEq, Int.reduceLT, Int.reduceLE, Int.reduceNe, Nat.reduceBneDiff, Nat.reduceBEq, decide_false, gt_iff_lt, Bool.or_self, Bool.false_eq_true, Nat.mul_one, Nat.one_mul, Nat.zero_mul, ↓reduceIte, Nat.reduceEqDiff, Nat.reduceLT, Nat.reduceAdd, Nat.reduceLeDiff, reduceCtorEq, goInt, pairs, isConst, TI.isAgg, splice, boxS, Edp, dpv, Nat.beq_eq, ZV.val, List.any_cons, List.any_nil, Bool.false_and, AS_new, zePk]
  intro a ha
  have hab : a ≠ b := nd ha gb (by simp)
  generalize hσ1 : AHeap.set σ a _ = σ1
  have k1 : Kept σ [] σ1 [] := by rw [← hσ1]; exact (Kept.refl σ []).setD ha
  have ga1 : σ1.get a = .cells [.int .i64 0, .int .i64 0, .int .i64 0, .slice none 0 0, .bool false, .int .i64 0, .string ⟨#[]⟩, .bool false, .string ⟨#[]⟩, .string ⟨#[]⟩, .int .i64 0, .bool false, .slice none 0 0, .bool false, .string ⟨#[]⟩, .bool false, .string ⟨#[]⟩, .bool false, .string ⟨#[]⟩, .string ⟨#[]⟩, .int .i64 0, .bool false, .bool false, .slice none 0 0, .slice none 0 0, .slice none 0 0] true 0 := by rw [← hσ1]; exact AHeap.get_set_same _ _ _
  have hS1 := hS0.kept k1 (fun _ _ h => by cases h)
  have hafp : a ∉ b :: (fpO ++ fpQ) := fun h => hS0.live a h ha
  have K1 : Kept σ (b :: (fpO ++ fpQ)) σ1 (b :: (fpO ++ fpQ)) := k1.wid (fun _ h => by cases h) (fun _ h => .inr h)
  have hO1 := hO.kept k1 (fun _ _ h => by cases h)
  have hQ1 := hQ.kept k1 (fun _ _ h => by cases h)
  have gb1 := (k1.at gb (by simp) (by simp)).1
  clear hσ1
  try simp (disch := first | assumption | simp) only [↓sbD, sbU, tyB, Nat.reduceMul, Nat.reduceSub, Int.reduceEq, Int.reduceLT, Int.reduceLE, Int.reduceNe, Nat.reduceBneDiff, Nat.reduceBEq, decide_false, gt_iff_lt, Bool.or_self, Bool.false_eq_true, Nat.mul_one, Nat.one_mul, Nat.zero_mul, ↓reduceIte, Nat.reduceEqDiff, Nat.reduceLT, Nat.reduceAdd, Nat.reduceLeDiff, reduceCtorEq, goInt, pairs, isConst, TI.isAgg, splice, boxS, Edp, dpv, Nat.beq_eq, ZV.val, List.any_cons, List.any_nil, Bool.false_and]
  refine specOnline hS1 ?_
  simp (disch := first | assumption | simp) only [↓sbD, sbU, tyB, Nat.reduceMul, Nat.reduceSub, Int.reduceEq, Int.reduceLT, Int.reduceLE, Int.reduceNe, Nat.reduceBneDiff, Nat.reduceBEq, decide_false, gt_iff_lt, Bool.or_self, Bool.false_eq_true, Nat.mul_one, Nat.one_mul, Nat.zero_mul, ↓reduceIte, Nat.reduceEqDiff, Nat.reduceLT, Nat.reduceAdd, Nat.reduceLeDiff, reduceCtorEq, goInt, pairs, isConst, TI.isAgg, splice, boxS, Edp, dpv, Nat.beq_eq, ZV.val, List.any_cons, List.any_nil, Bool.false_and, not_bool, Bool.not_true]
  refine specLeftK hS1 fun σ2 k2 => ?_
  have gb2 := (k2.at gb1 (by simp) (by simp)).1
  have ga2 := (k2.at ga1 (by simp) (by simp)).1
  have hO2 := hO1.kept k2 (fun _ _ h => by cases h)
  have hQ2 := hQ1.kept k2 (fun _ _ h => by cases h)
  simp only [sesC] at gb2
  simp (disch := first | assumption | simp) only [↓sbD, sbU, tyB, Nat.reduceMul, Nat.reduceSub, Int.reduceEq, Int.reduceLT, Int.reduceLE, Int.reduceNe, Nat.reduceBneDiff, Nat.reduceBEq, decide_false, gt_iff_lt, Bool.or_self, Bool.false_eq_true, Nat.mul_one, Nat.one_mul, Nat.zero_mul, ↓reduceIte, Nat.reduceEqDiff, Nat.reduceLT, Nat.reduceAdd, Nat.reduceLeDiff, reduceCtorEq, goInt, pairs, isConst, TI.isAgg, splice, boxS, Edp, dpv, Nat.beq_eq, ZV.val, List.any_cons, List.any_nil, Bool.false_and, gb2, hpin.1, hpin.2, hvw.1, hvw.2, List.length_cons, List.length_nil, List.cons_append, List.nil_append, List.drop_succ_cons, List.drop_zero, List.set_cons_zero, List.set_cons_succ, decide_true]
  generalize hσ3 : AHeap.set σ2 b _ = σ3
  have k3 : Kept σ2 [b] σ3 [b] := by rw [← hσ3]; exact Kept.set (by simp)
  have gb3 : σ3.get b = .cells (sesC pin cl true t w vw en sm bo bq (.slice none 0 0)) true 0 := by rw [← hσ3]; exact AHeap.get_set_same _ _ _
  have ga3 := (k3.at ga2 (by simp) (by simp [hab])).1
  have hO3 := hO2.kept k3 (fun x hx h => by obtain rfl := List.mem_singleton.1 h; exact hbO hx)
  have hQ3 := hQ2.kept k3 (fun x hx h => by obtain rfl := List.mem_singleton.1 h; exact hbQ hx)
  have K3 : Kept σ (b :: (fpO ++ fpQ)) σ3 (b :: (fpO ++ fpQ)) := (K1.tl k2).trans (k3.wid (fun x h => by obtain rfl := List.mem_singleton.1 h; simp) (fun _ h => .inr h))
  have gb3' := gb3
  simp only [sesC] at gb3'
  have h00 : ((0 : Nat) : Int) = 0 := rfl
  clear hσ3
  simp (disch := first | assumption | simp) only [↓sbD, sbU, tyB, Nat.reduceMul, Nat.reduceSub, Int.reduceEq, Int.reduceLT, Int.reduceLE, Int.reduceNe, Nat.reduceBneDiff, Nat.reduceBEq, decide_false, gt_iff_lt, Bool.or_self, Bool.false_eq_true, Nat.mul_one, Nat.one_mul, Nat.zero_mul, ↓reduceIte, Nat.reduceEqDiff, Nat.reduceLT, Nat.reduceAdd, Nat.reduceLeDiff, reduceCtorEq, goInt, pairs, isConst, TI.isAgg, splice, boxS, Edp, dpv, Nat.beq_eq, ZV.val, List.any_cons, List.any_nil, Bool.false_and, gb3', h00]
  refine sub31 (AbsN.specQFirst hQ3 hl (fun σ4 fp4 hn hQ4 k4 => ?_) fun k m R σ4 fp4 hd hk hQ4 k4 v4 hv4 => ?_)
  · obtain ⟨hS4, K4⟩ := IsS.putQ gb3 hpin hvw hO3 hdj hbO hbQ k4 hQ4
    obtain ⟨ga4, hafp4⟩ := (K3.trans K4 |> fun K => K4.at ga3 (by simp) hafp)
    have hW := hn hu
    subst hW
    simp (disch := first | assumption | simp) only [↓sbD, sbU, tyB, Nat.reduceMul, Nat.reduceSub, Int.reduceEq, Int.reduceLT, Int.reduceLE, Int.reduceNe, Nat.reduceBneDiff, Nat.reduceBEq, decide_false, gt_iff_lt, Bool.or_self, Bool.false_eq_true, Nat.mul_one, Nat.one_mul, Nat.zero_mul, ↓reduceIte, Nat.reduceEqDiff, Nat.reduceLT, Nat.reduceAdd, Nat.reduceLeDiff, reduceCtorEq, goInt, pairs, isConst, TI.isAgg, splice, boxS, Edp, dpv, Nat.beq_eq, ZV.val, List.any_cons, List.any_nil, Bool.false_and, AS_new, zeMsA, ndS.2.2.2.2.2.2.1]
    intro e he
    have hea : e ≠ a := nd he ga4 (by simp)
    have ea : ∀ (τ : AHeap) o, (AHeap.set τ e o).get a = τ.get a := fun τ o => AHeap.get_set_ne _ _ hea
    try simp (disch := first | assumption | simp) only [↓sbD, sbU, tyB, Nat.reduceMul, Nat.reduceSub, Int.reduceEq, Int.reduceLT, Int.reduceLE, Int.reduceNe, Nat.reduceBneDiff, Nat.reduceBEq, decide_false, gt_iff_lt, Bool.or_self, Bool.false_eq_true, Nat.mul_one, Nat.one_mul, Nat.zero_mul, ↓reduceIte, Nat.reduceEqDiff, Nat.reduceLT, Nat.reduceAdd, Nat.reduceLeDiff, reduceCtorEq, goInt, pairs, isConst, TI.isAgg, splice, boxS, Edp, dpv, Nat.beq_eq, ZV.val, List.any_cons, List.any_nil, Bool.false_and, ea, ga4, not_bool, Bool.not_false, zePk, AHeap.get_set_same, res_cellc, resC_some]
    try simp (disch := first | assumption | simp) only [↓sbD, sbU, tyB, Nat.reduceMul, Nat.reduceSub, Int.reduceEq, Int.reduceLT, Int.reduceLE, Int.reduceNe, Nat.reduceBneDiff, Nat.reduceBEq, decide_false, gt_iff_lt, Bool.or_self, Bool.false_eq_true, Nat.mul_one, Nat.one_mul, Nat.zero_mul, ↓reduceIte, Nat.reduceEqDiff, Nat.reduceLT, Nat.reduceAdd, Nat.reduceLeDiff, reduceCtorEq, goInt, pairs, isConst, TI.isAgg, splice, boxS, Edp, dpv, Nat.beq_eq, ZV.val, List.any_cons, List.any_nil, Bool.false_and, ea, ga4, not_bool, Bool.not_false, zePk, AHeap.get_set_same, res_cellc, resC_some]
    have k5 : Kept σ4 [] ((σ4.set e (.cells [.string ⟨#[]⟩, .string ⟨#[]⟩, .int .i64 0, .bool false, .slice none 0 0, .string ⟨#[]⟩, .int .i64 0, .int .i64 0, .string ⟨#[]⟩] true 0)).set e (.cells [.string ⟨#[]⟩, .string ⟨#[]⟩, .int .i64 0, .bool false, .slice none 0 0, .string ⟨#[]⟩, .int .i64 0, .int .i64 0, .string ⟨#[]⟩] true 0)) [] := ((Kept.refl _ []).setD he).setD he
    have k6 : ∀ (τ : AHeap) o, Kept τ [a] (τ.set a o) [a] := fun τ o => Kept.set (by simp)
    exact downS_here (h0 _ _ (fun m R h => by cases h) ((hS4.kept k5 (fun _ _ h => by cases h)).kept (k6 _ _) (fun x hx h => by obtain rfl := List.mem_singleton.1 h; exact hafp4 hx)) (((K3.trans K4).tl k5).setD ha))
  obtain ⟨hS4, K4⟩ := IsS.putQ gb3 hpin hvw hO3 hdj hbO hbQ k4 hQ4
  have hk0 := hk hu
  subst hk0
  have hWd : W = m :: R := by simpa using hd
  obtain ⟨ga4, hafp4⟩ := K4.at ga3 (by simp) hafp
  have hvc4 := dl_vc hv4
  have hmu := hu m (by rw [hWd]; simp)
  have hml := hl m (by rw [hWd]; simp)
  simp only [msCe]
  simp (disch := first | assumption | simp) only [↓sbD, sbU, tyB, Nat.reduceMul, Nat.reduceSub, Int.reduceEq, Int.reduceLT, Int.reduceLE, Int.reduceNe, Nat.reduceBneDiff, Nat.reduceBEq, decide_false, gt_iff_lt, Bool.or_self, Bool.false_eq_true, Nat.mul_one, Nat.one_mul, Nat.zero_mul, ↓reduceIte, Nat.reduceEqDiff, Nat.reduceLT, Nat.reduceAdd, Nat.reduceLeDiff, reduceCtorEq, goInt, pairs, isConst, TI.isAgg, splice, boxS, Edp, dpv, Nat.beq_eq, ZV.val, List.any_cons, List.any_nil, Bool.false_and, AS_new, zeMsA, ndS.2.2.2.2.2.2.1, hvc4.1, hvc4.2, Ms.withV]
  intro e he
  have hea : e ≠ a := nd he ga4 (by simp)
  have hefp4 : e ∉ b :: (fpO ++ fp4) := fun h => hS4.live e h he
  try simp (disch := first | assumption | simp) only [↓sbD, sbU, tyB, Nat.reduceMul, Nat.reduceSub, Int.reduceEq, Int.reduceLT, Int.reduceLE, Int.reduceNe, Nat.reduceBneDiff, Nat.reduceBEq, decide_false, gt_iff_lt, Bool.or_self, Bool.false_eq_true, Nat.mul_one, Nat.one_mul, Nat.zero_mul, ↓reduceIte, Nat.reduceEqDiff, Nat.reduceLT, Nat.reduceAdd, Nat.reduceLeDiff, reduceCtorEq, goInt, pairs, isConst, TI.isAgg, splice, boxS, Edp, dpv, Nat.beq_eq, ZV.val, List.any_cons, List.any_nil, Bool.false_and, AHeap.get_set_same]
  generalize hσ5 : AHeap.set (AHeap.set σ4 e _) e _ = σ5
  have k5 : Kept σ4 [] σ5 [] := by rw [← hσ5]; exact ((Kept.refl _ []).setD he).setD he
  have ge5 : σ5.get e = .cells [.string m.t, .string m.p, .int .i64 m.q, .bool m.r, v4, .string m.f, .int .i64 m.u, .int .i64 m.n, .string m.g] true 0 := by rw [← hσ5]; exact AHeap.get_set_same _ _ _
  have ga5 := (k5.at ga4 (by simp) (by simp)).1
  have hS5 := hS4.kept k5 (fun _ _ h => by cases h)
  have K5 := (K3.trans K4).tl k5
  clear hσ5
  simp (disch := first | assumption | simp) only [↓sbD, sbU, tyB, Nat.reduceMul, Nat.reduceSub, Int.reduceEq, Int.reduceLT, Int.reduceLE, Int.reduceNe, Nat.reduceBneDiff, Nat.reduceBEq, decide_false, gt_iff_lt, Bool.or_self, Bool.false_eq_true, Nat.mul_one, Nat.one_mul, Nat.zero_mul, ↓reduceIte, Nat.reduceEqDiff, Nat.reduceLT, Nat.reduceAdd, Nat.reduceLeDiff, reduceCtorEq, goInt, pairs, isConst, TI.isAgg, splice, boxS, Edp, dpv, Nat.beq_eq, ZV.val, List.any_cons, List.any_nil, Bool.false_and, not_bool, Bool.not_true, ge5]
  refine specMay (m := m.withV v4 m.l hv4) hS5 hr (by omega) fun σ6 k6 => ?_
  have ge6 := (k6.at ge5 (by simp) (by simp)).1
  have ga6 := (k6.at ga5 (by simp) (by simp)).1
  have hS6 := hS5.kept k6 (fun _ _ h => by cases h)
  have K6 := K5.tl k6
  have hq' : (m.withV v4 m.l hv4).q = m.q := rfl
  rw [hq']
  by_cases hmay : m.q ≤ 0 ∨ (F.length : Int) < t.r
  rotate_left
  · simp (disch := first | assumption | simp) only [↓sbD, sbU, tyB, Nat.reduceMul, Nat.reduceSub, Int.reduceEq, Int.reduceLT, Int.reduceLE, Int.reduceNe, Nat.reduceBneDiff, Nat.reduceBEq, decide_false, gt_iff_lt, Bool.or_self, Bool.false_eq_true, Nat.mul_one, Nat.one_mul, Nat.zero_mul, ↓reduceIte, Nat.reduceEqDiff, Nat.reduceLT, Nat.reduceAdd, Nat.reduceLeDiff, reduceCtorEq, goInt, pairs, isConst, TI.isAgg, splice, boxS, Edp, dpv, Nat.beq_eq, ZV.val, List.any_cons, List.any_nil, Bool.false_and, hmay, decide_false, not_bool, Bool.not_false, ga6, zePk, AHeap.get_set_same, res_cellc, resC_some]
    have k7 : ∀ (τ : AHeap) o, Kept τ [a] (τ.set a o) [a] := fun τ o => Kept.set (by simp)
    subst hWd
    refine downS_here (h0 _ _ (fun m' R' h => ?_) (hS6.kept (k7 _ _) (fun x hx h => by obtain rfl := List.mem_singleton.1 h; exact hafp4 hx)) (K6.setD ha))
    injection h with h1 h2
    subst h1
    omega
  simp (disch := first | assumption | simp) only [↓sbD, sbU, tyB, Nat.reduceMul, Nat.reduceSub, Int.reduceEq, Int.reduceLT, Int.reduceLE, Int.reduceNe, Nat.reduceBneDiff, Nat.reduceBEq, decide_false, gt_iff_lt, Bool.or_self, Bool.false_eq_true, Nat.mul_one, Nat.one_mul, Nat.zero_mul, ↓reduceIte, Nat.reduceEqDiff, Nat.reduceLT, Nat.reduceAdd, Nat.reduceLeDiff, reduceCtorEq, goInt, pairs, isConst, TI.isAgg, splice, boxS, Edp, dpv, Nat.beq_eq, ZV.val, List.any_cons, List.any_nil, Bool.false_and, eq_true hmay, decide_true, not_bool, Bool.not_true]
  obtain ⟨pin6, cl6, w6, vw6, en6, sm6, bo6, bq6, fpO6, fpQ6, gb6, hpin6, hvw6, hO6, hQ6, hdj6, hbO6, hbQ6, hfp6⟩ := hS6
  have gb6' := gb6
  simp only [sesC] at gb6'
  have hafp6 : a ∉ b :: (fpO6 ++ fpQ6) := by rw [← hfp6]; exact hafp4
  have hefp6 : e ∉ b :: (fpO6 ++ fpQ6) := by rw [← hfp6]; exact hefp4
  rw [hfp6] at K6
  simp (disch := first | assumption | simp) only [↓sbD, sbU, tyB, Nat.reduceMul, Nat.reduceSub, Int.reduceEq, Int.reduceLT, Int.reduceLE, Int.reduceNe, Nat.reduceBneDiff, Nat.reduceBEq, decide_false, gt_iff_lt, Bool.or_self, Bool.false_eq_true, Nat.mul_one, Nat.one_mul, Nat.zero_mul, ↓reduceIte, Nat.reduceEqDiff, Nat.reduceLT, Nat.reduceAdd, Nat.reduceLeDiff, reduceCtorEq, goInt, pairs, isConst, TI.isAgg, splice, boxS, Edp, dpv, Nat.beq_eq, ZV.val, List.any_cons, List.any_nil, Bool.false_and, gb6']
  refine sub33 (AbsN.specQPop hQ6 (by rw [← hWd]; exact hl) (fun σ7 fp7 hn hQ7 k7 => by cases hn (by rw [← hWd]; exact hu)) fun k2 m2 R2 σ7 fp7 hd2 hk2 hQ7 k7 v7 hv7 => ?_)
  have hk20 := hk2 (by rw [← hWd]; exact hu)
  subst hk20
  have hd2' : m :: R = m2 :: R2 := by simpa using hd2
  injection hd2' with e1 e2
  subst e1 e2
  obtain ⟨hS7, K7⟩ := IsS.putQ gb6 hpin6 hvw6 hO6 hdj6 hbO6 hbQ6 k7 hQ7
  obtain ⟨ga7, hafp7⟩ := K7.at ga6 (by simp) hafp6
  obtain ⟨ge7, -⟩ := K7.at ge6 (by simp) hefp6
  have K67 := K6.trans K7
  simp (disch := first | assumption | simp) only [↓sbD, sbU, tyB, Nat.reduceMul, Nat.reduceSub, Int.reduceEq, Int.reduceLT, Int.reduceLE, Int.reduceNe, Nat.reduceBneDiff, Nat.reduceBEq, decide_false, gt_iff_lt, Bool.or_self, Bool.false_eq_true, Nat.mul_one, Nat.one_mul, Nat.zero_mul, ↓reduceIte, Nat.reduceEqDiff, Nat.reduceLT, Nat.reduceAdd, Nat.reduceLeDiff, reduceCtorEq, goInt, pairs, isConst, TI.isAgg, splice, boxS, Edp, dpv, Nat.beq_eq, ZV.val, List.any_cons, List.any_nil, Bool.false_and, ge7]
  refine specSend (m := m.withV v4 m.l hv4) hS7 hF hmu hml (fun hq0 σ8 v8 hv8 k8 => ?_) fun hq1 c v8 hv8 σ8 fp8 v2 hv2 hc hS8 k8 => ?_
  · have ga8 := (k8.at ga7 (by simp) (by simp)).1
    have k9 : ∀ (τ : AHeap) o, Kept τ [a] (τ.set a o) [a] := fun τ o => Kept.set (by simp)
    simp only [pubC]
    simp (disch := first | assumption | simp) only [↓sbD, sbU, tyB, Nat.reduceMul, Nat.reduceSub, Int.reduceEq, Int.reduceLT, Int.reduceLE, Int.reduceNe, Nat.reduceBneDiff, Nat.reduceBEq, decide_false, gt_iff_lt, Bool.or_self, Bool.false_eq_true, Nat.mul_one, Nat.one_mul, Nat.zero_mul, ↓reduceIte, Nat.reduceEqDiff, Nat.reduceLT, Nat.reduceAdd, Nat.reduceLeDiff, reduceCtorEq, goInt, pairs, isConst, TI.isAgg, splice, boxS, Edp, dpv, Nat.beq_eq, ZV.val, List.any_cons, List.any_nil, Bool.false_and, ga8, hv8.1, hv8.2, AHeap.get_set_same, res_cellc, resC_some]
    exact downS_here (h1 m R v4 hv4 _ _ v8 hWd hq0 hv8 ((hS7.kept k8 (fun _ _ h => by cases h)).kept (k9 _ _) (fun x hx h => by obtain rfl := List.mem_singleton.1 h; exact hafp7 hx)) ((K67.tl k8).setD ha))
  · obtain ⟨ga8, hafp8⟩ := k8.at ga7 (by simp) hafp7
    have k9 : ∀ (τ : AHeap) o, Kept τ [a] (τ.set a o) [a] := fun τ o => Kept.set (by simp)
    have hlt : (F.length : Int) < t.r := by
      rcases hmay with h | h
      · have : ¬ m.q ≤ 0 := by
          have : (0 : Int) < m.q := hq1
          omega
        exact absurd h this
      · exact h
    simp only [pubC]
    simp (disch := first | assumption | simp) only [↓sbD, sbU, tyB, Nat.reduceMul, Nat.reduceSub, Int.reduceEq, Int.reduceLT, Int.reduceLE, Int.reduceNe, Nat.reduceBneDiff, Nat.reduceBEq, decide_false, gt_iff_lt, Bool.or_self, Bool.false_eq_true, Nat.mul_one, Nat.one_mul, Nat.zero_mul, ↓reduceIte, Nat.reduceEqDiff, Nat.reduceLT, Nat.reduceAdd, Nat.reduceLeDiff, reduceCtorEq, goInt, pairs, isConst, TI.isAgg, splice, boxS, Edp, dpv, Nat.beq_eq, ZV.val, List.any_cons, List.any_nil, Bool.false_and, ga8, hv2.1, hv2.2, AHeap.get_set_same, res_cellc, resC_some]
    exact downS_here (h2 m R v4 hv4 _ _ v2 c _ hWd hq1 hlt hv2 hc (hS8.kept (k9 _ _) (fun x hx h => by obtain rfl := List.mem_singleton.1 h; exact hafp8 hx)) ((K67.trans k8).setD ha))
end
end Go.Proofs.Ytkhcbbpfchgemaa.AbsA
namespace Go.Proofs.Ytkhcbbpfchgemaa.AbsA
open Go AbsYtkhcbbpfchgemaa Abs
open AbsS (msgC PS)
set_option maxRecDepth 100000
set_option maxHeartbeats 4000000
set_option linter.unusedSimpArgs false
set_option linter.unusedVariables false
attribute [local irreducible] afterS afterOpS opSK OpsS TrS CodeS condS condW thenS thenQ guardS guardTS outS drawS trSK consS
section
variable {σ : AHeap} {Q : Value → AHeap → Prop}
theorem call6 {args : List Value} {σ : AHeap} {Q : Value → AHeap → Prop} (hl : args.length ≤ 2) (h : CodeS E B (strip [] (bodyOf Try.f6)) (L 2 (ofL args)) σ (outS E [.cell 0 25] (downS Q))) : CallS E B 6 args σ Q :=
  S_callK hB [] rfl rfl rfl (by kernel_rfl) rfl rfl (by kernel_rfl) hl h
theorem zeCf : azero E 25 = some [.int .i64 0, .int .i64 0, .int .i64 0, .int .i64 0, .int .i64 0, .int .i64 0, .int .i64 0, .int .i64 0, .int .i64 0, .int .i64 0, .int .i64 0, .int .i64 0, .int .i64 0] := rfl
theorem specUsual (hq : ∀ σ' x0 x1 x2 x3 x4 x5 x6 x7 x8 x9 x10 x11 x12, Kept σ [] σ' [] → Q (.agg ⟨[.int .i64 x0, .int .i64 x1, .int .i64 x2, .int .i64 x3, .int .i64 x4, .int .i64 x5, .int .i64 x6, .int .i64 x7, .int .i64 x8, .int .i64 x9, .int .i64 x10, .int .i64 x11, .int .i64 x12]⟩) σ') : CallS E B 6 [] σ Q := by
  refine call6 (by simp) ?_
  simp only [strip, bodyOf, Try.f6, getD_body, keepN, bareOp_mk, lessOp_mk, lapp_cons, lapp_nil, List.map_cons, List.map_nil, array_toList, ↓reduceIte, Nat.reduceEqDiff, Bool.false_eq_true]
  simp (disch := first | assumption | simp) only [↓sbD, sbU, tyB, Nat.reduceMul, Nat.reduceSub, Int.reduceEq, Int.reduceLT, Int.reduceLE, Int.reduceNe, Nat.reduceBneDiff, Nat.reduceBEq, decide_false, gt_iff_lt, Bool.or_self, Bool.false_eq_true, Nat.mul_one, Nat.one_mul, Nat.zero_mul, ↓reduceIte, Nat.reduceEqDiff, Nat.reduceLT, Nat.reduceAdd, Nat.reduceLeDiff, reduceCtorEq, goInt, pairs, isConst, TI.isAgg, splice, boxS, Edp, dpv, Nat.beq_eq, ZV.val, List.any_cons, List.any_nil, Bool.false_and, AS_new, zeCf]
  intro c hc
  try simp (disch := first | assumption | simp) only [↓sbD, sbU, tyB, Nat.reduceMul, Nat.reduceSub, Int.reduceEq, Int.reduceLT, Int.reduceLE, Int.reduceNe, Nat.reduceBneDiff, Nat.reduceBEq, decide_false, gt_iff_lt, Bool.or_self, Bool.false_eq_true, Nat.mul_one, Nat.one_mul, Nat.zero_mul, ↓reduceIte, Nat.reduceEqDiff, Nat.reduceLT, Nat.reduceAdd, Nat.reduceLeDiff, reduceCtorEq, goInt, pairs, isConst, TI.isAgg, splice, boxS, Edp, dpv, Nat.beq_eq, ZV.val, List.any_cons, List.any_nil, Bool.false_and, AHeap.get_set_same, res_cellc, resC_some]
  try simp (disch := first | assumption | simp) only [↓sbD, sbU, tyB, Nat.reduceMul, Nat.reduceSub, Int.reduceEq, Int.reduceLT, Int.reduceLE, Int.reduceNe, Nat.reduceBneDiff, Nat.reduceBEq, decide_false, gt_iff_lt, Bool.or_self, Bool.false_eq_true, Nat.mul_one, Nat.one_mul, Nat.zero_mul, ↓reduceIte, Nat.reduceEqDiff, Nat.reduceLT, Nat.reduceAdd, Nat.reduceLeDiff, reduceCtorEq, goInt, pairs, isConst, TI.isAgg, splice, boxS, Edp, dpv, Nat.beq_eq, ZV.val, List.any_cons, List.any_nil, Bool.false_and, AHeap.get_set_same, res_cellc, resC_some]
  exact downS_here (hq _ _ _ _ _ _ _ _ _ _ _ _ _ _ (((Kept.refl σ []).setD hc).setD hc))
def fewPr (l : List Pr) : Prop := l.length ≤ 70 ∧ ∀ a ∈ l, a.s.size ≤ 200 ∧ a.v.size ≤ 200
theorem specFewP {v : Value} {l : List Pr} (h : DL propC 4 v l) (hq : ∀ b : Bool, (b = true → fewPr l) → Q (.bool b) σ) : CallS E B 27 [v] σ Q := by
  have hlen := DLp.len h
  refine call27 (by simp) ?_
  simp only [strip, bodyOf, Try.f27, getD_body, keepN, bareOp_mk, lessOp_mk, lapp_cons, lapp_nil, List.map_cons, List.map_nil, array_toList, ↓reduceIte, Nat.reduceEqDiff, Bool.false_eq_true]
  simp (disch := first | assumption | simp) only [↓sbD, sbU, tyB, Nat.reduceMul, Nat.reduceSub, Int.reduceEq, Int.reduceLT, Int.reduceLE, Int.reduceNe, Nat.reduceBneDiff, Nat.reduceBEq, decide_false, gt_iff_lt, Bool.or_self, Bool.false_eq_true, Nat.mul_one, Nat.one_mul, Nat.zero_mul, ↓reduceIte, Nat.reduceEqDiff, Nat.reduceLT, Nat.reduceAdd, Nat.reduceLeDiff, reduceCtorEq, goInt, pairs, isConst, TI.isAgg, splice, boxS, Edp, dpv, Nat.beq_eq, ZV.val, List.any_cons, List.any_nil, Bool.false_and]
  refine S_loop (fun k f σ' => σ' = σ ∧ ∃ i : Nat, i ≤ 70 ∧ i ≤ l.length ∧ k + i = l.length ∧ f 3 = .int .i64 i ∧ ∀ j (hj : j < l.length), j < i → (l[j]).s.size ≤ 200 ∧ (l[j]).v.size ≤ 200) l.length (Le.refl _) ⟨rfl, 0, by omega, by omega, rfl, by simp (disch := first | assumption | simp) only [↓sbD, sbU, tyB, Nat.reduceMul, Nat.reduceSub, Int.reduceEq, Int.reduceLT, Int.reduceLE, Int.reduceNe, Nat.reduceBneDiff, Nat.reduceBEq, decide_false, gt_iff_lt, Bool.or_self, Bool.false_eq_true, Nat.mul_one, Nat.one_mul, Nat.zero_mul, ↓reduceIte, Nat.reduceEqDiff, Nat.reduceLT, Nat.reduceAdd, Nat.reduceLeDiff, reduceCtorEq, goInt, pairs, isConst, TI.isAgg, splice, boxS, Edp, dpv, Nat.beq_eq, ZV.val, List.any_cons, List.any_nil, Bool.false_and]; rfl, fun j _ hj => by omega⟩ ?_
  rintro k f σ' ⟨rfl, i, h20, hil, hk, f3, hall⟩ hf
  have f0 := hf 0 (by decide) (notMem_wr (by kernel_rfl))
  simp (disch := first | assumption | simp) only [↓sbD, sbU, tyB, Nat.reduceMul, Nat.reduceSub, Int.reduceEq, Int.reduceLT, Int.reduceLE, Int.reduceNe, Nat.reduceBneDiff, Nat.reduceBEq, decide_false, gt_iff_lt, Bool.or_self, Bool.false_eq_true, Nat.mul_one, Nat.one_mul, Nat.zero_mul, ↓reduceIte, Nat.reduceEqDiff, Nat.reduceLT, Nat.reduceAdd, Nat.reduceLeDiff, reduceCtorEq, goInt, pairs, isConst, TI.isAgg, splice, boxS, Edp, dpv, Nat.beq_eq, ZV.val, List.any_cons, List.any_nil, Bool.false_and] at f0
  clear hf
  by_cases h1 : (i : Int) < (l.length : Int)
  · by_cases h2 : (i : Int) < 70
    · have hi : i < l.length := by omega
      have hia := DLp.at h hi
      have hw := wrap_suc (n := i) (by omega)
      generalize hy : l[i] = y at hia
      have hac : propC y = [.int .i64 y.id, .int .i64 y.n, .string y.s, .string y.v] := rfl
      by_cases hb : (200 : Int) < (y.s.size : Int)
      · simp (disch := first | assumption | simp) only [↓sbD, sbU, tyB, Nat.reduceMul, Nat.reduceSub, Int.reduceEq, Int.reduceLT, Int.reduceLE, Int.reduceNe, Nat.reduceBneDiff, Nat.reduceBEq, decide_false, gt_iff_lt, Bool.or_self, Bool.false_eq_true, Nat.mul_one, Nat.one_mul, Nat.zero_mul, ↓reduceIte, Nat.reduceEqDiff, Nat.reduceLT, Nat.reduceAdd, Nat.reduceLeDiff, reduceCtorEq, goInt, pairs, isConst, TI.isAgg, splice, boxS, Edp, dpv, Nat.beq_eq, ZV.val, List.any_cons, List.any_nil, Bool.false_and, f0, f3, hlen, h1, h2, hia, hac, hb]
        exact downS_here (hq false (fun h => by cases h))
      by_cases hb2 : (200 : Int) < (y.v.size : Int)
      · simp (disch := first | assumption | simp) only [↓sbD, sbU, tyB, Nat.reduceMul, Nat.reduceSub, Int.reduceEq, Int.reduceLT, Int.reduceLE, Int.reduceNe, Nat.reduceBneDiff, Nat.reduceBEq, decide_false, gt_iff_lt, Bool.or_self, Bool.false_eq_true, Nat.mul_one, Nat.one_mul, Nat.zero_mul, ↓reduceIte, Nat.reduceEqDiff, Nat.reduceLT, Nat.reduceAdd, Nat.reduceLeDiff, reduceCtorEq, goInt, pairs, isConst, TI.isAgg, splice, boxS, Edp, dpv, Nat.beq_eq, ZV.val, List.any_cons, List.any_nil, Bool.false_and, f0, f3, hlen, h1, h2, hia, hac, hb, hb2]
        exact downS_here (hq false (fun h => by cases h))
      · simp (disch := first | assumption | simp) only [↓sbD, sbU, tyB, Nat.reduceMul, Nat.reduceSub, Int.reduceEq, Int.reduceLT, Int.reduceLE, Int.reduceNe, Nat.reduceBneDiff, Nat.reduceBEq, decide_false, gt_iff_lt, Bool.or_self, Bool.false_eq_true, Nat.mul_one, Nat.one_mul, Nat.zero_mul, ↓reduceIte, Nat.reduceEqDiff, Nat.reduceLT, Nat.reduceAdd, Nat.reduceLeDiff, reduceCtorEq, goInt, pairs, isConst, TI.isAgg, splice, boxS, Edp, dpv, Nat.beq_eq, ZV.val, List.any_cons, List.any_nil, Bool.false_and, f0, f3, hlen, h1, h2, hia, hac, hb, hb2, hw]
        refine ⟨_, k - 1, _, rfl, by omega, Le.refl _, rfl, i + 1, by omega, by omega, by omega, by simp (disch := first | assumption | simp) only [↓sbD, sbU, tyB, Nat.reduceMul, Nat.reduceSub, Int.reduceEq, Int.reduceLT, Int.reduceLE, Int.reduceNe, Nat.reduceBneDiff, Nat.reduceBEq, decide_false, gt_iff_lt, Bool.or_self, Bool.false_eq_true, Nat.mul_one, Nat.one_mul, Nat.zero_mul, ↓reduceIte, Nat.reduceEqDiff, Nat.reduceLT, Nat.reduceAdd, Nat.reduceLeDiff, reduceCtorEq, goInt, pairs, isConst, TI.isAgg, splice, boxS, Edp, dpv, Nat.beq_eq, ZV.val, List.any_cons, List.any_nil, Bool.false_and], fun j hj hji => ?_⟩
        rcases (by omega : j < i ∨ j = i) with h3 | rfl
        · exact hall j hj h3
        · rw [hy]; omega
    · have h3 : i = 70 := by omega
      have h4 : ¬ (l.length : Int) ≤ 70 := by omega
      simp (disch := first | assumption | simp) only [↓sbD, sbU, tyB, Nat.reduceMul, Nat.reduceSub, Int.reduceEq, Int.reduceLT, Int.reduceLE, Int.reduceNe, Nat.reduceBneDiff, Nat.reduceBEq, decide_false, gt_iff_lt, Bool.or_self, Bool.false_eq_true, Nat.mul_one, Nat.one_mul, Nat.zero_mul, ↓reduceIte, Nat.reduceEqDiff, Nat.reduceLT, Nat.reduceAdd, Nat.reduceLeDiff, reduceCtorEq, goInt, pairs, isConst, TI.isAgg, splice, boxS, Edp, dpv, Nat.beq_eq, ZV.val, List.any_cons, List.any_nil, Bool.false_and, f0, f3, hlen, h1, h2, h4]
      exact downS_here (hq false (fun h => by cases h))
  · have hi : i = l.length := by omega
    have h4 : (l.length : Int) ≤ 70 := by omega
    simp (disch := first | assumption | simp) only [↓sbD, sbU, tyB, Nat.reduceMul, Nat.reduceSub, Int.reduceEq, Int.reduceLT, Int.reduceLE, Int.reduceNe, Nat.reduceBneDiff, Nat.reduceBEq, decide_false, gt_iff_lt, Bool.or_self, Bool.false_eq_true, Nat.mul_one, Nat.one_mul, Nat.zero_mul, ↓reduceIte, Nat.reduceEqDiff, Nat.reduceLT, Nat.reduceAdd, Nat.reduceLeDiff, reduceCtorEq, goInt, pairs, isConst, TI.isAgg, splice, boxS, Edp, dpv, Nat.beq_eq, ZV.val, List.any_cons, List.any_nil, Bool.false_and, f0, f3, hlen, h1, h4]
    refine downS_here (hq true fun _ => ⟨by omega, fun a ha => ?_⟩)
    obtain ⟨j, hj, rfl⟩ := List.getElem_of_mem ha
    exact hall j hj (by omega)
theorem specSmall {t p f g : ByteArray} {q u n : Int} {r : Bool} {v : Value} {l : List Pr} (hv : DL propC 4 v l) (hq : ∀ σ' b, Kept σ [] σ' [] → (b = true → l.length ≤ 70) → Q (.bool b) σ') : CallS E B 9 [.agg ⟨msgC t p q r v f u n g⟩] σ Q := by
  have hvc := dl_vc hv
  simp only [msgC]
  by_cases c0 : ¬ (t.size : Int) ≤ 200
  · refine call9 (by simp) ?_
    simp only [strip, bodyOf, Try.f9, getD_body, keepN, bareOp_mk, lessOp_mk, lapp_cons, lapp_nil, List.map_cons, List.map_nil, array_toList, ↓reduceIte, Nat.reduceEqDiff, Bool.false_eq_true]
    simp (disch := first | assumption | simp) only [↓sbD, sbU, tyB, Nat.reduceMul, Nat.reduceSub, Int.reduceEq, Int.reduceLT, Int.reduceLE, Int.reduceNe, Nat.reduceBneDiff, Nat.reduceBEq, decide_false, gt_iff_lt, Bool.or_self, Bool.false_eq_true, Nat.mul_one, Nat.one_mul, Nat.zero_mul, ↓reduceIte, Nat.reduceEqDiff, Nat.reduceLT, Nat.reduceAdd, Nat.reduceLeDiff, reduceCtorEq, goInt, pairs, isConst, TI.isAgg, splice, boxS, Edp, dpv, Nat.beq_eq, ZV.val, List.any_cons, List.any_nil, Bool.false_and, AS_new, ndA.1, hvc.1, hvc.2]
    intro b hb
    try simp (disch := first | assumption | simp) only [↓sbD, sbU, tyB, Nat.reduceMul, Nat.reduceSub, Int.reduceEq, Int.reduceLT, Int.reduceLE, Int.reduceNe, Nat.reduceBneDiff, Nat.reduceBEq, decide_false, gt_iff_lt, Bool.or_self, Bool.false_eq_true, Nat.mul_one, Nat.one_mul, Nat.zero_mul, ↓reduceIte, Nat.reduceEqDiff, Nat.reduceLT, Nat.reduceAdd, Nat.reduceLeDiff, reduceCtorEq, goInt, pairs, isConst, TI.isAgg, splice, boxS, Edp, dpv, Nat.beq_eq, ZV.val, List.any_cons, List.any_nil, Bool.false_and, AHeap.get_set_same, c0]
    exact downS_here (hq _ false ((Kept.refl σ []).setD hb) (fun h => by cases h))
  replace c0 := Decidable.not_not.1 c0
  by_cases c1 : ¬ (p.size : Int) ≤ 200
  · refine call9 (by simp) ?_
    simp only [strip, bodyOf, Try.f9, getD_body, keepN, bareOp_mk, lessOp_mk, lapp_cons, lapp_nil, List.map_cons, List.map_nil, array_toList, ↓reduceIte, Nat.reduceEqDiff, Bool.false_eq_true]
    simp (disch := first | assumption | simp) only [↓sbD, sbU, tyB, Nat.reduceMul, Nat.reduceSub, Int.reduceEq, Int.reduceLT, Int.reduceLE, Int.reduceNe, Nat.reduceBneDiff, Nat.reduceBEq, decide_false, gt_iff_lt, Bool.or_self, Bool.false_eq_true, Nat.mul_one, Nat.one_mul, Nat.zero_mul, ↓reduceIte, Nat.reduceEqDiff, Nat.reduceLT, Nat.reduceAdd, Nat.reduceLeDiff, reduceCtorEq, goInt, pairs, isConst, TI.isAgg, splice, boxS, Edp, dpv, Nat.beq_eq, ZV.val, List.any_cons, List.any_nil, Bool.false_and, AS_new, ndA.1, hvc.1, hvc.2]
    intro b hb
    try simp (disch := first | assumption | simp) only [↓sbD, sbU, tyB, Nat.reduceMul, Nat.reduceSub, Int.reduceEq, Int.reduceLT, Int.reduceLE, Int.reduceNe, Nat.reduceBneDiff, Nat.reduceBEq, decide_false, gt_iff_lt, Bool.or_self, Bool.false_eq_true, Nat.mul_one, Nat.one_mul, Nat.zero_mul, ↓reduceIte, Nat.reduceEqDiff, Nat.reduceLT, Nat.reduceAdd, Nat.reduceLeDiff, reduceCtorEq, goInt, pairs, isConst, TI.isAgg, splice, boxS, Edp, dpv, Nat.beq_eq, ZV.val, List.any_cons, List.any_nil, Bool.false_and, AHeap.get_set_same, c0, c1]
    exact downS_here (hq _ false ((Kept.refl σ []).setD hb) (fun h => by cases h))
  replace c1 := Decidable.not_not.1 c1
  by_cases c2 : ¬ (f.size : Int) ≤ 100
  · refine call9 (by simp) ?_
    simp only [strip, bodyOf, Try.f9, getD_body, keepN, bareOp_mk, lessOp_mk, lapp_cons, lapp_nil, List.map_cons, List.map_nil, array_toList, ↓reduceIte, Nat.reduceEqDiff, Bool.false_eq_true]
    simp (disch := first | assumption | simp) only [↓sbD, sbU, tyB, Nat.reduceMul, Nat.reduceSub, Int.reduceEq, Int.reduceLT, Int.reduceLE, Int.reduceNe, Nat.reduceBneDiff, Nat.reduceBEq, decide_false, gt_iff_lt, Bool.or_self, Bool.false_eq_true, Nat.mul_one, Nat.one_mul, Nat.zero_mul, ↓reduceIte, Nat.reduceEqDiff, Nat.reduceLT, Nat.reduceAdd, Nat.reduceLeDiff, reduceCtorEq, goInt, pairs, isConst, TI.isAgg, splice, boxS, Edp, dpv, Nat.beq_eq, ZV.val, List.any_cons, List.any_nil, Bool.false_and, AS_new, ndA.1, hvc.1, hvc.2]
    intro b hb
    try simp (disch := first | assumption | simp) only [↓sbD, sbU, tyB, Nat.reduceMul, Nat.reduceSub, Int.reduceEq, Int.reduceLT, Int.reduceLE, Int.reduceNe, Nat.reduceBneDiff, Nat.reduceBEq, decide_false, gt_iff_lt, Bool.or_self, Bool.false_eq_true, Nat.mul_one, Nat.one_mul, Nat.zero_mul, ↓reduceIte, Nat.reduceEqDiff, Nat.reduceLT, Nat.reduceAdd, Nat.reduceLeDiff, reduceCtorEq, goInt, pairs, isConst, TI.isAgg, splice, boxS, Edp, dpv, Nat.beq_eq, ZV.val, List.any_cons, List.any_nil, Bool.false_and, AHeap.get_set_same, c0, c1, c2]
    exact downS_here (hq _ false ((Kept.refl σ []).setD hb) (fun h => by cases h))
  replace c2 := Decidable.not_not.1 c2
  by_cases c3 : ¬ (g.size : Int) ≤ 200
  · refine call9 (by simp) ?_
    simp only [strip, bodyOf, Try.f9, getD_body, keepN, bareOp_mk, lessOp_mk, lapp_cons, lapp_nil, List.map_cons, List.map_nil, array_toList, ↓reduceIte, Nat.reduceEqDiff, Bool.false_eq_true]
    simp (disch := first | assumption | simp) only [↓sbD, sbU, tyB, Nat.reduceMul, Nat.reduceSub, Int.reduceEq, Int.reduceLT, Int.reduceLE, Int.reduceNe, Nat.reduceBneDiff, Nat.reduceBEq, decide_false, gt_iff_lt, Bool.or_self, Bool.false_eq_true, Nat.mul_one, Nat.one_mul, Nat.zero_mul, ↓reduceIte, Nat.reduceEqDiff, Nat.reduceLT, Nat.reduceAdd, Nat.reduceLeDiff, reduceCtorEq, goInt, pairs, isConst, TI.isAgg, splice, boxS, Edp, dpv, Nat.beq_eq, ZV.val, List.any_cons, List.any_nil, Bool.false_and, AS_new, ndA.1, hvc.1, hvc.2]
    intro b hb
    try simp (disch := first | assumption | simp) only [↓sbD, sbU, tyB, Nat.reduceMul, Nat.reduceSub, Int.reduceEq, Int.reduceLT, Int.reduceLE, Int.reduceNe, Nat.reduceBneDiff, Nat.reduceBEq, decide_false, gt_iff_lt, Bool.or_self, Bool.false_eq_true, Nat.mul_one, Nat.one_mul, Nat.zero_mul, ↓reduceIte, Nat.reduceEqDiff, Nat.reduceLT, Nat.reduceAdd, Nat.reduceLeDiff, reduceCtorEq, goInt, pairs, isConst, TI.isAgg, splice, boxS, Edp, dpv, Nat.beq_eq, ZV.val, List.any_cons, List.any_nil, Bool.false_and, AHeap.get_set_same, c0, c1, c2, c3]
    exact downS_here (hq _ false ((Kept.refl σ []).setD hb) (fun h => by cases h))
  replace c3 := Decidable.not_not.1 c3
  refine call9 (by simp) ?_
  simp only [strip, bodyOf, Try.f9, getD_body, keepN, bareOp_mk, lessOp_mk, lapp_cons, lapp_nil, List.map_cons, List.map_nil, array_toList, ↓reduceIte, Nat.reduceEqDiff, Bool.false_eq_true]
  simp (disch := first | assumption | simp) only [↓sbD, sbU, tyB, Nat.reduceMul, Nat.reduceSub, Int.reduceEq, Int.reduceLT, Int.reduceLE, Int.reduceNe, Nat.reduceBneDiff, Nat.reduceBEq, decide_false, gt_iff_lt, Bool.or_self, Bool.false_eq_true, Nat.mul_one, Nat.one_mul, Nat.zero_mul, ↓reduceIte, Nat.reduceEqDiff, Nat.reduceLT, Nat.reduceAdd, Nat.reduceLeDiff, reduceCtorEq, goInt, pairs, isConst, TI.isAgg, splice, boxS, Edp, dpv, Nat.beq_eq, ZV.val, List.any_cons, List.any_nil, Bool.false_and, AS_new, ndA.1, hvc.1, hvc.2]
  intro b hb
  try simp (disch := first | assumption | simp) only [↓sbD, sbU, tyB, Nat.reduceMul, Nat.reduceSub, Int.reduceEq, Int.reduceLT, Int.reduceLE, Int.reduceNe, Nat.reduceBneDiff, Nat.reduceBEq, decide_false, gt_iff_lt, Bool.or_self, Bool.false_eq_true, Nat.mul_one, Nat.one_mul, Nat.zero_mul, ↓reduceIte, Nat.reduceEqDiff, Nat.reduceLT, Nat.reduceAdd, Nat.reduceLeDiff, reduceCtorEq, goInt, pairs, isConst, TI.isAgg, splice, boxS, Edp, dpv, Nat.beq_eq, ZV.val, List.any_cons, List.any_nil, Bool.false_and, AHeap.get_set_same, c0, c1, c2, c3]
  refine specFewP hv fun b hb2 => ?_
  simp (disch := first | assumption | simp) only [↓sbD, sbU, tyB, Nat.reduceMul, Nat.reduceSub, Int.reduceEq, Int.reduceLT, Int.reduceLE, Int.reduceNe, Nat.reduceBneDiff, Nat.reduceBEq, decide_false, gt_iff_lt, Bool.or_self, Bool.false_eq_true, Nat.mul_one, Nat.one_mul, Nat.zero_mul, ↓reduceIte, Nat.reduceEqDiff, Nat.reduceLT, Nat.reduceAdd, Nat.reduceLeDiff, reduceCtorEq, goInt, pairs, isConst, TI.isAgg, splice, boxS, Edp, dpv, Nat.beq_eq, ZV.val, List.any_cons, List.any_nil, Bool.false_and, AHeap.get_set_same]
  exact downS_here (hq _ b ((Kept.refl σ []).setD hb) fun h => (hb2 h).1)
end
theorem typedL_ms {H : AHeap} {d : Nat} {xs : List Value} (h : Typed E H d 22 xs) : ∃ v l, xs = [v] ∧ DL msC 9 v (l : List Ms) := by
  cases d with
  | zero => exact h.elim
  | succ d =>
    simp only [Typed, ty22] at h
    rcases h with rfl | ⟨h2, _⟩ | ⟨_, n, j, cs, hj, rfl, hl, hk⟩
    · exact ⟨_, [], rfl, .inl ⟨rfl, rfl⟩⟩
    · cases h2
    · rw [ty37] at hj; injection hj with hj; subst hj
      obtain ⟨l, h3, h4⟩ := chunks (enc := msC) msC_len n cs hl fun k hk' => by
        obtain ⟨t, p, f, g, q, u, n, r, v, l, dl, e⟩ := typed_msg (hk k hk')
        exact ⟨⟨t, p, q, r, v, f, u, n, g, l, dl⟩, e⟩
      exact ⟨_, l, rfl, .inr ⟨0, by rw [h3, ← h4]⟩⟩
theorem DLm.len {v : Value} {l : List Ms} (h : DL msC 9 v l) (σ : AHeap) : abuiltin E σ .len [22] [v] = some (.int .i64 (l.length : Int), σ) := by
  rcases h with ⟨rfl, rfl⟩ | ⟨m, rfl⟩ <;> rfl
theorem DLm.at {v : Value} {l : List Ms} (h : DL msC 9 v l) {i : Nat} (hi : i < l.length) : aindexAddr E 22 v (.int .i64 (i : Int)) = some (dptr (msC l[i] ++ (l.drop (i + 1)).flatMap msC)) := by
  rcases h with ⟨rfl, rfl⟩ | ⟨m, rfl⟩
  · simp at hi
  · rw [ia_dsl hi, drop_flat msC_len hi]; rfl
end Go.Proofs.Ytkhcbbpfchgemaa.AbsA
