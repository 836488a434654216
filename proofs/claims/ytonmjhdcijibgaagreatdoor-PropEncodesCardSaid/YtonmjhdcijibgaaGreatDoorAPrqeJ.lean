/-
  Parts of a law's proof.
-/
import Derived.Test.YtonmjhdcijibgaaGreatDoorAFrqbJ
import Derived.Test.YtonmjhdcijibgaaGreatDoorAFwqdJ
import Derived.Test.YtonmjhdcijibgaaGreatDoorARdqbJ
namespace Go.Proofs.YtonmjhdcijibgaaGreatDoor.AbsA
open Go AbsYtonmjhdcijibgaaGreatDoor Abs
set_option maxRecDepth 100000
set_option maxHeartbeats 2000000
set_option linter.unusedSimpArgs false
set_option linter.unusedVariables false
attribute [local irreducible] afterS afterOpS opSK OpsS TrS CodeS condS condW thenS thenQ guardS guardTS outS drawS trSK consS
section
variable {σ : AHeap} {Q : Value → AHeap → Prop}
theorem propC_len (a : Pr) : (propC a).length = 4 := rfl
theorem propC_ag {p : Pr} : Value.agg ⟨[.int .i64 p.id, .int .i64 p.n, .string p.s, .string p.v]⟩ = .agg ⟨propC p⟩ := rfl
theorem DLp.len {v : Value} {l : List Pr} (h : DL propC 4 v l) (σ : AHeap) : abuiltin E σ .len [22] [v] = some (.int .i64 (l.length : Int), σ) := by
  rcases h with ⟨rfl, rfl⟩ | ⟨m, rfl⟩ <;> rfl
theorem DLp.at {v : Value} {l : List Pr} (h : DL propC 4 v l) {i : Nat} (hi : i < l.length) : aindexAddr E 22 v (.int .i64 (i : Int)) = some (dptr (propC l[i] ++ (l.drop (i + 1)).flatMap propC)) := by
  rcases h with ⟨rfl, rfl⟩ | ⟨m, rfl⟩
  · simp at hi
  · rw [ia_dsl hi, drop_flat propC_len hi]; rfl
theorem zePr : azero E 26 = some [.int .i64 0, .int .i64 0, .string ⟨#[]⟩, .string ⟨#[]⟩] := rfl
/-- the first property of an identifier, by a function that tells one -/
theorem specIndexP {v : Value} {l : List Pr} {g : Nat} {id : Int} {cs : List Value} (hl : DL propC 4 v l) (hs : l.length ≤ 100000)
    (hg : ∀ (p : Pr) {Q : Value → AHeap → Prop}, Q (.bool (decide (p.id = id))) σ → CallS E B g (Value.agg ⟨propC p⟩ :: cs) σ Q)
    (hin : ∀ i (hi : i < l.length), (l[i]).id = id → (∀ j (hj : j < l.length), j < i → (l[j]).id ≠ id) → Q (.int .i64 (i : Int)) σ) (hout : (∀ p ∈ l, p.id ≠ id) → Q (.int .i64 (-1)) σ) :
    CallS E B 53 [v, .func (.func g) ⟨[]⟩ ⟨cs⟩] σ Q := by
  have hlen := DLp.len hl
  refine call53 (by simp) ?_
  simp only [strip, bodyOf, Tryz.f53, getD_body, keepN, bareOp_mk, lessOp_mk, lapp_cons, lapp_nil, List.map_cons, List.map_nil, array_toList, ↓reduceIte, Nat.reduceEqDiff, Bool.false_eq_true]
  simp (disch := first | assumption | simp) only [↓sbD, sbU, tyB, Nat.reduceMul, Nat.reduceSub, Int.reduceEq, Int.reduceLT, Int.reduceLE, Int.reduceNe, Nat.reduceBneDiff, Nat.reduceBEq, decide_false, gt_iff_lt, Bool.or_self, Bool.false_eq_true, Nat.mul_one, Nat.one_mul, Nat.zero_mul, ↓reduceIte, Nat.reduceEqDiff, Nat.reduceLT, Nat.reduceAdd, Nat.reduceLeDiff, reduceCtorEq, goInt, pairs, isConst, TI.isAgg, splice, boxS, Edp, dpv, Nat.beq_eq, ZV.val, List.any_cons, List.any_nil, hlen]
  refine S_loop (fun m f σ' => σ' = σ ∧ ∃ i : Nat, m + i = l.length ∧ f 8 = .int .i64 i ∧ ∀ j (hj : j < l.length), j < i → (l[j]).id ≠ id) l.length (Le.refl _) ⟨rfl, 0, rfl, by simp (disch := first | assumption | simp) only [↓sbD, sbU, tyB, Nat.reduceMul, Nat.reduceSub, Int.reduceEq, Int.reduceLT, Int.reduceLE, Int.reduceNe, Nat.reduceBneDiff, Nat.reduceBEq, decide_false, gt_iff_lt, Bool.or_self, Bool.false_eq_true, Nat.mul_one, Nat.one_mul, Nat.zero_mul, ↓reduceIte, Nat.reduceEqDiff, Nat.reduceLT, Nat.reduceAdd, Nat.reduceLeDiff, reduceCtorEq, goInt, pairs, isConst, TI.isAgg, splice, boxS, Edp, dpv, Nat.beq_eq, ZV.val, List.any_cons, List.any_nil]; rfl, fun j _ hj => by omega⟩ ?_
  rintro m f σ' ⟨rfl, i, hm, f8, hno⟩ hf
  have f0 := hf 0 (by decide) (notMem_wr (by kernel_rfl))
  have f1 := hf 1 (by decide) (notMem_wr (by kernel_rfl))
  have f7 := hf 7 (by decide) (notMem_wr (by kernel_rfl))
  simp (disch := first | assumption | simp) only [↓sbD, sbU, tyB, Nat.reduceMul, Nat.reduceSub, Int.reduceEq, Int.reduceLT, Int.reduceLE, Int.reduceNe, Nat.reduceBneDiff, Nat.reduceBEq, decide_false, gt_iff_lt, Bool.or_self, Bool.false_eq_true, Nat.mul_one, Nat.one_mul, Nat.zero_mul, ↓reduceIte, Nat.reduceEqDiff, Nat.reduceLT, Nat.reduceAdd, Nat.reduceLeDiff, reduceCtorEq, goInt, pairs, isConst, TI.isAgg, splice, boxS, Edp, dpv, Nat.beq_eq, ZV.val, List.any_cons, List.any_nil] at f0 f1 f7
  clear hf
  by_cases hi : (i : Int) < (l.length : Int)
  · have hi' : i < l.length := by omega
    have hia := DLp.at hl hi'
    have hw := wrap_suc (n := i) (by omega)
    have hin' := hin i hi'
    generalize hy : l[i] = y at hia hin'
    have hac : propC y = [.int .i64 y.id, .int .i64 y.n, .string y.s, .string y.v] := rfl
    simp (disch := first | assumption | simp) only [↓sbD, sbU, tyB, Nat.reduceMul, Nat.reduceSub, Int.reduceEq, Int.reduceLT, Int.reduceLE, Int.reduceNe, Nat.reduceBneDiff, Nat.reduceBEq, decide_false, gt_iff_lt, Bool.or_self, Bool.false_eq_true, Nat.mul_one, Nat.one_mul, Nat.zero_mul, ↓reduceIte, Nat.reduceEqDiff, Nat.reduceLT, Nat.reduceAdd, Nat.reduceLeDiff, reduceCtorEq, goInt, pairs, isConst, TI.isAgg, splice, boxS, Edp, dpv, Nat.beq_eq, ZV.val, List.any_cons, List.any_nil, f0, f1, f7, f8, hi, hia, hac]
    refine hg y ?_
    by_cases he : y.id = id
    · simp (disch := first | assumption | simp) only [↓sbD, sbU, tyB, Nat.reduceMul, Nat.reduceSub, Int.reduceEq, Int.reduceLT, Int.reduceLE, Int.reduceNe, Nat.reduceBneDiff, Nat.reduceBEq, decide_false, gt_iff_lt, Bool.or_self, Bool.false_eq_true, Nat.mul_one, Nat.one_mul, Nat.zero_mul, ↓reduceIte, Nat.reduceEqDiff, Nat.reduceLT, Nat.reduceAdd, Nat.reduceLeDiff, reduceCtorEq, goInt, pairs, isConst, TI.isAgg, splice, boxS, Edp, dpv, Nat.beq_eq, ZV.val, List.any_cons, List.any_nil, he]
      exact downS_here (hin' he hno)
    · simp (disch := first | assumption | simp) only [↓sbD, sbU, tyB, Nat.reduceMul, Nat.reduceSub, Int.reduceEq, Int.reduceLT, Int.reduceLE, Int.reduceNe, Nat.reduceBneDiff, Nat.reduceBEq, decide_false, gt_iff_lt, Bool.or_self, Bool.false_eq_true, Nat.mul_one, Nat.one_mul, Nat.zero_mul, ↓reduceIte, Nat.reduceEqDiff, Nat.reduceLT, Nat.reduceAdd, Nat.reduceLeDiff, reduceCtorEq, goInt, pairs, isConst, TI.isAgg, splice, boxS, Edp, dpv, Nat.beq_eq, ZV.val, List.any_cons, List.any_nil, he, f8, hw]
      refine ⟨_, m - 1, _, rfl, by omega, Le.refl _, rfl, i + 1, by omega, by simp (disch := first | assumption | simp) only [↓sbD, sbU, tyB, Nat.reduceMul, Nat.reduceSub, Int.reduceEq, Int.reduceLT, Int.reduceLE, Int.reduceNe, Nat.reduceBneDiff, Nat.reduceBEq, decide_false, gt_iff_lt, Bool.or_self, Bool.false_eq_true, Nat.mul_one, Nat.one_mul, Nat.zero_mul, ↓reduceIte, Nat.reduceEqDiff, Nat.reduceLT, Nat.reduceAdd, Nat.reduceLeDiff, reduceCtorEq, goInt, pairs, isConst, TI.isAgg, splice, boxS, Edp, dpv, Nat.beq_eq, ZV.val, List.any_cons, List.any_nil], fun j hj hji => ?_⟩
      rcases (by omega : j < i ∨ j = i) with h3 | rfl
      · exact hno j hj h3
      · rw [hy]; exact he
  · simp (disch := first | assumption | simp) only [↓sbD, sbU, tyB, Nat.reduceMul, Nat.reduceSub, Int.reduceEq, Int.reduceLT, Int.reduceLE, Int.reduceNe, Nat.reduceBneDiff, Nat.reduceBEq, decide_false, gt_iff_lt, Bool.or_self, Bool.false_eq_true, Nat.mul_one, Nat.one_mul, Nat.zero_mul, ↓reduceIte, Nat.reduceEqDiff, Nat.reduceLT, Nat.reduceAdd, Nat.reduceLeDiff, reduceCtorEq, goInt, pairs, isConst, TI.isAgg, splice, boxS, Edp, dpv, Nat.beq_eq, ZV.val, List.any_cons, List.any_nil, f0, f1, f7, f8, hi]
    refine downS_here (hout fun p hp => ?_)
    obtain ⟨j, hj, rfl⟩ := List.getElem_of_mem hp
    exact hno j hj (by omega)
theorem specGC {b : Nat} {id : Int} {p : Pr} (hb : σ.get b = .cells [.int .i64 id] true 0) (h : Q (.bool (decide (p.id = id))) σ) : CallS E B 120 [.agg ⟨propC p⟩, .pointer (some ⟨b, 0, none⟩)] σ Q := by
  simp only [propC]
  refine call120 (by simp) ?_
  simp only [strip, bodyOf, Tryz.f120, getD_body, keepN, bareOp_mk, lessOp_mk, lapp_cons, lapp_nil, List.map_cons, List.map_nil, array_toList, ↓reduceIte, Nat.reduceEqDiff, Bool.false_eq_true]
  simp (disch := first | assumption | simp) only [↓sbD, sbU, tyB, Nat.reduceMul, Nat.reduceSub, Int.reduceEq, Int.reduceLT, Int.reduceLE, Int.reduceNe, Nat.reduceBneDiff, Nat.reduceBEq, decide_false, gt_iff_lt, Bool.or_self, Bool.false_eq_true, Nat.mul_one, Nat.one_mul, Nat.zero_mul, ↓reduceIte, Nat.reduceEqDiff, Nat.reduceLT, Nat.reduceAdd, Nat.reduceLeDiff, reduceCtorEq, goInt, pairs, isConst, TI.isAgg, splice, boxS, Edp, dpv, Nat.beq_eq, ZV.val, List.any_cons, List.any_nil, hb]
  exact downS_here h
theorem specContP {v : Value} {l : List Pr} {g : Nat} {id : Int} {cs : List Value} (hl : DL propC 4 v l) (hs : l.length ≤ 100000)
    (hg : ∀ (p : Pr) {Q : Value → AHeap → Prop}, Q (.bool (decide (p.id = id))) σ → CallS E B g (Value.agg ⟨propC p⟩ :: cs) σ Q) (h : Q (.bool (hasId l id)) σ) :
    CallS E B 119 [v, .func (.func g) ⟨[]⟩ ⟨cs⟩] σ Q := by
  refine call119 (by simp) ?_
  simp only [strip, bodyOf, Tryz.f119, getD_body, keepN, bareOp_mk, lessOp_mk, lapp_cons, lapp_nil, List.map_cons, List.map_nil, array_toList, ↓reduceIte, Nat.reduceEqDiff, Bool.false_eq_true]
  simp (disch := first | assumption | simp) only [↓sbD, sbU, tyB, Nat.reduceMul, Nat.reduceSub, Int.reduceEq, Int.reduceLT, Int.reduceLE, Int.reduceNe, Nat.reduceBneDiff, Nat.reduceBEq, decide_false, gt_iff_lt, Bool.or_self, Bool.false_eq_true, Nat.mul_one, Nat.one_mul, Nat.zero_mul, ↓reduceIte, Nat.reduceEqDiff, Nat.reduceLT, Nat.reduceAdd, Nat.reduceLeDiff, reduceCtorEq, goInt, pairs, isConst, TI.isAgg, splice, boxS, Edp, dpv, Nat.beq_eq, ZV.val, List.any_cons, List.any_nil]
  refine specIndexP hl hs hg (fun i hi he _ => ?_) fun hno => ?_
  · have h0 : (0 : Int) ≤ (i : Int) := by omega
    have e : hasId l id = true := by
      unfold hasId
      rw [List.any_eq_true]
      exact ⟨l[i], List.getElem_mem hi, by simp [he]⟩
    rw [e] at h
    simp (disch := first | assumption | simp) only [↓sbD, sbU, tyB, Nat.reduceMul, Nat.reduceSub, Int.reduceEq, Int.reduceLT, Int.reduceLE, Int.reduceNe, Nat.reduceBneDiff, Nat.reduceBEq, decide_false, gt_iff_lt, Bool.or_self, Bool.false_eq_true, Nat.mul_one, Nat.one_mul, Nat.zero_mul, ↓reduceIte, Nat.reduceEqDiff, Nat.reduceLT, Nat.reduceAdd, Nat.reduceLeDiff, reduceCtorEq, goInt, pairs, isConst, TI.isAgg, splice, boxS, Edp, dpv, Nat.beq_eq, ZV.val, List.any_cons, List.any_nil, h0]
    exact downS_here h
  · have e : hasId l id = false := by
      unfold hasId
      rw [List.any_eq_false]
      intro p hp
      simp [hno p hp]
    rw [e] at h
    simp (disch := first | assumption | simp) only [↓sbD, sbU, tyB, Nat.reduceMul, Nat.reduceSub, Int.reduceEq, Int.reduceLT, Int.reduceLE, Int.reduceNe, Nat.reduceBneDiff, Nat.reduceBEq, decide_false, gt_iff_lt, Bool.or_self, Bool.false_eq_true, Nat.mul_one, Nat.one_mul, Nat.zero_mul, ↓reduceIte, Nat.reduceEqDiff, Nat.reduceLT, Nat.reduceAdd, Nat.reduceLeDiff, reduceCtorEq, goInt, pairs, isConst, TI.isAgg, splice, boxS, Edp, dpv, Nat.beq_eq, ZV.val, List.any_cons, List.any_nil]
    exact downS_here h
theorem arr_map {α β : Type} (f : α → β) (l : List α) : Array.map f ⟨l⟩ = ⟨l.map f⟩ := by simp
theorem dpI : dp 3 = false := rfl
theorem specGround {pl id at' : Int} {v : Value} {l : List Pr} (hl : DL propC 4 v l) (hs : l.length ≤ 100000) (hok : groundP pl l id = none → Q .nilIface σ) (hbad : ∀ k r : Nat, groundP pl l id = some (k, r) → 1 ≤ k ∧ k ≤ 7 → Q (fv r at' (sent k)) σ) :
    CallS E B 67 [.int .i64 pl, v, .int .i64 id, .int .i64 at'] σ Q := by
  have hlen := DLp.len hl
  unfold groundP at hok hbad
  refine call67 (by simp) ?_
  simp only [strip, bodyOf, Tryz.f67, getD_body, keepN, bareOp_mk, lessOp_mk, lapp_cons, lapp_nil, List.map_cons, List.map_nil, array_toList, ↓reduceIte, Nat.reduceEqDiff, Bool.false_eq_true]
  simp (disch := first | assumption | simp) only [↓sbD, sbU, tyB, Nat.reduceMul, Nat.reduceSub, Int.reduceEq, Int.reduceLT, Int.reduceLE, Int.reduceNe, Nat.reduceBneDiff, Nat.reduceBEq, decide_false, gt_iff_lt, Bool.or_self, Bool.false_eq_true, Nat.mul_one, Nat.one_mul, Nat.zero_mul, ↓reduceIte, Nat.reduceEqDiff, Nat.reduceLT, Nat.reduceAdd, Nat.reduceLeDiff, reduceCtorEq, goInt, pairs, isConst, TI.isAgg, splice, boxS, Edp, dpv, Nat.beq_eq, ZV.val, List.any_cons, List.any_nil, AS_new, dpI]
  intro b hb
  by_cases c38 : id = 38
  · subst c38
    by_cases h64 : (64 : Int) ≤ (l.length : Int)
    · rw [if_pos (by omega)] at hbad
      simp (disch := first | assumption | simp) only [↓sbD, sbU, tyB, Nat.reduceMul, Nat.reduceSub, Int.reduceEq, Int.reduceLT, Int.reduceLE, Int.reduceNe, Nat.reduceBneDiff, Nat.reduceBEq, decide_false, gt_iff_lt, Bool.or_self, Bool.false_eq_true, Nat.mul_one, Nat.one_mul, Nat.zero_mul, ↓reduceIte, Nat.reduceEqDiff, Nat.reduceLT, Nat.reduceAdd, Nat.reduceLeDiff, reduceCtorEq, goInt, pairs, isConst, TI.isAgg, splice, boxS, Edp, dpv, Nat.beq_eq, ZV.val, List.any_cons, List.any_nil, hlen, h64, gk4]
      refine specNew (n := 4) ⟨by omega, by omega⟩ ?_
      simp (disch := first | assumption | simp) only [↓sbD, sbU, tyB, Nat.reduceMul, Nat.reduceSub, Int.reduceEq, Int.reduceLT, Int.reduceLE, Int.reduceNe, Nat.reduceBneDiff, Nat.reduceBEq, decide_false, gt_iff_lt, Bool.or_self, Bool.false_eq_true, Nat.mul_one, Nat.one_mul, Nat.zero_mul, ↓reduceIte, Nat.reduceEqDiff, Nat.reduceLT, Nat.reduceAdd, Nat.reduceLeDiff, reduceCtorEq, goInt, pairs, isConst, TI.isAgg, splice, boxS, Edp, dpv, Nat.beq_eq, ZV.val, List.any_cons, List.any_nil]
      exact downS_le (Le.new hb) (hbad 4 149 rfl ⟨by omega, by omega⟩)
    rw [if_neg (by omega)] at hok hbad
    by_cases ht : typI (38 : Int) = 0
    · rw [if_pos (.inl ht)] at hbad
      simp (disch := first | assumption | simp) only [↓sbD, sbU, tyB, Nat.reduceMul, Nat.reduceSub, Int.reduceEq, Int.reduceLT, Int.reduceLE, Int.reduceNe, Nat.reduceBneDiff, Nat.reduceBEq, decide_false, gt_iff_lt, Bool.or_self, Bool.false_eq_true, Nat.mul_one, Nat.one_mul, Nat.zero_mul, ↓reduceIte, Nat.reduceEqDiff, Nat.reduceLT, Nat.reduceAdd, Nat.reduceLeDiff, reduceCtorEq, goInt, pairs, isConst, TI.isAgg, splice, boxS, Edp, dpv, Nat.beq_eq, ZV.val, List.any_cons, List.any_nil, hlen, h64, AHeap.get_set_same]
      refine specType ?_
      simp (disch := first | assumption | simp) only [↓sbD, sbU, tyB, Nat.reduceMul, Nat.reduceSub, Int.reduceEq, Int.reduceLT, Int.reduceLE, Int.reduceNe, Nat.reduceBneDiff, Nat.reduceBEq, decide_false, gt_iff_lt, Bool.or_self, Bool.false_eq_true, Nat.mul_one, Nat.one_mul, Nat.zero_mul, ↓reduceIte, Nat.reduceEqDiff, Nat.reduceLT, Nat.reduceAdd, Nat.reduceLeDiff, reduceCtorEq, goInt, pairs, isConst, TI.isAgg, splice, boxS, Edp, dpv, Nat.beq_eq, ZV.val, List.any_cons, List.any_nil, ht, gk2]
      refine specNew (n := 2) ⟨by omega, by omega⟩ ?_
      simp (disch := first | assumption | simp) only [↓sbD, sbU, tyB, Nat.reduceMul, Nat.reduceSub, Int.reduceEq, Int.reduceLT, Int.reduceLE, Int.reduceNe, Nat.reduceBneDiff, Nat.reduceBEq, decide_false, gt_iff_lt, Bool.or_self, Bool.false_eq_true, Nat.mul_one, Nat.one_mul, Nat.zero_mul, ↓reduceIte, Nat.reduceEqDiff, Nat.reduceLT, Nat.reduceAdd, Nat.reduceLeDiff, reduceCtorEq, goInt, pairs, isConst, TI.isAgg, splice, boxS, Edp, dpv, Nat.beq_eq, ZV.val, List.any_cons, List.any_nil]
      exact downS_le (Le.new hb) (hbad 2 129 rfl ⟨by omega, by omega⟩)
    simp (disch := first | assumption | simp) only [↓sbD, sbU, tyB, Nat.reduceMul, Nat.reduceSub, Int.reduceEq, Int.reduceLT, Int.reduceLE, Int.reduceNe, Nat.reduceBneDiff, Nat.reduceBEq, decide_false, gt_iff_lt, Bool.or_self, Bool.false_eq_true, Nat.mul_one, Nat.one_mul, Nat.zero_mul, ↓reduceIte, Nat.reduceEqDiff, Nat.reduceLT, Nat.reduceAdd, Nat.reduceLeDiff, reduceCtorEq, goInt, pairs, isConst, TI.isAgg, splice, boxS, Edp, dpv, Nat.beq_eq, ZV.val, List.any_cons, List.any_nil, hlen, h64, AHeap.get_set_same]
    refine specType ?_
    simp (disch := first | assumption | simp) only [↓sbD, sbU, tyB, Nat.reduceMul, Nat.reduceSub, Int.reduceEq, Int.reduceLT, Int.reduceLE, Int.reduceNe, Nat.reduceBneDiff, Nat.reduceBEq, decide_false, gt_iff_lt, Bool.or_self, Bool.false_eq_true, Nat.mul_one, Nat.one_mul, Nat.zero_mul, ↓reduceIte, Nat.reduceEqDiff, Nat.reduceLT, Nat.reduceAdd, Nat.reduceLeDiff, reduceCtorEq, goInt, pairs, isConst, TI.isAgg, splice, boxS, Edp, dpv, Nat.beq_eq, ZV.val, List.any_cons, List.any_nil, ht, AHeap.get_set_same]
    refine specAllowed ?_
    cases ha : allow (38 : Int) pl with
    | false =>
      rw [if_pos (.inr ha)] at hbad
      simp (disch := first | assumption | simp) only [↓sbD, sbU, tyB, Nat.reduceMul, Nat.reduceSub, Int.reduceEq, Int.reduceLT, Int.reduceLE, Int.reduceNe, Nat.reduceBneDiff, Nat.reduceBEq, decide_false, gt_iff_lt, Bool.or_self, Bool.false_eq_true, Nat.mul_one, Nat.one_mul, Nat.zero_mul, ↓reduceIte, Nat.reduceEqDiff, Nat.reduceLT, Nat.reduceAdd, Nat.reduceLeDiff, reduceCtorEq, goInt, pairs, isConst, TI.isAgg, splice, boxS, Edp, dpv, Nat.beq_eq, ZV.val, List.any_cons, List.any_nil, not_bool, gk2]
      refine specNew (n := 2) ⟨by omega, by omega⟩ ?_
      simp (disch := first | assumption | simp) only [↓sbD, sbU, tyB, Nat.reduceMul, Nat.reduceSub, Int.reduceEq, Int.reduceLT, Int.reduceLE, Int.reduceNe, Nat.reduceBneDiff, Nat.reduceBEq, decide_false, gt_iff_lt, Bool.or_self, Bool.false_eq_true, Nat.mul_one, Nat.one_mul, Nat.zero_mul, ↓reduceIte, Nat.reduceEqDiff, Nat.reduceLT, Nat.reduceAdd, Nat.reduceLeDiff, reduceCtorEq, goInt, pairs, isConst, TI.isAgg, splice, boxS, Edp, dpv, Nat.beq_eq, ZV.val, List.any_cons, List.any_nil]
      exact downS_le (Le.new hb) (hbad 2 129 rfl ⟨by omega, by omega⟩)
    | true =>
      rw [if_neg (by rw [ha]; simp [ht])] at hok hbad
      rw [if_neg (by simp)] at hok
      simp (disch := first | assumption | simp) only [↓sbD, sbU, tyB, Nat.reduceMul, Nat.reduceSub, Int.reduceEq, Int.reduceLT, Int.reduceLE, Int.reduceNe, Nat.reduceBneDiff, Nat.reduceBEq, decide_false, gt_iff_lt, Bool.or_self, Bool.false_eq_true, Nat.mul_one, Nat.one_mul, Nat.zero_mul, ↓reduceIte, Nat.reduceEqDiff, Nat.reduceLT, Nat.reduceAdd, Nat.reduceLeDiff, reduceCtorEq, goInt, pairs, isConst, TI.isAgg, splice, boxS, Edp, dpv, Nat.beq_eq, ZV.val, List.any_cons, List.any_nil, not_bool]
      exact downS_le (Le.new hb) (hok rfl)
  by_cases c11 : id = 11
  · subst c11
    by_cases c3 : pl = 3
    · subst c3
      by_cases h64 : (64 : Int) ≤ (l.length : Int)
      · rw [if_pos (by omega)] at hbad
        simp (disch := first | assumption | simp) only [↓sbD, sbU, tyB, Nat.reduceMul, Nat.reduceSub, Int.reduceEq, Int.reduceLT, Int.reduceLE, Int.reduceNe, Nat.reduceBneDiff, Nat.reduceBEq, decide_false, gt_iff_lt, Bool.or_self, Bool.false_eq_true, Nat.mul_one, Nat.one_mul, Nat.zero_mul, ↓reduceIte, Nat.reduceEqDiff, Nat.reduceLT, Nat.reduceAdd, Nat.reduceLeDiff, reduceCtorEq, goInt, pairs, isConst, TI.isAgg, splice, boxS, Edp, dpv, Nat.beq_eq, ZV.val, List.any_cons, List.any_nil, hlen, h64, gk4]
        refine specNew (n := 4) ⟨by omega, by omega⟩ ?_
        simp (disch := first | assumption | simp) only [↓sbD, sbU, tyB, Nat.reduceMul, Nat.reduceSub, Int.reduceEq, Int.reduceLT, Int.reduceLE, Int.reduceNe, Nat.reduceBneDiff, Nat.reduceBEq, decide_false, gt_iff_lt, Bool.or_self, Bool.false_eq_true, Nat.mul_one, Nat.one_mul, Nat.zero_mul, ↓reduceIte, Nat.reduceEqDiff, Nat.reduceLT, Nat.reduceAdd, Nat.reduceLeDiff, reduceCtorEq, goInt, pairs, isConst, TI.isAgg, splice, boxS, Edp, dpv, Nat.beq_eq, ZV.val, List.any_cons, List.any_nil]
        exact downS_le (Le.new hb) (hbad 4 149 rfl ⟨by omega, by omega⟩)
      rw [if_neg (by omega)] at hok hbad
      by_cases ht : typI (11 : Int) = 0
      · rw [if_pos (.inl ht)] at hbad
        simp (disch := first | assumption | simp) only [↓sbD, sbU, tyB, Nat.reduceMul, Nat.reduceSub, Int.reduceEq, Int.reduceLT, Int.reduceLE, Int.reduceNe, Nat.reduceBneDiff, Nat.reduceBEq, decide_false, gt_iff_lt, Bool.or_self, Bool.false_eq_true, Nat.mul_one, Nat.one_mul, Nat.zero_mul, ↓reduceIte, Nat.reduceEqDiff, Nat.reduceLT, Nat.reduceAdd, Nat.reduceLeDiff, reduceCtorEq, goInt, pairs, isConst, TI.isAgg, splice, boxS, Edp, dpv, Nat.beq_eq, ZV.val, List.any_cons, List.any_nil, hlen, h64, AHeap.get_set_same]
        refine specType ?_
        simp (disch := first | assumption | simp) only [↓sbD, sbU, tyB, Nat.reduceMul, Nat.reduceSub, Int.reduceEq, Int.reduceLT, Int.reduceLE, Int.reduceNe, Nat.reduceBneDiff, Nat.reduceBEq, decide_false, gt_iff_lt, Bool.or_self, Bool.false_eq_true, Nat.mul_one, Nat.one_mul, Nat.zero_mul, ↓reduceIte, Nat.reduceEqDiff, Nat.reduceLT, Nat.reduceAdd, Nat.reduceLeDiff, reduceCtorEq, goInt, pairs, isConst, TI.isAgg, splice, boxS, Edp, dpv, Nat.beq_eq, ZV.val, List.any_cons, List.any_nil, ht, gk2]
        refine specNew (n := 2) ⟨by omega, by omega⟩ ?_
        simp (disch := first | assumption | simp) only [↓sbD, sbU, tyB, Nat.reduceMul, Nat.reduceSub, Int.reduceEq, Int.reduceLT, Int.reduceLE, Int.reduceNe, Nat.reduceBneDiff, Nat.reduceBEq, decide_false, gt_iff_lt, Bool.or_self, Bool.false_eq_true, Nat.mul_one, Nat.one_mul, Nat.zero_mul, ↓reduceIte, Nat.reduceEqDiff, Nat.reduceLT, Nat.reduceAdd, Nat.reduceLeDiff, reduceCtorEq, goInt, pairs, isConst, TI.isAgg, splice, boxS, Edp, dpv, Nat.beq_eq, ZV.val, List.any_cons, List.any_nil]
        exact downS_le (Le.new hb) (hbad 2 129 rfl ⟨by omega, by omega⟩)
      simp (disch := first | assumption | simp) only [↓sbD, sbU, tyB, Nat.reduceMul, Nat.reduceSub, Int.reduceEq, Int.reduceLT, Int.reduceLE, Int.reduceNe, Nat.reduceBneDiff, Nat.reduceBEq, decide_false, gt_iff_lt, Bool.or_self, Bool.false_eq_true, Nat.mul_one, Nat.one_mul, Nat.zero_mul, ↓reduceIte, Nat.reduceEqDiff, Nat.reduceLT, Nat.reduceAdd, Nat.reduceLeDiff, reduceCtorEq, goInt, pairs, isConst, TI.isAgg, splice, boxS, Edp, dpv, Nat.beq_eq, ZV.val, List.any_cons, List.any_nil, hlen, h64, AHeap.get_set_same]
      refine specType ?_
      simp (disch := first | assumption | simp) only [↓sbD, sbU, tyB, Nat.reduceMul, Nat.reduceSub, Int.reduceEq, Int.reduceLT, Int.reduceLE, Int.reduceNe, Nat.reduceBneDiff, Nat.reduceBEq, decide_false, gt_iff_lt, Bool.or_self, Bool.false_eq_true, Nat.mul_one, Nat.one_mul, Nat.zero_mul, ↓reduceIte, Nat.reduceEqDiff, Nat.reduceLT, Nat.reduceAdd, Nat.reduceLeDiff, reduceCtorEq, goInt, pairs, isConst, TI.isAgg, splice, boxS, Edp, dpv, Nat.beq_eq, ZV.val, List.any_cons, List.any_nil, ht, AHeap.get_set_same]
      refine specAllowed ?_
      cases ha : allow (11 : Int) (3 : Int) with
      | false =>
        rw [if_pos (.inr ha)] at hbad
        simp (disch := first | assumption | simp) only [↓sbD, sbU, tyB, Nat.reduceMul, Nat.reduceSub, Int.reduceEq, Int.reduceLT, Int.reduceLE, Int.reduceNe, Nat.reduceBneDiff, Nat.reduceBEq, decide_false, gt_iff_lt, Bool.or_self, Bool.false_eq_true, Nat.mul_one, Nat.one_mul, Nat.zero_mul, ↓reduceIte, Nat.reduceEqDiff, Nat.reduceLT, Nat.reduceAdd, Nat.reduceLeDiff, reduceCtorEq, goInt, pairs, isConst, TI.isAgg, splice, boxS, Edp, dpv, Nat.beq_eq, ZV.val, List.any_cons, List.any_nil, not_bool, gk2]
        refine specNew (n := 2) ⟨by omega, by omega⟩ ?_
        simp (disch := first | assumption | simp) only [↓sbD, sbU, tyB, Nat.reduceMul, Nat.reduceSub, Int.reduceEq, Int.reduceLT, Int.reduceLE, Int.reduceNe, Nat.reduceBneDiff, Nat.reduceBEq, decide_false, gt_iff_lt, Bool.or_self, Bool.false_eq_true, Nat.mul_one, Nat.one_mul, Nat.zero_mul, ↓reduceIte, Nat.reduceEqDiff, Nat.reduceLT, Nat.reduceAdd, Nat.reduceLeDiff, reduceCtorEq, goInt, pairs, isConst, TI.isAgg, splice, boxS, Edp, dpv, Nat.beq_eq, ZV.val, List.any_cons, List.any_nil]
        exact downS_le (Le.new hb) (hbad 2 129 rfl ⟨by omega, by omega⟩)
      | true =>
        rw [if_neg (by rw [ha]; simp [ht])] at hok hbad
        rw [if_neg (by simp)] at hok
        simp (disch := first | assumption | simp) only [↓sbD, sbU, tyB, Nat.reduceMul, Nat.reduceSub, Int.reduceEq, Int.reduceLT, Int.reduceLE, Int.reduceNe, Nat.reduceBneDiff, Nat.reduceBEq, decide_false, gt_iff_lt, Bool.or_self, Bool.false_eq_true, Nat.mul_one, Nat.one_mul, Nat.zero_mul, ↓reduceIte, Nat.reduceEqDiff, Nat.reduceLT, Nat.reduceAdd, Nat.reduceLeDiff, reduceCtorEq, goInt, pairs, isConst, TI.isAgg, splice, boxS, Edp, dpv, Nat.beq_eq, ZV.val, List.any_cons, List.any_nil, not_bool]
        exact downS_le (Le.new hb) (hok rfl)
    · skip
      by_cases h64 : (64 : Int) ≤ (l.length : Int)
      · rw [if_pos (by omega)] at hbad
        simp (disch := first | assumption | simp) only [↓sbD, sbU, tyB, Nat.reduceMul, Nat.reduceSub, Int.reduceEq, Int.reduceLT, Int.reduceLE, Int.reduceNe, Nat.reduceBneDiff, Nat.reduceBEq, decide_false, gt_iff_lt, Bool.or_self, Bool.false_eq_true, Nat.mul_one, Nat.one_mul, Nat.zero_mul, ↓reduceIte, Nat.reduceEqDiff, Nat.reduceLT, Nat.reduceAdd, Nat.reduceLeDiff, reduceCtorEq, goInt, pairs, isConst, TI.isAgg, splice, boxS, Edp, dpv, Nat.beq_eq, ZV.val, List.any_cons, List.any_nil, c3, hlen, h64, gk4]
        refine specNew (n := 4) ⟨by omega, by omega⟩ ?_
        simp (disch := first | assumption | simp) only [↓sbD, sbU, tyB, Nat.reduceMul, Nat.reduceSub, Int.reduceEq, Int.reduceLT, Int.reduceLE, Int.reduceNe, Nat.reduceBneDiff, Nat.reduceBEq, decide_false, gt_iff_lt, Bool.or_self, Bool.false_eq_true, Nat.mul_one, Nat.one_mul, Nat.zero_mul, ↓reduceIte, Nat.reduceEqDiff, Nat.reduceLT, Nat.reduceAdd, Nat.reduceLeDiff, reduceCtorEq, goInt, pairs, isConst, TI.isAgg, splice, boxS, Edp, dpv, Nat.beq_eq, ZV.val, List.any_cons, List.any_nil]
        exact downS_le (Le.new hb) (hbad 4 149 rfl ⟨by omega, by omega⟩)
      rw [if_neg (by omega)] at hok hbad
      by_cases ht : typI (11 : Int) = 0
      · rw [if_pos (.inl ht)] at hbad
        simp (disch := first | assumption | simp) only [↓sbD, sbU, tyB, Nat.reduceMul, Nat.reduceSub, Int.reduceEq, Int.reduceLT, Int.reduceLE, Int.reduceNe, Nat.reduceBneDiff, Nat.reduceBEq, decide_false, gt_iff_lt, Bool.or_self, Bool.false_eq_true, Nat.mul_one, Nat.one_mul, Nat.zero_mul, ↓reduceIte, Nat.reduceEqDiff, Nat.reduceLT, Nat.reduceAdd, Nat.reduceLeDiff, reduceCtorEq, goInt, pairs, isConst, TI.isAgg, splice, boxS, Edp, dpv, Nat.beq_eq, ZV.val, List.any_cons, List.any_nil, c3, hlen, h64, AHeap.get_set_same]
        refine specType ?_
        simp (disch := first | assumption | simp) only [↓sbD, sbU, tyB, Nat.reduceMul, Nat.reduceSub, Int.reduceEq, Int.reduceLT, Int.reduceLE, Int.reduceNe, Nat.reduceBneDiff, Nat.reduceBEq, decide_false, gt_iff_lt, Bool.or_self, Bool.false_eq_true, Nat.mul_one, Nat.one_mul, Nat.zero_mul, ↓reduceIte, Nat.reduceEqDiff, Nat.reduceLT, Nat.reduceAdd, Nat.reduceLeDiff, reduceCtorEq, goInt, pairs, isConst, TI.isAgg, splice, boxS, Edp, dpv, Nat.beq_eq, ZV.val, List.any_cons, List.any_nil, ht, gk2]
        refine specNew (n := 2) ⟨by omega, by omega⟩ ?_
        simp (disch := first | assumption | simp) only [↓sbD, sbU, tyB, Nat.reduceMul, Nat.reduceSub, Int.reduceEq, Int.reduceLT, Int.reduceLE, Int.reduceNe, Nat.reduceBneDiff, Nat.reduceBEq, decide_false, gt_iff_lt, Bool.or_self, Bool.false_eq_true, Nat.mul_one, Nat.one_mul, Nat.zero_mul, ↓reduceIte, Nat.reduceEqDiff, Nat.reduceLT, Nat.reduceAdd, Nat.reduceLeDiff, reduceCtorEq, goInt, pairs, isConst, TI.isAgg, splice, boxS, Edp, dpv, Nat.beq_eq, ZV.val, List.any_cons, List.any_nil]
        exact downS_le (Le.new hb) (hbad 2 129 rfl ⟨by omega, by omega⟩)
      simp (disch := first | assumption | simp) only [↓sbD, sbU, tyB, Nat.reduceMul, Nat.reduceSub, Int.reduceEq, Int.reduceLT, Int.reduceLE, Int.reduceNe, Nat.reduceBneDiff, Nat.reduceBEq, decide_false, gt_iff_lt, Bool.or_self, Bool.false_eq_true, Nat.mul_one, Nat.one_mul, Nat.zero_mul, ↓reduceIte, Nat.reduceEqDiff, Nat.reduceLT, Nat.reduceAdd, Nat.reduceLeDiff, reduceCtorEq, goInt, pairs, isConst, TI.isAgg, splice, boxS, Edp, dpv, Nat.beq_eq, ZV.val, List.any_cons, List.any_nil, c3, hlen, h64, AHeap.get_set_same]
      refine specType ?_
      simp (disch := first | assumption | simp) only [↓sbD, sbU, tyB, Nat.reduceMul, Nat.reduceSub, Int.reduceEq, Int.reduceLT, Int.reduceLE, Int.reduceNe, Nat.reduceBneDiff, Nat.reduceBEq, decide_false, gt_iff_lt, Bool.or_self, Bool.false_eq_true, Nat.mul_one, Nat.one_mul, Nat.zero_mul, ↓reduceIte, Nat.reduceEqDiff, Nat.reduceLT, Nat.reduceAdd, Nat.reduceLeDiff, reduceCtorEq, goInt, pairs, isConst, TI.isAgg, splice, boxS, Edp, dpv, Nat.beq_eq, ZV.val, List.any_cons, List.any_nil, ht, AHeap.get_set_same]
      refine specAllowed ?_
      cases ha : allow (11 : Int) pl with
      | false =>
        rw [if_pos (.inr ha)] at hbad
        simp (disch := first | assumption | simp) only [↓sbD, sbU, tyB, Nat.reduceMul, Nat.reduceSub, Int.reduceEq, Int.reduceLT, Int.reduceLE, Int.reduceNe, Nat.reduceBneDiff, Nat.reduceBEq, decide_false, gt_iff_lt, Bool.or_self, Bool.false_eq_true, Nat.mul_one, Nat.one_mul, Nat.zero_mul, ↓reduceIte, Nat.reduceEqDiff, Nat.reduceLT, Nat.reduceAdd, Nat.reduceLeDiff, reduceCtorEq, goInt, pairs, isConst, TI.isAgg, splice, boxS, Edp, dpv, Nat.beq_eq, ZV.val, List.any_cons, List.any_nil, not_bool, gk2]
        refine specNew (n := 2) ⟨by omega, by omega⟩ ?_
        simp (disch := first | assumption | simp) only [↓sbD, sbU, tyB, Nat.reduceMul, Nat.reduceSub, Int.reduceEq, Int.reduceLT, Int.reduceLE, Int.reduceNe, Nat.reduceBneDiff, Nat.reduceBEq, decide_false, gt_iff_lt, Bool.or_self, Bool.false_eq_true, Nat.mul_one, Nat.one_mul, Nat.zero_mul, ↓reduceIte, Nat.reduceEqDiff, Nat.reduceLT, Nat.reduceAdd, Nat.reduceLeDiff, reduceCtorEq, goInt, pairs, isConst, TI.isAgg, splice, boxS, Edp, dpv, Nat.beq_eq, ZV.val, List.any_cons, List.any_nil]
        exact downS_le (Le.new hb) (hbad 2 129 rfl ⟨by omega, by omega⟩)
      | true =>
        rw [if_neg (by rw [ha]; simp [ht])] at hok hbad
        simp (disch := first | assumption | simp) only [↓sbD, sbU, tyB, Nat.reduceMul, Nat.reduceSub, Int.reduceEq, Int.reduceLT, Int.reduceLE, Int.reduceNe, Nat.reduceBneDiff, Nat.reduceBEq, decide_false, gt_iff_lt, Bool.or_self, Bool.false_eq_true, Nat.mul_one, Nat.one_mul, Nat.zero_mul, ↓reduceIte, Nat.reduceEqDiff, Nat.reduceLT, Nat.reduceAdd, Nat.reduceLeDiff, reduceCtorEq, goInt, pairs, isConst, TI.isAgg, splice, boxS, Edp, dpv, Nat.beq_eq, ZV.val, List.any_cons, List.any_nil, not_bool, arr_map]
        refine specContP (cs := [.pointer (some ⟨b, 0, none⟩)]) hl hs (fun p Q h => specGC (AHeap.get_set_same _ _ _) h) ?_
        cases hh : hasId l (11 : Int) with
        | true =>
          rw [if_pos ⟨by decide, by simp [c3], hh⟩] at hbad
          simp (disch := first | assumption | simp) only [↓sbD, sbU, tyB, Nat.reduceMul, Nat.reduceSub, Int.reduceEq, Int.reduceLT, Int.reduceLE, Int.reduceNe, Nat.reduceBneDiff, Nat.reduceBEq, decide_false, gt_iff_lt, Bool.or_self, Bool.false_eq_true, Nat.mul_one, Nat.one_mul, Nat.zero_mul, ↓reduceIte, Nat.reduceEqDiff, Nat.reduceLT, Nat.reduceAdd, Nat.reduceLeDiff, reduceCtorEq, goInt, pairs, isConst, TI.isAgg, splice, boxS, Edp, dpv, Nat.beq_eq, ZV.val, List.any_cons, List.any_nil, gk3]
          refine specNew (n := 3) ⟨by omega, by omega⟩ ?_
          simp (disch := first | assumption | simp) only [↓sbD, sbU, tyB, Nat.reduceMul, Nat.reduceSub, Int.reduceEq, Int.reduceLT, Int.reduceLE, Int.reduceNe, Nat.reduceBneDiff, Nat.reduceBEq, decide_false, gt_iff_lt, Bool.or_self, Bool.false_eq_true, Nat.mul_one, Nat.one_mul, Nat.zero_mul, ↓reduceIte, Nat.reduceEqDiff, Nat.reduceLT, Nat.reduceAdd, Nat.reduceLeDiff, reduceCtorEq, goInt, pairs, isConst, TI.isAgg, splice, boxS, Edp, dpv, Nat.beq_eq, ZV.val, List.any_cons, List.any_nil]
          exact downS_le (Le.new hb) (hbad 3 130 rfl ⟨by omega, by omega⟩)
        | false =>
          rw [if_neg (by simp [hh])] at hok
          simp (disch := first | assumption | simp) only [↓sbD, sbU, tyB, Nat.reduceMul, Nat.reduceSub, Int.reduceEq, Int.reduceLT, Int.reduceLE, Int.reduceNe, Nat.reduceBneDiff, Nat.reduceBEq, decide_false, gt_iff_lt, Bool.or_self, Bool.false_eq_true, Nat.mul_one, Nat.one_mul, Nat.zero_mul, ↓reduceIte, Nat.reduceEqDiff, Nat.reduceLT, Nat.reduceAdd, Nat.reduceLeDiff, reduceCtorEq, goInt, pairs, isConst, TI.isAgg, splice, boxS, Edp, dpv, Nat.beq_eq, ZV.val, List.any_cons, List.any_nil]
          exact downS_le (Le.new hb) (hok rfl)
  · skip
    by_cases h64 : (64 : Int) ≤ (l.length : Int)
    · rw [if_pos (by omega)] at hbad
      simp (disch := first | assumption | simp) only [↓sbD, sbU, tyB, Nat.reduceMul, Nat.reduceSub, Int.reduceEq, Int.reduceLT, Int.reduceLE, Int.reduceNe, Nat.reduceBneDiff, Nat.reduceBEq, decide_false, gt_iff_lt, Bool.or_self, Bool.false_eq_true, Nat.mul_one, Nat.one_mul, Nat.zero_mul, ↓reduceIte, Nat.reduceEqDiff, Nat.reduceLT, Nat.reduceAdd, Nat.reduceLeDiff, reduceCtorEq, goInt, pairs, isConst, TI.isAgg, splice, boxS, Edp, dpv, Nat.beq_eq, ZV.val, List.any_cons, List.any_nil, c38, c11, hlen, h64, gk4]
      refine specNew (n := 4) ⟨by omega, by omega⟩ ?_
      simp (disch := first | assumption | simp) only [↓sbD, sbU, tyB, Nat.reduceMul, Nat.reduceSub, Int.reduceEq, Int.reduceLT, Int.reduceLE, Int.reduceNe, Nat.reduceBneDiff, Nat.reduceBEq, decide_false, gt_iff_lt, Bool.or_self, Bool.false_eq_true, Nat.mul_one, Nat.one_mul, Nat.zero_mul, ↓reduceIte, Nat.reduceEqDiff, Nat.reduceLT, Nat.reduceAdd, Nat.reduceLeDiff, reduceCtorEq, goInt, pairs, isConst, TI.isAgg, splice, boxS, Edp, dpv, Nat.beq_eq, ZV.val, List.any_cons, List.any_nil]
      exact downS_le (Le.new hb) (hbad 4 149 rfl ⟨by omega, by omega⟩)
    rw [if_neg (by omega)] at hok hbad
    by_cases ht : typI id = 0
    · rw [if_pos (.inl ht)] at hbad
      simp (disch := first | assumption | simp) only [↓sbD, sbU, tyB, Nat.reduceMul, Nat.reduceSub, Int.reduceEq, Int.reduceLT, Int.reduceLE, Int.reduceNe, Nat.reduceBneDiff, Nat.reduceBEq, decide_false, gt_iff_lt, Bool.or_self, Bool.false_eq_true, Nat.mul_one, Nat.one_mul, Nat.zero_mul, ↓reduceIte, Nat.reduceEqDiff, Nat.reduceLT, Nat.reduceAdd, Nat.reduceLeDiff, reduceCtorEq, goInt, pairs, isConst, TI.isAgg, splice, boxS, Edp, dpv, Nat.beq_eq, ZV.val, List.any_cons, List.any_nil, c38, c11, hlen, h64, AHeap.get_set_same]
      refine specType ?_
      simp (disch := first | assumption | simp) only [↓sbD, sbU, tyB, Nat.reduceMul, Nat.reduceSub, Int.reduceEq, Int.reduceLT, Int.reduceLE, Int.reduceNe, Nat.reduceBneDiff, Nat.reduceBEq, decide_false, gt_iff_lt, Bool.or_self, Bool.false_eq_true, Nat.mul_one, Nat.one_mul, Nat.zero_mul, ↓reduceIte, Nat.reduceEqDiff, Nat.reduceLT, Nat.reduceAdd, Nat.reduceLeDiff, reduceCtorEq, goInt, pairs, isConst, TI.isAgg, splice, boxS, Edp, dpv, Nat.beq_eq, ZV.val, List.any_cons, List.any_nil, ht, gk2]
      refine specNew (n := 2) ⟨by omega, by omega⟩ ?_
      simp (disch := first | assumption | simp) only [↓sbD, sbU, tyB, Nat.reduceMul, Nat.reduceSub, Int.reduceEq, Int.reduceLT, Int.reduceLE, Int.reduceNe, Nat.reduceBneDiff, Nat.reduceBEq, decide_false, gt_iff_lt, Bool.or_self, Bool.false_eq_true, Nat.mul_one, Nat.one_mul, Nat.zero_mul, ↓reduceIte, Nat.reduceEqDiff, Nat.reduceLT, Nat.reduceAdd, Nat.reduceLeDiff, reduceCtorEq, goInt, pairs, isConst, TI.isAgg, splice, boxS, Edp, dpv, Nat.beq_eq, ZV.val, List.any_cons, List.any_nil]
      exact downS_le (Le.new hb) (hbad 2 129 rfl ⟨by omega, by omega⟩)
    simp (disch := first | assumption | simp) only [↓sbD, sbU, tyB, Nat.reduceMul, Nat.reduceSub, Int.reduceEq, Int.reduceLT, Int.reduceLE, Int.reduceNe, Nat.reduceBneDiff, Nat.reduceBEq, decide_false, gt_iff_lt, Bool.or_self, Bool.false_eq_true, Nat.mul_one, Nat.one_mul, Nat.zero_mul, ↓reduceIte, Nat.reduceEqDiff, Nat.reduceLT, Nat.reduceAdd, Nat.reduceLeDiff, reduceCtorEq, goInt, pairs, isConst, TI.isAgg, splice, boxS, Edp, dpv, Nat.beq_eq, ZV.val, List.any_cons, List.any_nil, c38, c11, hlen, h64, AHeap.get_set_same]
    refine specType ?_
    simp (disch := first | assumption | simp) only [↓sbD, sbU, tyB, Nat.reduceMul, Nat.reduceSub, Int.reduceEq, Int.reduceLT, Int.reduceLE, Int.reduceNe, Nat.reduceBneDiff, Nat.reduceBEq, decide_false, gt_iff_lt, Bool.or_self, Bool.false_eq_true, Nat.mul_one, Nat.one_mul, Nat.zero_mul, ↓reduceIte, Nat.reduceEqDiff, Nat.reduceLT, Nat.reduceAdd, Nat.reduceLeDiff, reduceCtorEq, goInt, pairs, isConst, TI.isAgg, splice, boxS, Edp, dpv, Nat.beq_eq, ZV.val, List.any_cons, List.any_nil, ht, AHeap.get_set_same]
    refine specAllowed ?_
    cases ha : allow id pl with
    | false =>
      rw [if_pos (.inr ha)] at hbad
      simp (disch := first | assumption | simp) only [↓sbD, sbU, tyB, Nat.reduceMul, Nat.reduceSub, Int.reduceEq, Int.reduceLT, Int.reduceLE, Int.reduceNe, Nat.reduceBneDiff, Nat.reduceBEq, decide_false, gt_iff_lt, Bool.or_self, Bool.false_eq_true, Nat.mul_one, Nat.one_mul, Nat.zero_mul, ↓reduceIte, Nat.reduceEqDiff, Nat.reduceLT, Nat.reduceAdd, Nat.reduceLeDiff, reduceCtorEq, goInt, pairs, isConst, TI.isAgg, splice, boxS, Edp, dpv, Nat.beq_eq, ZV.val, List.any_cons, List.any_nil, not_bool, gk2]
      refine specNew (n := 2) ⟨by omega, by omega⟩ ?_
      simp (disch := first | assumption | simp) only [↓sbD, sbU, tyB, Nat.reduceMul, Nat.reduceSub, Int.reduceEq, Int.reduceLT, Int.reduceLE, Int.reduceNe, Nat.reduceBneDiff, Nat.reduceBEq, decide_false, gt_iff_lt, Bool.or_self, Bool.false_eq_true, Nat.mul_one, Nat.one_mul, Nat.zero_mul, ↓reduceIte, Nat.reduceEqDiff, Nat.reduceLT, Nat.reduceAdd, Nat.reduceLeDiff, reduceCtorEq, goInt, pairs, isConst, TI.isAgg, splice, boxS, Edp, dpv, Nat.beq_eq, ZV.val, List.any_cons, List.any_nil]
      exact downS_le (Le.new hb) (hbad 2 129 rfl ⟨by omega, by omega⟩)
    | true =>
      rw [if_neg (by rw [ha]; simp [ht])] at hok hbad
      simp (disch := first | assumption | simp) only [↓sbD, sbU, tyB, Nat.reduceMul, Nat.reduceSub, Int.reduceEq, Int.reduceLT, Int.reduceLE, Int.reduceNe, Nat.reduceBneDiff, Nat.reduceBEq, decide_false, gt_iff_lt, Bool.or_self, Bool.false_eq_true, Nat.mul_one, Nat.one_mul, Nat.zero_mul, ↓reduceIte, Nat.reduceEqDiff, Nat.reduceLT, Nat.reduceAdd, Nat.reduceLeDiff, reduceCtorEq, goInt, pairs, isConst, TI.isAgg, splice, boxS, Edp, dpv, Nat.beq_eq, ZV.val, List.any_cons, List.any_nil, not_bool, arr_map]
      refine specContP (cs := [.pointer (some ⟨b, 0, none⟩)]) hl hs (fun p Q h => specGC (AHeap.get_set_same _ _ _) h) ?_
      cases hh : hasId l id with
      | true =>
        rw [if_pos ⟨c38, by simp [c11], hh⟩] at hbad
        simp (disch := first | assumption | simp) only [↓sbD, sbU, tyB, Nat.reduceMul, Nat.reduceSub, Int.reduceEq, Int.reduceLT, Int.reduceLE, Int.reduceNe, Nat.reduceBneDiff, Nat.reduceBEq, decide_false, gt_iff_lt, Bool.or_self, Bool.false_eq_true, Nat.mul_one, Nat.one_mul, Nat.zero_mul, ↓reduceIte, Nat.reduceEqDiff, Nat.reduceLT, Nat.reduceAdd, Nat.reduceLeDiff, reduceCtorEq, goInt, pairs, isConst, TI.isAgg, splice, boxS, Edp, dpv, Nat.beq_eq, ZV.val, List.any_cons, List.any_nil, gk3]
        refine specNew (n := 3) ⟨by omega, by omega⟩ ?_
        simp (disch := first | assumption | simp) only [↓sbD, sbU, tyB, Nat.reduceMul, Nat.reduceSub, Int.reduceEq, Int.reduceLT, Int.reduceLE, Int.reduceNe, Nat.reduceBneDiff, Nat.reduceBEq, decide_false, gt_iff_lt, Bool.or_self, Bool.false_eq_true, Nat.mul_one, Nat.one_mul, Nat.zero_mul, ↓reduceIte, Nat.reduceEqDiff, Nat.reduceLT, Nat.reduceAdd, Nat.reduceLeDiff, reduceCtorEq, goInt, pairs, isConst, TI.isAgg, splice, boxS, Edp, dpv, Nat.beq_eq, ZV.val, List.any_cons, List.any_nil]
        exact downS_le (Le.new hb) (hbad 3 130 rfl ⟨by omega, by omega⟩)
      | false =>
        rw [if_neg (by simp [hh])] at hok
        simp (disch := first | assumption | simp) only [↓sbD, sbU, tyB, Nat.reduceMul, Nat.reduceSub, Int.reduceEq, Int.reduceLT, Int.reduceLE, Int.reduceNe, Nat.reduceBneDiff, Nat.reduceBEq, decide_false, gt_iff_lt, Bool.or_self, Bool.false_eq_true, Nat.mul_one, Nat.one_mul, Nat.zero_mul, ↓reduceIte, Nat.reduceEqDiff, Nat.reduceLT, Nat.reduceAdd, Nat.reduceLeDiff, reduceCtorEq, goInt, pairs, isConst, TI.isAgg, splice, boxS, Edp, dpv, Nat.beq_eq, ZV.val, List.any_cons, List.any_nil]
        exact downS_le (Le.new hb) (hok rfl)
end
end Go.Proofs.YtonmjhdcijibgaaGreatDoor.AbsA
namespace Go.Proofs.YtonmjhdcijibgaaGreatDoor.AbsA
open Go AbsYtonmjhdcijibgaaGreatDoor Abs
set_option maxRecDepth 100000
set_option maxHeartbeats 2000000
set_option linter.unusedSimpArgs false
set_option linter.unusedVariables false
attribute [local irreducible] afterS afterOpS opSK OpsS TrS CodeS condS condW thenS thenQ guardS guardTS outS drawS trSK consS
section
variable {σ : AHeap} {Q : Value → AHeap → Prop}
theorem flat_take {α : Type} {enc : α → List Value} {sz : Nat} (hsz : ∀ a, (enc a).length = sz) : ∀ (l : List α) (i : Nat), i ≤ l.length → (l.flatMap enc).take (i * sz) = (l.take i).flatMap enc
  | [], i, h => by
    have : i = 0 := by simpa using h
    subst this; simp
  | a :: l, 0, _ => by simp
  | a :: l, i + 1, h => by
    rw [List.flatMap_cons, List.take_succ_cons, List.flatMap_cons, Nat.succ_mul, Nat.add_comm, ← hsz a, List.take_length_add_append, hsz a, flat_take hsz l i (by simpa using h)]
theorem DLp.to {v : Value} {l : List Pr} (h : DL propC 4 v l) {i : Nat} (hi : i ≤ l.length) : ∃ v', DL propC 4 v' (l.take i) ∧ ∀ τ : AHeap, aslice E τ 22 v none (some (.int .i64 (i : Int))) none = some v' := by
  rcases h with ⟨rfl, rfl⟩ | ⟨m, rfl⟩
  · obtain rfl : i = 0 := by simpa using hi
    exact ⟨_, .inl ⟨rfl, rfl⟩, fun τ => by simp [aslice, ty22, ty26, abound]⟩
  · refine ⟨dsl (if m = 1 then (if i = l.length then 1 else 0) else if i = l.length ∧ 0 < i then m else 0) 4 (l.take i).length ((l.take i).flatMap propC), .inr ⟨_, rfl⟩, fun τ => ?_⟩
    rw [List.length_take, Nat.min_eq_left hi, ← flat_take propC_len l i hi]
    simp [aslice, dsl, ty22, ty26, abound, hi]
theorem groundP_k {pl : Int} {l : List Pr} {id : Int} {k r : Nat} (h : groundP pl l id = some (k, r)) : 1 ≤ k ∧ k ≤ 7 := by
  unfold groundP at h
  split at h
  · injection h with h; injection h with h1 h2; omega
  split at h
  · injection h with h; injection h with h1 h2; omega
  split at h
  · injection h with h; injection h with h1 h2; omega
  · cases h
theorem specPCheck {pl : Int} {v : Value} {l : List Pr} (hl : DL propC 4 v l) (hs : l.length ≤ 100000) (hok : chk pl [] l = none → Q .nilIface σ) (hbad : ∀ k r a : Nat, chk pl [] l = some (k, r, a) → 1 ≤ k ∧ k ≤ 7 → Q (fv r a (sent k)) σ) :
    CallS E B 27 [.int .i64 pl, v] σ Q := by
  have hlen := DLp.len hl
  refine call27 (by simp) ?_
  simp only [strip, bodyOf, Tryz.f27, getD_body, keepN, bareOp_mk, lessOp_mk, lapp_cons, lapp_nil, List.map_cons, List.map_nil, array_toList, ↓reduceIte, Nat.reduceEqDiff, Bool.false_eq_true]
  simp (disch := first | assumption | simp) only [↓sbD, sbU, tyB, Nat.reduceMul, Nat.reduceSub, Int.reduceEq, Int.reduceLT, Int.reduceLE, Int.reduceNe, Nat.reduceBneDiff, Nat.reduceBEq, decide_false, gt_iff_lt, Bool.or_self, Bool.false_eq_true, Nat.mul_one, Nat.one_mul, Nat.zero_mul, ↓reduceIte, Nat.reduceEqDiff, Nat.reduceLT, Nat.reduceAdd, Nat.reduceLeDiff, reduceCtorEq, goInt, pairs, isConst, TI.isAgg, splice, boxS, Edp, dpv, Nat.beq_eq, ZV.val, List.any_cons, List.any_nil, hlen]
  refine S_loop (fun m f σ' => σ' = σ ∧ ∃ i : Nat, m + i = l.length ∧ f 11 = .int .i64 i ∧ chk pl (l.take i) (l.drop i) = chk pl [] l) l.length (Le.refl _) ⟨rfl, 0, rfl, by simp (disch := first | assumption | simp) only [↓sbD, sbU, tyB, Nat.reduceMul, Nat.reduceSub, Int.reduceEq, Int.reduceLT, Int.reduceLE, Int.reduceNe, Nat.reduceBneDiff, Nat.reduceBEq, decide_false, gt_iff_lt, Bool.or_self, Bool.false_eq_true, Nat.mul_one, Nat.one_mul, Nat.zero_mul, ↓reduceIte, Nat.reduceEqDiff, Nat.reduceLT, Nat.reduceAdd, Nat.reduceLeDiff, reduceCtorEq, goInt, pairs, isConst, TI.isAgg, splice, boxS, Edp, dpv, Nat.beq_eq, ZV.val, List.any_cons, List.any_nil]; rfl, by simp⟩ ?_
  rintro m f σ' ⟨rfl, i, hm, f11, hc⟩ hf
  have f0 := hf 0 (by decide) (notMem_wr (by kernel_rfl))
  have f1 := hf 1 (by decide) (notMem_wr (by kernel_rfl))
  have f9 := hf 9 (by decide) (notMem_wr (by kernel_rfl))
  have f10 := hf 10 (by decide) (notMem_wr (by kernel_rfl))
  simp (disch := first | assumption | simp) only [↓sbD, sbU, tyB, Nat.reduceMul, Nat.reduceSub, Int.reduceEq, Int.reduceLT, Int.reduceLE, Int.reduceNe, Nat.reduceBneDiff, Nat.reduceBEq, decide_false, gt_iff_lt, Bool.or_self, Bool.false_eq_true, Nat.mul_one, Nat.one_mul, Nat.zero_mul, ↓reduceIte, Nat.reduceEqDiff, Nat.reduceLT, Nat.reduceAdd, Nat.reduceLeDiff, reduceCtorEq, goInt, pairs, isConst, TI.isAgg, splice, boxS, Edp, dpv, Nat.beq_eq, ZV.val, List.any_cons, List.any_nil] at f0 f1 f9 f10
  clear hf
  by_cases hi : (i : Int) < (l.length : Int)
  · have hi' : i < l.length := by omega
    have hia := DLp.at hl hi'
    obtain ⟨v', hl', hto⟩ := DLp.to hl (i := i) (by omega)
    have hw := wrap_suc (n := i) (by omega)
    have hd : l.drop i = l[i] :: l.drop (i + 1) := List.drop_eq_getElem_cons hi'
    have htk : l.take (i + 1) = l.take i ++ [l[i]] := List.take_succ_eq_append_getElem hi'
    have hti : (l.take i).length = i := by rw [List.length_take]; omega
    rw [hd] at hc
    generalize hy : l[i] = y at hia hc htk
    have hac : propC y = [.int .i64 y.id, .int .i64 y.n, .string y.s, .string y.v] := rfl
    simp only [chk] at hc
    simp (disch := first | assumption | simp) only [↓sbD, sbU, tyB, Nat.reduceMul, Nat.reduceSub, Int.reduceEq, Int.reduceLT, Int.reduceLE, Int.reduceNe, Nat.reduceBneDiff, Nat.reduceBEq, decide_false, gt_iff_lt, Bool.or_self, Bool.false_eq_true, Nat.mul_one, Nat.one_mul, Nat.zero_mul, ↓reduceIte, Nat.reduceEqDiff, Nat.reduceLT, Nat.reduceAdd, Nat.reduceLeDiff, reduceCtorEq, goInt, pairs, isConst, TI.isAgg, splice, boxS, Edp, dpv, Nat.beq_eq, ZV.val, List.any_cons, List.any_nil, f0, f1, f9, f10, f11, hi, hia, hac, AS_new, zePr, hto, Option.map_some, Option.map_none]
    intro b hb
    refine specGround hl' (by omega) (fun hg => ?_) fun k r hg hk => ?_
    · simp (disch := first | assumption | simp) only [↓sbD, sbU, tyB, Nat.reduceMul, Nat.reduceSub, Int.reduceEq, Int.reduceLT, Int.reduceLE, Int.reduceNe, Nat.reduceBneDiff, Nat.reduceBEq, decide_false, gt_iff_lt, Bool.or_self, Bool.false_eq_true, Nat.mul_one, Nat.one_mul, Nat.zero_mul, ↓reduceIte, Nat.reduceEqDiff, Nat.reduceLT, Nat.reduceAdd, Nat.reduceLeDiff, reduceCtorEq, goInt, pairs, isConst, TI.isAgg, splice, boxS, Edp, dpv, Nat.beq_eq, ZV.val, List.any_cons, List.any_nil, propC_ag]
      refine specBadP (fun hn => ?_) fun hn => ?_
      · have hbp : badP pl (l.take i) y = none := by unfold badP; rw [hg]; simp only [hn, if_true]
        rw [hbp] at hc
        simp (disch := first | assumption | simp) only [↓sbD, sbU, tyB, Nat.reduceMul, Nat.reduceSub, Int.reduceEq, Int.reduceLT, Int.reduceLE, Int.reduceNe, Nat.reduceBneDiff, Nat.reduceBEq, decide_false, gt_iff_lt, Bool.or_self, Bool.false_eq_true, Nat.mul_one, Nat.one_mul, Nat.zero_mul, ↓reduceIte, Nat.reduceEqDiff, Nat.reduceLT, Nat.reduceAdd, Nat.reduceLeDiff, reduceCtorEq, goInt, pairs, isConst, TI.isAgg, splice, boxS, Edp, dpv, Nat.beq_eq, ZV.val, List.any_cons, List.any_nil, f11, hw]
        refine ⟨_, m - 1, σ', rfl, by omega, Le.new' (Le.new hb) hb, rfl, i + 1, by omega, by simp (disch := first | assumption | simp) only [↓sbD, sbU, tyB, Nat.reduceMul, Nat.reduceSub, Int.reduceEq, Int.reduceLT, Int.reduceLE, Int.reduceNe, Nat.reduceBneDiff, Nat.reduceBEq, decide_false, gt_iff_lt, Bool.or_self, Bool.false_eq_true, Nat.mul_one, Nat.one_mul, Nat.zero_mul, ↓reduceIte, Nat.reduceEqDiff, Nat.reduceLT, Nat.reduceAdd, Nat.reduceLeDiff, reduceCtorEq, goInt, pairs, isConst, TI.isAgg, splice, boxS, Edp, dpv, Nat.beq_eq, ZV.val, List.any_cons, List.any_nil], by rw [htk]; exact hc⟩
      · have hbp : badP pl (l.take i) y = some (3, 130) := by unfold badP; rw [hg]; simp only [hn, Bool.false_eq_true, if_false]
        rw [hbp] at hc
        simp (disch := first | assumption | simp) only [↓sbD, sbU, tyB, Nat.reduceMul, Nat.reduceSub, Int.reduceEq, Int.reduceLT, Int.reduceLE, Int.reduceNe, Nat.reduceBneDiff, Nat.reduceBEq, decide_false, gt_iff_lt, Bool.or_self, Bool.false_eq_true, Nat.mul_one, Nat.one_mul, Nat.zero_mul, ↓reduceIte, Nat.reduceEqDiff, Nat.reduceLT, Nat.reduceAdd, Nat.reduceLeDiff, reduceCtorEq, goInt, pairs, isConst, TI.isAgg, splice, boxS, Edp, dpv, Nat.beq_eq, ZV.val, List.any_cons, List.any_nil]
        have := hbad 3 130 i (by rw [← hc, hti]) ⟨by omega, by omega⟩
        exact downS_le (Le.new' (Le.new hb) hb) this
    · have hbp : badP pl (l.take i) y = some (k, r) := by unfold badP; rw [hg]
      rw [hbp] at hc
      simp (disch := first | assumption | simp) only [↓sbD, sbU, tyB, Nat.reduceMul, Nat.reduceSub, Int.reduceEq, Int.reduceLT, Int.reduceLE, Int.reduceNe, Nat.reduceBneDiff, Nat.reduceBEq, decide_false, gt_iff_lt, Bool.or_self, Bool.false_eq_true, Nat.mul_one, Nat.one_mul, Nat.zero_mul, ↓reduceIte, Nat.reduceEqDiff, Nat.reduceLT, Nat.reduceAdd, Nat.reduceLeDiff, reduceCtorEq, goInt, pairs, isConst, TI.isAgg, splice, boxS, Edp, dpv, Nat.beq_eq, ZV.val, List.any_cons, List.any_nil]
      have := hbad k r i (by rw [← hc, hti]) hk
      exact downS_le (Le.new' (Le.new hb) hb) this
  · obtain rfl : i = l.length := by omega
    rw [List.drop_length] at hc
    simp (disch := first | assumption | simp) only [↓sbD, sbU, tyB, Nat.reduceMul, Nat.reduceSub, Int.reduceEq, Int.reduceLT, Int.reduceLE, Int.reduceNe, Nat.reduceBneDiff, Nat.reduceBEq, decide_false, gt_iff_lt, Bool.or_self, Bool.false_eq_true, Nat.mul_one, Nat.one_mul, Nat.zero_mul, ↓reduceIte, Nat.reduceEqDiff, Nat.reduceLT, Nat.reduceAdd, Nat.reduceLeDiff, reduceCtorEq, goInt, pairs, isConst, TI.isAgg, splice, boxS, Edp, dpv, Nat.beq_eq, ZV.val, List.any_cons, List.any_nil, f0, f1, f9, f10, f11, hi]
    exact downS_here (hok hc.symm)
def fewPr (l : List Pr) : Prop := l.length ≤ 70 ∧ ∀ p ∈ l, p.s.size ≤ 200 ∧ p.v.size ≤ 200
theorem specFewP {v : Value} {l : List Pr} (h : DL propC 4 v l) (hq : ∀ b : Bool, (b = true → fewPr l) → Q (.bool b) σ) : CallS E B 11 [v] σ Q := by
  have hlen := DLp.len h
  refine call11 (by simp) ?_
  simp only [strip, bodyOf, Tryz.f11, getD_body, keepN, bareOp_mk, lessOp_mk, lapp_cons, lapp_nil, List.map_cons, List.map_nil, array_toList, ↓reduceIte, Nat.reduceEqDiff, Bool.false_eq_true]
  simp (disch := first | assumption | simp) only [↓sbD, sbU, tyB, Nat.reduceMul, Nat.reduceSub, Int.reduceEq, Int.reduceLT, Int.reduceLE, Int.reduceNe, Nat.reduceBneDiff, Nat.reduceBEq, decide_false, gt_iff_lt, Bool.or_self, Bool.false_eq_true, Nat.mul_one, Nat.one_mul, Nat.zero_mul, ↓reduceIte, Nat.reduceEqDiff, Nat.reduceLT, Nat.reduceAdd, Nat.reduceLeDiff, reduceCtorEq, goInt, pairs, isConst, TI.isAgg, splice, boxS, Edp, dpv, Nat.beq_eq, ZV.val, List.any_cons, List.any_nil]
  refine S_loop (fun k f σ' => σ' = σ ∧ ∃ i : Nat, i ≤ 70 ∧ i ≤ l.length ∧ k + i = l.length ∧ f 3 = .int .i64 i ∧ ∀ j (hj : j < l.length), j < i → (l[j]).s.size ≤ 200 ∧ (l[j]).v.size ≤ 200) l.length (Le.refl _) ⟨rfl, 0, by omega, by omega, rfl, by simp (disch := first | assumption | simp) only [↓sbD, sbU, tyB, Nat.reduceMul, Nat.reduceSub, Int.reduceEq, Int.reduceLT, Int.reduceLE, Int.reduceNe, Nat.reduceBneDiff, Nat.reduceBEq, decide_false, gt_iff_lt, Bool.or_self, Bool.false_eq_true, Nat.mul_one, Nat.one_mul, Nat.zero_mul, ↓reduceIte, Nat.reduceEqDiff, Nat.reduceLT, Nat.reduceAdd, Nat.reduceLeDiff, reduceCtorEq, goInt, pairs, isConst, TI.isAgg, splice, boxS, Edp, dpv, Nat.beq_eq, ZV.val, List.any_cons, List.any_nil]; rfl, fun j _ hj => by omega⟩ ?_
  rintro k f σ' ⟨rfl, i, h20, hil, hk, f3, hall⟩ hf
  have f0 := hf 0 (by decide) (notMem_wr (by kernel_rfl))
  simp (disch := first | assumption | simp) only [↓sbD, sbU, tyB, Nat.reduceMul, Nat.reduceSub, Int.reduceEq, Int.reduceLT, Int.reduceLE, Int.reduceNe, Nat.reduceBneDiff, Nat.reduceBEq, decide_false, gt_iff_lt, Bool.or_self, Bool.false_eq_true, Nat.mul_one, Nat.one_mul, Nat.zero_mul, ↓reduceIte, Nat.reduceEqDiff, Nat.reduceLT, Nat.reduceAdd, Nat.reduceLeDiff, reduceCtorEq, goInt, pairs, isConst, TI.isAgg, splice, boxS, Edp, dpv, Nat.beq_eq, ZV.val, List.any_cons, List.any_nil] at f0
  clear hf
  by_cases h1 : (i : Int) < (l.length : Int)
  · by_cases h2 : (i : Int) < 70
    · have hi : i < l.length := by omega
      have hia := DLp.at h hi
      have hw := wrap_suc (n := i) (by omega)
      generalize hy : l[i] = y at hia
      have hac : propC y = [.int .i64 y.id, .int .i64 y.n, .string y.s, .string y.v] := rfl
      by_cases hb : (200 : Int) < (y.s.size : Int)
      · simp (disch := first | assumption | simp) only [↓sbD, sbU, tyB, Nat.reduceMul, Nat.reduceSub, Int.reduceEq, Int.reduceLT, Int.reduceLE, Int.reduceNe, Nat.reduceBneDiff, Nat.reduceBEq, decide_false, gt_iff_lt, Bool.or_self, Bool.false_eq_true, Nat.mul_one, Nat.one_mul, Nat.zero_mul, ↓reduceIte, Nat.reduceEqDiff, Nat.reduceLT, Nat.reduceAdd, Nat.reduceLeDiff, reduceCtorEq, goInt, pairs, isConst, TI.isAgg, splice, boxS, Edp, dpv, Nat.beq_eq, ZV.val, List.any_cons, List.any_nil, f0, f3, hlen, h1, h2, hia, hac, hb]
        exact downS_here (hq false (fun h => by cases h))
      by_cases hb2 : (200 : Int) < (y.v.size : Int)
      · simp (disch := first | assumption | simp) only [↓sbD, sbU, tyB, Nat.reduceMul, Nat.reduceSub, Int.reduceEq, Int.reduceLT, Int.reduceLE, Int.reduceNe, Nat.reduceBneDiff, Nat.reduceBEq, decide_false, gt_iff_lt, Bool.or_self, Bool.false_eq_true, Nat.mul_one, Nat.one_mul, Nat.zero_mul, ↓reduceIte, Nat.reduceEqDiff, Nat.reduceLT, Nat.reduceAdd, Nat.reduceLeDiff, reduceCtorEq, goInt, pairs, isConst, TI.isAgg, splice, boxS, Edp, dpv, Nat.beq_eq, ZV.val, List.any_cons, List.any_nil, f0, f3, hlen, h1, h2, hia, hac, hb, hb2]
        exact downS_here (hq false (fun h => by cases h))
      · simp (disch := first | assumption | simp) only [↓sbD, sbU, tyB, Nat.reduceMul, Nat.reduceSub, Int.reduceEq, Int.reduceLT, Int.reduceLE, Int.reduceNe, Nat.reduceBneDiff, Nat.reduceBEq, decide_false, gt_iff_lt, Bool.or_self, Bool.false_eq_true, Nat.mul_one, Nat.one_mul, Nat.zero_mul, ↓reduceIte, Nat.reduceEqDiff, Nat.reduceLT, Nat.reduceAdd, Nat.reduceLeDiff, reduceCtorEq, goInt, pairs, isConst, TI.isAgg, splice, boxS, Edp, dpv, Nat.beq_eq, ZV.val, List.any_cons, List.any_nil, f0, f3, hlen, h1, h2, hia, hac, hb, hb2, hw]
        refine ⟨_, k - 1, _, rfl, by omega, Le.refl _, rfl, i + 1, by omega, by omega, by omega, by simp (disch := first | assumption | simp) only [↓sbD, sbU, tyB, Nat.reduceMul, Nat.reduceSub, Int.reduceEq, Int.reduceLT, Int.reduceLE, Int.reduceNe, Nat.reduceBneDiff, Nat.reduceBEq, decide_false, gt_iff_lt, Bool.or_self, Bool.false_eq_true, Nat.mul_one, Nat.one_mul, Nat.zero_mul, ↓reduceIte, Nat.reduceEqDiff, Nat.reduceLT, Nat.reduceAdd, Nat.reduceLeDiff, reduceCtorEq, goInt, pairs, isConst, TI.isAgg, splice, boxS, Edp, dpv, Nat.beq_eq, ZV.val, List.any_cons, List.any_nil], fun j hj hji => ?_⟩
        rcases (by omega : j < i ∨ j = i) with h3 | rfl
        · exact hall j hj h3
        · rw [hy]; omega
    · have h3 : i = 70 := by omega
      have h4 : ¬ (l.length : Int) ≤ 70 := by omega
      simp (disch := first | assumption | simp) only [↓sbD, sbU, tyB, Nat.reduceMul, Nat.reduceSub, Int.reduceEq, Int.reduceLT, Int.reduceLE, Int.reduceNe, Nat.reduceBneDiff, Nat.reduceBEq, decide_false, gt_iff_lt, Bool.or_self, Bool.false_eq_true, Nat.mul_one, Nat.one_mul, Nat.zero_mul, ↓reduceIte, Nat.reduceEqDiff, Nat.reduceLT, Nat.reduceAdd, Nat.reduceLeDiff, reduceCtorEq, goInt, pairs, isConst, TI.isAgg, splice, boxS, Edp, dpv, Nat.beq_eq, ZV.val, List.any_cons, List.any_nil, f0, f3, hlen, h1, h2, h4]
      exact downS_here (hq false (fun h => by cases h))
  · have hi : i = l.length := by omega
    have h4 : (l.length : Int) ≤ 70 := by omega
    simp (disch := first | assumption | simp) only [↓sbD, sbU, tyB, Nat.reduceMul, Nat.reduceSub, Int.reduceEq, Int.reduceLT, Int.reduceLE, Int.reduceNe, Nat.reduceBneDiff, Nat.reduceBEq, decide_false, gt_iff_lt, Bool.or_self, Bool.false_eq_true, Nat.mul_one, Nat.one_mul, Nat.zero_mul, ↓reduceIte, Nat.reduceEqDiff, Nat.reduceLT, Nat.reduceAdd, Nat.reduceLeDiff, reduceCtorEq, goInt, pairs, isConst, TI.isAgg, splice, boxS, Edp, dpv, Nat.beq_eq, ZV.val, List.any_cons, List.any_nil, f0, f3, hlen, h1, h4]
    refine downS_here (hq true fun _ => ⟨by omega, fun a ha => ?_⟩)
    obtain ⟨j, hj, rfl⟩ := List.getElem_of_mem ha
    exact hall j hj (by omega)
end
end Go.Proofs.YtonmjhdcijibgaaGreatDoor.AbsA
namespace Go.Proofs.YtonmjhdcijibgaaGreatDoor.AbsA
open Go AbsYtonmjhdcijibgaaGreatDoor Abs
set_option maxRecDepth 100000
set_option maxHeartbeats 2000000
set_option linter.unusedSimpArgs false
set_option linter.unusedVariables false
attribute [local irreducible] afterS afterOpS opSK OpsS TrS CodeS condS condW thenS thenQ guardS guardTS outS drawS trSK consS
section
variable {σ : AHeap} {Q : Value → AHeap → Prop} {w : Nat} {fp : List Nat} {r : ByteArray ⊕ (Nat × Nat)}
def stepW (r : ByteArray ⊕ (Nat × Nat)) (l : List Act) : ByteArray ⊕ (Nat × Nat) := match r with
  | .inl b => runW b l
  | .inr e => .inr e
theorem stepW_app {l m : List Act} : stepW (stepW r l) m = stepW r (l ++ m) := by
  cases r with
  | inl b => simp only [stepW]; rw [runW_app]; cases runW b l <;> rfl
  | inr e => rfl
def leW (r : ByteArray ⊕ (Nat × Nat)) (n : Nat) : Prop := ∀ b, r = .inl b → b.size ≤ n
theorem leW_step {n : Nat} {a : Act} (h : leW r n) : leW (stepW r [a]) (n + a.s.size + 4) := by
  intro b hb
  cases r with
  | inr e => cases hb
  | inl c =>
    have hc := h c rfl
    simp only [stepW, runW] at hb
    cases ha : actW a with
    | inl m =>
      rw [ha] at hb
      injection hb with hb; subst hb
      have := actW_size ha
      rw [size_app]; omega
    | inr e => rw [ha] at hb; cases hb
theorem WOut.run {a : ByteArray} {act : Act} (h : WOut σ w a (actW act) fp) : WRun σ w (runW a [act]) fp := by
  unfold WOut at h
  unfold runW
  cases ha : actW act with
  | inl m => rw [ha] at h; exact h
  | inr e =>
    obtain ⟨k, q⟩ := e
    rw [ha] at h
    obtain ⟨d, x, h1, h2, h3⟩ := h
    exact ⟨a, d, x, h1, h2, h3⟩
theorem specVarR {n : Int} {s : ByteArray} (hw : WRun σ w r fp) (hz : leW r 1000000) (h : ∀ σ' fp', Kept σ fp σ' fp' → WRun σ' w (stepW r [⟨5, n, s⟩]) fp' → Q unit σ') : CallS E B 62 [.pointer (some ⟨w, 0, none⟩), .int .i64 n] σ Q := by
  cases r with
  | inl b => exact specVar hw (hz b rfl) fun σ' fp' k o => h σ' fp' k (WOut.run (act := ⟨5, n, s⟩) o)
  | inr e => obtain ⟨k, q⟩ := e; obtain ⟨b, d, z, h1, h2, h3⟩ := hw; exact specVarE h3 (h σ fp (Kept.refl _ _) ⟨b, d, z, h1, h2, h3⟩)
theorem specU8R {n : Int} {s : ByteArray} (hw : WRun σ w r fp) (hz : leW r 1000000) (h : ∀ σ' fp', Kept σ fp σ' fp' → WRun σ' w (stepW r [⟨1, n, s⟩]) fp' → Q unit σ') : CallS E B 74 [.pointer (some ⟨w, 0, none⟩), .int .i64 n] σ Q := by
  cases r with
  | inl b => exact specU8 hw (hz b rfl) fun σ' fp' k o => h σ' fp' k (WOut.run (act := ⟨1, n, s⟩) o)
  | inr e => obtain ⟨k, q⟩ := e; obtain ⟨b, d, z, h1, h2, h3⟩ := hw; exact specU8E h3 (h σ fp (Kept.refl _ _) ⟨b, d, z, h1, h2, h3⟩)
theorem specU16R {n : Int} {s : ByteArray} (hw : WRun σ w r fp) (hz : leW r 1000000) (h : ∀ σ' fp', Kept σ fp σ' fp' → WRun σ' w (stepW r [⟨2, n, s⟩]) fp' → Q unit σ') : CallS E B 73 [.pointer (some ⟨w, 0, none⟩), .int .i64 n] σ Q := by
  cases r with
  | inl b => exact specU16 hw (hz b rfl) fun σ' fp' k o => h σ' fp' k (WOut.run (act := ⟨2, n, s⟩) o)
  | inr e => obtain ⟨k, q⟩ := e; obtain ⟨b, d, z, h1, h2, h3⟩ := hw; exact specU16E h3 (h σ fp (Kept.refl _ _) ⟨b, d, z, h1, h2, h3⟩)
theorem specU32R {n : Int} {s : ByteArray} (hw : WRun σ w r fp) (hz : leW r 1000000) (h : ∀ σ' fp', Kept σ fp σ' fp' → WRun σ' w (stepW r [⟨4, n, s⟩]) fp' → Q unit σ') : CallS E B 108 [.pointer (some ⟨w, 0, none⟩), .int .i64 n] σ Q := by
  cases r with
  | inl b => exact specU32 hw (hz b rfl) fun σ' fp' k o => h σ' fp' k (WOut.run (act := ⟨4, n, s⟩) o)
  | inr e => obtain ⟨k, q⟩ := e; obtain ⟨b, d, z, h1, h2, h3⟩ := hw; exact specU32E h3 (h σ fp (Kept.refl _ _) ⟨b, d, z, h1, h2, h3⟩)
theorem specBinR {n : Int} {s : ByteArray} (hw : WRun σ w r fp) (hz : leW r 1000000) (hs : s.size ≤ 100000) (h : ∀ σ' fp', Kept σ fp σ' fp' → WRun σ' w (stepW r [⟨7, n, s⟩]) fp' → Q unit σ') : CallS E B 109 [.pointer (some ⟨w, 0, none⟩), .string s] σ Q := by
  cases r with
  | inl b => exact specBin hw (hz b rfl) (by omega) fun σ' fp' k o => h σ' fp' k (WOut.run (act := ⟨7, n, s⟩) o)
  | inr e => obtain ⟨k, q⟩ := e; obtain ⟨b, d, z, h1, h2, h3⟩ := hw; exact specBinE h3 (h σ fp (Kept.refl _ _) ⟨b, d, z, h1, h2, h3⟩)
theorem specTextR {n : Int} {s : ByteArray} (hw : WRun σ w r fp) (hz : leW r 1000000) (hs : s.size ≤ 100000) (h : ∀ σ' fp', Kept σ fp σ' fp' → WRun σ' w (stepW r [⟨6, n, s⟩]) fp' → Q unit σ') : CallS E B 84 [.pointer (some ⟨w, 0, none⟩), .string s] σ Q := by
  cases r with
  | inl b => exact specText hw (hz b rfl) hs fun σ' fp' k o => h σ' fp' k (WOut.run (act := ⟨6, n, s⟩) o)
  | inr e => obtain ⟨k, q⟩ := e; obtain ⟨b, d, z, h1, h2, h3⟩ := hw; exact specTextE h3 (h σ fp (Kept.refl _ _) ⟨b, d, z, h1, h2, h3⟩)
theorem specRawR {n : Int} {s : ByteArray} (hw : WRun σ w r fp) (hz : leW r 10000000) (hs : s.size ≤ 10000000) (h : ∀ σ' fp', Kept σ fp σ' fp' → WRun σ' w (stepW r [⟨8, n, s⟩]) fp' → Q unit σ') : CallS E B 63 [.pointer (some ⟨w, 0, none⟩), .string s] σ Q := by
  cases r with
  | inl b => exact specRaw hw (by have := hz b rfl; omega) fun σ' fp' k o => h σ' fp' k (WOut.run (act := ⟨8, n, s⟩) o)
  | inr e => obtain ⟨k, q⟩ := e; obtain ⟨b, d, z, h1, h2, h3⟩ := hw; exact specRawE h3 (h σ fp (Kept.refl _ _) ⟨b, d, z, h1, h2, h3⟩)
theorem specBytesR (hw : WRun σ w r fp) (hok : ∀ b, r = .inl b → Q (.tuple #[.string b, .nilIface]) σ) (hbad : ∀ k q d z, r = .inr (k, q) → d ≤ 2 → ErN d (fv 129 (q : Int) z) k → Q (.tuple #[.string emp, fv 129 (q : Int) z]) σ) : CallS E B 61 [.pointer (some ⟨w, 0, none⟩)] σ Q := by
  cases r with
  | inl b => exact specBytes hw (hok b rfl)
  | inr e => obtain ⟨k, q⟩ := e; obtain ⟨b, d, z, h1, h2, h3⟩ := hw; exact specBytesE h3 (hbad k q d z rfl h1 h2)
theorem typ_cases (id : Int) : typI id = 0 ∨ typI id = 1 ∨ typI id = 2 ∨ typI id = 4 ∨ typI id = 5 ∨ typI id = 6 ∨ typI id = 7 ∨ typI id = 9 := by
  unfold typI
  (repeat' split) <;> simp
theorem dpW : dp 82 = false := rfl
theorem WRun.kept {σ' : AHeap} {gp gp' : List Nat} (h : WRun σ w r fp) (k : Kept σ gp σ' gp') (hd : ∀ b ∈ fp, b ∉ gp) : WRun σ' w r fp := by
  cases r with
  | inl b => exact IsW.kept h k hd
  | inr e => obtain ⟨n, q⟩ := e; obtain ⟨b, d, z, h1, h2, h3⟩ := h; exact ⟨b, d, z, h1, h2, IsW.kept h3 k hd⟩
theorem specPWrite {p : Pr} {n : Nat} (hw : WRun σ w r fp) (hz : leW r n) (hn : n ≤ 900000) (h1 : p.s.size ≤ 10000) (h2 : p.v.size ≤ 10000) (h : ∀ σ' fp', Kept σ fp σ' fp' → WRun σ' w (stepW r (actsP p)) fp' → leW (stepW r (actsP p)) (n + p.s.size + p.v.size + 12) → Q unit σ') :
    CallS E B 60 [.pointer (some ⟨w, 0, none⟩), .agg ⟨propC p⟩] σ Q := by
  have hz1 := leW_step (a := ⟨5, p.id, emp⟩) hz
  have he : emp.size = 0 := rfl
  simp only [he] at hz1
  have hstep : ∀ l, stepW (stepW r [⟨5, p.id, emp⟩]) l = stepW r (⟨5, p.id, emp⟩ :: l) := fun l => stepW_app
  simp only [propC]
  refine call60 (by simp) ?_
  simp only [strip, bodyOf, Tryz.f60, getD_body, keepN, bareOp_mk, lessOp_mk, lapp_cons, lapp_nil, List.map_cons, List.map_nil, array_toList, ↓reduceIte, Nat.reduceEqDiff, Bool.false_eq_true]
  simp (disch := first | assumption | simp) only [↓sbD, sbU, tyB, Nat.reduceMul, Nat.reduceSub, Int.reduceEq, Int.reduceLT, Int.reduceLE, Int.reduceNe, Nat.reduceBneDiff, Nat.reduceBEq, decide_false, gt_iff_lt, Bool.or_self, Bool.false_eq_true, Nat.mul_one, Nat.one_mul, Nat.zero_mul, ↓reduceIte, Nat.reduceEqDiff, Nat.reduceLT, Nat.reduceAdd, Nat.reduceLeDiff, reduceCtorEq, goInt, pairs, isConst, TI.isAgg, splice, boxS, Edp, dpv, Nat.beq_eq, ZV.val, List.any_cons, List.any_nil]
  refine specVarR (s := emp) hw (fun b hb => by have := hz b hb; omega) fun σ1 fp1 k1 w1 => ?_
  simp (disch := first | assumption | simp) only [↓sbD, sbU, tyB, Nat.reduceMul, Nat.reduceSub, Int.reduceEq, Int.reduceLT, Int.reduceLE, Int.reduceNe, Nat.reduceBneDiff, Nat.reduceBEq, decide_false, gt_iff_lt, Bool.or_self, Bool.false_eq_true, Nat.mul_one, Nat.one_mul, Nat.zero_mul, ↓reduceIte, Nat.reduceEqDiff, Nat.reduceLT, Nat.reduceAdd, Nat.reduceLeDiff, reduceCtorEq, goInt, pairs, isConst, TI.isAgg, splice, boxS, Edp, dpv, Nat.beq_eq, ZV.val, List.any_cons, List.any_nil]
  refine specType ?_
  unfold actsP at h
  rcases typ_cases p.id with ht | ht | ht | ht | ht | ht | ht | ht
  · rw [ht] at h
    simp only [Int.reduceEq, if_false, if_true] at h
    simp (disch := first | assumption | simp) only [↓sbD, sbU, tyB, Nat.reduceMul, Nat.reduceSub, Int.reduceEq, Int.reduceLT, Int.reduceLE, Int.reduceNe, Nat.reduceBneDiff, Nat.reduceBEq, decide_false, gt_iff_lt, Bool.or_self, Bool.false_eq_true, Nat.mul_one, Nat.one_mul, Nat.zero_mul, ↓reduceIte, Nat.reduceEqDiff, Nat.reduceLT, Nat.reduceAdd, Nat.reduceLeDiff, reduceCtorEq, goInt, pairs, isConst, TI.isAgg, splice, boxS, Edp, dpv, Nat.beq_eq, ZV.val, List.any_cons, List.any_nil, ht]
    exact downS_here (h _ _ k1 w1 fun b hb => by have := hz1 b hb; omega)
  · rw [ht] at h
    simp only [Int.reduceEq, if_false, if_true] at h
    simp (disch := first | assumption | simp) only [↓sbD, sbU, tyB, Nat.reduceMul, Nat.reduceSub, Int.reduceEq, Int.reduceLT, Int.reduceLE, Int.reduceNe, Nat.reduceBneDiff, Nat.reduceBEq, decide_false, gt_iff_lt, Bool.or_self, Bool.false_eq_true, Nat.mul_one, Nat.one_mul, Nat.zero_mul, ↓reduceIte, Nat.reduceEqDiff, Nat.reduceLT, Nat.reduceAdd, Nat.reduceLeDiff, reduceCtorEq, goInt, pairs, isConst, TI.isAgg, splice, boxS, Edp, dpv, Nat.beq_eq, ZV.val, List.any_cons, List.any_nil, ht]
    refine specU8R (s := p.s) w1 (fun b hb => by have := hz1 b hb; omega) fun σ2 fp2 k2 w2 => ?_
    simp (disch := first | assumption | simp) only [↓sbD, sbU, tyB, Nat.reduceMul, Nat.reduceSub, Int.reduceEq, Int.reduceLT, Int.reduceLE, Int.reduceNe, Nat.reduceBneDiff, Nat.reduceBEq, decide_false, gt_iff_lt, Bool.or_self, Bool.false_eq_true, Nat.mul_one, Nat.one_mul, Nat.zero_mul, ↓reduceIte, Nat.reduceEqDiff, Nat.reduceLT, Nat.reduceAdd, Nat.reduceLeDiff, reduceCtorEq, goInt, pairs, isConst, TI.isAgg, splice, boxS, Edp, dpv, Nat.beq_eq, ZV.val, List.any_cons, List.any_nil]
    rw [hstep] at w2
    have hz2 := leW_step (a := ⟨1, p.n, p.s⟩) hz1
    rw [hstep] at hz2
    simp only at hz2
    exact downS_here (h _ _ (k1.trans k2) w2 fun b hb => by have := hz2 b hb; omega)
  · rw [ht] at h
    simp only [Int.reduceEq, if_false, if_true] at h
    simp (disch := first | assumption | simp) only [↓sbD, sbU, tyB, Nat.reduceMul, Nat.reduceSub, Int.reduceEq, Int.reduceLT, Int.reduceLE, Int.reduceNe, Nat.reduceBneDiff, Nat.reduceBEq, decide_false, gt_iff_lt, Bool.or_self, Bool.false_eq_true, Nat.mul_one, Nat.one_mul, Nat.zero_mul, ↓reduceIte, Nat.reduceEqDiff, Nat.reduceLT, Nat.reduceAdd, Nat.reduceLeDiff, reduceCtorEq, goInt, pairs, isConst, TI.isAgg, splice, boxS, Edp, dpv, Nat.beq_eq, ZV.val, List.any_cons, List.any_nil, ht]
    refine specU16R (s := p.s) w1 (fun b hb => by have := hz1 b hb; omega) fun σ2 fp2 k2 w2 => ?_
    simp (disch := first | assumption | simp) only [↓sbD, sbU, tyB, Nat.reduceMul, Nat.reduceSub, Int.reduceEq, Int.reduceLT, Int.reduceLE, Int.reduceNe, Nat.reduceBneDiff, Nat.reduceBEq, decide_false, gt_iff_lt, Bool.or_self, Bool.false_eq_true, Nat.mul_one, Nat.one_mul, Nat.zero_mul, ↓reduceIte, Nat.reduceEqDiff, Nat.reduceLT, Nat.reduceAdd, Nat.reduceLeDiff, reduceCtorEq, goInt, pairs, isConst, TI.isAgg, splice, boxS, Edp, dpv, Nat.beq_eq, ZV.val, List.any_cons, List.any_nil]
    rw [hstep] at w2
    have hz2 := leW_step (a := ⟨2, p.n, p.s⟩) hz1
    rw [hstep] at hz2
    simp only at hz2
    exact downS_here (h _ _ (k1.trans k2) w2 fun b hb => by have := hz2 b hb; omega)
  · rw [ht] at h
    simp only [Int.reduceEq, if_false, if_true] at h
    simp (disch := first | assumption | simp) only [↓sbD, sbU, tyB, Nat.reduceMul, Nat.reduceSub, Int.reduceEq, Int.reduceLT, Int.reduceLE, Int.reduceNe, Nat.reduceBneDiff, Nat.reduceBEq, decide_false, gt_iff_lt, Bool.or_self, Bool.false_eq_true, Nat.mul_one, Nat.one_mul, Nat.zero_mul, ↓reduceIte, Nat.reduceEqDiff, Nat.reduceLT, Nat.reduceAdd, Nat.reduceLeDiff, reduceCtorEq, goInt, pairs, isConst, TI.isAgg, splice, boxS, Edp, dpv, Nat.beq_eq, ZV.val, List.any_cons, List.any_nil, ht]
    refine specU32R (s := p.s) w1 (fun b hb => by have := hz1 b hb; omega) fun σ2 fp2 k2 w2 => ?_
    simp (disch := first | assumption | simp) only [↓sbD, sbU, tyB, Nat.reduceMul, Nat.reduceSub, Int.reduceEq, Int.reduceLT, Int.reduceLE, Int.reduceNe, Nat.reduceBneDiff, Nat.reduceBEq, decide_false, gt_iff_lt, Bool.or_self, Bool.false_eq_true, Nat.mul_one, Nat.one_mul, Nat.zero_mul, ↓reduceIte, Nat.reduceEqDiff, Nat.reduceLT, Nat.reduceAdd, Nat.reduceLeDiff, reduceCtorEq, goInt, pairs, isConst, TI.isAgg, splice, boxS, Edp, dpv, Nat.beq_eq, ZV.val, List.any_cons, List.any_nil]
    rw [hstep] at w2
    have hz2 := leW_step (a := ⟨4, p.n, p.s⟩) hz1
    rw [hstep] at hz2
    simp only at hz2
    exact downS_here (h _ _ (k1.trans k2) w2 fun b hb => by have := hz2 b hb; omega)
  · rw [ht] at h
    simp only [Int.reduceEq, if_false, if_true] at h
    simp (disch := first | assumption | simp) only [↓sbD, sbU, tyB, Nat.reduceMul, Nat.reduceSub, Int.reduceEq, Int.reduceLT, Int.reduceLE, Int.reduceNe, Nat.reduceBneDiff, Nat.reduceBEq, decide_false, gt_iff_lt, Bool.or_self, Bool.false_eq_true, Nat.mul_one, Nat.one_mul, Nat.zero_mul, ↓reduceIte, Nat.reduceEqDiff, Nat.reduceLT, Nat.reduceAdd, Nat.reduceLeDiff, reduceCtorEq, goInt, pairs, isConst, TI.isAgg, splice, boxS, Edp, dpv, Nat.beq_eq, ZV.val, List.any_cons, List.any_nil, ht]
    refine specVarR (s := p.s) w1 (fun b hb => by have := hz1 b hb; omega) fun σ2 fp2 k2 w2 => ?_
    simp (disch := first | assumption | simp) only [↓sbD, sbU, tyB, Nat.reduceMul, Nat.reduceSub, Int.reduceEq, Int.reduceLT, Int.reduceLE, Int.reduceNe, Nat.reduceBneDiff, Nat.reduceBEq, decide_false, gt_iff_lt, Bool.or_self, Bool.false_eq_true, Nat.mul_one, Nat.one_mul, Nat.zero_mul, ↓reduceIte, Nat.reduceEqDiff, Nat.reduceLT, Nat.reduceAdd, Nat.reduceLeDiff, reduceCtorEq, goInt, pairs, isConst, TI.isAgg, splice, boxS, Edp, dpv, Nat.beq_eq, ZV.val, List.any_cons, List.any_nil]
    rw [hstep] at w2
    have hz2 := leW_step (a := ⟨5, p.n, p.s⟩) hz1
    rw [hstep] at hz2
    simp only at hz2
    exact downS_here (h _ _ (k1.trans k2) w2 fun b hb => by have := hz2 b hb; omega)
  · rw [ht] at h
    simp only [Int.reduceEq, if_false, if_true] at h
    simp (disch := first | assumption | simp) only [↓sbD, sbU, tyB, Nat.reduceMul, Nat.reduceSub, Int.reduceEq, Int.reduceLT, Int.reduceLE, Int.reduceNe, Nat.reduceBneDiff, Nat.reduceBEq, decide_false, gt_iff_lt, Bool.or_self, Bool.false_eq_true, Nat.mul_one, Nat.one_mul, Nat.zero_mul, ↓reduceIte, Nat.reduceEqDiff, Nat.reduceLT, Nat.reduceAdd, Nat.reduceLeDiff, reduceCtorEq, goInt, pairs, isConst, TI.isAgg, splice, boxS, Edp, dpv, Nat.beq_eq, ZV.val, List.any_cons, List.any_nil, ht]
    refine specTextR (n := p.n) w1 (fun b hb => by have := hz1 b hb; omega) (by omega) fun σ2 fp2 k2 w2 => ?_
    simp (disch := first | assumption | simp) only [↓sbD, sbU, tyB, Nat.reduceMul, Nat.reduceSub, Int.reduceEq, Int.reduceLT, Int.reduceLE, Int.reduceNe, Nat.reduceBneDiff, Nat.reduceBEq, decide_false, gt_iff_lt, Bool.or_self, Bool.false_eq_true, Nat.mul_one, Nat.one_mul, Nat.zero_mul, ↓reduceIte, Nat.reduceEqDiff, Nat.reduceLT, Nat.reduceAdd, Nat.reduceLeDiff, reduceCtorEq, goInt, pairs, isConst, TI.isAgg, splice, boxS, Edp, dpv, Nat.beq_eq, ZV.val, List.any_cons, List.any_nil]
    rw [hstep] at w2
    have hz2 := leW_step (a := ⟨6, p.n, p.s⟩) hz1
    rw [hstep] at hz2
    simp only at hz2
    exact downS_here (h _ _ (k1.trans k2) w2 fun b hb => by have := hz2 b hb; omega)
  · rw [ht] at h
    simp only [Int.reduceEq, if_false, if_true] at h
    simp (disch := first | assumption | simp) only [↓sbD, sbU, tyB, Nat.reduceMul, Nat.reduceSub, Int.reduceEq, Int.reduceLT, Int.reduceLE, Int.reduceNe, Nat.reduceBneDiff, Nat.reduceBEq, decide_false, gt_iff_lt, Bool.or_self, Bool.false_eq_true, Nat.mul_one, Nat.one_mul, Nat.zero_mul, ↓reduceIte, Nat.reduceEqDiff, Nat.reduceLT, Nat.reduceAdd, Nat.reduceLeDiff, reduceCtorEq, goInt, pairs, isConst, TI.isAgg, splice, boxS, Edp, dpv, Nat.beq_eq, ZV.val, List.any_cons, List.any_nil, ht]
    refine specBinR (n := p.n) w1 (fun b hb => by have := hz1 b hb; omega) (by omega) fun σ2 fp2 k2 w2 => ?_
    simp (disch := first | assumption | simp) only [↓sbD, sbU, tyB, Nat.reduceMul, Nat.reduceSub, Int.reduceEq, Int.reduceLT, Int.reduceLE, Int.reduceNe, Nat.reduceBneDiff, Nat.reduceBEq, decide_false, gt_iff_lt, Bool.or_self, Bool.false_eq_true, Nat.mul_one, Nat.one_mul, Nat.zero_mul, ↓reduceIte, Nat.reduceEqDiff, Nat.reduceLT, Nat.reduceAdd, Nat.reduceLeDiff, reduceCtorEq, goInt, pairs, isConst, TI.isAgg, splice, boxS, Edp, dpv, Nat.beq_eq, ZV.val, List.any_cons, List.any_nil]
    rw [hstep] at w2
    have hz2 := leW_step (a := ⟨7, p.n, p.s⟩) hz1
    rw [hstep] at hz2
    simp only at hz2
    exact downS_here (h _ _ (k1.trans k2) w2 fun b hb => by have := hz2 b hb; omega)
  · rw [ht] at h
    simp only [Int.reduceEq, if_false, if_true] at h
    simp (disch := first | assumption | simp) only [↓sbD, sbU, tyB, Nat.reduceMul, Nat.reduceSub, Int.reduceEq, Int.reduceLT, Int.reduceLE, Int.reduceNe, Nat.reduceBneDiff, Nat.reduceBEq, decide_false, gt_iff_lt, Bool.or_self, Bool.false_eq_true, Nat.mul_one, Nat.one_mul, Nat.zero_mul, ↓reduceIte, Nat.reduceEqDiff, Nat.reduceLT, Nat.reduceAdd, Nat.reduceLeDiff, reduceCtorEq, goInt, pairs, isConst, TI.isAgg, splice, boxS, Edp, dpv, Nat.beq_eq, ZV.val, List.any_cons, List.any_nil, ht]
    refine specTextR (n := 0) w1 (fun b hb => by have := hz1 b hb; omega) (by omega) fun σ2 fp2 k2 w2 => ?_
    rw [hstep] at w2
    have hz2 := leW_step (a := ⟨6, 0, p.s⟩) hz1
    rw [hstep] at hz2
    simp only at hz2
    simp (disch := first | assumption | simp) only [↓sbD, sbU, tyB, Nat.reduceMul, Nat.reduceSub, Int.reduceEq, Int.reduceLT, Int.reduceLE, Int.reduceNe, Nat.reduceBneDiff, Nat.reduceBEq, decide_false, gt_iff_lt, Bool.or_self, Bool.false_eq_true, Nat.mul_one, Nat.one_mul, Nat.zero_mul, ↓reduceIte, Nat.reduceEqDiff, Nat.reduceLT, Nat.reduceAdd, Nat.reduceLeDiff, reduceCtorEq, goInt, pairs, isConst, TI.isAgg, splice, boxS, Edp, dpv, Nat.beq_eq, ZV.val, List.any_cons, List.any_nil]
    refine specTextR (n := 0) w2 (fun b hb => by have := hz2 b hb; omega) (by omega) fun σ3 fp3 k3 w3 => ?_
    have hz3 := leW_step (a := ⟨6, 0, p.v⟩) hz2
    rw [stepW_app] at w3 hz3
    simp only [List.cons_append, List.nil_append] at w3 hz3
    simp (disch := first | assumption | simp) only [↓sbD, sbU, tyB, Nat.reduceMul, Nat.reduceSub, Int.reduceEq, Int.reduceLT, Int.reduceLE, Int.reduceNe, Nat.reduceBneDiff, Nat.reduceBEq, decide_false, gt_iff_lt, Bool.or_self, Bool.false_eq_true, Nat.mul_one, Nat.one_mul, Nat.zero_mul, ↓reduceIte, Nat.reduceEqDiff, Nat.reduceLT, Nat.reduceAdd, Nat.reduceLeDiff, reduceCtorEq, goInt, pairs, isConst, TI.isAgg, splice, boxS, Edp, dpv, Nat.beq_eq, ZV.val, List.any_cons, List.any_nil]
    exact downS_here (h _ _ (k1.trans (k2.trans k3)) w3 fun b hb => by have := hz3 b hb; omega)
def smallP (l : List Pr) : Prop := l.length ≤ 100 ∧ ∀ p ∈ l, p.s.size ≤ 3000 ∧ p.v.size ≤ 3000
theorem specPEncode {pl : Int} {v : Value} {l : List Pr} (hl : DL propC 4 v l) (hs : smallP l) (hok : ∀ c, encP pl l = .ok c → c.size ≤ 700000 → Q (.tuple #[.string c, .nilIface]) σ) (hbad : ∀ (k r a d : Nat) z, encP pl l = .error (k, r, a) → d ≤ 2 → ErN d (fv r a z) k → Q (.tuple #[.string emp, fv r a z]) σ) :
    CallS E B 24 [.int .i64 pl, v] σ Q := by
  have hlen := DLp.len hl
  obtain ⟨hs1, hs2⟩ := hs
  unfold encP at hok hbad
  refine call24 (by simp) ?_
  simp only [strip, bodyOf, Tryz.f24, getD_body, keepN, bareOp_mk, lessOp_mk, lapp_cons, lapp_nil, List.map_cons, List.map_nil, array_toList, ↓reduceIte, Nat.reduceEqDiff, Bool.false_eq_true]
  simp (disch := first | assumption | simp) only [↓sbD, sbU, tyB, Nat.reduceMul, Nat.reduceSub, Int.reduceEq, Int.reduceLT, Int.reduceLE, Int.reduceNe, Nat.reduceBneDiff, Nat.reduceBEq, decide_false, gt_iff_lt, Bool.or_self, Bool.false_eq_true, Nat.mul_one, Nat.one_mul, Nat.zero_mul, ↓reduceIte, Nat.reduceEqDiff, Nat.reduceLT, Nat.reduceAdd, Nat.reduceLeDiff, reduceCtorEq, goInt, pairs, isConst, TI.isAgg, splice, boxS, Edp, dpv, Nat.beq_eq, ZV.val, List.any_cons, List.any_nil]
  refine specPCheck hl (by omega) (fun hc => ?_) fun k r a hc hk => ?_
  rotate_left
  · rw [hc] at hbad
    simp (disch := first | assumption | simp) only [↓sbD, sbU, tyB, Nat.reduceMul, Nat.reduceSub, Int.reduceEq, Int.reduceLT, Int.reduceLE, Int.reduceNe, Nat.reduceBneDiff, Nat.reduceBEq, decide_false, gt_iff_lt, Bool.or_self, Bool.false_eq_true, Nat.mul_one, Nat.one_mul, Nat.zero_mul, ↓reduceIte, Nat.reduceEqDiff, Nat.reduceLT, Nat.reduceAdd, Nat.reduceLeDiff, reduceCtorEq, goInt, pairs, isConst, TI.isAgg, splice, boxS, Edp, dpv, Nat.beq_eq, ZV.val, List.any_cons, List.any_nil]
    exact downS_here (hbad k r a 1 _ rfl (by omega) (ErN.new _ _ hk))
  rw [hc] at hok hbad
  simp (disch := first | assumption | simp) only [↓sbD, sbU, tyB, Nat.reduceMul, Nat.reduceSub, Int.reduceEq, Int.reduceLT, Int.reduceLE, Int.reduceNe, Nat.reduceBneDiff, Nat.reduceBEq, decide_false, gt_iff_lt, Bool.or_self, Bool.false_eq_true, Nat.mul_one, Nat.one_mul, Nat.zero_mul, ↓reduceIte, Nat.reduceEqDiff, Nat.reduceLT, Nat.reduceAdd, Nat.reduceLeDiff, reduceCtorEq, goInt, pairs, isConst, TI.isAgg, splice, boxS, Edp, dpv, Nat.beq_eq, ZV.val, List.any_cons, List.any_nil, AS_new, dpW, hlen]
  intro w hw
  generalize hσ1 : AHeap.set σ w _ = σ1
  have gw : σ1.get w = .cells [.slice none 0 0, .nilIface] true 0 := by rw [← hσ1]; exact AHeap.get_set_same _ _ _
  have k1 : Kept σ [] σ1 [w] := by rw [← hσ1]; exact Kept.new' hw
  have hI : WRun σ1 w (runW emp []) [w] := ⟨_, [], gw, .inl ⟨rfl, rfl, rfl⟩, rfl, by simp⟩
  clear gw hσ1
  refine S_loop (fun m f σ' => ∃ (i : Nat) (fp : List Nat), m + i = l.length ∧ f 23 = .int .i64 i ∧ WRun σ' w (runW emp ((l.take i).flatMap actsP)) fp ∧ leW (runW emp ((l.take i).flatMap actsP)) (6012 * i) ∧ Kept σ [] σ' fp) l.length (Le.refl _) ⟨0, [w], rfl, by simp (disch := first | assumption | simp) only [↓sbD, sbU, tyB, Nat.reduceMul, Nat.reduceSub, Int.reduceEq, Int.reduceLT, Int.reduceLE, Int.reduceNe, Nat.reduceBneDiff, Nat.reduceBEq, decide_false, gt_iff_lt, Bool.or_self, Bool.false_eq_true, Nat.mul_one, Nat.one_mul, Nat.zero_mul, ↓reduceIte, Nat.reduceEqDiff, Nat.reduceLT, Nat.reduceAdd, Nat.reduceLeDiff, reduceCtorEq, goInt, pairs, isConst, TI.isAgg, splice, boxS, Edp, dpv, Nat.beq_eq, ZV.val, List.any_cons, List.any_nil]; rfl, hI, fun b hb => by injection hb with hb; subst hb; show emp.size ≤ _; exact Nat.zero_le _, k1⟩ ?_
  clear hI k1
  rintro m f σ2 ⟨i, fp, hm, f23, hI, hz, hk⟩ hf
  have f0 := hf 0 (by decide) (notMem_wr (by kernel_rfl))
  have f1 := hf 1 (by decide) (notMem_wr (by kernel_rfl))
  have f7 := hf 7 (by decide) (notMem_wr (by kernel_rfl))
  have f21 := hf 21 (by decide) (notMem_wr (by kernel_rfl))
  have f22 := hf 22 (by decide) (notMem_wr (by kernel_rfl))
  simp (disch := first | assumption | simp) only [↓sbD, sbU, tyB, Nat.reduceMul, Nat.reduceSub, Int.reduceEq, Int.reduceLT, Int.reduceLE, Int.reduceNe, Nat.reduceBneDiff, Nat.reduceBEq, decide_false, gt_iff_lt, Bool.or_self, Bool.false_eq_true, Nat.mul_one, Nat.one_mul, Nat.zero_mul, ↓reduceIte, Nat.reduceEqDiff, Nat.reduceLT, Nat.reduceAdd, Nat.reduceLeDiff, reduceCtorEq, goInt, pairs, isConst, TI.isAgg, splice, boxS, Edp, dpv, Nat.beq_eq, ZV.val, List.any_cons, List.any_nil] at f0 f1 f7 f21 f22
  clear hf
  by_cases hi : (i : Int) < (l.length : Int)
  · have hi' : i < l.length := by omega
    have hia := DLp.at hl hi'
    have hsz := hs2 _ (List.getElem_mem hi')
    have hwi := wrap_suc (n := i) (by omega)
    have htk : l.take (i + 1) = l.take i ++ [l[i]] := List.take_succ_eq_append_getElem hi'
    generalize l[i] = y at hia hsz htk
    have hac : propC y = [.int .i64 y.id, .int .i64 y.n, .string y.s, .string y.v] := rfl
    have hst : runW emp ((l.take (i + 1)).flatMap actsP) = stepW (runW emp ((l.take i).flatMap actsP)) (actsP y) := by
      rw [htk, List.flatMap_append, runW_app]
      simp only [List.flatMap_cons, List.flatMap_nil, List.append_nil]
      cases runW emp ((l.take i).flatMap actsP) <;> rfl
    simp (disch := first | assumption | simp) only [↓sbD, sbU, tyB, Nat.reduceMul, Nat.reduceSub, Int.reduceEq, Int.reduceLT, Int.reduceLE, Int.reduceNe, Nat.reduceBneDiff, Nat.reduceBEq, decide_false, gt_iff_lt, Bool.or_self, Bool.false_eq_true, Nat.mul_one, Nat.one_mul, Nat.zero_mul, ↓reduceIte, Nat.reduceEqDiff, Nat.reduceLT, Nat.reduceAdd, Nat.reduceLeDiff, reduceCtorEq, goInt, pairs, isConst, TI.isAgg, splice, boxS, Edp, dpv, Nat.beq_eq, ZV.val, List.any_cons, List.any_nil, f0, f1, f7, f21, f22, f23, hi, hia, hac, AS_new, zePr]
    intro b hb
    have kb : Kept σ2 [] _ [] := Kept.tmp (o := .cells [.int .i64 0, .int .i64 0, .string ⟨#[]⟩, .string ⟨#[]⟩] true 0) (o' := .cells [.int .i64 y.id, .int .i64 y.n, .string y.s, .string y.v] true 0) hb
    rw [propC_ag]
    refine specPWrite (p := y) (WRun.kept hI kb (fun _ _ h => by cases h)) hz (by omega) (by omega) (by omega) fun σ3 fp3 k3 w3 z3 => ?_
    simp (disch := first | assumption | simp) only [↓sbD, sbU, tyB, Nat.reduceMul, Nat.reduceSub, Int.reduceEq, Int.reduceLT, Int.reduceLE, Int.reduceNe, Nat.reduceBneDiff, Nat.reduceBEq, decide_false, gt_iff_lt, Bool.or_self, Bool.false_eq_true, Nat.mul_one, Nat.one_mul, Nat.zero_mul, ↓reduceIte, Nat.reduceEqDiff, Nat.reduceLT, Nat.reduceAdd, Nat.reduceLeDiff, reduceCtorEq, goInt, pairs, isConst, TI.isAgg, splice, boxS, Edp, dpv, Nat.beq_eq, ZV.val, List.any_cons, List.any_nil, f23, hwi]
    refine ⟨_, m - 1, σ3, rfl, by omega, Le.refl _, i + 1, fp3, by omega, ?_, by rw [hst]; exact w3, ?_, ?_⟩
    · simp (disch := first | assumption | simp) only [↓sbD, sbU, tyB, Nat.reduceMul, Nat.reduceSub, Int.reduceEq, Int.reduceLT, Int.reduceLE, Int.reduceNe, Nat.reduceBneDiff, Nat.reduceBEq, decide_false, gt_iff_lt, Bool.or_self, Bool.false_eq_true, Nat.mul_one, Nat.one_mul, Nat.zero_mul, ↓reduceIte, Nat.reduceEqDiff, Nat.reduceLT, Nat.reduceAdd, Nat.reduceLeDiff, reduceCtorEq, goInt, pairs, isConst, TI.isAgg, splice, boxS, Edp, dpv, Nat.beq_eq, ZV.val, List.any_cons, List.any_nil]
    · intro b hb; rw [hst] at hb; have := z3 b hb; omega
    · exact hk.trans ((kb.wid (gp := fp) (gp' := fp) (fun _ h => by cases h) (fun _ h => .inr h)).trans k3)
  · obtain rfl : i = l.length := by omega
    rw [List.take_length] at hI hz
    simp (disch := first | assumption | simp) only [↓sbD, sbU, tyB, Nat.reduceMul, Nat.reduceSub, Int.reduceEq, Int.reduceLT, Int.reduceLE, Int.reduceNe, Nat.reduceBneDiff, Nat.reduceBEq, decide_false, gt_iff_lt, Bool.or_self, Bool.false_eq_true, Nat.mul_one, Nat.one_mul, Nat.zero_mul, ↓reduceIte, Nat.reduceEqDiff, Nat.reduceLT, Nat.reduceAdd, Nat.reduceLeDiff, reduceCtorEq, goInt, pairs, isConst, TI.isAgg, splice, boxS, Edp, dpv, Nat.beq_eq, ZV.val, List.any_cons, List.any_nil, f0, f1, f7, f21, f22, f23, hi]
    refine specBytesR hI (fun b hb => ?_) fun k q d z hr hd he => ?_
    · rw [hb] at hok hbad
      have hbz := hz b hb
      simp (disch := first | assumption | simp) only [↓sbD, sbU, tyB, Nat.reduceMul, Nat.reduceSub, Int.reduceEq, Int.reduceLT, Int.reduceLE, Int.reduceNe, Nat.reduceBneDiff, Nat.reduceBEq, decide_false, gt_iff_lt, Bool.or_self, Bool.false_eq_true, Nat.mul_one, Nat.one_mul, Nat.zero_mul, ↓reduceIte, Nat.reduceEqDiff, Nat.reduceLT, Nat.reduceAdd, Nat.reduceLeDiff, reduceCtorEq, goInt, pairs, isConst, TI.isAgg, splice, boxS, Edp, dpv, Nat.beq_eq, ZV.val, List.any_cons, List.any_nil, AS_new, dpW]
      intro x hx
      generalize hσ3 : AHeap.set σ2 x _ = σ3
      have gx : σ3.get x = .cells [.slice none 0 0, .nilIface] true 0 := by rw [← hσ3]; exact AHeap.get_set_same _ _ _
      have k3 : Kept σ2 [] σ3 [x] := by rw [← hσ3]; exact Kept.new' hx
      have wx : WRun σ3 x (.inl emp) [x] := ⟨_, [], gx, .inl ⟨rfl, rfl, rfl⟩, rfl, by simp⟩
      refine specVarR (s := emp) wx (fun b hb => by injection hb with hb; subst hb; show emp.size ≤ _; exact Nat.zero_le _) fun σ4 fp4 k4 w4 => ?_
      have hv : stepW (.inl emp) [⟨5, (b.size : Int), emp⟩] = .inl (str (enc b.size)) := by
        simp only [stepW, runW, actW, varW]
        rw [if_neg (by decide), if_neg (by decide), if_neg (by decide), if_pos trivial, if_neg (by omega)]
        simp only [Int.toNat_natCast]
        rw [emp_app']
      rw [hv] at w4
      have es : (str (enc b.size)).size ≤ 4 := by rw [str_size, enc_len]; exact (vsize_pos _).2
      simp (disch := first | assumption | simp) only [↓sbD, sbU, tyB, Nat.reduceMul, Nat.reduceSub, Int.reduceEq, Int.reduceLT, Int.reduceLE, Int.reduceNe, Nat.reduceBneDiff, Nat.reduceBEq, decide_false, gt_iff_lt, Bool.or_self, Bool.false_eq_true, Nat.mul_one, Nat.one_mul, Nat.zero_mul, ↓reduceIte, Nat.reduceEqDiff, Nat.reduceLT, Nat.reduceAdd, Nat.reduceLeDiff, reduceCtorEq, goInt, pairs, isConst, TI.isAgg, splice, boxS, Edp, dpv, Nat.beq_eq, ZV.val, List.any_cons, List.any_nil]
      refine specRawR (n := 0) w4 (fun c hc => by injection hc with hc; subst hc; omega) (by omega) fun σ5 fp5 k5 w5 => ?_
      have hv2 : stepW (.inl (str (enc b.size))) [⟨8, 0, b⟩] = .inl (str (enc b.size) ++ b) := by
        simp only [stepW, runW, actW]
        rw [if_neg (by decide), if_neg (by decide), if_neg (by decide), if_neg (by decide), if_neg (by decide), if_neg (by decide), if_pos trivial]
      rw [hv2] at w5
      simp (disch := first | assumption | simp) only [↓sbD, sbU, tyB, Nat.reduceMul, Nat.reduceSub, Int.reduceEq, Int.reduceLT, Int.reduceLE, Int.reduceNe, Nat.reduceBneDiff, Nat.reduceBEq, decide_false, gt_iff_lt, Bool.or_self, Bool.false_eq_true, Nat.mul_one, Nat.one_mul, Nat.zero_mul, ↓reduceIte, Nat.reduceEqDiff, Nat.reduceLT, Nat.reduceAdd, Nat.reduceLeDiff, reduceCtorEq, goInt, pairs, isConst, TI.isAgg, splice, boxS, Edp, dpv, Nat.beq_eq, ZV.val, List.any_cons, List.any_nil]
      refine specBytesR w5 (fun c hc => ?_) fun k q d z hr hd he => by cases hr
      injection hc with hc
      subst hc
      simp (disch := first | assumption | simp) only [↓sbD, sbU, tyB, Nat.reduceMul, Nat.reduceSub, Int.reduceEq, Int.reduceLT, Int.reduceLE, Int.reduceNe, Nat.reduceBneDiff, Nat.reduceBEq, decide_false, gt_iff_lt, Bool.or_self, Bool.false_eq_true, Nat.mul_one, Nat.one_mul, Nat.zero_mul, ↓reduceIte, Nat.reduceEqDiff, Nat.reduceLT, Nat.reduceAdd, Nat.reduceLeDiff, reduceCtorEq, goInt, pairs, isConst, TI.isAgg, splice, boxS, Edp, dpv, Nat.beq_eq, ZV.val, List.any_cons, List.any_nil]
      have kk : Kept σ [] σ5 [] := (hk.wid (gp := []) (gp' := []) (fun _ h => by cases h) (fun _ h => by cases h)).trans ((k3.trans (k4.trans k5)).wid (gp := []) (gp' := []) (fun _ h => by cases h) (fun _ h => by cases h))
      exact downS_le (Kept.le kk) (hok _ rfl (by rw [size_app]; omega))
    · rw [hr] at hbad
      simp (disch := first | assumption | simp) only [↓sbD, sbU, tyB, Nat.reduceMul, Nat.reduceSub, Int.reduceEq, Int.reduceLT, Int.reduceLE, Int.reduceNe, Nat.reduceBneDiff, Nat.reduceBEq, decide_false, gt_iff_lt, Bool.or_self, Bool.false_eq_true, Nat.mul_one, Nat.one_mul, Nat.zero_mul, ↓reduceIte, Nat.reduceEqDiff, Nat.reduceLT, Nat.reduceAdd, Nat.reduceLeDiff, reduceCtorEq, goInt, pairs, isConst, TI.isAgg, splice, boxS, Edp, dpv, Nat.beq_eq, ZV.val, List.any_cons, List.any_nil]
      have kk : Kept σ [] σ2 [] := hk.wid (gp := []) (gp' := []) (fun _ h => by cases h) (fun _ h => by cases h)
      exact downS_le (Kept.le kk) (hbad k 129 q d z rfl hd he)
end
end Go.Proofs.YtonmjhdcijibgaaGreatDoor.AbsA
namespace Go.Proofs.YtonmjhdcijibgaaGreatDoor.AbsA
open Go AbsYtonmjhdcijibgaaGreatDoor Abs
set_option maxRecDepth 100000
set_option maxHeartbeats 2000000
set_option linter.unusedSimpArgs false
set_option linter.unusedVariables false
attribute [local irreducible] afterS afterOpS opSK OpsS TrS CodeS condS condW thenS thenQ guardS guardTS outS drawS trSK consS
theorem Kept.setD {σ σ' : AHeap} {fp fp' : List Nat} {c : Nat} {o : AObj} (k : Kept σ fp σ' fp') (hc : σ.get c = .dead) : Kept σ fp (σ'.set c o) fp' :=
  ⟨fun b hb hn => by rw [AHeap.get_set_ne _ _ (by rintro rfl; exact hb hc)]; exact k.get b hb hn, k.new⟩
section
variable {σ : AHeap} {Q : Value → AHeap → Prop} {r : Nat} {s : ByteArray} {p : Nat}
end
end Go.Proofs.YtonmjhdcijibgaaGreatDoor.AbsA
namespace Go.Proofs.YtonmjhdcijibgaaGreatDoor.AbsA
open Go AbsYtonmjhdcijibgaaGreatDoor Abs
set_option maxRecDepth 100000
set_option maxHeartbeats 2000000
set_option linter.unusedSimpArgs false
set_option linter.unusedVariables false
attribute [local irreducible] afterS afterOpS opSK OpsS TrS CodeS condS condW thenS thenQ guardS guardTS outS drawS trSK consS
section
variable {σ : AHeap} {Q : Value → AHeap → Prop} {r : Nat} {s : ByteArray} {p : Nat}
theorem groundP_typ {pl id : Int} {l : List Pr} (h : groundP pl l id = none) : typI id ≠ 0 ∧ l.length < 64 := by
  unfold groundP at h
  split at h
  · cases h
  split at h
  · cases h
  · rename_i h1 h2
    exact ⟨fun h3 => h2 (.inl h3), by omega⟩
end
end Go.Proofs.YtonmjhdcijibgaaGreatDoor.AbsA
namespace Go.Proofs.YtonmjhdcijibgaaGreatDoor.AbsA
open Go AbsYtonmjhdcijibgaaGreatDoor Abs
set_option maxRecDepth 100000
set_option maxHeartbeats 2000000
set_option linter.unusedSimpArgs false
set_option linter.unusedVariables false
/-- the document's error -/
abbrev flt (k r a : Int) : Value := .agg ⟨[.int .i64 k, .int .i64 r, .int .i64 a]⟩
theorem zeFlt : azero E 41 = some [.int .i64 0, .int .i64 0, .int .i64 0] := rfl
def fltO : Option (Nat × Nat × Nat) → Value
  | none => flt 0 0 0
  | some (k, r, a) => flt k r a
end Go.Proofs.YtonmjhdcijibgaaGreatDoor.AbsA
