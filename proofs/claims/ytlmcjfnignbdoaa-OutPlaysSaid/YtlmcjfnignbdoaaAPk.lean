/-
  A part of a law's proof.
-/
import Derived.Test.YtlmcjfnignbdoaaAPj
namespace Go.Proofs.Ytlmcjfnignbdoaa.Abs
open Go AbsYtlmcjfnignbdoaa
set_option maxRecDepth 100000
set_option maxHeartbeats 4000000
set_option linter.unusedSimpArgs false
set_option linter.unusedVariables false
/-! ### what nobody made -/
def Nob (H : AHeap) (x : Value) : Prop := x = .pointer none ∨ ∃ e, x = ptr e ∧ H.get e = .cells [.pointer none, .slice none 0 0] true 0 ∧ e < H.size
theorem Nob.ext {H H' : AHeap} {x : Value} (h : Nob H x) (k : Ext H H') : Nob H' x := by
  rcases h with h | ⟨e, h1, h2, h3⟩
  · exact .inl h
  · exact .inr ⟨e, h1, by rw [k.get _ h3]; exact h2, Nat.lt_of_lt_of_le h3 k.size⟩
theorem spec55nil {H : AHeap} : CallW E 55 [.pointer none] H fun r H' => r = .tuple #[.int .i64 0, .bool false] ∧ H' = H := by
  refine call55 (by simp) ?_
  simp only [strip, bodyOf, Try.f55, getD_body, keepN, bareOp_mk, lessOp_mk, lapp_cons, lapp_nil, List.map_cons, List.map_nil, array_toList, ↓reduceIte, Nat.reduceEqDiff, Bool.false_eq_true]
  simp (disch := first | assumption | simp) only [↓wbD, wbU, ↓aop, ↓reduceIte, Nat.reduceEqDiff, Nat.reduceLT, reduceCtorEq, goInt, pairs, nil_ptr ty49 rfl, Option.isNone_none]
theorem e0c0 : ([.pointer none, .slice none 0 0] : List Value)[0]? = some (.pointer none) := rfl
theorem e0c1 : ([.pointer none, .slice none 0 0] : List Value)[1]? = some (.slice none 0 0) := rfl
theorem spec28x {H : AHeap} {x : Value} {m : Msg} {sl : Value} {q : Int} (h : Nob H x) : CallW E 28 [x, .agg (m.v sl).toArray, .int .i64 q] H fun r H' => r = .tuple #[.int .i64 0, .bool false] ∧ Ext H H' := by
  refine call28 (by simp) ?_
  simp only [strip, bodyOf, Try.f28, getD_body, keepN, bareOp_mk, lessOp_mk, lapp_cons, lapp_nil, List.map_cons, List.map_nil, array_toList, ↓reduceIte, Nat.reduceEqDiff, Bool.false_eq_true]
  have hv : vcells (.agg (m.v sl).toArray) = m.v sl := rfl
  have x1 : Ext H (H.alloc (.cells (m.v sl) true 0)) := Ext.alloc _ _
  rcases h with rfl | ⟨e, rfl, hg, he⟩
  · simp (disch := first | assumption | simp) only [↓wbD, wbU, ↓aop, ↓reduceIte, Nat.reduceEqDiff, Nat.reduceLT, reduceCtorEq, goInt, pairs, hv, nil_ptr ty45 rfl, Option.isNone_none]
    exact x1
  · have g1 : (H.alloc (.cells (m.v sl) true 0)).get e = .cells [.pointer none, .slice none 0 0] true 0 := by rw [x1.get _ he]; exact hg
    have e21 : ¬ ((2 : Int) = 1) := by decide
    by_cases h1 : q = 1
    · subst h1
      simp (disch := first | assumption | simp) only [↓wbD, wbU, ↓aop, ↓reduceIte, Nat.reduceEqDiff, Nat.reduceLT, reduceCtorEq, goInt, pairs, hv, nil_ptr ty45 rfl, Option.isNone_some, decide_false, not_true_eq_false, fa52_0, Nat.zero_add, ld_cell ty49 rfl g1, e0c0]
      refine spec55nil.mono ?_
      rintro r H2 ⟨rfl, rfl⟩
      simp (disch := first | assumption | simp) only [↓wbD, wbU, ↓aop, ↓reduceIte, Nat.reduceEqDiff, Nat.reduceLT, reduceCtorEq, goInt, pairs, tup0, tup1]
      exact x1
    by_cases h2 : q = 2
    · subst h2
      simp (disch := first | assumption | simp) only [↓wbD, wbU, ↓aop, ↓reduceIte, Nat.reduceEqDiff, Nat.reduceLT, reduceCtorEq, goInt, pairs, hv, nil_ptr ty45 rfl, Option.isNone_some, e21, decide_true, decide_false, not_true_eq_false, not_false_eq_true, fa52_0, Nat.zero_add, ld_cell ty49 rfl g1, e0c0]
      refine spec55nil.mono ?_
      rintro r H2 ⟨rfl, rfl⟩
      simp (disch := first | assumption | simp) only [↓wbD, wbU, ↓aop, ↓reduceIte, Nat.reduceEqDiff, Nat.reduceLT, reduceCtorEq, goInt, pairs, tup0, tup1]
      exact x1
    simp (disch := first | assumption | simp) only [↓wbD, wbU, ↓aop, ↓reduceIte, Nat.reduceEqDiff, Nat.reduceLT, reduceCtorEq, goInt, pairs, hv, nil_ptr ty45 rfl, Option.isNone_some, h1, h2, decide_true, not_false_eq_true]
    exact x1
theorem spec57x {H : AHeap} {x : Value} {id : Int} (h : Nob H x) : CallW E 57 [x, .int .i64 id] H fun r H' => r = .int .i64 (-1) ∧ Ext H H' := by
  refine call57 (by simp) ?_
  simp only [strip, bodyOf, Try.f57, getD_body, keepN, bareOp_mk, lessOp_mk, lapp_cons, lapp_nil, List.map_cons, List.map_nil, array_toList, ↓reduceIte, Nat.reduceEqDiff, Bool.false_eq_true]
  have x1 : Ext H (H.alloc (.cells [.int .i64 id] true 0)) := Ext.alloc _ _
  have z1 : (H.alloc (.cells [.int .i64 id] true 0)).get H.size = .cells [.int .i64 id] true 0 := AHeap.get_alloc_same _ _
  have s1 : (H.alloc (.cells [.int .i64 id] true 0)).size = H.size + 1 := AHeap.size_alloc _ _
  rcases h with rfl | ⟨e, rfl, hg, he⟩
  · simp (disch := first | assumption | simp) only [↓wbD, wbU, ↓aop, ↓reduceIte, Nat.reduceEqDiff, Nat.reduceLT, reduceCtorEq, goInt, pairs, vcells, nil_ptr ty45 rfl, Option.isNone_none]
    exact x1
  · have g1 : (H.alloc (.cells [.int .i64 id] true 0)).get e = .cells [.pointer none, .slice none 0 0] true 0 := by rw [x1.get _ he]; exact hg
    simp (disch := first | assumption | simp) only [↓wbD, wbU, ↓aop, ↓reduceIte, Nat.reduceEqDiff, Nat.reduceLT, reduceCtorEq, goInt, pairs, vcells, nil_ptr ty45 rfl, Option.isNone_some, fa52_1, Nat.zero_add, ld_cell ty50 rfl g1, e0c1, List.map_toArray]
    refine (spec66 (F := []) OwnC.nil (by simp) z1 (by omega)).mono ?_
    rintro r H2 ⟨rfl, x2⟩
    simp (disch := first | assumption | simp) only [↓wbD, wbU, ↓aop, ↓reduceIte, Nat.reduceEqDiff, Nat.reduceLT, reduceCtorEq, goInt, pairs]
    exact ⟨rfl, x1.trans x2⟩
theorem spec30x {H : AHeap} {x : Value} {t id rs : Int} (h : Nob H x) : CallW E 30 [x, .agg (pkV t id rs).toArray] H fun r H' => ∃ code : Int, r = .tuple #[.int .i64 code, .agg (m0.v (.slice none 0 0)).toArray] ∧ (code = 0 ∨ code = 5) ∧ Ext H H' := by
  refine call30 (by simp) ?_
  simp only [strip, bodyOf, Try.f30, getD_body, keepN, bareOp_mk, lessOp_mk, lapp_cons, lapp_nil, List.map_cons, List.map_nil, array_toList, ↓reduceIte, Nat.reduceEqDiff, Bool.false_eq_true]
  have hv : vcells (.agg (pkV t id rs).toArray) = pkV t id rs := rfl
  have p0 : (pkV t id rs)[0]? = some (.int .i64 t) := rfl
  have p1 : (pkV t id rs)[1]? = some (.int .i64 id) := rfl
  have z1 : ((H.alloc (.cells (pkV t id rs) true 0)).alloc (.cells (m0.v (.slice none 0 0)) true 0)).get H.size = .cells (pkV t id rs) true 0 := by rw [AHeap.get_alloc_ne _ _ (by rw [AHeap.size_alloc]; omega)]; exact AHeap.get_alloc_same _ _
  have y1 : ((H.alloc (.cells (pkV t id rs) true 0)).alloc (.cells (m0.v (.slice none 0 0)) true 0)).get (H.size + 1) = .cells (m0.v (.slice none 0 0)) true 0 := AHeap.get_alloc_same _ _
  have x1 : Ext H ((H.alloc (.cells (pkV t id rs) true 0)).alloc (.cells (m0.v (.slice none 0 0)) true 0)) := (Ext.alloc _ _).trans (Ext.alloc _ _)
  have s0 : (H.alloc (.cells (pkV t id rs) true 0)).size = H.size + 1 := AHeap.size_alloc _ _
  have s1 : ((H.alloc (.cells (pkV t id rs) true 0)).alloc (.cells (m0.v (.slice none 0 0)) true 0)).size = H.size + 2 := by rw [AHeap.size_alloc, s0]
  generalize hG_P : pkV t id rs = P at *
  generalize hH1 : (H.alloc (.cells P true 0)).alloc (.cells (m0.v (.slice none 0 0)) true 0) = H1 at *
  simp (disch := first | assumption | simp) only [↓wbD, wbU, ↓aop, ↓reduceIte, Nat.reduceEqDiff, Nat.reduceLT, reduceCtorEq, goInt, pairs, hG_P, hv, s0, zero31m, hH1, fa40_1, Nat.zero_add, ld_cell ty3 rfl z1, p1]
  refine (spec57x (h.ext x1)).mono ?_
  rintro r H2 ⟨rfl, x2⟩
  have s2 := x2.size
  have z2 : H2.get H.size = .cells P true 0 := by rw [x2.get _ (by omega)]; exact z1
  have y2 : H2.get (H.size + 1) = .cells (m0.v (.slice none 0 0)) true 0 := by rw [x2.get _ (by omega)]; exact y1
  simp (disch := first | assumption | simp) only [↓wbD, wbU, ↓aop, ↓reduceIte, Nat.reduceEqDiff, Nat.reduceLT, reduceCtorEq, goInt, pairs, hG_P, fa40_0, Nat.zero_add, ld_cell ty3 rfl z2, p0]
  refine spec58.mono ?_
  rintro r H2 ⟨rfl, rfl⟩
  simp (disch := first | assumption | simp) only [↓wbD, wbU, ↓aop, ↓reduceIte, Nat.reduceEqDiff, Nat.reduceLT, reduceCtorEq, goInt, pairs, hG_P]
  refine drawQ_of (fl := [(5, 3)]) (by kernel_rfl) ⟨?_, _, _, rfl, ?_⟩
  · simp only [List.all_cons, List.all_nil, floatOk, List.getElem?_cons_succ, List.getElem?_cons_zero, List.getElem?_toArray, Region.wanted, Bool.not_true, Bool.false_or, reads, looksWeak, aev_tmp, aev_const, upd_at, ↓reduceIte, Nat.reduceEqDiff, Nat.reduceLT, Nat.reduceAdd, ofL_zero, ofL_succ, blkOf, oeq_refl, oeq_of, Bool.and_true, Bool.and_self, Bool.false_eq_true, z1, z2, Bool.or_true]
  have hst0 := st31 (sl := .slice none 0 0) (m := m0) y2 rfl rfl
  have hld0 := ld31 (AHeap.get_set_same H2 (H.size + 1) (.cells (m0.v (.slice none 0 0)) true 0))
  have x3 : Ext H (H2.set (H.size + 1) (.cells (m0.v (.slice none 0 0)) true 0)) := ⟨by rw [AHeap.size_set]; omega, fun b hb => by rw [AHeap.get_set_ne _ _ (by omega), x2.get _ (by omega)]; exact x1.get b hb⟩
  have hlt : (-1 : Int) < 0 := by decide
  by_cases ha : awaitsF t = 0
  · simp (disch := first | assumption | simp) only [↓wbD, wbU, ↓aop, ↓reduceIte, Nat.reduceEqDiff, Nat.reduceLT, reduceCtorEq, goInt, pairs, hG_P, ha, decide_true, build31m, hst0, hld0]
    exact ⟨5, rfl, .inr rfl, x3⟩
  · simp (disch := first | assumption | simp) only [↓wbD, wbU, ↓aop, ↓reduceIte, Nat.reduceEqDiff, Nat.reduceLT, reduceCtorEq, goInt, pairs, hG_P, ha, decide_false, hlt, decide_true, build31m, hst0, hld0]
    exact ⟨0, rfl, .inl rfl, x3⟩
theorem spec39x {H : AHeap} {x : Value} (h : Nob H x) : CallW E 39 [x] H fun r H' => r = .int .i64 0 ∧ H' = H := by
  refine call39 (by simp) ?_
  simp only [strip, bodyOf, Try.f39, getD_body, keepN, bareOp_mk, lessOp_mk, lapp_cons, lapp_nil, List.map_cons, List.map_nil, array_toList, ↓reduceIte, Nat.reduceEqDiff, Bool.false_eq_true]
  rcases h with rfl | ⟨e, rfl, hg, he⟩
  · simp (disch := first | assumption | simp) only [↓wbD, wbU, ↓aop, ↓reduceIte, Nat.reduceEqDiff, Nat.reduceLT, reduceCtorEq, goInt, pairs, nil_ptr ty45 rfl, Option.isNone_none]
  · simp (disch := first | assumption | simp) only [↓wbD, wbU, ↓aop, ↓reduceIte, Nat.reduceEqDiff, Nat.reduceLT, reduceCtorEq, goInt, pairs, nil_ptr ty45 rfl, Option.isNone_some, fa52_1, Nat.zero_add, ld_cell ty50 rfl hg, e0c1, len_nil ty50]
theorem spec38x {H : AHeap} {x : Value} (h : Nob H x) : CallW E 38 [x] H fun r H' => r = .slice none 0 0 ∧ H' = H := by
  refine call38 (by simp) ?_
  simp only [strip, bodyOf, Try.f38, getD_body, keepN, bareOp_mk, lessOp_mk, lapp_cons, lapp_nil, List.map_cons, List.map_nil, array_toList, ↓reduceIte, Nat.reduceEqDiff, Bool.false_eq_true]
  rcases h with rfl | ⟨e, rfl, hg, he⟩
  · simp (disch := first | assumption | simp) only [↓wbD, wbU, ↓aop, ↓reduceIte, Nat.reduceEqDiff, Nat.reduceLT, reduceCtorEq, goInt, pairs, nil_ptr ty45 rfl, Option.isNone_none]
  · simp (disch := first | assumption | simp) only [↓wbD, wbU, ↓aop, ↓reduceIte, Nat.reduceEqDiff, Nat.reduceLT, reduceCtorEq, goInt, pairs, nil_ptr ty45 rfl, Option.isNone_some, fa52_1, Nat.zero_add, ld_cell ty50 rfl hg, e0c1]
    refine call62 (by simp) ?_
    simp only [strip, bodyOf, Try.f62, getD_body, keepN, bareOp_mk, lessOp_mk, lapp_cons, lapp_nil, List.map_cons, List.map_nil, array_toList, ↓reduceIte, Nat.reduceEqDiff, Bool.false_eq_true]
    simp (disch := first | assumption | simp) only [↓wbD, wbU, ↓aop, ↓reduceIte, Nat.reduceEqDiff, Nat.reduceLT, reduceCtorEq, goInt, pairs, nil_slice ty50 rfl, Option.isNone_none]
theorem spec35x {H : AHeap} {x : Value} (h : Nob H x) : CallW E 35 [x] H fun r H' => r = .slice none 0 0 ∧ H' = H := by
  refine call35 (by simp) ?_
  simp only [strip, bodyOf, Try.f35, getD_body, keepN, bareOp_mk, lessOp_mk, lapp_cons, lapp_nil, List.map_cons, List.map_nil, array_toList, ↓reduceIte, Nat.reduceEqDiff, Bool.false_eq_true]
  simp (disch := first | assumption | simp) only [↓wbD, wbU, ↓aop, ↓reduceIte, Nat.reduceEqDiff, Nat.reduceLT, reduceCtorEq, goInt, pairs]
  refine w_loop ?_
  simp (disch := first | assumption | simp) only [↓wbD, wbU, ↓aop, ↓reduceIte, Nat.reduceEqDiff, Nat.reduceLT, reduceCtorEq, goInt, pairs]
  refine (spec39x h).mono ?_
  rintro r H ⟨rfl, rfl⟩
  simp (disch := first | assumption | simp) only [↓wbD, wbU, ↓aop, ↓reduceIte, Nat.reduceEqDiff, Nat.reduceLT, reduceCtorEq, goInt, pairs, Int.lt_irrefl, decide_false]
theorem spec41x {H : AHeap} {x : Value} (h : Nob H x) : CallW E 41 [x] H fun r H' => r = .slice none 0 0 ∧ H' = H := by
  refine call41 (by simp) ?_
  simp only [strip, bodyOf, Try.f41, getD_body, keepN, bareOp_mk, lessOp_mk, lapp_cons, lapp_nil, List.map_cons, List.map_nil, array_toList, ↓reduceIte, Nat.reduceEqDiff, Bool.false_eq_true]
  simp (disch := first | assumption | simp) only [↓wbD, wbU, ↓aop, ↓reduceIte, Nat.reduceEqDiff, Nat.reduceLT, reduceCtorEq, goInt, pairs]
  refine (spec38x h).mono ?_
  rintro r H ⟨rfl, rfl⟩
  simp (disch := first | assumption | simp) only [↓wbD, wbU, ↓aop, ↓reduceIte, Nat.reduceEqDiff, Nat.reduceLT, reduceCtorEq, goInt, pairs, len_nil ty50]
  refine w_loop ?_
  simp (disch := first | assumption | simp) only [↓wbD, wbU, ↓aop, ↓reduceIte, Nat.reduceEqDiff, Nat.reduceLT, reduceCtorEq, goInt, pairs, Int.lt_irrefl, decide_false]
end Go.Proofs.Ytlmcjfnignbdoaa.Abs
