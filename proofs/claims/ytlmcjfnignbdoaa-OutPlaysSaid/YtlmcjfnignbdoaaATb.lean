/-
  A part of a law's proof.
-/
import Derived.Test.YtlmcjfnignbdoaaATa
namespace Go.Proofs.Ytlmcjfnignbdoaa.Abs
open Go AbsYtlmcjfnignbdoaa
set_option maxRecDepth 100000
set_option linter.unusedSimpArgs false
/-- a message -/
def msgV (t p : ByteArray) (q : Int) (rt : Bool) (sl : Value) (fr : ByteArray) (un sq : Int) (g : ByteArray) : List Value := [.string t, .string p, .int .i64 q, .bool rt, sl, .string fr, .int .i64 un, .int .i64 sq, .string g]
theorem spec20 {t p fr g : ByteArray} {q un sq : Int} {rt : Bool} {sl : Value} {n : Nat} {cs : List Value} {H : AHeap} (h : SliceAt H 4 sl n cs) (hp : PropCells cs) :
    CallW E 20 [.agg (msgV t p q rt sl fr un sq g).toArray] H fun r H' => (∃ b, r = .bool b ∧ (b = true → n ≤ 70)) ∧ Ext H H' := by
  refine call20 (by simp) ?_
  simp only [strip, bodyOf, Try.f20, getD_body, keepN, bareOp_mk, lessOp_mk, lapp_cons, lapp_nil, List.map_cons, List.map_nil, array_toList, ↓reduceIte, Nat.reduceEqDiff, Bool.false_eq_true]
  have hg : (H.alloc (.cells (msgV t p q rt sl fr un sq g) true 0)).get H.size = .cells (msgV t p q rt sl fr un sq g) true 0 := AHeap.get_alloc_same _ _
  have hx : Ext H (H.alloc (.cells (msgV t p q rt sl fr un sq g) true 0)) := Ext.alloc _ _
  have m0 : (msgV t p q rt sl fr un sq g)[0]? = some (.string t) := rfl
  have m1 : (msgV t p q rt sl fr un sq g)[1]? = some (.string p) := rfl
  have m4 : (msgV t p q rt sl fr un sq g)[4]? = some sl := rfl
  have m5 : (msgV t p q rt sl fr un sq g)[5]? = some (.string fr) := rfl
  have m8 : (msgV t p q rt sl fr un sq g)[8]? = some (.string g) := rfl
  have hv : vcells (.agg (msgV t p q rt sl fr un sq g).toArray) = msgV t p q rt sl fr un sq g := rfl
  generalize msgV t p q rt sl fr un sq g = M at *
  generalize hH : H.alloc (.cells M true 0) = H1 at *
  by_cases h1 : (t.size : Int) ≤ 200
  · by_cases h2 : (p.size : Int) ≤ 200
    · by_cases h3 : (fr.size : Int) ≤ 100
      · by_cases h4 : (g.size : Int) ≤ 200
        · simp (disch := first | assumption | simp) only [↓wbD, wbU, ↓aop, ↓reduceIte, Nat.reduceEqDiff, Nat.reduceLT, reduceCtorEq, goInt, pairs, hv, hH, fa31_0, fa31_1, fa31_4, fa31_5, fa31_8, Nat.zero_add, ld_cell ty9 rfl hg, ld_cell ty29 rfl hg, len_str ty9, m0, m1, m4, m5, m8, h1, h2, h3, h4, decide_true, decide_false]
          refine (spec47 (h.ext hx) hp).mono ?_
          rintro r H' ⟨⟨b, rfl, hb⟩, rfl⟩
          simp (disch := first | assumption | simp) only [↓wbD, wbU, ↓aop, ↓reduceIte, Nat.reduceEqDiff, Nat.reduceLT, reduceCtorEq, goInt, pairs, decide_true]
          exact ⟨⟨b, rfl, hb⟩, hx⟩
        · simp (disch := first | assumption | simp) only [↓wbD, wbU, ↓aop, ↓reduceIte, Nat.reduceEqDiff, Nat.reduceLT, reduceCtorEq, goInt, pairs, hv, hH, fa31_0, fa31_1, fa31_4, fa31_5, fa31_8, Nat.zero_add, ld_cell ty9 rfl hg, ld_cell ty29 rfl hg, len_str ty9, m0, m1, m4, m5, m8, h1, h2, h3, h4, decide_true, decide_false, Bool.false_eq_true]
          exact ⟨⟨false, rfl, by simp⟩, hx⟩
      · simp (disch := first | assumption | simp) only [↓wbD, wbU, ↓aop, ↓reduceIte, Nat.reduceEqDiff, Nat.reduceLT, reduceCtorEq, goInt, pairs, hv, hH, fa31_0, fa31_1, fa31_4, fa31_5, fa31_8, Nat.zero_add, ld_cell ty9 rfl hg, ld_cell ty29 rfl hg, len_str ty9, m0, m1, m4, m5, m8, h1, h2, h3, decide_true, decide_false, Bool.false_eq_true]
        exact ⟨⟨false, rfl, by simp⟩, hx⟩
    · simp (disch := first | assumption | simp) only [↓wbD, wbU, ↓aop, ↓reduceIte, Nat.reduceEqDiff, Nat.reduceLT, reduceCtorEq, goInt, pairs, hv, hH, fa31_0, fa31_1, fa31_4, fa31_5, fa31_8, Nat.zero_add, ld_cell ty9 rfl hg, ld_cell ty29 rfl hg, len_str ty9, m0, m1, m4, m5, m8, h1, h2, decide_true, decide_false, Bool.false_eq_true]
      exact ⟨⟨false, rfl, by simp⟩, hx⟩
  · simp (disch := first | assumption | simp) only [↓wbD, wbU, ↓aop, ↓reduceIte, Nat.reduceEqDiff, Nat.reduceLT, reduceCtorEq, goInt, pairs, hv, hH, fa31_0, fa31_1, fa31_4, fa31_5, fa31_8, Nat.zero_add, ld_cell ty9 rfl hg, ld_cell ty29 rfl hg, len_str ty9, m0, m1, m4, m5, m8, h1, decide_true, decide_false, Bool.false_eq_true]
    exact ⟨⟨false, rfl, by simp⟩, hx⟩
end Go.Proofs.Ytlmcjfnignbdoaa.Abs
