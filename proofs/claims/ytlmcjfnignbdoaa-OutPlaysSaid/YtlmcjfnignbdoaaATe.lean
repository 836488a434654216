/-
  A part of a law's proof.
-/
import Derived.Test.YtlmcjfnignbdoaaATd
namespace Go.Proofs.Ytlmcjfnignbdoaa.Abs
open Go AbsYtlmcjfnignbdoaa
set_option maxRecDepth 100000
set_option linter.unusedSimpArgs false
theorem nilAt (H : AHeap) (sz : Nat) : SliceAt H sz (.slice none 0 0) 0 [] := ⟨by simp, .inl ⟨rfl, rfl⟩⟩
theorem len_nil {H : AHeap} {t e : Nat} {ts : List Nat} {a b : Nat} {z : Option (List ZV)} {q : Bool} (ht : E.ty.get t = some ⟨.slice e, a, b, z, q⟩) : abuiltin E H .len (t :: ts) [.slice none 0 0] = some (.int .i64 0, H) := by
  simp [abuiltin, ht, goInt]
theorem spec50 {H : AHeap} : CallW E 50 [.slice none 0 0, .slice none 0 0] H fun r H' => r = .bool true ∧ H' = H := by
  refine call50 (by simp) ?_
  simp only [strip, bodyOf, Try.f50, getD_body, keepN, bareOp_mk, lessOp_mk, lapp_cons, lapp_nil, List.map_cons, List.map_nil, array_toList, ↓reduceIte, Nat.reduceEqDiff, Bool.false_eq_true]
  simp (disch := first | assumption | simp) only [↓wbD, wbU, ↓aop, ↓reduceIte, Nat.reduceEqDiff, Nat.reduceLT, reduceCtorEq, goInt, pairs, len_nil ty37, decide_false]
  refine w_loop ?_
  simp (disch := first | assumption | simp) only [↓wbD, wbU, ↓aop, ↓reduceIte, Nat.reduceEqDiff, Nat.reduceLT, reduceCtorEq, goInt, pairs, len_nil ty37, decide_false, Int.lt_irrefl]
theorem spec51 {H : AHeap} : CallW E 51 [.slice none 0 0, .slice none 0 0] H fun r H' => r = .bool true ∧ H' = H := by
  refine call51 (by simp) ?_
  simp only [strip, bodyOf, Try.f51, getD_body, keepN, bareOp_mk, lessOp_mk, lapp_cons, lapp_nil, List.map_cons, List.map_nil, array_toList, ↓reduceIte, Nat.reduceEqDiff, Bool.false_eq_true]
  simp (disch := first | assumption | simp) only [↓wbD, wbU, ↓aop, ↓reduceIte, Nat.reduceEqDiff, Nat.reduceLT, reduceCtorEq, goInt, pairs, len_nil ty38, decide_false]
  refine w_loop ?_
  simp (disch := first | assumption | simp) only [↓wbD, wbU, ↓aop, ↓reduceIte, Nat.reduceEqDiff, Nat.reduceLT, reduceCtorEq, goInt, pairs, len_nil ty38, decide_false, Int.lt_irrefl]
theorem spec17 {H : AHeap} : CallW E 17 [.slice none 0 0, .slice none 0 0] H fun r H' => r = .bool true ∧ H' = H := by
  refine call17 (by simp) ?_
  simp only [strip, bodyOf, Try.f17, getD_body, keepN, bareOp_mk, lessOp_mk, lapp_cons, lapp_nil, List.map_cons, List.map_nil, array_toList, ↓reduceIte, Nat.reduceEqDiff, Bool.false_eq_true]
  simp (disch := first | assumption | simp) only [↓wbD, wbU, ↓aop, ↓reduceIte, Nat.reduceEqDiff, Nat.reduceLT, reduceCtorEq, goInt, pairs, len_nil ty27, decide_false]
  refine w_loop ?_
  simp (disch := first | assumption | simp) only [↓wbD, wbU, ↓aop, ↓reduceIte, Nat.reduceEqDiff, Nat.reduceLT, reduceCtorEq, goInt, pairs, len_nil ty27, decide_false, Int.lt_irrefl]
def willV : List Value := [.bool false, .string ⟨#[]⟩, .string ⟨#[]⟩, .int .i64 0, .bool false, .slice none 0 0]
theorem bool_eql {H : AHeap} {cs a b : Bool} : abin E H .eql 4 cs (.bool a) (.bool b) = some (.bool (a == b)) := by
  simp [abin, nonNum, eqAsk, aeq, ty4]
theorem str_eql {H : AHeap} {t : Nat} {cs : Bool} {a : ByteArray} : abin E H .eql t cs (.string a) (.string a) = some (.bool true) := by
  simp [abin, astr]
theorem spec49 {H : AHeap} : CallW E 49 [.agg willV.toArray, .agg willV.toArray] H fun r H' => r = .bool true ∧ Ext H H' := by
  refine call49 (by simp) ?_
  simp only [strip, bodyOf, Try.f49, getD_body, keepN, bareOp_mk, lessOp_mk, lapp_cons, lapp_nil, List.map_cons, List.map_nil, array_toList, ↓reduceIte, Nat.reduceEqDiff, Bool.false_eq_true]
  have hv : vcells (.agg willV.toArray) = willV := rfl
  have hg : ((H.alloc (.cells willV true 0)).alloc (.cells willV true 0)).get H.size = .cells willV true 0 := by rw [get_alloc, if_neg (by simp [AHeap.size_alloc])]; exact AHeap.get_alloc_same _ _
  have hg' : ((H.alloc (.cells willV true 0)).alloc (.cells willV true 0)).get (H.alloc (.cells willV true 0)).size = .cells willV true 0 := AHeap.get_alloc_same _ _
  have hx : Ext H ((H.alloc (.cells willV true 0)).alloc (.cells willV true 0)) := (Ext.alloc _ _).trans (Ext.alloc _ _)
  have m0 : willV[0]? = some (.bool false) := rfl
  have m1 : willV[1]? = some (.string ⟨#[]⟩) := rfl
  have m2 : willV[2]? = some (.string ⟨#[]⟩) := rfl
  have m3 : willV[3]? = some (.int .i64 0) := rfl
  have m4 : willV[4]? = some (.bool false) := rfl
  have m5 : willV[5]? = some (.slice none 0 0) := rfl
  generalize willV = M at *
  simp (disch := first | assumption | simp) only [↓wbD, wbU, ↓aop, ↓reduceIte, Nat.reduceEqDiff, Nat.reduceLT, reduceCtorEq, goInt, pairs, hv, fa36_0, fa36_1, fa36_2, fa36_3, fa36_4, fa36_5, Nat.zero_add, ld_cell ty4 rfl hg, ld_cell ty4 rfl hg', ld_cell ty9 rfl hg, ld_cell ty9 rfl hg', ld_cell ty3 rfl hg, ld_cell ty3 rfl hg', ld_cell ty29 rfl hg, ld_cell ty29 rfl hg', m0, m1, m2, m3, m4, m5, bool_eql, str_eql, decide_true, beq_self_eq_true]
  refine (spec48 (nilAt _ 4) (nilAt _ 4) trivial (by omega)).mono ?_
  rintro r H' ⟨rfl, rfl⟩
  simp (disch := first | assumption | simp) only [↓wbD, wbU, ↓aop, ↓reduceIte, Nat.reduceEqDiff, Nat.reduceLT, reduceCtorEq, goInt, pairs]
  exact hx
end Go.Proofs.Ytlmcjfnignbdoaa.Abs
