/-
  A part of a law's proof.
-/
import Derived.Test.YtlmcjfnignbdoaaAPf
namespace Go.Proofs.Ytlmcjfnignbdoaa.Abs
open Go AbsYtlmcjfnignbdoaa
set_option maxRecDepth 100000
set_option maxHeartbeats 2000000
set_option linter.unusedSimpArgs false
theorem bool_neqP {H : AHeap} {cs a : Bool} : abin E H .neq 4 cs (.bool a) (.bool a) = some (.bool false) := by
  simp [abin, nonNum, eqAsk, aeq, ty4]
theorem str_neqP {H : AHeap} {t : Nat} {cs : Bool} {a : ByteArray} : abin E H .neq t cs (.string a) (.string a) = some (.bool false) := by
  simp [abin, astr]
def gpV (kd id qos : Int) (dup rt : Bool) (t p : ByteArray) (sl : Value) : List Value :=
  [.int .i64 kd, .int .i64 id, .int .i64 0, sl, .bool false, .int .i64 0, .string ⟨#[]⟩, .bool false, .string ⟨#[]⟩, .string ⟨#[]⟩, .int .i64 0, .bool false, .slice none 0 0, .bool false, .string ⟨#[]⟩, .bool false, .string ⟨#[]⟩, .bool false,
    .string t, .string p, .int .i64 qos, .bool rt, .bool dup, .slice none 0 0, .slice none 0 0, .slice none 0 0]
theorem spec22g {t p : ByteArray} {kd id qos : Int} {rt dup : Bool} {sl sl' : Value} {n : Nat} {cs : List Value} {H : AHeap} (h : SliceAt H 4 sl n cs) (h' : SliceAt H 4 sl' n cs) (hp : PropCells cs) (hn : n ≤ 70) :
    CallW E 22 [.agg (gpV kd id qos dup rt t p sl).toArray, .agg (gpV kd id qos dup rt t p sl').toArray] H fun r H' => r = .bool true ∧ Ext H H' := by
  refine call22 (by simp) ?_
  simp only [strip, bodyOf, Try.f22, getD_body, keepN, bareOp_mk, lessOp_mk, lapp_cons, lapp_nil, List.map_cons, List.map_nil, array_toList, ↓reduceIte, Nat.reduceEqDiff, Bool.false_eq_true]
  have hx : Ext H ((H.alloc (.cells (gpV kd id qos dup rt t p sl) true 0)).alloc (.cells (gpV kd id qos dup rt t p sl') true 0)) := (Ext.alloc _ _).trans (Ext.alloc _ _)
  have hg : ((H.alloc (.cells (gpV kd id qos dup rt t p sl) true 0)).alloc (.cells (gpV kd id qos dup rt t p sl') true 0)).get H.size = .cells (gpV kd id qos dup rt t p sl) true 0 := by rw [get_alloc, if_neg (by simp [AHeap.size_alloc])]; exact AHeap.get_alloc_same _ _
  have hg' : ((H.alloc (.cells (gpV kd id qos dup rt t p sl) true 0)).alloc (.cells (gpV kd id qos dup rt t p sl') true 0)).get (H.alloc (.cells (gpV kd id qos dup rt t p sl) true 0)).size = .cells (gpV kd id qos dup rt t p sl') true 0 := AHeap.get_alloc_same _ _
  have hv : vcells (.agg (gpV kd id qos dup rt t p sl).toArray) = gpV kd id qos dup rt t p sl := rfl
  have hv' : vcells (.agg (gpV kd id qos dup rt t p sl').toArray) = gpV kd id qos dup rt t p sl' := rfl
  have w : ((gpV kd id qos dup rt t p sl).drop 7).take 6 = willV := rfl
  have w' : ((gpV kd id qos dup rt t p sl').drop 7).take 6 = willV := rfl
  have hl : (gpV kd id qos dup rt t p sl).length = 26 := rfl
  have hl' : (gpV kd id qos dup rt t p sl').length = 26 := rfl
  have m0 : (gpV kd id qos dup rt t p sl)[0]? = some (.int .i64 kd) := rfl
  have mn0 : (gpV kd id qos dup rt t p sl')[0]? = some (.int .i64 kd) := rfl
  have m1 : (gpV kd id qos dup rt t p sl)[1]? = some (.int .i64 id) := rfl
  have mn1 : (gpV kd id qos dup rt t p sl')[1]? = some (.int .i64 id) := rfl
  have m2 : (gpV kd id qos dup rt t p sl)[2]? = some (.int .i64 0) := rfl
  have mn2 : (gpV kd id qos dup rt t p sl')[2]? = some (.int .i64 0) := rfl
  have m3 : (gpV kd id qos dup rt t p sl)[3]? = some (sl) := rfl
  have mn3 : (gpV kd id qos dup rt t p sl')[3]? = some (sl') := rfl
  have m4 : (gpV kd id qos dup rt t p sl)[4]? = some (.bool false) := rfl
  have mn4 : (gpV kd id qos dup rt t p sl')[4]? = some (.bool false) := rfl
  have m5 : (gpV kd id qos dup rt t p sl)[5]? = some (.int .i64 0) := rfl
  have mn5 : (gpV kd id qos dup rt t p sl')[5]? = some (.int .i64 0) := rfl
  have m6 : (gpV kd id qos dup rt t p sl)[6]? = some (.string ⟨#[]⟩) := rfl
  have mn6 : (gpV kd id qos dup rt t p sl')[6]? = some (.string ⟨#[]⟩) := rfl
  have m7 : (gpV kd id qos dup rt t p sl)[7]? = some (.bool false) := rfl
  have mn7 : (gpV kd id qos dup rt t p sl')[7]? = some (.bool false) := rfl
  have m8 : (gpV kd id qos dup rt t p sl)[8]? = some (.string ⟨#[]⟩) := rfl
  have mn8 : (gpV kd id qos dup rt t p sl')[8]? = some (.string ⟨#[]⟩) := rfl
  have m9 : (gpV kd id qos dup rt t p sl)[9]? = some (.string ⟨#[]⟩) := rfl
  have mn9 : (gpV kd id qos dup rt t p sl')[9]? = some (.string ⟨#[]⟩) := rfl
  have m10 : (gpV kd id qos dup rt t p sl)[10]? = some (.int .i64 0) := rfl
  have mn10 : (gpV kd id qos dup rt t p sl')[10]? = some (.int .i64 0) := rfl
  have m11 : (gpV kd id qos dup rt t p sl)[11]? = some (.bool false) := rfl
  have mn11 : (gpV kd id qos dup rt t p sl')[11]? = some (.bool false) := rfl
  have m12 : (gpV kd id qos dup rt t p sl)[12]? = some (.slice none 0 0) := rfl
  have mn12 : (gpV kd id qos dup rt t p sl')[12]? = some (.slice none 0 0) := rfl
  have m13 : (gpV kd id qos dup rt t p sl)[13]? = some (.bool false) := rfl
  have mn13 : (gpV kd id qos dup rt t p sl')[13]? = some (.bool false) := rfl
  have m14 : (gpV kd id qos dup rt t p sl)[14]? = some (.string ⟨#[]⟩) := rfl
  have mn14 : (gpV kd id qos dup rt t p sl')[14]? = some (.string ⟨#[]⟩) := rfl
  have m15 : (gpV kd id qos dup rt t p sl)[15]? = some (.bool false) := rfl
  have mn15 : (gpV kd id qos dup rt t p sl')[15]? = some (.bool false) := rfl
  have m16 : (gpV kd id qos dup rt t p sl)[16]? = some (.string ⟨#[]⟩) := rfl
  have mn16 : (gpV kd id qos dup rt t p sl')[16]? = some (.string ⟨#[]⟩) := rfl
  have m17 : (gpV kd id qos dup rt t p sl)[17]? = some (.bool false) := rfl
  have mn17 : (gpV kd id qos dup rt t p sl')[17]? = some (.bool false) := rfl
  have m18 : (gpV kd id qos dup rt t p sl)[18]? = some (.string t) := rfl
  have mn18 : (gpV kd id qos dup rt t p sl')[18]? = some (.string t) := rfl
  have m19 : (gpV kd id qos dup rt t p sl)[19]? = some (.string p) := rfl
  have mn19 : (gpV kd id qos dup rt t p sl')[19]? = some (.string p) := rfl
  have m20 : (gpV kd id qos dup rt t p sl)[20]? = some (.int .i64 qos) := rfl
  have mn20 : (gpV kd id qos dup rt t p sl')[20]? = some (.int .i64 qos) := rfl
  have m21 : (gpV kd id qos dup rt t p sl)[21]? = some (.bool rt) := rfl
  have mn21 : (gpV kd id qos dup rt t p sl')[21]? = some (.bool rt) := rfl
  have m22 : (gpV kd id qos dup rt t p sl)[22]? = some (.bool dup) := rfl
  have mn22 : (gpV kd id qos dup rt t p sl')[22]? = some (.bool dup) := rfl
  have m23 : (gpV kd id qos dup rt t p sl)[23]? = some (.slice none 0 0) := rfl
  have mn23 : (gpV kd id qos dup rt t p sl')[23]? = some (.slice none 0 0) := rfl
  have m24 : (gpV kd id qos dup rt t p sl)[24]? = some (.slice none 0 0) := rfl
  have mn24 : (gpV kd id qos dup rt t p sl')[24]? = some (.slice none 0 0) := rfl
  have m25 : (gpV kd id qos dup rt t p sl)[25]? = some (.slice none 0 0) := rfl
  have mn25 : (gpV kd id qos dup rt t p sl')[25]? = some (.slice none 0 0) := rfl
  generalize hG_M : gpV kd id qos dup rt t p sl = M at *
  generalize hG_N : gpV kd id qos dup rt t p sl' = N at *
  have l36 := ld_agg (E := E) ty36 rfl hg (o := 7) (show 7 + 6 ≤ M.length by omega)
  have l36q := ld_agg (E := E) ty36 rfl hg' (o := 7) (show 7 + 6 ≤ N.length by omega)
  rw [show (⟨_, _, _, _, _⟩ : TI).size = 6 from rfl] at l36 l36q
  rw [w] at l36
  rw [w'] at l36q
  simp (disch := first | assumption | simp) only [↓wbD, wbU, ↓aop, ↓reduceIte, Nat.reduceEqDiff, Nat.reduceLT, reduceCtorEq, goInt, pairs, hG_M, hG_N, m0, mn0, m1, mn1, m2, mn2, m3, mn3, m4, mn4, m5, mn5, m6, mn6, m7, mn7, m8, mn8, m9, mn9, m10, mn10, m11, mn11, m12, mn12, m13, mn13, m14, mn14, m15, mn15, m16, mn16, m17, mn17, m18, mn18, m19, mn19, m20, mn20, m21, mn21, m22, mn22, m23, mn23, m24, mn24, m25, mn25, fa40_0, fa40_1, fa40_2, fa40_3, fa40_4, fa40_5, fa40_6, fa40_7, fa40_8, fa40_9, fa40_10, fa40_11, fa40_12, fa40_13, fa40_14, fa40_15, fa40_16, fa40_17, fa40_18, fa40_19, fa40_20, hv, hv', Nat.zero_add, l36, l36q, ld_cell ty4 rfl hg, ld_cell ty4 rfl hg', ld_cell ty9 rfl hg, ld_cell ty9 rfl hg', ld_cell ty3 rfl hg, ld_cell ty3 rfl hg', ld_cell ty29 rfl hg, ld_cell ty29 rfl hg', ld_cell ty37 rfl hg, ld_cell ty37 rfl hg', ld_cell ty38 rfl hg, ld_cell ty38 rfl hg', ld_cell ty27 rfl hg, ld_cell ty27 rfl hg', bool_eql, str_eql, bool_neqP, str_neqP, decide_true, decide_false, beq_self_eq_true, Bool.false_eq_true]
  refine (spec48 (h.ext hx) (h'.ext hx) hp hn).mono ?_
  rintro r H2 ⟨rfl, rfl⟩
  simp (disch := first | assumption | simp) only [↓wbD, wbU, ↓aop, ↓reduceIte, Nat.reduceEqDiff, Nat.reduceLT, reduceCtorEq, goInt, pairs, hG_M, hG_N, m0, mn0, m1, mn1, m2, mn2, m3, mn3, m4, mn4, m5, mn5, m6, mn6, m7, mn7, m8, mn8, m9, mn9, m10, mn10, m11, mn11, m12, mn12, m13, mn13, m14, mn14, m15, mn15, m16, mn16, m17, mn17, m18, mn18, m19, mn19, m20, mn20, m21, mn21, m22, mn22, m23, mn23, m24, mn24, m25, mn25, fa40_0, fa40_1, fa40_2, fa40_3, fa40_4, fa40_5, fa40_6, fa40_7, fa40_8, fa40_9, fa40_10, fa40_11, fa40_12, fa40_13, fa40_14, fa40_15, fa40_16, fa40_17, fa40_18, fa40_19, fa40_20, hv, hv', Nat.zero_add, l36, l36q, ld_cell ty4 rfl hg, ld_cell ty4 rfl hg', ld_cell ty9 rfl hg, ld_cell ty9 rfl hg', ld_cell ty3 rfl hg, ld_cell ty3 rfl hg', ld_cell ty29 rfl hg, ld_cell ty29 rfl hg', ld_cell ty37 rfl hg, ld_cell ty37 rfl hg', ld_cell ty38 rfl hg, ld_cell ty38 rfl hg', ld_cell ty27 rfl hg, ld_cell ty27 rfl hg', bool_eql, str_eql, bool_neqP, str_neqP, decide_true, decide_false, beq_self_eq_true, Bool.false_eq_true]
  refine spec49.mono ?_
  rintro r H3 ⟨rfl, he⟩
  have hb : H.size < ((H.alloc (.cells M true 0)).alloc (.cells N true 0)).size := by simp [AHeap.size_alloc]; omega
  have hb' : (H.alloc (.cells M true 0)).size < ((H.alloc (.cells M true 0)).alloc (.cells N true 0)).size := by simp [AHeap.size_alloc]
  have hk : H3.get H.size = .cells M true 0 := by rw [he.get _ hb]; exact hg
  have hk' : H3.get (H.alloc (.cells M true 0)).size = .cells N true 0 := by rw [he.get _ hb']; exact hg' 
  simp (disch := first | assumption | simp) only [↓wbD, wbU, ↓aop, ↓reduceIte, Nat.reduceEqDiff, Nat.reduceLT, reduceCtorEq, goInt, pairs, hG_M, hG_N, m0, mn0, m1, mn1, m2, mn2, m3, mn3, m4, mn4, m5, mn5, m6, mn6, m7, mn7, m8, mn8, m9, mn9, m10, mn10, m11, mn11, m12, mn12, m13, mn13, m14, mn14, m15, mn15, m16, mn16, m17, mn17, m18, mn18, m19, mn19, m20, mn20, m21, mn21, m22, mn22, m23, mn23, m24, mn24, m25, mn25, fa40_0, fa40_1, fa40_2, fa40_3, fa40_4, fa40_5, fa40_6, fa40_7, fa40_8, fa40_9, fa40_10, fa40_11, fa40_12, fa40_13, fa40_14, fa40_15, fa40_16, fa40_17, fa40_18, fa40_19, fa40_20, hv, hv', Nat.zero_add, ld_cell ty4 rfl hk, ld_cell ty4 rfl hk', ld_cell ty9 rfl hk, ld_cell ty9 rfl hk', ld_cell ty3 rfl hk, ld_cell ty3 rfl hk', ld_cell ty29 rfl hk, ld_cell ty29 rfl hk', ld_cell ty37 rfl hk, ld_cell ty37 rfl hk', ld_cell ty38 rfl hk, ld_cell ty38 rfl hk', ld_cell ty27 rfl hk, ld_cell ty27 rfl hk', bool_eql, str_eql, bool_neqP, str_neqP, decide_true, decide_false, beq_self_eq_true, Bool.false_eq_true]
  refine spec50.mono ?_
  rintro r H4 ⟨rfl, rfl⟩
  simp (disch := first | assumption | simp) only [↓wbD, wbU, ↓aop, ↓reduceIte, Nat.reduceEqDiff, Nat.reduceLT, reduceCtorEq, goInt, pairs, hG_M, hG_N, m0, mn0, m1, mn1, m2, mn2, m3, mn3, m4, mn4, m5, mn5, m6, mn6, m7, mn7, m8, mn8, m9, mn9, m10, mn10, m11, mn11, m12, mn12, m13, mn13, m14, mn14, m15, mn15, m16, mn16, m17, mn17, m18, mn18, m19, mn19, m20, mn20, m21, mn21, m22, mn22, m23, mn23, m24, mn24, m25, mn25, fa40_0, fa40_1, fa40_2, fa40_3, fa40_4, fa40_5, fa40_6, fa40_7, fa40_8, fa40_9, fa40_10, fa40_11, fa40_12, fa40_13, fa40_14, fa40_15, fa40_16, fa40_17, fa40_18, fa40_19, fa40_20, hv, hv', Nat.zero_add, ld_cell ty4 rfl hk, ld_cell ty4 rfl hk', ld_cell ty9 rfl hk, ld_cell ty9 rfl hk', ld_cell ty3 rfl hk, ld_cell ty3 rfl hk', ld_cell ty29 rfl hk, ld_cell ty29 rfl hk', ld_cell ty37 rfl hk, ld_cell ty37 rfl hk', ld_cell ty38 rfl hk, ld_cell ty38 rfl hk', ld_cell ty27 rfl hk, ld_cell ty27 rfl hk', bool_eql, str_eql, bool_neqP, str_neqP, decide_true, decide_false, beq_self_eq_true, Bool.false_eq_true]
  refine spec51.mono ?_
  rintro r H4 ⟨rfl, rfl⟩
  simp (disch := first | assumption | simp) only [↓wbD, wbU, ↓aop, ↓reduceIte, Nat.reduceEqDiff, Nat.reduceLT, reduceCtorEq, goInt, pairs, hG_M, hG_N, m0, mn0, m1, mn1, m2, mn2, m3, mn3, m4, mn4, m5, mn5, m6, mn6, m7, mn7, m8, mn8, m9, mn9, m10, mn10, m11, mn11, m12, mn12, m13, mn13, m14, mn14, m15, mn15, m16, mn16, m17, mn17, m18, mn18, m19, mn19, m20, mn20, m21, mn21, m22, mn22, m23, mn23, m24, mn24, m25, mn25, fa40_0, fa40_1, fa40_2, fa40_3, fa40_4, fa40_5, fa40_6, fa40_7, fa40_8, fa40_9, fa40_10, fa40_11, fa40_12, fa40_13, fa40_14, fa40_15, fa40_16, fa40_17, fa40_18, fa40_19, fa40_20, hv, hv', Nat.zero_add, ld_cell ty4 rfl hk, ld_cell ty4 rfl hk', ld_cell ty9 rfl hk, ld_cell ty9 rfl hk', ld_cell ty3 rfl hk, ld_cell ty3 rfl hk', ld_cell ty29 rfl hk, ld_cell ty29 rfl hk', ld_cell ty37 rfl hk, ld_cell ty37 rfl hk', ld_cell ty38 rfl hk, ld_cell ty38 rfl hk', ld_cell ty27 rfl hk, ld_cell ty27 rfl hk', bool_eql, str_eql, bool_neqP, str_neqP, decide_true, decide_false, beq_self_eq_true, Bool.false_eq_true]
  refine spec17.mono ?_
  rintro r H4 ⟨rfl, rfl⟩
  simp (disch := first | assumption | simp) only [↓wbD, wbU, ↓aop, ↓reduceIte, Nat.reduceEqDiff, Nat.reduceLT, reduceCtorEq, goInt, pairs, hG_M, hG_N, m0, mn0, m1, mn1, m2, mn2, m3, mn3, m4, mn4, m5, mn5, m6, mn6, m7, mn7, m8, mn8, m9, mn9, m10, mn10, m11, mn11, m12, mn12, m13, mn13, m14, mn14, m15, mn15, m16, mn16, m17, mn17, m18, mn18, m19, mn19, m20, mn20, m21, mn21, m22, mn22, m23, mn23, m24, mn24, m25, mn25, fa40_0, fa40_1, fa40_2, fa40_3, fa40_4, fa40_5, fa40_6, fa40_7, fa40_8, fa40_9, fa40_10, fa40_11, fa40_12, fa40_13, fa40_14, fa40_15, fa40_16, fa40_17, fa40_18, fa40_19, fa40_20, hv, hv', Nat.zero_add, ld_cell ty4 rfl hk, ld_cell ty4 rfl hk', ld_cell ty9 rfl hk, ld_cell ty9 rfl hk', ld_cell ty3 rfl hk, ld_cell ty3 rfl hk', ld_cell ty29 rfl hk, ld_cell ty29 rfl hk', ld_cell ty37 rfl hk, ld_cell ty37 rfl hk', ld_cell ty38 rfl hk, ld_cell ty38 rfl hk', ld_cell ty27 rfl hk, ld_cell ty27 rfl hk', bool_eql, str_eql, bool_neqP, str_neqP, decide_true, decide_false, beq_self_eq_true, Bool.false_eq_true]
  exact hx.trans he
end Go.Proofs.Ytlmcjfnignbdoaa.Abs
