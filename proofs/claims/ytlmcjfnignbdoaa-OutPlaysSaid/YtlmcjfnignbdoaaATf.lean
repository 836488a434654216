/-
  A part of a law's proof.
-/
import Derived.Test.YtlmcjfnignbdoaaATe
namespace Go.Proofs.Ytlmcjfnignbdoaa.Abs
open Go AbsYtlmcjfnignbdoaa
set_option maxRecDepth 100000
set_option maxHeartbeats 2000000
set_option linter.unusedSimpArgs false
theorem bool_neq {H : AHeap} {cs a : Bool} : abin E H .neq 4 cs (.bool a) (.bool a) = some (.bool false) := by
  simp [abin, nonNum, eqAsk, aeq, ty4]
theorem str_neq {H : AHeap} {t : Nat} {cs : Bool} {a : ByteArray} : abin E H .neq t cs (.string a) (.string a) = some (.bool false) := by
  simp [abin, astr]
theorem spec22 {t p : ByteArray} {id qos : Int} {rt dup : Bool} {sl sl' : Value} {n : Nat} {cs : List Value} {H : AHeap} (h : SliceAt H 4 sl n cs) (h' : SliceAt H 4 sl' n cs) (hp : PropCells cs) (hn : n ≤ 70) :
    CallW E 22 [.agg (pubV id qos dup rt t p sl).toArray, .agg (pubV id qos dup rt t p sl').toArray] H fun r H' => r = .bool true ∧ Ext H H' := by
  refine call22 (by simp) ?_
  simp only [strip, bodyOf, Try.f22, getD_body, keepN, bareOp_mk, lessOp_mk, lapp_cons, lapp_nil, List.map_cons, List.map_nil, array_toList, ↓reduceIte, Nat.reduceEqDiff, Bool.false_eq_true]
  have hx : Ext H ((H.alloc (.cells (pubV id qos dup rt t p sl) true 0)).alloc (.cells (pubV id qos dup rt t p sl') true 0)) := (Ext.alloc _ _).trans (Ext.alloc _ _)
  have hg : ((H.alloc (.cells (pubV id qos dup rt t p sl) true 0)).alloc (.cells (pubV id qos dup rt t p sl') true 0)).get H.size = .cells (pubV id qos dup rt t p sl) true 0 := by rw [get_alloc, if_neg (by simp [AHeap.size_alloc])]; exact AHeap.get_alloc_same _ _
  have hg' : ((H.alloc (.cells (pubV id qos dup rt t p sl) true 0)).alloc (.cells (pubV id qos dup rt t p sl') true 0)).get (H.alloc (.cells (pubV id qos dup rt t p sl) true 0)).size = .cells (pubV id qos dup rt t p sl') true 0 := AHeap.get_alloc_same _ _
  have hv : vcells (.agg (pubV id qos dup rt t p sl).toArray) = pubV id qos dup rt t p sl := rfl
  have hv' : vcells (.agg (pubV id qos dup rt t p sl').toArray) = pubV id qos dup rt t p sl' := rfl
  have w : ((pubV id qos dup rt t p sl).drop 7).take 6 = willV := rfl
  have w' : ((pubV id qos dup rt t p sl').drop 7).take 6 = willV := rfl
  have hl : (pubV id qos dup rt t p sl).length = 26 := rfl
  have hl' : (pubV id qos dup rt t p sl').length = 26 := rfl
  have m0 : (pubV id qos dup rt t p sl)[0]? = some (.int .i64 3) := rfl
  have mn0 : (pubV id qos dup rt t p sl')[0]? = some (.int .i64 3) := rfl
  have m1 : (pubV id qos dup rt t p sl)[1]? = some (.int .i64 id) := rfl
  have mn1 : (pubV id qos dup rt t p sl')[1]? = some (.int .i64 id) := rfl
  have m2 : (pubV id qos dup rt t p sl)[2]? = some (.int .i64 0) := rfl
  have mn2 : (pubV id qos dup rt t p sl')[2]? = some (.int .i64 0) := rfl
  have m3 : (pubV id qos dup rt t p sl)[3]? = some (sl) := rfl
  have mn3 : (pubV id qos dup rt t p sl')[3]? = some (sl') := rfl
  have m4 : (pubV id qos dup rt t p sl)[4]? = some (.bool false) := rfl
  have mn4 : (pubV id qos dup rt t p sl')[4]? = some (.bool false) := rfl
  have m5 : (pubV id qos dup rt t p sl)[5]? = some (.int .i64 0) := rfl
  have mn5 : (pubV id qos dup rt t p sl')[5]? = some (.int .i64 0) := rfl
  have m6 : (pubV id qos dup rt t p sl)[6]? = some (.string ⟨#[]⟩) := rfl
  have mn6 : (pubV id qos dup rt t p sl')[6]? = some (.string ⟨#[]⟩) := rfl
  have m7 : (pubV id qos dup rt t p sl)[7]? = some (.bool false) := rfl
  have mn7 : (pubV id qos dup rt t p sl')[7]? = some (.bool false) := rfl
  have m8 : (pubV id qos dup rt t p sl)[8]? = some (.string ⟨#[]⟩) := rfl
  have mn8 : (pubV id qos dup rt t p sl')[8]? = some (.string ⟨#[]⟩) := rfl
  have m9 : (pubV id qos dup rt t p sl)[9]? = some (.string ⟨#[]⟩) := rfl
  have mn9 : (pubV id qos dup rt t p sl')[9]? = some (.string ⟨#[]⟩) := rfl
  have m10 : (pubV id qos dup rt t p sl)[10]? = some (.int .i64 0) := rfl
  have mn10 : (pubV id qos dup rt t p sl')[10]? = some (.int .i64 0) := rfl
  have m11 : (pubV id qos dup rt t p sl)[11]? = some (.bool false) := rfl
  have mn11 : (pubV id qos dup rt t p sl')[11]? = some (.bool false) := rfl
  have m12 : (pubV id qos dup rt t p sl)[12]? = some (.slice none 0 0) := rfl
  have mn12 : (pubV id qos dup rt t p sl')[12]? = some (.slice none 0 0) := rfl
  have m13 : (pubV id qos dup rt t p sl)[13]? = some (.bool false) := rfl
  have mn13 : (pubV id qos dup rt t p sl')[13]? = some (.bool false) := rfl
  have m14 : (pubV id qos dup rt t p sl)[14]? = some (.string ⟨#[]⟩) := rfl
  have mn14 : (pubV id qos dup rt t p sl')[14]? = some (.string ⟨#[]⟩) := rfl
  have m15 : (pubV id qos dup rt t p sl)[15]? = some (.bool false) := rfl
  have mn15 : (pubV id qos dup rt t p sl')[15]? = some (.bool false) := rfl
  have m16 : (pubV id qos dup rt t p sl)[16]? = some (.string ⟨#[]⟩) := rfl
  have mn16 : (pubV id qos dup rt t p sl')[16]? = some (.string ⟨#[]⟩) := rfl
  have m17 : (pubV id qos dup rt t p sl)[17]? = some (.bool false) := rfl
  have mn17 : (pubV id qos dup rt t p sl')[17]? = some (.bool false) := rfl
  have m18 : (pubV id qos dup rt t p sl)[18]? = some (.string t) := rfl
  have mn18 : (pubV id qos dup rt t p sl')[18]? = some (.string t) := rfl
  have m19 : (pubV id qos dup rt t p sl)[19]? = some (.string p) := rfl
  have mn19 : (pubV id qos dup rt t p sl')[19]? = some (.string p) := rfl
  have m20 : (pubV id qos dup rt t p sl)[20]? = some (.int .i64 qos) := rfl
  have mn20 : (pubV id qos dup rt t p sl')[20]? = some (.int .i64 qos) := rfl
  have m21 : (pubV id qos dup rt t p sl)[21]? = some (.bool rt) := rfl
  have mn21 : (pubV id qos dup rt t p sl')[21]? = some (.bool rt) := rfl
  have m22 : (pubV id qos dup rt t p sl)[22]? = some (.bool dup) := rfl
  have mn22 : (pubV id qos dup rt t p sl')[22]? = some (.bool dup) := rfl
  have m23 : (pubV id qos dup rt t p sl)[23]? = some (.slice none 0 0) := rfl
  have mn23 : (pubV id qos dup rt t p sl')[23]? = some (.slice none 0 0) := rfl
  have m24 : (pubV id qos dup rt t p sl)[24]? = some (.slice none 0 0) := rfl
  have mn24 : (pubV id qos dup rt t p sl')[24]? = some (.slice none 0 0) := rfl
  have m25 : (pubV id qos dup rt t p sl)[25]? = some (.slice none 0 0) := rfl
  have mn25 : (pubV id qos dup rt t p sl')[25]? = some (.slice none 0 0) := rfl
  generalize pubV id qos dup rt t p sl = M at *
  generalize pubV id qos dup rt t p sl' = N at *
  have l36 := ld_agg (E := E) ty36 rfl hg (o := 7) (show 7 + 6 ≤ M.length by omega)
  have l36q := ld_agg (E := E) ty36 rfl hg' (o := 7) (show 7 + 6 ≤ N.length by omega)
  rw [show (⟨_, _, _, _, _⟩ : TI).size = 6 from rfl] at l36 l36q
  rw [w] at l36
  rw [w'] at l36q
  simp (disch := first | assumption | simp) only [↓wbD, wbU, ↓aop, ↓reduceIte, Nat.reduceEqDiff, Nat.reduceLT, reduceCtorEq, goInt, pairs, m0, mn0, m1, mn1, m2, mn2, m3, mn3, m4, mn4, m5, mn5, m6, mn6, m7, mn7, m8, mn8, m9, mn9, m10, mn10, m11, mn11, m12, mn12, m13, mn13, m14, mn14, m15, mn15, m16, mn16, m17, mn17, m18, mn18, m19, mn19, m20, mn20, m21, mn21, m22, mn22, m23, mn23, m24, mn24, m25, mn25, fa40_0, fa40_1, fa40_2, fa40_3, fa40_4, fa40_5, fa40_6, fa40_7, fa40_8, fa40_9, fa40_10, fa40_11, fa40_12, fa40_13, fa40_14, fa40_15, fa40_16, fa40_17, fa40_18, fa40_19, fa40_20, hv, hv', Nat.zero_add, l36, l36q, ld_cell ty4 rfl hg, ld_cell ty4 rfl hg', ld_cell ty9 rfl hg, ld_cell ty9 rfl hg', ld_cell ty3 rfl hg, ld_cell ty3 rfl hg', ld_cell ty29 rfl hg, ld_cell ty29 rfl hg', ld_cell ty37 rfl hg, ld_cell ty37 rfl hg', ld_cell ty38 rfl hg, ld_cell ty38 rfl hg', ld_cell ty27 rfl hg, ld_cell ty27 rfl hg', bool_eql, str_eql, bool_neq, str_neq, decide_true, decide_false, beq_self_eq_true, Bool.false_eq_true]
  refine (spec48 (h.ext hx) (h'.ext hx) hp hn).mono ?_
  rintro r H2 ⟨rfl, rfl⟩
  simp (disch := first | assumption | simp) only [↓wbD, wbU, ↓aop, ↓reduceIte, Nat.reduceEqDiff, Nat.reduceLT, reduceCtorEq, goInt, pairs, m0, mn0, m1, mn1, m2, mn2, m3, mn3, m4, mn4, m5, mn5, m6, mn6, m7, mn7, m8, mn8, m9, mn9, m10, mn10, m11, mn11, m12, mn12, m13, mn13, m14, mn14, m15, mn15, m16, mn16, m17, mn17, m18, mn18, m19, mn19, m20, mn20, m21, mn21, m22, mn22, m23, mn23, m24, mn24, m25, mn25, fa40_0, fa40_1, fa40_2, fa40_3, fa40_4, fa40_5, fa40_6, fa40_7, fa40_8, fa40_9, fa40_10, fa40_11, fa40_12, fa40_13, fa40_14, fa40_15, fa40_16, fa40_17, fa40_18, fa40_19, fa40_20, hv, hv', Nat.zero_add, l36, l36q, ld_cell ty4 rfl hg, ld_cell ty4 rfl hg', ld_cell ty9 rfl hg, ld_cell ty9 rfl hg', ld_cell ty3 rfl hg, ld_cell ty3 rfl hg', ld_cell ty29 rfl hg, ld_cell ty29 rfl hg', ld_cell ty37 rfl hg, ld_cell ty37 rfl hg', ld_cell ty38 rfl hg, ld_cell ty38 rfl hg', ld_cell ty27 rfl hg, ld_cell ty27 rfl hg', bool_eql, str_eql, bool_neq, str_neq, decide_true, decide_false, beq_self_eq_true, Bool.false_eq_true]
  refine spec49.mono ?_
  rintro r H3 ⟨rfl, he⟩
  have hb : H.size < ((H.alloc (.cells M true 0)).alloc (.cells N true 0)).size := by simp [AHeap.size_alloc]; omega
  have hb' : (H.alloc (.cells M true 0)).size < ((H.alloc (.cells M true 0)).alloc (.cells N true 0)).size := by simp [AHeap.size_alloc]
  have hk : H3.get H.size = .cells M true 0 := by rw [he.get _ hb]; exact hg
  have hk' : H3.get (H.alloc (.cells M true 0)).size = .cells N true 0 := by rw [he.get _ hb']; exact hg' 
  simp (disch := first | assumption | simp) only [↓wbD, wbU, ↓aop, ↓reduceIte, Nat.reduceEqDiff, Nat.reduceLT, reduceCtorEq, goInt, pairs, m0, mn0, m1, mn1, m2, mn2, m3, mn3, m4, mn4, m5, mn5, m6, mn6, m7, mn7, m8, mn8, m9, mn9, m10, mn10, m11, mn11, m12, mn12, m13, mn13, m14, mn14, m15, mn15, m16, mn16, m17, mn17, m18, mn18, m19, mn19, m20, mn20, m21, mn21, m22, mn22, m23, mn23, m24, mn24, m25, mn25, fa40_0, fa40_1, fa40_2, fa40_3, fa40_4, fa40_5, fa40_6, fa40_7, fa40_8, fa40_9, fa40_10, fa40_11, fa40_12, fa40_13, fa40_14, fa40_15, fa40_16, fa40_17, fa40_18, fa40_19, fa40_20, hv, hv', Nat.zero_add, ld_cell ty4 rfl hk, ld_cell ty4 rfl hk', ld_cell ty9 rfl hk, ld_cell ty9 rfl hk', ld_cell ty3 rfl hk, ld_cell ty3 rfl hk', ld_cell ty29 rfl hk, ld_cell ty29 rfl hk', ld_cell ty37 rfl hk, ld_cell ty37 rfl hk', ld_cell ty38 rfl hk, ld_cell ty38 rfl hk', ld_cell ty27 rfl hk, ld_cell ty27 rfl hk', bool_eql, str_eql, bool_neq, str_neq, decide_true, decide_false, beq_self_eq_true, Bool.false_eq_true]
  refine spec50.mono ?_
  rintro r H4 ⟨rfl, rfl⟩
  simp (disch := first | assumption | simp) only [↓wbD, wbU, ↓aop, ↓reduceIte, Nat.reduceEqDiff, Nat.reduceLT, reduceCtorEq, goInt, pairs, m0, mn0, m1, mn1, m2, mn2, m3, mn3, m4, mn4, m5, mn5, m6, mn6, m7, mn7, m8, mn8, m9, mn9, m10, mn10, m11, mn11, m12, mn12, m13, mn13, m14, mn14, m15, mn15, m16, mn16, m17, mn17, m18, mn18, m19, mn19, m20, mn20, m21, mn21, m22, mn22, m23, mn23, m24, mn24, m25, mn25, fa40_0, fa40_1, fa40_2, fa40_3, fa40_4, fa40_5, fa40_6, fa40_7, fa40_8, fa40_9, fa40_10, fa40_11, fa40_12, fa40_13, fa40_14, fa40_15, fa40_16, fa40_17, fa40_18, fa40_19, fa40_20, hv, hv', Nat.zero_add, ld_cell ty4 rfl hk, ld_cell ty4 rfl hk', ld_cell ty9 rfl hk, ld_cell ty9 rfl hk', ld_cell ty3 rfl hk, ld_cell ty3 rfl hk', ld_cell ty29 rfl hk, ld_cell ty29 rfl hk', ld_cell ty37 rfl hk, ld_cell ty37 rfl hk', ld_cell ty38 rfl hk, ld_cell ty38 rfl hk', ld_cell ty27 rfl hk, ld_cell ty27 rfl hk', bool_eql, str_eql, bool_neq, str_neq, decide_true, decide_false, beq_self_eq_true, Bool.false_eq_true]
  refine spec51.mono ?_
  rintro r H4 ⟨rfl, rfl⟩
  simp (disch := first | assumption | simp) only [↓wbD, wbU, ↓aop, ↓reduceIte, Nat.reduceEqDiff, Nat.reduceLT, reduceCtorEq, goInt, pairs, m0, mn0, m1, mn1, m2, mn2, m3, mn3, m4, mn4, m5, mn5, m6, mn6, m7, mn7, m8, mn8, m9, mn9, m10, mn10, m11, mn11, m12, mn12, m13, mn13, m14, mn14, m15, mn15, m16, mn16, m17, mn17, m18, mn18, m19, mn19, m20, mn20, m21, mn21, m22, mn22, m23, mn23, m24, mn24, m25, mn25, fa40_0, fa40_1, fa40_2, fa40_3, fa40_4, fa40_5, fa40_6, fa40_7, fa40_8, fa40_9, fa40_10, fa40_11, fa40_12, fa40_13, fa40_14, fa40_15, fa40_16, fa40_17, fa40_18, fa40_19, fa40_20, hv, hv', Nat.zero_add, ld_cell ty4 rfl hk, ld_cell ty4 rfl hk', ld_cell ty9 rfl hk, ld_cell ty9 rfl hk', ld_cell ty3 rfl hk, ld_cell ty3 rfl hk', ld_cell ty29 rfl hk, ld_cell ty29 rfl hk', ld_cell ty37 rfl hk, ld_cell ty37 rfl hk', ld_cell ty38 rfl hk, ld_cell ty38 rfl hk', ld_cell ty27 rfl hk, ld_cell ty27 rfl hk', bool_eql, str_eql, bool_neq, str_neq, decide_true, decide_false, beq_self_eq_true, Bool.false_eq_true]
  refine spec17.mono ?_
  rintro r H4 ⟨rfl, rfl⟩
  simp (disch := first | assumption | simp) only [↓wbD, wbU, ↓aop, ↓reduceIte, Nat.reduceEqDiff, Nat.reduceLT, reduceCtorEq, goInt, pairs, m0, mn0, m1, mn1, m2, mn2, m3, mn3, m4, mn4, m5, mn5, m6, mn6, m7, mn7, m8, mn8, m9, mn9, m10, mn10, m11, mn11, m12, mn12, m13, mn13, m14, mn14, m15, mn15, m16, mn16, m17, mn17, m18, mn18, m19, mn19, m20, mn20, m21, mn21, m22, mn22, m23, mn23, m24, mn24, m25, mn25, fa40_0, fa40_1, fa40_2, fa40_3, fa40_4, fa40_5, fa40_6, fa40_7, fa40_8, fa40_9, fa40_10, fa40_11, fa40_12, fa40_13, fa40_14, fa40_15, fa40_16, fa40_17, fa40_18, fa40_19, fa40_20, hv, hv', Nat.zero_add, ld_cell ty4 rfl hk, ld_cell ty4 rfl hk', ld_cell ty9 rfl hk, ld_cell ty9 rfl hk', ld_cell ty3 rfl hk, ld_cell ty3 rfl hk', ld_cell ty29 rfl hk, ld_cell ty29 rfl hk', ld_cell ty37 rfl hk, ld_cell ty37 rfl hk', ld_cell ty38 rfl hk, ld_cell ty38 rfl hk', ld_cell ty27 rfl hk, ld_cell ty27 rfl hk', bool_eql, str_eql, bool_neq, str_neq, decide_true, decide_false, beq_self_eq_true, Bool.false_eq_true]
  exact hx.trans he
end Go.Proofs.Ytlmcjfnignbdoaa.Abs
