/-
  A part of a law's proof.
-/
import Derived.Test.YtlmcjfnignbdoaaDoorAAlb
namespace Go.Proofs.YtlmcjfnignbdoaaDoor.AbsA
open Go AbsYtlmcjfnignbdoaaDoor Abs
set_option maxRecDepth 100000
set_option linter.unusedSimpArgs false
set_option linter.unusedVariables false
theorem build22 {H : AHeap} {t : ByteArray} : abuildSlice E H 22 1 [(0, .string t)] = some (.slice (some ⟨H.size, 0, some 1⟩) 1 1, H.alloc (.cells [.string t] true 1)) := by
  simp [abuildSlice, ty22, ty9, azero, lfill, reps, splice, vcells, ZV.val]
/-- what a call of Name leaves -/
structure Named (H : AHeap) (ba : Nat) (m0 m : Int) (va : Value) (L : List ByteArray) (t : ByteArray) (r : Value) (H' : AHeap) : Prop where
  res : r = .tuple #[.string (nameF m L t).1, .int .i64 (nameF m L t).2.1]
  ex : ∃ va', H'.get ba = .cells [.int .i64 m0, va'] true 0 ∧ Own H' 1 va' (nameF m L t).2.2.length (strs (nameF m L t).2.2) ∧ ∀ b ∈ blkOf va', b ∈ blkOf va ∨ H.size ≤ b
  but : But (fun b => b = ba ∨ b ∈ blkOf va) H H'
  keep : (nameF m L t).2.2 = L → H' = H
theorem append22 {H : AHeap} {va : Value} {L : List ByteArray} {t : ByteArray} (ho : Own H 1 va L.length (strs L)) (hL : L.length ≤ 1000) :
    ∃ H', abuiltin E (H.alloc (.cells [.string t] true 1)) .append [22, 22] [va, .slice (some ⟨H.size, 0, some 1⟩) 1 1] = some (.slice (some ⟨H.size + 1, 0, none⟩) (L.length + 1) (L.length + 1), H') ∧
      Own H' 1 (.slice (some ⟨H.size + 1, 0, none⟩) (L.length + 1) (L.length + 1)) (L ++ [t]).length (strs (L ++ [t])) ∧ H'.size = H.size + 2 ∧ ∀ b, b < H.size → b ∉ blkOf va → H'.get b = H.get b := by
  have ho1 : Own (H.alloc (.cells [.string t] true 1)) 1 va L.length (strs L) := ho.keep (by simp [AHeap.size_alloc]) fun b hb => AHeap.get_alloc_ne _ _ (by have := (ho.sz hb).2; omega)
  obtain ⟨H', h1, h2, h3, h4⟩ := ho1.append (E := E) (t := 22) (e := 9) (zs := [.string ⟨#[]⟩]) (new := [.string t]) (c := H.size) (ex := some 1) ty22 ty9 rfl rfl rfl (by omega) (by simp) (AHeap.get_alloc_same _ _) rfl rfl (by show (L.length + 1) * 16 ≤ _; omega)
  rw [show (H.alloc (.cells [.string t] true 1)).size = H.size + 1 from AHeap.size_alloc _ _] at h1 h2
  refine ⟨H', h1, ?_, by rw [h3]; simp [AHeap.size_alloc], fun b hb hn => by rw [h4 b (by simp [AHeap.size_alloc]; omega) hn]; exact AHeap.get_alloc_ne _ _ (by omega)⟩
  have : strs (L ++ [t]) = strs L ++ [.string t] := by simp [strs]
  rw [this]
  simpa using h2

theorem spec15 {H : AHeap} {ba : Nat} {m : Int} {va : Value} {L : List ByteArray} {t : ByteArray} (hg : H.get ba = .cells [.int .i64 m, va] true 0) (hba : ba < H.size) (ho : Own H 1 va L.length (strs L)) (hL : L.length ≤ 1000) :
    CallW E 15 [.pointer (some ⟨ba, 0, none⟩), .string t] H (Named H ba m m va L t) := by
  refine call15 (by simp) ?_
  simp only [strip, bodyOf, Tryd.f15, getD_body, keepN, bareOp_mk, lessOp_mk, lapp_cons, lapp_nil, List.map_cons, List.map_nil, array_toList, ↓reduceIte, Nat.reduceEqDiff, Bool.false_eq_true]
  have m0 : ([.int .i64 m, va] : List Value)[0]? = some (.int .i64 m) := rfl
  have m1 : ([.int .i64 m, va] : List Value)[1]? = some va := rfl
  have same : ∀ {r}, r = .tuple #[.string (nameF m L t).1, .int .i64 (nameF m L t).2.1] → (nameF m L t).2.2 = L → Named H ba m m va L t r H := fun {r} h1 h2 =>
    ⟨h1, ⟨va, hg, by rw [h2]; exact ho, fun b hb => .inl hb⟩, But.refl _ _, fun _ => rfl⟩
  by_cases he : t = emp
  · simp (disch := first | assumption | simp) only [↓W_seq, ↓W_region, ↓W_block, ↓W_cond, ↓W_skip, ↓W_ret, ↓W_exit, ↓O_op, ↓O_guardC, ↓O_nil, ↓aop, ↓after_val, ↓after_call, ↓then_normal, ↓then_ret, ↓then_exit, ↓blockQ_ret, ↓blockQ_normal, ↓blockQ_exit, ↓retQ_ret, ↓retQ_normal, ↓C_true, ↓C_false, ↓K_op, ↓reduceIte, ↓W_drawT, ↓T_op, ↓T_guard, ↓T_nil, ↓trK_iff, ↓consQ_iff, GT_true, GT_tf, GT_ft,  array_toList, G_true, G_tf, G_ft, yield_list, yield_here, yield_next, truth_bool, thenQ_normal, thenQ_exit, thenQ_ret, vres_some, hres_some, ures_some, abin_int, aint_eql, aint_neq, aint_lss, aint_leq, aint_gtr, aint_geq, aint_add, aint_sub, aput_some, aput_none, res_cell1, upd_at, aev_const, aev_tmp, aev_func,  Nat.reduceEqDiff, Nat.reduceLT, ofL_zero, ofL_succ, ofL_nil, res_nil, res_tmp, oneOf_one, oneOf_two, oneOf_three, Option.map_some, ne_eq, reduceCtorEq, not_false_eq_true, Option.some.injEq, exists_eq_left', List.map_cons, List.map_nil, goInt, not_true, true_and, Array.toList_empty, List.nil_append, List.append_nil, str_eql, str_neq', min_int, max_int, pairs, nil_ptr ty25 rfl, Option.isNone_some, he, emp, decide_true]
    have hn : nameF m L t = (t, 0, L) := by simp [nameF, he]
    rw [← emp, ← he]
    exact same (by rw [hn]) (by rw [hn])
  · have he' : ¬ t = ⟨#[]⟩ := he
    simp (disch := first | assumption | simp) only [↓W_seq, ↓W_region, ↓W_block, ↓W_cond, ↓W_skip, ↓W_ret, ↓W_exit, ↓O_op, ↓O_guardC, ↓O_nil, ↓aop, ↓after_val, ↓after_call, ↓then_normal, ↓then_ret, ↓then_exit, ↓blockQ_ret, ↓blockQ_normal, ↓blockQ_exit, ↓retQ_ret, ↓retQ_normal, ↓C_true, ↓C_false, ↓K_op, ↓reduceIte, ↓W_drawT, ↓T_op, ↓T_guard, ↓T_nil, ↓trK_iff, ↓consQ_iff, GT_true, GT_tf, GT_ft,  array_toList, G_true, G_tf, G_ft, yield_list, yield_here, yield_next, truth_bool, thenQ_normal, thenQ_exit, thenQ_ret, vres_some, hres_some, ures_some, abin_int, aint_eql, aint_neq, aint_lss, aint_leq, aint_gtr, aint_geq, aint_add, aint_sub, aput_some, aput_none, res_cell1, upd_at, aev_const, aev_tmp, aev_func,  Nat.reduceEqDiff, Nat.reduceLT, ofL_zero, ofL_succ, ofL_nil, res_nil, res_tmp, oneOf_one, oneOf_two, oneOf_three, Option.map_some, ne_eq, reduceCtorEq, not_false_eq_true, Option.some.injEq, exists_eq_left', List.map_cons, List.map_nil, goInt, not_true, true_and, Array.toList_empty, List.nil_append, List.append_nil, str_eql, str_neq', min_int, max_int, pairs, nil_ptr ty25 rfl, Option.isNone_some, he', decide_false, fa31_1, Nat.zero_add, ld_cell ty22 rfl hg, m1]
    refine (spec38 ho.slice hL).mono ?_
    rintro r H ⟨rfl, rfl⟩
    by_cases hp : pos L t < L.length
    · have hw : IntKind.i64.wrap ((pos L t : Int) + 1) = (pos L t : Int) + 1 := wrap64 ⟨by omega, by omega⟩
      have hge : (0 : Int) ≤ (pos L t : Int) := by omega
      simp (disch := first | assumption | simp) only [↓W_seq, ↓W_region, ↓W_block, ↓W_cond, ↓W_skip, ↓W_ret, ↓W_exit, ↓O_op, ↓O_guardC, ↓O_nil, ↓aop, ↓after_val, ↓after_call, ↓then_normal, ↓then_ret, ↓then_exit, ↓blockQ_ret, ↓blockQ_normal, ↓blockQ_exit, ↓retQ_ret, ↓retQ_normal, ↓C_true, ↓C_false, ↓K_op, ↓reduceIte, ↓W_drawT, ↓T_op, ↓T_guard, ↓T_nil, ↓trK_iff, ↓consQ_iff, GT_true, GT_tf, GT_ft,  array_toList, G_true, G_tf, G_ft, yield_list, yield_here, yield_next, truth_bool, thenQ_normal, thenQ_exit, thenQ_ret, vres_some, hres_some, ures_some, abin_int, aint_eql, aint_neq, aint_lss, aint_leq, aint_gtr, aint_geq, aint_add, aint_sub, aput_some, aput_none, res_cell1, upd_at, aev_const, aev_tmp, aev_func,  Nat.reduceEqDiff, Nat.reduceLT, ofL_zero, ofL_succ, ofL_nil, res_nil, res_tmp, oneOf_one, oneOf_two, oneOf_three, Option.map_some, ne_eq, reduceCtorEq, not_false_eq_true, Option.some.injEq, exists_eq_left', List.map_cons, List.map_nil, goInt, not_true, true_and, Array.toList_empty, List.nil_append, List.append_nil, str_eql, str_neq', min_int, max_int, pairs, hp, hge, decide_true, hw]
      have hn : nameF m L t = (emp, (pos L t : Int) + 1, L) := by simp [nameF, he, hp]
      rw [← emp]
      exact same (by rw [hn]) (by rw [hn])
    · have hge : ¬ (0 : Int) ≤ -1 := by omega
      have hlen := ho.slice.alen (E := E) (ts := []) ty22
      by_cases hm : m ≤ (L.length : Int)
      · simp (disch := first | assumption | simp) only [↓W_seq, ↓W_region, ↓W_block, ↓W_cond, ↓W_skip, ↓W_ret, ↓W_exit, ↓O_op, ↓O_guardC, ↓O_nil, ↓aop, ↓after_val, ↓after_call, ↓then_normal, ↓then_ret, ↓then_exit, ↓blockQ_ret, ↓blockQ_normal, ↓blockQ_exit, ↓retQ_ret, ↓retQ_normal, ↓C_true, ↓C_false, ↓K_op, ↓reduceIte, ↓W_drawT, ↓T_op, ↓T_guard, ↓T_nil, ↓trK_iff, ↓consQ_iff, GT_true, GT_tf, GT_ft,  array_toList, G_true, G_tf, G_ft, yield_list, yield_here, yield_next, truth_bool, thenQ_normal, thenQ_exit, thenQ_ret, vres_some, hres_some, ures_some, abin_int, aint_eql, aint_neq, aint_lss, aint_leq, aint_gtr, aint_geq, aint_add, aint_sub, aput_some, aput_none, res_cell1, upd_at, aev_const, aev_tmp, aev_func,  Nat.reduceEqDiff, Nat.reduceLT, ofL_zero, ofL_succ, ofL_nil, res_nil, res_tmp, oneOf_one, oneOf_two, oneOf_three, Option.map_some, ne_eq, reduceCtorEq, not_false_eq_true, Option.some.injEq, exists_eq_left', List.map_cons, List.map_nil, goInt, not_true, true_and, Array.toList_empty, List.nil_append, List.append_nil, str_eql, str_neq', min_int, max_int, pairs, hp, hge, decide_true, decide_false, fa31_1, fa31_0, Nat.zero_add, ld_cell ty22 rfl hg, ld_cell ty3 rfl hg, m0, m1, hlen, hm]
        have hn : nameF m L t = (t, 0, L) := by simp [nameF, he, hp, hm]
        exact same (by rw [hn]) (by rw [hn])
      · obtain ⟨H2, ha, ho2, hs2, hk2⟩ := append22 (t := t) ho hL
        have hb2 : H2.get ba = .cells [.int .i64 m, va] true 0 := by rw [hk2 ba hba (ho.off hg (by omega))]; exact hg
        have hst := st_cell (E := E) (t := 22) (o := 1) (v := .slice (some ⟨H.size + 1, 0, none⟩) (L.length + 1) (L.length + 1)) ty22 rfl hb2 (by simp) rfl rfl
        have hsp : splice [.int .i64 m, va] 1 [.slice (some ⟨H.size + 1, 0, none⟩) (L.length + 1) (L.length + 1)] = [.int .i64 m, .slice (some ⟨H.size + 1, 0, none⟩) (L.length + 1) (L.length + 1)] := rfl
        rw [hsp] at hst
        have hg3 := AHeap.get_set_same H2 ba (.cells [.int .i64 m, .slice (some ⟨H.size + 1, 0, none⟩) (L.length + 1) (L.length + 1)] true 0)
        have q1 : ([.int .i64 m, .slice (some ⟨H.size + 1, 0, none⟩) (L.length + 1) (L.length + 1)] : List Value)[1]? = some (.slice (some ⟨H.size + 1, 0, none⟩) (L.length + 1) (L.length + 1)) := rfl
        have hlen2 : ∀ K, abuiltin E K .len [22] [.slice (some ⟨H.size + 1, 0, none⟩) (L.length + 1) (L.length + 1)] = some (goInt (L.length + 1 : Nat), K) := fun K => by simp [abuiltin, ty22]
        simp (disch := first | assumption | simp) only [↓W_seq, ↓W_region, ↓W_block, ↓W_cond, ↓W_skip, ↓W_ret, ↓W_exit, ↓O_op, ↓O_guardC, ↓O_nil, ↓aop, ↓after_val, ↓after_call, ↓then_normal, ↓then_ret, ↓then_exit, ↓blockQ_ret, ↓blockQ_normal, ↓blockQ_exit, ↓retQ_ret, ↓retQ_normal, ↓C_true, ↓C_false, ↓K_op, ↓reduceIte, ↓W_drawT, ↓T_op, ↓T_guard, ↓T_nil, ↓trK_iff, ↓consQ_iff, GT_true, GT_tf, GT_ft,  array_toList, G_true, G_tf, G_ft, yield_list, yield_here, yield_next, truth_bool, thenQ_normal, thenQ_exit, thenQ_ret, vres_some, hres_some, ures_some, abin_int, aint_eql, aint_neq, aint_lss, aint_leq, aint_gtr, aint_geq, aint_add, aint_sub, aput_some, aput_none, res_cell1, upd_at, aev_const, aev_tmp, aev_func,  Nat.reduceEqDiff, Nat.reduceLT, ofL_zero, ofL_succ, ofL_nil, res_nil, res_tmp, oneOf_one, oneOf_two, oneOf_three, Option.map_some, ne_eq, reduceCtorEq, not_false_eq_true, Option.some.injEq, exists_eq_left', List.map_cons, List.map_nil, goInt, not_true, true_and, Array.toList_empty, List.nil_append, List.append_nil, str_eql, str_neq', min_int, max_int, pairs, hp, hge, decide_true, decide_false, fa31_1, fa31_0, Nat.zero_add, ld_cell ty22 rfl hg, ld_cell ty3 rfl hg, m0, m1, hlen, hm, build22, ld_cell ty22 rfl hg, ha, hst, ld_cell ty22 rfl hg3, q1, hlen2]
        have hn : nameF m L t = (t, (L.length : Int) + 1, L ++ [t]) := by simp [nameF, he, hp, hm]
        refine ⟨by rw [hn]; rfl, ⟨_, hg3, ?_, fun b hb => .inr ?_⟩, ⟨?_, fun b hb hn => ?_⟩, fun h => ?_⟩
        · rw [hn]
          refine ho2.keep (by simp [AHeap.size_set]) fun b hb => AHeap.get_set_ne _ _ ?_
          rintro rfl
          exact ho2.off hb2 (by omega) hb
        · simp [blkOf] at hb; omega
        · rw [AHeap.size_set]; omega
        · rw [AHeap.get_set_ne _ _ (fun e => hn (.inl e.symm))]
          exact hk2 b hb fun h => hn (.inr h)
        · rw [hn] at h; simp at h
theorem spec15nil {H : AHeap} {t : ByteArray} : CallW E 15 [.pointer none, .string t] H fun r H' => r = .tuple #[.string t, .int .i64 0] ∧ H' = H := by
  refine call15 (by simp) ?_
  simp only [strip, bodyOf, Tryd.f15, getD_body, keepN, bareOp_mk, lessOp_mk, lapp_cons, lapp_nil, List.map_cons, List.map_nil, array_toList, ↓reduceIte, Nat.reduceEqDiff, Bool.false_eq_true]
  simp (disch := first | assumption | simp) only [↓W_seq, ↓W_region, ↓W_block, ↓W_cond, ↓W_skip, ↓W_ret, ↓W_exit, ↓O_op, ↓O_guardC, ↓O_nil, ↓aop, ↓after_val, ↓after_call, ↓then_normal, ↓then_ret, ↓then_exit, ↓blockQ_ret, ↓blockQ_normal, ↓blockQ_exit, ↓retQ_ret, ↓retQ_normal, ↓C_true, ↓C_false, ↓K_op, ↓reduceIte, ↓W_drawT, ↓T_op, ↓T_guard, ↓T_nil, ↓trK_iff, ↓consQ_iff, GT_true, GT_tf, GT_ft,  array_toList, G_true, G_tf, G_ft, yield_list, yield_here, yield_next, truth_bool, thenQ_normal, thenQ_exit, thenQ_ret, vres_some, hres_some, ures_some, abin_int, aint_eql, aint_neq, aint_lss, aint_leq, aint_gtr, aint_geq, aint_add, aint_sub, aput_some, aput_none, res_cell1, upd_at, aev_const, aev_tmp, aev_func,  Nat.reduceEqDiff, Nat.reduceLT, ofL_zero, ofL_succ, ofL_nil, res_nil, res_tmp, oneOf_one, oneOf_two, oneOf_three, Option.map_some, ne_eq, reduceCtorEq, not_false_eq_true, Option.some.injEq, exists_eq_left', List.map_cons, List.map_nil, goInt, not_true, true_and, Array.toList_empty, List.nil_append, List.append_nil, str_eql, str_neq', min_int, max_int, pairs, nil_ptr ty25 rfl, Option.isNone_none]
end Go.Proofs.YtlmcjfnignbdoaaDoor.AbsA
