/-
  A part of a law's proof.
-/
import Derived.Test.YtlmcjfnignbdoaaDoorAAlg
namespace Go.Proofs.YtlmcjfnignbdoaaDoor.AbsA
open Go AbsYtlmcjfnignbdoaaDoor Abs
set_option maxRecDepth 100000
set_option maxHeartbeats 2000000
set_option linter.unusedSimpArgs false
set_option linter.unusedVariables false
structure Back (H0 : AHeap) (M : Int) (K : List ByteArray) (H : AHeap) : Prop where
  ext : Ext H0 H
  size : H0.size + 3 ≤ H.size
  a : ∃ va, H.get H0.size = .cells [.int .i64 M, va] true 0 ∧ Own H 1 va K.length (strs K) ∧ ∀ b ∈ blkOf va, H0.size ≤ b
  i : H.get (H0.size + 2) = .cells [.int .i64 M, .map (some (H0.size + 1))] true 0
  m : ∃ l, MapIs ik H (H0.size + 1) l ∧ (∀ j (hj : j < K.length), lkp l ((j : Int) + 1) = some (.string K[j])) ∧ ∀ k v, lkp l k = some v → ∃ s, v = .string s
theorem own_map {H : AHeap} {sz n r : Nat} {v : Value} {cs : List Value} {α : Type} {mk : α → Value} {l : List (α × Value)} (h : Own H sz v n cs) (hm : MapIs mk H r l) : r ∉ blkOf v := fun hb => by
  obtain ⟨es, clk, h1, _⟩ := hm
  have := (h.sz hb).1
  rw [h1] at this; cases this
theorem spec4 {H : AHeap} {m : Int} {v : Value} {L : List ByteArray} (hB : Ext B H) (hs : SliceAt H 1 v L.length (strs L)) : CallW E 4 [.int .i64 m, v] H fun r _ => r = .bool true := by
  refine call4 (by simp) ?_
  simp only [strip, bodyOf, Tryd.f4, getD_body, keepN, bareOp_mk, lessOp_mk, lapp_cons, lapp_nil, List.map_cons, List.map_nil, array_toList, ↓reduceIte, Nat.reduceEqDiff, Bool.false_eq_true]
  simp (disch := first | assumption | simp) only [↓W_seq, ↓W_region, ↓W_block, ↓W_cond, ↓W_skip, ↓W_ret, ↓W_exit, ↓O_op, ↓O_guardC, ↓O_nil, ↓aop, ↓after_val, ↓after_call, ↓then_normal, ↓then_ret, ↓then_exit, ↓blockQ_ret, ↓blockQ_normal, ↓blockQ_exit, ↓retQ_ret, ↓retQ_normal, ↓C_true, ↓C_false, ↓K_op, ↓reduceIte, ↓W_drawT, ↓T_op, ↓T_guard, ↓T_nil, ↓trK_iff, ↓consQ_iff, GT_true, GT_tf, GT_ft,  array_toList, G_true, G_tf, G_ft, yield_list, yield_here, yield_next, truth_bool, thenQ_normal, thenQ_exit, thenQ_ret, vres_some, hres_some, ures_some, abin_int, aint_eql, aint_neq, aint_lss, aint_leq, aint_gtr, aint_geq, aint_add, aint_sub, aput_some, aput_none, res_cell1, upd_at, aev_const, aev_tmp, aev_func,  Nat.reduceEqDiff, Nat.reduceLT, ofL_zero, ofL_succ, ofL_nil, res_nil, res_tmp, oneOf_one, oneOf_two, oneOf_three, Option.map_some, ne_eq, reduceCtorEq, not_false_eq_true, Option.some.injEq, exists_eq_left', List.map_cons, List.map_nil, goInt, not_true, true_and, Array.toList_empty, List.nil_append, List.append_nil, str_eql, str_neq', min_int, max_int, pairs]
  refine (spec12 hs).mono ?_
  rintro r H ⟨⟨b, rfl, hb⟩, rfl⟩
  cases b with
  | false =>
    simp (disch := first | assumption | simp) only [↓W_seq, ↓W_region, ↓W_block, ↓W_cond, ↓W_skip, ↓W_ret, ↓W_exit, ↓O_op, ↓O_guardC, ↓O_nil, ↓aop, ↓after_val, ↓after_call, ↓then_normal, ↓then_ret, ↓then_exit, ↓blockQ_ret, ↓blockQ_normal, ↓blockQ_exit, ↓retQ_ret, ↓retQ_normal, ↓C_true, ↓C_false, ↓K_op, ↓reduceIte, ↓W_drawT, ↓T_op, ↓T_guard, ↓T_nil, ↓trK_iff, ↓consQ_iff, GT_true, GT_tf, GT_ft,  array_toList, G_true, G_tf, G_ft, yield_list, yield_here, yield_next, truth_bool, thenQ_normal, thenQ_exit, thenQ_ret, vres_some, hres_some, ures_some, abin_int, aint_eql, aint_neq, aint_lss, aint_leq, aint_gtr, aint_geq, aint_add, aint_sub, aput_some, aput_none, res_cell1, upd_at, aev_const, aev_tmp, aev_func,  Nat.reduceEqDiff, Nat.reduceLT, ofL_zero, ofL_succ, ofL_nil, res_nil, res_tmp, oneOf_one, oneOf_two, oneOf_three, Option.map_some, ne_eq, reduceCtorEq, not_false_eq_true, Option.some.injEq, exists_eq_left', List.map_cons, List.map_nil, goInt, not_true, true_and, Array.toList_empty, List.nil_append, List.append_nil, str_eql, str_neq', min_int, max_int, pairs, not_bool, Bool.not_false]
    refine spec13 hB ?_
    simp (disch := first | assumption | simp) only [↓W_seq, ↓W_region, ↓W_block, ↓W_cond, ↓W_skip, ↓W_ret, ↓W_exit, ↓O_op, ↓O_guardC, ↓O_nil, ↓aop, ↓after_val, ↓after_call, ↓then_normal, ↓then_ret, ↓then_exit, ↓blockQ_ret, ↓blockQ_normal, ↓blockQ_exit, ↓retQ_ret, ↓retQ_normal, ↓C_true, ↓C_false, ↓K_op, ↓reduceIte, ↓W_drawT, ↓T_op, ↓T_guard, ↓T_nil, ↓trK_iff, ↓consQ_iff, GT_true, GT_tf, GT_ft,  array_toList, G_true, G_tf, G_ft, yield_list, yield_here, yield_next, truth_bool, thenQ_normal, thenQ_exit, thenQ_ret, vres_some, hres_some, ures_some, abin_int, aint_eql, aint_neq, aint_lss, aint_leq, aint_gtr, aint_geq, aint_add, aint_sub, aput_some, aput_none, res_cell1, upd_at, aev_const, aev_tmp, aev_func,  Nat.reduceEqDiff, Nat.reduceLT, ofL_zero, ofL_succ, ofL_nil, res_nil, res_tmp, oneOf_one, oneOf_two, oneOf_three, Option.map_some, ne_eq, reduceCtorEq, not_false_eq_true, Option.some.injEq, exists_eq_left', List.map_cons, List.map_nil, goInt, not_true, true_and, Array.toList_empty, List.nil_append, List.append_nil, str_eql, str_neq', min_int, max_int, pairs]
  | true =>
  have hn := hb rfl
  simp (disch := first | assumption | simp) only [↓W_seq, ↓W_region, ↓W_block, ↓W_cond, ↓W_skip, ↓W_ret, ↓W_exit, ↓O_op, ↓O_guardC, ↓O_nil, ↓aop, ↓after_val, ↓after_call, ↓then_normal, ↓then_ret, ↓then_exit, ↓blockQ_ret, ↓blockQ_normal, ↓blockQ_exit, ↓retQ_ret, ↓retQ_normal, ↓C_true, ↓C_false, ↓K_op, ↓reduceIte, ↓W_drawT, ↓T_op, ↓T_guard, ↓T_nil, ↓trK_iff, ↓consQ_iff, GT_true, GT_tf, GT_ft,  array_toList, G_true, G_tf, G_ft, yield_list, yield_here, yield_next, truth_bool, thenQ_normal, thenQ_exit, thenQ_ret, vres_some, hres_some, ures_some, abin_int, aint_eql, aint_neq, aint_lss, aint_leq, aint_gtr, aint_geq, aint_add, aint_sub, aput_some, aput_none, res_cell1, upd_at, aev_const, aev_tmp, aev_func,  Nat.reduceEqDiff, Nat.reduceLT, ofL_zero, ofL_succ, ofL_nil, res_nil, res_tmp, oneOf_one, oneOf_two, oneOf_three, Option.map_some, ne_eq, reduceCtorEq, not_false_eq_true, Option.some.injEq, exists_eq_left', List.map_cons, List.map_nil, goInt, not_true, true_and, Array.toList_empty, List.nil_append, List.append_nil, str_eql, str_neq', min_int, max_int, pairs, not_bool, Bool.not_true]
  refine spec14.mono ?_
  rintro r H1 ⟨rfl, hH1⟩
  have hs1 : H1.size = H.size + 1 := by rw [hH1, AHeap.size_alloc]
  simp (disch := first | assumption | simp) only [↓W_seq, ↓W_region, ↓W_block, ↓W_cond, ↓W_skip, ↓W_ret, ↓W_exit, ↓O_op, ↓O_guardC, ↓O_nil, ↓aop, ↓after_val, ↓after_call, ↓then_normal, ↓then_ret, ↓then_exit, ↓blockQ_ret, ↓blockQ_normal, ↓blockQ_exit, ↓retQ_ret, ↓retQ_normal, ↓C_true, ↓C_false, ↓K_op, ↓reduceIte, ↓W_drawT, ↓T_op, ↓T_guard, ↓T_nil, ↓trK_iff, ↓consQ_iff, GT_true, GT_tf, GT_ft,  array_toList, G_true, G_tf, G_ft, yield_list, yield_here, yield_next, truth_bool, thenQ_normal, thenQ_exit, thenQ_ret, vres_some, hres_some, ures_some, abin_int, aint_eql, aint_neq, aint_lss, aint_leq, aint_gtr, aint_geq, aint_add, aint_sub, aput_some, aput_none, res_cell1, upd_at, aev_const, aev_tmp, aev_func,  Nat.reduceEqDiff, Nat.reduceLT, ofL_zero, ofL_succ, ofL_nil, res_nil, res_tmp, oneOf_one, oneOf_two, oneOf_three, Option.map_some, ne_eq, reduceCtorEq, not_false_eq_true, Option.some.injEq, exists_eq_left', List.map_cons, List.map_nil, goInt, not_true, true_and, Array.toList_empty, List.nil_append, List.append_nil, str_eql, str_neq', min_int, max_int, pairs]
  refine spec17.mono ?_
  rintro r H3 ⟨rfl, hH3⟩
  rw [hs1] at hH3 ⊢
  have hMm : (if (65535 : Int) < m then 65535 else m) ≤ m := by split <;> omega
  generalize (if (65535 : Int) < m then 65535 else m) = M at hH1 hH3 hMm
  have B0 : Back H M [] H3 := by
    have g : ∀ b, H3.get b = if b = H.size + 2 then .cells [.int .i64 M, .map (some (H.size + 1))] true 0 else if b = H.size + 1 then .map [] 0 else if b = H.size then .cells [.int .i64 M, .slice none 0 0] true 0 else H.get b := fun b => by
      rw [hH3, get_alloc, AHeap.size_alloc, hs1, get_alloc, hs1, hH1, get_alloc]
    have hz : H3.size = H.size + 3 := by rw [hH3, AHeap.size_alloc, AHeap.size_alloc, hs1]
    refine ⟨⟨by omega, fun b hb => ?_⟩, by omega, ⟨.slice none 0 0, ?_, .inl ⟨rfl, rfl, rfl⟩, by simp [blkOf]⟩, ?_, ⟨[], ⟨[], 0, ?_, rfl⟩, fun j hj => by simp at hj, fun k v h => by cases h⟩⟩
    · rw [g, if_neg (by omega), if_neg (by omega), if_neg (by omega)]
    · rw [g, if_neg (by omega), if_neg (by omega), if_pos rfl]
    · rw [g, if_pos rfl]
    · rw [g, if_neg (by omega), if_pos rfl]
  clear hH3 hH1 hs1
  simp (disch := first | assumption | simp) only [↓W_seq, ↓W_region, ↓W_block, ↓W_cond, ↓W_skip, ↓W_ret, ↓W_exit, ↓O_op, ↓O_guardC, ↓O_nil, ↓aop, ↓after_val, ↓after_call, ↓then_normal, ↓then_ret, ↓then_exit, ↓blockQ_ret, ↓blockQ_normal, ↓blockQ_exit, ↓retQ_ret, ↓retQ_normal, ↓C_true, ↓C_false, ↓K_op, ↓reduceIte, ↓W_drawT, ↓T_op, ↓T_guard, ↓T_nil, ↓trK_iff, ↓consQ_iff, GT_true, GT_tf, GT_ft,  array_toList, G_true, G_tf, G_ft, yield_list, yield_here, yield_next, truth_bool, thenQ_normal, thenQ_exit, thenQ_ret, vres_some, hres_some, ures_some, abin_int, aint_eql, aint_neq, aint_lss, aint_leq, aint_gtr, aint_geq, aint_add, aint_sub, aput_some, aput_none, res_cell1, upd_at, aev_const, aev_tmp, aev_func,  Nat.reduceEqDiff, Nat.reduceLT, ofL_zero, ofL_succ, ofL_nil, res_nil, res_tmp, oneOf_one, oneOf_two, oneOf_three, Option.map_some, ne_eq, reduceCtorEq, not_false_eq_true, Option.some.injEq, exists_eq_left', List.map_cons, List.map_nil, goInt, not_true, true_and, Array.toList_empty, List.nil_append, List.append_nil, str_eql, str_neq', min_int, max_int, pairs]
  refine W_loop (fun f H' => f 0 = .int .i64 m ∧ f 1 = v ∧ f 5 = .pointer (some ⟨H.size, 0, none⟩) ∧ f 6 = .pointer (some ⟨H.size + 2, 0, none⟩) ∧ ∃ (i : Nat) (K : List ByteArray), i ≤ L.length ∧ f 7 = .int .i64 i ∧ K.length ≤ i ∧ (K ≠ [] → (K.length : Int) ≤ M) ∧ Back H M K H') (fun f _ => match f 7 with | .int _ i => L.length - i.toNat | _ => 0) ?_ ?_
  · simp (disch := first | assumption | simp) only [↓W_seq, ↓W_region, ↓W_block, ↓W_cond, ↓W_skip, ↓W_ret, ↓W_exit, ↓O_op, ↓O_guardC, ↓O_nil, ↓aop, ↓after_val, ↓after_call, ↓then_normal, ↓then_ret, ↓then_exit, ↓blockQ_ret, ↓blockQ_normal, ↓blockQ_exit, ↓retQ_ret, ↓retQ_normal, ↓C_true, ↓C_false, ↓K_op, ↓reduceIte, ↓W_drawT, ↓T_op, ↓T_guard, ↓T_nil, ↓trK_iff, ↓consQ_iff, GT_true, GT_tf, GT_ft,  array_toList, G_true, G_tf, G_ft, yield_list, yield_here, yield_next, truth_bool, thenQ_normal, thenQ_exit, thenQ_ret, vres_some, hres_some, ures_some, abin_int, aint_eql, aint_neq, aint_lss, aint_leq, aint_gtr, aint_geq, aint_add, aint_sub, aput_some, aput_none, res_cell1, upd_at, aev_const, aev_tmp, aev_func,  Nat.reduceEqDiff, Nat.reduceLT, ofL_zero, ofL_succ, ofL_nil, res_nil, res_tmp, oneOf_one, oneOf_two, oneOf_three, Option.map_some, ne_eq, reduceCtorEq, not_false_eq_true, Option.some.injEq, exists_eq_left', List.map_cons, List.map_nil, goInt, not_true, true_and, Array.toList_empty, List.nil_append, List.append_nil, str_eql, str_neq', min_int, max_int, pairs]
    exact ⟨0, [], by omega, rfl, by simp, by simp, B0⟩
  rintro f H' ⟨h0, h1, h5, h6, i, K, hi, h7, hK, hKM, T⟩
  have hs' := hs.ext T.ext
  have hlen := hs'.alen (E := E) (ts := []) ty22
  by_cases hin : (i : Int) < (L.length : Int)
  rotate_left
  · simp (disch := first | assumption | simp) only [↓W_seq, ↓W_region, ↓W_block, ↓W_cond, ↓W_skip, ↓W_ret, ↓W_exit, ↓O_op, ↓O_guardC, ↓O_nil, ↓aop, ↓after_val, ↓after_call, ↓then_normal, ↓then_ret, ↓then_exit, ↓blockQ_ret, ↓blockQ_normal, ↓blockQ_exit, ↓retQ_ret, ↓retQ_normal, ↓C_true, ↓C_false, ↓K_op, ↓reduceIte, ↓W_drawT, ↓T_op, ↓T_guard, ↓T_nil, ↓trK_iff, ↓consQ_iff, GT_true, GT_tf, GT_ft,  array_toList, G_true, G_tf, G_ft, yield_list, yield_here, yield_next, truth_bool, thenQ_normal, thenQ_exit, thenQ_ret, vres_some, hres_some, ures_some, abin_int, aint_eql, aint_neq, aint_lss, aint_leq, aint_gtr, aint_geq, aint_add, aint_sub, aput_some, aput_none, res_cell1, upd_at, aev_const, aev_tmp, aev_func,  Nat.reduceEqDiff, Nat.reduceLT, ofL_zero, ofL_succ, ofL_nil, res_nil, res_tmp, oneOf_one, oneOf_two, oneOf_three, Option.map_some, ne_eq, reduceCtorEq, not_false_eq_true, Option.some.injEq, exists_eq_left', List.map_cons, List.map_nil, goInt, not_true, true_and, Array.toList_empty, List.nil_append, List.append_nil, str_eql, str_neq', min_int, max_int, pairs, h1, h7, hlen, hin, decide_false]
    refine spec13 (hB.trans T.ext) ?_
    simp (disch := first | assumption | simp) only [↓W_seq, ↓W_region, ↓W_block, ↓W_cond, ↓W_skip, ↓W_ret, ↓W_exit, ↓O_op, ↓O_guardC, ↓O_nil, ↓aop, ↓after_val, ↓after_call, ↓then_normal, ↓then_ret, ↓then_exit, ↓blockQ_ret, ↓blockQ_normal, ↓blockQ_exit, ↓retQ_ret, ↓retQ_normal, ↓C_true, ↓C_false, ↓K_op, ↓reduceIte, ↓W_drawT, ↓T_op, ↓T_guard, ↓T_nil, ↓trK_iff, ↓consQ_iff, GT_true, GT_tf, GT_ft,  array_toList, G_true, G_tf, G_ft, yield_list, yield_here, yield_next, truth_bool, thenQ_normal, thenQ_exit, thenQ_ret, vres_some, hres_some, ures_some, abin_int, aint_eql, aint_neq, aint_lss, aint_leq, aint_gtr, aint_geq, aint_add, aint_sub, aput_some, aput_none, res_cell1, upd_at, aev_const, aev_tmp, aev_func,  Nat.reduceEqDiff, Nat.reduceLT, ofL_zero, ofL_succ, ofL_nil, res_nil, res_tmp, oneOf_one, oneOf_two, oneOf_three, Option.map_some, ne_eq, reduceCtorEq, not_false_eq_true, Option.some.injEq, exists_eq_left', List.map_cons, List.map_nil, goInt, not_true, true_and, Array.toList_empty, List.nil_append, List.append_nil, str_eql, str_neq', min_int, max_int, pairs]
  have hw := wrap_suc (n := i) (by omega)
  obtain ⟨p, hp, hl⟩ := str_at hs' (i := i) (by omega)
  obtain ⟨t, ht⟩ : ∃ t, t = L[i]'(by omega) := ⟨_, rfl⟩
  rw [← ht] at hl
  by_cases he : t = emp
  · have he' : t = ⟨#[]⟩ := he
    simp (disch := first | assumption | simp) only [↓W_seq, ↓W_region, ↓W_block, ↓W_cond, ↓W_skip, ↓W_ret, ↓W_exit, ↓O_op, ↓O_guardC, ↓O_nil, ↓aop, ↓after_val, ↓after_call, ↓then_normal, ↓then_ret, ↓then_exit, ↓blockQ_ret, ↓blockQ_normal, ↓blockQ_exit, ↓retQ_ret, ↓retQ_normal, ↓C_true, ↓C_false, ↓K_op, ↓reduceIte, ↓W_drawT, ↓T_op, ↓T_guard, ↓T_nil, ↓trK_iff, ↓consQ_iff, GT_true, GT_tf, GT_ft,  array_toList, G_true, G_tf, G_ft, yield_list, yield_here, yield_next, truth_bool, thenQ_normal, thenQ_exit, thenQ_ret, vres_some, hres_some, ures_some, abin_int, aint_eql, aint_neq, aint_lss, aint_leq, aint_gtr, aint_geq, aint_add, aint_sub, aput_some, aput_none, res_cell1, upd_at, aev_const, aev_tmp, aev_func,  Nat.reduceEqDiff, Nat.reduceLT, ofL_zero, ofL_succ, ofL_nil, res_nil, res_tmp, oneOf_one, oneOf_two, oneOf_three, Option.map_some, ne_eq, reduceCtorEq, not_false_eq_true, Option.some.injEq, exists_eq_left', List.map_cons, List.map_nil, goInt, not_true, true_and, Array.toList_empty, List.nil_append, List.append_nil, str_eql, str_neq', min_int, max_int, pairs, h1, h7, hlen, hin, decide_true, hp, hl, he']
    refine spec13 (hB.trans T.ext) ?_
    simp (disch := first | assumption | simp) only [↓W_seq, ↓W_region, ↓W_block, ↓W_cond, ↓W_skip, ↓W_ret, ↓W_exit, ↓O_op, ↓O_guardC, ↓O_nil, ↓aop, ↓after_val, ↓after_call, ↓then_normal, ↓then_ret, ↓then_exit, ↓blockQ_ret, ↓blockQ_normal, ↓blockQ_exit, ↓retQ_ret, ↓retQ_normal, ↓C_true, ↓C_false, ↓K_op, ↓reduceIte, ↓W_drawT, ↓T_op, ↓T_guard, ↓T_nil, ↓trK_iff, ↓consQ_iff, GT_true, GT_tf, GT_ft,  array_toList, G_true, G_tf, G_ft, yield_list, yield_here, yield_next, truth_bool, thenQ_normal, thenQ_exit, thenQ_ret, vres_some, hres_some, ures_some, abin_int, aint_eql, aint_neq, aint_lss, aint_leq, aint_gtr, aint_geq, aint_add, aint_sub, aput_some, aput_none, res_cell1, upd_at, aev_const, aev_tmp, aev_func,  Nat.reduceEqDiff, Nat.reduceLT, ofL_zero, ofL_succ, ofL_nil, res_nil, res_tmp, oneOf_one, oneOf_two, oneOf_three, Option.map_some, ne_eq, reduceCtorEq, not_false_eq_true, Option.some.injEq, exists_eq_left', List.map_cons, List.map_nil, goInt, not_true, true_and, Array.toList_empty, List.nil_append, List.append_nil, str_eql, str_neq', min_int, max_int, pairs]
  have he' : ¬ t = ⟨#[]⟩ := he
  simp (disch := first | assumption | simp) only [↓W_seq, ↓W_region, ↓W_block, ↓W_cond, ↓W_skip, ↓W_ret, ↓W_exit, ↓O_op, ↓O_guardC, ↓O_nil, ↓aop, ↓after_val, ↓after_call, ↓then_normal, ↓then_ret, ↓then_exit, ↓blockQ_ret, ↓blockQ_normal, ↓blockQ_exit, ↓retQ_ret, ↓retQ_normal, ↓C_true, ↓C_false, ↓K_op, ↓reduceIte, ↓W_drawT, ↓T_op, ↓T_guard, ↓T_nil, ↓trK_iff, ↓consQ_iff, GT_true, GT_tf, GT_ft,  array_toList, G_true, G_tf, G_ft, yield_list, yield_here, yield_next, truth_bool, thenQ_normal, thenQ_exit, thenQ_ret, vres_some, hres_some, ures_some, abin_int, aint_eql, aint_neq, aint_lss, aint_leq, aint_gtr, aint_geq, aint_add, aint_sub, aput_some, aput_none, res_cell1, upd_at, aev_const, aev_tmp, aev_func,  Nat.reduceEqDiff, Nat.reduceLT, ofL_zero, ofL_succ, ofL_nil, res_nil, res_tmp, oneOf_one, oneOf_two, oneOf_three, Option.map_some, ne_eq, reduceCtorEq, not_false_eq_true, Option.some.injEq, exists_eq_left', List.map_cons, List.map_nil, goInt, not_true, true_and, Array.toList_empty, List.nil_append, List.append_nil, str_eql, str_neq', min_int, max_int, pairs, h1, h5, h7, hlen, hin, decide_true, decide_false, hp, hl, he']
  obtain ⟨va, ga, oa, za⟩ := T.a
  obtain ⟨l, hm, hml, hms⟩ := T.m
  have sz := T.size
  refine (spec15 ga (by omega) oa (by omega)).mono ?_
  rintro r H2 ⟨rfl, ⟨va2, ga2, oa2, za2⟩, bu2, keep⟩
  have T2e : Ext H H2 := T.ext.of_but bu2 (by rintro b (rfl | hb); exact Nat.le_refl _; exact za b hb)
  have k2 : ∀ b, b < H'.size → b ≠ H.size → b ∉ blkOf va → H2.get b = H'.get b := fun b hb h1 h2 => bu2.get b hb (by rintro (h | h); exact h1 h; exact h2 h)
  have s2 := bu2.size
  have gi2 : H2.get (H.size + 2) = .cells [.int .i64 M, .map (some (H.size + 1))] true 0 := by rw [k2 _ (by omega) (by omega) (oa.off T.i (by omega))]; exact T.i
  have hm2 : MapIs ik H2 (H.size + 1) l := hm.keep (k2 _ (by omega) (by omega) (own_map oa hm))
  have hs2 := hs.ext T2e
  obtain ⟨p2, hp2, hl2⟩ := str_at hs2 (i := i) (by omega)
  rw [← ht] at hl2
  -- what Topic gives
  have hT : ∃ l', topicF M l (nameF M K t).1 (nameF M K t).2.1 = .inl (t, l') ∧ (∀ j (hj : j < (nameF M K t).2.2.length), lkp l' ((j : Int) + 1) = some (.string ((nameF M K t).2.2)[j])) ∧ (∀ k v, lkp l' k = some v → ∃ s, v = .string s) ∧ 0 ≤ (nameF M K t).2.1 ∧ ((nameF M K t).2.1 = 0 ∨ (nameF M K t).2.1 ≤ M) ∧ ((nameF M K t).2.2 ≠ [] → ((nameF M K t).2.2.length : Int) ≤ M) := by
    by_cases hpos : pos K t < K.length
    · have hn : nameF M K t = (emp, (pos K t : Int) + 1, K) := by simp [nameF, he, hpos]
      have hKM' := hKM (by rintro rfl; simp at hpos)
      have hkt : K[pos K t] = t := by
        have := List.findIdx_getElem (p := fun x => decide (x = t)) (xs := K) (w := hpos)
        simp only [decide_eq_true_eq] at this
        exact this
      have hlk := hml (pos K t) hpos
      rw [hkt] at hlk
      rw [hn]
      refine ⟨l, ?_, hml, hms, by show (0 : Int) ≤ (pos K t : Int) + 1; omega, .inr (by show (pos K t : Int) + 1 ≤ M; omega), hKM⟩
      have c1 : ¬ ((pos K t : Int) + 1 = 0) := by omega
      have c2 : 1 ≤ (pos K t : Int) + 1 ∧ (pos K t : Int) + 1 ≤ M := by omega
      simp only [topicF, if_neg c1, if_pos c2, if_true, hlk, if_neg he]
    · by_cases hm' : M ≤ (K.length : Int)
      · have hn : nameF M K t = (t, 0, K) := by simp [nameF, he, hpos, hm']
        rw [hn]
        exact ⟨l, by simp [topicF, he], hml, hms, Int.le_refl _, .inl rfl, hKM⟩
      · have hn : nameF M K t = (t, (K.length : Int) + 1, K ++ [t]) := by simp [nameF, he, hpos, hm']
        rw [hn]
        have c1 : ¬ ((K.length : Int) + 1 = 0) := by omega
        have c2 : 1 ≤ (K.length : Int) + 1 ∧ (K.length : Int) + 1 ≤ M := by omega
        refine ⟨mput l ((K.length : Int) + 1) (.string t), by simp only [topicF, if_neg c1, if_pos c2, if_neg he], fun j hj => ?_, fun k u h => ?_, by show (0 : Int) ≤ (K.length : Int) + 1; omega, .inr c2.2, fun _ => by simp; omega⟩
        · rw [lkp_put]
          simp only [List.length_append, List.length_cons, List.length_nil] at hj
          by_cases hjK : j = K.length
          · subst hjK; simp
          · rw [if_neg (by omega), hml j (by omega), List.getElem_append_left (by omega)]
        · rw [lkp_put] at h
          split at h
          · injection h with h; exact ⟨t, h.symm⟩
          · exact hms k u h
  obtain ⟨l', hF, hml', hms', n0, nM, hKM'⟩ := hT
  simp (disch := first | assumption | simp) only [↓W_seq, ↓W_region, ↓W_block, ↓W_cond, ↓W_skip, ↓W_ret, ↓W_exit, ↓O_op, ↓O_guardC, ↓O_nil, ↓aop, ↓after_val, ↓after_call, ↓then_normal, ↓then_ret, ↓then_exit, ↓blockQ_ret, ↓blockQ_normal, ↓blockQ_exit, ↓retQ_ret, ↓retQ_normal, ↓C_true, ↓C_false, ↓K_op, ↓reduceIte, ↓W_drawT, ↓T_op, ↓T_guard, ↓T_nil, ↓trK_iff, ↓consQ_iff, GT_true, GT_tf, GT_ft,  array_toList, G_true, G_tf, G_ft, yield_list, yield_here, yield_next, truth_bool, thenQ_normal, thenQ_exit, thenQ_ret, vres_some, hres_some, ures_some, abin_int, aint_eql, aint_neq, aint_lss, aint_leq, aint_gtr, aint_geq, aint_add, aint_sub, aput_some, aput_none, res_cell1, upd_at, aev_const, aev_tmp, aev_func,  Nat.reduceEqDiff, Nat.reduceLT, ofL_zero, ofL_succ, ofL_nil, res_nil, res_tmp, oneOf_one, oneOf_two, oneOf_three, Option.map_some, ne_eq, reduceCtorEq, not_false_eq_true, Option.some.injEq, exists_eq_left', List.map_cons, List.map_nil, goInt, not_true, true_and, Array.toList_empty, List.nil_append, List.append_nil, str_eql, str_neq', min_int, max_int, pairs, h0, h1, h6, h7, tup0, tup1]
  refine (spec18 (hB.trans T2e) gi2 hm2 hms).mono ?_
  rintro r H3 ⟨good, _⟩
  obtain ⟨rfl, hH3⟩ := good _ _ hF
  have T3 : Back H M (nameF M K t).2.2 H3 := by
    rcases hH3 with ⟨rfl, rfl⟩ | ⟨o, rfl, hm3⟩
    · exact ⟨T2e, by omega, ⟨va2, ga2, oa2, fun b hb => by rcases za2 b hb with h | h; exact za b h; omega⟩, gi2, ⟨_, hm2, hml', hms'⟩⟩
    · have hne := own_map oa2 hm2
      refine ⟨⟨by rw [AHeap.size_set]; omega, fun b hb => by rw [AHeap.get_set_ne _ _ (by omega)]; exact T2e.get b hb⟩, by rw [AHeap.size_set]; omega, ⟨va2, ?_, ?_, fun b hb => by rcases za2 b hb with h | h; exact za b h; omega⟩, ?_, ⟨l', hm3, hml', hms'⟩⟩
      · rw [AHeap.get_set_ne _ _ (by omega)]; exact ga2
      · exact oa2.keep (by simp [AHeap.size_set]) fun b hb => AHeap.get_set_ne _ _ (by rintro rfl; exact hne hb)
      · rw [AHeap.get_set_ne _ _ (by omega)]; exact gi2
  clear hH3 gi2 hm2 hs2 hp2 hl2 T2e k2 oa za ga hm hml hms bu2
  have hs3 := hs.ext T3.ext
  obtain ⟨p3, hp3, hl3⟩ := str_at hs3 (i := i) (by omega)
  rw [← ht] at hl3
  have c1 : ¬ (nameF M K t).2.1 < 0 := by omega
  have c2 : ¬ (if (0 : Int) > m then 0 else m) < (nameF M K t).2.1 := by
    rcases nM with h | h
    · split <;> omega
    · split <;> omega
  simp (disch := first | assumption | simp) only [↓W_seq, ↓W_region, ↓W_block, ↓W_cond, ↓W_skip, ↓W_ret, ↓W_exit, ↓O_op, ↓O_guardC, ↓O_nil, ↓aop, ↓after_val, ↓after_call, ↓then_normal, ↓then_ret, ↓then_exit, ↓blockQ_ret, ↓blockQ_normal, ↓blockQ_exit, ↓retQ_ret, ↓retQ_normal, ↓C_true, ↓C_false, ↓K_op, ↓reduceIte, ↓W_drawT, ↓T_op, ↓T_guard, ↓T_nil, ↓trK_iff, ↓consQ_iff, GT_true, GT_tf, GT_ft,  array_toList, G_true, G_tf, G_ft, yield_list, yield_here, yield_next, truth_bool, thenQ_normal, thenQ_exit, thenQ_ret, vres_some, hres_some, ures_some, abin_int, aint_eql, aint_neq, aint_lss, aint_leq, aint_gtr, aint_geq, aint_add, aint_sub, aput_some, aput_none, res_cell1, upd_at, aev_const, aev_tmp, aev_func,  Nat.reduceEqDiff, Nat.reduceLT, ofL_zero, ofL_succ, ofL_nil, res_nil, res_tmp, oneOf_one, oneOf_two, oneOf_three, Option.map_some, ne_eq, reduceCtorEq, not_false_eq_true, Option.some.injEq, exists_eq_left', List.map_cons, List.map_nil, goInt, not_true, true_and, Array.toList_empty, List.nil_append, List.append_nil, str_eql, str_neq', min_int, max_int, pairs, h0, h1, h6, h7, tup0, tup1, niface_neq ty39 rfl, isConst, Bool.or_true, hp3, hl3, decide_false, not_true_eq_false, c1, c2, hw]
  refine ⟨_, rfl, ⟨?_, ?_, ?_, ?_, i + 1, _, by omega, ?_, Nat.le_trans nameF_len (by omega), hKM', T3⟩, ?_⟩
  · simp (disch := first | assumption | simp) only [↓W_seq, ↓W_region, ↓W_block, ↓W_cond, ↓W_skip, ↓W_ret, ↓W_exit, ↓O_op, ↓O_guardC, ↓O_nil, ↓aop, ↓after_val, ↓after_call, ↓then_normal, ↓then_ret, ↓then_exit, ↓blockQ_ret, ↓blockQ_normal, ↓blockQ_exit, ↓retQ_ret, ↓retQ_normal, ↓C_true, ↓C_false, ↓K_op, ↓reduceIte, ↓W_drawT, ↓T_op, ↓T_guard, ↓T_nil, ↓trK_iff, ↓consQ_iff, GT_true, GT_tf, GT_ft,  array_toList, G_true, G_tf, G_ft, yield_list, yield_here, yield_next, truth_bool, thenQ_normal, thenQ_exit, thenQ_ret, vres_some, hres_some, ures_some, abin_int, aint_eql, aint_neq, aint_lss, aint_leq, aint_gtr, aint_geq, aint_add, aint_sub, aput_some, aput_none, res_cell1, upd_at, aev_const, aev_tmp, aev_func,  Nat.reduceEqDiff, Nat.reduceLT, ofL_zero, ofL_succ, ofL_nil, res_nil, res_tmp, oneOf_one, oneOf_two, oneOf_three, Option.map_some, ne_eq, reduceCtorEq, not_false_eq_true, Option.some.injEq, exists_eq_left', List.map_cons, List.map_nil, goInt, not_true, true_and, Array.toList_empty, List.nil_append, List.append_nil, str_eql, str_neq', min_int, max_int, pairs, h0]
  · simp (disch := first | assumption | simp) only [↓W_seq, ↓W_region, ↓W_block, ↓W_cond, ↓W_skip, ↓W_ret, ↓W_exit, ↓O_op, ↓O_guardC, ↓O_nil, ↓aop, ↓after_val, ↓after_call, ↓then_normal, ↓then_ret, ↓then_exit, ↓blockQ_ret, ↓blockQ_normal, ↓blockQ_exit, ↓retQ_ret, ↓retQ_normal, ↓C_true, ↓C_false, ↓K_op, ↓reduceIte, ↓W_drawT, ↓T_op, ↓T_guard, ↓T_nil, ↓trK_iff, ↓consQ_iff, GT_true, GT_tf, GT_ft,  array_toList, G_true, G_tf, G_ft, yield_list, yield_here, yield_next, truth_bool, thenQ_normal, thenQ_exit, thenQ_ret, vres_some, hres_some, ures_some, abin_int, aint_eql, aint_neq, aint_lss, aint_leq, aint_gtr, aint_geq, aint_add, aint_sub, aput_some, aput_none, res_cell1, upd_at, aev_const, aev_tmp, aev_func,  Nat.reduceEqDiff, Nat.reduceLT, ofL_zero, ofL_succ, ofL_nil, res_nil, res_tmp, oneOf_one, oneOf_two, oneOf_three, Option.map_some, ne_eq, reduceCtorEq, not_false_eq_true, Option.some.injEq, exists_eq_left', List.map_cons, List.map_nil, goInt, not_true, true_and, Array.toList_empty, List.nil_append, List.append_nil, str_eql, str_neq', min_int, max_int, pairs, h1]
  · simp (disch := first | assumption | simp) only [↓W_seq, ↓W_region, ↓W_block, ↓W_cond, ↓W_skip, ↓W_ret, ↓W_exit, ↓O_op, ↓O_guardC, ↓O_nil, ↓aop, ↓after_val, ↓after_call, ↓then_normal, ↓then_ret, ↓then_exit, ↓blockQ_ret, ↓blockQ_normal, ↓blockQ_exit, ↓retQ_ret, ↓retQ_normal, ↓C_true, ↓C_false, ↓K_op, ↓reduceIte, ↓W_drawT, ↓T_op, ↓T_guard, ↓T_nil, ↓trK_iff, ↓consQ_iff, GT_true, GT_tf, GT_ft,  array_toList, G_true, G_tf, G_ft, yield_list, yield_here, yield_next, truth_bool, thenQ_normal, thenQ_exit, thenQ_ret, vres_some, hres_some, ures_some, abin_int, aint_eql, aint_neq, aint_lss, aint_leq, aint_gtr, aint_geq, aint_add, aint_sub, aput_some, aput_none, res_cell1, upd_at, aev_const, aev_tmp, aev_func,  Nat.reduceEqDiff, Nat.reduceLT, ofL_zero, ofL_succ, ofL_nil, res_nil, res_tmp, oneOf_one, oneOf_two, oneOf_three, Option.map_some, ne_eq, reduceCtorEq, not_false_eq_true, Option.some.injEq, exists_eq_left', List.map_cons, List.map_nil, goInt, not_true, true_and, Array.toList_empty, List.nil_append, List.append_nil, str_eql, str_neq', min_int, max_int, pairs, h5]
  · simp (disch := first | assumption | simp) only [↓W_seq, ↓W_region, ↓W_block, ↓W_cond, ↓W_skip, ↓W_ret, ↓W_exit, ↓O_op, ↓O_guardC, ↓O_nil, ↓aop, ↓after_val, ↓after_call, ↓then_normal, ↓then_ret, ↓then_exit, ↓blockQ_ret, ↓blockQ_normal, ↓blockQ_exit, ↓retQ_ret, ↓retQ_normal, ↓C_true, ↓C_false, ↓K_op, ↓reduceIte, ↓W_drawT, ↓T_op, ↓T_guard, ↓T_nil, ↓trK_iff, ↓consQ_iff, GT_true, GT_tf, GT_ft,  array_toList, G_true, G_tf, G_ft, yield_list, yield_here, yield_next, truth_bool, thenQ_normal, thenQ_exit, thenQ_ret, vres_some, hres_some, ures_some, abin_int, aint_eql, aint_neq, aint_lss, aint_leq, aint_gtr, aint_geq, aint_add, aint_sub, aput_some, aput_none, res_cell1, upd_at, aev_const, aev_tmp, aev_func,  Nat.reduceEqDiff, Nat.reduceLT, ofL_zero, ofL_succ, ofL_nil, res_nil, res_tmp, oneOf_one, oneOf_two, oneOf_three, Option.map_some, ne_eq, reduceCtorEq, not_false_eq_true, Option.some.injEq, exists_eq_left', List.map_cons, List.map_nil, goInt, not_true, true_and, Array.toList_empty, List.nil_append, List.append_nil, str_eql, str_neq', min_int, max_int, pairs, h6]
  · simp (disch := first | assumption | simp) only [↓W_seq, ↓W_region, ↓W_block, ↓W_cond, ↓W_skip, ↓W_ret, ↓W_exit, ↓O_op, ↓O_guardC, ↓O_nil, ↓aop, ↓after_val, ↓after_call, ↓then_normal, ↓then_ret, ↓then_exit, ↓blockQ_ret, ↓blockQ_normal, ↓blockQ_exit, ↓retQ_ret, ↓retQ_normal, ↓C_true, ↓C_false, ↓K_op, ↓reduceIte, ↓W_drawT, ↓T_op, ↓T_guard, ↓T_nil, ↓trK_iff, ↓consQ_iff, GT_true, GT_tf, GT_ft,  array_toList, G_true, G_tf, G_ft, yield_list, yield_here, yield_next, truth_bool, thenQ_normal, thenQ_exit, thenQ_ret, vres_some, hres_some, ures_some, abin_int, aint_eql, aint_neq, aint_lss, aint_leq, aint_gtr, aint_geq, aint_add, aint_sub, aput_some, aput_none, res_cell1, upd_at, aev_const, aev_tmp, aev_func,  Nat.reduceEqDiff, Nat.reduceLT, ofL_zero, ofL_succ, ofL_nil, res_nil, res_tmp, oneOf_one, oneOf_two, oneOf_three, Option.map_some, ne_eq, reduceCtorEq, not_false_eq_true, Option.some.injEq, exists_eq_left', List.map_cons, List.map_nil, goInt, not_true, true_and, Array.toList_empty, List.nil_append, List.append_nil, str_eql, str_neq', min_int, max_int, pairs]
  · simp (disch := first | assumption | simp) only [↓W_seq, ↓W_region, ↓W_block, ↓W_cond, ↓W_skip, ↓W_ret, ↓W_exit, ↓O_op, ↓O_guardC, ↓O_nil, ↓aop, ↓after_val, ↓after_call, ↓then_normal, ↓then_ret, ↓then_exit, ↓blockQ_ret, ↓blockQ_normal, ↓blockQ_exit, ↓retQ_ret, ↓retQ_normal, ↓C_true, ↓C_false, ↓K_op, ↓reduceIte, ↓W_drawT, ↓T_op, ↓T_guard, ↓T_nil, ↓trK_iff, ↓consQ_iff, GT_true, GT_tf, GT_ft,  array_toList, G_true, G_tf, G_ft, yield_list, yield_here, yield_next, truth_bool, thenQ_normal, thenQ_exit, thenQ_ret, vres_some, hres_some, ures_some, abin_int, aint_eql, aint_neq, aint_lss, aint_leq, aint_gtr, aint_geq, aint_add, aint_sub, aput_some, aput_none, res_cell1, upd_at, aev_const, aev_tmp, aev_func,  Nat.reduceEqDiff, Nat.reduceLT, ofL_zero, ofL_succ, ofL_nil, res_nil, res_tmp, oneOf_one, oneOf_two, oneOf_three, Option.map_some, ne_eq, reduceCtorEq, not_false_eq_true, Option.some.injEq, exists_eq_left', List.map_cons, List.map_nil, goInt, not_true, true_and, Array.toList_empty, List.nil_append, List.append_nil, str_eql, str_neq', min_int, max_int, pairs]
    simp; omega
theorem law4 (H : AHeap) (vs : List Value) (hB : Ext B H) (h : ArgsTyped E H 8 [3, 22] vs) : CallW E 4 vs H fun r _ => r = .bool true := by
  obtain ⟨v0, vs0, rfl, a0, h⟩ := h.cons'
  obtain ⟨v1, vs1, rfl, a1, h⟩ := h.cons'
  obtain rfl := h.nil'
  obtain ⟨x0, t0, rfl⟩ := a0.one ty3 rfl
  obtain ⟨x1, t1, rfl⟩ := a1.one ty22 rfl
  obtain ⟨m, rfl, _⟩ := typed_int t0
  obtain ⟨v, L, rfl, hs⟩ := typed_strs t1
  exact spec4 hB hs
end Go.Proofs.YtlmcjfnignbdoaaDoor.AbsA
