/-
  A part of a law's proof.
-/
import Derived.Test.YtlmcjfnignbdoaaDoorAUth
namespace Go.Proofs.YtlmcjfnignbdoaaDoor.AbsB
open Go AbsYtlmcjfnignbdoaaDoor Abs
set_option maxRecDepth 100000
set_option maxHeartbeats 2000000
set_option linter.unusedSimpArgs false
set_option linter.unusedVariables false
theorem typed_u8 {H : AHeap} {d : Nat} {xs : List Value} (h : Typed E H d 5 xs) : ∃ n : Nat, xs = [.int .u8 (n : Int)] ∧ n < 256 := by
  cases d with
  | zero => exact h.elim
  | succ d =>
    simp only [Typed, ty5] at h
    obtain ⟨m, rfl, hw⟩ := h
    simp only [Lit.wf, Bool.and_eq_true, decide_eq_true_eq] at hw
    have h1 : IntKind.u8.min = 0 := rfl
    have h2 : IntKind.u8.max = 255 := rfl
    rw [h1, h2] at hw
    exact ⟨m.toNat, by rw [show ((m.toNat : Nat) : Int) = m by omega], by omega⟩
theorem bytesOf_u8 (w : ByteArray) : bytesOf w = u8s (w.data.toList.map UInt8.toNat) := by
  simp only [bytesOf, u8s, List.map_map]; rfl
theorem okN_of {n : Int} (h : bytesF n ≠ emp) : ∃ N : Nat, n = N ∧ okN N ∧ bytesF n = str (encU N) := by
  by_cases ok : okN n
  · have hN : n = (n.toNat : Int) := by have := ok.1; omega
    exact ⟨n.toNat, hN, by rw [← hN]; exact ok, by rw [bytesF, if_pos ok]⟩
  · rw [bytesF, if_neg ok] at h; exact (h rfl).elim
theorem spec9 {n : Int} {c b : Nat} {H : AHeap} (hB : Ext B H) (hc : c < 256) (hb : b < 256) : CallW E 9 [.int .i64 n, .int .u8 (c : Int), .int .u8 (b : Int)] H fun r _ => r = .bool true := by
  refine call9 (by simp) ?_
  simp only [strip, bodyOf, Tryd.f9, getD_body, keepN, bareOp_mk, lessOp_mk, lapp_cons, lapp_nil, List.map_cons, List.map_nil, array_toList, ↓reduceIte, Nat.reduceEqDiff, Bool.false_eq_true]
  simp (disch := first | assumption | simp) only [↓W_seq, ↓W_region, ↓W_block, ↓W_cond, ↓W_skip, ↓W_ret, ↓W_exit, ↓O_op, ↓O_guardC, ↓O_nil, ↓aop, ↓after_val, ↓after_call, ↓then_normal, ↓then_ret, ↓then_exit, ↓blockQ_ret, ↓blockQ_normal, ↓blockQ_exit, ↓retQ_ret, ↓retQ_normal, ↓C_true, ↓C_false, ↓K_op, ↓reduceIte, ↓W_drawT, ↓T_op, ↓T_guard, ↓T_nil, ↓trK_iff, ↓consQ_iff, GT_true, GT_tf, GT_ft,  array_toList, G_true, G_tf, G_ft, yield_list, yield_here, yield_next, truth_bool, thenQ_normal, thenQ_exit, thenQ_ret, vres_some, hres_some, ures_some, abin_int, aint_eql, aint_neq, aint_lss, aint_leq, aint_gtr, aint_geq, aint_add, aint_sub, aput_some, aput_none, res_cell1, upd_at, aev_const, aev_tmp, aev_func,  Nat.reduceEqDiff, Nat.reduceLT, ofL_zero, ofL_succ, ofL_nil, res_nil, res_tmp, oneOf_one, oneOf_two, oneOf_three, Option.map_some, Option.map_none, ne_eq, reduceCtorEq, not_false_eq_true, Option.some.injEq, exists_eq_left', List.map_cons, List.map_nil, goInt, not_true, true_and, Array.toList_empty, List.nil_append, List.append_nil, G_undef, GT_undef, str_eql, str_neq', min_int, max_int, pairs]
  refine spec29.mono ?_
  rintro r H1 ⟨rfl, hx1⟩
  by_cases he : bytesF n = emp
  · have hed : decide (bytesF n = ⟨#[]⟩) = true := decide_eq_true he
    simp (disch := first | assumption | simp) only [↓W_seq, ↓W_region, ↓W_block, ↓W_cond, ↓W_skip, ↓W_ret, ↓W_exit, ↓O_op, ↓O_guardC, ↓O_nil, ↓aop, ↓after_val, ↓after_call, ↓then_normal, ↓then_ret, ↓then_exit, ↓blockQ_ret, ↓blockQ_normal, ↓blockQ_exit, ↓retQ_ret, ↓retQ_normal, ↓C_true, ↓C_false, ↓K_op, ↓reduceIte, ↓W_drawT, ↓T_op, ↓T_guard, ↓T_nil, ↓trK_iff, ↓consQ_iff, GT_true, GT_tf, GT_ft,  array_toList, G_true, G_tf, G_ft, yield_list, yield_here, yield_next, truth_bool, thenQ_normal, thenQ_exit, thenQ_ret, vres_some, hres_some, ures_some, abin_int, aint_eql, aint_neq, aint_lss, aint_leq, aint_gtr, aint_geq, aint_add, aint_sub, aput_some, aput_none, res_cell1, upd_at, aev_const, aev_tmp, aev_func,  Nat.reduceEqDiff, Nat.reduceLT, ofL_zero, ofL_succ, ofL_nil, res_nil, res_tmp, oneOf_one, oneOf_two, oneOf_three, Option.map_some, Option.map_none, ne_eq, reduceCtorEq, not_false_eq_true, Option.some.injEq, exists_eq_left', List.map_cons, List.map_nil, goInt, not_true, true_and, Array.toList_empty, List.nil_append, List.append_nil, G_undef, GT_undef, str_eql, str_neq', min_int, max_int, pairs, hed]
    refine spec30 (hB.trans hx1) ?_
    simp (disch := first | assumption | simp) only [↓W_seq, ↓W_region, ↓W_block, ↓W_cond, ↓W_skip, ↓W_ret, ↓W_exit, ↓O_op, ↓O_guardC, ↓O_nil, ↓aop, ↓after_val, ↓after_call, ↓then_normal, ↓then_ret, ↓then_exit, ↓blockQ_ret, ↓blockQ_normal, ↓blockQ_exit, ↓retQ_ret, ↓retQ_normal, ↓C_true, ↓C_false, ↓K_op, ↓reduceIte, ↓W_drawT, ↓T_op, ↓T_guard, ↓T_nil, ↓trK_iff, ↓consQ_iff, GT_true, GT_tf, GT_ft,  array_toList, G_true, G_tf, G_ft, yield_list, yield_here, yield_next, truth_bool, thenQ_normal, thenQ_exit, thenQ_ret, vres_some, hres_some, ures_some, abin_int, aint_eql, aint_neq, aint_lss, aint_leq, aint_gtr, aint_geq, aint_add, aint_sub, aput_some, aput_none, res_cell1, upd_at, aev_const, aev_tmp, aev_func,  Nat.reduceEqDiff, Nat.reduceLT, ofL_zero, ofL_succ, ofL_nil, res_nil, res_tmp, oneOf_one, oneOf_two, oneOf_three, Option.map_some, Option.map_none, ne_eq, reduceCtorEq, not_false_eq_true, Option.some.injEq, exists_eq_left', List.map_cons, List.map_nil, goInt, not_true, true_and, Array.toList_empty, List.nil_append, List.append_nil, G_undef, GT_undef, str_eql, str_neq', min_int, max_int, pairs]
  have hed : decide (bytesF n = ⟨#[]⟩) = false := decide_eq_false he
  obtain ⟨N, rfl, ok, hs⟩ := okN_of he
  rw [hs] at hed ⊢
  have hl := encU_len N
  have hB1 := hB.trans hx1
  obtain ⟨len, hlen⟩ : ∃ x, x = (encU N).length := ⟨_, rfl⟩
  have hsz : (str (encU N)).size = len := by rw [str_size, hlen]
  rw [← hlen] at hl
  have hr : aint .rem .i64 (c : Int) (len : Int) = some (.int .i64 ((c % len : Nat) : Int)) := remN (by omega)
  have hk : c % len < len := Nat.mod_lt _ (by omega)
  generalize c % len = k at hr hk
  have hst := st_cell (E := E) (H := H1.alloc (.cells (bytesOf (str (encU N))) true 1)) (t := 5) (b := H1.size) (o := k) (v := .int .u8 (b : Int)) ty5 rfl (AHeap.get_alloc_same _ _) (by rw [bytesOf_u8, u8s_len, List.length_map, Array.length_toList]; show k < (str (encU N)).size; omega) rfl rfl
  rw [splice_one (by rw [bytesOf_u8, u8s_len, List.length_map, Array.length_toList]; show k < (str (encU N)).size; omega), bytesOf_u8, u8s_set] at hst
  obtain ⟨l2, hl2⟩ : ∃ x, x = ((str (encU N)).data.toList.map UInt8.toNat).set k b := ⟨_, rfl⟩
  rw [← hl2, ← bytesOf_u8] at hst
  have hl2n : len = l2.length := by
    rw [hl2, List.length_set, List.length_map, Array.length_toList]
    exact hsz.symm
  have hx2 : Ext H1 ((H1.alloc (.cells (bytesOf (str (encU N))) true 1)).set H1.size (.cells (u8s l2) true 1)) := ⟨by rw [AHeap.size_set, AHeap.size_alloc]; omega, fun d hd => by rw [AHeap.get_set_ne _ _ (by omega), AHeap.get_alloc_ne _ _ (by omega)]⟩
  have hg2 := AHeap.get_set_same (H1.alloc (.cells (bytesOf (str (encU N))) true 1)) H1.size (.cells (u8s l2) true 1)
  simp (disch := first | assumption | simp) only [↓W_seq, ↓W_region, ↓W_block, ↓W_cond, ↓W_skip, ↓W_ret, ↓W_exit, ↓O_op, ↓O_guardC, ↓O_nil, ↓aop, ↓after_val, ↓after_call, ↓then_normal, ↓then_ret, ↓then_exit, ↓blockQ_ret, ↓blockQ_normal, ↓blockQ_exit, ↓retQ_ret, ↓retQ_normal, ↓C_true, ↓C_false, ↓K_op, ↓reduceIte, ↓W_drawT, ↓T_op, ↓T_guard, ↓T_nil, ↓trK_iff, ↓consQ_iff, GT_true, GT_tf, GT_ft,  array_toList, G_true, G_tf, G_ft, yield_list, yield_here, yield_next, truth_bool, thenQ_normal, thenQ_exit, thenQ_ret, vres_some, hres_some, ures_some, abin_int, aint_eql, aint_neq, aint_lss, aint_leq, aint_gtr, aint_geq, aint_add, aint_sub, aput_some, aput_none, res_cell1, upd_at, aev_const, aev_tmp, aev_func,  Nat.reduceEqDiff, Nat.reduceLT, ofL_zero, ofL_succ, ofL_nil, res_nil, res_tmp, oneOf_one, oneOf_two, oneOf_three, Option.map_some, Option.map_none, ne_eq, reduceCtorEq, not_false_eq_true, Option.some.injEq, exists_eq_left', List.map_cons, List.map_nil, goInt, not_true, true_and, Array.toList_empty, List.nil_append, List.append_nil, G_undef, GT_undef, str_eql, str_neq', min_int, max_int, pairs, hed, conv_i64 hc, len_str ty9, hsz, hr, conv_bytes, ia_slice ty71 ty5 hk, Nat.zero_add, Nat.mul_one, hst]
  generalize (H1.alloc (.cells (bytesOf (str (encU N))) true 1)).set H1.size (.cells (u8s l2) true 1) = H2 at hx2 hg2
  have hB2 := hB1.trans hx2
  simp (disch := first | assumption | simp) only [↓W_seq, ↓W_region, ↓W_block, ↓W_cond, ↓W_skip, ↓W_ret, ↓W_exit, ↓O_op, ↓O_guardC, ↓O_nil, ↓aop, ↓after_val, ↓after_call, ↓then_normal, ↓then_ret, ↓then_exit, ↓blockQ_ret, ↓blockQ_normal, ↓blockQ_exit, ↓retQ_ret, ↓retQ_normal, ↓C_true, ↓C_false, ↓K_op, ↓reduceIte, ↓W_drawT, ↓T_op, ↓T_guard, ↓T_nil, ↓trK_iff, ↓consQ_iff, GT_true, GT_tf, GT_ft,  array_toList, G_true, G_tf, G_ft, yield_list, yield_here, yield_next, truth_bool, thenQ_normal, thenQ_exit, thenQ_ret, vres_some, hres_some, ures_some, abin_int, aint_eql, aint_neq, aint_lss, aint_leq, aint_gtr, aint_geq, aint_add, aint_sub, aput_some, aput_none, res_cell1, upd_at, aev_const, aev_tmp, aev_func,  Nat.reduceEqDiff, Nat.reduceLT, ofL_zero, ofL_succ, ofL_nil, res_nil, res_tmp, oneOf_one, oneOf_two, oneOf_three, Option.map_some, Option.map_none, ne_eq, reduceCtorEq, not_false_eq_true, Option.some.injEq, exists_eq_left', List.map_cons, List.map_nil, goInt, not_true, true_and, Array.toList_empty, List.nil_append, List.append_nil, G_undef, GT_undef, str_eql, str_neq', min_int, max_int, pairs, conv_str hg2 hl2n]
  have ht : (str l2).size ≤ 100000 := by rw [str_size]; omega
  refine (spec31 hB2 (by omega)).mono ?_
  rintro r H3 ⟨hx3, hr3⟩
  rw [letter_text ok] at hr3
  subst hr3
  have hB3 := hB2.trans hx3
  have h11 : decide (((1 : Nat) : Int) = 1) = true := rfl
  -- behind what is asked of the part
  have tail : ∀ {H4 : AHeap}, Ext B H4 → True := fun _ => trivial
  by_cases hk0 : k = 0
  · have hkd : decide ((k : Int) = 0) = true := by rw [hk0]; rfl
    simp (disch := first | assumption | simp) only [↓W_seq, ↓W_region, ↓W_block, ↓W_cond, ↓W_skip, ↓W_ret, ↓W_exit, ↓O_op, ↓O_guardC, ↓O_nil, ↓aop, ↓after_val, ↓after_call, ↓then_normal, ↓then_ret, ↓then_exit, ↓blockQ_ret, ↓blockQ_normal, ↓blockQ_exit, ↓retQ_ret, ↓retQ_normal, ↓C_true, ↓C_false, ↓K_op, ↓reduceIte, ↓W_drawT, ↓T_op, ↓T_guard, ↓T_nil, ↓trK_iff, ↓consQ_iff, GT_true, GT_tf, GT_ft,  array_toList, G_true, G_tf, G_ft, yield_list, yield_here, yield_next, truth_bool, thenQ_normal, thenQ_exit, thenQ_ret, vres_some, hres_some, ures_some, abin_int, aint_eql, aint_neq, aint_lss, aint_leq, aint_gtr, aint_geq, aint_add, aint_sub, aput_some, aput_none, res_cell1, upd_at, aev_const, aev_tmp, aev_func,  Nat.reduceEqDiff, Nat.reduceLT, ofL_zero, ofL_succ, ofL_nil, res_nil, res_tmp, oneOf_one, oneOf_two, oneOf_three, Option.map_some, Option.map_none, ne_eq, reduceCtorEq, not_false_eq_true, Option.some.injEq, exists_eq_left', List.map_cons, List.map_nil, goInt, not_true, true_and, Array.toList_empty, List.nil_append, List.append_nil, G_undef, GT_undef, str_eql, str_neq', min_int, max_int, pairs, tup0, tup1, h11, niface_eql ty39 rfl, isConst, Bool.or_true, hkd]
    refine (spec32 hB3 ht).mono ?_
    rintro e H4 ⟨hx4, he4⟩
    have hB4 := hB3.trans hx4
    have heq : ∀ K, abin E K .eql 39 true e .nilIface = some (.bool (isText (str l2))) := fun K => by
      unfold isText
      cases hT : textF (str l2) with
      | inl n => rw [hT] at he4; subst he4; exact niface_eql ty39 rfl
      | inr q => obtain ⟨k', p⟩ := q; rw [hT] at he4; obtain ⟨b', wr, rfl, _⟩ := he4; exact iface_eql ty39 rfl
    simp (disch := first | assumption | simp) only [↓W_seq, ↓W_region, ↓W_block, ↓W_cond, ↓W_skip, ↓W_ret, ↓W_exit, ↓O_op, ↓O_guardC, ↓O_nil, ↓aop, ↓after_val, ↓after_call, ↓then_normal, ↓then_ret, ↓then_exit, ↓blockQ_ret, ↓blockQ_normal, ↓blockQ_exit, ↓retQ_ret, ↓retQ_normal, ↓C_true, ↓C_false, ↓K_op, ↓reduceIte, ↓W_drawT, ↓T_op, ↓T_guard, ↓T_nil, ↓trK_iff, ↓consQ_iff, GT_true, GT_tf, GT_ft,  array_toList, G_true, G_tf, G_ft, yield_list, yield_here, yield_next, truth_bool, thenQ_normal, thenQ_exit, thenQ_ret, vres_some, hres_some, ures_some, abin_int, aint_eql, aint_neq, aint_lss, aint_leq, aint_gtr, aint_geq, aint_add, aint_sub, aput_some, aput_none, res_cell1, upd_at, aev_const, aev_tmp, aev_func,  Nat.reduceEqDiff, Nat.reduceLT, ofL_zero, ofL_succ, ofL_nil, res_nil, res_tmp, oneOf_one, oneOf_two, oneOf_three, Option.map_some, Option.map_none, ne_eq, reduceCtorEq, not_false_eq_true, Option.some.injEq, exists_eq_left', List.map_cons, List.map_nil, goInt, not_true, true_and, Array.toList_empty, List.nil_append, List.append_nil, G_undef, GT_undef, str_eql, str_neq', min_int, max_int, pairs, heq, isConst, Bool.or_true]
    refine (spec33 ht).mono ?_
    rintro r H5 ⟨hx5, rfl⟩
    have hbe : ∀ x : Bool, (x == x) = true := fun x => by simp
    simp (disch := first | assumption | simp) only [↓W_seq, ↓W_region, ↓W_block, ↓W_cond, ↓W_skip, ↓W_ret, ↓W_exit, ↓O_op, ↓O_guardC, ↓O_nil, ↓aop, ↓after_val, ↓after_call, ↓then_normal, ↓then_ret, ↓then_exit, ↓blockQ_ret, ↓blockQ_normal, ↓blockQ_exit, ↓retQ_ret, ↓retQ_normal, ↓C_true, ↓C_false, ↓K_op, ↓reduceIte, ↓W_drawT, ↓T_op, ↓T_guard, ↓T_nil, ↓trK_iff, ↓consQ_iff, GT_true, GT_tf, GT_ft,  array_toList, G_true, G_tf, G_ft, yield_list, yield_here, yield_next, truth_bool, thenQ_normal, thenQ_exit, thenQ_ret, vres_some, hres_some, ures_some, abin_int, aint_eql, aint_neq, aint_lss, aint_leq, aint_gtr, aint_geq, aint_add, aint_sub, aput_some, aput_none, res_cell1, upd_at, aev_const, aev_tmp, aev_func,  Nat.reduceEqDiff, Nat.reduceLT, ofL_zero, ofL_succ, ofL_nil, res_nil, res_tmp, oneOf_one, oneOf_two, oneOf_three, Option.map_some, Option.map_none, ne_eq, reduceCtorEq, not_false_eq_true, Option.some.injEq, exists_eq_left', List.map_cons, List.map_nil, goInt, not_true, true_and, Array.toList_empty, List.nil_append, List.append_nil, G_undef, GT_undef, str_eql, str_neq', min_int, max_int, pairs, bool_eql ty4, hbe]
    refine spec30 (hB4.trans hx5) ?_
    simp (disch := first | assumption | simp) only [↓W_seq, ↓W_region, ↓W_block, ↓W_cond, ↓W_skip, ↓W_ret, ↓W_exit, ↓O_op, ↓O_guardC, ↓O_nil, ↓aop, ↓after_val, ↓after_call, ↓then_normal, ↓then_ret, ↓then_exit, ↓blockQ_ret, ↓blockQ_normal, ↓blockQ_exit, ↓retQ_ret, ↓retQ_normal, ↓C_true, ↓C_false, ↓K_op, ↓reduceIte, ↓W_drawT, ↓T_op, ↓T_guard, ↓T_nil, ↓trK_iff, ↓consQ_iff, GT_true, GT_tf, GT_ft,  array_toList, G_true, G_tf, G_ft, yield_list, yield_here, yield_next, truth_bool, thenQ_normal, thenQ_exit, thenQ_ret, vres_some, hres_some, ures_some, abin_int, aint_eql, aint_neq, aint_lss, aint_leq, aint_gtr, aint_geq, aint_add, aint_sub, aput_some, aput_none, res_cell1, upd_at, aev_const, aev_tmp, aev_func,  Nat.reduceEqDiff, Nat.reduceLT, ofL_zero, ofL_succ, ofL_nil, res_nil, res_tmp, oneOf_one, oneOf_two, oneOf_three, Option.map_some, Option.map_none, ne_eq, reduceCtorEq, not_false_eq_true, Option.some.injEq, exists_eq_left', List.map_cons, List.map_nil, goInt, not_true, true_and, Array.toList_empty, List.nil_append, List.append_nil, G_undef, GT_undef, str_eql, str_neq', min_int, max_int, pairs]
    refine drawQ_of (fl := [(20, 22)]) (by kernel_rfl) ⟨?_, _, _, rfl, ?_⟩
    · have hrd : e = .nilIface ∨ ∃ u v, e = .iface u v := by
        cases hT : textF (str l2) with
        | inl n => rw [hT] at he4; subst he4; exact .inl rfl
        | inr q => obtain ⟨k', p⟩ := q; rw [hT] at he4; obtain ⟨b', wr, rfl, _⟩ := he4; exact .inr ⟨_, _, rfl⟩
      clear he4 heq
      rcases hrd with rfl | ⟨u, v, rfl⟩
      · simp only [List.all_cons, List.all_nil, floatOk, List.getElem?_cons_succ, List.getElem?_cons_zero, List.getElem?_toArray, Region.wanted, Bool.not_true, Bool.false_or, reads, looksWeak, aev_tmp, aev_const, upd_at, ↓reduceIte, Nat.reduceEqDiff, Nat.reduceLT, Nat.reduceAdd, ofL_zero, ofL_succ, blkOf, oeq_refl, oeq_of, Bool.and_true, Bool.and_self, Bool.false_eq_true, isEq, List.nil_append, List.all_nil, Bool.or_true]
      · simp only [List.all_cons, List.all_nil, floatOk, List.getElem?_cons_succ, List.getElem?_cons_zero, List.getElem?_toArray, Region.wanted, Bool.not_true, Bool.false_or, reads, looksWeak, aev_tmp, aev_const, upd_at, ↓reduceIte, Nat.reduceEqDiff, Nat.reduceLT, Nat.reduceAdd, ofL_zero, ofL_succ, blkOf, oeq_refl, oeq_of, Bool.and_true, Bool.and_self, Bool.false_eq_true, isEq, List.nil_append, List.all_nil, Bool.or_true]
    · simp (disch := first | assumption | simp) only [↓W_seq, ↓W_region, ↓W_block, ↓W_cond, ↓W_skip, ↓W_ret, ↓W_exit, ↓O_op, ↓O_guardC, ↓O_nil, ↓aop, ↓after_val, ↓after_call, ↓then_normal, ↓then_ret, ↓then_exit, ↓blockQ_ret, ↓blockQ_normal, ↓blockQ_exit, ↓retQ_ret, ↓retQ_normal, ↓C_true, ↓C_false, ↓K_op, ↓reduceIte, ↓W_drawT, ↓T_op, ↓T_guard, ↓T_nil, ↓trK_iff, ↓consQ_iff, GT_true, GT_tf, GT_ft,  array_toList, G_true, G_tf, G_ft, yield_list, yield_here, yield_next, truth_bool, thenQ_normal, thenQ_exit, thenQ_ret, vres_some, hres_some, ures_some, abin_int, aint_eql, aint_neq, aint_lss, aint_leq, aint_gtr, aint_geq, aint_add, aint_sub, aput_some, aput_none, res_cell1, upd_at, aev_const, aev_tmp, aev_func,  Nat.reduceEqDiff, Nat.reduceLT, ofL_zero, ofL_succ, ofL_nil, res_nil, res_tmp, oneOf_one, oneOf_two, oneOf_three, Option.map_some, Option.map_none, ne_eq, reduceCtorEq, not_false_eq_true, Option.some.injEq, exists_eq_left', List.map_cons, List.map_nil, goInt, not_true, true_and, Array.toList_empty, List.nil_append, List.append_nil, G_undef, GT_undef, str_eql, str_neq', min_int, max_int, pairs]
  · have hkd : decide ((k : Int) = 0) = false := by rw [decide_eq_false_iff_not]; omega
    simp (disch := first | assumption | simp) only [↓W_seq, ↓W_region, ↓W_block, ↓W_cond, ↓W_skip, ↓W_ret, ↓W_exit, ↓O_op, ↓O_guardC, ↓O_nil, ↓aop, ↓after_val, ↓after_call, ↓then_normal, ↓then_ret, ↓then_exit, ↓blockQ_ret, ↓blockQ_normal, ↓blockQ_exit, ↓retQ_ret, ↓retQ_normal, ↓C_true, ↓C_false, ↓K_op, ↓reduceIte, ↓W_drawT, ↓T_op, ↓T_guard, ↓T_nil, ↓trK_iff, ↓consQ_iff, GT_true, GT_tf, GT_ft,  array_toList, G_true, G_tf, G_ft, yield_list, yield_here, yield_next, truth_bool, thenQ_normal, thenQ_exit, thenQ_ret, vres_some, hres_some, ures_some, abin_int, aint_eql, aint_neq, aint_lss, aint_leq, aint_gtr, aint_geq, aint_add, aint_sub, aput_some, aput_none, res_cell1, upd_at, aev_const, aev_tmp, aev_func,  Nat.reduceEqDiff, Nat.reduceLT, ofL_zero, ofL_succ, ofL_nil, res_nil, res_tmp, oneOf_one, oneOf_two, oneOf_three, Option.map_some, Option.map_none, ne_eq, reduceCtorEq, not_false_eq_true, Option.some.injEq, exists_eq_left', List.map_cons, List.map_nil, goInt, not_true, true_and, Array.toList_empty, List.nil_append, List.append_nil, G_undef, GT_undef, str_eql, str_neq', min_int, max_int, pairs, tup0, tup1, h11, niface_eql ty39 rfl, isConst, Bool.or_true, hkd, slice_to (E := E) (H := H3) ty9 (s := str (encU N)) (k := k) (by omega)]
    refine (spec32 hB3 (by rw [ByteArray.size_extract]; omega)).mono ?_
    rintro e0 H4 ⟨hx4, he0⟩
    rw [letter_part ok (by omega) (by omega)] at he0
    have hne0 : ∀ K, abin E K .neq 39 true e0 .nilIface = some (.bool true) := fun K => by obtain ⟨b', wr, rfl, _⟩ := he0; exact iface_neq ty39 rfl
    have hB4 := hB3.trans hx4
    simp (disch := first | assumption | simp) only [↓W_seq, ↓W_region, ↓W_block, ↓W_cond, ↓W_skip, ↓W_ret, ↓W_exit, ↓O_op, ↓O_guardC, ↓O_nil, ↓aop, ↓after_val, ↓after_call, ↓then_normal, ↓then_ret, ↓then_exit, ↓blockQ_ret, ↓blockQ_normal, ↓blockQ_exit, ↓retQ_ret, ↓retQ_normal, ↓C_true, ↓C_false, ↓K_op, ↓reduceIte, ↓W_drawT, ↓T_op, ↓T_guard, ↓T_nil, ↓trK_iff, ↓consQ_iff, GT_true, GT_tf, GT_ft,  array_toList, G_true, G_tf, G_ft, yield_list, yield_here, yield_next, truth_bool, thenQ_normal, thenQ_exit, thenQ_ret, vres_some, hres_some, ures_some, abin_int, aint_eql, aint_neq, aint_lss, aint_leq, aint_gtr, aint_geq, aint_add, aint_sub, aput_some, aput_none, res_cell1, upd_at, aev_const, aev_tmp, aev_func,  Nat.reduceEqDiff, Nat.reduceLT, ofL_zero, ofL_succ, ofL_nil, res_nil, res_tmp, oneOf_one, oneOf_two, oneOf_three, Option.map_some, Option.map_none, ne_eq, reduceCtorEq, not_false_eq_true, Option.some.injEq, exists_eq_left', List.map_cons, List.map_nil, goInt, not_true, true_and, Array.toList_empty, List.nil_append, List.append_nil, G_undef, GT_undef, str_eql, str_neq', min_int, max_int, pairs, hne0, isConst, Bool.or_true]
    refine (spec32 hB4 ht).mono ?_
    rintro e H5 ⟨hx5, he4⟩
    have hB5 := hB4.trans hx5
    have heq : ∀ K, abin E K .eql 39 true e .nilIface = some (.bool (isText (str l2))) := fun K => by
      unfold isText
      cases hT : textF (str l2) with
      | inl n => rw [hT] at he4; subst he4; exact niface_eql ty39 rfl
      | inr q => obtain ⟨k', p⟩ := q; rw [hT] at he4; obtain ⟨b', wr, rfl, _⟩ := he4; exact iface_eql ty39 rfl
    simp (disch := first | assumption | simp) only [↓W_seq, ↓W_region, ↓W_block, ↓W_cond, ↓W_skip, ↓W_ret, ↓W_exit, ↓O_op, ↓O_guardC, ↓O_nil, ↓aop, ↓after_val, ↓after_call, ↓then_normal, ↓then_ret, ↓then_exit, ↓blockQ_ret, ↓blockQ_normal, ↓blockQ_exit, ↓retQ_ret, ↓retQ_normal, ↓C_true, ↓C_false, ↓K_op, ↓reduceIte, ↓W_drawT, ↓T_op, ↓T_guard, ↓T_nil, ↓trK_iff, ↓consQ_iff, GT_true, GT_tf, GT_ft,  array_toList, G_true, G_tf, G_ft, yield_list, yield_here, yield_next, truth_bool, thenQ_normal, thenQ_exit, thenQ_ret, vres_some, hres_some, ures_some, abin_int, aint_eql, aint_neq, aint_lss, aint_leq, aint_gtr, aint_geq, aint_add, aint_sub, aput_some, aput_none, res_cell1, upd_at, aev_const, aev_tmp, aev_func,  Nat.reduceEqDiff, Nat.reduceLT, ofL_zero, ofL_succ, ofL_nil, res_nil, res_tmp, oneOf_one, oneOf_two, oneOf_three, Option.map_some, Option.map_none, ne_eq, reduceCtorEq, not_false_eq_true, Option.some.injEq, exists_eq_left', List.map_cons, List.map_nil, goInt, not_true, true_and, Array.toList_empty, List.nil_append, List.append_nil, G_undef, GT_undef, str_eql, str_neq', min_int, max_int, pairs, heq, isConst, Bool.or_true]
    refine (spec33 ht).mono ?_
    rintro r H6 ⟨hx6, rfl⟩
    have hbe : ∀ x : Bool, (x == x) = true := fun x => by simp
    simp (disch := first | assumption | simp) only [↓W_seq, ↓W_region, ↓W_block, ↓W_cond, ↓W_skip, ↓W_ret, ↓W_exit, ↓O_op, ↓O_guardC, ↓O_nil, ↓aop, ↓after_val, ↓after_call, ↓then_normal, ↓then_ret, ↓then_exit, ↓blockQ_ret, ↓blockQ_normal, ↓blockQ_exit, ↓retQ_ret, ↓retQ_normal, ↓C_true, ↓C_false, ↓K_op, ↓reduceIte, ↓W_drawT, ↓T_op, ↓T_guard, ↓T_nil, ↓trK_iff, ↓consQ_iff, GT_true, GT_tf, GT_ft,  array_toList, G_true, G_tf, G_ft, yield_list, yield_here, yield_next, truth_bool, thenQ_normal, thenQ_exit, thenQ_ret, vres_some, hres_some, ures_some, abin_int, aint_eql, aint_neq, aint_lss, aint_leq, aint_gtr, aint_geq, aint_add, aint_sub, aput_some, aput_none, res_cell1, upd_at, aev_const, aev_tmp, aev_func,  Nat.reduceEqDiff, Nat.reduceLT, ofL_zero, ofL_succ, ofL_nil, res_nil, res_tmp, oneOf_one, oneOf_two, oneOf_three, Option.map_some, Option.map_none, ne_eq, reduceCtorEq, not_false_eq_true, Option.some.injEq, exists_eq_left', List.map_cons, List.map_nil, goInt, not_true, true_and, Array.toList_empty, List.nil_append, List.append_nil, G_undef, GT_undef, str_eql, str_neq', min_int, max_int, pairs, bool_eql ty4, hbe]
    refine spec30 (hB5.trans hx6) ?_
    simp (disch := first | assumption | simp) only [↓W_seq, ↓W_region, ↓W_block, ↓W_cond, ↓W_skip, ↓W_ret, ↓W_exit, ↓O_op, ↓O_guardC, ↓O_nil, ↓aop, ↓after_val, ↓after_call, ↓then_normal, ↓then_ret, ↓then_exit, ↓blockQ_ret, ↓blockQ_normal, ↓blockQ_exit, ↓retQ_ret, ↓retQ_normal, ↓C_true, ↓C_false, ↓K_op, ↓reduceIte, ↓W_drawT, ↓T_op, ↓T_guard, ↓T_nil, ↓trK_iff, ↓consQ_iff, GT_true, GT_tf, GT_ft,  array_toList, G_true, G_tf, G_ft, yield_list, yield_here, yield_next, truth_bool, thenQ_normal, thenQ_exit, thenQ_ret, vres_some, hres_some, ures_some, abin_int, aint_eql, aint_neq, aint_lss, aint_leq, aint_gtr, aint_geq, aint_add, aint_sub, aput_some, aput_none, res_cell1, upd_at, aev_const, aev_tmp, aev_func,  Nat.reduceEqDiff, Nat.reduceLT, ofL_zero, ofL_succ, ofL_nil, res_nil, res_tmp, oneOf_one, oneOf_two, oneOf_three, Option.map_some, Option.map_none, ne_eq, reduceCtorEq, not_false_eq_true, Option.some.injEq, exists_eq_left', List.map_cons, List.map_nil, goInt, not_true, true_and, Array.toList_empty, List.nil_append, List.append_nil, G_undef, GT_undef, str_eql, str_neq', min_int, max_int, pairs]
    refine drawQ_of (fl := [(20, 22)]) (by kernel_rfl) ⟨?_, _, _, rfl, ?_⟩
    · have hrd : e = .nilIface ∨ ∃ u v, e = .iface u v := by
        cases hT : textF (str l2) with
        | inl n => rw [hT] at he4; subst he4; exact .inl rfl
        | inr q => obtain ⟨k', p⟩ := q; rw [hT] at he4; obtain ⟨b', wr, rfl, _⟩ := he4; exact .inr ⟨_, _, rfl⟩
      clear he4 heq
      rcases hrd with rfl | ⟨u, v, rfl⟩
      · simp only [List.all_cons, List.all_nil, floatOk, List.getElem?_cons_succ, List.getElem?_cons_zero, List.getElem?_toArray, Region.wanted, Bool.not_true, Bool.false_or, reads, looksWeak, aev_tmp, aev_const, upd_at, ↓reduceIte, Nat.reduceEqDiff, Nat.reduceLT, Nat.reduceAdd, ofL_zero, ofL_succ, blkOf, oeq_refl, oeq_of, Bool.and_true, Bool.and_self, Bool.false_eq_true, isEq, List.nil_append, List.all_nil, Bool.or_true]
      · simp only [List.all_cons, List.all_nil, floatOk, List.getElem?_cons_succ, List.getElem?_cons_zero, List.getElem?_toArray, Region.wanted, Bool.not_true, Bool.false_or, reads, looksWeak, aev_tmp, aev_const, upd_at, ↓reduceIte, Nat.reduceEqDiff, Nat.reduceLT, Nat.reduceAdd, ofL_zero, ofL_succ, blkOf, oeq_refl, oeq_of, Bool.and_true, Bool.and_self, Bool.false_eq_true, isEq, List.nil_append, List.all_nil, Bool.or_true]
    · simp (disch := first | assumption | simp) only [↓W_seq, ↓W_region, ↓W_block, ↓W_cond, ↓W_skip, ↓W_ret, ↓W_exit, ↓O_op, ↓O_guardC, ↓O_nil, ↓aop, ↓after_val, ↓after_call, ↓then_normal, ↓then_ret, ↓then_exit, ↓blockQ_ret, ↓blockQ_normal, ↓blockQ_exit, ↓retQ_ret, ↓retQ_normal, ↓C_true, ↓C_false, ↓K_op, ↓reduceIte, ↓W_drawT, ↓T_op, ↓T_guard, ↓T_nil, ↓trK_iff, ↓consQ_iff, GT_true, GT_tf, GT_ft,  array_toList, G_true, G_tf, G_ft, yield_list, yield_here, yield_next, truth_bool, thenQ_normal, thenQ_exit, thenQ_ret, vres_some, hres_some, ures_some, abin_int, aint_eql, aint_neq, aint_lss, aint_leq, aint_gtr, aint_geq, aint_add, aint_sub, aput_some, aput_none, res_cell1, upd_at, aev_const, aev_tmp, aev_func,  Nat.reduceEqDiff, Nat.reduceLT, ofL_zero, ofL_succ, ofL_nil, res_nil, res_tmp, oneOf_one, oneOf_two, oneOf_three, Option.map_some, Option.map_none, ne_eq, reduceCtorEq, not_false_eq_true, Option.some.injEq, exists_eq_left', List.map_cons, List.map_nil, goInt, not_true, true_and, Array.toList_empty, List.nil_append, List.append_nil, G_undef, GT_undef, str_eql, str_neq', min_int, max_int, pairs]
theorem law9 (H : AHeap) (vs : List Value) (hB : Ext B H) (h : ArgsTyped E H 8 [3, 5, 5] vs) : CallW E 9 vs H fun r _ => r = .bool true := by
  obtain ⟨v0, vs0, rfl, a0, h⟩ := h.cons'
  obtain ⟨v1, vs1, rfl, a1, h⟩ := h.cons'
  obtain ⟨v2, vs2, rfl, a2, h⟩ := h.cons'
  obtain rfl := h.nil'
  obtain ⟨x0, t0, rfl⟩ := a0.one ty3 rfl
  obtain ⟨x1, t1, rfl⟩ := a1.one ty5 rfl
  obtain ⟨x2, t2, rfl⟩ := a2.one ty5 rfl
  obtain ⟨n, rfl, _⟩ := typed_int t0
  obtain ⟨c, rfl, hc⟩ := typed_u8 t1
  obtain ⟨b, rfl, hb⟩ := typed_u8 t2
  exact spec9 hB hc hb
end Go.Proofs.YtlmcjfnignbdoaaDoor.AbsB
