/-
  A part of a law's proof.
-/
import Derived.Test.YtlmcjfnignbdoaaAPg
namespace Go.Proofs.Ytlmcjfnignbdoaa.Abs
open Go AbsYtlmcjfnignbdoaa
set_option maxRecDepth 100000
set_option maxHeartbeats 4000000
set_option linter.unusedSimpArgs false
set_option linter.unusedVariables false
theorem spec33 {H : AHeap} {m : Msg} {s1 s2 : Value} (h1 : Mem H m s1) (h2 : Mem H m s2) : CallW E 33 [.agg (m.v s1).toArray, .agg (m.v s2).toArray] H fun r H' => r = .bool true ∧ Ext H H' := by
  refine call33 (by simp) ?_
  simp only [strip, bodyOf, Try.f33, getD_body, keepN, bareOp_mk, lessOp_mk, lapp_cons, lapp_nil, List.map_cons, List.map_nil, array_toList, ↓reduceIte, Nat.reduceEqDiff, Bool.false_eq_true]
  have hv1 : vcells (.agg (m.v s1).toArray) = m.v s1 := rfl
  have hv2 : vcells (.agg (m.v s2).toArray) = m.v s2 := rfl
  have hx : Ext H ((H.alloc (.cells (m.v s1) true 0)).alloc (.cells (m.v s2) true 0)) := (Ext.alloc _ _).trans (Ext.alloc _ _)
  have hg : ((H.alloc (.cells (m.v s1) true 0)).alloc (.cells (m.v s2) true 0)).get H.size = .cells (m.v s1) true 0 := by rw [AHeap.get_alloc_ne _ _ (by rw [AHeap.size_alloc]; omega)]; exact AHeap.get_alloc_same _ _
  have hg' : ((H.alloc (.cells (m.v s1) true 0)).alloc (.cells (m.v s2) true 0)).get (H.size + 1) = .cells (m.v s2) true 0 := AHeap.get_alloc_same _ _
  have m0 : ∀ s, (m.v s)[0]? = some (.string m.t) := fun _ => rfl
  have m1 : ∀ s, (m.v s)[1]? = some (.string m.p) := fun _ => rfl
  have m2 : ∀ s, (m.v s)[2]? = some (.int .i64 m.q) := fun _ => rfl
  have m3 : ∀ s, (m.v s)[3]? = some (.bool m.rt) := fun _ => rfl
  have m4 : ∀ s, (m.v s)[4]? = some s := fun _ => rfl
  have m5 : ∀ s, (m.v s)[5]? = some (.string m.fr) := fun _ => rfl
  have m6 : ∀ s, (m.v s)[6]? = some (.int .i64 m.un) := fun _ => rfl
  have m7 : ∀ s, (m.v s)[7]? = some (.int .i64 m.sq) := fun _ => rfl
  have m8 : ∀ s, (m.v s)[8]? = some (.string m.g) := fun _ => rfl
  have k1 := (h1.keep (hx.did (D := fun _ => False)).kept)
  have k2 := (h2.keep (hx.did (D := fun _ => False)).kept)
  have sz : (H.alloc (.cells (m.v s1) true 0)).size = H.size + 1 := AHeap.size_alloc _ _
  generalize hH : (H.alloc (.cells (m.v s1) true 0)).alloc (.cells (m.v s2) true 0) = H1 at *
  simp (disch := first | assumption | simp) only [↓wbD, wbU, ↓aop, ↓reduceIte, Nat.reduceEqDiff, Nat.reduceLT, reduceCtorEq, goInt, pairs, hv1, hv2, sz, hH, fa31_0, fa31_1, fa31_2, fa31_3, fa31_4, fa31_5, fa31_6, fa31_7, fa31_8, Nat.zero_add, ld_cell ty9 rfl hg, ld_cell ty9 rfl hg', ld_cell ty3 rfl hg, ld_cell ty3 rfl hg', ld_cell ty4 rfl hg, ld_cell ty4 rfl hg', ld_cell ty29 rfl hg, ld_cell ty29 rfl hg', m0, m1, m2, m3, m4, m5, m6, m7, m8, bool_eql, str_eql, decide_true, beq_self_eq_true]
  refine (spec48 k1.1 k2.1 h1.2.1 h1.2.2).mono ?_
  rintro r H2 ⟨rfl, rfl⟩
  simp (disch := first | assumption | simp) only [↓wbD, wbU, ↓aop, ↓reduceIte, Nat.reduceEqDiff, Nat.reduceLT, reduceCtorEq, goInt, pairs]
  exact hx
theorem own_msgs {H : AHeap} {v : Value} {G : List (Msg × Value)} (h : OwnC H 9 v G.length (mcells G)) {i : Nat} (hi : i < G.length) : ∃ b c ex sp, v = .slice (some ⟨b, 0, ex⟩) G.length c ∧ H.get b = .cells (mcells G ++ sp) true 9 := by
  rcases h with ⟨_, h0, _⟩ | ⟨b, c, ex, sp, rfl, h1, _, _, _, h5⟩
  · omega
  · exact ⟨b, c, ex, sp, rfl, h1⟩
theorem ld31at {H : AHeap} {b i : Nat} {G : List (Msg × Value)} {sp : List Value} {wr : Bool} {sz : Nat} (hg : H.get b = .cells (mcells G ++ sp) wr sz) (hi : i < G.length) : aload E H 31 (.pointer (some ⟨b, i * 9, none⟩)) = some (.agg (G[i].1.v G[i].2).toArray) := by
  have hf : i * 9 + 9 ≤ (mcells G).length := chunk_fit mcell_len hi (Nat.le_refl 9)
  rw [ld_agg ty31 rfl hg (show i * 9 + 9 ≤ _ by rw [List.length_append]; omega)]
  show some (Value.agg (((mcells G ++ sp).drop (i * 9)).take 9).toArray) = _
  rw [List.drop_append_of_le_length (by omega), List.take_append_of_le_length (by rw [List.length_drop]; omega)]
  rw [chunk_at mcell_len G i hi]
  rfl
theorem spec34 {H : AHeap} {v w : Value} {G1 G2 : List (Msg × Value)} (h1 : OwnC H 9 v G1.length (mcells G1)) (h2 : OwnC H 9 w G2.length (mcells G2)) (m1 : ∀ p ∈ G1, Mem H p.1 p.2) (m2 : ∀ p ∈ G2, Mem H p.1 p.2) (he : G1.map (·.1) = G2.map (·.1)) (hl : G1.length ≤ 200) :
    CallW E 34 [v, w] H fun r H' => r = .bool true ∧ Ext H H' := by
  refine call34 (by simp) ?_
  simp only [strip, bodyOf, Try.f34, getD_body, keepN, bareOp_mk, lessOp_mk, lapp_cons, lapp_nil, List.map_cons, List.map_nil, array_toList, ↓reduceIte, Nat.reduceEqDiff, Bool.false_eq_true]
  have hlen1 := h1.slice.alen (E := E) (ts := []) ty63
  have hlen2 := h2.slice.alen (E := E) (ts := []) ty63
  have hl2 : G2.length = G1.length := by have := congrArg List.length he; simpa using this.symm
  simp (disch := first | assumption | simp) only [↓wbD, wbU, ↓aop, ↓reduceIte, Nat.reduceEqDiff, Nat.reduceLT, reduceCtorEq, goInt, pairs, hlen1, hlen2, hl2, decide_false, not_true_eq_false]
  refine W_loop (fun f H' => Ext H H' ∧ f 0 = v ∧ f 1 = w ∧ ∃ i : Nat, i ≤ G1.length ∧ f 5 = .int .i64 i) (fun f _ => match f 5 with | .int _ i => G1.length - i.toNat | _ => 0) ?_ ?_
  · refine ⟨Ext.refl _, ?_, ?_, 0, by omega, ?_⟩
    · simp (disch := first | assumption | simp) only [↓wbD, wbU, ↓aop, ↓reduceIte, Nat.reduceEqDiff, Nat.reduceLT, reduceCtorEq, goInt, pairs]
    · simp (disch := first | assumption | simp) only [↓wbD, wbU, ↓aop, ↓reduceIte, Nat.reduceEqDiff, Nat.reduceLT, reduceCtorEq, goInt, pairs]
    · simp (disch := first | assumption | simp) only [↓wbD, wbU, ↓aop, ↓reduceIte, Nat.reduceEqDiff, Nat.reduceLT, reduceCtorEq, goInt, pairs]
      rfl
  rintro f H1 ⟨x1, f0, f1, i, hi, f5⟩
  have k1 := h1.keep x1.size fun b hb => x1.get b (h1.sz hb).2
  have k2 := h2.keep x1.size fun b hb => x1.get b (h2.sz hb).2
  have hlen1 := k1.slice.alen (E := E) (ts := []) ty63
  have hlen2 := k2.slice.alen (E := E) (ts := []) ty63
  by_cases hin : (i : Int) < (G1.length : Int)
  · have hi1 : i < G1.length := by omega
    have hi2 : i < G2.length := by omega
    obtain ⟨b, c, ex, sp, rfl, hg⟩ := own_msgs k1 hi1
    obtain ⟨b', c', ex', sp', rfl, hg'⟩ := own_msgs k2 hi2
    have hw := wrap_nat (n := i) (by omega)
    have hm : (G2[i]).1 = (G1[i]).1 := by
      have a1 : (G1.map (·.1))[i]? = some (G1[i]).1 := by rw [List.getElem?_map, List.getElem?_eq_getElem hi1]; rfl
      have a2 : (G2.map (·.1))[i]? = some (G2[i]).1 := by rw [List.getElem?_map, List.getElem?_eq_getElem hi2]; rfl
      rw [he] at a1
      rw [a2] at a1
      exact Option.some.inj a1
    have l2 := ld31at hg' hi2
    rw [hm] at l2
    have mm1 := (m1 _ (List.getElem_mem hi1)).keep (x1.did (D := fun _ => False)).kept
    have mm2 := (m2 _ (List.getElem_mem hi2)).keep (x1.did (D := fun _ => False)).kept
    rw [hm] at mm2
    have ia1 := ia_slice (E := E) ty63 ty31 (B := b) (o := 0) (c := c) (ex := ex) (k := .i64) hi1
    have ia2 := ia_slice (E := E) ty63 ty31 (B := b') (o := 0) (c := c') (ex := ex') (k := .i64) hi2
    rw [hl2] at hlen2 ia2
    simp (disch := first | assumption | simp) only [↓wbD, wbU, ↓aop, ↓reduceIte, Nat.reduceEqDiff, Nat.reduceLT, reduceCtorEq, goInt, pairs, f0, f1, f5, hlen1, hlen2, hl2, hin, decide_true, ia1, ia2, Nat.zero_add, ld31at hg hi1, l2]
    refine (spec33 mm1 mm2).mono ?_
    rintro r H2 ⟨rfl, x2⟩
    simp (disch := first | assumption | simp) only [↓wbD, wbU, ↓aop, ↓reduceIte, Nat.reduceEqDiff, Nat.reduceLT, reduceCtorEq, goInt, pairs, not_bool, Bool.not_true, f5, hw]
    refine ⟨_, rfl, ⟨x1.trans x2, ?_, ?_, i + 1, by omega, ?_⟩, ?_⟩
    · simp (disch := first | assumption | simp) only [↓wbD, wbU, ↓aop, ↓reduceIte, Nat.reduceEqDiff, Nat.reduceLT, reduceCtorEq, goInt, pairs, f0]
    · simp (disch := first | assumption | simp) only [↓wbD, wbU, ↓aop, ↓reduceIte, Nat.reduceEqDiff, Nat.reduceLT, reduceCtorEq, goInt, pairs, f1, hl2]
    · simp (disch := first | assumption | simp) only [↓wbD, wbU, ↓aop, ↓reduceIte, Nat.reduceEqDiff, Nat.reduceLT, reduceCtorEq, goInt, pairs]
    · simp (disch := first | assumption | simp) only [↓wbD, wbU, ↓aop, ↓reduceIte, Nat.reduceEqDiff, Nat.reduceLT, reduceCtorEq, goInt, pairs, f5]
      simp; omega
  · simp (disch := first | assumption | simp) only [↓wbD, wbU, ↓aop, ↓reduceIte, Nat.reduceEqDiff, Nat.reduceLT, reduceCtorEq, goInt, pairs, f0, f1, f5, hlen1, hlen2, hl2, hin, decide_false]
    exact x1
end Go.Proofs.Ytlmcjfnignbdoaa.Abs
