/-
  A part of a law's proof.
-/
import Derived.Test.YtlmcjfnignbdoaaATc
namespace Go.Proofs.Ytlmcjfnignbdoaa.Abs
open Go AbsYtlmcjfnignbdoaa
set_option maxRecDepth 100000
set_option linter.unusedSimpArgs false
theorem _root_.AbsYtlmcjfnignbdoaa.SliceAt.set {H : AHeap} {sz n : Nat} {v : Value} {cs : List Value} (h : SliceAt H sz v n cs) {b : Nat} {o : AObj} (hne : ∀ all wr, H.get b ≠ .cells all wr sz) : SliceAt (H.set b o) sz v n cs := by
  refine ⟨h.len, ?_⟩
  rcases h.at' with h1 | ⟨b', o', c, ex, all, wr, h1, h2, h3, h4, h5⟩
  · exact .inl h1
  · refine .inr ⟨b', o', c, ex, all, wr, h1, ?_, h3, h4, h5⟩
    rw [AHeap.get_set_ne _ _ (fun e => by subst e; exact hne _ _ h2)]; exact h2

theorem spec23 {t p fr g : ByteArray} {q un sq id qos : Int} {rt dup : Bool} {sl : Value} {n : Nat} {cs : List Value} {H : AHeap} (h : SliceAt H 4 sl n cs) (hp : PropCells cs) (hn : n ≤ 70) :
    CallW E 23 [.agg (msgV t p q rt sl fr un sq g).toArray, .int .i64 qos, .int .i64 id, .bool dup] H fun r H' => ∃ sl', r = .agg (pubV id qos dup rt t p sl').toArray ∧ SliceAt H' 4 sl' n cs ∧ Ext H H' := by
  obtain ⟨a, m, c, rfl⟩ := slice_shape h
  refine call23 (by simp) ?_
  simp only [strip, bodyOf, Try.f23, getD_body, keepN, bareOp_mk, lessOp_mk, lapp_cons, lapp_nil, List.map_cons, List.map_nil, array_toList, ↓reduceIte, Nat.reduceEqDiff, Bool.false_eq_true]
  have hg : (H.alloc (.cells (msgV t p q rt (.slice a m c) fr un sq g) true 0)).get H.size = .cells (msgV t p q rt (.slice a m c) fr un sq g) true 0 := AHeap.get_alloc_same _ _
  have hx : Ext H (H.alloc (.cells (msgV t p q rt (.slice a m c) fr un sq g) true 0)) := Ext.alloc _ _
  have m0 : (msgV t p q rt (.slice a m c) fr un sq g)[0]? = some (.string t) := rfl
  have m1 : (msgV t p q rt (.slice a m c) fr un sq g)[1]? = some (.string p) := rfl
  have m3 : (msgV t p q rt (.slice a m c) fr un sq g)[3]? = some (.bool rt) := rfl
  have m4 : (msgV t p q rt (.slice a m c) fr un sq g)[4]? = some (.slice a m c) := rfl
  have hv : vcells (.agg (msgV t p q rt (.slice a m c) fr un sq g).toArray) = msgV t p q rt (.slice a m c) fr un sq g := rfl
  generalize msgV t p q rt (.slice a m c) fr un sq g = M at *
  have hs1 : (H.alloc (.cells M true 0)).size = H.size + 1 := rfl
  generalize hH : H.alloc (.cells M true 0) = H1 at *
  obtain ⟨zs, hz, hzl⟩ : ∃ zs, azero E 40 = some zs ∧ zs.length = 26 := ⟨_, zero40, rfl⟩
  have hg2 : (H1.alloc (.cells zs true 0)).get H.size = .cells M true 0 := by rw [get_alloc, if_neg (by omega)]; exact hg
  have hg3 : (H1.alloc (.cells zs true 0)).get H1.size = .cells zs true 0 := AHeap.get_alloc_same _ _
  have hs2 : (H1.alloc (.cells zs true 0)).size = H1.size + 1 := rfl
  have hx2 : Ext H (H1.alloc (.cells zs true 0)) := hx.trans (Ext.alloc _ _)
  generalize hH2 : H1.alloc (.cells zs true 0) = H2 at *
  simp (disch := first | assumption | simp) only [↓wbD, wbU, ↓aop, ↓reduceIte, Nat.reduceEqDiff, Nat.reduceLT, reduceCtorEq, goInt, pairs, hv, hH, hz, hH2, fa31_0, fa31_1, fa31_3, fa31_4, Nat.zero_add, ld_cell ty9 rfl hg2, ld_cell ty29 rfl hg2, ld_cell ty4 rfl hg2, m0, m1, m3, m4]
  refine (spec52 (h.ext hx2) hp hn).mono ?_
  rintro r H3 ⟨hs, he⟩
  obtain ⟨a', m', c', rfl⟩ := slice_shape hs
  have hg4 : H3.get H1.size = .cells zs true 0 := by rw [he.get _ (by omega)]; exact hg3
  simp (disch := first | assumption | simp) only [↓wbD, wbU, ↓aop, ↓reduceIte, Nat.reduceEqDiff, Nat.reduceLT, reduceCtorEq, goInt, pairs, pairs, build40, st40 hg4 hzl]
  refine drawQ_of (fl := [(4, 11), (6, 11), (8, 11)]) (by kernel_rfl) ⟨?_, _, _, rfl, ?_⟩
  · have hk : H3.get H.size = H2.get H.size := he.get _ (by omega)
    simp only [List.all_cons, List.all_nil, floatOk, List.getElem?_cons_succ, List.getElem?_cons_zero, List.getElem?_toArray, Region.wanted, Bool.not_true, Bool.false_or, reads, looksWeak, aev_tmp, aev_const, upd_at, ↓reduceIte, Nat.reduceEqDiff, Nat.reduceLT, Nat.reduceAdd, ofL_zero, ofL_succ, blkOf, oeq_refl, oeq_of, Bool.and_true, Bool.and_self, Bool.false_eq_true, hk]
  · simp (disch := first | assumption | simp) only [↓wbD, wbU, ↓aop, ↓reduceIte, Nat.reduceEqDiff, Nat.reduceLT, reduceCtorEq, goInt, pairs, ld40 (AHeap.get_set_same H3 H1.size (.cells (pubV id qos dup rt t p (.slice a' m' c')) true 0)) rfl]
    refine ⟨_, rfl, hs.set (fun all wr e => by rw [hg4] at e; cases e), ⟨?_, fun b hb => ?_⟩⟩
    · have := he.size; have := hx2.size; exact Nat.le_trans hx2.size he.size
    · rw [AHeap.get_set_ne _ _ (by omega), he.get b (Nat.lt_of_lt_of_le hb hx2.size)]
      exact hx2.get b hb
end Go.Proofs.Ytlmcjfnignbdoaa.Abs
