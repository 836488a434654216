/-
  A part of a law's proof.
-/
import Derived.Test.YtlmcjfnignbdoaaATf
namespace Go.Proofs.Ytlmcjfnignbdoaa.Abs
open Go AbsYtlmcjfnignbdoaa
set_option maxRecDepth 100000
set_option maxHeartbeats 2000000
set_option linter.unusedSimpArgs false
theorem spec21 {H : AHeap} {Q : Value → AHeap → Prop} (h : Q (.bool true) H) : CallW E 21 [] H Q := w_special (g := fun args H => if args.isEmpty && sameBase .empty E0.nb H then some (.bool true, H) else none) rfl (by rw [base_same]; rfl) h
theorem not_bool {b : Bool} : aun .not (.bool b) = some (.bool (!b)) := rfl
theorem ia32_0 (b o : Nat) : aindexAddr E 32 (.pointer (some ⟨b, o, none⟩)) (.int .i64 0) = some (.pointer (some ⟨b, o, none⟩)) := rfl
theorem ia32_1 (b o : Nat) : aindexAddr E 32 (.pointer (some ⟨b, o, none⟩)) (.int .i64 1) = some (.pointer (some ⟨b, o + 1, none⟩)) := rfl
theorem spec7 {t p fr g : ByteArray} {q un sq i0 i1 : Int} {rt dup : Bool} {sl : Value} {n : Nat} {cs : List Value} {H : AHeap} (h : SliceAt H 4 sl n cs) (hp : PropCells cs) :
    CallW E 7 [.agg (msgV t p q rt sl fr un sq g).toArray, .agg #[.int .i64 i0, .int .i64 i1], .bool dup] H fun r _ => r = .bool true := by
  refine call7 (by simp) ?_
  simp only [strip, bodyOf, Try.f7, getD_body, keepN, bareOp_mk, lessOp_mk, lapp_cons, lapp_nil, List.map_cons, List.map_nil, array_toList, ↓reduceIte, Nat.reduceEqDiff, Bool.false_eq_true]
  have hv : vcells (.agg (msgV t p q rt sl fr un sq g).toArray) = msgV t p q rt sl fr un sq g := rfl
  have hv2 : vcells (.agg #[.int .i64 i0, .int .i64 i1]) = [.int .i64 i0, .int .i64 i1] := rfl
  have hx : Ext H ((H.alloc (.cells (msgV t p q rt sl fr un sq g) true 0)).alloc (.cells [.int .i64 i0, .int .i64 i1] true 0)) := (Ext.alloc _ _).trans (Ext.alloc _ _)
  have hs : ((H.alloc (.cells (msgV t p q rt sl fr un sq g) true 0)).alloc (.cells [.int .i64 i0, .int .i64 i1] true 0)).size = H.size + 2 := rfl
  have hs1 : (H.alloc (.cells (msgV t p q rt sl fr un sq g) true 0)).size = H.size + 1 := rfl
  have hg : ((H.alloc (.cells (msgV t p q rt sl fr un sq g) true 0)).alloc (.cells [.int .i64 i0, .int .i64 i1] true 0)).get H.size = .cells (msgV t p q rt sl fr un sq g) true 0 := by rw [get_alloc, if_neg (by simp [AHeap.size_alloc])]; exact AHeap.get_alloc_same _ _
  have hg2 : ((H.alloc (.cells (msgV t p q rt sl fr un sq g) true 0)).alloc (.cells [.int .i64 i0, .int .i64 i1] true 0)).get (H.size + 1) = .cells [.int .i64 i0, .int .i64 i1] true 0 := AHeap.get_alloc_same _ _
  generalize hH : (H.alloc (.cells (msgV t p q rt sl fr un sq g) true 0)).alloc (.cells [.int .i64 i0, .int .i64 i1] true 0) = H1 at *
  have l31 := ld_agg (E := E) ty31 rfl hg (o := 0) (show 0 + 9 ≤ (msgV t p q rt sl fr un sq g).length from Nat.le_refl _)
  rw [show (((msgV t p q rt sl fr un sq g).drop 0).take (TI.size ⟨_, _, _, _, _⟩)) = msgV t p q rt sl fr un sq g from rfl] at l31
  simp (disch := first | assumption | simp) only [↓wbD, wbU, ↓aop, ↓reduceIte, Nat.reduceEqDiff, Nat.reduceLT, reduceCtorEq, goInt, pairs, hv, hv2, hs1, hH, l31]
  refine (spec20 (h.ext hx) hp).mono ?_
  rintro r H2 ⟨⟨b, rfl, hb⟩, he⟩
  cases b with
  | false =>
    simp (disch := first | assumption | simp) only [↓wbD, wbU, ↓aop, ↓reduceIte, Nat.reduceEqDiff, Nat.reduceLT, reduceCtorEq, goInt, pairs, not_bool, Bool.not_false]
    refine spec21 ?_
    simp (disch := first | assumption | simp) only [↓wbD, wbU, ↓aop, ↓reduceIte, Nat.reduceEqDiff, Nat.reduceLT, reduceCtorEq, goInt, pairs]
  | true =>
    have hn := hb rfl
    have hk : H2.get H.size = .cells (msgV t p q rt sl fr un sq g) true 0 := by rw [he.get _ (by omega)]; exact hg
    have hk2 : H2.get (H.size + 1) = .cells [.int .i64 i0, .int .i64 i1] true 0 := by rw [he.get _ (by omega)]; exact hg2
    have a31 : aload E H2 31 (.pointer (some ⟨H.size, 0, none⟩)) = some (.agg (msgV t p q rt sl fr un sq g).toArray) := ld_agg ty31 rfl hk (Nat.le_refl _)
    simp (disch := first | assumption | simp) only [↓wbD, wbU, ↓aop, ↓reduceIte, Nat.reduceEqDiff, Nat.reduceLT, reduceCtorEq, goInt, pairs, not_bool, Bool.not_true, a31, ia32_0, ia32_1, ld_cell ty3 rfl hk2, Nat.zero_add, List.getElem?_cons_zero, List.getElem?_cons_succ]
    refine (spec23 ((h.ext hx).ext he) hp hn).mono ?_
    rintro r H3 ⟨sl', rfl, hs', he3⟩
    have hk3 : H3.get H.size = .cells (msgV t p q rt sl fr un sq g) true 0 := by rw [he3.get _ (by have := he.size; omega)]; exact hk
    have hk4 : H3.get (H.size + 1) = .cells [.int .i64 i0, .int .i64 i1] true 0 := by rw [he3.get _ (by have := he.size; omega)]; exact hk2
    have a31' : aload E H3 31 (.pointer (some ⟨H.size, 0, none⟩)) = some (.agg (msgV t p q rt sl fr un sq g).toArray) := ld_agg ty31 rfl hk3 (Nat.le_refl _)
    simp (disch := first | assumption | simp) only [↓wbD, wbU, ↓aop, ↓reduceIte, Nat.reduceEqDiff, Nat.reduceLT, reduceCtorEq, goInt, pairs, a31', ia32_0, ia32_1, ld_cell ty3 rfl hk4, Nat.zero_add, List.getElem?_cons_zero, List.getElem?_cons_succ]
    refine (spec24 (((h.ext hx).ext he).ext he3)).mono ?_
    rintro r H4 ⟨rfl, he4⟩
    simp (disch := first | assumption | simp) only [↓wbD, wbU, ↓aop, ↓reduceIte, Nat.reduceEqDiff, Nat.reduceLT, reduceCtorEq, goInt, pairs]
    refine (spec22 (hs'.ext he4) ((((h.ext hx).ext he).ext he3).ext he4) hp hn).mono ?_
    rintro r H5 ⟨rfl, he5⟩
    simp (disch := first | assumption | simp) only [↓wbD, wbU, ↓aop, ↓reduceIte, Nat.reduceEqDiff, Nat.reduceLT, reduceCtorEq, goInt, pairs]
    refine spec21 ?_
    simp (disch := first | assumption | simp) only [↓wbD, wbU, ↓aop, ↓reduceIte, Nat.reduceEqDiff, Nat.reduceLT, reduceCtorEq, goInt, pairs]
    refine drawQ_of (fl := [(7, 6), (9, 6), (11, 6)]) (by kernel_rfl) ⟨?_, _, _, rfl, ?_⟩
    · simp only [List.all_cons, List.all_nil, floatOk, List.getElem?_cons_succ, List.getElem?_cons_zero, List.getElem?_toArray, Region.wanted, Bool.not_true, Bool.false_or, reads, looksWeak, aev_tmp, aev_const, upd_at, ↓reduceIte, Nat.reduceEqDiff, Nat.reduceLT, Nat.reduceAdd, ofL_zero, ofL_succ, blkOf, oeq_refl, oeq_of, Bool.and_true, Bool.and_self, Bool.false_eq_true, hk, hk2, hk3, hk4]
    · simp (disch := first | assumption | simp) only [↓wbD, wbU, ↓aop, ↓reduceIte, Nat.reduceEqDiff, Nat.reduceLT, reduceCtorEq, goInt, pairs]
end Go.Proofs.Ytlmcjfnignbdoaa.Abs
