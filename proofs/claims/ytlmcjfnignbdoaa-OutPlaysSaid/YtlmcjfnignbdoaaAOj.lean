/-
  A part of a law's proof.
-/
import Derived.Test.YtlmcjfnignbdoaaAOi
namespace Go.Proofs.Ytlmcjfnignbdoaa.Abs
open Go AbsYtlmcjfnignbdoaa
set_option maxRecDepth 100000
set_option maxHeartbeats 8000000
set_option linter.unusedSimpArgs false
set_option linter.unusedVariables false
def a0 : Act := ⟨0, m0, 0, 0, 0, 0⟩
theorem zero55m : azero E 55 = some (acell (a0, .slice none 0 0)) := rfl
theorem acell_one {H : AHeap} {p : Act × Value} (h : SliceAt H 4 p.2 p.1.m.n p.1.m.cs) : (acell p).all oneCell = true := by
  obtain ⟨a, n, c, hs⟩ := slice_shape h
  obtain ⟨x, sl⟩ := p
  simp only at hs
  subst hs; rfl
theorem st55 {H : AHeap} {b : Nat} {zs : List Value} {p : Act × Value} (hg : H.get b = .cells zs true 0) (hz : zs.length = 14) (ho : (acell p).all oneCell = true) :
    astore E H 55 (.pointer (some ⟨b, 0, none⟩)) (.agg (acell p).toArray) = some (H.set b (.cells (acell p) true 0)) := by
  have hl : (acell p).length = 14 := rfl
  simp only [astore, ty55, vcells, astoreAt, hg]
  simp [hl, ho, hz, splice, List.drop_eq_nil_of_le (Nat.le_of_eq hz)]
theorem ldact {H : AHeap} {x : Nat} {p : Act × Value} {wr : Bool} {sz : Nat} (hg : H.get x = .cells (acell p) wr sz) : aload E H 31 (.pointer (some ⟨x, 1, none⟩)) = some (.agg (p.1.m.v p.2).toArray) := by
  rw [ld_agg ty31 rfl hg (show 1 + 9 ≤ 14 by omega)]; rfl
theorem ldact55 {H : AHeap} {x : Nat} {p : Act × Value} {wr : Bool} {sz : Nat} (hg : H.get x = .cells (acell p) wr sz) : aload E H 55 (.pointer (some ⟨x, 0, none⟩)) = some (.agg (acell p).toArray) := by
  rw [ld_agg ty55 rfl hg (show 0 + 14 ≤ 14 by omega)]; rfl
/-- what lies there between two acts -/
structure Once (H0 : AHeap) (bo bp bm : Nat) (i p g : Nat) (H : AHeap) : Prop where
  ext : Ext H0 H
  out : ∃ D last F, OutI H D bo bp bm last F ∧ (∀ b, D b → H0.size ≤ b) ∧ Good (F.map (·.1)) ∧ F.length + g = p
  put : p ≤ i
theorem spec9 {H : AHeap} {v : Value} {AS : List (Act × Value)} (h : ActsAt H v AS) (hm : ActMem H AS) : CallW E 9 [v] H fun r _ => r = .bool true := by
  refine call9 (by simp) ?_
  simp only [strip, bodyOf, Try.f9, getD_body, keepN, bareOp_mk, lessOp_mk, lapp_cons, lapp_nil, List.map_cons, List.map_nil, array_toList, ↓reduceIte, Nat.reduceEqDiff, Bool.false_eq_true]
  simp (disch := first | assumption | simp) only [↓wbD, wbU, ↓aop, ↓reduceIte, Nat.reduceEqDiff, Nat.reduceLT, reduceCtorEq, goInt, pairs]
  refine (spec25 h hm).mono ?_
  rintro r H1 ⟨⟨b, rfl, hb⟩, x1⟩
  cases b with
  | false =>
    simp (disch := first | assumption | simp) only [↓wbD, wbU, ↓aop, ↓reduceIte, Nat.reduceEqDiff, Nat.reduceLT, reduceCtorEq, goInt, pairs, not_bool, Bool.not_false]
    refine spec21 ?_
    simp (disch := first | assumption | simp) only [↓wbD, wbU, ↓aop, ↓reduceIte, Nat.reduceEqDiff, Nat.reduceLT, reduceCtorEq, goInt, pairs]
  | true =>
  obtain ⟨hn, hs⟩ := hb rfl
  simp (disch := first | assumption | simp) only [↓wbD, wbU, ↓aop, ↓reduceIte, Nat.reduceEqDiff, Nat.reduceLT, reduceCtorEq, goInt, pairs, not_bool, Bool.not_true]
  refine spec26.mono ?_
  rintro r H2 ⟨rfl, o2, x2⟩
  have T : Once H (H1.size + 2) (H1.size + 1) H1.size 0 0 0 H2 := ⟨x1.trans x2, ⟨_, _, _, o2, fun b hb => Nat.le_trans x1.size hb.1, Good.nil, rfl⟩, by omega⟩
  generalize H1.size + 2 = bo at T ⊢
  generalize H1.size + 1 = bp at T
  generalize H1.size = bm at T
  clear o2 x1 x2
  simp (disch := first | assumption | simp) only [↓wbD, wbU, ↓aop, ↓reduceIte, Nat.reduceEqDiff, Nat.reduceLT, reduceCtorEq, goInt, pairs]
  refine W_loop (fun f H' => f 0 = v ∧ f 3 = ptr bo ∧ ∃ i p g : Nat, i ≤ AS.length ∧ f 6 = .int .i64 i ∧ f 4 = .int .i64 p ∧ f 5 = .int .i64 g ∧ Once H bo bp bm i p g H') (fun f _ => match f 6 with | .int _ i => AS.length - i.toNat | _ => 0) ?_ ?_
  · refine ⟨?_, ?_, 0, 0, 0, by omega, ?_, ?_, ?_, T⟩
    · simp (disch := first | assumption | simp) only [↓wbD, wbU, ↓aop, ↓reduceIte, Nat.reduceEqDiff, Nat.reduceLT, reduceCtorEq, goInt, pairs]
    · simp (disch := first | assumption | simp) only [↓wbD, wbU, ↓aop, ↓reduceIte, Nat.reduceEqDiff, Nat.reduceLT, reduceCtorEq, goInt, pairs]
    · simp (disch := first | assumption | simp) only [↓wbD, wbU, ↓aop, ↓reduceIte, Nat.reduceEqDiff, Nat.reduceLT, reduceCtorEq, goInt, pairs]
      rfl
    · simp (disch := first | assumption | simp) only [↓wbD, wbU, ↓aop, ↓reduceIte, Nat.reduceEqDiff, Nat.reduceLT, reduceCtorEq, goInt, pairs]
      rfl
    · simp (disch := first | assumption | simp) only [↓wbD, wbU, ↓aop, ↓reduceIte, Nat.reduceEqDiff, Nat.reduceLT, reduceCtorEq, goInt, pairs]
      rfl
  clear T H1 H2
  rintro f H1 ⟨f0, f3, i, p, g, hi, f6, f4, f5, T⟩
  have h1 := h.ext T.ext
  have hlen := h1.len (ts := [])
  by_cases hin : (i : Int) < (AS.length : Int)
  rotate_left
  · simp (disch := first | assumption | simp) only [↓wbD, wbU, ↓aop, ↓reduceIte, Nat.reduceEqDiff, Nat.reduceLT, reduceCtorEq, goInt, pairs, f0, f6, hlen, hin, decide_false]
    refine spec21 ?_
    simp (disch := first | assumption | simp) only [↓wbD, wbU, ↓aop, ↓reduceIte, Nat.reduceEqDiff, Nat.reduceLT, reduceCtorEq, goInt, pairs]
  have hiA : i < AS.length := by omega
  obtain ⟨b, k1, k2, k3⟩ := h1.at hiA
  obtain ⟨q1, q2⟩ := hm _ (List.getElem_mem hiA)
  have q3 := hs _ (List.getElem_mem hiA)
  obtain ⟨D, last, F, o1, hD, hgd, hFl⟩ := T.out
  have hpi := T.put
  have hw := wrap_nat (n := i) (by omega)
  generalize AS[i] = P at k2 q1 q2 q3
  have q1' := q1.ext T.ext
  have hst := st55 (p := P) (AHeap.get_alloc_same H1 (.cells (acell (a0, .slice none 0 0)) true 0)) rfl (acell_one q1')
  obtain ⟨x2, s2, z2⟩ := new_set (H := H1) (o := .cells (acell (a0, .slice none 0 0)) true 0) (o' := .cells (acell P) true 0)
  have c0 : (acell P)[0]? = some (.int .i64 P.1.kind) := rfl
  have c10 : (acell P)[10]? = some (.int .i64 P.1.q) := rfl
  simp (disch := first | assumption | simp) only [↓wbD, wbU, ↓aop, ↓reduceIte, Nat.reduceEqDiff, Nat.reduceLT, reduceCtorEq, goInt, pairs, f0, f6, hlen, hin, decide_true, k1, k2, zero55m, hst, fa55_0, Nat.zero_add, ld_cell ty3 rfl z2, c0]
  generalize (H1.alloc (.cells (acell (a0, .slice none 0 0)) true 0)).set H1.size (.cells (acell P) true 0) = H2 at x2 s2 z2 ⊢
  have o2 : OutI H2 D bo bp bm last F := o1.keep (S := fun _ => False) x2.did fun _ _ hf => hf
  have x02 := T.ext.trans x2
  have mem2 : Mem H2 P.1.m P.2 := ⟨q1.ext x02, q2, q3⟩
  clear T
  have s02 := x02.size
  have next : ∀ {J : AHeap} {last' : Int} {F' : FS} {p' g' : Nat}, OutI J (Grow D H2 J) bo bp bm last' F' → Did D H2 J → Good (F'.map (·.1)) → F'.length + g' = p' → p' ≤ i + 1 → Once H bo bp bm (i + 1) p' g' J := fun o d hg hl hp =>
    ⟨x02.of_but d.but hD, ⟨_, _, _, o, fun b hb => hb.elim (hD b) fun hx => by omega, hg, hl⟩, hp⟩
  have e21 : ¬ ((2 : Int) = 1) := by decide
  have e31 : ¬ ((3 : Int) = 1) := by decide
  have e32 : ¬ ((3 : Int) = 2) := by decide
  have e41 : ¬ ((4 : Int) = 1) := by decide
  have e42 : ¬ ((4 : Int) = 2) := by decide
  have hwp := wrap_nat (n := p) (by omega)
  have hwg := wrap_nat (n := g) (by omega)
  refine condC_mono (Q := fun e A J => e = .normal ∧ ∃ (f' : Nat → Value) (p' g' : Nat), A = L 127 f' ∧ f' 0 = v ∧ f' 3 = ptr bo ∧ f' 6 = .int .i64 i ∧ f' 4 = .int .i64 p' ∧ f' 5 = .int .i64 g' ∧ Once H bo bp bm (i + 1) p' g' J) ?_ ?_
  · by_cases hk1 : P.1.kind = 1
    · simp (disch := first | assumption | simp) only [↓wbD, wbU, ↓aop, ↓reduceIte, Nat.reduceEqDiff, Nat.reduceLT, reduceCtorEq, goInt, pairs, hk1, decide_true, f3, fa55_1, fa55_2, Nat.zero_add, ldact z2, ld_cell ty3 rfl z2, c10]
      refine (spec28 o2 mem2 (by omega)).mono ?_
      rintro r J ⟨last', F', x, ok, rfl, o3, d3, hS⟩
      obtain ⟨hg3, hl3⟩ := hS.good hgd
      simp only [List.length_map] at hl3
      cases ok with
      | true =>
        simp (disch := first | assumption | simp) only [↓wbD, wbU, ↓aop, ↓reduceIte, Nat.reduceEqDiff, Nat.reduceLT, reduceCtorEq, goInt, pairs, tup0, tup1, f4, hwp]
        refine ⟨_, p + 1, g, rfl, ?_, ?_, ?_, ?_, ?_, next o3 d3 hg3 (by simp at hl3; omega) (by omega)⟩
        · simp (disch := first | assumption | simp) only [↓wbD, wbU, ↓aop, ↓reduceIte, Nat.reduceEqDiff, Nat.reduceLT, reduceCtorEq, goInt, pairs, f0]
        · simp (disch := first | assumption | simp) only [↓wbD, wbU, ↓aop, ↓reduceIte, Nat.reduceEqDiff, Nat.reduceLT, reduceCtorEq, goInt, pairs, f3]
        · simp (disch := first | assumption | simp) only [↓wbD, wbU, ↓aop, ↓reduceIte, Nat.reduceEqDiff, Nat.reduceLT, reduceCtorEq, goInt, pairs, f6]
        · simp (disch := first | assumption | simp) only [↓wbD, wbU, ↓aop, ↓reduceIte, Nat.reduceEqDiff, Nat.reduceLT, reduceCtorEq, goInt, pairs]
        · simp (disch := first | assumption | simp) only [↓wbD, wbU, ↓aop, ↓reduceIte, Nat.reduceEqDiff, Nat.reduceLT, reduceCtorEq, goInt, pairs, f5]
      | false =>
        simp (disch := first | assumption | simp) only [↓wbD, wbU, ↓aop, ↓reduceIte, Nat.reduceEqDiff, Nat.reduceLT, reduceCtorEq, goInt, pairs, tup0, tup1]
        refine ⟨_, p, g, rfl, ?_, ?_, ?_, ?_, ?_, next o3 d3 hg3 (by simp at hl3; omega) (by omega)⟩
        · simp (disch := first | assumption | simp) only [↓wbD, wbU, ↓aop, ↓reduceIte, Nat.reduceEqDiff, Nat.reduceLT, reduceCtorEq, goInt, pairs, f0]
        · simp (disch := first | assumption | simp) only [↓wbD, wbU, ↓aop, ↓reduceIte, Nat.reduceEqDiff, Nat.reduceLT, reduceCtorEq, goInt, pairs, f3]
        · simp (disch := first | assumption | simp) only [↓wbD, wbU, ↓aop, ↓reduceIte, Nat.reduceEqDiff, Nat.reduceLT, reduceCtorEq, goInt, pairs, f6]
        · simp (disch := first | assumption | simp) only [↓wbD, wbU, ↓aop, ↓reduceIte, Nat.reduceEqDiff, Nat.reduceLT, reduceCtorEq, goInt, pairs, f4]
        · simp (disch := first | assumption | simp) only [↓wbD, wbU, ↓aop, ↓reduceIte, Nat.reduceEqDiff, Nat.reduceLT, reduceCtorEq, goInt, pairs, f5]
    by_cases hk2 : P.1.kind = 2
    · simp (disch := first | assumption | simp) only [↓wbD, wbU, ↓aop, ↓reduceIte, Nat.reduceEqDiff, Nat.reduceLT, reduceCtorEq, goInt, pairs, hk2, e21, decide_true, decide_false, f3, Nat.zero_add, ldact55 z2]
      refine (spec31 (a := P.1) (sl := P.2)).mono ?_
      rintro r J1 ⟨rfl, y1⟩
      have o3 : OutI J1 D bo bp bm last F := o2.keep (S := fun _ => False) y1.did fun _ _ hf => hf
      simp (disch := first | assumption | simp) only [↓wbD, wbU, ↓aop, ↓reduceIte, Nat.reduceEqDiff, Nat.reduceLT, reduceCtorEq, goInt, pairs, f3]
      refine (spec30 o3 (by omega) hgd.ids).mono ?_
      rintro r J2 ⟨F', code, m, sl, rfl, o4, d4, hm4, hS⟩
      obtain ⟨hg4, hl4⟩ := ackF.good hS hgd
      simp only [List.length_map] at hl4
      have hst4 := st31 (AHeap.get_alloc_same J2 (.cells (m0.v (.slice none 0 0)) true 0)) rfl hm4.one
      obtain ⟨x5, s5, z5⟩ := new_set (H := J2) (o := .cells (m0.v (.slice none 0 0)) true 0) (o' := .cells (m.v sl) true 0)
      have D5 : Did D H2 ((J2.alloc (.cells (m0.v (.slice none 0 0)) true 0)).set J2.size (.cells (m.v sl) true 0)) := (y1.did.trans (d4.mono fun b _ hb => .inl hb)).trans x5.did
      have o5 : OutI ((J2.alloc (.cells (m0.v (.slice none 0 0)) true 0)).set J2.size (.cells (m.v sl) true 0)) (Grow D H2 ((J2.alloc (.cells (m0.v (.slice none 0 0)) true 0)).set J2.size (.cells (m.v sl) true 0))) bo bp bm last F' := (o4.keep (S := fun _ => False) x5.did fun _ _ hf => hf).grow (fun b hb => hb.elim .inl fun hx => .inr ⟨by have := y1.size; omega, by omega⟩) fun b hb => by
        rcases hb with hb | hb
        · have := o2.lt b hb; have := D5.size; omega
        · exact hb.2
      rcases hl4 with ⟨hc, hl4⟩ | ⟨hc, hl4⟩
      · rcases hc with rfl | rfl | rfl
        · simp (disch := first | assumption | simp) only [↓wbD, wbU, ↓aop, ↓reduceIte, Nat.reduceEqDiff, Nat.reduceLT, reduceCtorEq, goInt, pairs, tup0, tup1, zero31m, hst4, decide_true, f5, hwg]
          refine ⟨_, p, g + 1, rfl, ?_, ?_, ?_, ?_, ?_, next o5 D5 hg4 (by omega) (by omega)⟩
          · simp (disch := first | assumption | simp) only [↓wbD, wbU, ↓aop, ↓reduceIte, Nat.reduceEqDiff, Nat.reduceLT, reduceCtorEq, goInt, pairs, f0]
          · simp (disch := first | assumption | simp) only [↓wbD, wbU, ↓aop, ↓reduceIte, Nat.reduceEqDiff, Nat.reduceLT, reduceCtorEq, goInt, pairs, f3]
          · simp (disch := first | assumption | simp) only [↓wbD, wbU, ↓aop, ↓reduceIte, Nat.reduceEqDiff, Nat.reduceLT, reduceCtorEq, goInt, pairs, f6]
          · simp (disch := first | assumption | simp) only [↓wbD, wbU, ↓aop, ↓reduceIte, Nat.reduceEqDiff, Nat.reduceLT, reduceCtorEq, goInt, pairs, f4]
          · simp (disch := first | assumption | simp) only [↓wbD, wbU, ↓aop, ↓reduceIte, Nat.reduceEqDiff, Nat.reduceLT, reduceCtorEq, goInt, pairs]
        · simp (disch := first | assumption | simp) only [↓wbD, wbU, ↓aop, ↓reduceIte, Nat.reduceEqDiff, Nat.reduceLT, reduceCtorEq, goInt, pairs, tup0, tup1, zero31m, hst4, e21, decide_true, decide_false, f5, hwg]
          refine ⟨_, p, g + 1, rfl, ?_, ?_, ?_, ?_, ?_, next o5 D5 hg4 (by omega) (by omega)⟩
          · simp (disch := first | assumption | simp) only [↓wbD, wbU, ↓aop, ↓reduceIte, Nat.reduceEqDiff, Nat.reduceLT, reduceCtorEq, goInt, pairs, f0]
          · simp (disch := first | assumption | simp) only [↓wbD, wbU, ↓aop, ↓reduceIte, Nat.reduceEqDiff, Nat.reduceLT, reduceCtorEq, goInt, pairs, f3]
          · simp (disch := first | assumption | simp) only [↓wbD, wbU, ↓aop, ↓reduceIte, Nat.reduceEqDiff, Nat.reduceLT, reduceCtorEq, goInt, pairs, f6]
          · simp (disch := first | assumption | simp) only [↓wbD, wbU, ↓aop, ↓reduceIte, Nat.reduceEqDiff, Nat.reduceLT, reduceCtorEq, goInt, pairs, f4]
          · simp (disch := first | assumption | simp) only [↓wbD, wbU, ↓aop, ↓reduceIte, Nat.reduceEqDiff, Nat.reduceLT, reduceCtorEq, goInt, pairs]
        · simp (disch := first | assumption | simp) only [↓wbD, wbU, ↓aop, ↓reduceIte, Nat.reduceEqDiff, Nat.reduceLT, reduceCtorEq, goInt, pairs, tup0, tup1, zero31m, hst4, e41, e42, decide_true, decide_false, f5, hwg]
          refine ⟨_, p, g + 1, rfl, ?_, ?_, ?_, ?_, ?_, next o5 D5 hg4 (by omega) (by omega)⟩
          · simp (disch := first | assumption | simp) only [↓wbD, wbU, ↓aop, ↓reduceIte, Nat.reduceEqDiff, Nat.reduceLT, reduceCtorEq, goInt, pairs, f0]
          · simp (disch := first | assumption | simp) only [↓wbD, wbU, ↓aop, ↓reduceIte, Nat.reduceEqDiff, Nat.reduceLT, reduceCtorEq, goInt, pairs, f3]
          · simp (disch := first | assumption | simp) only [↓wbD, wbU, ↓aop, ↓reduceIte, Nat.reduceEqDiff, Nat.reduceLT, reduceCtorEq, goInt, pairs, f6]
          · simp (disch := first | assumption | simp) only [↓wbD, wbU, ↓aop, ↓reduceIte, Nat.reduceEqDiff, Nat.reduceLT, reduceCtorEq, goInt, pairs, f4]
          · simp (disch := first | assumption | simp) only [↓wbD, wbU, ↓aop, ↓reduceIte, Nat.reduceEqDiff, Nat.reduceLT, reduceCtorEq, goInt, pairs]
      · have n1 : ¬ code = 1 := by omega
        have n2 : ¬ code = 2 := by omega
        have n4 : ¬ code = 4 := by omega
        simp (disch := first | assumption | simp) only [↓wbD, wbU, ↓aop, ↓reduceIte, Nat.reduceEqDiff, Nat.reduceLT, reduceCtorEq, goInt, pairs, tup0, tup1, zero31m, hst4, n1, n2, n4, decide_false]
        refine ⟨_, p, g, rfl, ?_, ?_, ?_, ?_, ?_, next o5 D5 hg4 (by omega) (by omega)⟩
        · simp (disch := first | assumption | simp) only [↓wbD, wbU, ↓aop, ↓reduceIte, Nat.reduceEqDiff, Nat.reduceLT, reduceCtorEq, goInt, pairs, f0]
        · simp (disch := first | assumption | simp) only [↓wbD, wbU, ↓aop, ↓reduceIte, Nat.reduceEqDiff, Nat.reduceLT, reduceCtorEq, goInt, pairs, f3]
        · simp (disch := first | assumption | simp) only [↓wbD, wbU, ↓aop, ↓reduceIte, Nat.reduceEqDiff, Nat.reduceLT, reduceCtorEq, goInt, pairs, f6]
        · simp (disch := first | assumption | simp) only [↓wbD, wbU, ↓aop, ↓reduceIte, Nat.reduceEqDiff, Nat.reduceLT, reduceCtorEq, goInt, pairs, f4]
        · simp (disch := first | assumption | simp) only [↓wbD, wbU, ↓aop, ↓reduceIte, Nat.reduceEqDiff, Nat.reduceLT, reduceCtorEq, goInt, pairs, f5]
    by_cases hk3 : P.1.kind = 3
    · simp (disch := first | assumption | simp) only [↓wbD, wbU, ↓aop, ↓reduceIte, Nat.reduceEqDiff, Nat.reduceLT, reduceCtorEq, goInt, pairs, hk3, e31, e32, decide_true, decide_false, f3, f5]
      refine (spec35 o2 (by omega) hgd.ids).mono ?_
      rintro r J ⟨F', G, o3, d3, oG, _, _, hS⟩
      obtain ⟨hg3, hl3⟩ := groupF.good hS hgd
      simp only [List.length_map] at hl3
      have hlenG := oG.slice.alen (E := E) (ts := []) ty63
      have hwG : IntKind.i64.wrap ((g : Int) + (G.length : Int)) = ((g + G.length : Nat) : Int) := by
        rw [IntWalk.i64_in _ ⟨by omega, by omega⟩]; rfl
      simp (disch := first | assumption | simp) only [↓wbD, wbU, ↓aop, ↓reduceIte, Nat.reduceEqDiff, Nat.reduceLT, reduceCtorEq, goInt, pairs, hlenG, hwG]
      refine ⟨_, p, g + G.length, rfl, ?_, ?_, ?_, ?_, ?_, next o3 d3 hg3 (by omega) (by omega)⟩
      · simp (disch := first | assumption | simp) only [↓wbD, wbU, ↓aop, ↓reduceIte, Nat.reduceEqDiff, Nat.reduceLT, reduceCtorEq, goInt, pairs, f0]
      · simp (disch := first | assumption | simp) only [↓wbD, wbU, ↓aop, ↓reduceIte, Nat.reduceEqDiff, Nat.reduceLT, reduceCtorEq, goInt, pairs, f3]
      · simp (disch := first | assumption | simp) only [↓wbD, wbU, ↓aop, ↓reduceIte, Nat.reduceEqDiff, Nat.reduceLT, reduceCtorEq, goInt, pairs, f6]
      · simp (disch := first | assumption | simp) only [↓wbD, wbU, ↓aop, ↓reduceIte, Nat.reduceEqDiff, Nat.reduceLT, reduceCtorEq, goInt, pairs, f4]
      · simp (disch := first | assumption | simp) only [↓wbD, wbU, ↓aop, ↓reduceIte, Nat.reduceEqDiff, Nat.reduceLT, reduceCtorEq, goInt, pairs]
    · simp (disch := first | assumption | simp) only [↓wbD, wbU, ↓aop, ↓reduceIte, Nat.reduceEqDiff, Nat.reduceLT, reduceCtorEq, goInt, pairs, hk1, hk2, hk3, decide_false]
      refine ⟨_, p, g, rfl, ?_, ?_, ?_, ?_, ?_, next (o2.grow (fun b hb => .inl hb) ?_) Did.refl hgd hFl (by omega)⟩
      · simp (disch := first | assumption | simp) only [↓wbD, wbU, ↓aop, ↓reduceIte, Nat.reduceEqDiff, Nat.reduceLT, reduceCtorEq, goInt, pairs, f0]
      · simp (disch := first | assumption | simp) only [↓wbD, wbU, ↓aop, ↓reduceIte, Nat.reduceEqDiff, Nat.reduceLT, reduceCtorEq, goInt, pairs, f3]
      · simp (disch := first | assumption | simp) only [↓wbD, wbU, ↓aop, ↓reduceIte, Nat.reduceEqDiff, Nat.reduceLT, reduceCtorEq, goInt, pairs, f6]
      · simp (disch := first | assumption | simp) only [↓wbD, wbU, ↓aop, ↓reduceIte, Nat.reduceEqDiff, Nat.reduceLT, reduceCtorEq, goInt, pairs, f4]
      · simp (disch := first | assumption | simp) only [↓wbD, wbU, ↓aop, ↓reduceIte, Nat.reduceEqDiff, Nat.reduceLT, reduceCtorEq, goInt, pairs, f5]
      · rintro b (hb | hb)
        · exact o2.lt b hb
        · exact hb.2
  rintro e A J ⟨rfl, f', p', g', rfl, f0', f3', f6', f4', f5', T⟩
  clear next
  obtain ⟨D', last', F', o', hD', hgd', hFl'⟩ := T.out
  have hp' := T.put
  simp (disch := first | assumption | simp) only [↓wbD, wbU, ↓aop, ↓reduceIte, Nat.reduceEqDiff, Nat.reduceLT, reduceCtorEq, goInt, pairs, f3']
  refine (spec38 o' (by omega)).mono ?_
  rintro r J2 ⟨ow, x3, _⟩
  have T2 : Once H bo bp bm (i + 1) p' g' J2 := ⟨T.ext.trans x3, ⟨D', last', F', o'.keep (S := fun _ => False) x3.did fun _ _ hf => hf, hD', hgd', hFl'⟩, hp'⟩
  have hlenr := ow.slice.alen (E := E) (ts := []) ty50
  have hws : IntKind.i64.wrap ((p' : Int) - (g' : Int)) = (F'.length : Int) := by
    rw [IntWalk.i64_in _ ⟨by omega, by omega⟩]; omega
  simp (disch := first | assumption | simp) only [↓wbD, wbU, ↓aop, ↓reduceIte, Nat.reduceEqDiff, Nat.reduceLT, reduceCtorEq, goInt, pairs, f4', f5', hlenr, hws, decide_false, not_true_eq_false]
  refine W_loop (fun f J' => J' = J2 ∧ f 0 = v ∧ f 3 = ptr bo ∧ f 6 = .int .i64 i ∧ f 4 = .int .i64 p' ∧ f 5 = .int .i64 g' ∧ f 12 = r ∧ ∃ j : Nat, j ≤ F'.length ∧ f 13 = .int .i64 j) (fun f _ => match f 13 with | .int _ i => F'.length - i.toNat | _ => 0) ?_ ?_
  · refine ⟨rfl, ?_, ?_, ?_, ?_, ?_, ?_, 0, by omega, ?_⟩
    · simp (disch := first | assumption | simp) only [↓wbD, wbU, ↓aop, ↓reduceIte, Nat.reduceEqDiff, Nat.reduceLT, reduceCtorEq, goInt, pairs, f0']
    · simp (disch := first | assumption | simp) only [↓wbD, wbU, ↓aop, ↓reduceIte, Nat.reduceEqDiff, Nat.reduceLT, reduceCtorEq, goInt, pairs, f3']
    · simp (disch := first | assumption | simp) only [↓wbD, wbU, ↓aop, ↓reduceIte, Nat.reduceEqDiff, Nat.reduceLT, reduceCtorEq, goInt, pairs, f6']
    · simp (disch := first | assumption | simp) only [↓wbD, wbU, ↓aop, ↓reduceIte, Nat.reduceEqDiff, Nat.reduceLT, reduceCtorEq, goInt, pairs, f4']
    · simp (disch := first | assumption | simp) only [↓wbD, wbU, ↓aop, ↓reduceIte, Nat.reduceEqDiff, Nat.reduceLT, reduceCtorEq, goInt, pairs, f5']
    · simp (disch := first | assumption | simp) only [↓wbD, wbU, ↓aop, ↓reduceIte, Nat.reduceEqDiff, Nat.reduceLT, reduceCtorEq, goInt, pairs]
    · simp (disch := first | assumption | simp) only [↓wbD, wbU, ↓aop, ↓reduceIte, Nat.reduceEqDiff, Nat.reduceLT, reduceCtorEq, goInt, pairs]
      rfl
  clear f0' f3' f6' f4' f5'
  rintro f J' ⟨rfl, f0, f3, f6, f4, f5, f12, j, hj, f13⟩
  by_cases hjn : (j : Int) < (F'.length : Int)
  rotate_left
  · simp (disch := first | assumption | simp) only [↓wbD, wbU, ↓aop, ↓reduceIte, Nat.reduceEqDiff, Nat.reduceLT, reduceCtorEq, goInt, pairs, f6, f12, f13, hlenr, hjn, decide_false, hw]
    refine ⟨_, rfl, ⟨?_, ?_, i + 1, p', g', by omega, ?_, ?_, ?_, T2⟩, ?_⟩
    · simp (disch := first | assumption | simp) only [↓wbD, wbU, ↓aop, ↓reduceIte, Nat.reduceEqDiff, Nat.reduceLT, reduceCtorEq, goInt, pairs, f0]
    · simp (disch := first | assumption | simp) only [↓wbD, wbU, ↓aop, ↓reduceIte, Nat.reduceEqDiff, Nat.reduceLT, reduceCtorEq, goInt, pairs, f3]
    · simp (disch := first | assumption | simp) only [↓wbD, wbU, ↓aop, ↓reduceIte, Nat.reduceEqDiff, Nat.reduceLT, reduceCtorEq, goInt, pairs]
    · simp (disch := first | assumption | simp) only [↓wbD, wbU, ↓aop, ↓reduceIte, Nat.reduceEqDiff, Nat.reduceLT, reduceCtorEq, goInt, pairs, f4]
    · simp (disch := first | assumption | simp) only [↓wbD, wbU, ↓aop, ↓reduceIte, Nat.reduceEqDiff, Nat.reduceLT, reduceCtorEq, goInt, pairs, f5]
    · simp (disch := first | assumption | simp) only [↓wbD, wbU, ↓aop, ↓reduceIte, Nat.reduceEqDiff, Nat.reduceLT, reduceCtorEq, goInt, pairs, f6]
      simp; omega
  have hjF : j < F'.length := by omega
  obtain ⟨bb, cc, ex, sp, rfl, hg, hbl⟩ := own_at ow hjF
  have hwj := wrap_nat (n := j) (by omega)
  have idAt : ∀ {k : Nat} (hk : k < F'.length), (fcells F' ++ sp)[k * 11]? = some (.int .i64 (F'[k]).1.id) := fun {k} hk => by
    have := fcells_get (sp := sp) hk (show 0 < 11 by omega)
    simpa [fcell] using this
  have stAt : (fcells F' ++ sp)[j * 11 + 1]? = some (.int .i64 (F'[j]).1.st) := by
    have := fcells_get (sp := sp) hjF (show 1 < 11 by omega)
    simpa [fcell] using this
  simp (disch := first | assumption | simp) only [↓wbD, wbU, ↓aop, ↓reduceIte, Nat.reduceEqDiff, Nat.reduceLT, reduceCtorEq, goInt, pairs, f12, f13, hlenr, hjn, decide_true]
  refine W_loop (fun f J'' => J'' = J' ∧ f 0 = v ∧ f 3 = ptr bo ∧ f 6 = .int .i64 i ∧ f 4 = .int .i64 p' ∧ f 5 = .int .i64 g' ∧ f 12 = .slice (some ⟨bb, 0, ex⟩) F'.length cc ∧ f 13 = .int .i64 j ∧ ∃ k : Nat, k ≤ j ∧ f 14 = .int .i64 k) (fun f _ => match f 14 with | .int _ i => j - i.toNat | _ => 0) ?_ ?_
  · refine ⟨rfl, ?_, ?_, ?_, ?_, ?_, ?_, ?_, 0, by omega, ?_⟩
    · simp (disch := first | assumption | simp) only [↓wbD, wbU, ↓aop, ↓reduceIte, Nat.reduceEqDiff, Nat.reduceLT, reduceCtorEq, goInt, pairs, f0]
    · simp (disch := first | assumption | simp) only [↓wbD, wbU, ↓aop, ↓reduceIte, Nat.reduceEqDiff, Nat.reduceLT, reduceCtorEq, goInt, pairs, f3]
    · simp (disch := first | assumption | simp) only [↓wbD, wbU, ↓aop, ↓reduceIte, Nat.reduceEqDiff, Nat.reduceLT, reduceCtorEq, goInt, pairs, f6]
    · simp (disch := first | assumption | simp) only [↓wbD, wbU, ↓aop, ↓reduceIte, Nat.reduceEqDiff, Nat.reduceLT, reduceCtorEq, goInt, pairs, f4]
    · simp (disch := first | assumption | simp) only [↓wbD, wbU, ↓aop, ↓reduceIte, Nat.reduceEqDiff, Nat.reduceLT, reduceCtorEq, goInt, pairs, f5]
    · simp (disch := first | assumption | simp) only [↓wbD, wbU, ↓aop, ↓reduceIte, Nat.reduceEqDiff, Nat.reduceLT, reduceCtorEq, goInt, pairs, f12]
    · simp (disch := first | assumption | simp) only [↓wbD, wbU, ↓aop, ↓reduceIte, Nat.reduceEqDiff, Nat.reduceLT, reduceCtorEq, goInt, pairs, f13]
    · simp (disch := first | assumption | simp) only [↓wbD, wbU, ↓aop, ↓reduceIte, Nat.reduceEqDiff, Nat.reduceLT, reduceCtorEq, goInt, pairs]
      rfl
  clear f0 f3 f6 f4 f5 f12 f13 f
  rintro f J'' ⟨rfl, f0, f3, f6, f4, f5, f12, f13, k, hk, f14⟩
  by_cases hkj : (k : Int) < (j : Int)
  · have hkF : k < F'.length := by omega
    have hwk := wrap_nat (n := k) (by omega)
    have hne : ¬ (F'[k]).1.id = (F'[j]).1.id := fun he => by
      have hnd := hgd'.ids
      have h1 : (ids F')[k]'(by simpa using hkF) = (ids F')[j]'(by simpa using hjF) := by simpa using he
      exact List.pairwise_iff_getElem.1 (List.nodup_iff_pairwise_ne.1 hnd) k j (by simpa using hkF) (by simpa using hjF) (by omega) h1
    simp (disch := first | assumption | simp) only [↓wbD, wbU, ↓aop, ↓reduceIte, Nat.reduceEqDiff, Nat.reduceLT, reduceCtorEq, goInt, pairs, f12, f13, f14, hkj, decide_true, ia_slice ty50 ty75 hkF, ia_slice ty50 ty75 hjF, Nat.zero_add, fa75_0, Nat.add_zero, ld_cell ty3 rfl hg, idAt hkF, idAt hjF, hne, decide_false, hwk]
    refine ⟨_, rfl, ⟨?_, ?_, ?_, ?_, ?_, ?_, ?_, k + 1, by omega, ?_⟩, ?_⟩
    · simp (disch := first | assumption | simp) only [↓wbD, wbU, ↓aop, ↓reduceIte, Nat.reduceEqDiff, Nat.reduceLT, reduceCtorEq, goInt, pairs, f0]
    · simp (disch := first | assumption | simp) only [↓wbD, wbU, ↓aop, ↓reduceIte, Nat.reduceEqDiff, Nat.reduceLT, reduceCtorEq, goInt, pairs, f3]
    · simp (disch := first | assumption | simp) only [↓wbD, wbU, ↓aop, ↓reduceIte, Nat.reduceEqDiff, Nat.reduceLT, reduceCtorEq, goInt, pairs, f6]
    · simp (disch := first | assumption | simp) only [↓wbD, wbU, ↓aop, ↓reduceIte, Nat.reduceEqDiff, Nat.reduceLT, reduceCtorEq, goInt, pairs, f4]
    · simp (disch := first | assumption | simp) only [↓wbD, wbU, ↓aop, ↓reduceIte, Nat.reduceEqDiff, Nat.reduceLT, reduceCtorEq, goInt, pairs, f5]
    · simp (disch := first | assumption | simp) only [↓wbD, wbU, ↓aop, ↓reduceIte, Nat.reduceEqDiff, Nat.reduceLT, reduceCtorEq, goInt, pairs, f12]
    · simp (disch := first | assumption | simp) only [↓wbD, wbU, ↓aop, ↓reduceIte, Nat.reduceEqDiff, Nat.reduceLT, reduceCtorEq, goInt, pairs, f13]
    · simp (disch := first | assumption | simp) only [↓wbD, wbU, ↓aop, ↓reduceIte, Nat.reduceEqDiff, Nat.reduceLT, reduceCtorEq, goInt, pairs]
    · simp (disch := first | assumption | simp) only [↓wbD, wbU, ↓aop, ↓reduceIte, Nat.reduceEqDiff, Nat.reduceLT, reduceCtorEq, goInt, pairs, f14]
      simp; omega
  · have hmj : (F'[j]).1 ∈ F'.map (·.1) := List.mem_map.2 ⟨_, List.getElem_mem hjF, rfl⟩
    have hst3 := hgd'.st _ hmj
    have hid3 := hgd'.id _ hmj
    have n1 : ¬ (F'[j]).1.st < 1 := by omega
    have n2 : ¬ (3 : Int) < (F'[j]).1.st := by omega
    have n3 : ¬ (F'[j]).1.id < 1 := by omega
    simp (disch := first | assumption | simp) only [↓wbD, wbU, ↓aop, ↓reduceIte, Nat.reduceEqDiff, Nat.reduceLT, reduceCtorEq, goInt, pairs, f12, f13, f14, hkj, decide_false, ia_slice ty50 ty75 hjF, Nat.zero_add, fa75_0, fa75_1, Nat.add_zero, ld_cell ty3 rfl hg, idAt hjF, stAt, n1, n2, n3, hwj]
    refine ⟨_, rfl, ⟨?_, ?_, ?_, ?_, ?_, ?_, j + 1, by omega, ?_⟩, ?_⟩
    · simp (disch := first | assumption | simp) only [↓wbD, wbU, ↓aop, ↓reduceIte, Nat.reduceEqDiff, Nat.reduceLT, reduceCtorEq, goInt, pairs, f0]
    · simp (disch := first | assumption | simp) only [↓wbD, wbU, ↓aop, ↓reduceIte, Nat.reduceEqDiff, Nat.reduceLT, reduceCtorEq, goInt, pairs, f3]
    · simp (disch := first | assumption | simp) only [↓wbD, wbU, ↓aop, ↓reduceIte, Nat.reduceEqDiff, Nat.reduceLT, reduceCtorEq, goInt, pairs, f6]
    · simp (disch := first | assumption | simp) only [↓wbD, wbU, ↓aop, ↓reduceIte, Nat.reduceEqDiff, Nat.reduceLT, reduceCtorEq, goInt, pairs, f4]
    · simp (disch := first | assumption | simp) only [↓wbD, wbU, ↓aop, ↓reduceIte, Nat.reduceEqDiff, Nat.reduceLT, reduceCtorEq, goInt, pairs, f5]
    · simp (disch := first | assumption | simp) only [↓wbD, wbU, ↓aop, ↓reduceIte, Nat.reduceEqDiff, Nat.reduceLT, reduceCtorEq, goInt, pairs, f12]
    · simp (disch := first | assumption | simp) only [↓wbD, wbU, ↓aop, ↓reduceIte, Nat.reduceEqDiff, Nat.reduceLT, reduceCtorEq, goInt, pairs]
    · simp (disch := first | assumption | simp) only [↓wbD, wbU, ↓aop, ↓reduceIte, Nat.reduceEqDiff, Nat.reduceLT, reduceCtorEq, goInt, pairs, f13]
      simp; omega
end Go.Proofs.Ytlmcjfnignbdoaa.Abs
