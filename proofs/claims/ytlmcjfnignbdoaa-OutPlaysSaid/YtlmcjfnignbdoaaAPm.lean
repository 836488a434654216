/-
  A part of a law's proof.
-/
import Derived.Test.YtlmcjfnignbdoaaAPl
namespace Go.Proofs.Ytlmcjfnignbdoaa.Abs
open Go AbsYtlmcjfnignbdoaa
set_option maxRecDepth 100000
set_option maxHeartbeats 8000000
set_option linter.unusedSimpArgs false
set_option linter.unusedVariables false
theorem all_tt (l : List Nat) : (l.all fun _ => true) = true := by simp
/-- one act, done by both, with the act's own block -/
structure Acted (H0 : AHeap) (e bo bp bm ro rp : Nat) (i x : Nat) (P : Act × Value) (H : AHeap) : Prop where
  play : Play H0 e bo bp bm ro rp i H
  box : H.get x = .cells (acell P) true 0
  lt : x < H.size
theorem spec8 {H : AHeap} {v : Value} {AS : List (Act × Value)} (h : ActsAt H v AS) (hm : ActMem H AS) : CallW E 8 [v] H fun r _ => r = .bool true := by
  refine call8 (by simp) ?_
  simp only [strip, bodyOf, Try.f8, getD_body, keepN, bareOp_mk, lessOp_mk, lapp_cons, lapp_nil, List.map_cons, List.map_nil, array_toList, ↓reduceIte, Nat.reduceEqDiff, Bool.false_eq_true]
  simp (disch := first | assumption | simp) only [↓wbD, wbU, ↓aop, ↓reduceIte, Nat.reduceEqDiff, Nat.reduceLT, reduceCtorEq, goInt, pairs]
  refine (spec25 h hm).mono ?_
  rintro r Ha ⟨⟨b, rfl, hb⟩, xa⟩
  cases b with
  | false =>
    simp (disch := first | assumption | simp) only [↓wbD, wbU, ↓aop, ↓reduceIte, Nat.reduceEqDiff, Nat.reduceLT, reduceCtorEq, goInt, pairs, not_bool, Bool.not_false]
    refine spec21 ?_
    simp (disch := first | assumption | simp) only [↓wbD, wbU, ↓aop, ↓reduceIte, Nat.reduceEqDiff, Nat.reduceLT, reduceCtorEq, goInt, pairs]
  | true =>
  obtain ⟨hn, hs⟩ := hb rfl
  simp (disch := first | assumption | simp) only [↓wbD, wbU, ↓aop, ↓reduceIte, Nat.reduceEqDiff, Nat.reduceLT, reduceCtorEq, goInt, pairs, not_bool, Bool.not_true]
  refine spec26.mono ?_
  rintro r H1 ⟨rfl, o1, x1⟩
  simp (disch := first | assumption | simp) only [↓wbD, wbU, ↓aop, ↓reduceIte, Nat.reduceEqDiff, Nat.reduceLT, reduceCtorEq, goInt, pairs]
  refine spec27.mono ?_
  rintro r H2 ⟨rfl, o2, x2⟩
  have T := spec8_start xa x1 o1 o2 x2
  simp (disch := first | assumption | simp) only [↓wbD, wbU, ↓aop, ↓reduceIte, Nat.reduceEqDiff, Nat.reduceLT, reduceCtorEq, goInt, pairs, build52e, vcells, AHeap.size_alloc, bs53]
  generalize hJ : (H2.alloc (.cells [.pointer none, .slice none 0 0] true 0)).alloc (.cells [.pointer none, ptr H2.size] true 1) = J at T ⊢
  generalize H2.size = e at T ⊢
  generalize Ha.size + 2 = bo at T ⊢
  generalize Ha.size + 1 = bp at T
  generalize Ha.size = bm at T
  generalize H1.size + 1 = ro at T ⊢
  generalize H1.size = rp at T
  clear hJ o1 o2 x1 x2 xa
  refine W_loop (fun f H' => f 0 = v ∧ f 3 = ptr bo ∧ f 4 = ptr ro ∧ f 5 = .slice (some ⟨e + 1, 0, some 1⟩) 2 2 ∧ ∃ i : Nat, i ≤ AS.length ∧ f 6 = .int .i64 i ∧ Play H e bo bp bm ro rp i H') (fun f _ => match f 6 with | .int _ i => AS.length - i.toNat | _ => 0) ?_ ?_
  · refine ⟨?_, ?_, ?_, ?_, 0, by omega, ?_, T⟩
    · simp (disch := first | assumption | simp) only [↓wbD, wbU, ↓aop, ↓reduceIte, Nat.reduceEqDiff, Nat.reduceLT, reduceCtorEq, goInt, pairs]
    · simp (disch := first | assumption | simp) only [↓wbD, wbU, ↓aop, ↓reduceIte, Nat.reduceEqDiff, Nat.reduceLT, reduceCtorEq, goInt, pairs]
    · simp (disch := first | assumption | simp) only [↓wbD, wbU, ↓aop, ↓reduceIte, Nat.reduceEqDiff, Nat.reduceLT, reduceCtorEq, goInt, pairs]
    · simp (disch := first | assumption | simp) only [↓wbD, wbU, ↓aop, ↓reduceIte, Nat.reduceEqDiff, Nat.reduceLT, reduceCtorEq, goInt, pairs]
    · simp (disch := first | assumption | simp) only [↓wbD, wbU, ↓aop, ↓reduceIte, Nat.reduceEqDiff, Nat.reduceLT, reduceCtorEq, goInt, pairs]
      rfl
  clear T J H1 H2 Ha
  rintro f H1 ⟨f0, f3, f4, f5, i, hi, f6, T⟩
  have h1 := h.ext T.ext
  have hlen := h1.len (ts := [])
  by_cases hin : (i : Int) < (AS.length : Int)
  rotate_left
  · simp (disch := first | assumption | simp) only [↓wbD, wbU, ↓aop, ↓reduceIte, Nat.reduceEqDiff, Nat.reduceLT, reduceCtorEq, goInt, pairs, f0, f6, hlen, hin, decide_false]
    refine spec21 ?_
    simp (disch := first | assumption | simp) only [↓wbD, wbU, ↓aop, ↓reduceIte, Nat.reduceEqDiff, Nat.reduceLT, reduceCtorEq, goInt, pairs]
  have hiA : i < AS.length := by omega
  obtain ⟨b, k1, k2, k3⟩ := h1.at hiA
  obtain ⟨q1, q2⟩ := hm _ (List.getElem_mem hiA)
  have q3 := hs _ (List.getElem_mem hiA)
  have hw := wrap_nat (n := i) (by omega)
  generalize AS[i] = P at k2 q1 q2 q3
  have q1' := q1.ext T.ext
  have hst := st55 (p := P) (AHeap.get_alloc_same H1 (.cells (acell (a0, .slice none 0 0)) true 0)) rfl (acell_one q1')
  obtain ⟨x2, s2, z2⟩ := new_set (H := H1) (o := .cells (acell (a0, .slice none 0 0)) true 0) (o' := .cells (acell P) true 0)
  have c0 : (acell P)[0]? = some (.int .i64 P.1.kind) := rfl
  have c10 : (acell P)[10]? = some (.int .i64 P.1.q) := rfl
  simp (disch := first | assumption | simp) only [↓wbD, wbU, ↓aop, ↓reduceIte, Nat.reduceEqDiff, Nat.reduceLT, reduceCtorEq, goInt, pairs, f0, f6, hlen, hin, decide_true, k1, k2, zero55m, hst, fa55_0, Nat.zero_add, ld_cell ty3 rfl z2, c0]
  generalize (H1.alloc (.cells (acell (a0, .slice none 0 0)) true 0)).set H1.size (.cells (acell P) true 0) = H2 at x2 s2 z2 ⊢
  have T2 := T.keep x2
  have hx0 : H.size ≤ H1.size := T.ext.size
  obtain ⟨D, R, last, F, F', o1', r1', hF, hD, hR, hgd, hl, hE⟩ := T.bk
  have hxD : ¬ D H1.size := fun hd => by have := o1'.lt _ hd; omega
  have hxR : ¬ R H1.size := fun hd => by have := r1'.lt _ hd; omega
  have o2 : OutI H2 D bo bp bm last F := o1'.keep (S := fun _ => False) x2.did fun _ _ hf => hf
  have r2 : OutR H2 R ro rp last F' (ids F') := r1'.keep (S := fun _ => False) x2.did fun _ _ hf => hf
  have hRb : ∀ b, R b → H.size ≤ b ∧ b < H2.size := fun b hb => ⟨hR b hb, r2.lt b hb⟩
  have x02 := T2.ext
  have mem2 : Mem H2 P.1.m P.2 := ⟨q1.ext x02, q2, q3⟩
  have hlF : F'.length = F.length := by have := congrArg List.length hF; simpa using this.symm
  have hgd' : Good (F'.map (·.1)) := hF ▸ hgd
  generalize hxx : H1.size = x at z2 hxD hxR ⊢
  have hxl : x < H2.size := by omega
  clear o1' r1' x2 T h1 hlen
  have e21 : ¬ ((2 : Int) = 1) := by decide
  have e31 : ¬ ((3 : Int) = 1) := by decide
  have e32 : ¬ ((3 : Int) = 2) := by decide
  refine condC_mono (Q := fun ex A J => ex = .normal ∧ ∃ f' : Nat → Value, A = L 196 f' ∧ f' 0 = v ∧ f' 3 = ptr bo ∧ f' 4 = ptr ro ∧ f' 5 = .slice (some ⟨e + 1, 0, some 1⟩) 2 2 ∧ f' 6 = .int .i64 i ∧ f' 7 = ptr x ∧ Acted H e bo bp bm ro rp (i + 1) x P J) ?_ ?_
  · by_cases hk1 : P.1.kind = 1
    · simp (disch := first | assumption | simp) only [↓wbD, wbU, ↓aop, ↓reduceIte, Nat.reduceEqDiff, Nat.reduceLT, reduceCtorEq, goInt, pairs, hk1, decide_true, f3, fa55_1, fa55_2, Nat.zero_add, ldact z2, ld_cell ty3 rfl z2, c10]
      refine (spec28 o2 mem2 (by omega)).mono ?_
      rintro r J ⟨last', F2, y, ok, rfl, o3, d3, hS⟩
      have z3 : J.get x = .cells (acell P) true 0 := by rw [d3.but.get _ hxl hxD]; exact z2
      have r3 : OutR J R ro rp last F' (ids F') := r2.keep d3 fun b hb hd => (hD b hd).2 hb
      simp (disch := first | assumption | simp) only [↓wbD, wbU, ↓aop, ↓reduceIte, Nat.reduceEqDiff, Nat.reduceLT, reduceCtorEq, goInt, pairs, tup0, tup1, f4, fa55_1, fa55_2, Nat.zero_add, ldact z3, ld_cell ty3 rfl z3, c10]
      refine (spec29 r3 (mem2.keep d3.kept) (by omega)).mono ?_
      rintro r J2 ⟨last2, F2', y2, ok2, rfl, r4, d4, hS2⟩
      rw [← hF] at hS2
      obtain ⟨rfl, hA, rfl, rfl⟩ := hS.uniq hS2
      obtain ⟨hg3, hl3⟩ := hS.good hgd
      simp only [List.length_map] at hl3
      have z4 : J2.get x = .cells (acell P) true 0 := by rw [d4.but.get _ (by have := d3.size; omega) hxR]; exact z3
      have hbb : ∀ bb : Bool, (bb == bb) = true := fun bb => by simp
      simp (disch := first | assumption | simp) only [↓wbD, wbU, ↓aop, ↓reduceIte, Nat.reduceEqDiff, Nat.reduceLT, reduceCtorEq, goInt, pairs, tup0, tup1, decide_false, not_true_eq_false, AbsYtlmcjfnignbdoaa.bool_neq' ty4, hbb, Bool.not_true]
      refine ⟨_, rfl, ?_, ?_, ?_, ?_, ?_, ?_, Play.step (F := F) (F' := F') (i := i) x02 T2.e0 T2.e1 T2.lt T2.le hD hRb hE o3 d3 r4 d4 hA hg3 (by split at hl3 <;> omega), z4, by have := d3.size; have := d4.size; omega⟩
      · simp (disch := first | assumption | simp) only [↓wbD, wbU, ↓aop, ↓reduceIte, Nat.reduceEqDiff, Nat.reduceLT, reduceCtorEq, goInt, pairs, f0]
      · simp (disch := first | assumption | simp) only [↓wbD, wbU, ↓aop, ↓reduceIte, Nat.reduceEqDiff, Nat.reduceLT, reduceCtorEq, goInt, pairs, f3]
      · simp (disch := first | assumption | simp) only [↓wbD, wbU, ↓aop, ↓reduceIte, Nat.reduceEqDiff, Nat.reduceLT, reduceCtorEq, goInt, pairs, f4]
      · simp (disch := first | assumption | simp) only [↓wbD, wbU, ↓aop, ↓reduceIte, Nat.reduceEqDiff, Nat.reduceLT, reduceCtorEq, goInt, pairs, f5]
      · simp (disch := first | assumption | simp) only [↓wbD, wbU, ↓aop, ↓reduceIte, Nat.reduceEqDiff, Nat.reduceLT, reduceCtorEq, goInt, pairs, f6]
      · simp (disch := first | assumption | simp) only [↓wbD, wbU, ↓aop, ↓reduceIte, Nat.reduceEqDiff, Nat.reduceLT, reduceCtorEq, goInt, pairs]
    by_cases hk2 : P.1.kind = 2
    · simp (disch := first | assumption | simp) only [↓wbD, wbU, ↓aop, ↓reduceIte, Nat.reduceEqDiff, Nat.reduceLT, reduceCtorEq, goInt, pairs, hk2, e21, decide_true, decide_false, f3, Nat.zero_add, ldact55 z2]
      refine (spec31 (a := P.1) (sl := P.2)).mono ?_
      rintro r J1 ⟨rfl, y1⟩
      have o3 : OutI J1 D bo bp bm last F := o2.keep (S := fun _ => False) y1.did fun _ _ hf => hf
      simp (disch := first | assumption | simp) only [↓wbD, wbU, ↓aop, ↓reduceIte, Nat.reduceEqDiff, Nat.reduceLT, reduceCtorEq, goInt, pairs, f3]
      refine (spec30 o3 (by omega) hgd.ids).mono ?_
      rintro r J2 ⟨F2, code, m, sl, rfl, o4, d4, hm4, hS⟩
      have hst4 := st31 (AHeap.get_alloc_same J2 (.cells (m0.v (.slice none 0 0)) true 0)) rfl hm4.one
      obtain ⟨x5, s5, z5⟩ := new_set (H := J2) (o := .cells (m0.v (.slice none 0 0)) true 0) (o' := .cells (m.v sl) true 0)
      have sy := y1.size
      have sd4 := d4.size
      have D5 : Did D H2 ((J2.alloc (.cells (m0.v (.slice none 0 0)) true 0)).set J2.size (.cells (m.v sl) true 0)) := (y1.did.trans (d4.mono fun b _ hb => .inl hb)).trans x5.did
      have hm5 := hm4.keep (x5.did (D := D)).kept
      have o4' := o4.keep (S := fun _ => False) x5.did fun _ _ hf => hf
      generalize hJ3 : (J2.alloc (.cells (m0.v (.slice none 0 0)) true 0)).set J2.size (.cells (m.v sl) true 0) = J3 at hst4 x5 s5 z5 D5 hm5 o4'
      have o5 : OutI J3 (Grow D H2 J3) bo bp bm last F2 := o4'.grow (fun b hb => hb.elim .inl fun hx => .inr ⟨by omega, by omega⟩) fun b hb => by
        rcases hb with hb | hb
        · have := o2.lt b hb; omega
        · exact hb.2
      have r5 : OutR J3 R ro rp last F' (ids F') := r2.keep D5 fun b hb hd => (hD b hd).2 hb
      have z3 : J3.get x = .cells (acell P) true 0 := by rw [D5.but.get _ hxl hxD]; exact z2
      simp (disch := first | assumption | simp) only [↓wbD, wbU, ↓aop, ↓reduceIte, Nat.reduceEqDiff, Nat.reduceLT, reduceCtorEq, goInt, pairs, tup0, tup1, zero31m, hst4, f4, ldact55 z3]
      refine (spec31 (a := P.1) (sl := P.2)).mono ?_
      rintro r J4 ⟨rfl, y4⟩
      have r6 : OutR J4 R ro rp last F' (ids F') := r5.keep (S := fun _ => False) y4.did fun _ _ hf => hf
      simp (disch := first | assumption | simp) only [↓wbD, wbU, ↓aop, ↓reduceIte, Nat.reduceEqDiff, Nat.reduceLT, reduceCtorEq, goInt, pairs, f4]
      refine (spec32 r6 (by omega) hgd'.ids).mono ?_
      rintro r J5 ⟨F2', code2, m2, sl2, rfl, r7, d7, hm7, hS2⟩
      rw [← hF, hS] at hS2
      injection hS2 with e1 e2; injection e2 with e2 e3
      subst e1; subst e2
      obtain ⟨hg4, hl4⟩ := ackF.good hS hgd
      simp only [List.length_map] at hl4
      have hst8 := st31 (AHeap.get_alloc_same J5 (.cells (m0.v (.slice none 0 0)) true 0)) rfl hm7.one
      obtain ⟨x8, s8, z8⟩ := new_set (H := J5) (o := .cells (m0.v (.slice none 0 0)) true 0) (o' := .cells (m.v sl2) true 0)
      have sy4 := y4.size
      have sd7 := d7.size
      have D8 : Did R J3 ((J5.alloc (.cells (m0.v (.slice none 0 0)) true 0)).set J5.size (.cells (m.v sl2) true 0)) := (y4.did.trans (d7.mono fun b _ hb => .inl hb)).trans x8.did
      have hm8 := hm7.keep (x8.did (D := D)).kept
      have r7' := r7.keep (S := fun _ => False) x8.did fun _ _ hf => hf
      generalize hJ6 : (J5.alloc (.cells (m0.v (.slice none 0 0)) true 0)).set J5.size (.cells (m.v sl2) true 0) = J6 at hst8 x8 s8 z8 D8 hm8 r7'
      have r8 : OutR J6 (Grow R J3 J6) ro rp last F2' (ids F2') := r7'.grow (fun b hb => hb.elim .inl fun hx => .inr ⟨by omega, by omega⟩) fun b hb => by
        rcases hb with hb | hb
        · have := r6.lt b hb; omega
        · exact hb.2
      have nR : ∀ b, H2.size ≤ b → ¬ R b := fun b hb hr => by have := (hRb b hr).2; omega
      have z6 : J6.get x = .cells (acell P) true 0 := by rw [D8.but.get _ (by have := D5.size; omega) hxR]; exact z3
      have zm : J6.get J2.size = .cells (m.v sl) true 0 := by rw [D8.but.get _ (by omega) (nR _ (by omega))]; exact z5
      have S6 : Play H e bo bp bm ro rp (i + 1) J6 := Play.step (F := F) (F' := F') (i := i) x02 T2.e0 T2.e1 T2.lt T2.le hD hRb hE o5 D5 r8 D8 e3 hg4 (by rcases hl4 with h | h <;> omega)
      simp (disch := first | assumption | simp) only [↓wbD, wbU, ↓aop, ↓reduceIte, Nat.reduceEqDiff, Nat.reduceLT, reduceCtorEq, goInt, pairs, tup0, tup1, zero31m, hst8, decide_false, not_true_eq_false, ld31 zm, ld31 z8]
      refine (spec33 (hm5.keep D8.kept) hm8).mono ?_
      rintro r J7 ⟨rfl, x9⟩
      simp (disch := first | assumption | simp) only [↓wbD, wbU, ↓aop, ↓reduceIte, Nat.reduceEqDiff, Nat.reduceLT, reduceCtorEq, goInt, pairs, not_bool, Bool.not_true]
      refine ⟨_, rfl, ?_, ?_, ?_, ?_, ?_, ?_, S6.keep x9, by rw [x9.get _ (by have := D5.size; have := D8.size; omega)]; exact z6, by have := x9.size; have := D5.size; have := D8.size; omega⟩
      · simp (disch := first | assumption | simp) only [↓wbD, wbU, ↓aop, ↓reduceIte, Nat.reduceEqDiff, Nat.reduceLT, reduceCtorEq, goInt, pairs, f0]
      · simp (disch := first | assumption | simp) only [↓wbD, wbU, ↓aop, ↓reduceIte, Nat.reduceEqDiff, Nat.reduceLT, reduceCtorEq, goInt, pairs, f3]
      · simp (disch := first | assumption | simp) only [↓wbD, wbU, ↓aop, ↓reduceIte, Nat.reduceEqDiff, Nat.reduceLT, reduceCtorEq, goInt, pairs, f4]
      · simp (disch := first | assumption | simp) only [↓wbD, wbU, ↓aop, ↓reduceIte, Nat.reduceEqDiff, Nat.reduceLT, reduceCtorEq, goInt, pairs, f5]
      · simp (disch := first | assumption | simp) only [↓wbD, wbU, ↓aop, ↓reduceIte, Nat.reduceEqDiff, Nat.reduceLT, reduceCtorEq, goInt, pairs, f6]
      · simp (disch := first | assumption | simp) only [↓wbD, wbU, ↓aop, ↓reduceIte, Nat.reduceEqDiff, Nat.reduceLT, reduceCtorEq, goInt, pairs]
    by_cases hk3 : P.1.kind = 3
    · simp (disch := first | assumption | simp) only [↓wbD, wbU, ↓aop, ↓reduceIte, Nat.reduceEqDiff, Nat.reduceLT, reduceCtorEq, goInt, pairs, hk3, e31, e32, decide_true, decide_false, f3]
      refine (spec35 o2 (by omega) hgd.ids).mono ?_
      rintro r J ⟨F2, G, o3, d3, oG, mG, bG, hS⟩
      have r3 : OutR J R ro rp last F' (ids F') := r2.keep d3 fun b hb hd => (hD b hd).2 hb
      have z3 : J.get x = .cells (acell P) true 0 := by rw [d3.but.get _ hxl hxD]; exact z2
      simp (disch := first | assumption | simp) only [↓wbD, wbU, ↓aop, ↓reduceIte, Nat.reduceEqDiff, Nat.reduceLT, reduceCtorEq, goInt, pairs, f4]
      refine (spec36 r3 (by omega) hgd').mono ?_
      rintro r2' J2 ⟨F2', G2, r4, d4, oG2, mG2, bG2, hS2⟩
      rw [← hF, hS] at hS2
      injection hS2 with e1 e2
      obtain ⟨hg3, hl3⟩ := groupF.good hS hgd
      simp only [List.length_map] at hl3
      have z4 : J2.get x = .cells (acell P) true 0 := by rw [d4.but.get _ (by have := d3.size; omega) hxR]; exact z3
      have nR : ∀ b, H2.size ≤ b → ¬ R b := fun b hb hr => by have := (hRb b hr).2; omega
      have oG' : OwnC J2 9 r G.length (mcells G) := oG.keep d4.size fun b hb => d4.but.get b (oG.sz hb).2 (nR b (bG b hb))
      have S2 : Play H e bo bp bm ro rp (i + 1) J2 := Play.step (F := F) (F' := F') (i := i) x02 T2.e0 T2.e1 T2.lt T2.le hD hRb hE o3 d3 r4 d4 e2 hg3 (by omega)
      simp (disch := first | assumption | simp) only [↓wbD, wbU, ↓aop, ↓reduceIte, Nat.reduceEqDiff, Nat.reduceLT, reduceCtorEq, goInt, pairs]
      refine (spec34 oG' oG2 (fun p hp => (mG p hp).keep d4.kept) mG2 e1 (by omega)).mono ?_
      rintro r3' J3 ⟨rfl, x5⟩
      simp (disch := first | assumption | simp) only [↓wbD, wbU, ↓aop, ↓reduceIte, Nat.reduceEqDiff, Nat.reduceLT, reduceCtorEq, goInt, pairs, not_bool, Bool.not_true]
      have s3 := d3.size
      have s4 := d4.size
      refine ⟨_, rfl, ?_, ?_, ?_, ?_, ?_, ?_, S2.keep x5, by rw [x5.get _ (by omega)]; exact z4, by have := x5.size; omega⟩
      · simp (disch := first | assumption | simp) only [↓wbD, wbU, ↓aop, ↓reduceIte, Nat.reduceEqDiff, Nat.reduceLT, reduceCtorEq, goInt, pairs, f0]
      · simp (disch := first | assumption | simp) only [↓wbD, wbU, ↓aop, ↓reduceIte, Nat.reduceEqDiff, Nat.reduceLT, reduceCtorEq, goInt, pairs, f3]
      · simp (disch := first | assumption | simp) only [↓wbD, wbU, ↓aop, ↓reduceIte, Nat.reduceEqDiff, Nat.reduceLT, reduceCtorEq, goInt, pairs, f4]
      · simp (disch := first | assumption | simp) only [↓wbD, wbU, ↓aop, ↓reduceIte, Nat.reduceEqDiff, Nat.reduceLT, reduceCtorEq, goInt, pairs, f5]
      · simp (disch := first | assumption | simp) only [↓wbD, wbU, ↓aop, ↓reduceIte, Nat.reduceEqDiff, Nat.reduceLT, reduceCtorEq, goInt, pairs, f6]
      · simp (disch := first | assumption | simp) only [↓wbD, wbU, ↓aop, ↓reduceIte, Nat.reduceEqDiff, Nat.reduceLT, reduceCtorEq, goInt, pairs]
    · simp (disch := first | assumption | simp) only [↓wbD, wbU, ↓aop, ↓reduceIte, Nat.reduceEqDiff, Nat.reduceLT, reduceCtorEq, goInt, pairs, hk1, hk2, hk3, decide_false]
      refine ⟨_, rfl, ?_, ?_, ?_, ?_, ?_, ?_, T2.more (by omega), z2, hxl⟩
      · simp (disch := first | assumption | simp) only [↓wbD, wbU, ↓aop, ↓reduceIte, Nat.reduceEqDiff, Nat.reduceLT, reduceCtorEq, goInt, pairs, f0]
      · simp (disch := first | assumption | simp) only [↓wbD, wbU, ↓aop, ↓reduceIte, Nat.reduceEqDiff, Nat.reduceLT, reduceCtorEq, goInt, pairs, f3]
      · simp (disch := first | assumption | simp) only [↓wbD, wbU, ↓aop, ↓reduceIte, Nat.reduceEqDiff, Nat.reduceLT, reduceCtorEq, goInt, pairs, f4]
      · simp (disch := first | assumption | simp) only [↓wbD, wbU, ↓aop, ↓reduceIte, Nat.reduceEqDiff, Nat.reduceLT, reduceCtorEq, goInt, pairs, f5]
      · simp (disch := first | assumption | simp) only [↓wbD, wbU, ↓aop, ↓reduceIte, Nat.reduceEqDiff, Nat.reduceLT, reduceCtorEq, goInt, pairs, f6]
      · simp (disch := first | assumption | simp) only [↓wbD, wbU, ↓aop, ↓reduceIte, Nat.reduceEqDiff, Nat.reduceLT, reduceCtorEq, goInt, pairs]
  clear o2 r2 hF hD hR hgd hl hE hxD hxR hRb mem2 hlF hgd' T2 z2 hxl x02 s2 hst F F' D R last
  rintro ex A J ⟨rfl, f', rfl, f0', f3', f4', f5', f6', f7', ⟨T, zx, hxl⟩⟩
  obtain ⟨D, R, last, F, F', o, r, hF, hD, hR, hgd, hl, hE⟩ := T.bk
  have hlF : F'.length = F.length := by have := congrArg List.length hF; simpa using this.symm
  have c1 : ∀ v : Value, ([ptr rp, v] : List Value)[1]? = some v := fun _ => rfl
  obtain ⟨w, g0, ow0, dw⟩ := r.go
  have hro := r.lt _ r.own.1
  simp (disch := first | assumption | simp) only [↓wbD, wbU, ↓aop, ↓reduceIte, Nat.reduceEqDiff, Nat.reduceLT, reduceCtorEq, goInt, pairs, f3']
  refine (spec38 o (by omega)).mono ?_
  rintro ra J1 ⟨owA, y1, _⟩
  have g1 : J1.get ro = .cells [ptr rp, w] true 0 := by rw [y1.get _ hro]; exact g0
  have o1 : OutI J1 D bo bp bm last F := o.keep (S := fun _ => False) y1.did fun _ _ hf => hf
  have r1 : OutR J1 R ro rp last F' (ids F') := r.keep (S := fun _ => False) y1.did fun _ _ hf => hf
  have ow1 : OwnC J1 11 w F'.length (fcells F') := ow0.keep y1.size fun b hb => y1.get b (ow0.sz hb).2
  simp (disch := first | assumption | simp) only [↓wbD, wbU, ↓aop, ↓reduceIte, Nat.reduceEqDiff, Nat.reduceLT, reduceCtorEq, goInt, pairs, f4', fa69_1, Nat.zero_add, ld_cell ty50 rfl g1, c1]
  refine (spec37 owA ow1 o1.mem r1.mem hF (by omega)).mono ?_
  rintro rb J2 ⟨rfl, y2⟩
  have o2 : OutI J2 D bo bp bm last F := o1.keep (S := fun _ => False) y2.did fun _ _ hf => hf
  have r2 : OutR J2 R ro rp last F' (ids F') := r1.keep (S := fun _ => False) y2.did fun _ _ hf => hf
  have g2 : J2.get ro = .cells [ptr rp, w] true 0 := by rw [y2.get _ (r1.lt _ r1.own.1)]; exact g1
  have ow2 : OwnC J2 11 w F'.length (fcells F') := ow1.keep y2.size fun b hb => y2.get b (ow1.sz hb).2
  have hlenw := ow2.slice.alen (E := E) (ts := []) ty50
  rw [hlF] at hlenw
  simp (disch := first | assumption | simp) only [↓wbD, wbU, ↓aop, ↓reduceIte, Nat.reduceEqDiff, Nat.reduceLT, reduceCtorEq, goInt, pairs, not_bool, Bool.not_true, f3']
  refine (spec39 o2).mono ?_
  rintro rc J2 ⟨rfl, rfl⟩
  simp (disch := first | assumption | simp) only [↓wbD, wbU, ↓aop, ↓reduceIte, Nat.reduceEqDiff, Nat.reduceLT, reduceCtorEq, goInt, pairs, f3', f4', fa69_1, Nat.zero_add, ld_cell ty50 rfl g2, c1, hlenw, decide_false, not_true_eq_false]
  refine (spec41 o2 (by omega)).mono ?_
  rintro rd J3 ⟨L1, y3, oL1, mL1, eL1⟩
  have r3 : OutR J3 R ro rp last F' (ids F') := r2.keep (S := fun _ => False) y3.did fun _ _ hf => hf
  simp (disch := first | assumption | simp) only [↓wbD, wbU, ↓aop, ↓reduceIte, Nat.reduceEqDiff, Nat.reduceLT, reduceCtorEq, goInt, pairs, f4']
  refine (spec42 r3 (by omega)).mono ?_
  rintro re J4 ⟨L2, y4, oL2, mL2, eL2⟩
  have oL1' : OwnC J4 26 rd L1.length (gcells L1) := oL1.keep y4.size fun b hb => y4.get b (oL1.sz hb).2
  have hL : L1.length ≤ 200 := by have := congrArg List.length eL1; simp at this; omega
  simp (disch := first | assumption | simp) only [↓wbD, wbU, ↓aop, ↓reduceIte, Nat.reduceEqDiff, Nat.reduceLT, reduceCtorEq, goInt, pairs]
  refine (spec40 oL1' oL2 (fun p hp => (mL1 p hp).keep (y4.did (D := D)).kept) mL2 (by rw [eL1, eL2, hF]) hL).mono ?_
  rintro rf J5 ⟨rfl, y5⟩
  simp (disch := first | assumption | simp) only [↓wbD, wbU, ↓aop, ↓reduceIte, Nat.reduceEqDiff, Nat.reduceLT, reduceCtorEq, goInt, pairs, not_bool, Bool.not_true]
  refine drawQ_of (fl := [(5, 1), (14, 10), (15, 10)]) (by kernel_rfl) ⟨?_, _, _, rfl, ?_⟩
  · simp only [List.all_cons, List.all_nil, floatOk, List.getElem?_cons_succ, List.getElem?_cons_zero, List.getElem?_toArray, Region.wanted, Bool.not_true, Bool.false_or, reads, looksWeak, aev_tmp, aev_const, upd_at, ↓reduceIte, Nat.reduceEqDiff, Nat.reduceLT, Nat.reduceAdd, ofL_zero, ofL_succ, blkOf, oeq_refl, oeq_of, Bool.and_true, Bool.and_self, Bool.false_eq_true, all_tt, f4', g0, g1, g2, Bool.or_true]
  have y05 : Ext J J5 := ((y1.trans (y2.trans y3)).trans y4).trans y5
  have T5 : Acted H e bo bp bm ro rp (i + 1) x P J5 := ⟨T.keep y05, by rw [y05.get _ hxl]; exact zx, Nat.lt_of_lt_of_le hxl y05.size⟩
  simp (disch := first | assumption | simp) only [↓wbD, wbU, ↓aop, ↓reduceIte, Nat.reduceEqDiff, Nat.reduceLT, reduceCtorEq, goInt, pairs]
  clear T zx hxl o r hF hD hR hgd hl hE hlF g0 ow0 dw hro owA y1 g1 o1 r1 ow1 y2 o2 r2 g2 ow2 hlenw y3 oL1 mL1 eL1 r3 y4 oL2 mL2 eL2 oL1' hL y5 y05
  refine W_loop (fun f J' => f 0 = v ∧ f 3 = ptr bo ∧ f 4 = ptr ro ∧ f 5 = .slice (some ⟨e + 1, 0, some 1⟩) 2 2 ∧ f 6 = .int .i64 i ∧ f 7 = ptr x ∧ Acted H e bo bp bm ro rp (i + 1) x P J' ∧ ∃ k : Nat, k ≤ 2 ∧ f 16 = .int .i64 k) (fun f _ => match f 16 with | .int _ i => 2 - i.toNat | _ => 0) ?_ ?_
  · refine ⟨?_, ?_, ?_, ?_, ?_, ?_, T5, 0, by omega, ?_⟩
    · simp (disch := first | assumption | simp) only [↓wbD, wbU, ↓aop, ↓reduceIte, Nat.reduceEqDiff, Nat.reduceLT, reduceCtorEq, goInt, pairs, f0']
    · simp (disch := first | assumption | simp) only [↓wbD, wbU, ↓aop, ↓reduceIte, Nat.reduceEqDiff, Nat.reduceLT, reduceCtorEq, goInt, pairs, f3']
    · simp (disch := first | assumption | simp) only [↓wbD, wbU, ↓aop, ↓reduceIte, Nat.reduceEqDiff, Nat.reduceLT, reduceCtorEq, goInt, pairs, f4']
    · simp (disch := first | assumption | simp) only [↓wbD, wbU, ↓aop, ↓reduceIte, Nat.reduceEqDiff, Nat.reduceLT, reduceCtorEq, goInt, pairs, f5']
    · simp (disch := first | assumption | simp) only [↓wbD, wbU, ↓aop, ↓reduceIte, Nat.reduceEqDiff, Nat.reduceLT, reduceCtorEq, goInt, pairs, f6']
    · simp (disch := first | assumption | simp) only [↓wbD, wbU, ↓aop, ↓reduceIte, Nat.reduceEqDiff, Nat.reduceLT, reduceCtorEq, goInt, pairs, f7']
    · simp (disch := first | assumption | simp) only [↓wbD, wbU, ↓aop, ↓reduceIte, Nat.reduceEqDiff, Nat.reduceLT, reduceCtorEq, goInt, pairs]
      rfl
  clear f0' f3' f4' f5' f6' f7' T5
  rintro f K ⟨f0, f3, f4, f5, f6, f7, T, k, hk, f16⟩
  have hlen3 : ∀ (K : AHeap) (ts : List Nat), abuiltin E K .len (53 :: ts) [.slice (some ⟨e + 1, 0, some 1⟩) 2 2] = some (goInt 2, K) := fun K ts => by simp [abuiltin, ty53]
  have hwk := wrap_nat (n := k) (by omega)
  by_cases hk2 : (k : Int) < 2
  rotate_left
  · simp (disch := first | assumption | simp) only [↓wbD, wbU, ↓aop, ↓reduceIte, Nat.reduceEqDiff, Nat.reduceLT, reduceCtorEq, goInt, pairs, f5, f6, f16, hlen3, hk2, decide_false, hw]
    refine ⟨_, rfl, ⟨?_, ?_, ?_, ?_, i + 1, by omega, ?_, T.play⟩, ?_⟩
    · simp (disch := first | assumption | simp) only [↓wbD, wbU, ↓aop, ↓reduceIte, Nat.reduceEqDiff, Nat.reduceLT, reduceCtorEq, goInt, pairs, f0]
    · simp (disch := first | assumption | simp) only [↓wbD, wbU, ↓aop, ↓reduceIte, Nat.reduceEqDiff, Nat.reduceLT, reduceCtorEq, goInt, pairs, f3]
    · simp (disch := first | assumption | simp) only [↓wbD, wbU, ↓aop, ↓reduceIte, Nat.reduceEqDiff, Nat.reduceLT, reduceCtorEq, goInt, pairs, f4]
    · simp (disch := first | assumption | simp) only [↓wbD, wbU, ↓aop, ↓reduceIte, Nat.reduceEqDiff, Nat.reduceLT, reduceCtorEq, goInt, pairs, f5]
    · simp (disch := first | assumption | simp) only [↓wbD, wbU, ↓aop, ↓reduceIte, Nat.reduceEqDiff, Nat.reduceLT, reduceCtorEq, goInt, pairs]
    · simp (disch := first | assumption | simp) only [↓wbD, wbU, ↓aop, ↓reduceIte, Nat.reduceEqDiff, Nat.reduceLT, reduceCtorEq, goInt, pairs, f6]
      simp; omega
  have hpk : ∃ pk, ([.pointer none, ptr e] : List Value)[k]? = some pk ∧ ∀ {K' : AHeap}, Ext K K' → Nob K' pk := by
    by_cases hk0 : k = 0
    · exact ⟨.pointer none, by rw [hk0]; rfl, fun _ => .inl rfl⟩
    · exact ⟨ptr e, by rw [show k = 1 by omega]; rfl, fun x => T.play.nob.ext x⟩
  obtain ⟨pk, hld, hnb⟩ := hpk
  have zK := T.box
  have lK := T.play.e1
  have ltK := T.play.lt
  have c10 : (acell P)[10]? = some (.int .i64 P.1.q) := rfl
  have hia := ia_slice (E := E) ty53 ty45 (B := e + 1) (o := 0) (c := 2) (n := 2) (ex := some 1) (k := .i64) (i := k) (by omega)
  simp (disch := first | assumption | simp) only [↓wbD, wbU, ↓aop, ↓reduceIte, Nat.reduceEqDiff, Nat.reduceLT, reduceCtorEq, goInt, pairs, f5, f7, f16, hlen3, hk2, decide_true, hia, Nat.zero_add, Nat.mul_one, ld_cell ty45 rfl lK, hld, fa55_1, fa55_2, ldact zK, ld_cell ty3 rfl zK, c10]
  refine (spec28x (hnb (Ext.refl _))).mono ?_
  rintro ra K1 ⟨rfl, x1⟩
  have z1 : K1.get x = .cells (acell P) true 0 := by rw [x1.get _ T.lt]; exact zK
  have l1 : K1.get (e + 1) = .cells [.pointer none, ptr e] true 1 := by rw [x1.get _ ltK]; exact lK
  simp (disch := first | assumption | simp) only [↓wbD, wbU, ↓aop, ↓reduceIte, Nat.reduceEqDiff, Nat.reduceLT, reduceCtorEq, goInt, pairs, tup0, tup1, f5, f7, f16, hia, Nat.zero_add, Nat.mul_one, ld_cell ty45 rfl l1, hld, ldact55 z1]
  refine (spec31 (a := P.1) (sl := P.2)).mono ?_
  rintro rb K2 ⟨rfl, x2⟩
  have l2 : K2.get (e + 1) = .cells [.pointer none, ptr e] true 1 := by rw [x2.get _ (by have := x1.size; omega)]; exact l1
  simp (disch := first | assumption | simp) only [↓wbD, wbU, ↓aop, ↓reduceIte, Nat.reduceEqDiff, Nat.reduceLT, reduceCtorEq, goInt, pairs]
  refine (spec30x (hnb (x1.trans x2))).mono ?_
  rintro rc K3 ⟨code, rfl, hc, x3⟩
  have hst4 := st31 (m := m0) (sl := .slice none 0 0) (AHeap.get_alloc_same K3 (.cells (m0.v (.slice none 0 0)) true 0)) rfl rfl
  obtain ⟨x4, _, _⟩ := new_set (H := K3) (o := .cells (m0.v (.slice none 0 0)) true 0) (o' := .cells (m0.v (.slice none 0 0)) true 0)
  have x04 : Ext K ((K3.alloc (.cells (m0.v (.slice none 0 0)) true 0)).set K3.size (.cells (m0.v (.slice none 0 0)) true 0)) := ((x1.trans x2).trans x3).trans x4
  simp (disch := first | assumption | simp) only [↓wbD, wbU, ↓aop, ↓reduceIte, Nat.reduceEqDiff, Nat.reduceLT, reduceCtorEq, goInt, pairs, tup0, tup1, zero31m, hst4]
  generalize (K3.alloc (.cells (m0.v (.slice none 0 0)) true 0)).set K3.size (.cells (m0.v (.slice none 0 0)) true 0) = K4 at x04 ⊢
  refine drawQ_of (fl := [(3, 5)]) (by kernel_rfl) ⟨?_, _, _, rfl, ?_⟩
  · simp only [List.all_cons, List.all_nil, floatOk, List.getElem?_cons_succ, List.getElem?_cons_zero, List.getElem?_toArray, Region.wanted, Bool.not_true, Bool.false_or, reads, looksWeak, aev_tmp, aev_const, upd_at, ↓reduceIte, Nat.reduceEqDiff, Nat.reduceLT, Nat.reduceAdd, ofL_zero, ofL_succ, blkOf, oeq_refl, oeq_of, Bool.and_true, Bool.and_self, Bool.false_eq_true, all_tt, f5, f16, l1, l2, Bool.or_true]
  have l4 : K4.get (e + 1) = .cells [.pointer none, ptr e] true 1 := by rw [x04.get _ ltK]; exact lK
  have T4 : Acted H e bo bp bm ro rp (i + 1) x P K4 := ⟨T.play.keep x04, by rw [x04.get _ T.lt]; exact zK, Nat.lt_of_lt_of_le T.lt x04.size⟩
  have nb := hnb x04
  have e50 : ¬ ((5 : Int) = 0) := by decide
  have w00 : IntKind.i64.wrap ((0 : Int) + 0) = 0 := rfl
  rcases hc with rfl | rfl
  · simp (disch := first | assumption | simp) only [↓wbD, wbU, ↓aop, ↓reduceIte, Nat.reduceEqDiff, Nat.reduceLT, reduceCtorEq, goInt, pairs, f5, f16, hia, Nat.zero_add, Nat.mul_one, ld_cell ty45 rfl l4, hld, decide_false, not_true_eq_false]
    refine (spec35x nb).mono ?_
    rintro rd K4 ⟨rfl, rfl⟩
    simp (disch := first | assumption | simp) only [↓wbD, wbU, ↓aop, ↓reduceIte, Nat.reduceEqDiff, Nat.reduceLT, reduceCtorEq, goInt, pairs, f5, f16, hia, Nat.zero_add, Nat.mul_one, ld_cell ty45 rfl l4, hld, len_nil ty63]
    refine (spec38x nb).mono ?_
    rintro rd K4 ⟨rfl, rfl⟩
    simp (disch := first | assumption | simp) only [↓wbD, wbU, ↓aop, ↓reduceIte, Nat.reduceEqDiff, Nat.reduceLT, reduceCtorEq, goInt, pairs, f5, f16, hia, Nat.zero_add, Nat.mul_one, ld_cell ty45 rfl l4, hld, len_nil ty50, w00]
    refine (spec41x nb).mono ?_
    rintro rd K4 ⟨rfl, rfl⟩
    simp (disch := first | assumption | simp) only [↓wbD, wbU, ↓aop, ↓reduceIte, Nat.reduceEqDiff, Nat.reduceLT, reduceCtorEq, goInt, pairs, f5, f16, hia, Nat.zero_add, Nat.mul_one, ld_cell ty45 rfl l4, hld, len_nil ty72, w00]
    refine (spec39x nb).mono ?_
    rintro rd K4 ⟨rfl, rfl⟩
    simp (disch := first | assumption | simp) only [↓wbD, wbU, ↓aop, ↓reduceIte, Nat.reduceEqDiff, Nat.reduceLT, reduceCtorEq, goInt, pairs, w00, decide_false, not_true_eq_false]
    refine drawQ_of (fl := [(15, 20), (15, 27), (15, 34), (19, 14), (21, 27), (21, 34), (26, 14), (26, 20), (28, 34), (33, 14), (33, 20), (33, 27)]) (by kernel_rfl) ⟨?_, _, _, rfl, ?_⟩
    · simp only [List.all_cons, List.all_nil, floatOk, List.getElem?_cons_succ, List.getElem?_cons_zero, List.getElem?_toArray, Region.wanted, Bool.not_true, Bool.false_or, reads, looksWeak, aev_tmp, aev_const, upd_at, ↓reduceIte, Nat.reduceEqDiff, Nat.reduceLT, Nat.reduceAdd, ofL_zero, ofL_succ, blkOf, oeq_refl, oeq_of, Bool.and_true, Bool.and_self, Bool.false_eq_true, all_tt, f5, f16, Bool.or_true]
    simp (disch := first | assumption | simp) only [↓wbD, wbU, ↓aop, ↓reduceIte, Nat.reduceEqDiff, Nat.reduceLT, reduceCtorEq, goInt, pairs, f16, hwk]
    refine ⟨_, rfl, ⟨?_, ?_, ?_, ?_, ?_, ?_, T4, k + 1, by omega, ?_⟩, ?_⟩
    · simp (disch := first | assumption | simp) only [↓wbD, wbU, ↓aop, ↓reduceIte, Nat.reduceEqDiff, Nat.reduceLT, reduceCtorEq, goInt, pairs, f0]
    · simp (disch := first | assumption | simp) only [↓wbD, wbU, ↓aop, ↓reduceIte, Nat.reduceEqDiff, Nat.reduceLT, reduceCtorEq, goInt, pairs, f3]
    · simp (disch := first | assumption | simp) only [↓wbD, wbU, ↓aop, ↓reduceIte, Nat.reduceEqDiff, Nat.reduceLT, reduceCtorEq, goInt, pairs, f4]
    · simp (disch := first | assumption | simp) only [↓wbD, wbU, ↓aop, ↓reduceIte, Nat.reduceEqDiff, Nat.reduceLT, reduceCtorEq, goInt, pairs, f5]
    · simp (disch := first | assumption | simp) only [↓wbD, wbU, ↓aop, ↓reduceIte, Nat.reduceEqDiff, Nat.reduceLT, reduceCtorEq, goInt, pairs, f6]
    · simp (disch := first | assumption | simp) only [↓wbD, wbU, ↓aop, ↓reduceIte, Nat.reduceEqDiff, Nat.reduceLT, reduceCtorEq, goInt, pairs, f7]
    · simp (disch := first | assumption | simp) only [↓wbD, wbU, ↓aop, ↓reduceIte, Nat.reduceEqDiff, Nat.reduceLT, reduceCtorEq, goInt, pairs]
    · simp (disch := first | assumption | simp) only [↓wbD, wbU, ↓aop, ↓reduceIte, Nat.reduceEqDiff, Nat.reduceLT, reduceCtorEq, goInt, pairs, f16]
      simp; omega
  · simp (disch := first | assumption | simp) only [↓wbD, wbU, ↓aop, ↓reduceIte, Nat.reduceEqDiff, Nat.reduceLT, reduceCtorEq, goInt, pairs, f5, f16, hia, Nat.zero_add, Nat.mul_one, ld_cell ty45 rfl l4, hld, e50, decide_true, decide_false, not_true_eq_false, not_false_eq_true]
    refine (spec35x nb).mono ?_
    rintro rd K4 ⟨rfl, rfl⟩
    simp (disch := first | assumption | simp) only [↓wbD, wbU, ↓aop, ↓reduceIte, Nat.reduceEqDiff, Nat.reduceLT, reduceCtorEq, goInt, pairs, f5, f16, hia, Nat.zero_add, Nat.mul_one, ld_cell ty45 rfl l4, hld, len_nil ty63]
    refine (spec38x nb).mono ?_
    rintro rd K4 ⟨rfl, rfl⟩
    simp (disch := first | assumption | simp) only [↓wbD, wbU, ↓aop, ↓reduceIte, Nat.reduceEqDiff, Nat.reduceLT, reduceCtorEq, goInt, pairs, f5, f16, hia, Nat.zero_add, Nat.mul_one, ld_cell ty45 rfl l4, hld, len_nil ty50, w00]
    refine (spec41x nb).mono ?_
    rintro rd K4 ⟨rfl, rfl⟩
    simp (disch := first | assumption | simp) only [↓wbD, wbU, ↓aop, ↓reduceIte, Nat.reduceEqDiff, Nat.reduceLT, reduceCtorEq, goInt, pairs, f5, f16, hia, Nat.zero_add, Nat.mul_one, ld_cell ty45 rfl l4, hld, len_nil ty72, w00]
    refine (spec39x nb).mono ?_
    rintro rd K4 ⟨rfl, rfl⟩
    simp (disch := first | assumption | simp) only [↓wbD, wbU, ↓aop, ↓reduceIte, Nat.reduceEqDiff, Nat.reduceLT, reduceCtorEq, goInt, pairs, w00, decide_false, not_true_eq_false]
    refine drawQ_of (fl := [(15, 20), (15, 27), (15, 34), (19, 14), (21, 27), (21, 34), (26, 14), (26, 20), (28, 34), (33, 14), (33, 20), (33, 27)]) (by kernel_rfl) ⟨?_, _, _, rfl, ?_⟩
    · simp only [List.all_cons, List.all_nil, floatOk, List.getElem?_cons_succ, List.getElem?_cons_zero, List.getElem?_toArray, Region.wanted, Bool.not_true, Bool.false_or, reads, looksWeak, aev_tmp, aev_const, upd_at, ↓reduceIte, Nat.reduceEqDiff, Nat.reduceLT, Nat.reduceAdd, ofL_zero, ofL_succ, blkOf, oeq_refl, oeq_of, Bool.and_true, Bool.and_self, Bool.false_eq_true, all_tt, f5, f16, Bool.or_true]
    simp (disch := first | assumption | simp) only [↓wbD, wbU, ↓aop, ↓reduceIte, Nat.reduceEqDiff, Nat.reduceLT, reduceCtorEq, goInt, pairs, f16, hwk]
    refine ⟨_, rfl, ⟨?_, ?_, ?_, ?_, ?_, ?_, T4, k + 1, by omega, ?_⟩, ?_⟩
    · simp (disch := first | assumption | simp) only [↓wbD, wbU, ↓aop, ↓reduceIte, Nat.reduceEqDiff, Nat.reduceLT, reduceCtorEq, goInt, pairs, f0]
    · simp (disch := first | assumption | simp) only [↓wbD, wbU, ↓aop, ↓reduceIte, Nat.reduceEqDiff, Nat.reduceLT, reduceCtorEq, goInt, pairs, f3]
    · simp (disch := first | assumption | simp) only [↓wbD, wbU, ↓aop, ↓reduceIte, Nat.reduceEqDiff, Nat.reduceLT, reduceCtorEq, goInt, pairs, f4]
    · simp (disch := first | assumption | simp) only [↓wbD, wbU, ↓aop, ↓reduceIte, Nat.reduceEqDiff, Nat.reduceLT, reduceCtorEq, goInt, pairs, f5]
    · simp (disch := first | assumption | simp) only [↓wbD, wbU, ↓aop, ↓reduceIte, Nat.reduceEqDiff, Nat.reduceLT, reduceCtorEq, goInt, pairs, f6]
    · simp (disch := first | assumption | simp) only [↓wbD, wbU, ↓aop, ↓reduceIte, Nat.reduceEqDiff, Nat.reduceLT, reduceCtorEq, goInt, pairs, f7]
    · simp (disch := first | assumption | simp) only [↓wbD, wbU, ↓aop, ↓reduceIte, Nat.reduceEqDiff, Nat.reduceLT, reduceCtorEq, goInt, pairs]
    · simp (disch := first | assumption | simp) only [↓wbD, wbU, ↓aop, ↓reduceIte, Nat.reduceEqDiff, Nat.reduceLT, reduceCtorEq, goInt, pairs, f16]
      simp; omega
end Go.Proofs.Ytlmcjfnignbdoaa.Abs
