/-
  A part of a law's proof.
-/
import Derived.Test.YtlmcjfnignbdoaaAOc
namespace Go.Proofs.Ytlmcjfnignbdoaa.Abs
open Go AbsYtlmcjfnignbdoaa
set_option maxRecDepth 100000
set_option maxHeartbeats 2000000
set_option linter.unusedSimpArgs false
set_option linter.unusedVariables false
def awaitsF (t : Int) : Int := if t = 4 then 1 else if t = 5 then 2 else if t = 7 then 3 else 0
theorem spec58 {H : AHeap} {t : Int} : CallW E 58 [.int .i64 t] H fun r H' => r = .int .i64 (awaitsF t) ∧ H' = H := by
  refine call58 (by simp) ?_
  simp only [strip, bodyOf, Try.f58, getD_body, keepN, bareOp_mk, lessOp_mk, lapp_cons, lapp_nil, List.map_cons, List.map_nil, array_toList, ↓reduceIte, Nat.reduceEqDiff, Bool.false_eq_true]
  have e1 : ¬ ((5 : Int) = 4) := by decide
  have e2 : ¬ ((7 : Int) = 4) := by decide
  have e3 : ¬ ((7 : Int) = 5) := by decide
  by_cases h4 : t = 4
  · subst h4
    simp (disch := first | assumption | simp) only [↓wbD, wbU, ↓aop, ↓reduceIte, Nat.reduceEqDiff, Nat.reduceLT, reduceCtorEq, goInt, pairs, decide_true]
    exact ⟨rfl, trivial⟩
  by_cases h5 : t = 5
  · subst h5
    simp (disch := first | assumption | simp) only [↓wbD, wbU, ↓aop, ↓reduceIte, Nat.reduceEqDiff, Nat.reduceLT, reduceCtorEq, goInt, pairs, decide_true, decide_false, e1]
    exact ⟨rfl, trivial⟩
  by_cases h7 : t = 7
  · subst h7
    simp (disch := first | assumption | simp) only [↓wbD, wbU, ↓aop, ↓reduceIte, Nat.reduceEqDiff, Nat.reduceLT, reduceCtorEq, goInt, pairs, decide_true, decide_false, e2, e3]
    exact ⟨rfl, trivial⟩
  simp (disch := first | assumption | simp) only [↓wbD, wbU, ↓aop, ↓reduceIte, Nat.reduceEqDiff, Nat.reduceLT, reduceCtorEq, goInt, pairs, decide_false, h4, h5, h7]
  simp [awaitsF, h4, h5, h7]
def badF (r : Int) : Bool := decide (128 ≤ r ∧ r ≤ 255)
theorem spec12 {H : AHeap} {a : Int} : CallW E 12 [.int .i64 a] H fun r H' => r = .bool (badF a) ∧ H' = H := by
  refine call12 (by simp) ?_
  simp only [strip, bodyOf, Try.f12, getD_body, keepN, bareOp_mk, lessOp_mk, lapp_cons, lapp_nil, List.map_cons, List.map_nil, array_toList, ↓reduceIte, Nat.reduceEqDiff, Bool.false_eq_true]
  by_cases h1 : 128 ≤ a
  · by_cases h2 : a ≤ 255
    · simp (disch := first | assumption | simp) only [↓wbD, wbU, ↓aop, ↓reduceIte, Nat.reduceEqDiff, Nat.reduceLT, reduceCtorEq, goInt, pairs, h1, h2, decide_true]
      simp [badF, h1, h2]
    · simp (disch := first | assumption | simp) only [↓wbD, wbU, ↓aop, ↓reduceIte, Nat.reduceEqDiff, Nat.reduceLT, reduceCtorEq, goInt, pairs, h1, h2, decide_true, decide_false]
      simp [badF, h1, h2]
  · simp (disch := first | assumption | simp) only [↓wbD, wbU, ↓aop, ↓reduceIte, Nat.reduceEqDiff, Nat.reduceLT, reduceCtorEq, goInt, pairs, h1, decide_false]
    simp [badF, h1]
theorem spec67 {H : AHeap} {p : Fl × Value} {x : Nat} {id : Int} (hx : H.get x = .cells [.int .i64 id] true 0) (hxs : x < H.size) : CallW E 67 [.agg (fcell p).toArray, ptr x] H fun r H' => r = .bool (decide (p.1.id = id)) ∧ Ext H H' := by
  refine call67 (by simp) ?_
  simp only [strip, bodyOf, Try.f67, getD_body, keepN, bareOp_mk, lessOp_mk, lapp_cons, lapp_nil, List.map_cons, List.map_nil, array_toList, ↓reduceIte, Nat.reduceEqDiff, Bool.false_eq_true]
  have hv : vcells (.agg (fcell p).toArray) = fcell p := rfl
  have x1 : Ext H (H.alloc (.cells (fcell p) true 0)) := Ext.alloc _ _
  have z1 : (H.alloc (.cells (fcell p) true 0)).get H.size = .cells (fcell p) true 0 := AHeap.get_alloc_same _ _
  have z2 : (H.alloc (.cells (fcell p) true 0)).get x = .cells [.int .i64 id] true 0 := by rw [x1.get _ hxs]; exact hx
  have c0 : (fcell p)[0]? = some (.int .i64 p.1.id) := rfl
  simp (disch := first | assumption | simp) only [↓wbD, wbU, ↓aop, ↓reduceIte, Nat.reduceEqDiff, Nat.reduceLT, reduceCtorEq, goInt, pairs, hv, fa75_0, Nat.add_zero, Nat.zero_add, ld_cell ty3 rfl z1, ld_cell ty3 rfl z2, c0, List.getElem?_cons_zero]
  exact x1
/-- where a number is -/
def fidx (A : List Fl) (id : Int) : Nat := A.findIdx fun f => decide (f.id = id)
theorem fidx_at {A : List Fl} {id : Int} {i : Nat} (h : i < A.length) (hi : (A[i]).id = id) (hb : ∀ j (hj : j < i), (A[j]'(by omega)).id ≠ id) : fidx A id = i := by
  unfold fidx
  rw [List.findIdx_eq h]
  exact ⟨by simp [hi], fun j hj => by simp [hb j hj]⟩
theorem fidx_none {A : List Fl} {id : Int} (h : ∀ j (hj : j < A.length), (A[j]).id ≠ id) : fidx A id = A.length := by
  unfold fidx
  rw [List.findIdx_eq_length]
  intro f hf
  obtain ⟨j, hj, rfl⟩ := List.getElem_of_mem hf
  simp [h j hj]
theorem fidx_le {A : List Fl} {id : Int} : fidx A id ≤ A.length := List.findIdx_le_length
theorem fidx_get {A : List Fl} {id : Int} (h : fidx A id < A.length) : (A[fidx A id]).id = id := by
  have := List.findIdx_getElem (p := fun f : Fl => decide (f.id = id)) (xs := A) (w := h)
  exact of_decide_eq_true this
def idxF (A : List Fl) (id : Int) : Int := if fidx A id < A.length then (fidx A id : Int) else -1
theorem own_at {H : AHeap} {v : Value} {F : FS} (h : OwnC H 11 v F.length (fcells F)) {i : Nat} (hi : i < F.length) : ∃ b c ex sp, v = .slice (some ⟨b, 0, ex⟩) F.length c ∧ H.get b = .cells (fcells F ++ sp) true 11 ∧ b < H.size := by
  rcases h with ⟨_, h0, _⟩ | ⟨b, c, ex, sp, rfl, h1, _, _, _, h5⟩
  · omega
  · exact ⟨b, c, ex, sp, rfl, h1, h5⟩
theorem spec66 {H : AHeap} {v : Value} {F : FS} {x : Nat} {id : Int} (h : OwnC H 11 v F.length (fcells F)) (hF : F.length ≤ 100) (hx : H.get x = .cells [.int .i64 id] true 0) (hxs : x < H.size) : CallW E 66 [v, .func (.func 67) #[] #[ptr x]] H fun r H' => r = .int .i64 (idxF (F.map (·.1)) id) ∧ Ext H H' := by
  refine call66 (by simp) ?_
  simp only [strip, bodyOf, Try.f66, getD_body, keepN, bareOp_mk, lessOp_mk, lapp_cons, lapp_nil, List.map_cons, List.map_nil, array_toList, ↓reduceIte, Nat.reduceEqDiff, Bool.false_eq_true]
  have hlen := h.slice.alen (E := E) (ts := []) ty50
  simp (disch := first | assumption | simp) only [↓wbD, wbU, ↓aop, ↓reduceIte, Nat.reduceEqDiff, Nat.reduceLT, reduceCtorEq, goInt, pairs, hlen]
  refine W_loop (fun f H' => f 0 = v ∧ f 1 = .func (.func 67) #[] #[ptr x] ∧ f 7 = .int .i64 F.length ∧ Ext H H' ∧ ∃ i : Nat, i ≤ F.length ∧ f 8 = .int .i64 i ∧ ∀ j (hj : j < F.length), j < i → (F[j]).1.id ≠ id) (fun f _ => match f 8 with | .int _ i => F.length - i.toNat | _ => 0) ?_ ?_
  · refine ⟨?_, ?_, ?_, Ext.refl _, 0, by omega, ?_, fun j hj hj0 => by omega⟩
    · simp (disch := first | assumption | simp) only [↓wbD, wbU, ↓aop, ↓reduceIte, Nat.reduceEqDiff, Nat.reduceLT, reduceCtorEq, goInt, pairs]
    · simp (disch := first | assumption | simp) only [↓wbD, wbU, ↓aop, ↓reduceIte, Nat.reduceEqDiff, Nat.reduceLT, reduceCtorEq, goInt, pairs]
    · simp (disch := first | assumption | simp) only [↓wbD, wbU, ↓aop, ↓reduceIte, Nat.reduceEqDiff, Nat.reduceLT, reduceCtorEq, goInt, pairs]
    · simp (disch := first | assumption | simp) only [↓wbD, wbU, ↓aop, ↓reduceIte, Nat.reduceEqDiff, Nat.reduceLT, reduceCtorEq, goInt, pairs]
      rfl
  rintro f H1 ⟨f0, f1, f7, x1, i, hi, f8, hb⟩
  by_cases hlt : (i : Int) < (F.length : Int)
  · have hiF : i < F.length := by omega
    have h1 : OwnC H1 11 v F.length (fcells F) := h.keep x1.size fun b hb => x1.get b (h.sz hb).2
    obtain ⟨b, c, ex, sp, rfl, hg, _⟩ := own_at h1 hiF
    have hw := wrap_nat (n := i) (by omega)
    simp (disch := first | assumption | simp) only [↓wbD, wbU, ↓aop, ↓reduceIte, Nat.reduceEqDiff, Nat.reduceLT, reduceCtorEq, goInt, pairs, f0, f1, f7, f8, hlt, decide_true, ia_slice ty50 ty75 hiF, Nat.zero_add, ld75 hg hiF, List.cons_append]
    refine (spec67 (by rw [x1.get _ hxs]; exact hx) (Nat.lt_of_lt_of_le hxs x1.size)).mono ?_
    rintro r H2 ⟨rfl, x2⟩
    by_cases he : (F[i]).1.id = id
    · simp (disch := first | assumption | simp) only [↓wbD, wbU, ↓aop, ↓reduceIte, Nat.reduceEqDiff, Nat.reduceLT, reduceCtorEq, goInt, pairs, he, decide_true, f8]
      refine ⟨?_, x1.trans x2⟩
      have : fidx (F.map (·.1)) id = i := fidx_at (by simpa using hiF) (by simpa using he) fun j hj => by simpa using hb j (by omega) hj
      simp [idxF, this, hiF]
    · simp (disch := first | assumption | simp) only [↓wbD, wbU, ↓aop, ↓reduceIte, Nat.reduceEqDiff, Nat.reduceLT, reduceCtorEq, goInt, pairs, he, decide_false, f8, hw]
      refine ⟨_, rfl, ⟨?_, ?_, ?_, x1.trans x2, i + 1, by omega, ?_, fun j hj hji => ?_⟩, ?_⟩
      · simp (disch := first | assumption | simp) only [↓wbD, wbU, ↓aop, ↓reduceIte, Nat.reduceEqDiff, Nat.reduceLT, reduceCtorEq, goInt, pairs, f0]
      · simp (disch := first | assumption | simp) only [↓wbD, wbU, ↓aop, ↓reduceIte, Nat.reduceEqDiff, Nat.reduceLT, reduceCtorEq, goInt, pairs, f1]
      · simp (disch := first | assumption | simp) only [↓wbD, wbU, ↓aop, ↓reduceIte, Nat.reduceEqDiff, Nat.reduceLT, reduceCtorEq, goInt, pairs, f7]
      · simp (disch := first | assumption | simp) only [↓wbD, wbU, ↓aop, ↓reduceIte, Nat.reduceEqDiff, Nat.reduceLT, reduceCtorEq, goInt, pairs]
      · by_cases hje : j = i
        · subst hje; exact he
        · exact hb j hj (by omega)
      · simp (disch := first | assumption | simp) only [↓wbD, wbU, ↓aop, ↓reduceIte, Nat.reduceEqDiff, Nat.reduceLT, reduceCtorEq, goInt, pairs, f8]
        simp; omega
  · simp (disch := first | assumption | simp) only [↓wbD, wbU, ↓aop, ↓reduceIte, Nat.reduceEqDiff, Nat.reduceLT, reduceCtorEq, goInt, pairs, f0, f1, f7, f8, hlt, decide_false]
    refine ⟨?_, x1⟩
    have : fidx (F.map (·.1)) id = (F.map (·.1)).length := fidx_none fun j hj => by simpa using hb j (by simpa using hj) (by simp at hj; omega)
    simp [idxF, this]
theorem spec57 {H : AHeap} {D : Nat → Prop} {bo bp bm : Nat} {last id : Int} {F : FS} (h : OutI H D bo bp bm last F) (hF : F.length ≤ 100) : CallW E 57 [ptr bo, .int .i64 id] H fun r H' => r = .int .i64 (idxF (F.map (·.1)) id) ∧ Ext H H' := by
  refine call57 (by simp) ?_
  simp only [strip, bodyOf, Try.f57, getD_body, keepN, bareOp_mk, lessOp_mk, lapp_cons, lapp_nil, List.map_cons, List.map_nil, array_toList, ↓reduceIte, Nat.reduceEqDiff, Bool.false_eq_true]
  have x1 : Ext H (H.alloc (.cells [.int .i64 id] true 0)) := Ext.alloc _ _
  have z1 : (H.alloc (.cells [.int .i64 id] true 0)).get H.size = .cells [.int .i64 id] true 0 := AHeap.get_alloc_same _ _
  have s1 : (H.alloc (.cells [.int .i64 id] true 0)).size = H.size + 1 := AHeap.size_alloc _ _
  have h1 := h.ext x1
  generalize hG_H1 : H.alloc (.cells [.int .i64 id] true 0) = H1 at *
  obtain ⟨v, g1, ow1, _⟩ := h1.go
  have c1 : ([ptr bp, v] : List Value)[1]? = some v := rfl
  simp (disch := first | assumption | simp) only [↓wbD, wbU, ↓aop, ↓reduceIte, Nat.reduceEqDiff, Nat.reduceLT, reduceCtorEq, goInt, pairs, hG_H1, vcells, s1, nil_ptr ty45 rfl, Option.isNone_some, fa52_1, Nat.zero_add, ld_cell ty50 rfl g1, c1, List.map_toArray]
  refine (spec66 ow1 hF z1 (by omega)).mono ?_
  rintro r H2 ⟨rfl, x2⟩
  simp (disch := first | assumption | simp) only [↓wbD, wbU, ↓aop, ↓reduceIte, Nat.reduceEqDiff, Nat.reduceLT, reduceCtorEq, goInt, pairs, hG_H1]
  exact x1.trans x2
/-- a copy of the flights -/
theorem spec62 {H : AHeap} {v : Value} {F : FS} (h : OwnC H 11 v F.length (fcells F)) (hm : Mems H F) (hF : F.length ≤ 100) : CallW E 62 [v] H fun r H' => OwnC H' 11 r F.length (fcells F) ∧ (0 < F.length → Own H' 11 r F.length (fcells F)) ∧ Ext H H' ∧ ∀ b ∈ blkOf r, H.size ≤ b := by
  refine call62 (by simp) ?_
  simp only [strip, bodyOf, Try.f62, getD_body, keepN, bareOp_mk, lessOp_mk, lapp_cons, lapp_nil, List.map_cons, List.map_nil, array_toList, ↓reduceIte, Nat.reduceEqDiff, Bool.false_eq_true]
  have hone : (fcells F).all oneCell = true := by
    rw [List.all_eq_true]
    intro x hx
    obtain ⟨p, hp, hx⟩ := List.mem_flatMap.1 hx
    exact List.all_eq_true.1 (Mem.onef (hm p hp)) x hx
  have hz := zero75
  rcases h with ⟨rfl, h0, hc⟩ | ⟨b, c, ex, sp, rfl, h1, h2, h3, h4, h5⟩
  · simp (disch := first | assumption | simp) only [↓wbD, wbU, ↓aop, ↓reduceIte, Nat.reduceEqDiff, Nat.reduceLT, reduceCtorEq, goInt, pairs, nil_slice ty50 rfl, Option.isNone_none]
    exact ⟨.inl ⟨rfl, h0, hc⟩, fun hp => by omega, Ext.refl _, by simp [blkOf]⟩
  · have hb : abuildSlice E H 50 0 [] = some (.slice (some ⟨H.size, 0, some 1⟩) 0 0, H.alloc (.cells [] true 11)) := by simp [abuildSlice, ty50, ty75, hz, lfill, reps]
    have x1 : Ext H (H.alloc (.cells [] true 11)) := Ext.alloc _ _
    have g1 : (H.alloc (.cells [] true 11)).get b = .cells (fcells F ++ sp) true 11 := by rw [x1.get _ h5]; exact h1
    have g0 : (H.alloc (.cells [] true 11)).get H.size = .cells [] true 11 := AHeap.get_alloc_same _ _
    have s1 : (H.alloc (.cells [] true 11)).size = H.size + 1 := AHeap.size_alloc _ _
    generalize hG_H1 : H.alloc (.cells [] true 11) = H1 at *
    have hsrc : srcCells H1 11 (.slice (some ⟨b, 0, ex⟩) F.length c) = some (F.length, fcells F) := by
      simp only [srcCells, takeCells, g1]
      rw [if_pos (by rw [List.length_append]; omega)]
      rw [List.drop_zero, ← h2, List.take_left]; rfl
    by_cases h0 : F.length = 0
    · have hF0 : F = [] := List.eq_nil_of_length_eq_zero h0
      subst hF0
      have ha : abuiltin E H1 .append [50, 50] [.slice (some ⟨H.size, 0, some 1⟩) 0 0, .slice (some ⟨b, 0, ex⟩) ([] : FS).length c] = some (.slice (some ⟨H.size, 0, some 1⟩) 0 0, H1) := by
        simp only [abuiltin, aappend, ty50, ty75, hz, hsrc]
        simp [g0, TK.isInt]
      simp (disch := first | assumption | simp) only [↓wbD, wbU, ↓aop, ↓reduceIte, Nat.reduceEqDiff, Nat.reduceLT, reduceCtorEq, goInt, pairs, hG_H1, nil_slice ty50 rfl, Option.isNone_some, pairs, hb, ha]
      exact ⟨.inr ⟨H.size, 0, some 1, [], rfl, by simpa using g0, rfl, rfl, .inr rfl, by omega⟩, fun hp => by simp at hp, x1, fun b hb => by simp [blkOf] at hb; omega⟩
    · have ha : abuiltin E H1 .append [50, 50] [.slice (some ⟨H.size, 0, some 1⟩) 0 0, .slice (some ⟨b, 0, ex⟩) F.length c] = some (.slice (some ⟨H1.size, 0, none⟩) F.length F.length, H1.alloc (.cells (fcells F) true 11)) := by
        have q1 : ¬ F.length ≤ 0 := by omega
        have q2 : F.length * 136 ≤ 140737488355328 := by omega
        simp only [abuiltin, aappend, ty50, ty75, hz, hsrc]
        simp [g0, TK.isInt, q1, q2, hone, takeCells]
      simp (disch := first | assumption | simp) only [↓wbD, wbU, ↓aop, ↓reduceIte, Nat.reduceEqDiff, Nat.reduceLT, reduceCtorEq, goInt, pairs, hG_H1, nil_slice ty50 rfl, Option.isNone_some, pairs, hb, ha]
      have ow : Own (H1.alloc (.cells (fcells F) true 11)) 11 (.slice (some ⟨H1.size, 0, none⟩) F.length F.length) F.length (fcells F) := .inr ⟨_, rfl, AHeap.get_alloc_same _ _, h2, by rw [AHeap.size_alloc]; omega⟩
      exact ⟨ow.c, fun _ => ow, x1.trans (Ext.alloc _ _), fun b hb => by simp [blkOf] at hb; omega⟩
end Go.Proofs.Ytlmcjfnignbdoaa.Abs
