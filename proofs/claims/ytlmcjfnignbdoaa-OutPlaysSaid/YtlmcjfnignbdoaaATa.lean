/-
  A part of a law's proof.
-/
import Derived.Test.YtlmcjfnignbdoaaAEnvB
namespace Go.Proofs.Ytlmcjfnignbdoaa.Abs
open Go AbsYtlmcjfnignbdoaa
set_option maxRecDepth 100000
set_option linter.unusedSimpArgs false
/-- properties in cells -/
def PropCells : List Value → Prop
  | [] => True
  | .int .i64 _ :: .int .i64 _ :: .string _ :: .string _ :: l => PropCells l
  | _ => False
theorem PropCells.at' : ∀ {cs : List Value} {n : Nat}, PropCells cs → cs.length = n * 4 → ∀ i, i < n → ∃ p q s u, cs[i * 4]? = some (.int .i64 p) ∧ cs[i * 4 + 1]? = some (.int .i64 q) ∧ cs[i * 4 + 2]? = some (.string s) ∧ cs[i * 4 + 3]? = some (.string u)
  | [], n, _, hl, i, hi => by simp at hl; omega
  | a :: b :: c :: d :: l, n, h, hl, i, hi => by
    unfold PropCells at h
    split at h
    · rename_i heq; simp at heq
    · rename_i p q s u l' heq
      simp only [List.cons.injEq] at heq
      obtain ⟨rfl, rfl, rfl, rfl, rfl⟩ := heq
      cases i with
      | zero => exact ⟨p, q, s, u, rfl, rfl, rfl, rfl⟩
      | succ i =>
        simp only [List.length_cons] at hl
        obtain ⟨n, rfl⟩ : ∃ m, n = m + 1 := ⟨n - 1, by omega⟩
        have := PropCells.at' (n := n) h (by omega) i (by omega)
        rw [show (i + 1) * 4 = i * 4 + 4 by omega]
        simpa using this
    · exact h.elim
  | [a], n, h, hl, i, hi => by simp at hl; omega
  | [a, b], n, h, hl, i, hi => by simp at hl; omega
  | [a, b, c], n, h, hl, i, hi => by simp at hl; omega
/-- a slice of properties -/
theorem prop_slice {H : AHeap} {v : Value} {n : Nat} {cs : List Value} (h : SliceAt H 4 v n cs) : (v = .slice none 0 0 ∧ n = 0) ∨ ∃ b o c ex all wr, v = .slice (some ⟨b, o, ex⟩) n c ∧ H.get b = .cells all wr 4 ∧
    ∀ i, i < n → all[o + i * 4]? = cs[i * 4]? ∧ all[o + i * 4 + 1]? = cs[i * 4 + 1]? ∧ all[o + i * 4 + 2]? = cs[i * 4 + 2]? ∧ all[o + i * 4 + 3]? = cs[i * 4 + 3]? := by
  rcases h.at' with ⟨h1, h2⟩ | ⟨b, o, c, ex, all, wr, h1, h2, h3, h4, _⟩
  · exact .inl ⟨h1, h2⟩
  · refine .inr ⟨b, o, c, ex, all, wr, h1, h2, fun i hi => ?_⟩
    have key : ∀ k, k < n * 4 → all[o + k]? = cs[k]? := fun k hk => by rw [h4, List.getElem?_take, if_pos hk, List.getElem?_drop]
    exact ⟨key _ (by omega), by rw [Nat.add_assoc]; exact key _ (by omega), by rw [Nat.add_assoc]; exact key _ (by omega), by rw [Nat.add_assoc]; exact key _ (by omega)⟩

theorem wrap_nat {n : Nat} (h : n < 2 ^ 62) : IntKind.i64.wrap ((n : Int) + 1) = ((n + 1 : Nat) : Int) := by
  rw [IntWalk.i64_in _ ⟨by omega, by omega⟩]; rfl

theorem spec47 {v : Value} {n : Nat} {cs : List Value} {H : AHeap} (h : SliceAt H 4 v n cs) (hp : PropCells cs) : CallW E 47 [v] H fun r H' => (∃ b, r = .bool b ∧ (b = true → n ≤ 70)) ∧ H' = H := by
  refine call47 (by simp) ?_
  simp only [strip, bodyOf, Try.f47, getD_body, keepN, bareOp_mk, lessOp_mk, lapp_cons, lapp_nil, List.map_cons, List.map_nil, array_toList, ↓reduceIte, Nat.reduceEqDiff, Bool.false_eq_true]
  simp (disch := first | assumption | simp) only [↓wbD, wbU, ↓aop, ↓reduceIte, Nat.reduceEqDiff, Nat.reduceLT, reduceCtorEq, goInt, pairs]
  refine W_loop (fun f H' => H' = H ∧ f 0 = v ∧ ∃ i : Nat, i ≤ n ∧ i ≤ 70 ∧ f 3 = .int .i64 i) (fun f _ => match f 3 with | .int _ i => 70 - i.toNat | _ => 0) ?_ ?_
  · simp (disch := first | assumption | simp) only [↓wbD, wbU, ↓aop, ↓reduceIte, Nat.reduceEqDiff, Nat.reduceLT, reduceCtorEq, goInt, pairs]
    exact ⟨0, Nat.zero_le _, by omega, rfl⟩
  · rintro f _ ⟨rfl, h0, i, hi, hi7, h3⟩
    have hlen := h.alen (ts := []) ty29
    by_cases hin : (i : Int) < (n : Int)
    · by_cases hi70 : (i : Int) < 70
      · rcases prop_slice h with ⟨_, rfl⟩ | ⟨b, o, c, ex, all, wr, rfl, hg, hat⟩
        · omega
        obtain ⟨p, q, s, u, k1, k2, k3, k4⟩ := hp.at' h.len i (by omega)
        obtain ⟨e1, e2, e3, e4⟩ := hat i (by omega)
        rw [← e3] at k3; rw [← e4] at k4
        have hw := wrap_nat (n := i) (by omega)
        have fin : ∃ j : Nat, j ≤ n ∧ j ≤ 70 ∧ (Value.int .i64 ((i + 1 : Nat) : Int)) = Value.int .i64 (j : Int) := ⟨i + 1, by omega, by omega, rfl⟩
        by_cases hs : (200 : Int) < s.size
        · simp (disch := first | assumption | simp) only [↓wbD, wbU, ↓aop, ↓reduceIte, Nat.reduceEqDiff, Nat.reduceLT, reduceCtorEq, goInt, pairs, h0, h3, hlen, hin, hi70, decide_true, ia_slice ty29 ty84 (show i < n by omega), fa84_2, fa84_3, ld_cell ty9 rfl hg, k3, k4, len_str ty9, hs, Bool.false_eq_true, false_implies]
          exact ⟨⟨false, rfl, by simp⟩, trivial⟩
        · by_cases hu : (200 : Int) < u.size
          · simp (disch := first | assumption | simp) only [↓wbD, wbU, ↓aop, ↓reduceIte, Nat.reduceEqDiff, Nat.reduceLT, reduceCtorEq, goInt, pairs, h0, h3, hlen, hin, hi70, decide_true, decide_false, ia_slice ty29 ty84 (show i < n by omega), fa84_2, fa84_3, ld_cell ty9 rfl hg, k3, k4, len_str ty9, hs, hu, Bool.false_eq_true, false_implies]
            exact ⟨⟨false, rfl, by simp⟩, trivial⟩
          · simp (disch := first | assumption | simp) only [↓wbD, wbU, ↓aop, ↓reduceIte, Nat.reduceEqDiff, Nat.reduceLT, reduceCtorEq, goInt, pairs, h0, h3, hlen, hin, hi70, decide_true, decide_false, ia_slice ty29 ty84 (show i < n by omega), fa84_2, fa84_3, ld_cell ty9 rfl hg, k3, k4, len_str ty9, hs, hu, Bool.false_eq_true, false_implies, hw]
            refine ⟨_, rfl, ⟨?_, ?_⟩, ?_⟩
            · simp (disch := first | assumption | simp) only [↓wbD, wbU, ↓aop, ↓reduceIte, Nat.reduceEqDiff, Nat.reduceLT, reduceCtorEq, goInt, pairs, h0]
            · simp (disch := first | assumption | simp) only [↓wbD, wbU, ↓aop, ↓reduceIte, Nat.reduceEqDiff, Nat.reduceLT, reduceCtorEq, goInt, pairs]
              exact fin
            · simp (disch := first | assumption | simp) only [↓wbD, wbU, ↓aop, ↓reduceIte, Nat.reduceEqDiff, Nat.reduceLT, reduceCtorEq, goInt, pairs]
              simp; omega
      · simp (disch := first | assumption | simp) only [↓wbD, wbU, ↓aop, ↓reduceIte, Nat.reduceEqDiff, Nat.reduceLT, reduceCtorEq, goInt, pairs, h0, h3, hlen, hin, hi70, decide_true, decide_false]
        exact ⟨⟨_, rfl, by simp; omega⟩, trivial⟩
    · simp (disch := first | assumption | simp) only [↓wbD, wbU, ↓aop, ↓reduceIte, Nat.reduceEqDiff, Nat.reduceLT, reduceCtorEq, goInt, pairs, h0, h3, hlen, hin, decide_false]
      exact ⟨⟨_, rfl, by simp; omega⟩, trivial⟩

/-- equal properties are equal -/
theorem prop_eq {H : AHeap} {p q : Int} {s u : ByteArray} {cs : Bool} : abin E H .neq 84 cs (.agg #[.int .i64 p, .int .i64 q, .string s, .string u]) (.agg #[.int .i64 p, .int .i64 q, .string s, .string u]) = some (.bool false) := by
  simp [abin, nonNum, eqAsk, ty84, ty3, ty9, aeq, aeqs, apart, TI.isAgg, bytes_dec]

theorem take4 {all : List Value} {o : Nat} {a b c d : Value} (h0 : all[o]? = some a) (h1 : all[o + 1]? = some b) (h2 : all[o + 2]? = some c) (h3 : all[o + 3]? = some d) : (all.drop o).take 4 = [a, b, c, d] ∧ o + 4 ≤ all.length := by
  refine ⟨?_, by have := (List.getElem?_eq_some_iff.1 h3).1; omega⟩
  apply List.ext_getElem?
  intro i
  rw [List.getElem?_take]
  split
  · rename_i hi
    rw [List.getElem?_drop]
    rcases (by omega : i = 0 ∨ i = 1 ∨ i = 2 ∨ i = 3) with rfl | rfl | rfl | rfl
    · simpa using h0
    · simpa using h1
    · simpa using h2
    · simpa using h3
  · rename_i hi
    exact (List.getElem?_eq_none (by simp; omega)).symm

theorem ld84 {H : AHeap} {b o : Nat} {all : List Value} {wr : Bool} {sz : Nat} {p q : Int} {s u : ByteArray} (hg : H.get b = .cells all wr sz) (h0 : all[o]? = some (.int .i64 p)) (h1 : all[o + 1]? = some (.int .i64 q)) (h2 : all[o + 2]? = some (.string s)) (h3 : all[o + 3]? = some (.string u)) :
    aload E H 84 (.pointer (some ⟨b, o, none⟩)) = some (.agg #[.int .i64 p, .int .i64 q, .string s, .string u]) := by
  obtain ⟨k1, k2⟩ := take4 h0 h1 h2 h3
  rw [ld_agg ty84 rfl hg (by simpa using k2)]
  simp [k1]

theorem spec48 {v w : Value} {n : Nat} {cs : List Value} {H : AHeap} (h : SliceAt H 4 v n cs) (h' : SliceAt H 4 w n cs) (hp : PropCells cs) (hn : n ≤ 70) : CallW E 48 [v, w] H fun r H' => r = .bool true ∧ H' = H := by
  refine call48 (by simp) ?_
  simp only [strip, bodyOf, Try.f48, getD_body, keepN, bareOp_mk, lessOp_mk, lapp_cons, lapp_nil, List.map_cons, List.map_nil, array_toList, ↓reduceIte, Nat.reduceEqDiff, Bool.false_eq_true]
  have hlen := h.alen (E := E) (ts := []) ty29
  have hlen' := h'.alen (E := E) (ts := []) ty29
  simp (disch := first | assumption | simp) only [↓wbD, wbU, ↓aop, ↓reduceIte, Nat.reduceEqDiff, Nat.reduceLT, reduceCtorEq, goInt, pairs, hlen, hlen', decide_false]
  refine W_loop (fun f H' => H' = H ∧ f 0 = v ∧ f 1 = w ∧ ∃ i : Nat, i ≤ n ∧ f 5 = .int .i64 i) (fun f _ => match f 5 with | .int _ i => n - i.toNat | _ => 0) ?_ ?_
  · simp (disch := first | assumption | simp) only [↓wbD, wbU, ↓aop, ↓reduceIte, Nat.reduceEqDiff, Nat.reduceLT, reduceCtorEq, goInt, pairs]
    exact ⟨0, Nat.zero_le _, rfl⟩
  · rintro f _ ⟨rfl, h0, h1, i, hi, h5⟩
    by_cases hin : (i : Int) < (n : Int)
    · have hw := wrap_nat (n := i) (by omega)
      have fin : ∃ j : Nat, j ≤ n ∧ (Value.int .i64 ((i + 1 : Nat) : Int)) = Value.int .i64 (j : Int) := ⟨i + 1, by omega, rfl⟩
      rcases prop_slice h with ⟨_, rfl⟩ | ⟨b, o, c, ex, all, wr, rfl, hg, hat⟩
      · omega
      rcases prop_slice h' with ⟨_, rfl⟩ | ⟨b', o', c', ex', all', wr', rfl, hg', hat'⟩
      · omega
      obtain ⟨p, q, s, u, k1, k2, k3, k4⟩ := hp.at' h.len i (by omega)
      obtain ⟨e1, e2, e3, e4⟩ := hat i (by omega)
      obtain ⟨g1, g2, g3, g4⟩ := hat' i (by omega)
      simp (disch := first | assumption | simp) only [↓wbD, wbU, ↓aop, ↓reduceIte, Nat.reduceEqDiff, Nat.reduceLT, reduceCtorEq, goInt, pairs, h0, h1, h5, hlen, hlen', hin, decide_true, ia_slice ty29 ty84 (show i < n by omega), ld84 hg (e1.trans k1) (e2.trans k2) (e3.trans k3) (e4.trans k4), ld84 hg' (g1.trans k1) (g2.trans k2) (g3.trans k3) (g4.trans k4), prop_eq, hw]
      refine ⟨_, rfl, ⟨?_, ?_, ?_⟩, ?_⟩
      · simp (disch := first | assumption | simp) only [↓wbD, wbU, ↓aop, ↓reduceIte, Nat.reduceEqDiff, Nat.reduceLT, reduceCtorEq, goInt, pairs, h0]
      · simp (disch := first | assumption | simp) only [↓wbD, wbU, ↓aop, ↓reduceIte, Nat.reduceEqDiff, Nat.reduceLT, reduceCtorEq, goInt, pairs, h1]
      · simp (disch := first | assumption | simp) only [↓wbD, wbU, ↓aop, ↓reduceIte, Nat.reduceEqDiff, Nat.reduceLT, reduceCtorEq, goInt, pairs]
        exact fin
      · simp (disch := first | assumption | simp) only [↓wbD, wbU, ↓aop, ↓reduceIte, Nat.reduceEqDiff, Nat.reduceLT, reduceCtorEq, goInt, pairs]
        simp; omega
    · simp (disch := first | assumption | simp) only [↓wbD, wbU, ↓aop, ↓reduceIte, Nat.reduceEqDiff, Nat.reduceLT, reduceCtorEq, goInt, pairs, h0, h1, h5, hlen, hlen', hin, decide_false]

theorem PropCells.one : ∀ {cs : List Value}, PropCells cs → cs.all oneCell = true
  | [], _ => rfl
  | [a], h => by simp [PropCells] at h
  | [a, b], h => by simp [PropCells] at h
  | [a, b, c], h => by simp [PropCells] at h
  | a :: b :: c :: d :: l, h => by
    unfold PropCells at h
    split at h
    · rename_i heq; simp at heq
    · rename_i p q s u l' heq
      simp only [List.cons.injEq] at heq
      obtain ⟨rfl, rfl, rfl, rfl, rfl⟩ := heq
      simp only [List.all_cons, oneCell, Bool.true_and]
      exact PropCells.one h
    · exact h.elim

theorem append_new {H : AHeap} {v : Value} {n : Nat} {cs : List Value} {b : Nat} (h : SliceAt H 4 v n cs) (hp : PropCells cs) (hn : n ≤ 70) (hb : H.get b = .cells [] true 4) (hbs : b < H.size) :
    ∃ r H', abuiltin E H .append [29, 29] [.slice (some ⟨b, 0, some 1⟩) 0 0, v] = some (r, H') ∧ SliceAt H' 4 r n cs ∧ Ext H H' := by
  have hlen := h.len
  have hsrc : srcCells H 4 v = some (n, cs) := by
    rcases h.at' with ⟨rfl, rfl⟩ | ⟨b, o, c, ex, all, wr, rfl, h2, h3, h4, h5⟩
    · have : cs = [] := List.eq_nil_of_length_eq_zero (by omega)
      simp [srcCells, this]
    · simp [srcCells, takeCells, h2, h3, h4]
  have hz : azero E 84 = some [.int .i64 0, .int .i64 0, .string ⟨#[]⟩, .string ⟨#[]⟩] := rfl
  by_cases h0 : n = 0
  · subst h0
    have : cs = [] := List.eq_nil_of_length_eq_zero (by omega)
    subst this
    refine ⟨.slice (some ⟨b, 0, some 1⟩) 0 0, H, ?_, ⟨rfl, .inr ⟨b, 0, 0, some 1, [], true, rfl, hb, by simp, by simp, hbs⟩⟩, Ext.refl _⟩
    simp [abuiltin, aappend, ty29, ty84, hz, hsrc, hb, TK.isInt]
  · refine ⟨.slice (some ⟨H.size, 0, none⟩) n n, H.alloc (.cells cs true 4), ?_, ⟨hlen, .inr ⟨H.size, 0, n, none, cs, true, rfl, AHeap.get_alloc_same _ _, by omega, by simp [← hlen], by simp [AHeap.size_alloc]⟩⟩, Ext.alloc _ _⟩
    have hc : ¬ n ≤ 0 := by omega
    have hby : n * 48 ≤ 140737488355328 := by omega
    simp [abuiltin, aappend, ty29, ty84, hz, hsrc, hb, TK.isInt, hc, hby, hp.one, takeCells, h0]

theorem spec52 {v : Value} {n : Nat} {cs : List Value} {H : AHeap} (h : SliceAt H 4 v n cs) (hp : PropCells cs) (hn : n ≤ 70) : CallW E 52 [v] H fun r H' => SliceAt H' 4 r n cs ∧ Ext H H' := by
  refine call52 (by simp) ?_
  simp only [strip, bodyOf, Try.f52, getD_body, keepN, bareOp_mk, lessOp_mk, lapp_cons, lapp_nil, List.map_cons, List.map_nil, array_toList, ↓reduceIte, Nat.reduceEqDiff, Bool.false_eq_true]
  have hz : azero E 84 = some [.int .i64 0, .int .i64 0, .string ⟨#[]⟩, .string ⟨#[]⟩] := rfl
  rcases h.at' with ⟨rfl, rfl⟩ | ⟨b, o, c, ex, all, wr, rfl, h2, h3, h4, h5⟩
  · simp (disch := first | assumption | simp) only [↓wbD, wbU, ↓aop, ↓reduceIte, Nat.reduceEqDiff, Nat.reduceLT, reduceCtorEq, goInt, pairs, nil_slice ty29 rfl, Option.isNone_none]
    exact ⟨h, Ext.refl _⟩
  · have hb : abuildSlice E H 29 0 [] = some (.slice (some ⟨H.size, 0, some 1⟩) 0 0, H.alloc (.cells [] true 4)) := by simp [abuildSlice, ty29, ty84, hz, lfill, reps]
    obtain ⟨r, H', ha, hs, he⟩ := append_new (h.ext (Ext.alloc H (.cells [] true 4))) hp hn (AHeap.get_alloc_same _ _) (by simp [AHeap.size_alloc])
    simp (disch := first | assumption | simp) only [↓wbD, wbU, ↓aop, ↓reduceIte, Nat.reduceEqDiff, Nat.reduceLT, reduceCtorEq, goInt, pairs, nil_slice ty29 rfl, Option.isNone_some, pairs, hb, ha]
    exact ⟨hs, (Ext.alloc _ _).trans he⟩
end Go.Proofs.Ytlmcjfnignbdoaa.Abs
