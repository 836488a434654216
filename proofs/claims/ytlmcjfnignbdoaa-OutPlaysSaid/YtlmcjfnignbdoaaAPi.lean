/-
  A part of a law's proof.
-/
import Derived.Test.YtlmcjfnignbdoaaAPh
namespace Go.Proofs.Ytlmcjfnignbdoaa.Abs
open Go AbsYtlmcjfnignbdoaa
set_option maxRecDepth 100000
set_option maxHeartbeats 4000000
set_option linter.unusedSimpArgs false
set_option linter.unusedVariables false
theorem same_at {α β : Type} {L1 L2 : List (α × β)} (he : L1.map (·.1) = L2.map (·.1)) {i : Nat} (h1 : i < L1.length) (h2 : i < L2.length) : (L2[i]).1 = (L1[i]).1 := by
  have a1 : (L1.map (·.1))[i]? = some (L1[i]).1 := by rw [List.getElem?_map, List.getElem?_eq_getElem h1]; rfl
  have a2 : (L2.map (·.1))[i]? = some (L2[i]).1 := by rw [List.getElem?_map, List.getElem?_eq_getElem h2]; rfl
  rw [he] at a1
  rw [a2] at a1
  exact Option.some.inj a1
theorem spec37 {H : AHeap} {v w : Value} {F1 F2 : FS} (h1 : OwnC H 11 v F1.length (fcells F1)) (h2 : OwnC H 11 w F2.length (fcells F2)) (m1 : Mems H F1) (m2 : Mems H F2) (he : F1.map (·.1) = F2.map (·.1)) (hl : F1.length ≤ 200) :
    CallW E 37 [v, w] H fun r H' => r = .bool true ∧ Ext H H' := by
  refine call37 (by simp) ?_
  simp only [strip, bodyOf, Try.f37, getD_body, keepN, bareOp_mk, lessOp_mk, lapp_cons, lapp_nil, List.map_cons, List.map_nil, array_toList, ↓reduceIte, Nat.reduceEqDiff, Bool.false_eq_true]
  have hlen1 := h1.slice.alen (E := E) (ts := []) ty50
  have hlen2 := h2.slice.alen (E := E) (ts := []) ty50
  have hl2 : F2.length = F1.length := by have := congrArg List.length he; simpa using this.symm
  simp (disch := first | assumption | simp) only [↓wbD, wbU, ↓aop, ↓reduceIte, Nat.reduceEqDiff, Nat.reduceLT, reduceCtorEq, goInt, pairs, hlen1, hlen2, hl2, decide_false, not_true_eq_false]
  refine W_loop (fun f H' => Ext H H' ∧ f 0 = v ∧ f 1 = w ∧ ∃ i : Nat, i ≤ F1.length ∧ f 5 = .int .i64 i) (fun f _ => match f 5 with | .int _ i => F1.length - i.toNat | _ => 0) ?_ ?_
  · refine ⟨Ext.refl _, ?_, ?_, 0, by omega, ?_⟩
    · simp (disch := first | assumption | simp) only [↓wbD, wbU, ↓aop, ↓reduceIte, Nat.reduceEqDiff, Nat.reduceLT, reduceCtorEq, goInt, pairs]
    · simp (disch := first | assumption | simp) only [↓wbD, wbU, ↓aop, ↓reduceIte, Nat.reduceEqDiff, Nat.reduceLT, reduceCtorEq, goInt, pairs]
    · simp (disch := first | assumption | simp) only [↓wbD, wbU, ↓aop, ↓reduceIte, Nat.reduceEqDiff, Nat.reduceLT, reduceCtorEq, goInt, pairs]
      rfl
  rintro f H1 ⟨x1, f0, f1, i, hi, f5⟩
  have k1 := h1.keep x1.size fun b hb => x1.get b (h1.sz hb).2
  have k2 := h2.keep x1.size fun b hb => x1.get b (h2.sz hb).2
  have hlen1 := k1.slice.alen (E := E) (ts := []) ty50
  have hlen2 := k2.slice.alen (E := E) (ts := []) ty50
  by_cases hin : (i : Int) < (F1.length : Int)
  · have hi1 : i < F1.length := by omega
    have hi2 : i < F2.length := by omega
    obtain ⟨b, c, ex, sp, rfl, hg, _⟩ := own_at k1 hi1
    obtain ⟨b', c', ex', sp', rfl, hg', _⟩ := own_at k2 hi2
    have hw := wrap_nat (n := i) (by omega)
    have hm := same_at he hi1 hi2
    have l2 := ld75m hg' hi2
    rw [hm] at l2
    have mm1 := (m1 _ (List.getElem_mem hi1)).keep (x1.did (D := fun _ => False)).kept
    have mm2 := (m2 _ (List.getElem_mem hi2)).keep (x1.did (D := fun _ => False)).kept
    rw [hm] at mm2
    have a0 : (fcells F1 ++ sp)[i * 11]? = some (.int .i64 (F1[i]).1.id) := by
      have := fcells_get (sp := sp) hi1 (show 0 < 11 by omega)
      simpa [fcell] using this
    have a1 : (fcells F1 ++ sp)[i * 11 + 1]? = some (.int .i64 (F1[i]).1.st) := by
      have := fcells_get (sp := sp) hi1 (show 1 < 11 by omega)
      simpa [fcell] using this
    have b0 : (fcells F2 ++ sp')[i * 11]? = some (.int .i64 (F1[i]).1.id) := by
      have := fcells_get (sp := sp') hi2 (show 0 < 11 by omega)
      rw [← hm]; simpa [fcell] using this
    have b1 : (fcells F2 ++ sp')[i * 11 + 1]? = some (.int .i64 (F1[i]).1.st) := by
      have := fcells_get (sp := sp') hi2 (show 1 < 11 by omega)
      rw [← hm]; simpa [fcell] using this
    have ia1 := ia_slice (E := E) ty50 ty75 (B := b) (o := 0) (c := c) (ex := ex) (k := .i64) hi1
    have ia2 := ia_slice (E := E) ty50 ty75 (B := b') (o := 0) (c := c') (ex := ex') (k := .i64) hi2
    rw [hl2] at hlen2 ia2
    simp (disch := first | assumption | simp) only [↓wbD, wbU, ↓aop, ↓reduceIte, Nat.reduceEqDiff, Nat.reduceLT, reduceCtorEq, goInt, pairs, f0, f1, f5, hlen1, hlen2, hl2, hin, decide_true, decide_false, not_true_eq_false, ia1, ia2, Nat.zero_add, fa75_0, fa75_1, fa75_2, Nat.add_zero, ld_cell ty3 rfl hg, ld_cell ty3 rfl hg', a0, a1, b0, b1, ld75m hg hi1, l2]
    refine (spec33 mm1 mm2).mono ?_
    rintro r H2 ⟨rfl, x2⟩
    simp (disch := first | assumption | simp) only [↓wbD, wbU, ↓aop, ↓reduceIte, Nat.reduceEqDiff, Nat.reduceLT, reduceCtorEq, goInt, pairs, not_bool, Bool.not_true, f5, hw]
    refine ⟨_, rfl, ⟨x1.trans x2, ?_, ?_, i + 1, by omega, ?_⟩, ?_⟩
    · simp (disch := first | assumption | simp) only [↓wbD, wbU, ↓aop, ↓reduceIte, Nat.reduceEqDiff, Nat.reduceLT, reduceCtorEq, goInt, pairs, f0]
    · simp (disch := first | assumption | simp) only [↓wbD, wbU, ↓aop, ↓reduceIte, Nat.reduceEqDiff, Nat.reduceLT, reduceCtorEq, goInt, pairs, f1, hl2]
    · simp (disch := first | assumption | simp) only [↓wbD, wbU, ↓aop, ↓reduceIte, Nat.reduceEqDiff, Nat.reduceLT, reduceCtorEq, goInt, pairs]
    · simp (disch := first | assumption | simp) only [↓wbD, wbU, ↓aop, ↓reduceIte, Nat.reduceEqDiff, Nat.reduceLT, reduceCtorEq, goInt, pairs, f5]
      simp; omega
  · simp (disch := first | assumption | simp) only [↓wbD, wbU, ↓aop, ↓reduceIte, Nat.reduceEqDiff, Nat.reduceLT, reduceCtorEq, goInt, pairs, f0, f1, f5, hlen1, hlen2, hl2, hin, decide_false]
    exact x1
/-! ### packets -/
structure Pk where
  kd : Int
  id : Int
  qos : Int
  dup : Bool
  rt : Bool
  t : ByteArray
  p : ByteArray
  n : Nat
  cs : List Value
def gcell (x : Pk × Value) : List Value := gpV x.1.kd x.1.id x.1.qos x.1.dup x.1.rt x.1.t x.1.p x.2
theorem gcell_len (x : Pk × Value) : (gcell x).length = 26 := rfl
abbrev gcells (L : List (Pk × Value)) : List Value := L.flatMap gcell
def PMem (H : AHeap) (k : Pk) (sl : Value) : Prop := SliceAt H 4 sl k.n k.cs ∧ PropCells k.cs ∧ k.n ≤ 70
theorem PMem.keep {H H' : AHeap} {k : Pk} {sl : Value} (h : PMem H k sl) (q : Kept H H') : PMem H' k sl := by
  have : Mem H ⟨⟨#[]⟩, ⟨#[]⟩, 0, false, k.n, k.cs, ⟨#[]⟩, 0, 0, ⟨#[]⟩⟩ sl := h
  exact this.keep q
theorem PMem.one {H : AHeap} {x : Pk × Value} (h : PMem H x.1 x.2) : (gcell x).all oneCell = true := by
  obtain ⟨a, n, c, hs⟩ := slice_shape h.1
  obtain ⟨k, sl⟩ := x
  simp only at hs
  subst hs; rfl
def againF (f : Fl) : Pk := if f.st = 3 then ⟨6, f.id, 0, false, false, ⟨#[]⟩, ⟨#[]⟩, 0, []⟩ else ⟨3, f.id, f.st, true, f.m.rt, f.m.t, f.m.p, f.m.n, f.m.cs⟩
theorem own_pks {H : AHeap} {v : Value} {G : List (Pk × Value)} (h : OwnC H 26 v G.length (gcells G)) {i : Nat} (hi : i < G.length) : ∃ b c ex sp, v = .slice (some ⟨b, 0, ex⟩) G.length c ∧ H.get b = .cells (gcells G ++ sp) true 26 := by
  rcases h with ⟨_, h0, _⟩ | ⟨b, c, ex, sp, rfl, h1, _, _, _, h5⟩
  · omega
  · exact ⟨b, c, ex, sp, rfl, h1⟩
theorem ld40at {H : AHeap} {b i : Nat} {G : List (Pk × Value)} {sp : List Value} {wr : Bool} {sz : Nat} (hg : H.get b = .cells (gcells G ++ sp) wr sz) (hi : i < G.length) : aload E H 40 (.pointer (some ⟨b, i * 26, none⟩)) = some (.agg (gcell G[i]).toArray) := by
  have hf : i * 26 + 26 ≤ (gcells G).length := chunk_fit gcell_len hi (Nat.le_refl 26)
  rw [ld_agg ty40 rfl hg (show i * 26 + 26 ≤ _ by rw [List.length_append]; omega)]
  show some (Value.agg (((gcells G ++ sp).drop (i * 26)).take 26).toArray) = _
  rw [List.drop_append_of_le_length (by omega), List.take_append_of_le_length (by rw [List.length_drop]; omega)]
  rw [chunk_at gcell_len G i hi]
theorem spec40 {H : AHeap} {v w : Value} {G1 G2 : List (Pk × Value)} (h1 : OwnC H 26 v G1.length (gcells G1)) (h2 : OwnC H 26 w G2.length (gcells G2)) (m1 : ∀ p ∈ G1, PMem H p.1 p.2) (m2 : ∀ p ∈ G2, PMem H p.1 p.2) (he : G1.map (·.1) = G2.map (·.1)) (hl : G1.length ≤ 200) :
    CallW E 40 [v, w] H fun r H' => r = .bool true ∧ Ext H H' := by
  refine call40 (by simp) ?_
  simp only [strip, bodyOf, Try.f40, getD_body, keepN, bareOp_mk, lessOp_mk, lapp_cons, lapp_nil, List.map_cons, List.map_nil, array_toList, ↓reduceIte, Nat.reduceEqDiff, Bool.false_eq_true]
  have hlen1 := h1.slice.alen (E := E) (ts := []) ty72
  have hlen2 := h2.slice.alen (E := E) (ts := []) ty72
  have hl2 : G2.length = G1.length := by have := congrArg List.length he; simpa using this.symm
  simp (disch := first | assumption | simp) only [↓wbD, wbU, ↓aop, ↓reduceIte, Nat.reduceEqDiff, Nat.reduceLT, reduceCtorEq, goInt, pairs, hlen1, hlen2, hl2, decide_false, not_true_eq_false]
  refine W_loop (fun f H' => Ext H H' ∧ f 0 = v ∧ f 1 = w ∧ ∃ i : Nat, i ≤ G1.length ∧ f 5 = .int .i64 i) (fun f _ => match f 5 with | .int _ i => G1.length - i.toNat | _ => 0) ?_ ?_
  · refine ⟨Ext.refl _, ?_, ?_, 0, by omega, ?_⟩
    · simp (disch := first | assumption | simp) only [↓wbD, wbU, ↓aop, ↓reduceIte, Nat.reduceEqDiff, Nat.reduceLT, reduceCtorEq, goInt, pairs]
    · simp (disch := first | assumption | simp) only [↓wbD, wbU, ↓aop, ↓reduceIte, Nat.reduceEqDiff, Nat.reduceLT, reduceCtorEq, goInt, pairs]
    · simp (disch := first | assumption | simp) only [↓wbD, wbU, ↓aop, ↓reduceIte, Nat.reduceEqDiff, Nat.reduceLT, reduceCtorEq, goInt, pairs]
      rfl
  rintro f H1 ⟨x1, f0, f1, i, hi, f5⟩
  have k1 := h1.keep x1.size fun b hb => x1.get b (h1.sz hb).2
  have k2 := h2.keep x1.size fun b hb => x1.get b (h2.sz hb).2
  have hlen1 := k1.slice.alen (E := E) (ts := []) ty72
  have hlen2 := k2.slice.alen (E := E) (ts := []) ty72
  by_cases hin : (i : Int) < (G1.length : Int)
  · have hi1 : i < G1.length := by omega
    have hi2 : i < G2.length := by omega
    obtain ⟨b, c, ex, sp, rfl, hg⟩ := own_pks k1 hi1
    obtain ⟨b', c', ex', sp', rfl, hg'⟩ := own_pks k2 hi2
    have hw := wrap_nat (n := i) (by omega)
    have hm := same_at he hi1 hi2
    have mm1 := (m1 _ (List.getElem_mem hi1)).keep (x1.did (D := fun _ => False)).kept
    have mm2 := (m2 _ (List.getElem_mem hi2)).keep (x1.did (D := fun _ => False)).kept
    rw [hm] at mm2
    have l2 := ld40at hg' hi2
    unfold gcell at l2
    rw [hm] at l2
    have ia1 := ia_slice (E := E) ty72 ty40 (B := b) (o := 0) (c := c) (ex := ex) (k := .i64) hi1
    have ia2 := ia_slice (E := E) ty72 ty40 (B := b') (o := 0) (c := c') (ex := ex') (k := .i64) hi2
    rw [hl2] at hlen2 ia2
    simp (disch := first | assumption | simp) only [↓wbD, wbU, ↓aop, ↓reduceIte, Nat.reduceEqDiff, Nat.reduceLT, reduceCtorEq, goInt, pairs, f0, f1, f5, hlen1, hlen2, hl2, hin, decide_true, ia1, ia2, Nat.zero_add, ld40at hg hi1, l2]
    refine (spec22g mm1.1 mm2.1 mm1.2.1 mm1.2.2).mono ?_
    rintro r H2 ⟨rfl, x2⟩
    simp (disch := first | assumption | simp) only [↓wbD, wbU, ↓aop, ↓reduceIte, Nat.reduceEqDiff, Nat.reduceLT, reduceCtorEq, goInt, pairs, not_bool, Bool.not_true, f5, hw]
    refine ⟨_, rfl, ⟨x1.trans x2, ?_, ?_, i + 1, by omega, ?_⟩, ?_⟩
    · simp (disch := first | assumption | simp) only [↓wbD, wbU, ↓aop, ↓reduceIte, Nat.reduceEqDiff, Nat.reduceLT, reduceCtorEq, goInt, pairs, f0]
    · simp (disch := first | assumption | simp) only [↓wbD, wbU, ↓aop, ↓reduceIte, Nat.reduceEqDiff, Nat.reduceLT, reduceCtorEq, goInt, pairs, f1, hl2]
    · simp (disch := first | assumption | simp) only [↓wbD, wbU, ↓aop, ↓reduceIte, Nat.reduceEqDiff, Nat.reduceLT, reduceCtorEq, goInt, pairs]
    · simp (disch := first | assumption | simp) only [↓wbD, wbU, ↓aop, ↓reduceIte, Nat.reduceEqDiff, Nat.reduceLT, reduceCtorEq, goInt, pairs, f5]
      simp; omega
  · simp (disch := first | assumption | simp) only [↓wbD, wbU, ↓aop, ↓reduceIte, Nat.reduceEqDiff, Nat.reduceLT, reduceCtorEq, goInt, pairs, f0, f1, f5, hlen1, hlen2, hl2, hin, decide_false]
    exact x1
end Go.Proofs.Ytlmcjfnignbdoaa.Abs
