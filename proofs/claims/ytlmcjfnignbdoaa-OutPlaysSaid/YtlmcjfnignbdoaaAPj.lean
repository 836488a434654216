/-
  A part of a law's proof.
-/
import Derived.Test.YtlmcjfnignbdoaaAPi
namespace Go.Proofs.Ytlmcjfnignbdoaa.Abs
open Go AbsYtlmcjfnignbdoaa
set_option maxRecDepth 100000
set_option maxHeartbeats 4000000
set_option linter.unusedSimpArgs false
set_option linter.unusedVariables false
theorem bs72 {H : AHeap} {x : Pk × Value} : abuildSlice E H 72 1 [(0, .agg (gcell x).toArray)] = some (.slice (some ⟨H.size, 0, some 1⟩) 1 1, H.alloc (.cells (gcell x) true 26)) := by
  simp [abuildSlice, ty72, ty40, azero, lfill, reps, splice, vcells, ZV.val, gcell, gpV]
theorem pk_append {H : AHeap} {w : Value} {G : List (Pk × Value)} {p : Pk × Value} (ow : OwnC H 26 w G.length (gcells G)) (hp : PMem H p.1 p.2) (hG : G.length ≤ 200) : ∃ r H', abuiltin E (H.alloc (.cells (gcell p) true 26)) .append [72, 72] [w, .slice (some ⟨H.size, 0, some 1⟩) 1 1] = some (r, H') ∧ OwnC H' 26 r (G ++ [p]).length (gcells (G ++ [p])) ∧ H.size ≤ H'.size ∧
    (∀ b, b < H.size → b ∉ blkOf w → H'.get b = H.get b) ∧ (∀ b ∈ blkOf r, b ∈ blkOf w ∨ H.size ≤ b) ∧ Did (fun b => b ∈ blkOf w) H H' := by
  have x2 : Ext H (H.alloc (.cells (gcell p) true 26)) := Ext.alloc _ _
  have ow2 := ow.keep x2.size fun b hb => x2.get b (ow.sz hb).2
  have hn2 : H.size ∉ blkOf w := fun hb => by have := (ow.sz hb).2; omega
  obtain ⟨zs, hz, hzl⟩ : ∃ zs, azero E 40 = some zs ∧ zs.length = 26 := ⟨_, zero40, rfl⟩
  obtain ⟨r, H3, ha3, ow3, s3, k3, b3⟩ := ow2.append (t := 72) (e := 40) (c := H.size) (ex := some 1) (new := gcell p) ty72 ty40 rfl hz hzl (by omega) (by decide) (AHeap.get_alloc_same _ _) hn2 rfl hp.one (by show (_ + 1) * 336 ≤ _; omega)
  have d : Did (fun b => b ∈ blkOf w) H H3 := x2.did.trans (((ow2.did (D := fun b => b ∈ blkOf w) (by omega) s3 k3 fun b hb => hb)).mono fun b _ hb => .inl hb)
  rw [AHeap.size_alloc] at s3 k3 b3
  refine ⟨r, H3, ha3, ?_, by omega, fun b hb hn => ?_, fun b hb => ?_, d⟩
  · rw [gcells, chunk_snoc, List.length_append]; exact ow3
  · rw [k3 b (by omega) hn, x2.get b hb]
  · rcases b3 b hb with h | h
    · exact .inl h
    · exact .inr (by omega)
theorem build40r {id : Int} : abuild E 40 [(0, .int .i64 6), (1, .int .i64 id)] = some (.agg (gcell (⟨6, id, 0, false, false, ⟨#[]⟩, ⟨#[]⟩, 0, []⟩, .slice none 0 0)).toArray) := by kernel_rfl
theorem pmem0 {H : AHeap} {id : Int} : PMem H ⟨6, id, 0, false, false, ⟨#[]⟩, ⟨#[]⟩, 0, []⟩ (.slice none 0 0) := ⟨SliceAt.nil, trivial, by show 0 ≤ 70; omega⟩
/-- the packets that were told up to some flight -/
structure Told (H0 H : AHeap) (A : List Fl) (w : Value) (L : List (Pk × Value)) (i : Nat) : Prop where
  ext : Ext H0 H
  own : OwnC H 26 w L.length (gcells L)
  mem : ∀ x ∈ L, PMem H x.1 x.2
  eq : L.map (·.1) = (A.take i).map againF
  fresh : ∀ b ∈ blkOf w, H0.size ≤ b
theorem Told.nil {H : AHeap} {A : List Fl} : Told H H A (.slice none 0 0) [] 0 := ⟨Ext.refl _, OwnC.nil, by simp, rfl, by simp [blkOf]⟩
theorem Told.ext' {H0 H H' : AHeap} {A : List Fl} {w : Value} {L : List (Pk × Value)} {i : Nat} (h : Told H0 H A w L i) (x : Ext H H') : Told H0 H' A w L i :=
  ⟨h.ext.trans x, h.own.keep x.size fun b hb => x.get b (h.own.sz hb).2, fun y hy => (h.mem y hy).keep (x.did (D := fun _ => False)).kept, h.eq, h.fresh⟩
theorem Told.add {H0 H : AHeap} {A : List Fl} {w : Value} {L : List (Pk × Value)} {i : Nat} (h : Told H0 H A w L i) (hi : i < A.length) (hA : A.length ≤ 100) {p : Pk × Value} (hp : PMem H p.1 p.2) (he : p.1 = againF A[i]) :
    ∃ r H', abuiltin E (H.alloc (.cells (gcell p) true 26)) .append [72, 72] [w, .slice (some ⟨H.size, 0, some 1⟩) 1 1] = some (r, H') ∧ Told H0 H' A r (L ++ [p]) (i + 1) := by
  have hL : L.length ≤ 100 := by
    have := congrArg List.length h.eq
    simp at this; omega
  obtain ⟨r, H', ha, ow, s, k, b, d⟩ := pk_append h.own hp (by omega)
  refine ⟨r, H', ha, h.ext.of_but d.but h.fresh, ow, fun y hy => ?_, ?_, fun c hc => ?_⟩
  · rcases List.mem_append.1 hy with hy | hy
    · exact (h.mem y hy).keep d.kept
    · obtain rfl := List.mem_singleton.1 hy
      exact hp.keep d.kept
  · rw [List.map_append, h.eq, take_snoc hi, List.map_append]
    simp [he]
  · rcases b c hc with hx | hx
    · exact h.fresh c hx
    · have := h.ext.size; omega
theorem spec41 {H : AHeap} {D : Nat → Prop} {bo bp bm : Nat} {last : Int} {F : FS} (h : OutI H D bo bp bm last F) (hF : F.length ≤ 100) : CallW E 41 [ptr bo] H fun r H' => ∃ L, Ext H H' ∧ OwnC H' 26 r L.length (gcells L) ∧ (∀ x ∈ L, PMem H' x.1 x.2) ∧ L.map (·.1) = (F.map (·.1)).map againF := by
  refine call41 (by simp) ?_
  simp only [strip, bodyOf, Try.f41, getD_body, keepN, bareOp_mk, lessOp_mk, lapp_cons, lapp_nil, List.map_cons, List.map_nil, array_toList, ↓reduceIte, Nat.reduceEqDiff, Bool.false_eq_true]
  simp (disch := first | assumption | simp) only [↓wbD, wbU, ↓aop, ↓reduceIte, Nat.reduceEqDiff, Nat.reduceLT, reduceCtorEq, goInt, pairs]
  refine (spec38 h hF).mono ?_
  rintro r7 H1 ⟨ow7, x1, _⟩
  have hlen := ow7.slice.alen (E := E) (ts := []) ty50
  have hm1 : Mems H1 F := h.mem.keep (x1.did (D := D)).kept
  simp (disch := first | assumption | simp) only [↓wbD, wbU, ↓aop, ↓reduceIte, Nat.reduceEqDiff, Nat.reduceLT, reduceCtorEq, goInt, pairs, hlen]
  refine W_loop (fun f H' => f 7 = r7 ∧ f 8 = .int .i64 F.length ∧ ∃ (i : Nat) (w : Value) (L : List (Pk × Value)), i ≤ F.length ∧ f 9 = .int .i64 i ∧ f 3 = w ∧ Told H1 H' (F.map (·.1)) w L i) (fun f _ => match f 9 with | .int _ i => F.length - i.toNat | _ => 0) ?_ ?_
  · refine ⟨?_, ?_, 0, _, _, by omega, ?_, ?_, Told.nil⟩
    · simp (disch := first | assumption | simp) only [↓wbD, wbU, ↓aop, ↓reduceIte, Nat.reduceEqDiff, Nat.reduceLT, reduceCtorEq, goInt, pairs]
    · simp (disch := first | assumption | simp) only [↓wbD, wbU, ↓aop, ↓reduceIte, Nat.reduceEqDiff, Nat.reduceLT, reduceCtorEq, goInt, pairs]
    · simp (disch := first | assumption | simp) only [↓wbD, wbU, ↓aop, ↓reduceIte, Nat.reduceEqDiff, Nat.reduceLT, reduceCtorEq, goInt, pairs]
      rfl
    · simp (disch := first | assumption | simp) only [↓wbD, wbU, ↓aop, ↓reduceIte, Nat.reduceEqDiff, Nat.reduceLT, reduceCtorEq, goInt, pairs]
  rintro f H2 ⟨f7, f8, i, w, L, hi, f9, f3, T⟩
  by_cases hin : (i : Int) < (F.length : Int)
  rotate_left
  · have hie : i = F.length := by omega
    simp (disch := first | assumption | simp) only [↓wbD, wbU, ↓aop, ↓reduceIte, Nat.reduceEqDiff, Nat.reduceLT, reduceCtorEq, goInt, pairs, f3, f8, f9, hin, decide_false]
    refine ⟨L, x1.trans T.ext, T.own, T.mem, ?_⟩
    rw [T.eq, List.take_of_length_le (by simp; omega)]
  have hiF : i < F.length := by omega
  have k7 : OwnC H2 11 r7 F.length (fcells F) := ow7.keep T.ext.size fun b hb => T.ext.get b (ow7.sz hb).2
  obtain ⟨b, c, ex, sp, rfl, hg, _⟩ := own_at k7 hiF
  have hpm : Mem H2 (F[i]).1.m (F[i]).2 := (hm1 _ (List.getElem_mem hiF)).keep (T.ext.did (D := D)).kept
  have hst := st75 (p := F[i]) (AHeap.get_alloc_same H2 (.cells z75 true 0)) rfl (Mem.onef hpm)
  obtain ⟨x3, s3, z3⟩ := new_set (H := H2) (o := .cells z75 true 0) (o' := .cells (fcell F[i]) true 0)
  have q0 : (fcell F[i])[0]? = some (.int .i64 (F[i]).1.id) := rfl
  have q1 : (fcell F[i])[1]? = some (.int .i64 (F[i]).1.st) := rfl
  have hw := wrap_nat (n := i) (by omega)
  have hAi : ((F.map (·.1))[i]'(by simpa using hiF)) = (F[i]).1 := by simp
  generalize hH3 : (H2.alloc (.cells z75 true 0)).set H2.size (.cells (fcell F[i]) true 0) = H3 at hst x3 s3 z3
  have T3 := T.ext' x3
  by_cases h3 : (F[i]).1.st = 3
  · obtain ⟨r, H4, ha, T4⟩ := T3.add (by simpa using hiF) (by simpa using hF) (p := (⟨6, (F[i]).1.id, 0, false, false, ⟨#[]⟩, ⟨#[]⟩, 0, []⟩, .slice none 0 0)) pmem0 (by rw [hAi]; simp [againF, h3])
    simp (disch := first | assumption | simp) only [↓wbD, wbU, ↓aop, ↓reduceIte, Nat.reduceEqDiff, Nat.reduceLT, reduceCtorEq, goInt, pairs, f3, f7, f8, f9, hin, decide_true, ia_slice ty50 ty75 hiF, Nat.zero_add, Nat.add_zero, ld75 hg hiF, zero75m, hst, fa75_0, fa75_1, ld_cell ty3 rfl z3, q0, q1, h3, build40r, bs72, ha, hw]
    refine ⟨_, rfl, ⟨?_, ?_, i + 1, r, _, by omega, ?_, ?_, T4⟩, ?_⟩
    · simp (disch := first | assumption | simp) only [↓wbD, wbU, ↓aop, ↓reduceIte, Nat.reduceEqDiff, Nat.reduceLT, reduceCtorEq, goInt, pairs, f7]
    · simp (disch := first | assumption | simp) only [↓wbD, wbU, ↓aop, ↓reduceIte, Nat.reduceEqDiff, Nat.reduceLT, reduceCtorEq, goInt, pairs, f8]
    · simp (disch := first | assumption | simp) only [↓wbD, wbU, ↓aop, ↓reduceIte, Nat.reduceEqDiff, Nat.reduceLT, reduceCtorEq, goInt, pairs]
    · simp (disch := first | assumption | simp) only [↓wbD, wbU, ↓aop, ↓reduceIte, Nat.reduceEqDiff, Nat.reduceLT, reduceCtorEq, goInt, pairs]
    · simp (disch := first | assumption | simp) only [↓wbD, wbU, ↓aop, ↓reduceIte, Nat.reduceEqDiff, Nat.reduceLT, reduceCtorEq, goInt, pairs, f9]
      simp; omega
  · simp (disch := first | assumption | simp) only [↓wbD, wbU, ↓aop, ↓reduceIte, Nat.reduceEqDiff, Nat.reduceLT, reduceCtorEq, goInt, pairs, f3, f7, f8, f9, hin, decide_true, ia_slice ty50 ty75 hiF, Nat.zero_add, Nat.add_zero, ld75 hg hiF, zero75m, hst, fa75_0, fa75_1, fa75_2, ld_cell ty3 rfl z3, q0, q1, h3, decide_false, ldbox z3]
    have hpm3 := hpm.keep (x3.did (D := D)).kept
    refine (spec23 hpm3.1 hpm3.2.1 hpm3.2.2).mono ?_
    rintro r4 H4 ⟨sl', rfl, hs', x4⟩
    have T4 := T3.ext' x4
    obtain ⟨r, H5, ha, T5⟩ := T4.add (by simpa using hiF) (by simpa using hF) (p := (⟨3, (F[i]).1.id, (F[i]).1.st, true, (F[i]).1.m.rt, (F[i]).1.m.t, (F[i]).1.m.p, (F[i]).1.m.n, (F[i]).1.m.cs⟩, sl')) ⟨hs', hpm3.2⟩ (by rw [hAi]; simp [againF, h3])
    have hb := bs72 (H := H4) (x := (⟨3, (F[i]).1.id, (F[i]).1.st, true, (F[i]).1.m.rt, (F[i]).1.m.t, (F[i]).1.m.p, (F[i]).1.m.n, (F[i]).1.m.cs⟩, sl'))
    have hgp : gcell (⟨3, (F[i]).1.id, (F[i]).1.st, true, (F[i]).1.m.rt, (F[i]).1.m.t, (F[i]).1.m.p, (F[i]).1.m.n, (F[i]).1.m.cs⟩, sl') = pubV (F[i]).1.id (F[i]).1.st true (F[i]).1.m.rt (F[i]).1.m.t (F[i]).1.m.p sl' := rfl
    rw [hgp] at hb ha
    simp (disch := first | assumption | simp) only [↓wbD, wbU, ↓aop, ↓reduceIte, Nat.reduceEqDiff, Nat.reduceLT, reduceCtorEq, goInt, pairs, f3, f9, hb, ha, hw]
    refine ⟨_, rfl, ⟨?_, ?_, i + 1, r, _, by omega, ?_, ?_, T5⟩, ?_⟩
    · simp (disch := first | assumption | simp) only [↓wbD, wbU, ↓aop, ↓reduceIte, Nat.reduceEqDiff, Nat.reduceLT, reduceCtorEq, goInt, pairs, f7]
    · simp (disch := first | assumption | simp) only [↓wbD, wbU, ↓aop, ↓reduceIte, Nat.reduceEqDiff, Nat.reduceLT, reduceCtorEq, goInt, pairs, f8]
    · simp (disch := first | assumption | simp) only [↓wbD, wbU, ↓aop, ↓reduceIte, Nat.reduceEqDiff, Nat.reduceLT, reduceCtorEq, goInt, pairs]
    · simp (disch := first | assumption | simp) only [↓wbD, wbU, ↓aop, ↓reduceIte, Nat.reduceEqDiff, Nat.reduceLT, reduceCtorEq, goInt, pairs]
    · simp (disch := first | assumption | simp) only [↓wbD, wbU, ↓aop, ↓reduceIte, Nat.reduceEqDiff, Nat.reduceLT, reduceCtorEq, goInt, pairs, f9]
      simp; omega
theorem spec42 {H : AHeap} {D : Nat → Prop} {ro rp : Nat} {last : Int} {F : FS} {K : List Int} (h : OutR H D ro rp last F K) (hF : F.length ≤ 100) : CallW E 42 [ptr ro] H fun r H' => ∃ L, Ext H H' ∧ OwnC H' 26 r L.length (gcells L) ∧ (∀ x ∈ L, PMem H' x.1 x.2) ∧ L.map (·.1) = (F.map (·.1)).map againF := by
  refine call42 (by simp) ?_
  simp only [strip, bodyOf, Try.f42, getD_body, keepN, bareOp_mk, lessOp_mk, lapp_cons, lapp_nil, List.map_cons, List.map_nil, array_toList, ↓reduceIte, Nat.reduceEqDiff, Bool.false_eq_true]
  obtain ⟨v, g0, ov, dv⟩ := h.go
  have c1 : ∀ v : Value, ([ptr rp, v] : List Value)[1]? = some v := fun _ => rfl
  simp (disch := first | assumption | simp) only [↓wbD, wbU, ↓aop, ↓reduceIte, Nat.reduceEqDiff, Nat.reduceLT, reduceCtorEq, goInt, pairs]
  refine W_loop (fun f H' => f 0 = ptr ro ∧ ∃ (i : Nat) (w : Value) (L : List (Pk × Value)), i ≤ F.length ∧ f 4 = .int .i64 i ∧ f 3 = w ∧ Told H H' (F.map (·.1)) w L i) (fun f _ => match f 4 with | .int _ i => F.length - i.toNat | _ => 0) ?_ ?_
  · refine ⟨?_, 0, _, _, by omega, ?_, ?_, Told.nil⟩
    · simp (disch := first | assumption | simp) only [↓wbD, wbU, ↓aop, ↓reduceIte, Nat.reduceEqDiff, Nat.reduceLT, reduceCtorEq, goInt, pairs]
    · simp (disch := first | assumption | simp) only [↓wbD, wbU, ↓aop, ↓reduceIte, Nat.reduceEqDiff, Nat.reduceLT, reduceCtorEq, goInt, pairs]
      rfl
    · simp (disch := first | assumption | simp) only [↓wbD, wbU, ↓aop, ↓reduceIte, Nat.reduceEqDiff, Nat.reduceLT, reduceCtorEq, goInt, pairs]
  rintro f H2 ⟨f0, i, w, L, hi, f4, f3, T⟩
  have k7 : OwnC H2 11 v F.length (fcells F) := ov.keep T.ext.size fun b hb => T.ext.get b (ov.sz hb).2
  have g2 : H2.get ro = .cells [ptr rp, v] true 0 := by rw [T.ext.get _ (h.lt _ h.own.1)]; exact g0
  have hlen := k7.slice.alen (E := E) (ts := []) ty50
  by_cases hin : (i : Int) < (F.length : Int)
  rotate_left
  · have hie : i = F.length := by omega
    simp (disch := first | assumption | simp) only [↓wbD, wbU, ↓aop, ↓reduceIte, Nat.reduceEqDiff, Nat.reduceLT, reduceCtorEq, goInt, pairs, f0, f3, f4, fa69_1, Nat.zero_add, ld_cell ty50 rfl g2, c1, hlen, hin, decide_false]
    refine ⟨L, T.ext, T.own, T.mem, ?_⟩
    rw [T.eq, List.take_of_length_le (by simp; omega)]
  have hiF : i < F.length := by omega
  obtain ⟨b, c, ex, sp, rfl, hg, _⟩ := own_at k7 hiF
  have hpm : Mem H2 (F[i]).1.m (F[i]).2 := (h.mem _ (List.getElem_mem hiF)).keep (T.ext.did (D := D)).kept
  have hst := st75 (p := F[i]) (AHeap.get_alloc_same H2 (.cells z75 true 0)) rfl (Mem.onef hpm)
  obtain ⟨x3, s3, z3⟩ := new_set (H := H2) (o := .cells z75 true 0) (o' := .cells (fcell F[i]) true 0)
  have q0 : (fcell F[i])[0]? = some (.int .i64 (F[i]).1.id) := rfl
  have q1 : (fcell F[i])[1]? = some (.int .i64 (F[i]).1.st) := rfl
  have hw := wrap_nat (n := i) (by omega)
  have hAi : ((F.map (·.1))[i]'(by simpa using hiF)) = (F[i]).1 := by simp
  generalize hH3 : (H2.alloc (.cells z75 true 0)).set H2.size (.cells (fcell F[i]) true 0) = H3 at hst x3 s3 z3
  have T3 := T.ext' x3
  by_cases h3 : (F[i]).1.st = 3
  · obtain ⟨r, H4, ha, T4⟩ := T3.add (by simpa using hiF) (by simpa using hF) (p := (⟨6, (F[i]).1.id, 0, false, false, ⟨#[]⟩, ⟨#[]⟩, 0, []⟩, .slice none 0 0)) pmem0 (by rw [hAi]; simp [againF, h3])
    simp (disch := first | assumption | simp) only [↓wbD, wbU, ↓aop, ↓reduceIte, Nat.reduceEqDiff, Nat.reduceLT, reduceCtorEq, goInt, pairs, f0, f3, f4, fa69_1, ld_cell ty50 rfl g2, c1, hlen, hin, decide_true, ia_slice ty50 ty75 hiF, Nat.zero_add, Nat.add_zero, ld75 hg hiF, zero75m, hst, fa75_0, fa75_1, ld_cell ty3 rfl z3, q0, q1, h3, build40r, bs72, ha, hw]
    refine ⟨_, rfl, ⟨?_, i + 1, r, _, by omega, ?_, ?_, T4⟩, ?_⟩
    · simp (disch := first | assumption | simp) only [↓wbD, wbU, ↓aop, ↓reduceIte, Nat.reduceEqDiff, Nat.reduceLT, reduceCtorEq, goInt, pairs, f0]
    · simp (disch := first | assumption | simp) only [↓wbD, wbU, ↓aop, ↓reduceIte, Nat.reduceEqDiff, Nat.reduceLT, reduceCtorEq, goInt, pairs]
    · simp (disch := first | assumption | simp) only [↓wbD, wbU, ↓aop, ↓reduceIte, Nat.reduceEqDiff, Nat.reduceLT, reduceCtorEq, goInt, pairs]
    · simp (disch := first | assumption | simp) only [↓wbD, wbU, ↓aop, ↓reduceIte, Nat.reduceEqDiff, Nat.reduceLT, reduceCtorEq, goInt, pairs, f4]
      simp; omega
  · simp (disch := first | assumption | simp) only [↓wbD, wbU, ↓aop, ↓reduceIte, Nat.reduceEqDiff, Nat.reduceLT, reduceCtorEq, goInt, pairs, f0, f3, f4, fa69_1, ld_cell ty50 rfl g2, c1, hlen, hin, decide_true, ia_slice ty50 ty75 hiF, Nat.zero_add, Nat.add_zero, ld75 hg hiF, zero75m, hst, fa75_0, fa75_1, fa75_2, ld_cell ty3 rfl z3, q0, q1, h3, decide_false, ldbox z3]
    have hpm3 := hpm.keep (x3.did (D := D)).kept
    refine (spec24 hpm3.1).mono ?_
    rintro r4 H4 ⟨rfl, x4⟩
    have T4 := T3.ext' x4
    have hpm4 := hpm3.keep (x4.did (D := D)).kept
    obtain ⟨r, H5, ha, T5⟩ := T4.add (by simpa using hiF) (by simpa using hF) (p := (⟨3, (F[i]).1.id, (F[i]).1.st, true, (F[i]).1.m.rt, (F[i]).1.m.t, (F[i]).1.m.p, (F[i]).1.m.n, (F[i]).1.m.cs⟩, (F[i]).2)) hpm4 (by rw [hAi]; simp [againF, h3])
    have hb := bs72 (H := H4) (x := (⟨3, (F[i]).1.id, (F[i]).1.st, true, (F[i]).1.m.rt, (F[i]).1.m.t, (F[i]).1.m.p, (F[i]).1.m.n, (F[i]).1.m.cs⟩, (F[i]).2))
    have hgp : gcell (⟨3, (F[i]).1.id, (F[i]).1.st, true, (F[i]).1.m.rt, (F[i]).1.m.t, (F[i]).1.m.p, (F[i]).1.m.n, (F[i]).1.m.cs⟩, (F[i]).2) = pubV (F[i]).1.id (F[i]).1.st true (F[i]).1.m.rt (F[i]).1.m.t (F[i]).1.m.p (F[i]).2 := rfl
    rw [hgp] at hb ha
    simp (disch := first | assumption | simp) only [↓wbD, wbU, ↓aop, ↓reduceIte, Nat.reduceEqDiff, Nat.reduceLT, reduceCtorEq, goInt, pairs, f3, f4, hb, ha, hw]
    refine ⟨_, rfl, ⟨?_, i + 1, r, _, by omega, ?_, ?_, T5⟩, ?_⟩
    · simp (disch := first | assumption | simp) only [↓wbD, wbU, ↓aop, ↓reduceIte, Nat.reduceEqDiff, Nat.reduceLT, reduceCtorEq, goInt, pairs, f0]
    · simp (disch := first | assumption | simp) only [↓wbD, wbU, ↓aop, ↓reduceIte, Nat.reduceEqDiff, Nat.reduceLT, reduceCtorEq, goInt, pairs]
    · simp (disch := first | assumption | simp) only [↓wbD, wbU, ↓aop, ↓reduceIte, Nat.reduceEqDiff, Nat.reduceLT, reduceCtorEq, goInt, pairs]
    · simp (disch := first | assumption | simp) only [↓wbD, wbU, ↓aop, ↓reduceIte, Nat.reduceEqDiff, Nat.reduceLT, reduceCtorEq, goInt, pairs, f4]
      simp; omega
end Go.Proofs.Ytlmcjfnignbdoaa.Abs
