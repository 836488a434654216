/-
  A part of a law's proof.
-/
import Derived.Test.YtlmcjfnignbdoaaAPd
namespace Go.Proofs.Ytlmcjfnignbdoaa.Abs
open Go AbsYtlmcjfnignbdoaa
set_option maxRecDepth 100000
set_option maxHeartbeats 8000000
set_option linter.unusedSimpArgs false
set_option linter.unusedVariables false
theorem ids_set {F : FS} {k : Nat} (hk : k < F.length) (to : Int) : ids (F.set k (fnew F[k] to)) = ids F := by
  simp only [ids, List.map_set]
  have h1 : (F.map (·.1.id))[k]'(by simpa using hk) = (fnew F[k] to).1.id := by simp [fnew, Fl.put]
  rw [← h1]
  exact List.set_getElem_self _
theorem kset0 {F : FS} {k : Nat} (hk : k < F.length) (hn : (ids F).Nodup) : kset (ids F) F k 0 F.length = ids (F.eraseIdx k) := by
  unfold kset
  rw [if_pos ⟨rfl, hk⟩, List.getElem?_eq_getElem hk]
  simp only []
  rw [flt_erase hn, ids_erase hk hn]
theorem kset3 {F : FS} {k : Nat} (hk : k < F.length) : kset (ids F) F k 3 F.length = ids (F.set k (fnew F[k] 3)) := by
  unfold kset
  rw [if_neg (fun h => by have := h.1; omega), ids_set hk]
theorem spec32 {H : AHeap} {D : Nat → Prop} {ro rp : Nat} {last : Int} {F : FS} {t id rs : Int} (h : OutR H D ro rp last F (ids F)) (hF : F.length ≤ 100) (hn : (ids F).Nodup) :
    CallW E 32 [ptr ro, .agg (pkV t id rs).toArray] H fun r H' => ∃ F' code m sl, r = .tuple #[.int .i64 code, .agg (m.v sl).toArray] ∧ OutR H' (Grow D H H') ro rp last F' (ids F') ∧ Did D H H' ∧ Mem H' m sl ∧ ackF (F.map (·.1)) t id rs = (code, m, F'.map (·.1)) := by
  refine call32 (by simp) ?_
  simp only [strip, bodyOf, Try.f32, getD_body, keepN, bareOp_mk, lessOp_mk, lapp_cons, lapp_nil, List.map_cons, List.map_nil, array_toList, ↓reduceIte, Nat.reduceEqDiff, Bool.false_eq_true]
  have hv : vcells (.agg (pkV t id rs).toArray) = pkV t id rs := rfl
  have p0 : (pkV t id rs)[0]? = some (.int .i64 t) := rfl
  have p1 : (pkV t id rs)[1]? = some (.int .i64 id) := rfl
  have p2 : (pkV t id rs)[2]? = some (.int .i64 rs) := rfl
  have z1 : ((H.alloc (.cells (pkV t id rs) true 0)).alloc (.cells (m0.v (.slice none 0 0)) true 0)).get H.size = .cells (pkV t id rs) true 0 := by rw [AHeap.get_alloc_ne _ _ (by rw [AHeap.size_alloc]; omega)]; exact AHeap.get_alloc_same _ _
  have y1 : ((H.alloc (.cells (pkV t id rs) true 0)).alloc (.cells (m0.v (.slice none 0 0)) true 0)).get (H.size + 1) = .cells (m0.v (.slice none 0 0)) true 0 := AHeap.get_alloc_same _ _
  have x1 : Ext H ((H.alloc (.cells (pkV t id rs) true 0)).alloc (.cells (m0.v (.slice none 0 0)) true 0)) := (Ext.alloc _ _).trans (Ext.alloc _ _)
  have s0 : (H.alloc (.cells (pkV t id rs) true 0)).size = H.size + 1 := AHeap.size_alloc _ _
  have s1 : ((H.alloc (.cells (pkV t id rs) true 0)).alloc (.cells (m0.v (.slice none 0 0)) true 0)).size = H.size + 2 := by rw [AHeap.size_alloc, s0]
  generalize hG_P : pkV t id rs = P at *
  generalize hH1 : (H.alloc (.cells P true 0)).alloc (.cells (m0.v (.slice none 0 0)) true 0) = H1 at *
  have hro := h.lt _ h.own.1
  have nD : ∀ b, H.size ≤ b → ¬ D b := fun b hb hD => by have := h.lt b hD; omega
  -- an answer with a message, in a heap where the flights are told
  have fin : ∀ {F' : FS} {code : Int} {r : Value} {J K : AHeap} {m : Msg} {sl : Value}, K = J.set (H.size + 1) (.cells (m.v sl) true 0) → J.get (H.size + 1) = .cells (m0.v (.slice none 0 0)) true 0 → Did D H J → OutR J (Grow D H J) ro rp last F' (ids F') → (∀ b, (b = H.size + 1) → ∀ v, J.get ro = .cells [ptr rp, v] true 0 → True) → r = .tuple #[.int .i64 code, .agg (m.v sl).toArray] → Mem J m sl → ackF (F.map (·.1)) t id rs = (code, m, F'.map (·.1)) → True := fun _ _ _ _ _ _ _ _ => trivial
  clear fin
  have fin : ∀ {F' : FS} {code : Int} {r : Value} {J : AHeap} {m : Msg} {sl : Value} {D' : Nat → Prop}, J.get (H.size + 1) = .cells (m0.v (.slice none 0 0)) true 0 → H.size + 1 < J.size → Did D H J → OutR J D' ro rp last F' (ids F') → (∀ b, D' b → Grow D H J b ∧ b ≠ H.size + 1) → r = .tuple #[.int .i64 code, .agg (m.v sl).toArray] → Mem J m sl → ackF (F.map (·.1)) t id rs = (code, m, F'.map (·.1)) →
      ∃ F' code m' sl', r = .tuple #[.int .i64 code, .agg (m'.v sl').toArray] ∧ OutR (J.set (H.size + 1) (.cells (m.v sl) true 0)) (Grow D H (J.set (H.size + 1) (.cells (m.v sl) true 0))) ro rp last F' (ids F') ∧ Did D H (J.set (H.size + 1) (.cells (m.v sl) true 0)) ∧ Mem (J.set (H.size + 1) (.cells (m.v sl) true 0)) m' sl' ∧ ackF (F.map (·.1)) t id rs = (code, m', F'.map (·.1)) := fun {F'} {code} {r} {J} {m} {sl} {D'} yJ sJ dJ oJ hD' hr hm ha => by
    subst hr
    have d : Did (fun b => b = H.size + 1) J (J.set (H.size + 1) (.cells (m.v sl) true 0)) := did_set rfl (fun cs wr e => by rw [yJ] at e; cases e)
    refine ⟨F', code, m, sl, rfl, (oJ.keep d fun b hb he => (hD' b hb).2 he).grow (fun b hb => ?_) ?_, dJ.trans (d.mono fun b _ hb => .inr ⟨by omega, by omega⟩), hm.keep d.kept, ha⟩
    · rcases (hD' b hb).1 with hx | hx
      · exact .inl hx
      · exact .inr ⟨hx.1, by rw [AHeap.size_set]; exact hx.2⟩
    · have := dJ.size
      rintro b (hb | hb)
      · rw [AHeap.size_set]; have := h.lt b hb; omega
      · exact hb.2
  have o1 : OutR H1 D ro rp last F (ids F) := h.keep (S := fun _ => False) x1.did fun _ _ hf => hf
  by_cases ha : awaitsF t = 0
  · have n4 : ¬ t = 4 := by rintro rfl; exact absurd ha (by decide)
    have n5 : ¬ t = 5 := by rintro rfl; exact absurd ha (by decide)
    have n7 : ¬ t = 7 := by rintro rfl; exact absurd ha (by decide)
    have hst0 := st31 (sl := .slice none 0 0) (m := m0) y1 rfl rfl
    have hld0 := ld31 (AHeap.get_set_same H1 (H.size + 1) (.cells (m0.v (.slice none 0 0)) true 0))
    simp (disch := first | assumption | simp) only [↓wbD, wbU, ↓aop, ↓reduceIte, Nat.reduceEqDiff, Nat.reduceLT, reduceCtorEq, goInt, pairs, hG_P, hv, s0, zero31m, hH1, fa40_0, Nat.zero_add, ld_cell ty3 rfl z1, p0, n4, n5, n7, decide_false, build31m, hst0, hld0]
    exact fin y1 (by omega) x1.did o1 (fun b hb => ⟨.inl hb, fun e => nD b (by omega) hb⟩) rfl m0_mem (by unfold ackF; rw [if_pos ha])
  simp (disch := first | assumption | simp) only [↓wbD, wbU, ↓aop, ↓reduceIte, Nat.reduceEqDiff, Nat.reduceLT, reduceCtorEq, goInt, pairs, hG_P, hv, s0, zero31m, hH1, fa40_0, Nat.zero_add, ld_cell ty3 rfl z1, p0]
  refine condC_mono (Q := fun e A J => e = .normal ∧ ∃ f' : Nat → Value, A = L 75 f' ∧ f' 0 = ptr ro ∧ f' 3 = ptr H.size ∧ f' 5 = ptr (H.size + 1) ∧ f' 6 = .int .i64 (awaitsF t) ∧ J = H1) ?_ ?_
  · have e54 : ¬ ((5 : Int) = 4) := by decide
    have e74 : ¬ ((7 : Int) = 4) := by decide
    have e75 : ¬ ((7 : Int) = 5) := by decide
    have hc : t = 4 ∨ t = 5 ∨ t = 7 := by
      unfold awaitsF at ha
      by_cases h4 : t = 4
      · exact .inl h4
      · by_cases h5 : t = 5
        · exact .inr (.inl h5)
        · by_cases h7 : t = 7
          · exact .inr (.inr h7)
          · rw [if_neg h4, if_neg h5, if_neg h7] at ha; exact (ha rfl).elim
    rcases hc with rfl | rfl | rfl
    · simp (disch := first | assumption | simp) only [↓wbD, wbU, ↓aop, ↓reduceIte, Nat.reduceEqDiff, Nat.reduceLT, reduceCtorEq, goInt, pairs, hG_P, decide_true]
      refine ⟨_, rfl, ?_, ?_, ?_, ?_, trivial⟩ <;> simp (disch := first | assumption | simp) only [↓wbD, wbU, ↓aop, ↓reduceIte, Nat.reduceEqDiff, Nat.reduceLT, reduceCtorEq, goInt, pairs, hG_P, s0] <;> rfl
    · simp (disch := first | assumption | simp) only [↓wbD, wbU, ↓aop, ↓reduceIte, Nat.reduceEqDiff, Nat.reduceLT, reduceCtorEq, goInt, pairs, hG_P, e54, decide_true, decide_false]
      refine ⟨_, rfl, ?_, ?_, ?_, ?_, trivial⟩ <;> simp (disch := first | assumption | simp) only [↓wbD, wbU, ↓aop, ↓reduceIte, Nat.reduceEqDiff, Nat.reduceLT, reduceCtorEq, goInt, pairs, hG_P, s0] <;> rfl
    · simp (disch := first | assumption | simp) only [↓wbD, wbU, ↓aop, ↓reduceIte, Nat.reduceEqDiff, Nat.reduceLT, reduceCtorEq, goInt, pairs, hG_P, e74, e75, decide_true, decide_false]
      refine ⟨_, rfl, ?_, ?_, ?_, ?_, trivial⟩ <;> simp (disch := first | assumption | simp) only [↓wbD, wbU, ↓aop, ↓reduceIte, Nat.reduceEqDiff, Nat.reduceLT, reduceCtorEq, goInt, pairs, hG_P, s0] <;> rfl
  rintro e A J ⟨rfl, f', rfl, f0, f3, f5, f6, rfl⟩
  simp (disch := first | assumption | simp) only [↓wbD, wbU, ↓aop, ↓reduceIte, Nat.reduceEqDiff, Nat.reduceLT, reduceCtorEq, goInt, pairs, hG_P]
  refine W_loop (fun f J' => f 0 = ptr ro ∧ f 3 = ptr H.size ∧ f 5 = ptr (H.size + 1) ∧ f 6 = .int .i64 (awaitsF t) ∧ Ext J J' ∧ ∃ i : Nat, i ≤ F.length ∧ f 7 = .int .i64 i ∧ ∀ j (hj : j < F.length), j < i → (F[j]).1.id ≠ id) (fun f _ => match f 7 with | .int _ i => F.length - i.toNat | _ => 0) ?_ ?_
  · refine ⟨?_, ?_, ?_, ?_, Ext.refl _, 0, by omega, ?_, fun j _ hj => by omega⟩
    · simp (disch := first | assumption | simp) only [↓wbD, wbU, ↓aop, ↓reduceIte, Nat.reduceEqDiff, Nat.reduceLT, reduceCtorEq, goInt, pairs, hG_P, f0]
    · simp (disch := first | assumption | simp) only [↓wbD, wbU, ↓aop, ↓reduceIte, Nat.reduceEqDiff, Nat.reduceLT, reduceCtorEq, goInt, pairs, hG_P, f3]
    · simp (disch := first | assumption | simp) only [↓wbD, wbU, ↓aop, ↓reduceIte, Nat.reduceEqDiff, Nat.reduceLT, reduceCtorEq, goInt, pairs, hG_P, f5]
    · simp (disch := first | assumption | simp) only [↓wbD, wbU, ↓aop, ↓reduceIte, Nat.reduceEqDiff, Nat.reduceLT, reduceCtorEq, goInt, pairs, hG_P, f6]
    · simp (disch := first | assumption | simp) only [↓wbD, wbU, ↓aop, ↓reduceIte, Nat.reduceEqDiff, Nat.reduceLT, reduceCtorEq, goInt, pairs, hG_P]
      rfl
  clear f0 f3 f5 f6 f'
  rintro f H2 ⟨f0, f3, f5, f6, x2, i, hi, f7, hb⟩
  have s2 := x2.size
  have x12 : Ext H H2 := x1.trans x2
  have o2 : OutR H2 D ro rp last F (ids F) := o1.keep (S := fun _ => False) x2.did fun _ _ hf => hf
  have z2 : H2.get H.size = .cells P true 0 := by rw [x2.get _ (by omega)]; exact z1
  have y2 : H2.get (H.size + 1) = .cells (m0.v (.slice none 0 0)) true 0 := by rw [x2.get _ (by omega)]; exact y1
  have c1 : ∀ v : Value, ([ptr rp, v] : List Value)[1]? = some v := fun _ => rfl
  obtain ⟨v, g2, ov, dv⟩ := o2.go
  have hlen := ov.slice.alen (E := E) (ts := []) ty50
  by_cases hin : (i : Int) < (F.length : Int)
  rotate_left
  · have hst0 := st31 (sl := .slice none 0 0) (m := m0) y2 rfl rfl
    have hld0 := ld31 (AHeap.get_set_same H2 (H.size + 1) (.cells (m0.v (.slice none 0 0)) true 0))
    simp (disch := first | assumption | simp) only [↓wbD, wbU, ↓aop, ↓reduceIte, Nat.reduceEqDiff, Nat.reduceLT, reduceCtorEq, goInt, pairs, hG_P, f0, f5, f7, fa69_1, Nat.zero_add, ld_cell ty50 rfl g2, c1, hlen, hin, decide_false, build31m, hst0, hld0]
    refine fin y2 (by omega) x12.did o2 (fun b hb => ⟨.inl hb, fun e => nD b (by omega) hb⟩) rfl m0_mem ?_
    have hfi : fidx (F.map (·.1)) id = (F.map (·.1)).length := fidx_none fun j hj => by simpa using hb j (by simpa using hj) (by simp at hj; omega)
    unfold ackF
    rw [if_neg ha, hfi, List.getElem?_eq_none (Nat.le_refl _)]
  have hiF : i < F.length := by omega
  obtain ⟨b, c, ex, sp, hve, hg, hbl⟩ := own_at ov hiF
  have hia := ia_slice (E := E) ty50 ty75 (B := b) (o := 0) (c := c) (ex := ex) (k := .i64) hiF
  rw [← hve] at hia
  have hpm : Mem H2 (F[i]).1.m (F[i]).2 := o2.mem _ (List.getElem_mem hiF)
  have hst := st75 (p := F[i]) (AHeap.get_alloc_same H2 (.cells z75 true 0)) rfl (Mem.onef hpm)
  obtain ⟨x3, s3, w3⟩ := new_set (H := H2) (o := .cells z75 true 0) (o' := .cells (fcell F[i]) true 0)
  have q0 : (fcell F[i])[0]? = some (.int .i64 (F[i]).1.id) := rfl
  have q1 : (fcell F[i])[1]? = some (.int .i64 (F[i]).1.st) := rfl
  have hw := wrap_nat (n := i) (by omega)
  generalize hH3 : (H2.alloc (.cells z75 true 0)).set H2.size (.cells (fcell F[i]) true 0) = H3 at hst x3 s3 w3
  have z3 : H3.get H.size = .cells P true 0 := by rw [x3.get _ (by omega)]; exact z2
  have y3 : H3.get (H.size + 1) = .cells (m0.v (.slice none 0 0)) true 0 := by rw [x3.get _ (by omega)]; exact y2
  have x13 : Ext H H3 := x12.trans x3
  have o3 : OutR H3 D ro rp last F (ids F) := o2.keep (S := fun _ => False) x3.did fun _ _ hf => hf
  by_cases hid : (F[i]).1.id = id
  rotate_left
  · simp (disch := first | assumption | simp) only [↓wbD, wbU, ↓aop, ↓reduceIte, Nat.reduceEqDiff, Nat.reduceLT, reduceCtorEq, goInt, pairs, hG_P, f0, f3, f7, fa69_1, fa75_0, fa40_1, Nat.zero_add, Nat.add_zero, ld_cell ty50 rfl g2, c1, hlen, hin, decide_true, hia, ld75 hg hiF, zero75m, hst, ld_cell ty3 rfl w3, ld_cell ty3 rfl z3, q0, p1, hid, not_false_eq_true, hw]
    refine ⟨_, rfl, ⟨?_, ?_, ?_, ?_, x2.trans x3, i + 1, by omega, ?_, fun j hj hji => ?_⟩, ?_⟩
    · simp (disch := first | assumption | simp) only [↓wbD, wbU, ↓aop, ↓reduceIte, Nat.reduceEqDiff, Nat.reduceLT, reduceCtorEq, goInt, pairs, hG_P, f0]
    · simp (disch := first | assumption | simp) only [↓wbD, wbU, ↓aop, ↓reduceIte, Nat.reduceEqDiff, Nat.reduceLT, reduceCtorEq, goInt, pairs, hG_P, f3]
    · simp (disch := first | assumption | simp) only [↓wbD, wbU, ↓aop, ↓reduceIte, Nat.reduceEqDiff, Nat.reduceLT, reduceCtorEq, goInt, pairs, hG_P, f5]
    · simp (disch := first | assumption | simp) only [↓wbD, wbU, ↓aop, ↓reduceIte, Nat.reduceEqDiff, Nat.reduceLT, reduceCtorEq, goInt, pairs, hG_P, f6]
    · simp (disch := first | assumption | simp) only [↓wbD, wbU, ↓aop, ↓reduceIte, Nat.reduceEqDiff, Nat.reduceLT, reduceCtorEq, goInt, pairs, hG_P]
    · by_cases hje : j = i
      · subst hje; exact hid
      · exact hb j hj (by omega)
    · simp (disch := first | assumption | simp) only [↓wbD, wbU, ↓aop, ↓reduceIte, Nat.reduceEqDiff, Nat.reduceLT, reduceCtorEq, goInt, pairs, hG_P, f7]
      simp; omega
  have hfi : fidx (F.map (·.1)) id = i := fidx_at (by simpa using hiF) (by simpa using hid) fun j hj => by simpa using hb j (by omega) hj
  have hA : (F.map (·.1))[i]? = some (F[i]).1 := by rw [List.getElem?_map, List.getElem?_eq_getElem hiF]; rfl
  by_cases hsa : (F[i]).1.st = awaitsF t
  rotate_left
  · have hst0 := st31 (sl := .slice none 0 0) (m := m0) y3 rfl rfl
    have hld0 := ld31 (AHeap.get_set_same H3 (H.size + 1) (.cells (m0.v (.slice none 0 0)) true 0))
    simp (disch := first | assumption | simp) only [↓wbD, wbU, ↓aop, ↓reduceIte, Nat.reduceEqDiff, Nat.reduceLT, reduceCtorEq, goInt, pairs, hG_P, f0, f3, f5, f6, f7, fa69_1, fa75_0, fa75_1, fa40_1, Nat.zero_add, Nat.add_zero, ld_cell ty50 rfl g2, c1, hlen, hin, decide_true, hia, ld75 hg hiF, zero75m, hst, ld_cell ty3 rfl w3, ld_cell ty3 rfl z3, q0, q1, p1, hid, hsa, decide_false, not_true_eq_false, not_false_eq_true, build31m, hst0, hld0]
    refine fin y3 (by omega) x13.did o3 (fun b hb => ⟨.inl hb, fun e => nD b (by omega) hb⟩) rfl m0_mem ?_
    unfold ackF
    rw [if_neg ha, hfi, hA]
    simp only []
    rw [if_pos hsa]
  have hpm3 : Mem H3 (F[i]).1.m (F[i]).2 := hpm.keep (x3.did (D := D)).kept
  have hK : (ids F).length ≤ 100 := by simpa using hF
  -- behind set
  have set0 : ∀ {r : Value} {J : AHeap} {code : Int}, OutR J (Grow D H3 J) ro rp last (if (0 : Int) = 0 then F.eraseIdx i else F.set i (fnew F[i] 0)) (kset (ids F) F i 0 F.length) → Did D H3 J → code = (if awaitsF t = 3 then (4 : Int) else if badF rs then 2 else 1) → ¬ (awaitsF t = 2 ∧ badF rs = false) →
      J.get H2.size = .cells (fcell F[i]) true 0 ∧ J.get (H.size + 1) = .cells (m0.v (.slice none 0 0)) true 0 ∧ (r = .tuple #[.int .i64 code, .agg ((F[i]).1.m.v (F[i]).2).toArray] → ∃ F' code m' sl', r = .tuple #[.int .i64 code, .agg (m'.v sl').toArray] ∧ OutR (J.set (H.size + 1) (.cells ((F[i]).1.m.v (F[i]).2) true 0)) (Grow D H (J.set (H.size + 1) (.cells ((F[i]).1.m.v (F[i]).2) true 0))) ro rp last F' (ids F') ∧ Did D H (J.set (H.size + 1) (.cells ((F[i]).1.m.v (F[i]).2) true 0)) ∧ Mem (J.set (H.size + 1) (.cells ((F[i]).1.m.v (F[i]).2) true 0)) m' sl' ∧ ackF (F.map (·.1)) t id rs = (code, m', F'.map (·.1))) := fun {r} {J} {code} oJ dJ hcode hno => by
    rw [if_pos rfl, kset0 hiF hn] at oJ
    have sJ := dJ.size
    have yJ : J.get (H.size + 1) = .cells (m0.v (.slice none 0 0)) true 0 := by rw [dJ.but.get _ (by omega) (nD _ (by omega))]; exact y3
    refine ⟨by rw [dJ.but.get _ (by omega) (nD _ (by omega))]; exact w3, yJ, fun hr => ?_⟩
    refine fin yJ (by omega) (x13.did.trans (dJ.mono fun b _ hb => .inl hb)) oJ (fun b hb => ?_) hr (hpm3.keep dJ.kept) ?_
    · rcases hb with hb | hb
      · exact ⟨.inl hb, fun e => nD b (by omega) hb⟩
      · exact ⟨.inr ⟨by omega, hb.2⟩, by omega⟩
    · unfold ackF
      rw [if_neg ha, hfi, hA]
      simp only []
      rw [if_neg (fun hh => hh hsa), if_neg hno, hcode, erase_map]
  by_cases h33 : awaitsF t = 3
  · simp (disch := first | assumption | simp) only [↓wbD, wbU, ↓aop, ↓reduceIte, Nat.reduceEqDiff, Nat.reduceLT, reduceCtorEq, goInt, pairs, hG_P, f0, f3, f5, f6, f7, fa69_1, fa75_0, fa75_1, fa40_1, Nat.zero_add, Nat.add_zero, ld_cell ty50 rfl g2, c1, hlen, hin, decide_true, hia, ld75 hg hiF, zero75m, hst, ld_cell ty3 rfl w3, ld_cell ty3 rfl z3, q0, q1, p1, hid, hsa, h33, decide_false, not_true_eq_false]
    refine (spec60 o3 hiF hF hK).mono ?_
    rintro r J ⟨oJ, dJ⟩
    obtain ⟨wJ, yJ, hfin⟩ := set0 oJ dJ (code := 4) (by rw [if_pos h33]) (by omega)
    have hstf := st31 yJ rfl hpm3.one
    have hldf := ld31 (AHeap.get_set_same J (H.size + 1) (.cells ((F[i]).1.m.v (F[i]).2) true 0))
    simp (disch := first | assumption | simp) only [↓wbD, wbU, ↓aop, ↓reduceIte, Nat.reduceEqDiff, Nat.reduceLT, reduceCtorEq, goInt, pairs, hG_P, f5, fa75_2, Nat.zero_add, ldbox wJ, hstf, hldf]
    exact hfin rfl
  simp (disch := first | assumption | simp) only [↓wbD, wbU, ↓aop, ↓reduceIte, Nat.reduceEqDiff, Nat.reduceLT, reduceCtorEq, goInt, pairs, hG_P, f0, f3, f5, f6, f7, fa69_1, fa75_0, fa75_1, fa40_1, fa40_2, Nat.zero_add, Nat.add_zero, ld_cell ty50 rfl g2, c1, hlen, hin, decide_true, hia, ld75 hg hiF, zero75m, hst, ld_cell ty3 rfl w3, ld_cell ty3 rfl z3, q0, q1, p1, p2, hid, hsa, h33, decide_false, not_true_eq_false]
  refine spec13.mono ?_
  rintro r H3 ⟨rfl, rfl⟩
  cases hbd : badF rs with
  | true =>
    simp (disch := first | assumption | simp) only [↓wbD, wbU, ↓aop, ↓reduceIte, Nat.reduceEqDiff, Nat.reduceLT, reduceCtorEq, goInt, pairs, hG_P, hbd, f0, f7]
    refine (spec60 o3 hiF hF hK).mono ?_
    rintro r J ⟨oJ, dJ⟩
    obtain ⟨wJ, yJ, hfin⟩ := set0 oJ dJ (code := 2) (by rw [if_neg h33, hbd]; rfl) (by rw [hbd]; simp)
    have hstf := st31 yJ rfl hpm3.one
    have hldf := ld31 (AHeap.get_set_same J (H.size + 1) (.cells ((F[i]).1.m.v (F[i]).2) true 0))
    simp (disch := first | assumption | simp) only [↓wbD, wbU, ↓aop, ↓reduceIte, Nat.reduceEqDiff, Nat.reduceLT, reduceCtorEq, goInt, pairs, hG_P, f5, fa75_2, Nat.zero_add, ldbox wJ, hstf, hldf]
    exact hfin rfl
  | false =>
    by_cases h22 : awaitsF t = 2
    · simp (disch := first | assumption | simp) only [↓wbD, wbU, ↓aop, ↓reduceIte, Nat.reduceEqDiff, Nat.reduceLT, reduceCtorEq, goInt, pairs, hG_P, hbd, f0, f6, f7, h22, decide_true]
      refine (spec60 o3 hiF hF hK).mono ?_
      rintro r J ⟨oJ, dJ⟩
      rw [if_neg (by decide), kset3 hiF] at oJ
      have sJ := dJ.size
      have yJ : J.get (H.size + 1) = .cells (m0.v (.slice none 0 0)) true 0 := by rw [dJ.but.get _ (by omega) (nD _ (by omega))]; exact y3
      have wJ : J.get H2.size = .cells (fcell F[i]) true 0 := by rw [dJ.but.get _ (by omega) (nD _ (by omega))]; exact w3
      have hstf := st31 yJ rfl hpm3.one
      have hldf := ld31 (AHeap.get_set_same J (H.size + 1) (.cells ((F[i]).1.m.v (F[i]).2) true 0))
      simp (disch := first | assumption | simp) only [↓wbD, wbU, ↓aop, ↓reduceIte, Nat.reduceEqDiff, Nat.reduceLT, reduceCtorEq, goInt, pairs, hG_P, f5, fa75_2, Nat.zero_add, ldbox wJ, hstf, hldf]
      refine fin yJ (by omega) (x13.did.trans (dJ.mono fun b _ hb => .inl hb)) oJ (fun b hb => ?_) rfl (hpm3.keep dJ.kept) ?_
      · rcases hb with hb | hb
        · exact ⟨.inl hb, fun e => nD b (by omega) hb⟩
        · exact ⟨.inr ⟨by omega, hb.2⟩, by omega⟩
      · unfold ackF
        rw [if_neg ha, hfi, hA]
        simp only []
        rw [if_neg (fun hh => hh hsa), if_pos ⟨h22, hbd⟩, List.map_set]
        rfl
    · simp (disch := first | assumption | simp) only [↓wbD, wbU, ↓aop, ↓reduceIte, Nat.reduceEqDiff, Nat.reduceLT, reduceCtorEq, goInt, pairs, hG_P, hbd, f0, f6, f7, h22, decide_false]
      refine (spec60 o3 hiF hF hK).mono ?_
      rintro r J ⟨oJ, dJ⟩
      obtain ⟨wJ, yJ, hfin⟩ := set0 oJ dJ (code := 1) (by rw [if_neg h33, hbd]; rfl) (fun hh => h22 hh.1)
      have hstf := st31 yJ rfl hpm3.one
      have hldf := ld31 (AHeap.get_set_same J (H.size + 1) (.cells ((F[i]).1.m.v (F[i]).2) true 0))
      simp (disch := first | assumption | simp) only [↓wbD, wbU, ↓aop, ↓reduceIte, Nat.reduceEqDiff, Nat.reduceLT, reduceCtorEq, goInt, pairs, hG_P, f5, fa75_2, Nat.zero_add, ldbox wJ, hstf, hldf]
      exact hfin rfl
end Go.Proofs.Ytlmcjfnignbdoaa.Abs
