/-
  A part of a law's proof.
-/
import Derived.Test.YtlmcjfnignbdoaaAOf
namespace Go.Proofs.Ytlmcjfnignbdoaa.Abs
open Go AbsYtlmcjfnignbdoaa
set_option maxRecDepth 100000
set_option maxHeartbeats 4000000
set_option linter.unusedSimpArgs false
set_option linter.unusedVariables false
theorem zero31m : azero E 31 = some (m0.v (.slice none 0 0)) := rfl
theorem build31m : abuild E 31 [] = some (.agg (m0.v (.slice none 0 0)).toArray) := by kernel_rfl
theorem spec30 {H : AHeap} {D : Nat → Prop} {bo bp bm : Nat} {last : Int} {F : FS} {t id rs : Int} (h : OutI H D bo bp bm last F) (hF : F.length ≤ 100) (hn : (ids F).Nodup) :
    CallW E 30 [ptr bo, .agg (pkV t id rs).toArray] H fun r H' => ∃ F' code m sl, r = .tuple #[.int .i64 code, .agg (m.v sl).toArray] ∧ OutI H' (Grow D H H') bo bp bm last F' ∧ Did D H H' ∧ Mem H' m sl ∧ ackF (F.map (·.1)) t id rs = (code, m, F'.map (·.1)) := by
  refine call30 (by simp) ?_
  simp only [strip, bodyOf, Try.f30, getD_body, keepN, bareOp_mk, lessOp_mk, lapp_cons, lapp_nil, List.map_cons, List.map_nil, array_toList, ↓reduceIte, Nat.reduceEqDiff, Bool.false_eq_true]
  have hv : vcells (.agg (pkV t id rs).toArray) = pkV t id rs := rfl
  have p0 : (pkV t id rs)[0]? = some (.int .i64 t) := rfl
  have p1 : (pkV t id rs)[1]? = some (.int .i64 id) := rfl
  have p2 : (pkV t id rs)[2]? = some (.int .i64 rs) := rfl
  have z1 : ((H.alloc (.cells (pkV t id rs) true 0)).alloc (.cells (m0.v (.slice none 0 0)) true 0)).get H.size = .cells (pkV t id rs) true 0 := by rw [AHeap.get_alloc_ne _ _ (by rw [AHeap.size_alloc]; omega)]; exact AHeap.get_alloc_same _ _
  have y1 : ((H.alloc (.cells (pkV t id rs) true 0)).alloc (.cells (m0.v (.slice none 0 0)) true 0)).get (H.size + 1) = .cells (m0.v (.slice none 0 0)) true 0 := AHeap.get_alloc_same _ _
  have x1 : Ext H ((H.alloc (.cells (pkV t id rs) true 0)).alloc (.cells (m0.v (.slice none 0 0)) true 0)) := (Ext.alloc _ _).trans (Ext.alloc _ _)
  have s0 : (H.alloc (.cells (pkV t id rs) true 0)).size = H.size + 1 := AHeap.size_alloc _ _
  have s1 : ((H.alloc (.cells (pkV t id rs) true 0)).alloc (.cells (m0.v (.slice none 0 0)) true 0)).size = H.size + 2 := by rw [AHeap.size_alloc, s0]
  generalize hG_P : pkV t id rs = P at *
  generalize hH1 : (H.alloc (.cells P true 0)).alloc (.cells (m0.v (.slice none 0 0)) true 0) = H1 at *
  simp (disch := first | assumption | simp) only [↓wbD, wbU, ↓aop, ↓reduceIte, Nat.reduceEqDiff, Nat.reduceLT, reduceCtorEq, goInt, pairs, hG_P, hv, s0, zero31m, hH1, fa40_1, Nat.zero_add, ld_cell ty3 rfl z1, p1]
  refine (spec57 (h.ext x1) hF).mono ?_
  rintro r H2 ⟨rfl, x2⟩
  have s2 := x2.size
  have z2 : H2.get H.size = .cells P true 0 := by rw [x2.get _ (by omega)]; exact z1
  have y2 : H2.get (H.size + 1) = .cells (m0.v (.slice none 0 0)) true 0 := by rw [x2.get _ (by omega)]; exact y1
  simp (disch := first | assumption | simp) only [↓wbD, wbU, ↓aop, ↓reduceIte, Nat.reduceEqDiff, Nat.reduceLT, reduceCtorEq, goInt, pairs, hG_P, fa40_0, Nat.zero_add, ld_cell ty3 rfl z2, p0]
  refine spec58.mono ?_
  rintro r H2 ⟨rfl, rfl⟩
  simp (disch := first | assumption | simp) only [↓wbD, wbU, ↓aop, ↓reduceIte, Nat.reduceEqDiff, Nat.reduceLT, reduceCtorEq, goInt, pairs, hG_P]
  refine drawQ_of (fl := [(5, 3)]) (by kernel_rfl) ⟨?_, _, _, rfl, ?_⟩
  · simp only [List.all_cons, List.all_nil, floatOk, List.getElem?_cons_succ, List.getElem?_cons_zero, List.getElem?_toArray, Region.wanted, Bool.not_true, Bool.false_or, reads, looksWeak, aev_tmp, aev_const, upd_at, ↓reduceIte, Nat.reduceEqDiff, Nat.reduceLT, Nat.reduceAdd, ofL_zero, ofL_succ, blkOf, oeq_refl, oeq_of, Bool.and_true, Bool.and_self, Bool.false_eq_true, z1, z2, Bool.or_true]
  have x12 : Ext H H2 := x1.trans x2
  have o2 : OutI H2 D bo bp bm last F := h.keep (S := fun _ => False) x12.did fun _ _ hf => hf
  have hbo := h.lt _ h.own.1
  -- an answer without a change
  have fin : ∀ {code : Int} {r : Value} {K : AHeap}, K = H2.set (H.size + 1) (.cells (m0.v (.slice none 0 0)) true 0) → r = .tuple #[.int .i64 code, .agg (m0.v (.slice none 0 0)).toArray] → ackF (F.map (·.1)) t id rs = (code, m0, F.map (·.1)) → ∃ F' code m sl, r = .tuple #[.int .i64 code, .agg (m.v sl).toArray] ∧ OutI K (Grow D H K) bo bp bm last F' ∧ Did D H K ∧ Mem K m sl ∧ ackF (F.map (·.1)) t id rs = (code, m, F'.map (·.1)) := fun hK hr ha => by
    subst hK; subst hr
    have d : Did (fun b => b = H.size + 1) H2 (H2.set (H.size + 1) (.cells (m0.v (.slice none 0 0)) true 0)) := did_set rfl (fun cs wr e => by rw [y2] at e; cases e)
    refine ⟨F, _, m0, _, rfl, (o2.keep d fun b hb he => by have := h.lt b hb; omega).grow (fun b hb => .inl hb) ?_, x12.did.trans (d.mono fun b _ hb => .inr ⟨by omega, by omega⟩), m0_mem, ha⟩
    rintro b (hb | hb)
    · rw [AHeap.size_set]; have := h.lt b hb; omega
    · exact hb.2
  have hst0 := st31 (sl := .slice none 0 0) (m := m0) y2 rfl rfl
  have hld0 := ld31 (AHeap.get_set_same H2 (H.size + 1) (.cells (m0.v (.slice none 0 0)) true 0))
  by_cases ha : awaitsF t = 0
  · simp (disch := first | assumption | simp) only [↓wbD, wbU, ↓aop, ↓reduceIte, Nat.reduceEqDiff, Nat.reduceLT, reduceCtorEq, goInt, pairs, hG_P, ha, decide_true, build31m, hst0, hld0]
    exact fin rfl rfl (by unfold ackF; rw [if_pos ha])
  by_cases hk : fidx (F.map (·.1)) id < F.length
  rotate_left
  · have hi : idxF (F.map (·.1)) id = -1 := by unfold idxF; rw [if_neg (by simpa using hk)]
    have hlt : (-1 : Int) < 0 := by decide
    simp (disch := first | assumption | simp) only [↓wbD, wbU, ↓aop, ↓reduceIte, Nat.reduceEqDiff, Nat.reduceLT, reduceCtorEq, goInt, pairs, hG_P, ha, decide_false, hi, hlt, decide_true, build31m, hst0, hld0]
    refine fin rfl rfl ?_
    unfold ackF
    rw [if_neg ha, List.getElem?_eq_none (by simpa using hk)]
  have hi : idxF (F.map (·.1)) id = (fidx (F.map (·.1)) id : Int) := by unfold idxF; rw [if_pos (by simpa using hk)]
  have hA : (F.map (·.1))[fidx (F.map (·.1)) id]? = some (F[fidx (F.map (·.1)) id]).1 := by rw [List.getElem?_map, List.getElem?_eq_getElem hk]; rfl
  generalize hkk : fidx (F.map (·.1)) id = k at *
  have hlt : ¬ (k : Int) < 0 := by omega
  obtain ⟨v, g2, ow2, dv⟩ := o2.go
  obtain ⟨b, c, ex, sp, hve, hg, hb⟩ := own_at ow2 hk
  have c1 : ∀ v : Value, ([ptr bp, v] : List Value)[1]? = some v := fun _ => rfl
  have hs1 : (fcells F ++ sp)[k * 11 + 1]? = some (.int .i64 (F[k]).1.st) := by
    have := fcells_get (sp := sp) hk (show 1 < 11 by omega)
    simpa [fcell] using this
  have hia := ia_slice (E := E) ty50 ty75 (B := b) (o := 0) (c := c) (ex := ex) (k := .i64) hk
  rw [← hve] at hia
  by_cases hsa : (F[k]).1.st = awaitsF t
  rotate_left
  · simp (disch := first | assumption | simp) only [↓wbD, wbU, ↓aop, ↓reduceIte, Nat.reduceEqDiff, Nat.reduceLT, reduceCtorEq, goInt, pairs, hG_P, ha, decide_false, hi, hlt, fa52_1, Nat.zero_add, ld_cell ty50 rfl g2, c1, hia, fa75_1, ld_cell ty3 rfl hg, hs1, hsa, not_false_eq_true, decide_true, build31m, hst0, hld0]
    refine fin rfl rfl ?_
    unfold ackF
    rw [if_neg ha, hkk, hA]
    simp only []
    rw [if_pos hsa]
  -- the message
  have hmk : Mem H2 (F[k]).1.m (F[k]).2 := o2.mem (F[k]) (List.getElem_mem hk)
  have ldm := ld75m hg hk
  have w1 : (H2.alloc (.cells (m0.v (.slice none 0 0)) true 0)).get H2.size = .cells (m0.v (.slice none 0 0)) true 0 := AHeap.get_alloc_same _ _
  have hstm := st31 w1 rfl hmk.one
  have x3 : Ext H2 ((H2.alloc (.cells (m0.v (.slice none 0 0)) true 0)).set H2.size (.cells ((F[k]).1.m.v (F[k]).2) true 0)) := ⟨by rw [AHeap.size_set, AHeap.size_alloc]; omega, fun b hb => by rw [AHeap.get_set_ne _ _ (by omega), AHeap.get_alloc_ne _ _ (by omega)]⟩
  have s3 : ((H2.alloc (.cells (m0.v (.slice none 0 0)) true 0)).set H2.size (.cells ((F[k]).1.m.v (F[k]).2) true 0)).size = H2.size + 1 := by rw [AHeap.size_set, AHeap.size_alloc]
  have w3 : ((H2.alloc (.cells (m0.v (.slice none 0 0)) true 0)).set H2.size (.cells ((F[k]).1.m.v (F[k]).2) true 0)).get H2.size = .cells ((F[k]).1.m.v (F[k]).2) true 0 := AHeap.get_set_same _ _ _
  simp (disch := first | assumption | simp) only [↓wbD, wbU, ↓aop, ↓reduceIte, Nat.reduceEqDiff, Nat.reduceLT, reduceCtorEq, goInt, pairs, hG_P, ha, decide_false, hi, hlt, fa52_1, Nat.zero_add, ld_cell ty50 rfl g2, c1, hia, fa75_1, fa75_2, ld_cell ty3 rfl hg, hs1, hsa, not_true_eq_false, ldm, zero31m, hstm, fa40_2]
  generalize (H2.alloc (.cells (m0.v (.slice none 0 0)) true 0)).set H2.size (.cells ((F[k]).1.m.v (F[k]).2) true 0) = H3 at x3 s3 w3 ⊢
  have z3 : H3.get H.size = .cells P true 0 := by rw [x3.get _ (by omega)]; exact z2
  have y3 : H3.get (H.size + 1) = .cells (m0.v (.slice none 0 0)) true 0 := by rw [x3.get _ (by omega)]; exact y2
  have x13 : Ext H H3 := x12.trans x3
  have o3 : OutI H3 D bo bp bm last F := h.keep (S := fun _ => False) x13.did fun _ _ hf => hf
  have g3 : H3.get bo = .cells [ptr bp, v] true 0 := by rw [x3.get _ (by omega)]; exact g2
  have hg3 : H3.get b = .cells (fcells F ++ sp) true 11 := by rw [x3.get _ hb]; exact hg
  have hmk3 : Mem H3 (F[k]).1.m (F[k]).2 := hmk.keep (x3.did (D := D)).kept
  simp (disch := first | assumption | simp) only [↓wbD, wbU, ↓aop, ↓reduceIte, Nat.reduceEqDiff, Nat.reduceLT, reduceCtorEq, goInt, pairs, hG_P, fa40_2, Nat.zero_add, ld_cell ty3 rfl z3, p2]
  refine spec12.mono ?_
  rintro r H3 ⟨rfl, rfl⟩
  -- an answer with the message, in a heap where the flights are told
  have fin2 : ∀ {F' : FS} {code : Int} {r : Value} {J K : AHeap}, K = J.set (H.size + 1) (.cells ((F[k]).1.m.v (F[k]).2) true 0) → Did D H3 J → OutI J (Grow D H3 J) bo bp bm last F' → r = .tuple #[.int .i64 code, .agg ((F[k]).1.m.v (F[k]).2).toArray] → ackF (F.map (·.1)) t id rs = (code, (F[k]).1.m, F'.map (·.1)) → ∃ F' code m sl, r = .tuple #[.int .i64 code, .agg (m.v sl).toArray] ∧ OutI K (Grow D H K) bo bp bm last F' ∧ Did D H K ∧ Mem K m sl ∧ ackF (F.map (·.1)) t id rs = (code, m, F'.map (·.1)) := fun hK hd ho hr ha => by
    subst hK; subst hr
    have hyJ : _ = _ := (hd.but.get (H.size + 1) (by omega) (fun hD => by have := h.lt _ hD; omega)).trans y3
    have d : Did (fun b => b = H.size + 1) _ (AHeap.set _ (H.size + 1) (.cells ((F[k]).1.m.v (F[k]).2) true 0)) := did_set rfl (fun cs wr e => by rw [hyJ] at e; cases e)
    have hsz := hd.size
    refine ⟨_, _, (F[k]).1.m, _, rfl, (ho.keep d fun b hb he => ?_).grow (fun b hb => ?_) ?_, (x13.did.trans (hd.mono fun b _ hb => .inl hb)).trans (d.mono fun b _ hb => .inr ⟨by omega, by omega⟩), (hmk3.keep hd.kept).keep d.kept, ha⟩
    · rcases hb with hb | hb
      · have := h.lt b hb; omega
      · omega
    · rcases hb with hb | hb
      · exact .inl hb
      · exact .inr ⟨by omega, by rw [AHeap.size_set]; exact hb.2⟩
    · rintro b (hb | hb)
      · rw [AHeap.size_set]; have := h.lt b hb; omega
      · exact hb.2
  have hia3 := ia_slice (E := E) ty50 ty75 (B := b) (o := 0) (c := c) (ex := ex) (k := .i64) hk
  rw [← hve] at hia3
  by_cases h2 : awaitsF t = 2 ∧ badF rs = false
  · obtain ⟨o4, d4⟩ := o3.set_st hk g3 hve hg3 3
    have hf11 : k * 11 + 11 ≤ (fcells F).length := chunk_fit fcell_len hk (Nat.le_refl 11)
    have hset := st_cell (E := E) (t := 3) (o := k * 11 + 1) (v := .int .i64 3) ty3 rfl hg3 (by rw [List.length_append]; omega) rfl rfl
    rw [fs_set hk] at hset
    have hbH : b ≠ H2.size := by omega
    have w4 : (H3.set b (.cells (fcells (F.set k (((F[k]).1.put 3), (F[k]).2)) ++ sp) true 11)).get H2.size = .cells ((F[k]).1.m.v (F[k]).2) true 0 := by rw [AHeap.get_set_ne _ _ hbH]; exact w3
    have y4 : (H3.set b (.cells (fcells (F.set k (((F[k]).1.put 3), (F[k]).2)) ++ sp) true 11)).get (H.size + 1) = .cells (m0.v (.slice none 0 0)) true 0 := by rw [AHeap.get_set_ne _ _ (by have := h.lt b (dv b (by simp [hve, blkOf])); omega)]; exact y3
    have hstf := st31 y4 rfl hmk3.one
    have hldf := ld31 (AHeap.get_set_same (H3.set b (.cells (fcells (F.set k (((F[k]).1.put 3), (F[k]).2)) ++ sp) true 11)) (H.size + 1) (.cells ((F[k]).1.m.v (F[k]).2) true 0))
    simp (disch := first | assumption | simp) only [↓wbD, wbU, ↓aop, ↓reduceIte, Nat.reduceEqDiff, Nat.reduceLT, reduceCtorEq, goInt, pairs, hG_P, h2.1, h2.2, decide_true, not_bool, Bool.not_false, fa52_1, Nat.zero_add, ld_cell ty50 rfl g3, c1, hia3, fa75_1, hset, ld31 w4, hstf, hldf]
    refine fin2 rfl d4 (o4.grow (fun b hb => .inl hb) ?_) rfl ?_
    · rintro x (hx | hx)
      · rw [AHeap.size_set]; exact o3.lt x hx
      · exact hx.2
    · unfold ackF
      rw [if_neg ha, hkk, hA]
      simp only []
      rw [if_neg (fun hh => hh hsa), if_pos h2, List.map_set]
  by_cases h3 : awaitsF t = 2
  · have hbad : badF rs = true := by
      cases hb : badF rs with
      | true => rfl
      | false => exact (h2 ⟨h3, hb⟩).elim
    have hx : decide (awaitsF t = 2) = true := decide_eq_true h3
    simp (disch := first | assumption | simp) only [↓wbD, wbU, ↓aop, ↓reduceIte, Nat.reduceEqDiff, Nat.reduceLT, reduceCtorEq, goInt, pairs, hG_P, hx, hbad, not_bool, Bool.not_true]
    refine (spec59 o3 hk hF hn).mono ?_
    rintro r H4 ⟨o4, d4⟩
    have s4 := d4.size
    have w4 : H4.get H2.size = .cells ((F[k]).1.m.v (F[k]).2) true 0 := by rw [d4.but.get _ (by omega) (fun hD => by have := h.lt _ hD; omega)]; exact w3
    have y4 : H4.get (H.size + 1) = .cells (m0.v (.slice none 0 0)) true 0 := by rw [d4.but.get _ (by omega) (fun hD => by have := h.lt _ hD; omega)]; exact y3
    have hstf := st31 y4 rfl hmk3.one
    have hldf := ld31 (AHeap.get_set_same H4 (H.size + 1) (.cells ((F[k]).1.m.v (F[k]).2) true 0))
    have done : ∀ code, code = (if awaitsF t = 3 then (4 : Int) else if badF rs then 2 else 1) → ackF (F.map (·.1)) t id rs = (code, (F[k]).1.m, (F.eraseIdx k).map (·.1)) := fun code hc => by
      unfold ackF
      rw [if_neg ha, hkk, hA]
      simp only []
      rw [if_neg (fun hh => hh hsa), if_neg h2, hc, erase_map]
    have h33 : ¬ awaitsF t = 3 := by have := of_decide_eq_true hx; omega
    simp (disch := first | assumption | simp) only [↓wbD, wbU, ↓aop, ↓reduceIte, Nat.reduceEqDiff, Nat.reduceLT, reduceCtorEq, goInt, pairs, hG_P, h33, hbad, decide_false, ld31 w4, hstf, hldf]
    exact fin2 rfl d4 o4 rfl (done 2 (by rw [if_neg h33, hbad]; rfl))
  · have hx : decide (awaitsF t = 2) = false := decide_eq_false h3
    simp (disch := first | assumption | simp) only [↓wbD, wbU, ↓aop, ↓reduceIte, Nat.reduceEqDiff, Nat.reduceLT, reduceCtorEq, goInt, pairs, hG_P, hx]
    refine (spec59 o3 hk hF hn).mono ?_
    rintro r H4 ⟨o4, d4⟩
    have s4 := d4.size
    have w4 : H4.get H2.size = .cells ((F[k]).1.m.v (F[k]).2) true 0 := by rw [d4.but.get _ (by omega) (fun hD => by have := h.lt _ hD; omega)]; exact w3
    have y4 : H4.get (H.size + 1) = .cells (m0.v (.slice none 0 0)) true 0 := by rw [d4.but.get _ (by omega) (fun hD => by have := h.lt _ hD; omega)]; exact y3
    have hstf := st31 y4 rfl hmk3.one
    have hldf := ld31 (AHeap.get_set_same H4 (H.size + 1) (.cells ((F[k]).1.m.v (F[k]).2) true 0))
    have done : ∀ code, code = (if awaitsF t = 3 then (4 : Int) else if badF rs then 2 else 1) → ackF (F.map (·.1)) t id rs = (code, (F[k]).1.m, (F.eraseIdx k).map (·.1)) := fun code hc => by
      unfold ackF
      rw [if_neg ha, hkk, hA]
      simp only []
      rw [if_neg (fun hh => hh hsa), if_neg h2, hc, erase_map]
    by_cases h33 : awaitsF t = 3
    · simp (disch := first | assumption | simp) only [↓wbD, wbU, ↓aop, ↓reduceIte, Nat.reduceEqDiff, Nat.reduceLT, reduceCtorEq, goInt, pairs, hG_P, h33, decide_true, ld31 w4, hstf, hldf]
      exact fin2 rfl d4 o4 rfl (done 4 (by rw [if_pos h33]))
    · cases hbd : badF rs with
      | true =>
        simp (disch := first | assumption | simp) only [↓wbD, wbU, ↓aop, ↓reduceIte, Nat.reduceEqDiff, Nat.reduceLT, reduceCtorEq, goInt, pairs, hG_P, h33, hbd, decide_false, ld31 w4, hstf, hldf]
        exact fin2 rfl d4 o4 rfl (done 2 (by rw [if_neg h33, hbd]; rfl))
      | false =>
        simp (disch := first | assumption | simp) only [↓wbD, wbU, ↓aop, ↓reduceIte, Nat.reduceEqDiff, Nat.reduceLT, reduceCtorEq, goInt, pairs, hG_P, h33, hbd, decide_false, ld31 w4, hstf, hldf]
        exact fin2 rfl d4 o4 rfl (done 1 (by rw [if_neg h33, hbd]; rfl))
end Go.Proofs.Ytlmcjfnignbdoaa.Abs
