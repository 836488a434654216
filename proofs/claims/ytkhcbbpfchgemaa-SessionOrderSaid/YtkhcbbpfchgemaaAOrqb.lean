/-
  A part of a law's proof.
-/
import Derived.Test.YtkhcbbpfchgemaaASesqbJ
namespace Go.Proofs.Ytkhcbbpfchgemaa.AbsA
open Go AbsYtkhcbbpfchgemaa Abs
open AbsS (msgC PS)
set_option maxRecDepth 100000
set_option maxHeartbeats 4000000
set_option linter.unusedSimpArgs false
set_option linter.unusedVariables false
attribute [local irreducible] afterS afterOpS opSK OpsS TrS CodeS condS condW thenS thenQ guardS guardTS outS drawS trSK consS
def Ms.u0 (m : Ms) : Ms := { m with u := 0 }
/-- a message that was pushed -/
structure Psh (x y : Ms) : Prop where
  t : x.t = y.t
  p : x.p = y.p
  q : x.q = y.q
  u : x.u = 0
  l : x.l.length ≤ 100000
theorem nodup_at {α : Type} {f : α → Int} {l : List α} (h : (l.map f).Nodup) {i j : Nat} (hi : i < l.length) (hj : j < l.length) (he : f l[i] = f l[j]) : i = j := by
  have hp := List.pairwise_iff_getElem.1 h
  have key : ∀ a b (ha : a < l.length) (hb : b < l.length), a < b → f l[a] ≠ f l[b] := fun a b ha hb hab => by
    have := hp a b (by rw [List.length_map]; exact ha) (by rw [List.length_map]; exact hb) hab
    rwa [List.getElem_map, List.getElem_map] at this
  rcases Nat.lt_trichotomy i j with h1 | h1 | h1
  · exact absurd he (key i j hi hj h1)
  · exact h1
  · exact absurd he.symm (key j i hj hi h1)
theorem ackR_out {k id r : Int} {G G' : List Fl} (h : AckR k id r G G') (hn : ∀ x ∈ G, x.id ≠ id) : G' = G := by
  cases h with
  | none _ => rfl
  | zero _ => rfl
  | wrong i hi h1 _ => rfl
  | rel i hi h1 => exact absurd h1 (hn _ (List.getElem_mem hi))
  | fin i hi h1 => exact absurd h1 (hn _ (List.getElem_mem hi))
theorem ackR_head {k r : Int} {x : Fl} {G G' : List Fl} (h : AckR k x.id r (x :: G) G') (hn : ((x :: G).map Fl.id).Nodup) (hk : awaits k ≠ 0) : (x.st ≠ awaits k ∧ G' = x :: G) ∨ (x.st = 2 ∧ awaits k = 2 ∧ badR r = false ∧ G' = x.rel :: G) ∨ (x.st = awaits k ∧ ¬ (awaits k = 2 ∧ badR r = false) ∧ G' = G) := by
  have h0 : ∀ i (hi : i < (x :: G).length), (x :: G)[i].id = x.id → i = 0 := fun i hi he => nodup_at hn hi (j := 0) (by simp) he
  cases h with
  | none h => exact absurd rfl (h x (by simp))
  | zero h => exact absurd h hk
  | wrong i hi h1 h2 => obtain rfl := h0 i hi h1; exact .inl ⟨h2, rfl⟩
  | rel i hi h1 h2 h3 h4 => obtain rfl := h0 i hi h1; exact .inr (.inl ⟨h2, h3, h4, rfl⟩)
  | fin i hi h1 h2 h3 => obtain rfl := h0 i hi h1; exact .inr (.inr ⟨h2, h3, rfl⟩)
/-- three acknowledgements end the first one -/
theorem ack3 {x : Fl} {G F1 F2 F3 : List Fl} (hn : ((x :: G).map Fl.id).Nodup) (hs : x.st = 1 ∨ x.st = 2) (h1 : AckR 4 x.id 0 (x :: G) F1) (h2 : AckR 5 x.id 0 F1 F2) (h3 : AckR 7 x.id 0 F2 F3) : F3 = G := by
  have hG : ∀ y ∈ G, y.id ≠ x.id := fun y hy he => by
    have := (List.nodup_cons.1 hn).1
    exact this (by rw [← he]; exact List.mem_map_of_mem hy)
  have a4 : awaits 4 = 1 := rfl
  have a5 : awaits 5 = 2 := rfl
  have a7 : awaits 7 = 3 := rfl
  rcases ackR_head h1 hn (by rw [a4]; decide) with ⟨e, rfl⟩ | ⟨_, e, _⟩ | ⟨_, _, rfl⟩
  · have hs2 : x.st = 2 := by rw [a4] at e; omega
    rcases ackR_head h2 hn (by rw [a5]; decide) with ⟨e2, rfl⟩ | ⟨_, _, _, rfl⟩ | ⟨_, e2, _⟩
    · rw [a5] at e2; exact absurd hs2 e2
    · have hid : x.rel.id = x.id := rfl
      have hn' : ((x.rel :: G).map Fl.id).Nodup := hn
      have h3' : AckR 7 x.rel.id 0 (x.rel :: G) F3 := h3
      rcases ackR_head h3' hn' (by rw [a7]; decide) with ⟨e3, rfl⟩ | ⟨_, e3, _⟩ | ⟨_, _, rfl⟩
      · rw [a7] at e3; exact absurd rfl e3
      · rw [a7] at e3; cases e3
      · rfl
    · exact absurd ⟨a5, rfl⟩ e2
  · rw [a4] at e; cases e
  · obtain rfl := ackR_out h2 hG
    exact ackR_out h3 hG
theorem AckR.len {k id r : Int} {F F' : List Fl} (h : AckR k id r F F') : F'.length ≤ F.length := by
  cases h with
  | none _ => exact Nat.le_refl _
  | zero _ => exact Nat.le_refl _
  | wrong i hi _ _ => exact Nat.le_refl _
  | rel i hi => rw [List.length_set]; exact Nat.le_refl _
  | fin i hi => rw [List.length_eraseIdx]; split <;> omega
def pk0 (k id : Int) : Pk := ⟨k, id, 0, [], false, 0, ⟨#[]⟩, ⟨false, ⟨#[]⟩, ⟨#[]⟩, 0, false, []⟩, false, ⟨#[]⟩, false, ⟨#[]⟩, false, ⟨#[]⟩, ⟨#[]⟩, 0, false, false, [], [], []⟩
theorem IsS.nd {σ : AHeap} {b : Nat} {on : Bool} {t : Tm} {W : List Ms} {F : List Fl} {most : Int} {fp : List Nat} (hS : IsS σ b on t W F most fp) : (F.map Fl.id).Nodup := by
  obtain ⟨pin, cl, w, vw, en, sm, bo, bq, fpO, fpQ, gb, hpin, hvw, hO, hQ, hdj, hbO, hbQ, rfl⟩ := hS
  exact hO.nd
theorem boNeq {cs b : Bool} {σ : AHeap} : abin E σ .neq 4 cs (.bool b) (.bool b) = some (.bool false) := by cases cs <;> cases b <;> rfl
theorem qosOf_pos {q : Int} (h : 0 < q) : (0 < qosOf q) ∧ (qosOf q = 1 ∨ qosOf q = 2) := by
  unfold qosOf
  rw [if_neg (by omega)]
  split
  · exact ⟨by decide, .inr rfl⟩
  · exact ⟨h, by omega⟩
def and7T : Bool := (List.range 256).all fun n => match aint .and .u8 (n : Int) 7 with
  | some (.int .u8 m) => decide (0 ≤ m) && decide (m ≤ 7)
  | _ => false
theorem and7 {a : Int} (h0 : 0 ≤ a) (h1 : a < 256) : ∃ m, aint .and .u8 a 7 = some (.int .u8 m) ∧ 0 ≤ m ∧ m ≤ 7 := by
  have ht : and7T = true := by decide +kernel
  simp only [and7T, List.all_eq_true, List.mem_range] at ht
  have := ht a.toNat (by omega)
  rw [show ((a.toNat : Nat) : Int) = a by omega] at this
  split at this
  · rename_i m hm
    simp only [Bool.and_eq_true, decide_eq_true_eq] at this
    exact ⟨m, hm, this.1, this.2⟩
  · cases this
section
variable {σ : AHeap} {Q : Value → AHeap → Prop}
theorem law14' {v : Value} {L : List Ms} {rc : Int} (hv : DL msC 9 v L) (hr0 : 0 ≤ rc) (hr1 : rc < 256) : CallS E B 3 [v, .int .u8 rc] σ fun r _ => r = .bool true := by
  have hlen := DLm.len hv
  obtain ⟨rm, hrm, hm0, hm7⟩ := and7 hr0 hr1
  have hcv : ∀ τ : AHeap, aconvert E τ 5 3 (.int .u8 rm) = some (.int .i64 rm, τ) := fun τ => by
    simp only [aconvert, ty5, ty3]
    rw [wrap64 ⟨by omega, by omega⟩]
  have hadd : aint .add .i64 1 rm = some (.int .i64 (1 + rm)) := by
    show some (Value.int .i64 (IntKind.i64.wrap (1 + rm))) = _
    rw [wrap64 ⟨by omega, by omega⟩]
  refine call3 (by simp) ?_
  simp only [strip, bodyOf, Try.f3, getD_body, keepN, bareOp_mk, lessOp_mk, lapp_cons, lapp_nil, List.map_cons, List.map_nil, array_toList, ↓reduceIte, Nat.reduceEqDiff, Bool.false_eq_true]
  by_cases hbig : (24 : Int) < (L.length : Int)
  · simp (disch := first | assumption | simp) only [↓sbD, sbU, tyB, Nat.reduceMul, Nat.reduceSub, Int.reduceEq, Int.reduceLT, Int.reduceLE, Int.reduceNe, Nat.reduceBneDiff, Nat.reduceBEq, decide_false, gt_iff_lt, Bool.or_self, Bool.false_eq_true, Nat.mul_one, Nat.one_mul, Nat.zero_mul, ↓reduceIte, Nat.reduceEqDiff, Nat.reduceLT, Nat.reduceAdd, Nat.reduceLeDiff, reduceCtorEq, goInt, pairs, isConst, TI.isAgg, splice, boxS, Edp, dpv, Nat.beq_eq, ZV.val, List.any_cons, List.any_nil, Bool.false_and, hlen, hbig]
    refine specS5 ?_
    simp (disch := first | assumption | simp) only [↓sbD, sbU, tyB, Nat.reduceMul, Nat.reduceSub, Int.reduceEq, Int.reduceLT, Int.reduceLE, Int.reduceNe, Nat.reduceBneDiff, Nat.reduceBEq, decide_false, gt_iff_lt, Bool.or_self, Bool.false_eq_true, Nat.mul_one, Nat.one_mul, Nat.zero_mul, ↓reduceIte, Nat.reduceEqDiff, Nat.reduceLT, Nat.reduceAdd, Nat.reduceLeDiff, reduceCtorEq, goInt, pairs, isConst, TI.isAgg, splice, boxS, Edp, dpv, Nat.beq_eq, ZV.val, List.any_cons, List.any_nil, Bool.false_and]
    exact downS_here rfl
  have hL : L.length ≤ 24 := by omega
  simp (disch := first | assumption | simp) only [↓sbD, sbU, tyB, Nat.reduceMul, Nat.reduceSub, Int.reduceEq, Int.reduceLT, Int.reduceLE, Int.reduceNe, Nat.reduceBneDiff, Nat.reduceBEq, decide_false, gt_iff_lt, Bool.or_self, Bool.false_eq_true, Nat.mul_one, Nat.one_mul, Nat.zero_mul, ↓reduceIte, Nat.reduceEqDiff, Nat.reduceLT, Nat.reduceAdd, Nat.reduceLeDiff, reduceCtorEq, goInt, pairs, isConst, TI.isAgg, splice, boxS, Edp, dpv, Nat.beq_eq, ZV.val, List.any_cons, List.any_nil, Bool.false_and, hlen, hbig]
  refine specUsual fun σ1 x0 x1 x2 x3 x4 x5 x6 x7 x8 x9 x10 x11 x12 k1 => ?_
  simp (disch := first | assumption | simp) only [↓sbD, sbU, tyB, Nat.reduceMul, Nat.reduceSub, Int.reduceEq, Int.reduceLT, Int.reduceLE, Int.reduceNe, Nat.reduceBneDiff, Nat.reduceBEq, decide_false, gt_iff_lt, Bool.or_self, Bool.false_eq_true, Nat.mul_one, Nat.one_mul, Nat.zero_mul, ↓reduceIte, Nat.reduceEqDiff, Nat.reduceLT, Nat.reduceAdd, Nat.reduceLeDiff, reduceCtorEq, goInt, pairs, isConst, TI.isAgg, splice, boxS, Edp, dpv, Nat.beq_eq, ZV.val, List.any_cons, List.any_nil, Bool.false_and, AS_new, zeCf]
  intro c hc
  try simp (disch := first | assumption | simp) only [↓sbD, sbU, tyB, Nat.reduceMul, Nat.reduceSub, Int.reduceEq, Int.reduceLT, Int.reduceLE, Int.reduceNe, Nat.reduceBneDiff, Nat.reduceBEq, decide_false, gt_iff_lt, Bool.or_self, Bool.false_eq_true, Nat.mul_one, Nat.one_mul, Nat.zero_mul, ↓reduceIte, Nat.reduceEqDiff, Nat.reduceLT, Nat.reduceAdd, Nat.reduceLeDiff, reduceCtorEq, goInt, pairs, isConst, TI.isAgg, splice, boxS, Edp, dpv, Nat.beq_eq, ZV.val, List.any_cons, List.any_nil, Bool.false_and, AHeap.get_set_same, List.length_cons, List.length_nil, List.cons_append, List.nil_append, List.drop_succ_cons, List.drop_zero, List.set_cons_zero, List.set_cons_succ, decide_true]
  generalize hσ2 : AHeap.set _ c _ = σ2
  clear hσ2
  refine specSNew fun b σ3 fp hS k3 => ?_
  simp (disch := first | assumption | simp) only [↓sbD, sbU, tyB, Nat.reduceMul, Nat.reduceSub, Int.reduceEq, Int.reduceLT, Int.reduceLE, Int.reduceNe, Nat.reduceBneDiff, Nat.reduceBEq, decide_false, gt_iff_lt, Bool.or_self, Bool.false_eq_true, Nat.mul_one, Nat.one_mul, Nat.zero_mul, ↓reduceIte, Nat.reduceEqDiff, Nat.reduceLT, Nat.reduceAdd, Nat.reduceLeDiff, reduceCtorEq, goInt, pairs, isConst, TI.isAgg, splice, boxS, Edp, dpv, Nat.beq_eq, ZV.val, List.any_cons, List.any_nil, Bool.false_and, hrm, hcv, hadd, convS]
  refine specBegin (t2 := ⟨0, 1 + rm, 0, 0, 0, false⟩) (w2 := ⟨false, ⟨#[]⟩, ⟨#[]⟩, 0, false, []⟩) (vw2 := .slice none 0 0) hS (.inl ⟨rfl, rfl⟩) (by simp) fun σ4 hS4 k4 => ?_
  generalize htm : (⟨0, 1 + rm, 0, 0, 0, false⟩ : Tm) = tm at hS4
  have htr : 1 ≤ tm.r ∧ tm.r ≤ 8 := by rw [← htm]; show 1 ≤ 1 + rm ∧ 1 + rm ≤ 8; omega
  simp (disch := first | assumption | simp) only [↓sbD, sbU, tyB, Nat.reduceMul, Nat.reduceSub, Int.reduceEq, Int.reduceLT, Int.reduceLE, Int.reduceNe, Nat.reduceBneDiff, Nat.reduceBEq, decide_false, gt_iff_lt, Bool.or_self, Bool.false_eq_true, Nat.mul_one, Nat.one_mul, Nat.zero_mul, ↓reduceIte, Nat.reduceEqDiff, Nat.reduceLT, Nat.reduceAdd, Nat.reduceLeDiff, reduceCtorEq, goInt, pairs, isConst, TI.isAgg, splice, boxS, Edp, dpv, Nat.beq_eq, ZV.val, List.any_cons, List.any_nil, Bool.false_and]
  refine S_loop (fun m f σ' => ∃ (i : Nat) (Wi : List Ms) (fp : List Nat), m + i = L.length ∧ f 7 = .int .i64 i ∧ Wi.length = i ∧ (∀ j (h1 : j < Wi.length) (h2 : j < L.length), Psh Wi[j] L[j]) ∧ IsS σ' b true tm Wi [] 24 fp) L.length (Le.refl _) ⟨0, [], fp, rfl, by simp (disch := first | assumption | simp) only [↓sbD, sbU, tyB, Nat.reduceMul, Nat.reduceSub, Int.reduceEq, Int.reduceLT, Int.reduceLE, Int.reduceNe, Nat.reduceBneDiff, Nat.reduceBEq, decide_false, gt_iff_lt, Bool.or_self, Bool.false_eq_true, Nat.mul_one, Nat.one_mul, Nat.zero_mul, ↓reduceIte, Nat.reduceEqDiff, Nat.reduceLT, Nat.reduceAdd, Nat.reduceLeDiff, reduceCtorEq, goInt, pairs, isConst, TI.isAgg, splice, boxS, Edp, dpv, Nat.beq_eq, ZV.val, List.any_cons, List.any_nil, Bool.false_and]; rfl, rfl, fun j h => by simp at h, hS4⟩ ?_
  rintro mm f σ5 ⟨i, Wi, fp5, hm, f7, hWl, hW, hS5⟩ hf
  have f0 := hf 0 (by decide) (notMem_wr (by kernel_rfl))
  have f6 := hf 6 (by decide) (notMem_wr (by kernel_rfl))
  simp (disch := first | assumption | simp) only [↓sbD, sbU, tyB, Nat.reduceMul, Nat.reduceSub, Int.reduceEq, Int.reduceLT, Int.reduceLE, Int.reduceNe, Nat.reduceBneDiff, Nat.reduceBEq, decide_false, gt_iff_lt, Bool.or_self, Bool.false_eq_true, Nat.mul_one, Nat.one_mul, Nat.zero_mul, ↓reduceIte, Nat.reduceEqDiff, Nat.reduceLT, Nat.reduceAdd, Nat.reduceLeDiff, reduceCtorEq, goInt, pairs, isConst, TI.isAgg, splice, boxS, Edp, dpv, Nat.beq_eq, ZV.val, List.any_cons, List.any_nil, Bool.false_and] at f0 f6
  clear hf
  by_cases hi : (i : Int) < (L.length : Int)
  · have hi' : i < L.length := by omega
    have hia := DLm.at hv hi'
    have hw := wrap_suc (n := i) (by omega)
    generalize hm' : L[i] = m at hia
    have hvc := m.vc
    simp only [msCe, List.cons_append, List.nil_append] at hia
    simp (disch := first | assumption | simp) only [↓sbD, sbU, tyB, Nat.reduceMul, Nat.reduceSub, Int.reduceEq, Int.reduceLT, Int.reduceLE, Int.reduceNe, Nat.reduceBneDiff, Nat.reduceBEq, decide_false, gt_iff_lt, Bool.or_self, Bool.false_eq_true, Nat.mul_one, Nat.one_mul, Nat.zero_mul, ↓reduceIte, Nat.reduceEqDiff, Nat.reduceLT, Nat.reduceAdd, Nat.reduceLeDiff, reduceCtorEq, goInt, pairs, isConst, TI.isAgg, splice, boxS, Edp, dpv, Nat.beq_eq, ZV.val, List.any_cons, List.any_nil, Bool.false_and, f0, f6, f7, hlen, hi, hia]
    refine specSmall (t := m.t) (p := m.p) (f := m.f) (g := m.g) (q := m.q) (u := m.u) (n := m.n) (r := m.r) m.hv fun σ6 bo k6 hbo => ?_
    cases bo with
    | false =>
      simp (disch := first | assumption | simp) only [↓sbD, sbU, tyB, Nat.reduceMul, Nat.reduceSub, Int.reduceEq, Int.reduceLT, Int.reduceLE, Int.reduceNe, Nat.reduceBneDiff, Nat.reduceBEq, decide_false, gt_iff_lt, Bool.or_self, Bool.false_eq_true, Nat.mul_one, Nat.one_mul, Nat.zero_mul, ↓reduceIte, Nat.reduceEqDiff, Nat.reduceLT, Nat.reduceAdd, Nat.reduceLeDiff, reduceCtorEq, goInt, pairs, isConst, TI.isAgg, splice, boxS, Edp, dpv, Nat.beq_eq, ZV.val, List.any_cons, List.any_nil, Bool.false_and, not_bool, Bool.not_false]
      refine specS5 ?_
      simp (disch := first | assumption | simp) only [↓sbD, sbU, tyB, Nat.reduceMul, Nat.reduceSub, Int.reduceEq, Int.reduceLT, Int.reduceLE, Int.reduceNe, Nat.reduceBneDiff, Nat.reduceBEq, decide_false, gt_iff_lt, Bool.or_self, Bool.false_eq_true, Nat.mul_one, Nat.one_mul, Nat.zero_mul, ↓reduceIte, Nat.reduceEqDiff, Nat.reduceLT, Nat.reduceAdd, Nat.reduceLeDiff, reduceCtorEq, goInt, pairs, isConst, TI.isAgg, splice, boxS, Edp, dpv, Nat.beq_eq, ZV.val, List.any_cons, List.any_nil, Bool.false_and]
      exact downS_here rfl
    | true =>
      have hml := hbo rfl
      have hS6 := hS5.kept k6 (fun _ _ h => by cases h)
      simp (disch := first | assumption | simp) only [↓sbD, sbU, tyB, Nat.reduceMul, Nat.reduceSub, Int.reduceEq, Int.reduceLT, Int.reduceLE, Int.reduceNe, Nat.reduceBneDiff, Nat.reduceBEq, decide_false, gt_iff_lt, Bool.or_self, Bool.false_eq_true, Nat.mul_one, Nat.one_mul, Nat.zero_mul, ↓reduceIte, Nat.reduceEqDiff, Nat.reduceLT, Nat.reduceAdd, Nat.reduceLeDiff, reduceCtorEq, goInt, pairs, isConst, TI.isAgg, splice, boxS, Edp, dpv, Nat.beq_eq, ZV.val, List.any_cons, List.any_nil, Bool.false_and, not_bool, Bool.not_true, f0, f6, f7, hia, AS_new, zeMsA, hvc.1, hvc.2]
      intro e he
      have hefp : e ∉ fp5 := fun h => hS6.live e h he
      try simp (disch := first | assumption | simp) only [↓sbD, sbU, tyB, Nat.reduceMul, Nat.reduceSub, Int.reduceEq, Int.reduceLT, Int.reduceLE, Int.reduceNe, Nat.reduceBneDiff, Nat.reduceBEq, decide_false, gt_iff_lt, Bool.or_self, Bool.false_eq_true, Nat.mul_one, Nat.one_mul, Nat.zero_mul, ↓reduceIte, Nat.reduceEqDiff, Nat.reduceLT, Nat.reduceAdd, Nat.reduceLeDiff, reduceCtorEq, goInt, pairs, isConst, TI.isAgg, splice, boxS, Edp, dpv, Nat.beq_eq, ZV.val, List.any_cons, List.any_nil, Bool.false_and, AHeap.get_set_same, List.length_cons, List.length_nil, List.cons_append, List.nil_append, List.drop_succ_cons, List.drop_zero, List.set_cons_zero, List.set_cons_succ, decide_true]
      generalize hσ7 : AHeap.set (AHeap.set (AHeap.set σ6 e _) e _) e _ = σ7
      have k7 : Kept σ6 [] σ7 [] := by rw [← hσ7]; exact (((Kept.refl _ []).setD he).setD he).setD he
      have ge7 : σ7.get e = .cells [.string m.t, .string m.p, .int .i64 m.q, .bool m.r, m.v, .string m.f, .int .i64 0, .int .i64 m.n, .string m.g] true 0 := by rw [← hσ7]; exact AHeap.get_set_same _ _ _
      have hS7 := hS6.kept k7 (fun _ _ h => by cases h)
      clear hσ7
      try simp (disch := first | assumption | simp) only [↓sbD, sbU, tyB, Nat.reduceMul, Nat.reduceSub, Int.reduceEq, Int.reduceLT, Int.reduceLE, Int.reduceNe, Nat.reduceBneDiff, Nat.reduceBEq, decide_false, gt_iff_lt, Bool.or_self, Bool.false_eq_true, Nat.mul_one, Nat.one_mul, Nat.zero_mul, ↓reduceIte, Nat.reduceEqDiff, Nat.reduceLT, Nat.reduceAdd, Nat.reduceLeDiff, reduceCtorEq, goInt, pairs, isConst, TI.isAgg, splice, boxS, Edp, dpv, Nat.beq_eq, ZV.val, List.any_cons, List.any_nil, Bool.false_and, f6, ge7]
      refine specPush (m := m.u0) hS7 (by omega) (by show m.l.length ≤ 100000; omega) (by omega) fun v8 h8 σ8 fp8 hS8 k8 => ?_
      simp (disch := first | assumption | simp) only [↓sbD, sbU, tyB, Nat.reduceMul, Nat.reduceSub, Int.reduceEq, Int.reduceLT, Int.reduceLE, Int.reduceNe, Nat.reduceBneDiff, Nat.reduceBEq, decide_false, gt_iff_lt, Bool.or_self, Bool.false_eq_true, Nat.mul_one, Nat.one_mul, Nat.zero_mul, ↓reduceIte, Nat.reduceEqDiff, Nat.reduceLT, Nat.reduceAdd, Nat.reduceLeDiff, reduceCtorEq, goInt, pairs, isConst, TI.isAgg, splice, boxS, Edp, dpv, Nat.beq_eq, ZV.val, List.any_cons, List.any_nil, Bool.false_and, not_bool, Bool.not_true, f7, hw]
      refine ⟨_, mm - 1, _, rfl, by omega, Le.refl _, i + 1, _, fp8, by omega, by simp (disch := first | assumption | simp) only [↓sbD, sbU, tyB, Nat.reduceMul, Nat.reduceSub, Int.reduceEq, Int.reduceLT, Int.reduceLE, Int.reduceNe, Nat.reduceBneDiff, Nat.reduceBEq, decide_false, gt_iff_lt, Bool.or_self, Bool.false_eq_true, Nat.mul_one, Nat.one_mul, Nat.zero_mul, ↓reduceIte, Nat.reduceEqDiff, Nat.reduceLT, Nat.reduceAdd, Nat.reduceLeDiff, reduceCtorEq, goInt, pairs, isConst, TI.isAgg, splice, boxS, Edp, dpv, Nat.beq_eq, ZV.val, List.any_cons, List.any_nil, Bool.false_and], by rw [List.length_append]; simp only [List.length_cons, List.length_nil]; omega, fun j h1 h2 => ?_, hS8⟩
      by_cases hj : j < Wi.length
      · rw [List.getElem_append_left hj]; exact hW j hj h2
      · have hji : j = Wi.length := by rw [List.length_append] at h1; simp only [List.length_cons, List.length_nil] at h1; omega
        subst hji
        rw [List.getElem_append_right (Nat.le_refl _)]
        simp only [Nat.sub_self, List.getElem_cons_zero]
        have e : L[Wi.length] = m := by rw [← hm']; congr 1
        rw [e]
        exact ⟨rfl, rfl, rfl, rfl, by show m.l.length ≤ 100000; omega⟩
  have hiL : i = L.length := by omega
  subst hiL
  simp (disch := first | assumption | simp) only [↓sbD, sbU, tyB, Nat.reduceMul, Nat.reduceSub, Int.reduceEq, Int.reduceLT, Int.reduceLE, Int.reduceNe, Nat.reduceBneDiff, Nat.reduceBEq, decide_false, gt_iff_lt, Bool.or_self, Bool.false_eq_true, Nat.mul_one, Nat.one_mul, Nat.zero_mul, ↓reduceIte, Nat.reduceEqDiff, Nat.reduceLT, Nat.reduceAdd, Nat.reduceLeDiff, reduceCtorEq, goInt, pairs, isConst, TI.isAgg, splice, boxS, Edp, dpv, Nat.beq_eq, ZV.val, List.any_cons, List.any_nil, Bool.false_and, f0, f6, f7, hlen, hi]
  have hWu : ∀ j, ∀ m ∈ Wi.drop j, m.u ≤ 0 := fun j m hm => by
    obtain ⟨k, hk, rfl⟩ := List.getElem_of_mem (List.mem_of_mem_drop hm)
    have := (hW k hk (by omega)).u
    omega
  have hWl' : ∀ j, ∀ m ∈ Wi.drop j, m.l.length ≤ 100000 := fun j m hm => by
    obtain ⟨k, hk, rfl⟩ := List.getElem_of_mem (List.mem_of_mem_drop hm)
    exact (hW k hk (by omega)).l
  have hdr : ∀ j (hj : j < L.length) m R, Wi.drop j = m :: R → Psh m L[j] ∧ Wi.drop (j + 1) = R := fun j hj m R he => by
    have hjW : j < Wi.length := by omega
    rw [List.drop_eq_getElem_cons hjW] at he
    injection he with h1 h2
    exact ⟨by rw [← h1]; exact hW j hjW hj, h2⟩
  refine S_loop (fun m f σ' => ∃ (i : Nat) (F : List Fl) (fp : List Nat), m + i = L.length ∧ f 9 = .int .i64 i ∧ (F.length : Int) ≤ tm.r ∧ (∀ x ∈ F, x.st = 1 ∨ x.st = 2) ∧ IsS σ' b true tm (Wi.drop i) F 24 fp) L.length (Le.refl _) ⟨0, [], fp5, rfl, by simp (disch := first | assumption | simp) only [↓sbD, sbU, tyB, Nat.reduceMul, Nat.reduceSub, Int.reduceEq, Int.reduceLT, Int.reduceLE, Int.reduceNe, Nat.reduceBneDiff, Nat.reduceBEq, decide_false, gt_iff_lt, Bool.or_self, Bool.false_eq_true, Nat.mul_one, Nat.one_mul, Nat.zero_mul, ↓reduceIte, Nat.reduceEqDiff, Nat.reduceLT, Nat.reduceAdd, Nat.reduceLeDiff, reduceCtorEq, goInt, pairs, isConst, TI.isAgg, splice, boxS, Edp, dpv, Nat.beq_eq, ZV.val, List.any_cons, List.any_nil, Bool.false_and]; rfl, (by simp only [List.length_nil]; omega), (fun x hx => by cases hx), (by rw [List.drop_zero]; exact hS5)⟩ ?_
  have fa0 := f0
  have fa6 := f6
  clear f0 f6 f7
  rintro mm2 f σ6 ⟨i, F, fp6, hm2, f9, hF, hFs, hS6⟩ hf
  have f0 := hf 0 (by decide) (notMem_wr (by kernel_rfl))
  have f6 := hf 6 (by decide) (notMem_wr (by kernel_rfl))
  simp (disch := first | assumption | simp) only [↓sbD, sbU, tyB, Nat.reduceMul, Nat.reduceSub, Int.reduceEq, Int.reduceLT, Int.reduceLE, Int.reduceNe, Nat.reduceBneDiff, Nat.reduceBEq, decide_false, gt_iff_lt, Bool.or_self, Bool.false_eq_true, Nat.mul_one, Nat.one_mul, Nat.zero_mul, ↓reduceIte, Nat.reduceEqDiff, Nat.reduceLT, Nat.reduceAdd, Nat.reduceLeDiff, reduceCtorEq, goInt, pairs, isConst, TI.isAgg, splice, boxS, Edp, dpv, Nat.beq_eq, ZV.val, List.any_cons, List.any_nil, Bool.false_and, fa0, fa6] at f0 f6
  clear hf
  by_cases hi : (i : Int) < (L.length : Int)
  rotate_left
  · have hiL : i = L.length := by omega
    subst hiL
    have hnil : Wi.drop L.length = [] := List.drop_eq_nil_of_le (by omega)
    simp (disch := first | assumption | simp) only [↓sbD, sbU, tyB, Nat.reduceMul, Nat.reduceSub, Int.reduceEq, Int.reduceLT, Int.reduceLE, Int.reduceNe, Nat.reduceBneDiff, Nat.reduceBEq, decide_false, gt_iff_lt, Bool.or_self, Bool.false_eq_true, Nat.mul_one, Nat.one_mul, Nat.zero_mul, ↓reduceIte, Nat.reduceEqDiff, Nat.reduceLT, Nat.reduceAdd, Nat.reduceLeDiff, reduceCtorEq, goInt, pairs, isConst, TI.isAgg, splice, boxS, Edp, dpv, Nat.beq_eq, ZV.val, List.any_cons, List.any_nil, Bool.false_and, f0, f6, f9, hlen, hi]
    refine specNext hS6 ⟨by omega, by omega⟩ (by omega) (hWu _) (hWl' _) (fun σ7 fp7 hno hS7 k7 => ?_) (fun m R v0 hv0 σ7 fp7 v hWd hq hv2 hS7 k7 => by rw [hnil] at hWd; cases hWd) fun m R v0 hv0 σ7 fp7 v c m2 hWd hq hlt hv2 hc1 hS7 k7 => by rw [hnil] at hWd; cases hWd
    simp (disch := first | assumption | simp) only [↓sbD, sbU, tyB, Nat.reduceMul, Nat.reduceSub, Int.reduceEq, Int.reduceLT, Int.reduceLE, Int.reduceNe, Nat.reduceBneDiff, Nat.reduceBEq, decide_false, gt_iff_lt, Bool.or_self, Bool.false_eq_true, Nat.mul_one, Nat.one_mul, Nat.zero_mul, ↓reduceIte, Nat.reduceEqDiff, Nat.reduceLT, Nat.reduceAdd, Nat.reduceLeDiff, reduceCtorEq, goInt, pairs, isConst, TI.isAgg, splice, boxS, Edp, dpv, Nat.beq_eq, ZV.val, List.any_cons, List.any_nil, Bool.false_and, AS_new, zePk]
    intro d hd
    have hS8 := (hS7.kept (((Kept.refl σ7 []).setD (o := .cells [.int .i64 0, .int .i64 0, .int .i64 0, .slice none 0 0, .bool false, .int .i64 0, .string ⟨#[]⟩, .bool false, .string ⟨#[]⟩, .string ⟨#[]⟩, .int .i64 0, .bool false, .slice none 0 0, .bool false, .string ⟨#[]⟩, .bool false, .string ⟨#[]⟩, .bool false, .string ⟨#[]⟩, .string ⟨#[]⟩, .int .i64 0, .bool false, .bool false, .slice none 0 0, .slice none 0 0, .slice none 0 0] true 0) hd).setD (o := .cells [.int .i64 0, .int .i64 0, .int .i64 0, .slice none 0 0, .bool false, .int .i64 0, .string ⟨#[]⟩, .bool false, .string ⟨#[]⟩, .string ⟨#[]⟩, .int .i64 0, .bool false, .slice none 0 0, .bool false, .string ⟨#[]⟩, .bool false, .string ⟨#[]⟩, .bool false, .string ⟨#[]⟩, .string ⟨#[]⟩, .int .i64 0, .bool false, .bool false, .slice none 0 0, .slice none 0 0, .slice none 0 0] true 0) hd) (fun _ _ h => by cases h))
    try simp (disch := first | assumption | simp) only [↓sbD, sbU, tyB, Nat.reduceMul, Nat.reduceSub, Int.reduceEq, Int.reduceLT, Int.reduceLE, Int.reduceNe, Nat.reduceBneDiff, Nat.reduceBEq, decide_false, gt_iff_lt, Bool.or_self, Bool.false_eq_true, Nat.mul_one, Nat.one_mul, Nat.zero_mul, ↓reduceIte, Nat.reduceEqDiff, Nat.reduceLT, Nat.reduceAdd, Nat.reduceLeDiff, reduceCtorEq, goInt, pairs, isConst, TI.isAgg, splice, boxS, Edp, dpv, Nat.beq_eq, ZV.val, List.any_cons, List.any_nil, Bool.false_and, not_bool, Bool.not_false, f6]
    try simp (disch := first | assumption | simp) only [↓sbD, sbU, tyB, Nat.reduceMul, Nat.reduceSub, Int.reduceEq, Int.reduceLT, Int.reduceLE, Int.reduceNe, Nat.reduceBneDiff, Nat.reduceBEq, decide_false, gt_iff_lt, Bool.or_self, Bool.false_eq_true, Nat.mul_one, Nat.one_mul, Nat.zero_mul, ↓reduceIte, Nat.reduceEqDiff, Nat.reduceLT, Nat.reduceAdd, Nat.reduceLeDiff, reduceCtorEq, goInt, pairs, isConst, TI.isAgg, splice, boxS, Edp, dpv, Nat.beq_eq, ZV.val, List.any_cons, List.any_nil, Bool.false_and, not_bool, Bool.not_false, f6]
    refine specWaiting hS8 (by rw [hnil]; simp) fun wv σ9 fp9 gw k9 => ?_
    have hwl := fun τ : AHeap => gw.len (E := E) (τ := τ) ty22
    rw [hnil] at hwl
    have h00 : ((0 : Nat) : Int) = 0 := rfl
    simp only [List.length_nil] at hwl
    simp (disch := first | assumption | simp) only [↓sbD, sbU, tyB, Nat.reduceMul, Nat.reduceSub, Int.reduceEq, Int.reduceLT, Int.reduceLE, Int.reduceNe, Nat.reduceBneDiff, Nat.reduceBEq, decide_false, gt_iff_lt, Bool.or_self, Bool.false_eq_true, Nat.mul_one, Nat.one_mul, Nat.zero_mul, ↓reduceIte, Nat.reduceEqDiff, Nat.reduceLT, Nat.reduceAdd, Nat.reduceLeDiff, reduceCtorEq, goInt, pairs, isConst, TI.isAgg, splice, boxS, Edp, dpv, Nat.beq_eq, ZV.val, List.any_cons, List.any_nil, Bool.false_and, hwl, h00]
    refine specS5 ?_
    simp (disch := first | assumption | simp) only [↓sbD, sbU, tyB, Nat.reduceMul, Nat.reduceSub, Int.reduceEq, Int.reduceLT, Int.reduceLE, Int.reduceNe, Nat.reduceBneDiff, Nat.reduceBEq, decide_false, gt_iff_lt, Bool.or_self, Bool.false_eq_true, Nat.mul_one, Nat.one_mul, Nat.zero_mul, ↓reduceIte, Nat.reduceEqDiff, Nat.reduceLT, Nat.reduceAdd, Nat.reduceLeDiff, reduceCtorEq, goInt, pairs, isConst, TI.isAgg, splice, boxS, Edp, dpv, Nat.beq_eq, ZV.val, List.any_cons, List.any_nil, Bool.false_and]
    exact downS_here rfl
  have hi' : i < L.length := by omega
  have hiW : i < Wi.length := by omega
  have hWd0 := List.drop_eq_getElem_cons hiW
  have hw := wrap_suc (n := i) (by omega)
  have hPs := hW i hiW hi'
  generalize hmi : Wi[i] = mi at hWd0 hPs
  have hia := DLm.at hv hi'
  generalize hyi : L[i] = y at hia hPs
  simp only [msCe, List.cons_append, List.nil_append] at hia
  rw [← hPs.t, ← hPs.p, ← hPs.q] at hia
  generalize hRi : Wi.drop (i + 1) = Ri at hWd0
  simp (disch := first | assumption | simp) only [↓sbD, sbU, tyB, Nat.reduceMul, Nat.reduceSub, Int.reduceEq, Int.reduceLT, Int.reduceLE, Int.reduceNe, Nat.reduceBneDiff, Nat.reduceBEq, decide_false, gt_iff_lt, Bool.or_self, Bool.false_eq_true, Nat.mul_one, Nat.one_mul, Nat.zero_mul, ↓reduceIte, Nat.reduceEqDiff, Nat.reduceLT, Nat.reduceAdd, Nat.reduceLeDiff, reduceCtorEq, goInt, pairs, isConst, TI.isAgg, splice, boxS, Edp, dpv, Nat.beq_eq, ZV.val, List.any_cons, List.any_nil, Bool.false_and, f0, f6, f9, hlen, hi]
  refine specNext hS6 ⟨by omega, by omega⟩ (by omega) (hWu i) (hWl' i) (fun σ7 fp7 hno hS7 k7 => ?_) (fun m R v0 hv0 σ7 fp7 v hWd hq hv2 hS7 k7 => ?_) fun m R v0 hv0 σ7 fp7 v c m2 hWd hq hlt hv2 hc1 hS7 k7 => ?_
  focus
    obtain ⟨hq, hle⟩ := hno _ _ hWd0
    simp (disch := first | assumption | simp) only [↓sbD, sbU, tyB, Nat.reduceMul, Nat.reduceSub, Int.reduceEq, Int.reduceLT, Int.reduceLE, Int.reduceNe, Nat.reduceBneDiff, Nat.reduceBEq, decide_false, gt_iff_lt, Bool.or_self, Bool.false_eq_true, Nat.mul_one, Nat.one_mul, Nat.zero_mul, ↓reduceIte, Nat.reduceEqDiff, Nat.reduceLT, Nat.reduceAdd, Nat.reduceLeDiff, reduceCtorEq, goInt, pairs, isConst, TI.isAgg, splice, boxS, Edp, dpv, Nat.beq_eq, ZV.val, List.any_cons, List.any_nil, Bool.false_and, AS_new, zePk]
    intro d hd
    have hdf7 : d ∉ fp7 := fun h => hS7.live d h hd
    try simp (disch := first | assumption | simp) only [↓sbD, sbU, tyB, Nat.reduceMul, Nat.reduceSub, Int.reduceEq, Int.reduceLT, Int.reduceLE, Int.reduceNe, Nat.reduceBneDiff, Nat.reduceBEq, decide_false, gt_iff_lt, Bool.or_self, Bool.false_eq_true, Nat.mul_one, Nat.one_mul, Nat.zero_mul, ↓reduceIte, Nat.reduceEqDiff, Nat.reduceLT, Nat.reduceAdd, Nat.reduceLeDiff, reduceCtorEq, goInt, pairs, isConst, TI.isAgg, splice, boxS, Edp, dpv, Nat.beq_eq, ZV.val, List.any_cons, List.any_nil, Bool.false_and, AHeap.get_set_same]
    generalize hσ8 : AHeap.set (AHeap.set σ7 d _) d _ = σ8
    have k8 : Kept σ7 [] σ8 [] := by rw [← hσ8]; exact ((Kept.refl _ []).setD hd).setD hd
    have gd8 : σ8.get d = .cells [.int .i64 0, .int .i64 0, .int .i64 0, .slice none 0 0, .bool false, .int .i64 0, .string ⟨#[]⟩, .bool false, .string ⟨#[]⟩, .string ⟨#[]⟩, .int .i64 0, .bool false, .slice none 0 0, .bool false, .string ⟨#[]⟩, .bool false, .string ⟨#[]⟩, .bool false, .string ⟨#[]⟩, .string ⟨#[]⟩, .int .i64 0, .bool false, .bool false, .slice none 0 0, .slice none 0 0, .slice none 0 0] true 0 := by rw [← hσ8]; exact AHeap.get_set_same _ _ _
    have hS8 := hS7.kept k8 (fun _ _ h => by cases h)
    clear hσ8
    try simp (disch := first | assumption | simp) only [↓sbD, sbU, tyB, Nat.reduceMul, Nat.reduceSub, Int.reduceEq, Int.reduceLT, Int.reduceLE, Int.reduceNe, Nat.reduceBneDiff, Nat.reduceBEq, decide_false, gt_iff_lt, Bool.or_self, Bool.false_eq_true, Nat.mul_one, Nat.one_mul, Nat.zero_mul, ↓reduceIte, Nat.reduceEqDiff, Nat.reduceLT, Nat.reduceAdd, Nat.reduceLeDiff, reduceCtorEq, goInt, pairs, isConst, TI.isAgg, splice, boxS, Edp, dpv, Nat.beq_eq, ZV.val, List.any_cons, List.any_nil, Bool.false_and, not_bool, Bool.not_false, f6]
    refine specFlights hS8 (by omega) fun fv σ9 fp9 gf k9 => ?_
    obtain ⟨x, G, rfl⟩ : ∃ x G, F = x :: G := by
      cases F with
      | nil => simp only [List.length_nil] at hle; omega
      | cons x G => exact ⟨x, G, rfl⟩
    have hlf := fun τ : AHeap => gf.len (E := E) (τ := τ) ty45
    obtain ⟨e, o, xs, hia0, ge9, hle9, hta, hfd, _⟩ := gf.at (E := E) flC_len (i := 0) (by simp) ty45 ty50
    replace hia0 : aindexAddr E 45 fv (.int .i64 0) = some (.pointer (some ⟨e, o, none⟩)) := hia0
    rw [List.getElem_cons_zero, flCe] at hta
    have hx0 : xs[o]? = some (.int .i64 x.id) := by
      have := congrArg (fun l => l[0]?) hta
      simp only [List.getElem?_take, List.getElem?_drop] at this
      simpa using this
    have hne0 : ¬ ((G.length + 1 : Nat) : Int) = 0 := by omega
    simp only [List.length_cons] at hlf
    have hS9 := hS8.kept k9 (fun _ _ h => by cases h)
    obtain ⟨gd9, hdf9'⟩ := k9.at gd8 (by simp) (by simp)
    have hdf9 : d ∉ fp7 := hdf7
    have hef9 : e ∉ fp7 := fun h => disj.new (gp := []) (fun _ _ h => by cases h) hS8.live k9 e h (by rw [hfd]; simp)
    have hlenA9 : (x :: G).length ≤ 100 := by omega
    simp (disch := first | assumption | simp) only [↓sbD, sbU, tyB, Nat.reduceMul, Nat.reduceSub, Int.reduceEq, Int.reduceLT, Int.reduceLE, Int.reduceNe, Nat.reduceBneDiff, Nat.reduceBEq, decide_false, gt_iff_lt, Bool.or_self, Bool.false_eq_true, Nat.mul_one, Nat.one_mul, Nat.zero_mul, ↓reduceIte, Nat.reduceEqDiff, Nat.reduceLT, Nat.reduceAdd, Nat.reduceLeDiff, reduceCtorEq, goInt, pairs, isConst, TI.isAgg, splice, boxS, Edp, dpv, Nat.beq_eq, ZV.val, List.any_cons, List.any_nil, Bool.false_and, hlf, hne0, f6, hia0, ge9, hx0]
    refine specAck (p := pk0 4 x.id) (vp := .slice none 0 0) (vw := .slice none 0 0) (vs := .slice none 0 0) (vf := .slice none 0 0) (vc := .slice none 0 0) hS9 (by have := hlenA9; omega) ⟨rfl, rfl⟩ ⟨rfl, rfl⟩ ⟨rfl, rfl⟩ ⟨rfl, rfl⟩ ⟨rfl, rfl⟩ fun F10 σ10 fp10 n10 q10 hr10 hS10 k10 => ?_
    obtain ⟨gd10, hdf10⟩ := k10.at gd9 (by simp) hdf9
    obtain ⟨ge10, hef10⟩ := k10.at ge9 (by simp) hef9
    have hlenA10 : F10.length ≤ 100 := Nat.le_trans hr10.len hlenA9
    simp (disch := first | assumption | simp) only [↓sbD, sbU, tyB, Nat.reduceMul, Nat.reduceSub, Int.reduceEq, Int.reduceLT, Int.reduceLE, Int.reduceNe, Nat.reduceBneDiff, Nat.reduceBEq, decide_false, gt_iff_lt, Bool.or_self, Bool.false_eq_true, Nat.mul_one, Nat.one_mul, Nat.zero_mul, ↓reduceIte, Nat.reduceEqDiff, Nat.reduceLT, Nat.reduceAdd, Nat.reduceLeDiff, reduceCtorEq, goInt, pairs, isConst, TI.isAgg, splice, boxS, Edp, dpv, Nat.beq_eq, ZV.val, List.any_cons, List.any_nil, Bool.false_and, f6, hia0, ge10, hx0]
    refine specAck (p := pk0 5 x.id) (vp := .slice none 0 0) (vw := .slice none 0 0) (vs := .slice none 0 0) (vf := .slice none 0 0) (vc := .slice none 0 0) hS10 (by have := hlenA10; omega) ⟨rfl, rfl⟩ ⟨rfl, rfl⟩ ⟨rfl, rfl⟩ ⟨rfl, rfl⟩ ⟨rfl, rfl⟩ fun F11 σ11 fp11 n11 q11 hr11 hS11 k11 => ?_
    obtain ⟨gd11, hdf11⟩ := k11.at gd10 (by simp) hdf10
    obtain ⟨ge11, hef11⟩ := k11.at ge10 (by simp) hef10
    have hlenA11 : F11.length ≤ 100 := Nat.le_trans hr11.len hlenA10
    simp (disch := first | assumption | simp) only [↓sbD, sbU, tyB, Nat.reduceMul, Nat.reduceSub, Int.reduceEq, Int.reduceLT, Int.reduceLE, Int.reduceNe, Nat.reduceBneDiff, Nat.reduceBEq, decide_false, gt_iff_lt, Bool.or_self, Bool.false_eq_true, Nat.mul_one, Nat.one_mul, Nat.zero_mul, ↓reduceIte, Nat.reduceEqDiff, Nat.reduceLT, Nat.reduceAdd, Nat.reduceLeDiff, reduceCtorEq, goInt, pairs, isConst, TI.isAgg, splice, boxS, Edp, dpv, Nat.beq_eq, ZV.val, List.any_cons, List.any_nil, Bool.false_and, f6, hia0, ge11, hx0]
    refine specAck (p := pk0 7 x.id) (vp := .slice none 0 0) (vw := .slice none 0 0) (vs := .slice none 0 0) (vf := .slice none 0 0) (vc := .slice none 0 0) hS11 (by have := hlenA11; omega) ⟨rfl, rfl⟩ ⟨rfl, rfl⟩ ⟨rfl, rfl⟩ ⟨rfl, rfl⟩ ⟨rfl, rfl⟩ fun F12 σ12 fp12 n12 q12 hr12 hS12 k12 => ?_
    obtain ⟨gd12, hdf12⟩ := k12.at gd11 (by simp) hdf11
    obtain ⟨ge12, hef12⟩ := k12.at ge11 (by simp) hef11
    have hlenA12 : F12.length ≤ 100 := Nat.le_trans hr12.len hlenA11
    simp (disch := first | assumption | simp) only [↓sbD, sbU, tyB, Nat.reduceMul, Nat.reduceSub, Int.reduceEq, Int.reduceLT, Int.reduceLE, Int.reduceNe, Nat.reduceBneDiff, Nat.reduceBEq, decide_false, gt_iff_lt, Bool.or_self, Bool.false_eq_true, Nat.mul_one, Nat.one_mul, Nat.zero_mul, ↓reduceIte, Nat.reduceEqDiff, Nat.reduceLT, Nat.reduceAdd, Nat.reduceLeDiff, reduceCtorEq, goInt, pairs, isConst, TI.isAgg, splice, boxS, Edp, dpv, Nat.beq_eq, ZV.val, List.any_cons, List.any_nil, Bool.false_and, f6, hia0, ge12, hx0]
    obtain rfl : F12 = G := ack3 hS9.nd (hFs x (by simp)) hr10 hr11 hr12
    simp only [List.length_cons] at hF
    try simp (disch := first | assumption | simp) only [↓sbD, sbU, tyB, Nat.reduceMul, Nat.reduceSub, Int.reduceEq, Int.reduceLT, Int.reduceLE, Int.reduceNe, Nat.reduceBneDiff, Nat.reduceBEq, decide_false, gt_iff_lt, Bool.or_self, Bool.false_eq_true, Nat.mul_one, Nat.one_mul, Nat.zero_mul, ↓reduceIte, Nat.reduceEqDiff, Nat.reduceLT, Nat.reduceAdd, Nat.reduceLeDiff, reduceCtorEq, goInt, pairs, isConst, TI.isAgg, splice, boxS, Edp, dpv, Nat.beq_eq, ZV.val, List.any_cons, List.any_nil, Bool.false_and, f6]
    refine specNext hS12 ⟨by omega, by omega⟩ (by omega) (hWu i) (hWl' i) (fun σ13 fp13 hno2 hS13 k13 => by have := (hno2 _ _ hWd0).2; omega) (fun m R v0 hv0 σ13 fp13 v hWd hq2 hv2 hS13 k13 => by rw [hWd0] at hWd; injection hWd with e1 e2; subst e1; omega) fun m R v0 hv0 σ13 fp13 v c m2 hWd hq2 hlt hv2 hc1 hS13 k13 => ?_
    obtain ⟨rfl, rfl⟩ : m = mi ∧ R = Ri := by rw [hWd0] at hWd; injection hWd with e1 e2; exact ⟨e1.symm, e2.symm⟩
    obtain ⟨gd13, hdf13⟩ := k13.at gd12 (by simp) hdf12
    obtain ⟨hqp, hqc⟩ := qosOf_pos hq
    have hcp : 0 < c := by omega
    simp only [pubC]
    have hvm : ∀ v0 hv0, (m.withV v0 m.l hv0).t = m.t ∧ (m.withV v0 m.l hv0).p = m.p ∧ (m.withV v0 m.l hv0).r = m.r := fun _ _ => ⟨rfl, rfl, rfl⟩
    simp only [Ms.withV]
    simp (disch := first | assumption | simp) only [↓sbD, sbU, tyB, Nat.reduceMul, Nat.reduceSub, Int.reduceEq, Int.reduceLT, Int.reduceLE, Int.reduceNe, Nat.reduceBneDiff, Nat.reduceBEq, decide_false, gt_iff_lt, Bool.or_self, Bool.false_eq_true, Nat.mul_one, Nat.one_mul, Nat.zero_mul, ↓reduceIte, Nat.reduceEqDiff, Nat.reduceLT, Nat.reduceAdd, Nat.reduceLeDiff, reduceCtorEq, goInt, pairs, isConst, TI.isAgg, splice, boxS, Edp, dpv, Nat.beq_eq, ZV.val, List.any_cons, List.any_nil, Bool.false_and, gd13, hv2.1, hv2.2, List.length_cons, List.length_nil, List.cons_append, List.nil_append, List.drop_succ_cons, List.drop_zero, List.set_cons_zero, List.set_cons_succ, decide_true]
    generalize hσ14 : AHeap.set σ13 d _ = σ14
    have k14 : Kept σ13 [d] σ14 [d] := by rw [← hσ14]; exact Kept.set (by simp)
    have gd14 : σ14.get d = .cells [.int .i64 3, .int .i64 c, .int .i64 0, v, .bool false, .int .i64 0, .string ⟨#[]⟩, .bool false, .string ⟨#[]⟩, .string ⟨#[]⟩, .int .i64 0, .bool false, .slice none 0 0, .bool false, .string ⟨#[]⟩, .bool false, .string ⟨#[]⟩, .bool false, .string m.t, .string m.p, .int .i64 (qosOf m.q), .bool m.r, .bool false, .slice none 0 0, .slice none 0 0, .slice none 0 0] true 0 := by rw [← hσ14]; exact AHeap.get_set_same _ _ _
    have hS14 := hS13.kept k14 (fun z hz h => by obtain rfl := List.mem_singleton.1 h; exact hdf13 hz)
    clear hσ14
    simp (disch := first | assumption | simp) only [↓sbD, sbU, tyB, Nat.reduceMul, Nat.reduceSub, Int.reduceEq, Int.reduceLT, Int.reduceLE, Int.reduceNe, Nat.reduceBneDiff, Nat.reduceBEq, decide_false, gt_iff_lt, Bool.or_self, Bool.false_eq_true, Nat.mul_one, Nat.one_mul, Nat.zero_mul, ↓reduceIte, Nat.reduceEqDiff, Nat.reduceLT, Nat.reduceAdd, Nat.reduceLeDiff, reduceCtorEq, goInt, pairs, isConst, TI.isAgg, splice, boxS, Edp, dpv, Nat.beq_eq, ZV.val, List.any_cons, List.any_nil, Bool.false_and, not_bool, Bool.not_true, gd14, f0, f9, hia, bytes_dec, eq_self, decide_true, boNeq, hqp, hq, hcp, hw]
    exact ⟨_, mm2 - 1, _, rfl, by omega, Le.refl _, i + 1, F12 ++ [⟨c, qosOf m.q, m2⟩], _, by omega, by simp (disch := first | assumption | simp) only [↓sbD, sbU, tyB, Nat.reduceMul, Nat.reduceSub, Int.reduceEq, Int.reduceLT, Int.reduceLE, Int.reduceNe, Nat.reduceBneDiff, Nat.reduceBEq, decide_false, gt_iff_lt, Bool.or_self, Bool.false_eq_true, Nat.mul_one, Nat.one_mul, Nat.zero_mul, ↓reduceIte, Nat.reduceEqDiff, Nat.reduceLT, Nat.reduceAdd, Nat.reduceLeDiff, reduceCtorEq, goInt, pairs, isConst, TI.isAgg, splice, boxS, Edp, dpv, Nat.beq_eq, ZV.val, List.any_cons, List.any_nil, Bool.false_and], (by rw [List.length_append]; simp only [List.length_cons, List.length_nil]; omega), (fun z hz => by rcases List.mem_append.1 hz with h | h; exact hFs z (List.mem_cons_of_mem _ h); obtain rfl := List.mem_singleton.1 h; exact (qosOf_pos hq).2), by rw [hRi]; exact hS14⟩
  focus
    obtain ⟨rfl, rfl⟩ : m = mi ∧ R = Ri := by rw [hWd0] at hWd; injection hWd with e1 e2; exact ⟨e1.symm, e2.symm⟩
    have hnq : ¬ 0 < m.q := by omega
    simp only [pubC, Ms.withV]
    simp (disch := first | assumption | simp) only [↓sbD, sbU, tyB, Nat.reduceMul, Nat.reduceSub, Int.reduceEq, Int.reduceLT, Int.reduceLE, Int.reduceNe, Nat.reduceBneDiff, Nat.reduceBEq, decide_false, gt_iff_lt, Bool.or_self, Bool.false_eq_true, Nat.mul_one, Nat.one_mul, Nat.zero_mul, ↓reduceIte, Nat.reduceEqDiff, Nat.reduceLT, Nat.reduceAdd, Nat.reduceLeDiff, reduceCtorEq, goInt, pairs, isConst, TI.isAgg, splice, boxS, Edp, dpv, Nat.beq_eq, ZV.val, List.any_cons, List.any_nil, Bool.false_and, AS_new, zePk, hv2.1, hv2.2]
    intro d hd
    try simp (disch := first | assumption | simp) only [↓sbD, sbU, tyB, Nat.reduceMul, Nat.reduceSub, Int.reduceEq, Int.reduceLT, Int.reduceLE, Int.reduceNe, Nat.reduceBneDiff, Nat.reduceBEq, decide_false, gt_iff_lt, Bool.or_self, Bool.false_eq_true, Nat.mul_one, Nat.one_mul, Nat.zero_mul, ↓reduceIte, Nat.reduceEqDiff, Nat.reduceLT, Nat.reduceAdd, Nat.reduceLeDiff, reduceCtorEq, goInt, pairs, isConst, TI.isAgg, splice, boxS, Edp, dpv, Nat.beq_eq, ZV.val, List.any_cons, List.any_nil, Bool.false_and, AHeap.get_set_same]
    generalize hσ8 : AHeap.set (AHeap.set σ7 d _) d _ = σ8
    have k8 : Kept σ7 [] σ8 [] := by rw [← hσ8]; exact ((Kept.refl _ []).setD hd).setD hd
    have gd8 : σ8.get d = .cells [.int .i64 3, .int .i64 0, .int .i64 0, v, .bool false, .int .i64 0, .string ⟨#[]⟩, .bool false, .string ⟨#[]⟩, .string ⟨#[]⟩, .int .i64 0, .bool false, .slice none 0 0, .bool false, .string ⟨#[]⟩, .bool false, .string ⟨#[]⟩, .bool false, .string m.t, .string m.p, .int .i64 0, .bool m.r, .bool false, .slice none 0 0, .slice none 0 0, .slice none 0 0] true 0 := by rw [← hσ8]; exact AHeap.get_set_same _ _ _
    have hS8 := hS7.kept k8 (fun _ _ h => by cases h)
    clear hσ8
    simp (disch := first | assumption | simp) only [↓sbD, sbU, tyB, Nat.reduceMul, Nat.reduceSub, Int.reduceEq, Int.reduceLT, Int.reduceLE, Int.reduceNe, Nat.reduceBneDiff, Nat.reduceBEq, decide_false, gt_iff_lt, Bool.or_self, Bool.false_eq_true, Nat.mul_one, Nat.one_mul, Nat.zero_mul, ↓reduceIte, Nat.reduceEqDiff, Nat.reduceLT, Nat.reduceAdd, Nat.reduceLeDiff, reduceCtorEq, goInt, pairs, isConst, TI.isAgg, splice, boxS, Edp, dpv, Nat.beq_eq, ZV.val, List.any_cons, List.any_nil, Bool.false_and, not_bool, Bool.not_true, gd8, f0, f9, hia, bytes_dec, eq_self, decide_true, boNeq, hnq, hw]
    exact ⟨_, mm2 - 1, _, rfl, by omega, Le.refl _, i + 1, F, fp7, by omega, by simp (disch := first | assumption | simp) only [↓sbD, sbU, tyB, Nat.reduceMul, Nat.reduceSub, Int.reduceEq, Int.reduceLT, Int.reduceLE, Int.reduceNe, Nat.reduceBneDiff, Nat.reduceBEq, decide_false, gt_iff_lt, Bool.or_self, Bool.false_eq_true, Nat.mul_one, Nat.one_mul, Nat.zero_mul, ↓reduceIte, Nat.reduceEqDiff, Nat.reduceLT, Nat.reduceAdd, Nat.reduceLeDiff, reduceCtorEq, goInt, pairs, isConst, TI.isAgg, splice, boxS, Edp, dpv, Nat.beq_eq, ZV.val, List.any_cons, List.any_nil, Bool.false_and], hF, hFs, by rw [hRi]; exact hS8⟩
  focus
    obtain ⟨rfl, rfl⟩ : m = mi ∧ R = Ri := by rw [hWd0] at hWd; injection hWd with e1 e2; exact ⟨e1.symm, e2.symm⟩
    obtain ⟨hqp, hqc⟩ := qosOf_pos hq
    have hcp : 0 < c := by omega
    simp only [pubC, Ms.withV]
    simp (disch := first | assumption | simp) only [↓sbD, sbU, tyB, Nat.reduceMul, Nat.reduceSub, Int.reduceEq, Int.reduceLT, Int.reduceLE, Int.reduceNe, Nat.reduceBneDiff, Nat.reduceBEq, decide_false, gt_iff_lt, Bool.or_self, Bool.false_eq_true, Nat.mul_one, Nat.one_mul, Nat.zero_mul, ↓reduceIte, Nat.reduceEqDiff, Nat.reduceLT, Nat.reduceAdd, Nat.reduceLeDiff, reduceCtorEq, goInt, pairs, isConst, TI.isAgg, splice, boxS, Edp, dpv, Nat.beq_eq, ZV.val, List.any_cons, List.any_nil, Bool.false_and, AS_new, zePk, hv2.1, hv2.2]
    intro d hd
    try simp (disch := first | assumption | simp) only [↓sbD, sbU, tyB, Nat.reduceMul, Nat.reduceSub, Int.reduceEq, Int.reduceLT, Int.reduceLE, Int.reduceNe, Nat.reduceBneDiff, Nat.reduceBEq, decide_false, gt_iff_lt, Bool.or_self, Bool.false_eq_true, Nat.mul_one, Nat.one_mul, Nat.zero_mul, ↓reduceIte, Nat.reduceEqDiff, Nat.reduceLT, Nat.reduceAdd, Nat.reduceLeDiff, reduceCtorEq, goInt, pairs, isConst, TI.isAgg, splice, boxS, Edp, dpv, Nat.beq_eq, ZV.val, List.any_cons, List.any_nil, Bool.false_and, AHeap.get_set_same]
    generalize hσ8 : AHeap.set (AHeap.set σ7 d _) d _ = σ8
    have k8 : Kept σ7 [] σ8 [] := by rw [← hσ8]; exact ((Kept.refl _ []).setD hd).setD hd
    have gd8 : σ8.get d = .cells [.int .i64 3, .int .i64 c, .int .i64 0, v, .bool false, .int .i64 0, .string ⟨#[]⟩, .bool false, .string ⟨#[]⟩, .string ⟨#[]⟩, .int .i64 0, .bool false, .slice none 0 0, .bool false, .string ⟨#[]⟩, .bool false, .string ⟨#[]⟩, .bool false, .string m.t, .string m.p, .int .i64 (qosOf m.q), .bool m.r, .bool false, .slice none 0 0, .slice none 0 0, .slice none 0 0] true 0 := by rw [← hσ8]; exact AHeap.get_set_same _ _ _
    have hS8 := hS7.kept k8 (fun _ _ h => by cases h)
    clear hσ8
    simp (disch := first | assumption | simp) only [↓sbD, sbU, tyB, Nat.reduceMul, Nat.reduceSub, Int.reduceEq, Int.reduceLT, Int.reduceLE, Int.reduceNe, Nat.reduceBneDiff, Nat.reduceBEq, decide_false, gt_iff_lt, Bool.or_self, Bool.false_eq_true, Nat.mul_one, Nat.one_mul, Nat.zero_mul, ↓reduceIte, Nat.reduceEqDiff, Nat.reduceLT, Nat.reduceAdd, Nat.reduceLeDiff, reduceCtorEq, goInt, pairs, isConst, TI.isAgg, splice, boxS, Edp, dpv, Nat.beq_eq, ZV.val, List.any_cons, List.any_nil, Bool.false_and, not_bool, Bool.not_true, gd8, f0, f9, hia, bytes_dec, eq_self, decide_true, boNeq, hqp, hq, hcp, hw]
    exact ⟨_, mm2 - 1, _, rfl, by omega, Le.refl _, i + 1, F ++ [⟨c, qosOf m.q, m2⟩], fp7, by omega, by simp (disch := first | assumption | simp) only [↓sbD, sbU, tyB, Nat.reduceMul, Nat.reduceSub, Int.reduceEq, Int.reduceLT, Int.reduceLE, Int.reduceNe, Nat.reduceBneDiff, Nat.reduceBEq, decide_false, gt_iff_lt, Bool.or_self, Bool.false_eq_true, Nat.mul_one, Nat.one_mul, Nat.zero_mul, ↓reduceIte, Nat.reduceEqDiff, Nat.reduceLT, Nat.reduceAdd, Nat.reduceLeDiff, reduceCtorEq, goInt, pairs, isConst, TI.isAgg, splice, boxS, Edp, dpv, Nat.beq_eq, ZV.val, List.any_cons, List.any_nil, Bool.false_and], (by rw [List.length_append]; simp only [List.length_cons, List.length_nil]; omega), (fun z hz => by rcases List.mem_append.1 hz with h | h; exact hFs z h; obtain rfl := List.mem_singleton.1 h; exact (qosOf_pos hq).2), by rw [hRi]; exact hS8⟩
end
theorem law14 (H : AHeap) (vs : List Value) (h : ArgsTyped E H 9 [22, 5] vs) : CallW E 3 vs H fun r _ => r = .bool true := by
  match vs, h with
  | [v0, v1], ⟨h0, h1, _⟩ =>
    obtain ⟨xs1, ha, rfl⟩ := h0.one ty22 rfl
    obtain ⟨v, l, rfl, hv⟩ := typedL_ms ha
    obtain ⟨bs, hb, rfl⟩ := h1.one ty5 rfl
    obtain ⟨n, rfl, hn⟩ : ∃ n, bs = [.int .u8 n] ∧ (Lit.int .u8 n).wf = true := by simpa only [Typed, ty5] using hb
    have hn2 : 0 ≤ n ∧ n < 256 := by
      simp only [Lit.wf, IntKind.min, IntKind.max, IntKind.signed, IntKind.bits, Bool.and_eq_true, decide_eq_true_eq] at hn
      simp at hn
      omega
    exact (law14' (σ := .empty) hv hn2.1 hn2.2 H ⟨fun b hb => absurd rfl hb, fun b hb => absurd rfl hb⟩).mono fun r H' ⟨σ', _, h⟩ => h
end Go.Proofs.Ytkhcbbpfchgemaa.AbsA
