/-
  What the abstract machine does, the model does.
-/
import Derived.Test.YtlmcjfnignbdoaaAOps8
import Derived.LoopN
import Derived.Scope
namespace AbsYtlmcjfnignbdoaa
set_option linter.unusedVariables false
set_option linter.unusedSimpArgs false
set_option linter.unusedSectionVars false
open Go

def opndOk (ng : Nat) : Operand → Bool
  | .const v => closedV v
  | .global g => Nat.blt g ng
  | _ => true
def opOk (ng : Nat) (op : Op) : Bool := op.operands.toList.all (opndOk ng)
theorem opOk_mem {ng : Nat} {op : Op} (h : opOk ng op = true) : ∀ x, x ∈ op.operands.toList → opndOk ng x = true := List.all_eq_true.1 h

section
variable {E : Env} {ι : Emb} {H H' : AHeap} {w : World}

theorem toList_getD (a : Array Value) (t : Nat) (d : Value) : a.getD t d = a.toList.getD t d := by
  simp [List.getD, Array.getD_eq_getD_getElem?]

theorem aev_sim (h : Rel E ι H w) {A : List Value} {a : Act} (hA : RVs ι A a.tmps.toList) {x : Operand} (hx : opndOk E.ng x = true) : RV ι (aev A x) (a.eval x) := by
  cases x with
  | tmp t =>
    simp only [aev, Act.eval, toList_getD]
    exact hA.getD t RV.undef
  | const v => exact RV.closed hx
  | global g =>
    have : g < E.ng := by simpa [opndOk, Nat.blt_eq] using hx
    obtain ⟨l, h1, h2, h3⟩ := h.glob g this
    have := RV.ptr (ι := ι) g 0 l h1
    rw [h2, h3] at this
    exact this
  | func f => exact .func _ [] [] [] [] .nil .nil

theorem pairs_sim (h : Rel E ι H w) {A : List Value} {a : Act} (hA : RVs ι A a.tmps.toList) {ps : Array (Nat × Operand)} (hx : (ps.toList.map (·.2)).all (opndOk E.ng) = true) :
    RPs ι (pairs A ps) (ps.toList.map fun p => (p.1, a.eval p.2)) := by
  refine ⟨by simp [pairs], ?_⟩
  intro k p p' hp hp'
  simp only [pairs, List.getElem?_map] at hp hp'
  cases hq : ps.toList[k]? with
  | none => simp [hq] at hp
  | some q =>
    simp [hq] at hp hp'
    subst hp; subst hp'
    refine ⟨rfl, aev_sim h hA ?_⟩
    have : q ∈ ps.toList := List.mem_of_getElem? hq
    rw [List.all_eq_true] at hx
    exact hx _ (List.mem_map.2 ⟨q, this, rfl⟩)

theorem opt_sim (h : Rel E ι H w) {A : List Value} {a : Act} (hA : RVs ι A a.tmps.toList) {x : Option Operand} (hx : ∀ y, x = some y → opndOk E.ng y = true) : RO ι (x.map (aev A)) (x.map a.eval) := by
  cases x with
  | none => trivial
  | some y => exact aev_sim h hA (hx y rfl)

theorem args_sim (h : Rel E ι H w) {A : List Value} {a : Act} (hA : RVs ι A a.tmps.toList) {xs : List Operand} (hx : xs.all (opndOk E.ng) = true) : RVs ι (xs.map (aev A)) (xs.map a.eval) := by
  induction xs with
  | nil => exact .nil
  | cons x xs ih => simp at hx; exact .cons _ _ _ _ (aev_sim h hA hx.1) (ih (by simpa using hx.2))

theorem map_pairs {ρ : Operand → Value} {ps : Array (Nat × Operand)} {f : Nat × Operand → Nat × Value} (hf : ∀ p, f p = (p.1, ρ p.2)) : ps.map f = (ps.toList.map fun p => (p.1, ρ p.2)).toArray := by
  apply Array.ext'
  rw [Array.toList_map]
  exact List.map_congr_left fun p _ => hf p

/-- what an operation that calls nothing comes to -/
def OpRuns (E : Env) (ι : Emb) (H : AHeap) (w : World) (s : Sem Next) (v : Value) (H' : AHeap) : Prop :=
  ∃ n v' w' ι', s.run E.P w = .ok n w' ∧ (n = .value v' ∨ (n = .skip ∧ v' = undef)) ∧ RV ι' v v' ∧ Rel E ι' H' w' ∧ Step ι H w ι' H' w'

theorem OpRuns.read (h : Rel E ι H w) {s : Sem Value} {v v' : Value} (hs : s.run E.P w = .ok v' w) (hv : RV ι v v') : OpRuns E ι H w (do pure (.value (← s))) v H :=
  ⟨.value v', v', w, ι, by simp [hs], .inl rfl, hv, h, Step.refl _ _ _⟩
theorem OpRuns.of {s : Sem Value} {v v' : Value} {w' : World} {ι' : Emb} (hs : s.run E.P w = .ok v' w') (hv : RV ι' v v') (hr : Rel E ι' H' w') (hst : Step ι H w ι' H' w') : OpRuns E ι H w (do pure (.value (← s))) v H' :=
  ⟨.value v', v', w', ι', by simp [hs], .inl rfl, hv, hr, hst⟩
theorem OpRuns.unit {s : Sem Unit} {w' : World} {ι' : Emb} (hs : s.run E.P w = .ok () w') (hr : Rel E ι' H' w') (hst : Step ι H w ι' H' w') : OpRuns E ι H w (do s; pure .skip) undef H' :=
  ⟨.skip, undef, w', ι', by simp [hs], .inr ⟨rfl, rfl⟩, RV.undef, hr, hst⟩

theorem vres_val {o : Option Value} {v : Value} (h : vres H o = some (.val v H')) : o = some v ∧ H' = H := by
  cases o <;> simp [vres] at h; exact ⟨by rw [h.1], h.2.symm⟩
theorem hres_val {o : Option (Value × AHeap)} {v : Value} (h : hres o = some (.val v H')) : o = some (v, H') := by
  cases o <;> simp [hres] at h; rename_i p; obtain ⟨h1, h2⟩ := h; rw [← h1, ← h2]
theorem ures_val {o : Option AHeap} {v : Value} (h : ures o = some (.val v H')) : o = some H' ∧ v = undef := by
  cases o <;> simp [ures] at h; exact ⟨by rw [h.2], h.1.symm⟩

theorem vres_call {o : Option Value} {f : Nat} {args : List Value} : ¬ (vres H o = some (.call f args)) := by cases o <;> simp [vres]
theorem hres_call {o : Option (Value × AHeap)} {f : Nat} {args : List Value} : ¬ (hres o = some (.call f args)) := by cases o <;> simp [hres]
theorem ures_call {o : Option AHeap} {f : Nat} {args : List Value} : ¬ (ures o = some (.call f args)) := by cases o <;> simp [ures]

set_option maxHeartbeats 4000000 in
theorem aop_val (hE : TyOk E) (h : Rel E ι H w) (hfree : ι H.size = none) {A : List Value} {a : Act} (hA : RVs ι A a.tmps.toList) {o : Oper} (hok : opOk E.ng o.op = true) {v : Value} (hop : aop E A H o.op = some (.val v H')) :
    OpRuns E ι H w (execOp a.eval o) v H' := by
  obtain ⟨dst, op, type, pos, after, guard⟩ := o
  simp only at hop hok
  have ev : ∀ {x : Operand}, opndOk E.ng x = true → RV ι (aev A x) (a.eval x) := fun hx => aev_sim h hA hx
  cases op <;> simp only [aop] at hop <;> try (cases hop; done)
  case move x =>
    simp [opOk, Op.operands] at hok
    injection hop with hop; injection hop with h1 h2; subst h1; subst h2
    exact ⟨_, _, w, ι, rfl, .inl rfl, ev hok, h, Step.refl _ _ _⟩
  case assign x =>
    simp [opOk, Op.operands] at hok
    injection hop with hop; injection hop with h1 h2; subst h1; subst h2
    exact ⟨_, _, w, ι, rfl, .inl rfl, ev hok, h, Step.refl _ _ _⟩
  case pick c x y =>
    simp [opOk, Op.operands] at hok
    obtain ⟨hc, hx, hy⟩ := hok
    split at hop
    · rename_i t ht
      injection hop with hop; injection hop with h1 h2; subst h1; subst h2
      have hcv := ev hc
      rw [ht] at hcv
      generalize hcc : a.eval c = cv at hcv
      cases hcv
      refine ⟨.value (if t then a.eval x else a.eval y), _, w, ι, ?_, .inl rfl, ?_, h, Step.refl _ _ _⟩
      · simp [execOp, hcc, asBool]
      · cases t
        · exact ev hy
        · exact ev hx
    · cases hop
  case alloc t =>
    split at hop
    · rename_i z hz
      injection hop with hop; injection hop with h1 h2; subst h1; subst h2
      obtain ⟨i, zs, ht, hzs, rfl⟩ := azero_of hz
      obtain ⟨zv, hz1, hz2, hz9⟩ := run_zero hE ht w hzs
      obtain ⟨ι', h3, h4, h5⟩ := alloc_sim h hfree t (RVs.zeros (ι := ι) zs)
      refine OpRuns.of (s := Instr.alloc t true (.tuple #[])) ?_ h5 h3 h4
      simp only [Instr.alloc, Sem.run_bind, hz1, Result.andThen_ok, newVar, newRow, Go.run_newObj, Sem.run_pure]
      have : zv.cells = (zs.map ZV.val).toArray := by rw [← hz2]
      rw [this]; rfl
    · cases hop
  case box t x =>
    simp [opOk, Op.operands] at hok
    injection hop with hop; injection hop with h1 h2; subst h1; subst h2
    obtain ⟨ι', h3, h4, h5⟩ := alloc_sim h hfree t (ev hok).cells
    refine OpRuns.of (s := Instr.box t (a.eval x)) ?_ h5 h3 h4
    simp [Instr.box, newVar, newRow]
  case build t ps =>
    obtain ⟨h1, rfl⟩ := vres_val hop
    obtain ⟨v', h2, h3⟩ := abuild_sim hE (pairs_sim h hA (by simpa [opOk, Op.operands] using hok)) h1 w
    refine ⟨.value v', v', w, ι, ?_, .inl rfl, h3, h, Step.refl _ _ _⟩
    simp only [execOp, Sem.run_bind]
    rw [map_pairs (ρ := a.eval) (fun p => rfl), h2]; rfl
  case buildSlice t n ps =>
    have h1 := hres_val hop
    obtain ⟨v', w', ι', h2, h3, h4, h5⟩ := abuildSlice_sim hE h hfree (pairs_sim h hA (by simpa [opOk, Op.operands] using hok)) h1
    refine ⟨.value v', v', w', ι', ?_, .inl rfl, h3, h4, h5⟩
    simp only [execOp, Sem.run_bind]
    rw [map_pairs (ρ := a.eval) (fun p => rfl), h2]; rfl
  case load t x =>
    simp [opOk, Op.operands] at hok
    obtain ⟨h1, rfl⟩ := vres_val hop
    obtain ⟨v', h2, h3⟩ := aload_sim hE h (ev hok) h1
    exact OpRuns.read h h2 h3
  case store t x y =>
    simp [opOk, Op.operands] at hok
    obtain ⟨h1, rfl⟩ := ures_val hop
    obtain ⟨w', h2, h3, h4⟩ := astore_sim hE h (ev hok.1) (ev hok.2) h1
    exact OpRuns.unit h2 h3 h4
  case nilCheck x =>
    simp [opOk, Op.operands] at hok
    have hx := ev hok
    split at hop
    · rename_i ad hv
      injection hop with hop; injection hop with h1 h2; subst h1; subst h2
      rw [hv] at hx
      generalize hcc : a.eval x = xv at hx
      cases hx with | ptr b o l hb =>
      refine ⟨.value _, _, w, ι, ?_, .inl rfl, .ptr b o l hb, h, Step.refl _ _ _⟩
      simp only [execOp, hcc]; rfl
    · rename_i f fs cs hv
      injection hop with hop; injection hop with h1 h2; subst h1; subst h2
      rw [hv] at hx
      generalize hcc : a.eval x = xv at hx
      cases hx with | func _ xs ys xs' ys' hxs hys =>
      refine ⟨.value _, _, w, ι, ?_, .inl rfl, .func _ _ _ _ _ hxs hys, h, Step.refl _ _ _⟩
      simp only [execOp, hcc]; rfl
    · cases hop
  case binOp op t x y u =>
    simp [opOk, Op.operands] at hok
    obtain ⟨h1, rfl⟩ := vres_val hop
    obtain ⟨v', h2, h3⟩ := abin_sim hE h (ev hok.1) (ev hok.2) h1
    exact OpRuns.read (s := do eqGuard op t x y (a.eval x) (a.eval y); binOp op t (a.eval x) (a.eval y)) h h2 h3
  case unOp op t x =>
    simp [opOk, Op.operands] at hok
    obtain ⟨h1, rfl⟩ := vres_val hop
    obtain ⟨v', h2, h3⟩ := aun_sim (P := E.P) (w := w) (ev hok) h1
    exact OpRuns.read h h2 h3
  case convert s d x =>
    simp [opOk, Op.operands] at hok
    have h1 := hres_val hop
    obtain ⟨v', w', ι', h2, h3, h4, h5⟩ := aconvert_sim hE h hfree (ev hok) h1
    exact OpRuns.of h2 h3 h4 h5
  case makeInterface t x =>
    simp [opOk, Op.operands] at hok
    split at hop
    rotate_left
    · cases hop
    rename_i i ht
    split at hop
    · cases hop
    · rename_i hni
      injection hop with hop; injection hop with h1 h2; subst h1; subst h2
      obtain ⟨inf, d, h1, h2, h3, h4⟩ := ti_parts hE ht
      refine OpRuns.read (s := Instr.makeInterface t (a.eval x)) h ?_ (.iface t _ _ (ev hok))
      simp only [Instr.makeInterface, Sem.run_bind, run_und' w h2, Result.andThen_ok]
      cases d <;> first | rfl | (exfalso; exact hni _ (by rw [← h3]; rfl))
  case makeFunc fn fs cs =>
    cases fn <;> simp only at hop <;> try (cases hop; done)
    rename_i f
    injection hop with hop; injection hop with h1 h2; subst h1; subst h2
    have hf : fs.toList.all (opndOk E.ng) = true ∧ cs.toList.all (opndOk E.ng) = true := by
      have hm := opOk_mem hok
      simp only [Op.operands, Array.toList_append, List.mem_append] at hm
      exact ⟨List.all_eq_true.2 fun x hx => hm x (.inl hx), List.all_eq_true.2 fun x hx => hm x (.inr hx)⟩
    refine OpRuns.read (s := Instr.makeFunc (.func f) (fs.map a.eval) (cs.map a.eval)) h rfl ?_
    have e1 : fs.map (aev A) = ⟨fs.toList.map (aev A)⟩ := by apply Array.ext'; simp
    have e2 : cs.map (aev A) = ⟨cs.toList.map (aev A)⟩ := by apply Array.ext'; simp
    have e3 : fs.map a.eval = ⟨fs.toList.map a.eval⟩ := by apply Array.ext'; simp
    have e4 : cs.map a.eval = ⟨cs.toList.map a.eval⟩ := by apply Array.ext'; simp
    rw [e1, e2, e3, e4]
    exact .func _ _ _ _ _ (args_sim h hA hf.1) (args_sim h hA hf.2)
  case makeMap t r =>
    cases r <;> simp only at hop <;> try (cases hop; done)
    injection hop with hop; injection hop with h1 h2; subst h1; subst h2
    obtain ⟨h3, h4⟩ := h.allocMap hfree
    refine OpRuns.of (s := Instr.makeMap t none) (v' := .map (some w.heap.size)) ?_ (.map H.size ⟨w.heap.size, 0, 0, 0⟩ (Emb.with_same _ _ _)) h3 h4
    simp [Instr.makeMap]
  case makeSlice t l c =>
    simp [opOk, Op.operands] at hok
    have h1 := hres_val hop
    obtain ⟨v', w', ι', h2, h3, h4, h5⟩ := amakeSlice_sim hE h hfree (ev hok.1) (ev hok.2) h1
    exact OpRuns.of h2 h3 h4 h5
  case slice t x lo hi mx =>
    obtain ⟨h1, rfl⟩ := vres_val hop
    have hx : opndOk E.ng x = true ∧ (∀ y, lo = some y → opndOk E.ng y = true) ∧ (∀ y, hi = some y → opndOk E.ng y = true) ∧ (∀ y, mx = some y → opndOk E.ng y = true) := by
      have hm := opOk_mem hok
      simp only [Op.operands, Array.toList_append, List.mem_append] at hm
      refine ⟨hm x (.inl (.inl (.inl (by simp)))), fun y e => hm y (.inl (.inl (.inr (by simp [e])))), fun y e => hm y (.inl (.inr (by simp [e]))), fun y e => hm y (.inr (by simp [e]))⟩
    obtain ⟨v', h2, h3⟩ := aslice_sim hE h (ev hx.1) (opt_sim h hA hx.2.1) (opt_sim h hA hx.2.2.1) (opt_sim h hA hx.2.2.2) h1
    exact OpRuns.read h h2 h3
  case fieldAddr s x f =>
    simp [opOk, Op.operands] at hok
    obtain ⟨h1, rfl⟩ := vres_val hop
    obtain ⟨v', h2, h3⟩ := afieldAddr_sim hE (ev hok) h1 w
    exact OpRuns.read h h2 h3
  case field s x f =>
    simp [opOk, Op.operands] at hok
    obtain ⟨h1, rfl⟩ := vres_val hop
    obtain ⟨v', h2, h3⟩ := afield_sim hE (ev hok) h1 w
    exact OpRuns.read h h2 h3
  case indexAddr t x i =>
    simp [opOk, Op.operands] at hok
    obtain ⟨h1, rfl⟩ := vres_val hop
    obtain ⟨v', h2, h3⟩ := aindexAddr_sim hE (ev hok.1) (ev hok.2) h1 w
    exact OpRuns.read h h2 h3
  case index t x i =>
    simp [opOk, Op.operands] at hok
    obtain ⟨h1, rfl⟩ := vres_val hop
    obtain ⟨v', h2, h3⟩ := aindex_sim hE (ev hok.1) (ev hok.2) h1 w
    exact OpRuns.read h h2 h3
  case lookup t m k ok =>
    simp [opOk, Op.operands] at hok
    obtain ⟨h1, rfl⟩ := vres_val hop
    obtain ⟨v', h2, h3⟩ := alookup_sim hE h (ev hok.1) (ev hok.2) h1
    exact OpRuns.read h h2 h3
  case mapUpdate t m k x =>
    simp [opOk, Op.operands] at hok
    obtain ⟨h1, rfl⟩ := ures_val hop
    obtain ⟨w', h2, h3, h4⟩ := amapUpdate_sim hE h (ev hok.1) (ev hok.2.1) (ev hok.2.2) h1
    exact OpRuns.unit h2 h3 h4
  case extract x i =>
    simp [opOk, Op.operands] at hok
    have hx := ev hok
    split at hop
    rotate_left
    · cases hop
    rename_i vs hv
    obtain ⟨h1, rfl⟩ := vres_val hop
    rw [hv] at hx
    generalize hcc : a.eval x = xv at hx
    cases hx with | tuple xs xs' hxs =>
    obtain ⟨v', h2, h3⟩ := hxs.get i v (by simpa using h1)
    refine OpRuns.read (s := Instr.extract (a.eval x) i) h ?_ h3
    have : (⟨xs'⟩ : Array Value)[i]? = some v' := by simpa using h2
    simp [Instr.extract, hcc, this]
  case call c =>
    obtain ⟨callee, args, argTypes⟩ := c
    cases callee with
    | invoke r m => cases hop
    | value f =>
      simp only at hop
      split at hop
      · cases hop
      · cases hop
    | builtin b =>
      simp only at hop
      have h1 := hres_val hop
      have hargs : args.toList.all (opndOk E.ng) = true := by
        simp [opOk, Op.operands, Call.operands] at hok ⊢; exact hok
      obtain ⟨v', w', ι', h2, h3, h4, h5⟩ := abuiltin_sim (ty := type) (cs := args.map fun | .const _ => true | _ => false) hE h hfree (args_sim h hA hargs) h1
      refine ⟨.value v', v', w', ι', ?_, .inl rfl, h3, h4, h5⟩
      have e1 : args.map a.eval = ⟨args.toList.map a.eval⟩ := by apply Array.ext'; simp
      simp only [execOp, resolve, Sem.run_bind, Sem.run_pure, Result.andThen_ok, invoke, e1]
      exact h2

theorem aop_call (h : Rel E ι H w) {A : List Value} {a : Act} (hA : RVs ι A a.tmps.toList) {o : Oper} (hok : opOk E.ng o.op = true) {f : Nat} {args : List Value} (hop : aop E A H o.op = some (.call f args)) :
    ∃ args', (execOp a.eval o).run E.P w = (callFunc f ⟨args'⟩).run E.P w ∧ RVs ι args args' := by
  obtain ⟨dst, op, type, pos, after, guard⟩ := o
  simp only at hop hok
  cases op <;> simp only [aop] at hop <;> try (cases hop; done)
  case call c =>
    obtain ⟨callee, cargs, argTypes⟩ := c
    cases callee with
    | invoke r m => cases hop
    | builtin b => simp only [hres] at hop; cases hb : abuiltin E H b argTypes.toList (cargs.toList.map (aev A)) <;> simp [hb] at hop
    | value fo =>
      simp only at hop
      have hfo : opndOk E.ng fo = true ∧ cargs.toList.all (opndOk E.ng) = true := by
        simp [opOk, Op.operands, Call.operands] at hok ⊢; exact hok
      have hf := aev_sim h hA hfo.1
      split at hop
      rotate_left
      · cases hop
      rename_i g fs cs hv
      injection hop with hop; injection hop with h1 h2; subst h1; subst h2
      rw [hv] at hf
      generalize hcc : a.eval fo = fv at hf
      cases hf with | func _ xs ys xs' ys' hxs hys =>
      refine ⟨xs' ++ cargs.toList.map a.eval ++ ys', ?_, (hxs.append (args_sim h hA hfo.2)).append hys⟩
      simp only [execOp, resolve, hcc, Deferred.ofValue, Sem.run_bind, Sem.run_pure, Result.andThen_ok, invoke]
      congr 2
      apply Array.ext'; simp
  case makeFunc fn fs cs => cases fn <;> simp only at hop <;> first | (cases hop; done) | (injection hop with hop; cases hop; done)
  case makeMap t r => cases r <;> simp only at hop <;> first | (cases hop; done) | (injection hop with hop; cases hop; done)
  all_goals first
    | exact absurd hop vres_call
    | exact absurd hop hres_call
    | exact absurd hop ures_call
    | (split at hop <;> first | exact absurd hop vres_call | (injection hop with hop; cases hop; done) | (cases hop; done) | (split at hop <;> first | (injection hop with hop; cases hop; done) | (cases hop; done)))
    | (injection hop with hop; cases hop; done)

/-! ### code -/
/-- where a call leads, as the model comes to it -/
def CallPost (E : Env) (ι : Emb) (H : AHeap) (w : World) (r : Value) (H' : AHeap) (e : Ending) (w' : World) : Prop :=
  ∃ r' ι', e = .returned r' ∧ RV ι' r r' ∧ Rel E ι' H' w' ∧ Step ι H w ι' H' w'
/-- the result of a call: the function is entered, or, of one without a body, the value is there at once -/
def CallSim (E : Env) (f : Nat) (args : List Value) (H : AHeap) (r : Value) (H' : AHeap) : Prop :=
  ∀ (ι : Emb) (w : World) (args' : List Value), Rel E ι H w → Dm ι H → RVs ι args args' →
    ((callFunc f ⟨args'⟩).run E.P w = .ok (.enter f ⟨args'⟩) w ∧ Calls E.P f ⟨args'⟩ w (CallPost E ι H w r H')) ∨
    ∃ r' w', (callFunc f ⟨args'⟩).run E.P w = .ok (.value r') w' ∧ CallPost E ι H w r H' (.returned r') w'

theorem RV.bool_iff {v v' : Value} (h : RV ι v v') (b : Bool) : v = .bool b ↔ v' = .bool b := by
  cases h <;> simp

theorem yield_sim {all : Array Oper} {A : List Value} {tmps : Array Value} (hA : RVs ι A tmps.toList) (j : Nat) : ayield all A j = yielded all tmps j := by
  unfold ayield yielded
  cases hd : (all[j]?).bind (·.dst) with
  | none => simp
  | some d =>
    simp only [Option.bind_some]
    cases hv : A[d]? with
    | none =>
      have := hA.get_none d hv
      rw [Array.getElem?_toList] at this
      rw [this]
    | some v =>
      obtain ⟨v', h1, h2⟩ := hA.get d v hv
      rw [Array.getElem?_toList] at h1
      rw [h1]
      cases h2 <;> rfl

theorem put_sim {A : List Value} {a : Act} (hA : RVs ι A a.tmps.toList) {v v' : Value} (hv : RV ι v v') (dst : Option Tmp) : RVs ι (aput A dst v) (a.put dst v').tmps.toList := by
  cases dst with
  | none => exact hA
  | some d => simp only [aput, Act.put, Array.toList_setIfInBounds]; exact hA.set d hv
theorem put_defers (a : Act) (dst : Option Tmp) (v : Value) : (a.put dst v).defers = a.defers := by cases dst <;> rfl

structure CallOk (E : Env) (call : Call) : Prop where
  grow : ∀ f args H r H', call f args H = some (r, H') → H.size ≤ H'.size
  sim : ∀ f args H r H', call f args H = some (r, H') → CallSim E f args H r H'

/-- one operation, as the model does it -/
theorem runOp_sim (hE : TyOk E) {call : Call} (hc : CallOk E call) (h : Rel E ι H w) (hdm : Dm ι H) {A A' : List Value} {a : Act} (hA : RVs ι A a.tmps.toList) {all : Array Oper} {o : Oper} (hok : opOk E.ng o.op = true)
    (hr : runOp E call all o A H = some (A', H')) {K : Act → World → Prop} {Q : Exit → Act → World → Prop}
    (hK : ∀ ι' a' w', RVs ι' A' a'.tmps.toList → a'.defers = a.defers → Rel E ι' H' w' → Step ι H w ι' H' w' → (∃ v', a' = a.put o.dst v') → K a' w') :
    if Region.wanted o (yielded all a.tmps) then o.wp E.P a w K Q else K (a.put o.dst undef) w := by
  unfold runOp at hr
  have hy : ayield all A = yielded all a.tmps := funext fun j => yield_sim hA j
  rw [hy] at hr
  split at hr
  · rename_i hw
    rw [if_pos hw]
    split at hr
    · cases hr
    · rename_i v H1 hop
      injection hr with hr; injection hr with h1 h2; subst h1; subst h2
      obtain ⟨n, v', w', ι', hrun, hn, hv, hR, hS⟩ := aop_val hE h hdm.free hA hok hop
      simp only [Oper.wp, hrun]
      rcases hn with rfl | ⟨rfl, rfl⟩
      · exact hK ι' _ w' (put_sim (hA.mono hS.ext) hv o.dst) (put_defers _ _ _) hR hS ⟨v', rfl⟩
      · exact hK ι' _ w' (put_sim (hA.mono hS.ext) hv o.dst) (put_defers _ _ _) hR hS ⟨undef, rfl⟩
    · rename_i f args hop
      split at hr
      · rename_i v H1 hcall
        injection hr with hr; injection hr with h1 h2; subst h1; subst h2
        obtain ⟨args', hrun, hargs⟩ := aop_call h hA hok hop
        rcases hc.sim _ _ _ _ _ hcall ι w args' h hdm hargs with ⟨hen, hcl⟩ | ⟨r', w', hen, v', ι', he, hv, hR, hS⟩
        · simp only [Oper.wp, hrun, hen, Oper.upon_enter]
          refine hcl.mono ?_
          rintro e w' ⟨v', ι', rfl, hv, hR, hS⟩
          exact hK ι' _ w' (put_sim (hA.mono hS.ext) hv o.dst) (put_defers _ _ _) hR hS ⟨v', rfl⟩
        · injection he with he; subst he
          simp only [Oper.wp, hrun, hen, Oper.upon_value]
          exact hK ι' _ w' (put_sim (hA.mono hS.ext) hv o.dst) (put_defers _ _ _) hR hS ⟨r', rfl⟩
      · cases hr
  · rename_i hw
    rw [if_neg hw]
    injection hr with hr; injection hr with h1 h2; subst h1; subst h2
    exact hK ι _ w (put_sim hA RV.undef o.dst) (put_defers _ _ _) h (Step.refl _ _ _) ⟨undef, rfl⟩

theorem runOps_sim (hE : TyOk E) {call : Call} (hc : CallOk E call) {all : Array Oper} {Q : Exit → Act → World → Prop} {A' : List Value} : ∀ {l : List Oper} {ι : Emb} {H : AHeap} {w : World} {A : List Value} {a : Act}, Rel E ι H w → Dm ι H → RVs ι A a.tmps.toList →
    l.all (fun o => opOk E.ng o.op) = true → runOps E call all l A H = some (A', H') →
    (∀ ι' a' w', RVs ι' A' a'.tmps.toList → a'.defers = a.defers → Rel E ι' H' w' → Step ι H w ι' H' w' → Q .normal a' w') → wpList E.P all Q l a w
  | [], ι, H, w, A, a, h, _, hA, _, hr, hQ => by
    simp only [runOps] at hr
    injection hr with hr; injection hr with h1 h2; subst h1; subst h2
    exact hQ ι a w hA rfl h (Step.refl _ _ _)
  | o :: l, ι, H, w, A, a, h, hdm, hA, hok, hr, hQ => by
    simp only [runOps] at hr
    split at hr
    rotate_left
    · cases hr
    rename_i A1 H1 h1
    simp only [List.all_cons, Bool.and_eq_true] at hok
    refine wpList_step fun K hK => ?_
    refine runOp_sim hE hc h hdm hA hok.1 h1 (fun ι1 a1 w1 hA1 hd1 hR1 hS1 _ => hK _ _ ?_)
    exact runOps_sim hE hc hR1 (hdm.step hS1) hA1 hok.2 hr fun ι' a' w' hA' hd' hR' hS' => hQ ι' a' w' hA' (hd'.trans hd1) hR' (hS1.trans hS')

end
end AbsYtlmcjfnignbdoaa
