/-
  An abstract machine over the model's code, with one soundness theorem (AbsM.call_ok): part AMc.
-/
import Derived.Test.YtkhcbbpfchgemaaDoorAMb
import Derived.LoopN
import Derived.Scope
/-
 What the abstract machine does,the model does.
-/
namespace AbsYtkhcbbpfchgemaaDoor
set_option linter.unusedVariables false
set_option linter.unusedSimpArgs false
set_option linter.unusedSectionVars false
open Go

def opndOk (ng : Nat) : Operand → Bool
 | .const v => closedV v
 | .global g => Nat.blt g ng
 | _ => true
def opOk (ng : Nat) (op : Op) : Bool := op.operands.toList.all (opndOk ng)
theorem opOk_mem {ng : Nat} {op : Op} (h : opOk ng op = true) : ∀ x,x ∈ op.operands.toList → opndOk ng x = true := List.all_eq_true.1 h

section
variable {E : Env} {ι : Emb} {H H' : AHeap} {w : World}

theorem toList_getD (a : Array Value) (t : Nat) (d : Value) : a.getD t d = a.toList.getD t d := by
 simp [List.getD,Array.getD_eq_getD_getElem?]

theorem aev_sim (h : Rel E ι H w) {A : List Value} {a : Act} (hA : RVs ι A a.tmps.toList) {x : Operand} (hx : opndOk E.ng x = true) : RV ι (aev A x) (a.eval x) := by
 cases x with
 | tmp t =>
  simp only [aev,Act.eval,toList_getD]
  exact hA.getD t RV.undef
 | const v => exact RV.closed hx
 | global g =>
  have : g < E.ng := by simpa [opndOk,Nat.blt_eq] using hx
  obtain ⟨l,h1,h2,h3⟩ := h.glob g this
  have := RV.ptr (ι := ι) g 0 l h1
  rw [h2,h3] at this
  exact this
 | func f => exact .func _ [] [] [] [] .nil .nil

theorem pairs_sim (h : Rel E ι H w) {A : List Value} {a : Act} (hA : RVs ι A a.tmps.toList) {ps : Array (Nat × Operand)} (hx : (ps.toList.map (·.2)).all (opndOk E.ng) = true) :
  RPs ι (pairs A ps) (ps.toList.map fun p => (p.1,a.eval p.2)) := by
 refine ⟨by simp [pairs],?_⟩
 intro k p p' hp hp'
 simp only [pairs,List.getElem?_map] at hp hp'
 cases hq : ps.toList[k]? with
 | none => simp [hq] at hp
 | some q =>
  simp [hq] at hp hp'
  subst hp; subst hp'
  refine ⟨rfl,aev_sim h hA ?_⟩
  have : q ∈ ps.toList := List.mem_of_getElem? hq
  rw [List.all_eq_true] at hx
  exact hx _ (List.mem_map.2 ⟨q,this,rfl⟩)

theorem opt_sim (h : Rel E ι H w) {A : List Value} {a : Act} (hA : RVs ι A a.tmps.toList) {x : Option Operand} (hx : ∀ y,x = some y → opndOk E.ng y = true) : RO ι (x.map (aev A)) (x.map a.eval) := by
 cases x with
 | none => trivial
 | some y => exact aev_sim h hA (hx y rfl)

theorem args_sim (h : Rel E ι H w) {A : List Value} {a : Act} (hA : RVs ι A a.tmps.toList) {xs : List Operand} (hx : xs.all (opndOk E.ng) = true) : RVs ι (xs.map (aev A)) (xs.map a.eval) := by
 induction xs with
 | nil => exact .nil
 | cons x xs ih => simp at hx; exact .cons _ _ _ _ (aev_sim h hA hx.1) (ih (by simpa using hx.2))

theorem map_pairs {ρ : Operand → Value} {ps : Array (Nat × Operand)} {f : Nat × Operand → Nat × Value} (hf : ∀ p,f p = (p.1,ρ p.2)) : ps.map f = (ps.toList.map fun p => (p.1,ρ p.2)).toArray := by
 apply Array.ext'
 rw [Array.toList_map]
 exact List.map_congr_left fun p _ => hf p

def OpRuns (E : Env) (ι : Emb) (H : AHeap) (w : World) (s : Sem Next) (v : Value) (H' : AHeap) : Prop :=
 ∃ n v' w' ι',s.run E.P w = .ok n w' ∧ (n = .value v' ∨ (n = .skip ∧ v' = undef)) ∧ RV ι' v v' ∧ Rel E ι' H' w' ∧ Step ι H w ι' H' w'

theorem OpRuns.read (h : Rel E ι H w) {s : Sem Value} {v v' : Value} (hs : s.run E.P w = .ok v' w) (hv : RV ι v v') : OpRuns E ι H w (do pure (.value (← s))) v H :=
 ⟨.value v',v',w,ι,by simp [hs],.inl rfl,hv,h,Step.refl _ _ _⟩
theorem OpRuns.of {s : Sem Value} {v v' : Value} {w' : World} {ι' : Emb} (hs : s.run E.P w = .ok v' w') (hv : RV ι' v v') (hr : Rel E ι' H' w') (hst : Step ι H w ι' H' w') : OpRuns E ι H w (do pure (.value (← s))) v H' :=
 ⟨.value v',v',w',ι',by simp [hs],.inl rfl,hv,hr,hst⟩
theorem OpRuns.unit {s : Sem Unit} {w' : World} {ι' : Emb} (hs : s.run E.P w = .ok () w') (hr : Rel E ι' H' w') (hst : Step ι H w ι' H' w') : OpRuns E ι H w (do s; pure .skip) undef H' :=
 ⟨.skip,undef,w',ι',by simp [hs],.inr ⟨rfl,rfl⟩,RV.undef,hr,hst⟩

theorem vres_val {o : Option Value} {v : Value} (h : vres H o = some (.val v H')) : o = some v ∧ H' = H := by
 cases o <;> simp [vres] at h; exact ⟨by rw [h.1],h.2.symm⟩
theorem hres_val {o : Option (Value × AHeap)} {v : Value} (h : hres o = some (.val v H')) : o = some (v,H') := by
 cases o <;> simp [hres] at h; rename_i p; obtain ⟨h1,h2⟩ := h; rw [← h1,← h2]
theorem ures_val {o : Option AHeap} {v : Value} (h : ures o = some (.val v H')) : o = some H' ∧ v = undef := by
 cases o <;> simp [ures] at h; exact ⟨by rw [h.2],h.1.symm⟩

theorem vres_call {o : Option Value} {f : Nat} {args : List Value} : ¬ (vres H o = some (.call f args)) := by cases o <;> simp [vres]
theorem hres_call {o : Option (Value × AHeap)} {f : Nat} {args : List Value} : ¬ (hres o = some (.call f args)) := by cases o <;> simp [hres]
theorem ures_call {o : Option AHeap} {f : Nat} {args : List Value} : ¬ (ures o = some (.call f args)) := by cases o <;> simp [ures]

set_option maxHeartbeats 4000000 in
theorem aop_val (hE : TyOk E) (h : Rel E ι H w) (hfree : ι H.size = none) {A : List Value} {a : Act} (hA : RVs ι A a.tmps.toList) {o : Oper} (hok : opOk E.ng o.op = true) {v : Value} (hop : aop E A H o.op = some (.val v H')) :
  OpRuns E ι H w (execOp a.eval o) v H' := by
 obtain ⟨dst,op,type,pos,after,guard⟩ := o
 simp only at hop hok
 have ev : ∀ {x : Operand},opndOk E.ng x = true → RV ι (aev A x) (a.eval x) := fun hx => aev_sim h hA hx
 cases op <;> simp only [aop] at hop <;> try (cases hop; done)
 case move x =>
  simp [opOk,Op.operands] at hok
  injection hop with hop; injection hop with h1 h2; subst h1; subst h2
  exact ⟨_,_,w,ι,rfl,.inl rfl,ev hok,h,Step.refl _ _ _⟩
 case assign x =>
  simp [opOk,Op.operands] at hok
  injection hop with hop; injection hop with h1 h2; subst h1; subst h2
  exact ⟨_,_,w,ι,rfl,.inl rfl,ev hok,h,Step.refl _ _ _⟩
 case pick c x y =>
  simp [opOk,Op.operands] at hok
  obtain ⟨hc,hx,hy⟩ := hok
  split at hop
  ·rename_i t ht
   injection hop with hop; injection hop with h1 h2; subst h1; subst h2
   have hcv := ev hc
   rw [ht] at hcv
   generalize hcc : a.eval c = cv at hcv
   cases hcv
   refine ⟨.value (if t then a.eval x else a.eval y),_,w,ι,?_,.inl rfl,?_,h,Step.refl _ _ _⟩
   ·simp [execOp,hcc,asBool]
   ·cases t
    ·exact ev hy
    ·exact ev hx
  ·cases hop
 case alloc t =>
  split at hop
  ·rename_i z hz
   injection hop with hop; injection hop with h1 h2; subst h1; subst h2
   obtain ⟨i,zs,ht,hzs,rfl⟩ := azero_of hz
   obtain ⟨zv,hz1,hz2,hz9⟩ := run_zero hE ht w hzs
   obtain ⟨ι',h3,h4,h5⟩ := alloc_sim h hfree t (RVs.zeros (ι := ι) zs)
   refine OpRuns.of (s := Instr.alloc t true (.tuple #[])) ?_ h5 h3 h4
   simp only [Instr.alloc,Sem.run_bind,hz1,Result.andThen_ok,newVar,newRow,Go.run_newObj,Sem.run_pure]
   have : zv.cells = (zs.map ZV.val).toArray := by rw [← hz2]
   rw [this]; rfl
  ·cases hop
 case box t x =>
  simp [opOk,Op.operands] at hok
  injection hop with hop
  split at hop
  ·rename_i hdeep
   simp only [Bool.and_eq_true] at hdeep
   injection hop with h1 h2; subst h1; subst h2
   have hc := (ev hok).cells
   obtain ⟨hR,hS,hh⟩ := h.frozen (C := (a.eval x).cells.toList.toArray) (ty := t) (fz := (0,0)) (fun i v hv => by obtain ⟨v',h3,h4⟩ := hc.get i v hv; exact ⟨v',by simpa using h3,h4⟩) hdeep.2
   refine OpRuns.of (s := Instr.box t (a.eval x)) ?_ (.dptr _ w.heap.size 0 hh) hR hS
   simp [Instr.box,newVar,newRow]
  ·split at hop
   ·rename_i hdeep
    simp only [Bool.and_eq_true] at hdeep
    injection hop with h1 h2; subst h1; subst h2
    have hc := RVs.bareL (ev hok).cells
    obtain ⟨hR,hS,hh⟩ := h.frozen (C := (a.eval x).cells.toList.toArray) (ty := t) (fz := (0,0)) (fun i v hv => by obtain ⟨v',h3,h4⟩ := hc.get i v hv; exact ⟨v',by simpa using h3,h4⟩) hdeep.2
    refine OpRuns.of (s := Instr.box t (a.eval x)) ?_ (.dptr _ w.heap.size 0 hh) hR hS
    simp [Instr.box,newVar,newRow]
   ·injection hop with h1 h2; subst h1; subst h2
    obtain ⟨ι',h3,h4,h5⟩ := alloc_sim h hfree t (ev hok).cells
    refine OpRuns.of (s := Instr.box t (a.eval x)) ?_ h5 h3 h4
    simp [Instr.box,newVar,newRow]
 case build t ps =>
  obtain ⟨h1,rfl⟩ := vres_val hop
  obtain ⟨v',h2,h3⟩ := abuild_sim hE (pairs_sim h hA (by simpa [opOk,Op.operands] using hok)) h1 w
  refine ⟨.value v',v',w,ι,?_,.inl rfl,h3,h,Step.refl _ _ _⟩
  simp only [execOp,Sem.run_bind]
  rw [map_pairs (ρ := a.eval) (fun p => rfl),h2]; rfl
 case buildSlice t n ps =>
  have h1 := hres_val hop
  obtain ⟨v',w',ι',h2,h3,h4,h5⟩ := abuildSlice_sim hE h hfree (pairs_sim h hA (by simpa [opOk,Op.operands] using hok)) h1
  refine ⟨.value v',v',w',ι',?_,.inl rfl,h3,h4,h5⟩
  simp only [execOp,Sem.run_bind]
  rw [map_pairs (ρ := a.eval) (fun p => rfl),h2]; rfl
 case load t x =>
  simp [opOk,Op.operands] at hok
  obtain ⟨h1,rfl⟩ := vres_val hop
  obtain ⟨v',h2,h3⟩ := aload_sim hE h (ev hok) h1
  exact OpRuns.read h h2 h3
 case store t x y =>
  simp [opOk,Op.operands] at hok
  obtain ⟨h1,rfl⟩ := ures_val hop
  obtain ⟨w',h2,h3,h4⟩ := astore_sim hE h (ev hok.1) (ev hok.2) h1
  exact OpRuns.unit h2 h3 h4
 case nilCheck x =>
  simp [opOk,Op.operands] at hok
  have hx := ev hok
  split at hop
  ·rename_i ad hv
   injection hop with hop; injection hop with h1 h2; subst h1; subst h2
   rw [hv] at hx
   generalize hcc : a.eval x = xv at hx
   cases hx with | ptr b o l hb =>
   refine ⟨.value _,_,w,ι,?_,.inl rfl,.ptr b o l hb,h,Step.refl _ _ _⟩
   simp only [execOp,hcc]; rfl
  ·rename_i f fs cs hv
   injection hop with hop; injection hop with h1 h2; subst h1; subst h2
   rw [hv] at hx
   generalize hcc : a.eval x = xv at hx
   cases hx with | func _ xs ys xs' ys' hxs hys =>
   refine ⟨.value _,_,w,ι,?_,.inl rfl,.func _ _ _ _ _ hxs hys,h,Step.refl _ _ _⟩
   simp only [execOp,hcc]; rfl
  ·rename_i cs hv
   injection hop with hop; injection hop with h1 h2; subst h1; subst h2
   rw [hv] at hx
   generalize hcc : a.eval x = xv at hx
   cases hx with | dptr _ B o hh =>
   refine ⟨.value _,_,w,ι,?_,.inl rfl,.dptr _ B o hh,h,Step.refl _ _ _⟩
   simp only [execOp,hcc]; rfl
  ·cases hop
 case binOp op t x y u =>
  simp [opOk,Op.operands] at hok
  obtain ⟨h1,rfl⟩ := vres_val hop
  obtain ⟨v',h2,h3⟩ := abin_sim hE h (ev hok.1) (ev hok.2) h1
  exact OpRuns.read (s := do eqGuard op t x y (a.eval x) (a.eval y); binOp op t (a.eval x) (a.eval y)) h h2 h3
 case unOp op t x =>
  simp [opOk,Op.operands] at hok
  obtain ⟨h1,rfl⟩ := vres_val hop
  obtain ⟨v',h2,h3⟩ := aun_sim (P := E.P) (w := w) (ev hok) h1
  exact OpRuns.read h h2 h3
 case convert s d x =>
  simp [opOk,Op.operands] at hok
  have h1 := hres_val hop
  obtain ⟨v',w',ι',h2,h3,h4,h5⟩ := aconvert_sim hE h hfree (ev hok) h1
  exact OpRuns.of h2 h3 h4 h5
 case makeInterface t x =>
  simp [opOk,Op.operands] at hok
  split at hop
  rotate_left
  ·cases hop
  rename_i i ht
  split at hop
  ·cases hop
  ·rename_i hni
   injection hop with hop; injection hop with h1 h2; subst h1; subst h2
   obtain ⟨inf,d,h1,h2,h3,h4⟩ := ti_parts hE ht
   refine OpRuns.read (s := Instr.makeInterface t (a.eval x)) h ?_ (.iface t _ _ (ev hok))
   simp only [Instr.makeInterface,Sem.run_bind,run_und' w h2,Result.andThen_ok]
   cases d <;> first | rfl | (exfalso; exact hni _ (by rw [← h3]; rfl))
 case makeFunc fn fs cs =>
  cases fn <;> simp only at hop <;> try (cases hop; done)
  rename_i f
  injection hop with hop; injection hop with h1 h2; subst h1; subst h2
  have hf : fs.toList.all (opndOk E.ng) = true ∧ cs.toList.all (opndOk E.ng) = true := by
   have hm := opOk_mem hok
   simp only [Op.operands,Array.toList_append,List.mem_append] at hm
   exact ⟨List.all_eq_true.2 fun x hx => hm x (.inl hx),List.all_eq_true.2 fun x hx => hm x (.inr hx)⟩
  refine OpRuns.read (s := Instr.makeFunc (.func f) (fs.map a.eval) (cs.map a.eval)) h rfl ?_
  have e1 : fs.map (aev A) = ⟨fs.toList.map (aev A)⟩ := by apply Array.ext'; simp
  have e2 : cs.map (aev A) = ⟨cs.toList.map (aev A)⟩ := by apply Array.ext'; simp
  have e3 : fs.map a.eval = ⟨fs.toList.map a.eval⟩ := by apply Array.ext'; simp
  have e4 : cs.map a.eval = ⟨cs.toList.map a.eval⟩ := by apply Array.ext'; simp
  rw [e1,e2,e3,e4]
  exact .func _ _ _ _ _ (args_sim h hA hf.1) (args_sim h hA hf.2)
 case makeMap t r =>
  cases r <;> simp only at hop <;> try (cases hop; done)
  injection hop with hop; injection hop with h1 h2; subst h1; subst h2
  obtain ⟨h3,h4⟩ := h.allocMap hfree
  refine OpRuns.of (s := Instr.makeMap t none) (v' := .map (some w.heap.size)) ?_ (.map H.size ⟨w.heap.size,0,0,0⟩ (Emb.with_same _ _ _)) h3 h4
  simp [Instr.makeMap]
 case makeSlice t l c =>
  simp [opOk,Op.operands] at hok
  have h1 := hres_val hop
  obtain ⟨v',w',ι',h2,h3,h4,h5⟩ := amakeSlice_sim hE h hfree (ev hok.1) (ev hok.2) h1
  exact OpRuns.of h2 h3 h4 h5
 case slice t x lo hi mx =>
  obtain ⟨h1,rfl⟩ := vres_val hop
  have hx : opndOk E.ng x = true ∧ (∀ y,lo = some y → opndOk E.ng y = true) ∧ (∀ y,hi = some y → opndOk E.ng y = true) ∧ (∀ y,mx = some y → opndOk E.ng y = true) := by
   have hm := opOk_mem hok
   simp only [Op.operands,Array.toList_append,List.mem_append] at hm
   refine ⟨hm x (.inl (.inl (.inl (by simp)))),fun y e => hm y (.inl (.inl (.inr (by simp [e])))),fun y e => hm y (.inl (.inr (by simp [e]))),fun y e => hm y (.inr (by simp [e]))⟩
  obtain ⟨v',h2,h3⟩ := aslice_sim hE h (ev hx.1) (opt_sim h hA hx.2.1) (opt_sim h hA hx.2.2.1) (opt_sim h hA hx.2.2.2) h1
  exact OpRuns.read h h2 h3
 case fieldAddr s x f =>
  simp [opOk,Op.operands] at hok
  obtain ⟨h1,rfl⟩ := vres_val hop
  obtain ⟨v',h2,h3⟩ := afieldAddr_sim hE (ev hok) h1 w
  exact OpRuns.read h h2 h3
 case field s x f =>
  simp [opOk,Op.operands] at hok
  obtain ⟨h1,rfl⟩ := vres_val hop
  obtain ⟨v',h2,h3⟩ := afield_sim hE (ev hok) h1 w
  exact OpRuns.read h h2 h3
 case indexAddr t x i =>
  simp [opOk,Op.operands] at hok
  obtain ⟨h1,rfl⟩ := vres_val hop
  obtain ⟨v',h2,h3⟩ := aindexAddr_sim hE (ev hok.1) (ev hok.2) h1 w
  exact OpRuns.read h h2 h3
 case index t x i =>
  simp [opOk,Op.operands] at hok
  obtain ⟨h1,rfl⟩ := vres_val hop
  obtain ⟨v',h2,h3⟩ := aindex_sim hE (ev hok.1) (ev hok.2) h1 w
  exact OpRuns.read h h2 h3
 case lookup t m k ok =>
  simp [opOk,Op.operands] at hok
  obtain ⟨h1,rfl⟩ := vres_val hop
  obtain ⟨v',h2,h3⟩ := alookup_sim hE h (ev hok.1) (ev hok.2) h1
  exact OpRuns.read h h2 h3
 case mapUpdate t m k x =>
  simp [opOk,Op.operands] at hok
  obtain ⟨h1,rfl⟩ := ures_val hop
  obtain ⟨w',h2,h3,h4⟩ := amapUpdate_sim hE h (ev hok.1) (ev hok.2.1) (ev hok.2.2) h1
  exact OpRuns.unit h2 h3 h4
 case extract x i =>
  simp [opOk,Op.operands] at hok
  have hx := ev hok
  split at hop
  rotate_left
  ·cases hop
  rename_i vs hv
  obtain ⟨h1,rfl⟩ := vres_val hop
  rw [hv] at hx
  generalize hcc : a.eval x = xv at hx
  cases hx with | tuple xs xs' hxs =>
  obtain ⟨v',h2,h3⟩ := hxs.get i v (by simpa using h1)
  refine OpRuns.read (s := Instr.extract (a.eval x) i) h ?_ h3
  have : (⟨xs'⟩ : Array Value)[i]? = some v' := by simpa using h2
  simp [Instr.extract,hcc,this]
 case call c =>
  obtain ⟨callee,args,argTypes⟩ := c
  cases callee with
  | invoke r m => cases hop
  | value f =>
   simp only at hop
   split at hop
   ·cases hop
   ·cases hop
  | builtin b =>
   simp only at hop
   have h1 := hres_val hop
   have hargs : args.toList.all (opndOk E.ng) = true := by
    simp [opOk,Op.operands,Call.operands] at hok ⊢; exact hok
   obtain ⟨v',w',ι',h2,h3,h4,h5⟩ := abuiltin_sim (ty := type) (cs := args.map fun | .const _ => true | _ => false) hE h hfree (args_sim h hA hargs) h1
   refine ⟨.value v',v',w',ι',?_,.inl rfl,h3,h4,h5⟩
   have e1 : args.map a.eval = ⟨args.toList.map a.eval⟩ := by apply Array.ext'; simp
   simp only [execOp,resolve,Sem.run_bind,Sem.run_pure,Result.andThen_ok,invoke,e1]
   exact h2

theorem aop_call (h : Rel E ι H w) {A : List Value} {a : Act} (hA : RVs ι A a.tmps.toList) {o : Oper} (hok : opOk E.ng o.op = true) {f : Nat} {args : List Value} (hop : aop E A H o.op = some (.call f args)) :
  ∃ args',(execOp a.eval o).run E.P w = (callFunc f ⟨args'⟩).run E.P w ∧ RVs ι args args' := by
 obtain ⟨dst,op,type,pos,after,guard⟩ := o
 simp only at hop hok
 cases op <;> simp only [aop] at hop <;> try (cases hop; done)
 case call c =>
  obtain ⟨callee,cargs,argTypes⟩ := c
  cases callee with
  | invoke r m => cases hop
  | builtin b => simp only [hres] at hop; cases hb : abuiltin E H b argTypes.toList (cargs.toList.map (aev A)) <;> simp [hb] at hop
  | value fo =>
   simp only at hop
   have hfo : opndOk E.ng fo = true ∧ cargs.toList.all (opndOk E.ng) = true := by
    simp [opOk,Op.operands,Call.operands] at hok ⊢; exact hok
   have hf := aev_sim h hA hfo.1
   split at hop
   rotate_left
   ·cases hop
   rename_i g fs cs hv
   injection hop with hop; injection hop with h1 h2; subst h1; subst h2
   rw [hv] at hf
   generalize hcc : a.eval fo = fv at hf
   cases hf with | func _ xs ys xs' ys' hxs hys =>
   refine ⟨xs' ++ cargs.toList.map a.eval ++ ys',?_,(hxs.append (args_sim h hA hfo.2)).append hys⟩
   simp only [execOp,resolve,hcc,Deferred.ofValue,Sem.run_bind,Sem.run_pure,Result.andThen_ok,invoke]
   congr 2
   apply Array.ext'; simp
 case makeFunc fn fs cs => cases fn <;> simp only at hop <;> first | (cases hop; done) | (injection hop with hop; cases hop; done)
 case makeMap t r => cases r <;> simp only at hop <;> first | (cases hop; done) | (injection hop with hop; cases hop; done)
 all_goals first
  | exact absurd hop vres_call
  | exact absurd hop hres_call
  | exact absurd hop ures_call
  | (split at hop <;> first | exact absurd hop vres_call | (injection hop with hop; cases hop; done) | (cases hop; done) | (split at hop <;> first | (injection hop with hop; cases hop; done) | (cases hop; done)))
  | (injection hop with hop; cases hop; done)

def CallPost (E : Env) (ι : Emb) (H : AHeap) (w : World) (r : Value) (H' : AHeap) (e : Ending) (w' : World) : Prop :=
 ∃ r' ι',e = .returned r' ∧ RV ι' r r' ∧ Rel E ι' H' w' ∧ Step ι H w ι' H' w'
def CallSim (E : Env) (f : Nat) (args : List Value) (H : AHeap) (r : Value) (H' : AHeap) : Prop :=
 ∀ (ι : Emb) (w : World) (args' : List Value),Rel E ι H w → Dm ι H → RVs ι args args' →
  ((callFunc f ⟨args'⟩).run E.P w = .ok (.enter f ⟨args'⟩) w ∧ Calls E.P f ⟨args'⟩ w (CallPost E ι H w r H')) ∨
  ∃ r' w',(callFunc f ⟨args'⟩).run E.P w = .ok (.value r') w' ∧ CallPost E ι H w r H' (.returned r') w'

theorem yield_sim {all : Array Oper} {A : List Value} {tmps : Array Value} (hA : RVs ι A tmps.toList) (j : Nat) : ayield all A j = yielded all tmps j := by
 unfold ayield yielded
 cases hd : (all[j]?).bind (·.dst) with
 | none => simp
 | some d =>
  simp only [Option.bind_some]
  cases hv : A[d]? with
  | none =>
   have := hA.get_none d hv
   rw [Array.getElem?_toList] at this
   rw [this]
  | some v =>
   obtain ⟨v',h1,h2⟩ := hA.get d v hv
   rw [Array.getElem?_toList] at h1
   rw [h1]
   cases h2 <;> rfl

theorem put_sim {A : List Value} {a : Act} (hA : RVs ι A a.tmps.toList) {v v' : Value} (hv : RV ι v v') (dst : Option Tmp) : RVs ι (aput A dst v) (a.put dst v').tmps.toList := by
 cases dst with
 | none => exact hA
 | some d => simp only [aput,Act.put,Array.toList_setIfInBounds]; exact hA.set d hv
theorem put_defers (a : Act) (dst : Option Tmp) (v : Value) : (a.put dst v).defers = a.defers := by cases dst <;> rfl

structure CallOk (E : Env) (call : Call) : Prop where
 grow : ∀ f args H r H',call f args H = some (r,H') → H.size ≤ H'.size
 sim : ∀ f args H r H',call f args H = some (r,H') → CallSim E f args H r H'

theorem runOp_sim (hE : TyOk E) {call : Call} (hc : CallOk E call) (h : Rel E ι H w) (hdm : Dm ι H) {A A' : List Value} {a : Act} (hA : RVs ι A a.tmps.toList) {all : Array Oper} {o : Oper} (hok : opOk E.ng o.op = true)
  (hr : runOp E call all o A H = some (A',H')) {K : Act → World → Prop} {Q : Exit → Act → World → Prop}
  (hK : ∀ ι' a' w',RVs ι' A' a'.tmps.toList → a'.defers = a.defers → Rel E ι' H' w' → Step ι H w ι' H' w' → (∃ v',a' = a.put o.dst v') → K a' w') :
  if Region.wanted o (yielded all a.tmps) then o.wp E.P a w K Q else K (a.put o.dst undef) w := by
 unfold runOp at hr
 have hy : ayield all A = yielded all a.tmps := funext fun j => yield_sim hA j
 rw [hy] at hr
 split at hr
 ·rename_i hw
  rw [if_pos hw]
  split at hr
  ·cases hr
  ·rename_i v H1 hop
   injection hr with hr; injection hr with h1 h2; subst h1; subst h2
   obtain ⟨n,v',w',ι',hrun,hn,hv,hR,hS⟩ := aop_val hE h hdm.free hA hok hop
   simp only [Oper.wp,hrun]
   rcases hn with rfl | ⟨rfl,rfl⟩
   ·exact hK ι' _ w' (put_sim (hA.mono hS.ext) hv o.dst) (put_defers _ _ _) hR hS ⟨v',rfl⟩
   ·exact hK ι' _ w' (put_sim (hA.mono hS.ext) hv o.dst) (put_defers _ _ _) hR hS ⟨undef,rfl⟩
  ·rename_i f args hop
   split at hr
   ·rename_i v H1 hcall
    injection hr with hr; injection hr with h1 h2; subst h1; subst h2
    obtain ⟨args',hrun,hargs⟩ := aop_call h hA hok hop
    rcases hc.sim _ _ _ _ _ hcall ι w args' h hdm hargs with ⟨hen,hcl⟩ | ⟨r',w',hen,v',ι',he,hv,hR,hS⟩
    ·simp only [Oper.wp,hrun,hen,Oper.upon_enter]
     refine hcl.mono ?_
     rintro e w' ⟨v',ι',rfl,hv,hR,hS⟩
     exact hK ι' _ w' (put_sim (hA.mono hS.ext) hv o.dst) (put_defers _ _ _) hR hS ⟨v',rfl⟩
    ·injection he with he; subst he
     simp only [Oper.wp,hrun,hen,Oper.upon_value]
     exact hK ι' _ w' (put_sim (hA.mono hS.ext) hv o.dst) (put_defers _ _ _) hR hS ⟨r',rfl⟩
   ·cases hr
 ·rename_i hw
  rw [if_neg hw]
  injection hr with hr; injection hr with h1 h2; subst h1; subst h2
  exact hK ι _ w (put_sim hA RV.undef o.dst) (put_defers _ _ _) h (Step.refl _ _ _) ⟨undef,rfl⟩

theorem runOps_sim (hE : TyOk E) {call : Call} (hc : CallOk E call) {all : Array Oper} {Q : Exit → Act → World → Prop} {A' : List Value} : ∀ {l : List Oper} {ι : Emb} {H : AHeap} {w : World} {A : List Value} {a : Act},Rel E ι H w → Dm ι H → RVs ι A a.tmps.toList →
  l.all (fun o => opOk E.ng o.op) = true → runOps E call all l A H = some (A',H') →
  (∀ ι' a' w',RVs ι' A' a'.tmps.toList → a'.defers = a.defers → Rel E ι' H' w' → Step ι H w ι' H' w' → Q .normal a' w') → wpList E.P all Q l a w
 | [],ι,H,w,A,a,h,_,hA,_,hr,hQ => by
  simp only [runOps] at hr
  injection hr with hr; injection hr with h1 h2; subst h1; subst h2
  exact hQ ι a w hA rfl h (Step.refl _ _ _)
 | o :: l,ι,H,w,A,a,h,hdm,hA,hok,hr,hQ => by
  simp only [runOps] at hr
  split at hr
  rotate_left
  ·cases hr
  rename_i A1 H1 h1
  simp only [List.all_cons,Bool.and_eq_true] at hok
  refine wpList_step fun K hK => ?_
  refine runOp_sim hE hc h hdm hA hok.1 h1 (fun ι1 a1 w1 hA1 hd1 hR1 hS1 _ => hK _ _ ?_)
  exact runOps_sim hE hc hR1 (hdm.step hS1) hA1 hok.2 hr fun ι' a' w' hA' hd' hR' hS' => hQ ι' a' w' hA' (hd'.trans hd1) hR' (hS1.trans hS')

end
end AbsYtkhcbbpfchgemaaDoor

/-
 What an operation looks at,and what it leaves alone.
-/
namespace AbsYtkhcbbpfchgemaaDoor
set_option linter.unusedVariables false
set_option linter.unusedSimpArgs false
set_option linter.unusedSectionVars false
open Go

section
variable {E : Env} {ι : Emb} {H H' K : AHeap} {w : World}

theorem pairs_congr {A B : List Value} {ps : Array (Nat × Operand)} (h : ∀ x ∈ ps.toList.map (·.2),aev A x = aev B x) : pairs A ps = pairs B ps :=
 List.map_congr_left fun p hp => by rw [h p.2 (List.mem_map.2 ⟨p,hp,rfl⟩)]
theorem amap_congr {A B : List Value} {xs : Array Operand} (h : ∀ x ∈ xs.toList,aev A x = aev B x) : xs.map (aev A) = xs.map (aev B) := by
 apply Array.ext'; simp only [Array.toList_map]; exact List.map_congr_left h
theorem lmap_congr {A B : List Value} {xs : List Operand} (h : ∀ x ∈ xs,aev A x = aev B x) : xs.map (aev A) = xs.map (aev B) := List.map_congr_left h
theorem omap_congr {A B : List Value} {x : Option Operand} (h : ∀ y,x = some y → aev A y = aev B y) : x.map (aev A) = x.map (aev B) := by
 cases x with
 | none => rfl
 | some y => simp [h y rfl]

theorem aop_congr {A B : List Value} {op : Op} (h : ∀ x ∈ op.operands.toList,aev A x = aev B x) : aop E A H op = aop E B H op := by
 cases op <;> simp only [aop] <;> simp only [Op.operands] at h
 case build t ps => rw [pairs_congr (by simpa using h)]
 case buildSlice t n ps => rw [pairs_congr (by simpa using h)]
 case makeFunc fn fs cs =>
  simp only [Array.toList_append,List.mem_append] at h
  cases fn <;> simp only [amap_congr (A := A) (B := B) (xs := fs) fun x hx => h x (.inl hx),amap_congr (A := A) (B := B) (xs := cs) fun x hx => h x (.inr hx)]
 case slice t x lo hi mx =>
  simp only [Array.toList_append,List.mem_append] at h
  rw [h x (.inl (.inl (.inl (by simp)))),omap_congr (x := lo) fun y e => h y (.inl (.inl (.inr (by simp [e])))),omap_congr (x := hi) fun y e => h y (.inl (.inr (by simp [e]))),
   omap_congr (x := mx) fun y e => h y (.inr (by simp [e]))]
 case makeMap t r => cases r <;> rfl
 case call c =>
  obtain ⟨callee,args,tys⟩ := c
  cases callee with
  | invoke r m => rfl
  | builtin b =>
   simp only [Call.operands] at h
   rw [lmap_congr (A := A) (B := B) (xs := args.toList) fun x hx => h x (by simpa using hx)]
  | value f =>
   simp only [Call.operands] at h
   simp only [lmap_congr (A := A) (B := B) (xs := args.toList) fun x hx => h x (by simp; exact .inr (by simpa using hx)),h f (by simp)]
 all_goals first
  | rfl
  | (simp at h; simp only [h])

structure Loc1 (H H' K : AHeap) (K' : AHeap) : Prop where
 size : K'.size = H'.size
 grow : H.size ≤ H'.size
 old : ∀ b,b < H.size → K'.get b = K.get b
 old' : ∀ b,b < H.size → H'.get b = H.get b
 new : ∀ b,H.size ≤ b → b < H'.size → K'.get b = H'.get b

theorem Loc1.refl (hs : K.size = H.size) : Loc1 H H K K := ⟨hs,Nat.le_refl _,fun _ _ => rfl,fun _ _ => rfl,fun b h h' => by omega⟩
theorem Loc1.alloc (hs : K.size = H.size) (o : AObj) : Loc1 H (H.alloc o) K (K.alloc o) where
 size := by simp [AHeap.size_alloc,hs]
 grow := by simp [AHeap.size_alloc]
 old b hb := AHeap.get_alloc_ne _ _ (by omega)
 old' b hb := AHeap.get_alloc_ne _ _ (by omega)
 new b h h' := by
  rw [AHeap.size_alloc] at h'
  have : b = H.size := by omega
  subst this
  rw [AHeap.get_alloc_same]
  rw [← hs,AHeap.get_alloc_same]

def LocOk (E : Env) (A : List Value) (op : Op) (v : Value) (H H' K : AHeap) : Prop := ∃ K',aop E A K op = some (.val v K') ∧ Loc1 H H' K K'

theorem loc_vres {f : AHeap → Option Value} {v : Value} (hs : K.size = H.size) (he : f K = f H) (h : vres H (f H) = some (.val v H')) :
  ∃ K',vres K (f K) = some (.val v K') ∧ Loc1 H H' K K' := by
 obtain ⟨h1,rfl⟩ := vres_val h
 exact ⟨K,by rw [he,h1]; rfl,Loc1.refl hs⟩

theorem oszeq_symm {a b : AObj} (h : oszeq a b = true) : oszeq b a = true := by
 cases a <;> cases b <;> simp [oszeq] at h ⊢; exact h.symm
theorem oszeq_trans {a b c : AObj} (h : oszeq a b = true) (h' : oszeq b c = true) : oszeq a c = true := by
 cases a <;> cases b <;> cases c <;> simp [oszeq] at h h' ⊢; exact h.trans h'
theorem oszeq_refl (a : AObj) : oszeq a a = true := by cases a <;> simp [oszeq]

theorem aslice_congr {t : Nat} {x : Value} {lo hi mx : Option Value} (hz : ∀ b ∈ blkOf x,∀ n,szOk K b n = szOk H b n) : aslice E K t x lo hi mx = aslice E H t x lo hi mx := by
 unfold aslice
 split
 ·rfl
 ·rename_i i hi
  split <;> try rfl
  ·rename_i e b o ex len c _
   simp only [hz b (by simp [blkOf])]
  ·rename_i n e b o _
   simp only [hz b (by simp [blkOf])]

theorem aeq_congr : ∀ (d t : Nat) (x y : Value),(∀ b ∈ blkOf x,K.get b = H.get b) → (∀ b ∈ blkOf y,K.get b = H.get b) → aeq E K d t x y = aeq E H d t x y := by
 intro d t x y hx hy
 cases d with
 | zero => rfl
 | succ d =>
  unfold aeq
  split
  ·rfl
  ·split <;> try rfl
   rename_i e a o b p _
   simp only [hx a (by simp [blkOf]),hy b (by simp [blkOf])]

theorem alookup_congr {t : Nat} {m k : Value} {ok : Bool} (h : ∀ b ∈ blkOf m,K.get b = H.get b) : alookup E K t m k ok = alookup E H t m k ok := by
 unfold alookup
 split <;> try rfl
 split <;> try rfl
 split <;> try rfl
 rename_i r
 rw [h r (by simp [blkOf])]

theorem aload_congr {t : Nat} {x : Value} (h : ∀ b ∈ blkOf x,K.get b = H.get b) : aload E K t x = aload E H t x := by
 unfold aload
 split <;> try rfl
 rename_i b o
 rw [h b (by simp [blkOf])]

theorem takeCells_congr {b o n : Nat} (h : K.get b = H.get b) : takeCells K b o n = takeCells H b o n := by
 unfold takeCells; rw [h]

theorem abin_congr {op : BinOp} {t : Nat} {cs : Bool} {x y : Value} (h : isEq op = true → ∀ b ∈ blkOf x ++ blkOf y,K.get b = H.get b) : abin E K op t cs x y = abin E H op t cs x y := by
 have key : isEq op = true → aeq E K 64 t x y = aeq E H 64 t x y := fun hop =>
  aeq_congr _ _ _ _ (fun b hb => h hop b (by simp [hb])) (fun b hb => h hop b (by simp [hb]))
 unfold abin
 split <;> try rfl
 split <;> try rfl
 split
 ·rw [key rfl]
 ·rw [key rfl]
 ·rfl

theorem aop_local {A : List Value} {op : Op} {v : Value} (hM : isM op = false) (h : aop E A H op = some (.val v H')) (hs : K.size = H.size)
  (hr : ∀ b ∈ reads A op,if looksWeak op then ∀ n,szOk K b n = szOk H b n else K.get b = H.get b) : LocOk E A op v H H' K := by
 unfold LocOk
 cases op <;> simp only [isM] at hM <;> try (cases hM; done)
 all_goals simp only [aop] at h ⊢
 all_goals try (cases h; done)
 case move x => injection h with h; injection h with h1 h2; subst h1; subst h2; exact ⟨K,rfl,Loc1.refl hs⟩
 case assign x => injection h with h; injection h with h1 h2; subst h1; subst h2; exact ⟨K,rfl,Loc1.refl hs⟩
 case pick c x y =>
  split at h
  ·injection h with h; injection h with h1 h2; subst h1; subst h2; exact ⟨K,rfl,Loc1.refl hs⟩
  ·cases h
 case alloc t =>
  split at h
  ·injection h with h; injection h with h1 h2; subst h1; subst h2; exact ⟨_,by rw [hs],Loc1.alloc hs _⟩
  ·cases h
 case box t x =>
  injection h with h
  split at h
  ·rename_i hc; injection h with h1 h2; subst h1; subst h2; exact ⟨K,by rw [if_pos hc],Loc1.refl hs⟩
  ·rename_i hc
   split at h
   ·rename_i hc2; injection h with h1 h2; subst h1; subst h2; exact ⟨K,by rw [if_neg hc,if_pos hc2],Loc1.refl hs⟩
   ·rename_i hc2; injection h with h1 h2; subst h1; subst h2; exact ⟨_,by rw [if_neg hc,if_neg hc2,hs],Loc1.alloc hs _⟩
 case build t ps => exact loc_vres (f := fun _ => abuild E t (pairs A ps)) hs rfl h
 case buildSlice t n ps =>
  have h1 := hres_val h
  unfold abuildSlice at h1 ⊢
  split at h1 <;> try (cases h1; done)
  split at h1 <;> try (cases h1; done)
  rename_i e _ _ _ _ ht j z hj hz
  split at h1 <;> try (cases h1; done)
  rename_i hc
  rw [if_neg hc]
  cases hl : lfill (fun k => some (k * j.size,j.size)) (reps z n) (pairs A ps) with
  | none => simp [hl] at h1
  | some cs =>
   simp only [hl,Option.map_some,Option.some.injEq] at h1
   split at h1
   ·rename_i hd
    injection h1 with h1 h2; subst h1; subst h2
    exact ⟨K,by simp only [Option.map_some,if_pos hd]; rfl,Loc1.refl hs⟩
   ·rename_i hd
    injection h1 with h1 h2; subst h1; subst h2
    exact ⟨K.alloc (.cells cs true j.size),by simp only [Option.map_some,if_neg hd,hs]; rfl,Loc1.alloc hs _⟩
 case load t x =>
  simp only [reads,looksWeak] at hr
  exact loc_vres (f := fun H => aload E H t (aev A x)) hs (aload_congr fun b hb => by simpa using hr b hb) h
 case nilCheck x =>
  split at h
  ·injection h with h; injection h with h1 h2; subst h1; subst h2; exact ⟨K,rfl,Loc1.refl hs⟩
  ·injection h with h; injection h with h1 h2; subst h1; subst h2; exact ⟨K,rfl,Loc1.refl hs⟩
  ·injection h with h; injection h with h1 h2; subst h1; subst h2; exact ⟨K,rfl,Loc1.refl hs⟩
  ·cases h
 case binOp op t x y u =>
  refine loc_vres hs (f := fun H => abin E H op t (isConst x || isConst y) (aev A x) (aev A y)) (abin_congr fun hop b hb => ?_) h
  simpa [looksWeak] using hr b (by simpa only [reads,hop,if_true] using hb)
 case unOp op t x => exact loc_vres (f := fun _ => aun op (aev A x)) hs rfl h
 case convert s d x =>
  simp only [reads,looksWeak] at hr
  have h1 := hres_val h
  have hr' : ∀ b ∈ blkOf (aev A x),K.get b = H.get b := fun b hb => by simpa using hr b hb
  unfold aconvert at h1 ⊢
  split at h1 <;> try (cases h1; done)
  rename_i i j hi hj
  split at h1 <;> try (cases h1; done)
  ·simp only [Option.some.injEq,Prod.mk.injEq] at h1
   obtain ⟨rfl,rfl⟩ := h1
   exact ⟨K,rfl,Loc1.refl hs⟩
  ·simp only [Option.some.injEq,Prod.mk.injEq] at h1
   obtain ⟨rfl,rfl⟩ := h1
   exact ⟨K,rfl,Loc1.refl hs⟩
  ·split at h1 <;> try (cases h1; done)
   injection h1 with h1
   split at h1
   ·rename_i hd
    injection h1 with h1 h2; subst h1; subst h2
    exact ⟨K,by simp only [if_pos hd]; rfl,Loc1.refl hs⟩
   ·rename_i hd
    injection h1 with h1 h2; subst h1; subst h2
    exact ⟨_,by simp only [if_neg hd,hs]; rfl,Loc1.alloc hs _⟩
  ·split at h1 <;> try (cases h1; done)
   simp only [Option.some.injEq,Prod.mk.injEq] at h1
   obtain ⟨rfl,rfl⟩ := h1
   exact ⟨K,rfl,Loc1.refl hs⟩
  ·rename_i b o ex n c _ _ hx
   split at h1 <;> try (cases h1; done)
   rw [takeCells_congr (K := K) (H := H) (hr' b (by rw [hx]; simp [blkOf]))]
   split at h1 <;> try (cases h1; done)
   rename_i l hl
   cases hm : l.mapM byteOfV with
   | none => simp [hm] at h1
   | some bs =>
    simp only [hm,Option.map_some,Option.some.injEq,Prod.mk.injEq] at h1
    obtain ⟨rfl,rfl⟩ := h1
    exact ⟨K,by simp [hres,hm],Loc1.refl hs⟩
  ·split at h1 <;> try (cases h1; done)
   split at h1 <;> try (cases h1; done)
   rename_i hz
   simp only [Option.map_eq_some_iff,Prod.mk.injEq] at h1
   obtain ⟨bs,hm,rfl,rfl⟩ := h1
   exact ⟨K,by simp only [if_pos hz,hm,Option.map_some]; rfl,Loc1.refl hs⟩
 case makeInterface t x =>
  split at h
  rotate_left
  ·cases h
  ·split at h
   ·cases h
   ·injection h with h; injection h with h1 h2; subst h1; subst h2; exact ⟨K,rfl,Loc1.refl hs⟩
 case makeFunc fn fs cs =>
  cases fn <;> simp only at h <;> try (cases h; done)
  injection h with h; injection h with h1 h2; subst h1; subst h2; exact ⟨K,rfl,Loc1.refl hs⟩
 case makeMap t r =>
  cases r <;> simp only at h <;> try (cases h; done)
  injection h with h; injection h with h1 h2; subst h1; subst h2; exact ⟨_,by rw [hs],Loc1.alloc hs _⟩
 case makeSlice t l c =>
  have h1 := hres_val h
  unfold amakeSlice at h1 ⊢
  split at h1 <;> try (cases h1; done)
  split at h1 <;> try (cases h1; done)
  split at h1 <;> try (cases h1; done)
  simp only [Option.some.injEq,Prod.mk.injEq] at h1
  obtain ⟨rfl,rfl⟩ := h1
  rename_i hc
  exact ⟨_,by rw [if_pos hc,hs]; rfl,Loc1.alloc hs _⟩
 case slice t x lo hi mx =>
  simp only [reads,looksWeak] at hr
  exact loc_vres (f := fun H => aslice E H t (aev A x) (lo.map (aev A)) (hi.map (aev A)) (mx.map (aev A))) hs (aslice_congr fun b hb => by simpa using hr b hb) h
 case fieldAddr s x f => exact loc_vres (f := fun _ => afieldAddr E s (aev A x) f) hs rfl h
 case field s x f => exact loc_vres (f := fun _ => afield E s (aev A x) f) hs rfl h
 case indexAddr t x i => exact loc_vres (f := fun _ => aindexAddr E t (aev A x) (aev A i)) hs rfl h
 case index t x i => exact loc_vres (f := fun _ => aindex E t (aev A x) (aev A i)) hs rfl h
 case lookup t m k ok =>
  simp only [reads,looksWeak] at hr
  exact loc_vres (f := fun H => alookup E H t (aev A m) (aev A k) ok) hs (alookup_congr fun b hb => by simpa using hr b hb) h
 case extract x i =>
  split at h
  rotate_left
  ·cases h
  ·rename_i vs _; exact loc_vres (f := fun _ => vs[i]?) hs rfl h
 case call c =>
  obtain ⟨callee,args,tys⟩ := c
  cases callee with
  | invoke r m => cases h
  | value f => cases hM
  | builtin b =>
   simp only at h ⊢
   cases b <;> simp only at hM <;> try (cases hM; done)
   case min =>
    have h1 := hres_val h
    simp only [abuiltin] at h1 ⊢
    cases hm : aminmax true (args.toList.map (aev A)) with
    | none => simp [hm] at h1
    | some u =>
     simp only [hm,Option.map_some,Option.some.injEq,Prod.mk.injEq] at h1
     obtain ⟨rfl,rfl⟩ := h1
     exact ⟨K,by simp [hres],Loc1.refl hs⟩
   case max =>
    have h1 := hres_val h
    simp only [abuiltin] at h1 ⊢
    cases hm : aminmax false (args.toList.map (aev A)) with
    | none => simp [hm] at h1
    | some u =>
     simp only [hm,Option.map_some,Option.some.injEq,Prod.mk.injEq] at h1
     obtain ⟨rfl,rfl⟩ := h1
     exact ⟨K,by simp [hres],Loc1.refl hs⟩
   case len =>
    have h1 := hres_val h
    have hr' : ∀ b ∈ (args.toList.map (aev A)).flatMap blkOf,K.get b = H.get b := fun b hb => by
     have := hr b (by simpa [reads,List.flatMap_map] using hb)
     simpa [looksWeak] using this
    generalize args.toList.map (aev A) = vs at h1 hr' ⊢
    unfold abuiltin at h1 ⊢
    split at h1 <;> try (cases h1; done)
    ·split at h1 <;> try (cases h1; done)
     split at h1 <;> try (cases h1; done)
     simp only [Option.some.injEq,Prod.mk.injEq] at h1
     obtain ⟨rfl,rfl⟩ := h1
     exact ⟨K,rfl,Loc1.refl hs⟩
    ·split at h1 <;> try (cases h1; done)
     split at h1 <;> try (cases h1; done)
     simp only [Option.some.injEq,Prod.mk.injEq] at h1
     obtain ⟨rfl,rfl⟩ := h1
     exact ⟨K,rfl,Loc1.refl hs⟩
    ·split at h1 <;> try (cases h1; done)
     split at h1 <;> try (cases h1; done)
     simp only [Option.some.injEq,Prod.mk.injEq] at h1
     obtain ⟨rfl,rfl⟩ := h1
     exact ⟨K,rfl,Loc1.refl hs⟩
    ·split at h1 <;> try (cases h1; done)
     split at h1 <;> try (cases h1; done)
     simp only [Option.some.injEq,Prod.mk.injEq] at h1
     obtain ⟨rfl,rfl⟩ := h1
     exact ⟨K,rfl,Loc1.refl hs⟩
    ·have hrr := hr' _ (by simp only [blkOf,List.flatMap_cons,List.flatMap_nil,List.append_nil]; exact List.mem_singleton_self _)
     rw [hrr]
     split at h1 <;> try (cases h1; done)
     split at h1 <;> try (cases h1; done)
     simp only [Option.some.injEq,Prod.mk.injEq] at h1
     obtain ⟨rfl,rfl⟩ := h1
     exact ⟨K,rfl,Loc1.refl hs⟩
    all_goals first | (rename_i heq _; cases heq; done) | (rename_i heq; cases heq; done) | skip

end
end AbsYtkhcbbpfchgemaaDoor

/-
 Operations,one at a time: the heap grows; only an operation's own operands need be known.
-/
namespace AbsYtkhcbbpfchgemaaDoor
set_option linter.unusedVariables false
set_option linter.unusedSimpArgs false
set_option linter.unusedSectionVars false
open Go

section
variable {E : Env} {ι : Emb} {H H' K : AHeap} {w : World}

theorem astoreAt_size {b o : Nat} {xs : List Value} (h : astoreAt H b o xs = some H') : H'.size = H.size := by
 unfold astoreAt at h
 split at h <;> try (cases h; done)
 split at h <;> try (cases h; done)
 injection h with h; subst h; rfl

theorem aappend_size {ts : List Nat} {args : List Value} {v : Value} (h : aappend E H ts args = some (v,H')) : H.size ≤ H'.size := by
 unfold aappend at h
 split at h <;> try (cases h; done)
 split at h <;> try (cases h; done)
 split at h <;> try (cases h; done)
 split at h <;> try (cases h; done)
 split at h <;> try (cases h; done)
 split at h <;> try (cases h; done)
 ·split at h
  ·injection h with h; injection h with _ h; subst h; exact Nat.le_refl _
  ·split at h <;> try (cases h; done)
   split at h
   ·split at h <;> try (cases h; done)
    injection h with h; injection h with _ h; subst h; exact Nat.le_succ _
   ·injection h with h; injection h with _ h; subst h; exact Nat.le_succ _
 ·split at h
  ·split at h <;> try (cases h; done)
   split at h <;> try (cases h; done)
   split at h
   ·injection h with h; injection h with _ h; subst h; exact Nat.le_refl _
   ·simp only [Option.map_eq_some_iff,Prod.mk.injEq] at h
    obtain ⟨H1,h1,_,h2⟩ := h
    subst h2; rw [astoreAt_size h1]; exact Nat.le_refl _
  ·split at h <;> try (cases h; done)
   split at h <;> try (cases h; done)
   ·simp only [Option.map_eq_some_iff,Prod.mk.injEq] at h
    obtain ⟨H1,h1,_,h2⟩ := h
    subst h2; exact Nat.le_succ _
   ·split at h <;> try (cases h; done)
    split at h <;> try (cases h; done)
    injection h with h; injection h with _ h; subst h; exact Nat.le_succ _
 ·split at h <;> try (cases h; done)
  split at h
  ·injection h with h; injection h with _ h; subst h; exact Nat.le_refl _
  ·split at h <;> try (cases h; done)
   split at h <;> try (cases h; done)
   ·injection h with h; injection h with _ h; subst h; exact Nat.le_succ _
   ·split at h <;> try (cases h; done)
    split at h <;> try (cases h; done)
    injection h with h; injection h with _ h; subst h; exact Nat.le_succ _

theorem abuiltin_size {b : Builtin} {ts : List Nat} {args : List Value} {v : Value} (h : abuiltin E H b ts args = some (v,H')) : H.size ≤ H'.size := by
 unfold abuiltin at h
 split at h <;> try (cases h; done)
 ·split at h <;> try (cases h; done)
  split at h <;> try (cases h; done)
  injection h with h; injection h with _ h; subst h; exact Nat.le_refl _
 ·split at h <;> try (cases h; done)
  split at h <;> try (cases h; done)
  injection h with h; injection h with _ h; subst h; exact Nat.le_refl _
 ·split at h <;> try (cases h; done)
  split at h <;> try (cases h; done)
  injection h with h; injection h with _ h; subst h; exact Nat.le_refl _
 ·split at h <;> try (cases h; done)
  split at h <;> try (cases h; done)
  injection h with h; injection h with _ h; subst h; exact Nat.le_refl _
 ·split at h <;> try (cases h; done)
  split at h <;> try (cases h; done)
  injection h with h; injection h with _ h; subst h; exact Nat.le_refl _
 ·exact aappend_size h
 ·simp only [Option.map_eq_some_iff,Prod.mk.injEq] at h
  obtain ⟨_,_,_,h2⟩ := h; subst h2; exact Nat.le_refl _
 ·simp only [Option.map_eq_some_iff,Prod.mk.injEq] at h
  obtain ⟨_,_,_,h2⟩ := h; subst h2; exact Nat.le_refl _
 ·split at h <;> try (cases h; done)
  simp only [Option.map_eq_some_iff,Prod.mk.injEq] at h
  obtain ⟨H1,h1,_,h2⟩ := h; subst h2
  unfold adelete at h1
  split at h1 <;> try (cases h1; done)
  split at h1 <;> try (cases h1; done)
  ·injection h1 with h1; subst h1; exact Nat.le_refl _
  ·split at h1 <;> try (cases h1; done)
   split at h1 <;> try (cases h1; done)
   ·injection h1 with h1; subst h1; exact Nat.le_refl _
   ·injection h1 with h1; subst h1; exact Nat.le_refl _
 ·split at h <;> try (cases h; done)
  split at h <;> try (cases h; done)
  split at h <;> try (cases h; done)
  split at h <;> try (cases h; done)
  ·split at h <;> try (cases h; done)
   injection h with h; injection h with _ h; subst h; exact Nat.le_refl _
  ·simp only [Option.map_eq_some_iff,Prod.mk.injEq] at h
   obtain ⟨H1,h1,_,h2⟩ := h
   subst h2; rw [astoreAt_size h1]; exact Nat.le_refl _

theorem aop_size {A : List Value} {op : Op} {v : Value} (h : aop E A H op = some (.val v H')) : H.size ≤ H'.size := by
 cases hM : isM op with
 | false =>
  obtain ⟨K',_,hl⟩ := aop_local (K := H) hM h rfl (fun b hb => by split <;> intros <;> rfl)
  exact hl.grow
 | true =>
  cases op <;> simp only [isM] at hM <;> try (cases hM; done)
  case store t x y =>
   obtain ⟨h1,rfl⟩ := ures_val h
   unfold astore at h1
   split at h1 <;> try (cases h1; done)
   split at h1 <;> try (cases h1; done)
   rw [astoreAt_size h1]; exact Nat.le_refl _
  case mapUpdate t m k x =>
   obtain ⟨h1,rfl⟩ := ures_val h
   unfold amapUpdate at h1
   split at h1 <;> try (cases h1; done)
   split at h1 <;> try (cases h1; done)
   split at h1 <;> try (cases h1; done)
   ·injection h1 with h1; subst h1; exact Nat.le_refl _
   ·injection h1 with h1; subst h1; exact Nat.le_refl _
  case call c =>
   obtain ⟨callee,args,tys⟩ := c
   cases callee with
   | invoke r m => cases h
   | value f => simp only [aop] at h; split at h <;> cases h
   | builtin b => exact abuiltin_size (hres_val h)
  all_goals cases h

theorem runOp_size {call : Call} (hc : CallOk E call) {all : Array Oper} {o : Oper} {A A' : List Value} (h : runOp E call all o A H = some (A',H')) : H.size ≤ H'.size := by
 unfold runOp at h
 split at h
 ·split at h
  ·cases h
  ·rename_i hop
   injection h with h; injection h with _ h; subst h
   exact aop_size hop
  ·split at h
   ·rename_i hcall
    injection h with h; injection h with _ h; subst h
    exact hc.grow _ _ _ _ _ hcall
   ·cases h
 ·injection h with h; injection h with _ h; subst h; exact Nat.le_refl _

def keeps (S : List Nat) (vs : List Value) : List Value := vs.zipIdx.map fun p => if S.contains p.2 then p.1 else undef
theorem keeps_length (S : List Nat) (vs : List Value) : (keeps S vs).length = vs.length := by simp [keeps]
theorem keeps_get (S : List Nat) (vs : List Value) (t : Nat) : (keeps S vs)[t]? = (vs[t]?).map fun v => if S.contains t then v else undef := by
 simp only [keeps,List.getElem?_map,List.getElem?_zipIdx]
 cases vs[t]? <;> simp
theorem keeps_getD {S : List Nat} {t : Nat} (ht : t ∈ S) (vs : List Value) : (keeps S vs).getD t undef = vs.getD t undef := by
 simp only [List.getD,keeps_get]
 cases vs[t]? <;> simp [ht]

def tmpsOf (xs : List Operand) : List Nat := xs.filterMap fun | .tmp t => some t | _ => none
theorem mem_tmpsOf {xs : List Operand} {t : Nat} (h : Operand.tmp t ∈ xs) : t ∈ tmpsOf xs := List.mem_filterMap.2 ⟨.tmp t,h,rfl⟩

theorem aev_keeps {S : List Nat} {A : List Value} {x : Operand} (h : ∀ t,x = .tmp t → t ∈ S) : aev (keeps S A) x = aev A x := by
 cases x <;> try rfl
 exact keeps_getD (h _ rfl) A
theorem eval_keeps {S : List Nat} {a : Act} {x : Operand} (h : ∀ t,x = .tmp t → t ∈ S) : ({ a with tmps := (keeps S a.tmps.toList).toArray } : Act).eval x = a.eval x := by
 cases x <;> try rfl
 rename_i t
 simp only [Act.eval,toList_getD]
 exact keeps_getD (h _ rfl) _

theorem aop_noSelect {A : List Value} {op : Op} {r : ARes} (h : aop E A H op = some r) (cs : Array SelectCase) (b : Bool) : op ≠ .select cs b := by
 rintro rfl; simp [aop] at h

theorem runOpV_sim (hE : TyOk E) {call : Call} (hc : CallOk E call) (h : Rel E ι H w) (hdm : Dm ι H) {A : List Value} {a : Act} (hl : A.length = a.tmps.size) {o : Oper} (hok : opOk E.ng o.op = true)
  (hx : ∀ t,Operand.tmp t ∈ o.op.operands → ∀ v v',A[t]? = some v → a.tmps[t]? = some v' → RV ι v v')
  {v : Value} (hr : aop E A H o.op = some (.val v H') ∨ ∃ f args,aop E A H o.op = some (.call f args) ∧ call f args H = some (v,H'))
  {K : Act → World → Prop} {Q : Exit → Act → World → Prop}
  (hK : ∀ ι' v' w',RV ι' v v' → Rel E ι' H' w' → Step ι H w ι' H' w' → K (a.put o.dst v') w') : o.wp E.P a w K Q := by
 have hsel : ∀ cs b,o.op ≠ .select cs b := by
  rcases hr with hr | ⟨f,args,hr,_⟩
  ·exact aop_noSelect hr
  ·exact aop_noSelect hr
 let S := tmpsOf o.op.operands.toList
 have hS : ∀ x ∈ o.op.operands.toList,∀ t,x = .tmp t → t ∈ S := fun x hx t e => mem_tmpsOf (e ▸ hx)
 have hA : aop E A H o.op = aop E (keeps S A) H o.op := aop_congr fun x hx => (aev_keeps (hS x hx)).symm
 let b : Act := { a with tmps := (keeps S a.tmps.toList).toArray }
 have hb : execOp a.eval o = execOp b.eval o := execOp_congr o hsel fun x hx => (eval_keeps (hS x (by simpa using hx))).symm
 have hAb : RVs ι (keeps S A) b.tmps.toList := by
  refine RVs.of_get (by simp [b,keeps_length,hl]) fun i u u' hu hu' => ?_
  simp only [b,keeps_get,Option.map_eq_some_iff] at hu hu'
  obtain ⟨z,hz,rfl⟩ := hu
  obtain ⟨z',hz',rfl⟩ := hu'
  by_cases hi : i ∈ S
  ·simp only [List.contains_iff_mem,hi,if_true]
   obtain ⟨x,hx1,hx2⟩ := List.mem_filterMap.1 hi
   have hxi : x = .tmp i := by cases x <;> simp at hx2; subst hx2; rfl
   subst hxi
   exact hx i (by simpa using hx1) _ _ hz (by simpa using hz')
  ·simp only [List.contains_iff_mem,hi,if_false]
   exact RV.undef
 unfold Oper.wp
 rw [hb]
 rcases hr with hop | ⟨f,args,hop,hcall⟩
 ·rw [hA] at hop
  obtain ⟨n,v',w',ι',hrun,hn,hv,hR,hS'⟩ := aop_val hE h hdm.free hAb hok hop
  rw [hrun]
  rcases hn with rfl | ⟨rfl,rfl⟩
  ·exact hK ι' v' w' hv hR hS'
  ·exact hK ι' _ w' hv hR hS'
 ·rw [hA] at hop
  obtain ⟨args',hrun,hargs⟩ := aop_call h hAb hok hop
  rcases hc.sim _ _ _ _ _ hcall ι w args' h hdm hargs with ⟨hen,hcl⟩ | ⟨r',w',hen,v',ι',he,hv,hR,hS'⟩
  ·rw [hrun,hen,Oper.upon_enter]
   refine hcl.mono ?_
   rintro e w' ⟨v',ι',rfl,hv,hR,hS'⟩
   exact hK ι' v' w' hv hR hS'
  ·injection he with he; subst he
   rw [hrun,hen,Oper.upon_value]
   exact hK ι' r' w' hv hR hS'

def Emb.meet (ι ι0 : Emb) : Emb := ⟨fun b => if (ι0 b).isSome then ι b else none,ι.imm⟩
theorem Emb.meet_some {ι ι0 : Emb} {b : Nat} {l : Loc} : (ι.meet ι0) b = some l ↔ (ι0 b).isSome = true ∧ ι b = some l := by
 show (if (ι0 b).isSome then ι b else none) = some l ↔ _
 split <;> simp_all
theorem Emb.meet_le (ι ι0 : Emb) : (ι.meet ι0).le ι := ⟨fun b l h => (Emb.meet_some.1 h).2,fun _ _ _ h => h⟩
theorem Emb.meet_of {ι ι0 : Emb} {b : Nat} {l l0 : Loc} (h : ι b = some l) (h0 : ι0 b = some l0) : (ι.meet ι0) b = some l := Emb.meet_some.2 ⟨by simp [h0],h⟩

mutual
theorem RV.meet {ι ι0 : Emb} {v v' v0 : Value} (h : RV ι v v') (h0 : RV ι0 v v0) : RV (ι.meet ι0) v v' := by
 cases h with
 | bool b => exact .bool b
 | int k n => exact .int k n
 | string s => exact .string s
 | ptr0 => exact .ptr0
 | ptr b o l h => cases h0 with | ptr _ _ l0 hb => exact .ptr b o l (Emb.meet_of h hb)
 | slice0 => exact .slice0
 | sliceU b o n c c' l h hn hc ht => cases h0 with
  | sliceU _ _ _ _ _ l0 hb => exact .sliceU b o n c c' l (Emb.meet_of h hb) hn hc ht
  | sliceUZ _ _ _ l0 hb => exact .sliceU b o _ _ c' l (Emb.meet_of h hb) hn hc ht
 | sliceUZ b o a l h => cases h0 with
  | sliceU _ _ _ _ _ l0 hb => exact .sliceUZ b o a l (Emb.meet_of h hb)
  | sliceUZ _ _ _ l0 hb => exact .sliceUZ b o a l (Emb.meet_of h hb)
 | sliceX b o n c l h hn ht => cases h0 with
  | sliceX _ _ _ _ l0 hb => exact .sliceX b o n c l (Emb.meet_of h hb) hn ht
  | sliceXZ _ _ _ l0 hb => exact .sliceX b o _ _ l (Emb.meet_of h hb) hn ht
 | sliceXZ b o a l h => cases h0 with
  | sliceX _ _ _ _ l0 hb => exact .sliceXZ b o a l (Emb.meet_of h hb)
  | sliceXZ _ _ _ l0 hb => exact .sliceXZ b o a l (Emb.meet_of h hb)
 | map0 => exact .map0
 | map r l h => cases h0 with | map _ l0 hb => exact .map r l (Emb.meet_of h hb)
 | nilFunc => exact .nilFunc
 | func fn xs ys xs' ys' h h' => cases h0 with | func _ _ _ xs0 ys0 g g' => exact .func fn xs ys xs' ys' (RVs.meet h g) (RVs.meet h' g')
 | dptr cs B o h => exact .dptr cs B o h
 | dsl m sz n xs B o c' h hl hc h1 h2 =>
  refine .dsl m sz n xs B o c' h hl hc h1 fun t e => ?_
  obtain ⟨lt,k1,k2⟩ := h2 t e
  cases h0 with
  | dsl _ _ _ _ B0 o0 c0 _ _ _ _ g2 =>
   obtain ⟨lt0,k3,_⟩ := g2 t e
   exact ⟨lt,Emb.meet_of k1 k3,k2⟩
  | dslZ _ _ _ hm => omega
 | dslZ m sz a hm => exact .dslZ m sz a hm
 | nilIface => exact .nilIface
 | iface t v v' h => cases h0 with | iface _ _ v0 g => exact .iface t v v' (RV.meet h g)
 | agg xs xs' h => cases h0 with | agg _ xs0 g => exact .agg xs xs' (RVs.meet h g)
 | tuple xs xs' h => cases h0 with | tuple _ xs0 g => exact .tuple xs xs' (RVs.meet h g)
 | tok n t => exact .tok n t
theorem RVs.meet {ι ι0 : Emb} {vs vs' vs0 : List Value} (h : RVs ι vs vs') (h0 : RVs ι0 vs vs0) : RVs (ι.meet ι0) vs vs' := by
 cases h with
 | nil => exact .nil
 | cons v v' vs vs' h hs => cases h0 with | cons _ v0 _ vs0 g gs => exact .cons v v' vs vs' (RV.meet h g) (RVs.meet hs gs)
end
theorem frz_name {ng nb : Nat} {b o : Nat} (h : frz ng nb (.pointer (some ⟨b,o,none⟩)) = true) : b < ng ∨ (b < nb ∧ ng + 2 ≤ nb) := by
 simpa [frz] using h
mutual
theorem RV.meet_frz {ι ι0 : Emb} {ng nb : Nat} (hn : ∀ b,b < ng ∨ (b < nb ∧ ng + 2 ≤ nb) → ∃ l,ι0 b = some l) {v v' : Value} (h : RV ι v v') (hf : frz ng nb v = true) : RV (ι.meet ι0) v v' := by
 cases h with
 | bool b => exact .bool b
 | int k n => exact .int k n
 | string s => exact .string s
 | ptr0 => exact .ptr0
 | ptr b o l h => obtain ⟨l0,h0⟩ := hn b (frz_name hf); exact .ptr b o l (Emb.meet_of h h0)
 | slice0 => exact .slice0
 | sliceU b o n c c' l h hn hc ht => simp [frz] at hf
 | sliceUZ b o a l h => simp [frz] at hf
 | sliceX b o n c l h hn ht => simp [frz] at hf
 | sliceXZ b o a l h => simp [frz] at hf
 | map0 => exact .map0
 | map r l h => simp [frz] at hf
 | nilFunc => exact .nilFunc
 | func fn xs ys xs' ys' h h' =>
  cases h with
  | nil => cases h' with
   | nil => exact .func fn [] [] [] [] .nil .nil
   | cons => simp [frz] at hf
  | cons => simp [frz] at hf
 | dptr cs B o h => exact .dptr cs B o h
 | dsl m sz n xs B o c' h hl hc h1 h2 =>
  have hm : m ≤ 1 := by simpa [frz] using hf
  exact .dsl m sz n xs B o c' h hl hc h1 fun t e => by omega
 | dslZ m sz a hm => exact .dslZ m sz a hm
 | nilIface => exact .nilIface
 | iface t v v' h => exact .iface t v v' (RV.meet_frz hn h (by simpa only [frz] using hf))
 | agg xs xs' h => exact .agg xs xs' (RVs.meet_frz hn h (by simpa only [frz] using hf))
 | tuple xs xs' h => simp [frz] at hf
 | tok n t => exact .tok n t
theorem RVs.meet_frz {ι ι0 : Emb} {ng nb : Nat} (hn : ∀ b,b < ng ∨ (b < nb ∧ ng + 2 ≤ nb) → ∃ l,ι0 b = some l) {vs vs' : List Value} (h : RVs ι vs vs') (hf : frzL ng nb vs = true) : RVs (ι.meet ι0) vs vs' := by
 cases h with
 | nil => exact .nil
 | cons v v' vs vs' h hs =>
  simp only [frzL,Bool.and_eq_true] at hf
  exact .cons v v' vs vs' (RV.meet_frz hn h hf.1) (RVs.meet_frz hn hs hf.2)
end
theorem REs.meet {ι ι0 : Emb} {es es' es0 : List MapEntry} (h : REs ι es es') (h0 : REs ι0 es es0) : REs (ι.meet ι0) es es' := by
 induction h generalizing es0 with
 | nil => exact .nil
 | cons e e' es es' hk hb hv _ ih => cases h0 with | cons _ _ _ _ _ _ g gs => exact .cons e e' es es' hk hb (hv.meet g) (ih gs)

theorem Rel.names {ι0 : Emb} {H : AHeap} {w0 : World} (h0 : Rel E ι0 H w0) {b : Nat} (h : b < E.ng ∨ (b < E.nb ∧ E.ng + 2 ≤ E.nb)) : ∃ l,ι0 b = some l := by
 by_cases hb : b < E.ng
 ·obtain ⟨l,h1,_⟩ := h0.glob b hb; exact ⟨l,h1⟩
 ·rcases h with h | ⟨h1,h2⟩
  ·exact absurd h hb
  ·by_cases he : b = E.ng
   ·obtain ⟨l,l',k1,_⟩ := h0.base b (E.ng + 1) (by omega) h1 (by omega) (by omega) (by omega); exact ⟨l,k1⟩
   ·obtain ⟨l,l',k1,_⟩ := h0.base b E.ng (by omega) h1 (by omega) (by omega) (by omega); exact ⟨l,k1⟩
theorem Rel.meet {ι0 : Emb} {K H : AHeap} {w w0 : World} (h : Rel E ι K w) (h0 : Rel E ι0 H w0)
  (he : ∀ b l l0,ι b = some l → ι0 b = some l0 → H.get b = K.get b) : Rel E (ι.meet ι0) H w where
 dom b l hb := h.dom b l (Emb.meet_le _ _ _ _ hb)
 cells b l cs wr sz hb hg := by
  obtain ⟨h1,h2⟩ := Emb.meet_some.1 hb
  obtain ⟨l0,hl0⟩ := Option.isSome_iff_exists.1 h1
  obtain ⟨C,ty,fz,k1,k2,k3,k4,k5,k6,k7⟩ := h.cells b l cs wr sz h2 (by rw [← he b l l0 h2 hl0]; exact hg)
  obtain ⟨C0,_,_,_,_,_,_,m5,_,_⟩ := h0.cells b l0 cs wr sz hl0 hg
  refine ⟨C,ty,fz,k1,k2,k3,k4,?_,k6,k7⟩
  intro i v hv
  obtain ⟨v',n1,n2⟩ := k5 i v hv
  obtain ⟨v0,_,n4⟩ := m5 i v hv
  exact ⟨v',n1,n2.meet n4⟩
 maps b l es clk hb hg := by
  obtain ⟨h1,h2⟩ := Emb.meet_some.1 hb
  obtain ⟨l0,hl0⟩ := Option.isSome_iff_exists.1 h1
  obtain ⟨es',k1,k2⟩ := h.maps b l es clk h2 (by rw [← he b l l0 h2 hl0]; exact hg)
  obtain ⟨es0,_,m2⟩ := h0.maps b l0 es clk hl0 hg
  exact ⟨es',k1,k2.meet m2⟩
 inj b b' l l' hb hb' hne hw hl := by
  obtain ⟨h1,h2⟩ := Emb.meet_some.1 hb
  obtain ⟨h3,h4⟩ := Emb.meet_some.1 hb'
  obtain ⟨l0,hl0⟩ := Option.isSome_iff_exists.1 h1
  obtain ⟨l1,hl1⟩ := Option.isSome_iff_exists.1 h3
  exact h.inj b b' l l' h2 h4 hne (by simpa only [wrt,he b l l0 h2 hl0] using hw) (by simpa only [live,he b' l' l1 h4 hl1] using hl)
 glob g hg := by
  obtain ⟨l,h1,h2,h3⟩ := h.glob g hg
  obtain ⟨l0,h4,_,_⟩ := h0.glob g hg
  exact ⟨l,Emb.meet_of h1 h4,h2,h3⟩
 base b b' g1 g2 g3 g4 hne := by
  obtain ⟨l,l',h1,h2,h3⟩ := h.base b b' g1 g2 g3 g4 hne
  obtain ⟨l0,l0',h4,h5,_⟩ := h0.base b b' g1 g2 g3 g4 hne
  exact ⟨l,l',Emb.meet_of h1 h4,Emb.meet_of h2 h5,h3⟩
 imm B o v hi := by
  obtain ⟨hf,C,ty,fz,v',k1,k2,k3⟩ := h.imm B o v hi
  exact ⟨hf,C,ty,fz,v',k1,k2,k3.meet_frz (fun b hb => h0.names hb) hf⟩
 immw b l B o v hb hw hi hB := by
  obtain ⟨h1,h2⟩ := Emb.meet_some.1 hb
  obtain ⟨l0,hl0⟩ := Option.isSome_iff_exists.1 h1
  exact h.immw b l B o v h2 (by simpa only [wrt,he b l l0 h2 hl0] using hw) hi hB

theorem Rel.congr {K H : AHeap} (h : Rel E ι K w) (he : ∀ b l,ι b = some l → H.get b = K.get b) : Rel E ι H w where
 dom := h.dom
 cells b l cs wr sz hb hg := h.cells b l cs wr sz hb (by rw [← he b l hb]; exact hg)
 maps b l es clk hb hg := h.maps b l es clk hb (by rw [← he b l hb]; exact hg)
 inj b b' l l' hb hb' hne hw hl := h.inj b b' l l' hb hb' hne (by simpa only [wrt,he b l hb] using hw) (by simpa only [live,he b' l' hb'] using hl)
 glob := h.glob
 base := h.base
 imm := h.imm
 immw b l B o v hb hw := h.immw b l B o v hb (by simpa only [wrt,he b l hb] using hw)

theorem heap_of (f : Nat → AObj) (n z : Nat) : ∃ K : AHeap,K.size = z ∧ ∀ b,b < n → K.get b = f b := by
 have : ∀ m,∃ K : AHeap,K.size = z ∧ ∀ b,b < m → K.get b = f b := by
  intro m
  induction m with
  | zero => exact ⟨⟨.lf,z⟩,rfl,fun b hb => by omega⟩
  | succ m ih =>
   obtain ⟨K,h1,h2⟩ := ih
   refine ⟨K.set m (f m),h1,fun b hb => ?_⟩
   by_cases hbm : m = b
   ·subst hbm; exact AHeap.get_set_same _ _ _
   ·rw [AHeap.get_set_ne _ _ hbm]; exact h2 b (by omega)
 exact this n

theorem glue {ι0 ι ι1 ι' : Emb} {H0 K G G' K2 : AHeap} {w0 w w' : World} {taken : Nat → Prop}
  (hS : Step ι0 H0 w0 ι K w) (h : Rel E ι K w) (h1 : ι1.le ι) (him : ∀ B o v,ι.imm B o v → ι1.imm B o v) (hR : Rel E ι' G' w') (k : Step ι1 G w ι' G' w')
  (htk : ∀ b l,ι1 b = some l → taken b → G.get b = K.get b) (hnt : ∀ b l,ι1 b = some l → ¬ taken b → wrt G b = false)
  (hout : ∀ b l,ι' b = some l → ι1 b = none → ι b = none ∧ H0.size ≤ b ∧ b < K2.size) (hsz : K2.size = K.size) (hsz0 : H0.size ≤ G.size)
  (k1 : ∀ b l,ι' b = some l → (ι b = none ∨ ((ι1 b).isSome ∧ taken b)) → K2.get b = G'.get b)
  (k2 : ∀ b,b < K2.size → (ι' b = none ∨ ((ι b).isSome ∧ ¬ taken b)) → K2.get b = K.get b)
  (hdm : ∀ b l,ι b = some l → b < K.size) (hdm1 : Dm ι1 G) :
  let ι2 : Emb := ⟨fun b => if (ι' b).isSome then ι' b else ι b,ι'.imm⟩
  Rel E ι2 K2 w' ∧ Step ι0 H0 w0 ι2 K2 w' ∧ ι.le ι2 ∧ ι'.le ι2 ∧ (∀ b l,ι2 b = some l → ι b = none → ∃ l',ι' b = some l' ∧ ι1 b = none) := by
 intro ι2
 have e1 : ι'.le ι2 := ⟨fun b l hb => by simp [ι2,hb],fun _ _ _ h => h⟩
 have e2 : ι.le ι2 := ⟨fun b l hb => by
  simp only [ι2]
  cases hi : ι' b with
  | none => simpa using hb
  | some l' =>
   simp only [Option.isSome_some,if_true]
   cases hi1 : ι1 b with
   | none => rw [(hout b l' hi hi1).1] at hb; cases hb
   | some l1 =>
    have m1 := h1 _ _ hi1
    have m2 := k.ext _ _ hi1
    rw [hb] at m1; rw [hi] at m2
    rw [m2,m1],fun B o v hi => k.ext.imm B o v (him B o v hi)⟩
 have cs : ∀ b l,ι2 b = some l → (ι' b = some l ∧ (ι b = none ∨ ((ι1 b).isSome ∧ taken b)) ∧ K2.get b = G'.get b) ∨ (ι b = some l ∧ ¬ ((ι1 b).isSome ∧ taken b) ∧ K2.get b = K.get b) := by
  intro b l hb
  cases hi : ι b with
  | none =>
   have : ι' b = some l := by
    simp only [ι2] at hb
    split at hb
    ·exact hb
    ·rw [hi] at hb; cases hb
   exact .inl ⟨this,.inl rfl,k1 b l this (.inl hi)⟩
  | some l0 =>
   have hl0 : l0 = l := by have := e2 _ _ hi; rw [hb] at this; exact (Option.some.inj this).symm
   subst hl0
   have hbs := hdm _ _ hi
   by_cases ht : (ι1 b).isSome ∧ taken b
   ·obtain ⟨l1,hl1⟩ := Option.isSome_iff_exists.1 ht.1
    have m1 := h1 _ _ hl1
    rw [hi] at m1; injection m1 with m1; subst m1
    have m2 := k.ext _ _ hl1
    exact .inl ⟨m2,.inr ht,k1 b _ m2 (.inr ht)⟩
   ·refine .inr ⟨rfl,ht,?_⟩
    cases hi' : ι' b with
    | none => exact k2 b (by omega) (.inl hi')
    | some l' =>
     cases hi1 : ι1 b with
     | none => rw [(hout b l' hi' hi1).1] at hi; cases hi
     | some l1 => exact k2 b (by omega) (.inr ⟨by simp [hi],fun htk => ht ⟨by simp [hi1],htk⟩⟩)
 have wG : ∀ b l,ι1 b = some l → wrt G b = true → wrt K b = true ∧ taken b := fun b l hb hw => by
  by_cases ht : taken b
  ·exact ⟨by simpa only [wrt,htk b l hb ht] using hw,ht⟩
  ·rw [hnt b l hb ht] at hw; cases hw
 have still : ∀ b l,ι b = some l → ¬ ((ι1 b).isSome ∧ taken b) → live K b = true → w'.heap[l.blk]? = w.heap[l.blk]? := by
  intro b l hb hnot hl
  refine k.frame _ (h.dom b l hb) fun b1 l1 hb1 he => ?_
  cases hw : wrt G b1 with
  | false => rfl
  | true =>
   obtain ⟨hw1,ht1⟩ := wG b1 l1 hb1 hw
   have hne : b1 ≠ b := by rintro rfl; exact hnot ⟨by simp [hb1],ht1⟩
   exact absurd he (h.inj b1 b l1 l (h1 _ _ hb1) hb hne hw1 hl)
 have hRel : Rel E ι2 K2 w' := by
  refine ⟨?_,?_,?_,?_,?_,?_,?_,?_⟩
  ·intro b l hb
   rcases cs b l hb with ⟨h2,_,_⟩ | ⟨h2,_,_⟩
   ·exact hR.dom b l h2
   ·exact Nat.lt_of_lt_of_le (h.dom b l h2) k.size
  ·intro b l xs wr sz hb hg
   rcases cs b l hb with ⟨h2,_,h3⟩ | ⟨h2,h4,h3⟩
   ·obtain ⟨C,ty,fz,m1,m2,m3,m4,m5,m6,m7⟩ := hR.cells b l xs wr sz h2 (by rw [← h3]; exact hg)
    exact ⟨C,ty,fz,m1,m2,m3,m4,fun i v hv => by obtain ⟨v',n1,n2⟩ := m5 i v hv; exact ⟨v',n1,n2.mono e1⟩,m6,m7⟩
   ·have hgk : K.get b = .cells xs wr sz := by rw [← h3]; exact hg
    obtain ⟨C,ty,fz,m1,m2,m3,m4,m5,m6,m7⟩ := h.cells b l xs wr sz h2 hgk
    exact ⟨C,ty,fz,by rw [still b l h2 h4 (by simp [live,hgk])]; exact m1,m2,m3,m4,fun i v hv => by obtain ⟨v',n1,n2⟩ := m5 i v hv; exact ⟨v',n1,n2.mono e2⟩,m6,m7⟩
  ·intro b l es clk hb hg
   rcases cs b l hb with ⟨h2,_,h3⟩ | ⟨h2,h4,h3⟩
   ·obtain ⟨es',m1,m2⟩ := hR.maps b l es clk h2 (by rw [← h3]; exact hg)
    exact ⟨es',m1,m2.mono e1⟩
   ·have hgk : K.get b = .map es clk := by rw [← h3]; exact hg
    obtain ⟨es',m1,m2⟩ := h.maps b l es clk h2 hgk
    exact ⟨es',by rw [still b l h2 h4 (by simp [live,hgk])]; exact m1,m2.mono e2⟩
  ·intro b b' l l' hb hb' hne hw hl
   rcases cs b l hb with ⟨h2,h4,h3⟩ | ⟨h2,h4,h3⟩ <;> rcases cs b' l' hb' with ⟨h2',h4',h3'⟩ | ⟨h2',h4',h3'⟩
   ·exact hR.inj b b' l l' h2 h2' hne (by simpa only [wrt,h3] using hw) (by simpa only [live,h3'] using hl)
   ·have hl' : live K b' = true := by simpa only [live,h3'] using hl
    rcases k.own b l h2 (by simpa only [wrt,h3] using hw) with g1 | ⟨b1,l1,g1,g2,g3⟩
    ·have := h.dom b' l' h2'; omega
    ·obtain ⟨hw1,ht1⟩ := wG b1 l1 g1 g3
     have hne1 : b1 ≠ b' := by rintro rfl; exact h4' ⟨by simp [g1],ht1⟩
     have := h.inj b1 b' l1 l' (h1 _ _ g1) h2' hne1 hw1 hl'
     rw [g2] at this; exact this
   ·have hw' : wrt K b = true := by simpa only [wrt,h3] using hw
    cases hi : ι b' with
    | some l0 =>
     have hl0 : l0 = l' := by have := e2 _ _ hi; rw [hb'] at this; exact (Option.some.inj this).symm
     subst hl0
     rcases h4' with h4' | ⟨h5,h6⟩
     ·rw [h4'] at hi; cases hi
     ·obtain ⟨l1,hl1⟩ := Option.isSome_iff_exists.1 h5
      have hg := htk b' l1 hl1 h6
      have hlv : live G' b' = true := by simpa only [live,h3'] using hl
      have := k.liv b' (hdm1 b' l1 hl1) hlv
      exact h.inj b b' l l0 h2 hi hne hw' (by simpa only [live,hg] using this)
    | none =>
     have hi1 : ι1 b' = none := by
      cases hx : ι1 b' with
      | none => rfl
      | some l1 => rw [h1 _ _ hx] at hi; cases hi
     rcases k.place b' l' h2' hi1 with g1 | ⟨b1,l1,g1,g2,g3⟩
     ·have := h.dom b l h2; omega
     ·obtain ⟨hw1,ht1⟩ := wG b1 l1 g1 g3
      have hne1 : b ≠ b1 := by rintro rfl; exact h4 ⟨by simp [g1],ht1⟩
      have := h.inj b b1 l l1 h2 (h1 _ _ g1) hne1 hw' (by revert hw1; simp only [wrt,live]; cases K.get b1 <;> simp)
      rw [g2] at this; exact this
   ·exact h.inj b b' l l' h2 h2' hne (by simpa only [wrt,h3] using hw) (by simpa only [live,h3'] using hl)
  ·intro g hg
   obtain ⟨l,m1,m2,m3⟩ := h.glob g hg
   exact ⟨l,e2 _ _ m1,m2,m3⟩
  ·exact h.base.mono e2
  ·intro B o v hi
   obtain ⟨hf,C,ty,fz,v',m1,m2,m3⟩ := hR.imm B o v hi
   exact ⟨hf,C,ty,fz,v',m1,m2,m3.mono e1⟩
  ·intro b l B o v hb hw hi hB
   rcases cs b l hb with ⟨h2,_,h3⟩ | ⟨h2,h4,h3⟩
   ·exact hR.immw b l B o v h2 (by simpa only [wrt,h3] using hw) hi hB
   ·have hwk : wrt K b = true := by simpa only [wrt,h3] using hw
    rcases k.fresh B o v hi with g | g | ⟨b0,l0,g1,g2,g3⟩
    ·exact h.immw b l B o v h2 hwk (h1.imm _ _ _ g) hB
    ·have := h.dom b l h2; omega
    ·obtain ⟨hw0,ht0⟩ := wG b0 l0 g1 g3
     have hne : b ≠ b0 := by rintro rfl; exact h4 ⟨by simp [g1],ht0⟩
     exact absurd (hB.trans g2.symm) (h.inj b b0 l l0 h2 (h1 _ _ g1) hne hwk (by revert hw0; simp only [wrt,live]; cases K.get b0 <;> simp))
 refine ⟨hRel,?_,e2,e1,?_⟩
 ·refine ⟨hS.ext.trans e2,?_,by rw [hsz]; exact hS.hsz,?_,?_,?_,k.os.trans hS.os,k.tape.trans hS.tape,k.output.trans hS.output,Nat.le_trans hS.size k.size,?_,?_,?_⟩
  ·intro b l hb hn
   cases hi : ι b with
   | some l0 => have := hS.new b l0 hi hn; rw [hsz]; exact this
   | none =>
    have : ι' b = some l := by
     simp only [ι2] at hb
     split at hb
     ·exact hb
     ·rw [hi] at hb; cases hb
    have hi1 : ι1 b = none := by
     cases hx : ι1 b with
     | none => rfl
     | some l1 => rw [h1 _ _ hx] at hi; cases hi
    exact (hout b l this hi1).2
  ·intro b l hb hw
   rcases cs b l hb with ⟨h2,_,h3⟩ | ⟨h2,_,h3⟩
   ·rcases k.own b l h2 (by simpa only [wrt,h3] using hw) with g1 | ⟨b1,l1,g1,g2,g3⟩
    ·exact .inl (Nat.le_trans hS.size g1)
    ·rcases hS.own b1 l1 (h1 _ _ g1) (wG b1 l1 g1 g3).1 with g4 | ⟨b0,l0,g4,g5,g6⟩
     ·exact .inl (g2 ▸ g4)
     ·exact .inr ⟨b0,l0,g4,g5.trans g2,g6⟩
   ·exact hS.own b l h2 (by simpa only [wrt,h3] using hw)
  ·intro b l hb hn
   cases hi : ι b with
   | some l0 =>
    have hl0 : l0 = l := by have := e2 _ _ hi; rw [hb] at this; exact (Option.some.inj this).symm
    subst hl0
    exact hS.place b l0 hi hn
   | none =>
    have h2 : ι' b = some l := by
     simp only [ι2] at hb
     split at hb
     ·exact hb
     ·rw [hi] at hb; cases hb
    have hi1 : ι1 b = none := by
     cases hx : ι1 b with
     | none => rfl
     | some l1 => rw [h1 _ _ hx] at hi; cases hi
    rcases k.place b l h2 hi1 with g1 | ⟨b1,l1,g1,g2,g3⟩
    ·exact .inl (Nat.le_trans hS.size g1)
    ·rcases hS.own b1 l1 (h1 _ _ g1) (wG b1 l1 g1 g3).1 with g4 | ⟨b0,l0,g4,g5,g6⟩
     ·exact .inl (g2 ▸ g4)
     ·exact .inr ⟨b0,l0,g4,g5.trans g2,g6⟩
  ·intro b hb hl
   have hbk : b < K2.size := by rw [hsz]; exact Nat.lt_of_lt_of_le hb hS.hsz
   cases hi : ι' b with
   | none => exact hS.liv b hb (by simpa only [live,k2 b hbk (.inl hi)] using hl)
   | some l' =>
    cases hi1 : ι1 b with
    | none => have := (hout b l' hi hi1).2.1; omega
    | some l1 =>
     by_cases ht : taken b
     ·have hk := k1 b l' hi (.inr ⟨by simp [hi1],ht⟩)
      have := k.liv b (by omega) (by simpa only [live,hk] using hl)
      exact hS.liv b hb (by simpa only [live,htk b l1 hi1 ht] using this)
     ·exact hS.liv b hb (by simpa only [live,k2 b hbk (.inr ⟨by simp [h1 _ _ hi1],ht⟩)] using hl)
  ·intro B hB hno
   rw [k.frame B (Nat.lt_of_lt_of_le hB hS.size) ?_,hS.frame B hB hno]
   intro b1 l1 g1 g2
   cases hw : wrt G b1 with
   | false => rfl
   | true =>
    rcases hS.own b1 l1 (h1 _ _ g1) (wG b1 l1 g1 hw).1 with g4 | ⟨b0,l0,g4,g5,g6⟩
    ·omega
    ·rw [hno b0 l0 g4 (g5.trans g2)] at g6; cases g6
  ·intro b hb hn
   have hbk : b < K2.size := by rw [hsz]; exact Nat.lt_of_lt_of_le hb hS.hsz
   have hi : ι b = none := by
    cases hx : ι b with
    | none => rfl
    | some l => have := (hS.new b l hx hn).1; omega
   have hi' : ι' b = none := by
    cases hx : ι' b with
    | none => rfl
    | some l' =>
     cases hx1 : ι1 b with
     | some l1 => rw [h1 _ _ hx1] at hi; cases hi
     | none => have := (hout b l' hx hx1).2.1; omega
   rw [k2 b hbk (.inl hi'),hS.away b hb hn]
  ·intro B o v hi
   rcases k.fresh B o v hi with g | g | ⟨b1,l1,g1,g2,g3⟩
   ·exact hS.fresh B o v (h1.imm _ _ _ g)
   ·exact .inr (.inl (Nat.le_trans hS.size g))
   ·rcases hS.own b1 l1 (h1 _ _ g1) (wG b1 l1 g1 g3).1 with g4 | ⟨b0,l0,g4,g5,g6⟩
    ·exact .inr (.inl (g2 ▸ g4))
    ·exact .inr (.inr ⟨b0,l0,g4,g5.trans g2,g6⟩)
 ·intro b l hb hn
  have h2 : ι' b = some l := by
   simp only [ι2] at hb
   split at hb
   ·exact hb
   ·rw [hn] at hb; cases hb
  refine ⟨l,h2,?_⟩
  cases hx : ι1 b with
  | none => rfl
  | some l1 => rw [h1 _ _ hx] at hn; cases hn

end
end AbsYtkhcbbpfchgemaaDoor

/-
 Which operations come before which,and what the check of a region says.
-/
namespace AbsYtkhcbbpfchgemaaDoor
set_option linter.unusedVariables false
set_option linter.unusedSimpArgs false
set_option linter.unusedSectionVars false
open Go

mutual
theorem veq_eq : ∀ (x y : Value),veq x y = true → x = y
 | .bool a,y,h => by cases y <;> simp [veq] at h ⊢; exact h
 | .int k a,y,h => by cases y <;> simp [veq] at h ⊢; exact h
 | .float k a,y,h => by cases y <;> simp [veq] at h ⊢; exact h
 | .complex k a c,y,h => by cases y <;> simp [veq] at h ⊢; exact ⟨h.1.1,h.1.2,h.2⟩
 | .string a,y,h => by
  cases y <;> simp [veq] at h ⊢
  rename_i b
  cases a with | mk a => cases b with | mk b => simpa using h
 | .pointer a,y,h => by cases y <;> simp [veq] at h ⊢; exact h
 | .slice a n c,y,h => by cases y <;> simp [veq] at h ⊢; exact ⟨h.1.1,h.1.2,h.2⟩
 | .map a,y,h => by cases y <;> simp [veq] at h ⊢; exact h
 | .chan a,y,h => by cases y <;> simp [veq] at h ⊢; exact h
 | .func f xs ys,y,h => by
  cases y <;> simp [veq] at h ⊢
  exact ⟨h.1.1,veqA_eq _ _ h.1.2,veqA_eq _ _ h.2⟩
 | .nilFunc,y,h => by cases y <;> simp [veq] at h ⊢
 | .iface t x,y,h => by
  cases y <;> simp [veq] at h ⊢
  exact ⟨h.1,veq_eq _ _ h.2⟩
 | .nilIface,y,h => by cases y <;> simp [veq] at h ⊢
 | .agg xs,y,h => by
  cases y <;> simp [veq] at h ⊢
  exact veqA_eq _ _ h
 | .tuple xs,y,h => by
  cases y <;> simp [veq] at h ⊢
  exact veqA_eq _ _ h
theorem veqA_eq : ∀ (x y : Array Value),veqA x y = true → x = y
 | ⟨xs⟩,⟨ys⟩,h => by rw [veqA] at h; rw [veqL_eq xs ys h]
theorem veqL_eq : ∀ (x y : List Value),veqL x y = true → x = y
 | [],y,h => by cases y <;> simp [veqL] at h ⊢
 | x :: xs,y,h => by
  cases y <;> simp [veqL] at h ⊢
  exact ⟨veq_eq _ _ h.1,veqL_eq _ _ h.2⟩
end
theorem meq_eq {a b : MapEntry} (h : meq a b = true) : a = b := by
 cases a; cases b; simp [meq] at h
 obtain ⟨⟨h1,h2⟩,h3⟩ := h
 rw [veq_eq _ _ h1,veq_eq _ _ h2,h3]
theorem meqL_eq : ∀ (x y : List MapEntry),meqL x y = true → x = y
 | [],y,h => by cases y <;> simp [meqL] at h ⊢
 | x :: xs,y,h => by
  cases y <;> simp [meqL] at h ⊢
  exact ⟨meq_eq h.1,meqL_eq _ _ h.2⟩
theorem oeq_eq {a b : AObj} (h : oeq a b = true) : a = b := by
 cases a <;> cases b <;> simp [oeq] at h ⊢
 ·exact ⟨veqL_eq _ _ h.2,h.1.1,h.1.2⟩
 ·exact ⟨meqL_eq _ _ h.2,h.1⟩

def same (weak : Bool) (x y : AObj) : Prop := if weak then oszeq x y = true else x = y
theorem same.rfl (weak : Bool) (x : AObj) : same weak x x := by cases weak <;> simp [same,oszeq_refl]
theorem same.trans {weak : Bool} {x y z : AObj} (h : same weak x y) (h' : same weak y z) : same weak x z := by
 cases weak <;> simp [same] at *
 ·exact h.trans h'
 ·exact oszeq_trans h h'
theorem same.symm {weak : Bool} {x y : AObj} (h : same weak x y) : same weak y x := by
 cases weak <;> simp [same] at *
 ·exact h.symm
 ·exact oszeq_symm h

theorem edgeMask_bit (acc : List Nat) (i : Nat) : ∀ (es : List Edge) (s : Nat),(edgeMask acc es s).testBit i = true →
  s.testBit i = true ∨ ∃ e ∈ es,Region.binds .any e = true ∧ (i = e.on ∨ (acc.getD e.on 0).testBit i = true)
 | [],s,h => .inl h
 | e :: es,s,h => by
  simp only [edgeMask] at h
  rcases edgeMask_bit acc i es _ h with h | ⟨e',h1,h2⟩
  ·split at h
   ·rename_i hb
    simp only [Nat.testBit_or,Bool.or_eq_true,Nat.testBit_two_pow,decide_eq_true_eq] at h
    rcases h with (h | h) | h
    ·exact .inl h
    ·exact .inr ⟨e,by simp,hb,.inl h.symm⟩
    ·exact .inr ⟨e,by simp,hb,.inr h⟩
   ·exact .inl h
  ·exact .inr ⟨e',by simp [h1],h2⟩

theorem befs_all {ops : List Oper} {Good : Nat → Nat → Prop} (hz : ∀ k,Good k 0)
  (hg : ∀ (k : Nat) (o : Oper) (acc : List Nat),ops[k]? = some o → acc.length = k → (∀ j,Good j (acc.getD j 0)) → Good k (edgeMask acc o.after.toList 0)) :
  ∀ (l : List Oper) (acc : List Nat),(∀ j,l[j]? = ops[acc.length + j]?) → (∀ j,Good j (acc.getD j 0)) → ∀ j,Good j ((befs l acc).getD j 0)
 | [],acc,_,ha,j => ha j
 | o :: l,acc,hl,ha,j => by
  simp only [befs]
  refine befs_all hz hg l _ (fun j => ?_) (fun j => ?_) j
  ·have := hl (j + 1)
   simp only [List.getElem?_cons_succ] at this
   rw [this]; congr 1; simp; omega
  ·by_cases hj : j < acc.length
   ·have := ha j
    simpa [List.getD,List.getElem?_append_left hj] using this
   ·by_cases hj' : j = acc.length
    ·subst hj'
     have := hg acc.length o acc (by have := hl 0; simpa using this.symm) rfl ha
     simpa [List.getD] using this
    ·have : (acc ++ [edgeMask acc o.after.toList 0]).getD j 0 = 0 := by
      simp only [List.getD]
      rw [List.getElem?_eq_none (by simp; omega)]; rfl
     rw [this]; exact hz j

def isIn (listed : Array Bool) (i : Nat) : Prop := listed.getD i false = true

def closedUnder (ops : Array Oper) (S : Nat → Prop) : Prop := ∀ i o,S i → ops[i]? = some o → ∀ e ∈ o.after,Region.binds .any e = true → S e.on

theorem bef_in {ops : Array Oper} {S : Nat → Prop} (hS : closedUnder ops S) {i j : Nat} {o : Oper} (hb : bef (befs ops.toList []) i j = true) (ho : ops[j]? = some o)
  (hj : ∀ e ∈ o.after,Region.binds .any e = true → S e.on) : S i := by
 have key := befs_all (ops := ops.toList) (Good := fun k m => (∀ o,ops[k]? = some o → ∀ e ∈ o.after,Region.binds .any e = true → S e.on) → ∀ i,m.testBit i = true → S i)
  (fun k _ i h => by simp at h) (fun k o acc ho hl ha hd i hi => by
   have ho' : ops[k]? = some o := by simpa using ho
   rcases edgeMask_bit acc i o.after.toList 0 hi with h | ⟨e,h1,h2,h3⟩
   ·simp at h
   ·have he : S e.on := hd o ho' e (by simpa using h1) h2
    rcases h3 with h3 | h3
    ·rw [h3]; exact he
    ·exact ha e.on (fun o' ho' e' he' hb' => hS _ _ he ho' e' he' hb') i h3) ops.toList [] (by simp) (by simp) j
 exact key (fun o' ho' => by rw [ho] at ho'; injection ho' with ho'; subst ho'; exact hj) i hb

theorem bef_lt {ops : Array Oper} (hlow : ∀ k o,ops[k]? = some o → ∀ e ∈ o.after,Region.binds .any e = true → e.on < k) {i j : Nat} (hb : bef (befs ops.toList []) i j = true) : i < j := by
 have key := befs_all (ops := ops.toList) (Good := fun k m => ∀ i,m.testBit i = true → i < k)
  (fun k i h => by simp at h) (fun k o acc ho hl ha i hi => by
   have ho' : ops[k]? = some o := by simpa using ho
   rcases edgeMask_bit acc i o.after.toList 0 hi with h | ⟨e,h1,h2,h3⟩
   ·simp at h
   ·have he := hlow k o ho' e (by simpa using h1) h2
    rcases h3 with h3 | h3
    ·omega
    ·have := ha e.on i h3; omega) ops.toList [] (by simp) (by simp) j
 exact key i hb

def drawOk (ops : Array Oper) : Bool :=
 let b := befs ops.toList []
 let l := ops.toList.zipIdx
 l.all fun q => q.1.after.toList.all (fun e => !Region.binds .any e || Nat.blt e.on q.2) &&
  l.all fun p => !Nat.blt p.2 q.2 || bef b p.2 q.2 || (p.1.apart ops q.1 && !(isM p.1.op && isM q.1.op))

theorem zipIdx_mem {ops : Array Oper} {k : Nat} {o : Oper} (h : ops[k]? = some o) : (o,k) ∈ ops.toList.zipIdx :=
 List.mem_iff_getElem?.2 ⟨k,by simp [List.getElem?_zipIdx,h]⟩

theorem drawOk_low {ops : Array Oper} (h : drawOk ops = true) (k : Nat) (o : Oper) (ho : ops[k]? = some o) (e : Edge) (he : e ∈ o.after) (hb : Region.binds .any e = true) : e.on < k := by
 simp only [drawOk,List.all_eq_true,Bool.and_eq_true] at h
 have := (h _ (zipIdx_mem ho)).1 e (by simpa using he)
 simpa [hb,Nat.blt_eq] using this
theorem drawOk_pair {ops : Array Oper} (h : drawOk ops = true) {i j : Nat} {oi oj : Oper} (hi : ops[i]? = some oi) (hj : ops[j]? = some oj) (hij : i < j) (hb : bef (befs ops.toList []) i j = false) :
  oi.apart ops oj = true ∧ ¬ (isM oi.op = true ∧ isM oj.op = true) := by
 simp only [drawOk,List.all_eq_true,Bool.and_eq_true] at h
 have := (h _ (zipIdx_mem hj)).2 _ (zipIdx_mem hi)
 have hlt : Nat.blt i j = true := by simpa [Nat.blt_eq] using hij
 simp only [hlt,hb,Bool.not_true,Bool.false_or,Bool.and_eq_true,Bool.not_eq_true',Bool.and_eq_false_iff] at this
 refine ⟨this.1,fun hm => ?_⟩
 rcases this.2 with h1 | h1
 ·rw [hm.1] at h1; cases h1
 ·rw [hm.2] at h1; cases h1

end AbsYtkhcbbpfchgemaaDoor

/-
 A region that draws its order: the text's order stands for every order.
-/
namespace AbsYtkhcbbpfchgemaaDoor
set_option linter.unusedVariables false
set_option linter.unusedSimpArgs false
set_option linter.unusedSectionVars false
open Go

structure Ctx (E : Env) (call : Call) (ops : Array Oper) (AA : Nat → List Value) (HH : Nat → AHeap) (ι0 : Emb) (w0 : World) : Prop where
 hE : TyOk E
 hc : CallOk E call
 ok : drawOk ops = true
 opok : ∀ (k : Nat) (o : Oper),ops[k]? = some o → opOk E.ng o.op = true
 run : ∀ k o,ops[k]? = some o → runOp E call ops o (AA k) (HH k) = some (AA (k + 1),HH (k + 1))
 chain : ∀ k,k ≤ ops.size → ∃ ι w τ,Rel E ι (HH k) w ∧ Dm ι (HH k) ∧ RVs ι (AA k) τ ∧ Step ι0 (HH 0) w0 ι (HH k) w
 fl : ∀ i j oi oj,ops[i]? = some oi → ops[j]? = some oj → isM oj.op = true → mayRead oi.op = true → bef (befs ops.toList []) i j = false → bef (befs ops.toList []) j i = false →
  Region.wanted oi (ayield ops (AA i)) = true → ∀ b ∈ reads (AA i) oi.op,same (looksWeak oi.op) ((HH j).get b) ((HH (j + 1)).get b)

section
variable {E : Env} {call : Call} {ops : Array Oper} {AA : Nat → List Value} {HH : Nat → AHeap} {ι0 : Emb} {w0 : World} (c : Ctx E call ops AA HH ι0 w0)

theorem get_lt {k : Nat} {o : Oper} (h : ops[k]? = some o) : k < ops.size := (Array.getElem?_eq_some_iff.1 h).1
theorem lt_get {k : Nat} (h : k < ops.size) : ∃ o,ops[k]? = some o := ⟨ops[k],by simp [h]⟩

include c in
theorem Ctx.size_le {i j : Nat} (hij : i ≤ j) (hj : j ≤ ops.size) : (HH i).size ≤ (HH j).size := by
 induction j with
 | zero => have : i = 0 := by omega
           subst this; exact Nat.le_refl _
 | succ j ih =>
  by_cases h : i = j + 1
  ·subst h; exact Nat.le_refl _
  ·obtain ⟨o,ho⟩ := lt_get (ops := ops) (show j < ops.size by omega)
   exact Nat.le_trans (ih (by omega) (by omega)) (runOp_size c.hc (c.run j o ho))

inductive Came (E : Env) (call : Call) (ops : Array Oper) (o : Oper) (A : List Value) (H : AHeap) (A' : List Value) (H' : AHeap) : Prop
 | not (hw : Region.wanted o (ayield ops A) = false) (hA : A' = aput A o.dst undef) (hH : H' = H)
 | val (v : Value) (hw : Region.wanted o (ayield ops A) = true) (hop : aop E A H o.op = some (.val v H')) (hA : A' = aput A o.dst v)
 | call (v : Value) (f : Nat) (args : List Value) (hw : Region.wanted o (ayield ops A) = true) (hop : aop E A H o.op = some (.call f args)) (hcall : call f args H = some (v,H')) (hA : A' = aput A o.dst v)

theorem came {o : Oper} {A A' : List Value} {H H' : AHeap} (h : runOp E call ops o A H = some (A',H')) : Came E call ops o A H A' H' := by
 unfold runOp at h
 split at h
 ·rename_i hw
  split at h
  ·cases h
  ·rename_i v H1 hop
   injection h with h; injection h with h1 h2; subst h1; subst h2
   exact .val v hw hop rfl
  ·rename_i f args hop
   split at h
   ·rename_i v H1 hcall
    injection h with h; injection h with h1 h2; subst h1; subst h2
    exact .call v f args hw hop hcall rfl
   ·cases h
 ·rename_i hw
  injection h with h; injection h with h1 h2; subst h1; subst h2
  exact .not (by simpa using hw) rfl rfl

theorem aput_length (A : List Value) (d : Option Tmp) (v : Value) : (aput A d v).length = A.length := by cases d <;> simp [aput]
theorem aput_ne {A : List Value} {d : Option Tmp} {v : Value} {t : Nat} (h : d ≠ some t) (u : Value) : (aput A d v).getD t u = A.getD t u := by
 cases d with
 | none => rfl
 | some d =>
  have : d ≠ t := fun e => h (by rw [e])
  simp [aput,List.getD,List.getElem?_set_ne this]
theorem aput_same {A : List Value} {t : Nat} {v : Value} (h : t < A.length) (u : Value) : (aput A (some t) v).getD t u = v := by
 simp [aput,List.getD,h]

theorem Came.put {o : Oper} {A A' : List Value} {H H' : AHeap} (h : Came E call ops o A H A' H') : ∃ v,A' = aput A o.dst v := by
 cases h with
 | not _ hA _ => exact ⟨_,hA⟩
 | val v _ _ hA => exact ⟨_,hA⟩
 | call v _ _ _ _ _ hA => exact ⟨_,hA⟩

include c in
theorem Ctx.length {k : Nat} (hk : k ≤ ops.size) : (AA k).length = (AA 0).length := by
 induction k with
 | zero => rfl
 | succ k ih =>
  obtain ⟨o,ho⟩ := lt_get (ops := ops) (show k < ops.size by omega)
  obtain ⟨v,hv⟩ := (came (c.run k o ho)).put
  rw [hv,aput_length,ih (by omega)]

include c in
theorem Ctx.tmp_same {t i j : Nat} (hij : i ≤ j) (hj : j ≤ ops.size) (h : ∀ k o,ops[k]? = some o → i ≤ k → k < j → o.dst ≠ some t) : (AA j).getD t undef = (AA i).getD t undef := by
 induction j with
 | zero => have : i = 0 := by omega
           subst this; rfl
 | succ j ih =>
  by_cases he : i = j + 1
  ·subst he; rfl
  ·obtain ⟨o,ho⟩ := lt_get (ops := ops) (show j < ops.size by omega)
   obtain ⟨v,hv⟩ := (came (c.run j o ho)).put
   rw [hv,aput_ne (h j o ho (by omega) (by omega)),ih (by omega) (by omega) fun k o' hk h1 h2 => h k o' hk h1 (by omega)]

include c in
theorem Ctx.tmp_eq {t q j : Nat} (hq : q ≤ ops.size) (hj : j ≤ ops.size) (h : ∀ k o,ops[k]? = some o → o.dst = some t → (k < q ↔ k < j)) : (AA q).getD t undef = (AA j).getD t undef := by
 rcases Nat.le_total q j with hqj | hqj
 ·exact (c.tmp_same hqj hj fun k o hk h1 h2 hd => by have := h k o hk hd; omega).symm
 ·exact c.tmp_same hqj hq fun k o hk h1 h2 hd => by have := h k o hk hd; omega

theorem isM_call {A : List Value} {H : AHeap} {op : Op} {f : Nat} {args : List Value} (h : aop E A H op = some (.call f args)) : isM op = true := by
 cases op <;> simp only [aop] at h <;> try (cases h; done)
 case call cl =>
  obtain ⟨callee,cargs,tys⟩ := cl
  cases callee with
  | invoke r m => cases h
  | value f => rfl
  | builtin b => exact absurd h hres_call
 case makeFunc fn fs cs => cases fn <;> simp only at h <;> first | (cases h; done) | (injection h with h; cases h; done)
 case makeMap t r => cases r <;> simp only at h <;> first | (cases h; done) | (injection h with h; cases h; done)
 all_goals first
  | exact absurd h vres_call
  | exact absurd h hres_call
  | exact absurd h ures_call
  | (split at h <;> first | exact absurd h vres_call | (injection h with h; cases h; done) | (cases h; done) | (split at h <;> first | (injection h with h; cases h; done) | (cases h; done)))
  | (injection h with h; cases h; done)

theorem aop_keep {A : List Value} {H H' : AHeap} {op : Op} {v : Value} (hM : isM op = false) (h : aop E A H op = some (.val v H')) (b : Nat) (hb : b < H.size) : H'.get b = H.get b := by
 obtain ⟨K',_,hl⟩ := aop_local (K := H) hM h rfl (fun b hb => by split <;> intros <;> rfl)
 exact hl.old' b hb

include c in
theorem Ctx.keep {k : Nat} {o : Oper} (ho : ops[k]? = some o) (hM : isM o.op = false) (b : Nat) (hb : b < (HH k).size) : (HH (k + 1)).get b = (HH k).get b := by
 cases came (c.run k o ho) with
 | not _ _ hH => rw [hH]
 | val v _ hop _ => exact aop_keep hM hop b hb
 | call v f args _ hop _ _ => rw [isM_call hop] at hM; cases hM

include c in
theorem Ctx.same_range {weak : Bool} {x y b : Nat} (hxy : x ≤ y) (hy : y ≤ ops.size) (hb : b < (HH x).size)
  (h : ∀ k o,ops[k]? = some o → x ≤ k → k < y → isM o.op = true → same weak ((HH k).get b) ((HH (k + 1)).get b)) : same weak ((HH x).get b) ((HH y).get b) := by
 induction y with
 | zero => have : x = 0 := by omega
           subst this; exact same.rfl _ _
 | succ y ih =>
  by_cases he : x = y + 1
  ·subst he; exact same.rfl _ _
  ·obtain ⟨o,ho⟩ := lt_get (ops := ops) (show y < ops.size by omega)
   refine (ih (by omega) (by omega) fun k o' hk h1 h2 h3 => h k o' hk h1 (by omega) h3).trans ?_
   cases hM : isM o.op with
   | true => exact h y o ho (by omega) (by omega) hM
   | false =>
    rw [c.keep ho hM b (Nat.lt_of_lt_of_le hb (c.size_le (by omega) (by omega)))]
    exact same.rfl _ _
include c in
theorem Ctx.keep_range {x y b : Nat} (hxy : x ≤ y) (hy : y ≤ ops.size) (hb : b < (HH x).size)
  (h : ∀ k o,ops[k]? = some o → x ≤ k → k < y → isM o.op = false) : (HH y).get b = (HH x).get b := by
 have := c.same_range (weak := false) hxy hy hb fun k o hk h1 h2 h3 => by rw [h k o hk h1 h2] at h3; cases h3
 exact (by simpa [same] using this : (HH x).get b = (HH y).get b).symm

include c in
theorem Ctx.birth {i j b : Nat} (hi : i < ops.size) (hj : j < ops.size) (h1 : (HH i).size ≤ b) (h2 : b < (HH (i + 1)).size) (h3 : (HH j).size ≤ b) (h4 : b < (HH (j + 1)).size) : i = j := by
 rcases Nat.lt_trichotomy i j with h | h | h
 ·have := c.size_le (i := i + 1) (j := j) (by omega) (by omega); omega
 ·exact h
 ·have := c.size_le (i := j + 1) (j := i) (by omega) (by omega); omega

structure Inv (E : Env) (ops : Array Oper) (AA : Nat → List Value) (HH : Nat → AHeap) (ι0 : Emb) (w0 : World) (a0 : Act) (ι : Emb) (K : AHeap) (p : Nat) (listed : Array Bool) (a : Act) (w : World) : Prop where
 size : listed.size = ops.size
 closed : closedUnder ops (isIn listed)
 le : p ≤ ops.size
 prog : ∀ i o,ops[i]? = some o → isM o.op = true → (isIn listed i ↔ i < p)
 rel : Rel E ι K w
 step : Step ι0 (HH 0) w0 ι K w
 ksz : K.size = (HH ops.size).size
 dom : ∀ b l,ι b = some l → b < (HH 0).size ∨ ∃ i,i < ops.size ∧ isIn listed i ∧ (HH i).size ≤ b ∧ b < (HH (i + 1)).size
 c1 : ∀ b l,ι b = some l → b < (HH p).size → K.get b = (HH p).get b
 c2 : ∀ i b l,p ≤ i → i < ops.size → isIn listed i → ι b = some l → (HH i).size ≤ b → b < (HH (i + 1)).size → K.get b = (HH (i + 1)).get b
 c3 : ∀ i o b,i < p → ops[i]? = some o → isM o.op = false → ¬ isIn listed i → (HH i).size ≤ b → b < (HH (i + 1)).size → (HH p).get b = (HH (i + 1)).get b
 defers : a.defers = a0.defers
 len : a.tmps.size = (AA 0).length
 tmps : ∀ t v',a.tmps[t]? = some v' → ∃ q,q ≤ ops.size ∧ (∀ i o,ops[i]? = some o → o.dst = some t → (isIn listed i ↔ i < q)) ∧ RV ι ((AA q).getD t undef) v'

section
variable {ι : Emb} {w : World} {a0 a : Act} {K : AHeap} {p : Nat} {listed : Array Bool} (I : Inv E ops AA HH ι0 w0 a0 ι K p listed a w)

theorem isIn_set {i j : Nat} (hj : j < listed.size) : isIn (listed.setIfInBounds j true) i ↔ i = j ∨ isIn listed i := by
 unfold isIn
 by_cases h : j = i
 ·subst h; simp [hj]
 ·rw [getD_set_ne false h]
  constructor
  ·exact .inr
  ·rintro (rfl | h1)
   ·exact absurd rfl h
   ·exact h1

structure Next (ops : Array Oper) (listed : Array Bool) (j : Nat) (o : Oper) : Prop where
 at' : ops[j]? = some o
 not : ¬ isIn listed j
 after : ∀ e ∈ o.after,Region.binds .any e = true → isIn listed e.on

theorem next_of_ready {md : Region.Mode} (hmd : md = .any) {j : Nat} (hs : listed.size = ops.size) (h : j ∈ Region.ready md ops listed) : ∃ o,Next ops listed j o := by
 subst hmd
 obtain ⟨h0,o,ho,hall⟩ := mem_ready.1 h
 refine ⟨o,ho,?_,hall⟩
 have hj : j < listed.size := by rw [hs]; exact get_lt ho
 simp [hj] at h0
 simp [isIn,hj,h0]

variable {j : Nat} {o : Oper} (N : Next ops listed j o)

include c I N in
theorem before_done {i : Nat} {oi : Oper} (hi : ops[i]? = some oi) (hb : bef (befs ops.toList []) i j = true) : isIn listed i :=
 bef_in I.closed hb N.at' N.after
include c I N in
theorem after_undone {i : Nat} {oi : Oper} (hi : ops[i]? = some oi) (hb : bef (befs ops.toList []) j i = true) : ¬ isIn listed i := fun h =>
 N.not (bef_in I.closed hb hi fun e he hbe => I.closed i oi h hi e he hbe)

include c I N in
theorem writers {t : Nat} (ht : t ∈ o.looksAt ops ∨ o.dst = some t) {i : Nat} {oi : Oper} (hi : ops[i]? = some oi) (hd : oi.dst = some t) : isIn listed i ↔ i < j := by
 rcases Nat.lt_trichotomy i j with h | h | h
 ·refine ⟨fun _ => h,fun _ => ?_⟩
  cases hb : bef (befs ops.toList []) i j with
  | true => exact before_done c I N hi hb
  | false =>
   obtain ⟨h1,h2,h3⟩ := Oper.apart_spec (drawOk_pair c.ok hi N.at' h hb).1
   rcases ht with ht | ht
   ·exact absurd ht (h1 t hd)
   ·exact absurd ht (h2 t hd)
 ·subst h
  exact ⟨fun hh => absurd hh N.not,fun hh => by omega⟩
 ·refine ⟨fun hh => ?_,fun hh => by omega⟩
  cases hb : bef (befs ops.toList []) j i with
  | true => exact absurd hh (after_undone c I N hi hb)
  | false =>
   obtain ⟨h1,h2,h3⟩ := Oper.apart_spec (drawOk_pair c.ok N.at' hi h hb).1
   rcases ht with ht | ht
   ·exact absurd ht (h3 t hd)
   ·exact absurd hd (h2 t ht)

include c I N in
theorem looked {t : Nat} (ht : t ∈ o.looksAt ops) {v' : Value} (hv : a.tmps[t]? = some v') : RV ι ((AA j).getD t undef) v' := by
 obtain ⟨q,h1,h2,h3⟩ := I.tmps t v' hv
 rw [c.tmp_eq h1 (Nat.le_of_lt (get_lt N.at')) fun k ok hk hd => by rw [← h2 k ok hk hd]; exact writers c I N (.inl ht) hk hd] at h3
 exact h3

include c I N in
theorem wanted_same : Region.wanted o (yielded ops a.tmps) = Region.wanted o (ayield ops (AA j)) := by
 unfold Region.wanted
 cases hg : o.guard with
 | none => rfl
 | some gw =>
  obtain ⟨g,want⟩ := gw
  simp only
  congr 1
  unfold yielded ayield
  cases hd : (ops[g]?).bind (·.dst) with
  | none => simp
  | some t =>
   simp only [Option.bind_some]
   have ht : t ∈ o.looksAt ops := List.mem_append_right _ (by simp [hg,hd])
   have hlen := c.length (Nat.le_of_lt (get_lt N.at'))
   cases hv : a.tmps[t]? with
   | none =>
    have : (AA j)[t]? = none := by
     rw [List.getElem?_eq_none_iff,hlen,← I.len]
     simpa using hv
    rw [this]
   | some v' =>
    have hlt : t < (AA j).length := by rw [hlen,← I.len]; exact (Array.getElem?_eq_some_iff.1 hv).1
    have hr := looked c I N ht hv
    have : (AA j)[t]? = some ((AA j).getD t undef) := by simp [List.getD,hlt]
    rw [this]
    generalize (AA j).getD t undef = u at hr
    cases hr <;> rfl

include c I N in
theorem closed_next : closedUnder ops (isIn (listed.setIfInBounds j true)) := by
 have hj : j < listed.size := by rw [I.size]; exact get_lt N.at'
 intro i oi hi hoi e he hb
 rw [isIn_set hj] at hi ⊢
 rcases hi with rfl | hi
 ·rw [N.at'] at hoi; injection hoi with hoi; subst hoi
  exact .inr (N.after e he hb)
 ·exact .inr (I.closed i oi hi hoi e he hb)

include c I N in
theorem tmps_next {ι2 : Emb} (hle : ι.le ι2) {v v' : Value} (hA : AA (j + 1) = aput (AA j) o.dst v) (hv : RV ι2 v v') (t : Nat) (u : Value) (hu : (a.put o.dst v').tmps[t]? = some u) :
  ∃ q,q ≤ ops.size ∧ (∀ i oi,ops[i]? = some oi → oi.dst = some t → (isIn (listed.setIfInBounds j true) i ↔ i < q)) ∧ RV ι2 ((AA q).getD t undef) u := by
 have hj : j < listed.size := by rw [I.size]; exact get_lt N.at'
 have hjn := get_lt N.at'
 by_cases hd : o.dst = some t
 ·refine ⟨j + 1,hjn,fun i oi hi hdi => ?_,?_⟩
  ·rw [isIn_set hj,writers c I N (.inr hd) hi hdi]; omega
  ·have hlt : t < (AA j).length := by
    rw [c.length (Nat.le_of_lt hjn),← I.len]
    have := (Array.getElem?_eq_some_iff.1 hu).1
    rw [hd] at this
    simpa [Act.put] using this
   rw [hA,hd,aput_same hlt]
   have : u = v' := by
    rw [hd] at hu
    have hlt' : t < a.tmps.size := by rw [I.len,← c.length (Nat.le_of_lt hjn)]; exact hlt
    simp [Act.put,hlt'] at hu
    exact hu.symm
   rw [this]; exact hv
 ·have hu' : a.tmps[t]? = some u := by
   cases hdd : o.dst with
   | none => rw [hdd] at hu; exact hu
   | some d =>
    have hne : d ≠ t := fun e => hd (by rw [hdd,e])
    rw [hdd] at hu
    simpa [Act.put,Array.getElem?_setIfInBounds_ne hne] using hu
  obtain ⟨q,h1,h2,h3⟩ := I.tmps t u hu'
  refine ⟨q,h1,fun i oi hi hdi => ?_,h3.mono hle⟩
  rw [isIn_set hj,← h2 i oi hi hdi]
  constructor
  ·rintro (rfl | h)
   ·rw [N.at'] at hi; injection hi with hi; subst hi; exact absurd hdi hd
   ·exact h
  ·exact .inr

include c I N in
theorem inv_still (hM : isM o.op = false) {ι2 : Emb} {K2 : AHeap} {w2 : World} {v v' : Value} (hle : ι.le ι2) (hR : Rel E ι2 K2 w2) (hS : Step ι0 (HH 0) w0 ι2 K2 w2) (hz : K2.size = K.size)
  (hold : ∀ b l,ι b = some l → K2.get b = K.get b) (hnew : ∀ b l,ι2 b = some l → ι b = none → (HH j).size ≤ b ∧ b < (HH (j + 1)).size ∧ K2.get b = (HH (j + 1)).get b)
  (hA : AA (j + 1) = aput (AA j) o.dst v) (hv : RV ι2 v v') : Inv E ops AA HH ι0 w0 a0 ι2 K2 p (listed.setIfInBounds j true) (a.put o.dst v') w2 := by
 have hj : j < listed.size := by rw [I.size]; exact get_lt N.at'
 have hjn := get_lt N.at'
 have hup : ∀ {b l},ι2 b = some l → ι b = none ∨ ∃ l',ι b = some l' := fun {b l} h => by cases ι b <;> simp
 have hnot : ∀ {b l},ι b = some l → (HH j).size ≤ b → b < (HH (j + 1)).size → False := fun {b l} hb h1 h2 => by
  rcases I.dom b l hb with h | ⟨i,h3,h4,h5,h6⟩
  ·have := c.size_le (i := 0) (j := j) (by omega) (by omega); omega
  ·have := c.birth h3 hjn h5 h6 h1 h2
   subst this; exact N.not h4
 refine ⟨by simp [I.size],closed_next c I N,I.le,?_,hR,hS,by rw [hz,I.ksz],?_,?_,?_,?_,?_,?_,?_⟩
 ·intro i oi hi hMi
  rw [isIn_set hj,← I.prog i oi hi hMi]
  constructor
  ·rintro (rfl | h)
   ·rw [N.at'] at hi; injection hi with hi; subst hi; rw [hM] at hMi; cases hMi
   ·exact h
  ·exact .inr
 ·intro b l hb
  rcases hup hb with h | ⟨l',h⟩
  ·obtain ⟨h1,h2,_⟩ := hnew b l hb h
   exact .inr ⟨j,hjn,(isIn_set hj).2 (.inl rfl),h1,h2⟩
  ·rcases I.dom b l' h with h | ⟨i,h3,h4,h5⟩
   ·exact .inl h
   ·exact .inr ⟨i,h3,(isIn_set hj).2 (.inr h4),h5⟩
 ·intro b l hb hbp
  rcases hup hb with h | ⟨l',h⟩
  ·obtain ⟨h1,h2,h3⟩ := hnew b l hb h
   rw [h3]
   have hjp : j < p := by
    rcases Nat.lt_or_ge j p with h | h
    ·exact h
    ·have := c.size_le (i := p) (j := j) h (by omega); omega
   exact (I.c3 j o b hjp N.at' hM N.not h1 h2).symm
  ·rw [hold b l' h]; exact I.c1 b l' h hbp
 ·intro i b l hpi hi hin hb h1 h2
  rcases hup hb with h | ⟨l',h⟩
  ·obtain ⟨h3,h4,h5⟩ := hnew b l hb h
   have := c.birth hi hjn h1 h2 h3 h4
   subst this; exact h5
  ·rw [hold b l' h]
   rcases (isIn_set hj).1 hin with rfl | hin
   ·exact (hnot h h1 h2).elim
   ·exact I.c2 i b l' hpi hi hin h h1 h2
 ·intro i oi b hip hi hMi hin h1 h2
  exact I.c3 i oi b hip hi hMi (fun h => hin ((isIn_set hj).2 (.inr h))) h1 h2
 ·rw [AbsYtkhcbbpfchgemaaDoor.put_defers]; exact I.defers
 ·rw [← I.len]; cases o.dst <;> simp [Act.put]
 ·exact fun t u hu => tmps_next c I N hle hA hv t u hu

include c I N in
theorem inv_moved (hM : isM o.op = true) {ι2 : Emb} {K2 : AHeap} {w2 : World} {v v' : Value} (hle : ι.le ι2) (hR : Rel E ι2 K2 w2) (hS : Step ι0 (HH 0) w0 ι2 K2 w2) (hz : K2.size = K.size)
  (hlow : ∀ b l,ι2 b = some l → b < (HH (j + 1)).size → K2.get b = (HH (j + 1)).get b) (hhigh : ∀ b l,ι2 b = some l → (HH (j + 1)).size ≤ b → (∃ l',ι b = some l') ∧ K2.get b = K.get b)
  (haway : ∀ b,b < (HH j).size → ι b = none → (HH (j + 1)).get b = (HH j).get b) (hnew : ∀ b l,ι2 b = some l → ι b = none → (HH j).size ≤ b ∧ b < (HH (j + 1)).size)
  (hA : AA (j + 1) = aput (AA j) o.dst v) (hv : RV ι2 v v') : ∃ p',Inv E ops AA HH ι0 w0 a0 ι2 K2 p' (listed.setIfInBounds j true) (a.put o.dst v') w2 := by
 have hj : j < listed.size := by rw [I.size]; exact get_lt N.at'
 have hjn := get_lt N.at'
 have hup : ∀ {b l},ι2 b = some l → ι b = none ∨ ∃ l',ι b = some l' := fun {b l} h => by cases ι b <;> simp
 have hMM : ∀ {i oi},ops[i]? = some oi → isM oi.op = true → i < j → isIn listed i := fun {i oi} hi hMi hij => by
  cases hb : bef (befs ops.toList []) i j with
  | true => exact before_done c I N hi hb
  | false => exact absurd ⟨hMi,hM⟩ (drawOk_pair c.ok hi N.at' hij hb).2
 have hMM' : ∀ {i oi},ops[i]? = some oi → isM oi.op = true → j < i → ¬ isIn listed i := fun {i oi} hi hMi hij => by
  cases hb : bef (befs ops.toList []) j i with
  | true => exact after_undone c I N hi hb
  | false => exact absurd ⟨hM,hMi⟩ (drawOk_pair c.ok N.at' hi hij hb).2
 have hpj : p ≤ j := by
  rcases Nat.lt_or_ge j p with h | h
  ·exact absurd ((I.prog j o N.at' hM).2 h) N.not
  ·exact h
 have hgap : ∀ i oi,ops[i]? = some oi → p ≤ i → i < j → isM oi.op = false := fun i oi hi h1 h2 => by
  cases hMi : isM oi.op with
  | false => rfl
  | true => have := (I.prog i oi hi hMi).1 (hMM hi hMi h2); omega
 obtain ⟨p',hp1,hp2,hp3,hp4⟩ : ∃ p',j < p' ∧ p' ≤ ops.size ∧ (∀ i oi,ops[i]? = some oi → j < i → i < p' → isM oi.op = false) ∧ (p' = ops.size ∨ ∃ oi,ops[p']? = some oi ∧ isM oi.op = true) := by
  have : ∀ m k,k + m = ops.size → j < k → (∀ i oi,ops[i]? = some oi → j < i → i < k → isM oi.op = false) →
    ∃ p',j < p' ∧ p' ≤ ops.size ∧ (∀ i oi,ops[i]? = some oi → j < i → i < p' → isM oi.op = false) ∧ (p' = ops.size ∨ ∃ oi,ops[p']? = some oi ∧ isM oi.op = true) := by
   intro m
   induction m with
   | zero => intro k hk hjk hno; exact ⟨k,hjk,by omega,hno,.inl (by omega)⟩
   | succ m ih =>
    intro k hk hjk hno
    obtain ⟨ok,hok⟩ := lt_get (ops := ops) (show k < ops.size by omega)
    cases hMk : isM ok.op with
    | true => exact ⟨k,hjk,by omega,hno,.inr ⟨ok,hok,hMk⟩⟩
    | false =>
     refine ih (k + 1) (by omega) (by omega) fun i oi hi h1 h2 => ?_
     by_cases hik : i = k
     ·subst hik; rw [hok] at hi; injection hi with hi; subst hi; exact hMk
     ·exact hno i oi hi h1 (by omega)
  exact this (ops.size - (j + 1)) (j + 1) (by omega) (by omega) fun i oi hi h1 h2 => by omega
 have hkeep : ∀ {x b},j < x → x ≤ p' → b < (HH x).size → (HH p').get b = (HH x).get b := fun {x b} h1 h2 h3 =>
  c.keep_range h2 hp2 h3 fun k ok hk h4 h5 => hp3 k ok hk (by omega) h5
 have hkeep0 : ∀ {x b},p ≤ x → x ≤ j → b < (HH x).size → (HH j).get b = (HH x).get b := fun {x b} h1 h2 h3 =>
  c.keep_range h2 (Nat.le_of_lt hjn) h3 fun k ok hk h4 h5 => hgap k ok hk (by omega) h5
 refine ⟨p',by simp [I.size],closed_next c I N,hp2,?_,hR,hS,by rw [hz,I.ksz],?_,?_,?_,?_,?_,?_,?_⟩
 ·intro i oi hi hMi
  rw [isIn_set hj]
  constructor
  ·rintro (rfl | h)
   ·exact hp1
   ·have := (I.prog i oi hi hMi).1 h; omega
  ·intro hip
   rcases Nat.lt_trichotomy i j with h | h | h
   ·exact .inr (hMM hi hMi h)
   ·exact .inl h
   ·have := hp3 i oi hi h hip; rw [hMi] at this; cases this
 ·intro b l hb
  rcases hup hb with h | ⟨l',h⟩
  ·obtain ⟨h1,h2⟩ := hnew b l hb h
   exact .inr ⟨j,hjn,(isIn_set hj).2 (.inl rfl),h1,h2⟩
  ·rcases I.dom b l' h with h | ⟨i,h3,h4,h5⟩
   ·exact .inl h
   ·exact .inr ⟨i,h3,(isIn_set hj).2 (.inr h4),h5⟩
 ·intro b l hb hbp
  rcases Nat.lt_or_ge b (HH (j + 1)).size with h | h
  ·rw [hlow b l hb h,hkeep (by omega) (by omega) h]
  ·obtain ⟨⟨l',h1⟩,h2⟩ := hhigh b l hb h
   rw [h2]
   rcases I.dom b l' h1 with h3 | ⟨i,h3,h4,h5,h6⟩
   ·have := c.size_le (i := 0) (j := j + 1) (by omega) (by omega); omega
   ·have hji : j < i := by
     rcases Nat.lt_or_ge j i with h7 | h7
     ·exact h7
     ·have := c.size_le (i := i + 1) (j := j + 1) (by omega) (by omega); omega
    have hip : i < p' := by
     rcases Nat.lt_or_ge i p' with h7 | h7
     ·exact h7
     ·have := c.size_le (i := p') (j := i) (by omega) (by omega); omega
    rw [I.c2 i b l' (by omega) h3 h4 h1 h5 h6,hkeep (by omega) (by omega) h6]
 ·intro i b l hpi hi hin hb h1 h2
  have h3 : (HH (j + 1)).size ≤ b := by have := c.size_le (i := j + 1) (j := i) (by omega) (by omega); omega
  obtain ⟨⟨l',h4⟩,h5⟩ := hhigh b l hb h3
  rw [h5]
  rcases (isIn_set hj).1 hin with rfl | hin
  ·omega
  ·exact I.c2 i b l' (by omega) hi hin h4 h1 h2
 ·intro i oi b hip hi hMi hin h1 h2
  have hin' : ¬ isIn listed i := fun h => hin ((isIn_set hj).2 (.inr h))
  have hij : i ≠ j := fun h => hin ((isIn_set hj).2 (.inl h))
  rcases Nat.lt_or_ge i j with h | h
  ·have hb' : ι b = none := by
    cases hx : ι b with
    | none => rfl
    | some l =>
     rcases I.dom b l hx with h3 | ⟨i',h3,h4,h5,h6⟩
     ·have := c.size_le (i := 0) (j := i) (by omega) (by omega); omega
     ·have := c.birth h3 (get_lt hi) h5 h6 h1 h2
      subst this; exact absurd h4 hin'
   have hbj : b < (HH j).size := Nat.lt_of_lt_of_le h2 (c.size_le (by omega) (by omega))
   have e1 : (HH j).get b = (HH (i + 1)).get b := by
    rcases Nat.lt_or_ge i p with h3 | h3
    ·have h4 := I.c3 i oi b h3 hi hMi hin' h1 h2
     rw [hkeep0 (x := p) (by omega) hpj (Nat.lt_of_lt_of_le h2 (c.size_le (by omega) I.le)),h4]
    ·exact hkeep0 (by omega) (by omega) h2
   rw [hkeep (x := j + 1) (by omega) (by omega) (Nat.lt_of_lt_of_le hbj (c.size_le (by omega) (by omega))),haway b hbj hb',e1]
  ·exact hkeep (by omega) (by omega) h2
 ·rw [AbsYtkhcbbpfchgemaaDoor.put_defers]; exact I.defers
 ·rw [← I.len]; cases o.dst <;> simp [Act.put]
 ·exact fun t u hu => tmps_next c I N hle hA hv t u hu

end
end
end AbsYtkhcbbpfchgemaaDoor

/-
 A region that draws its order: one operation after another,and the whole.
-/
namespace AbsYtkhcbbpfchgemaaDoor
set_option linter.unusedVariables false
set_option linter.unusedSimpArgs false
set_option linter.unusedSectionVars false
open Go

theorem blkOf_dom {ι : Emb} {v v' : Value} (h : RV ι v v') {b : Nat} (hb : b ∈ blkOf v) : ∃ l,ι b = some l := by
 cases h <;> simp [blkOf] at hb <;> subst hb <;> exact ⟨_,by assumption⟩
theorem blkOf_closed {v : Value} (h : closedV v = true) : blkOf v = [] := by
 unfold closedV at h
 split at h <;> first | rfl | cases h
theorem reads_operand {A : List Value} {op : Op} {b : Nat} (h : b ∈ reads A op) : ∃ x ∈ op.operands,b ∈ blkOf (aev A x) := by
 cases op <;> simp only [reads] at h <;> try (simp at h; done)
 case load t x => exact ⟨x,by simp [Op.operands],h⟩
 case lookup t m k ok => exact ⟨m,by simp [Op.operands],h⟩
 case convert s d x => exact ⟨x,by simp [Op.operands],h⟩
 case slice t x lo hi mx => exact ⟨x,by simp [Op.operands],h⟩
 case binOp op t x y u =>
  split at h
  ·rcases List.mem_append.1 h with h | h
   ·exact ⟨x,by simp [Op.operands],h⟩
   ·exact ⟨y,by simp [Op.operands],h⟩
  ·simp at h
 case call c =>
  obtain ⟨callee,args,tys⟩ := c
  simp only at h
  split at h
  ·obtain ⟨x,h1,h2⟩ := List.mem_flatMap.1 h
   exact ⟨x,by simp [Op.operands,Call.operands]; simpa using h1,h2⟩
  ·simp at h

theorem mem_looks {ops : Array Oper} {o : Oper} {t : Nat} (h : Operand.tmp t ∈ o.op.operands) : t ∈ o.looksAt ops :=
 List.mem_append_left _ (List.mem_filterMap.2 ⟨.tmp t,by simpa using h,rfl⟩)

section
variable {E : Env} {call : Call} {ops : Array Oper} {AA : Nat → List Value} {HH : Nat → AHeap} {ι0 : Emb} {w0 : World} (c : Ctx E call ops AA HH ι0 w0)
variable {ι : Emb} {w : World} {a0 a : Act} {K : AHeap} {p : Nat} {listed : Array Bool} (I : Inv E ops AA HH ι0 w0 a0 ι K p listed a w)
variable {j : Nat} {o : Oper} (N : Next ops listed j o)

include c I N in
theorem reads_dom {ιj : Emb} {wj : World} {τj : List Value} (hRj : Rel E ιj (HH j) wj) (hAj : RVs ιj (AA j) τj) {b : Nat} (hb : b ∈ reads (AA j) o.op) : (∃ l,ι b = some l) ∧ ∃ l,ιj b = some l := by
 obtain ⟨x,hx,hbx⟩ := reads_operand hb
 have hop := opOk_mem (c.opok j o N.at') x (by simpa using hx)
 cases x with
 | const v => rw [aev,blkOf_closed (by simpa [opndOk] using hop)] at hbx; cases hbx
 | func f => simp [aev,blkOf] at hbx
 | global g =>
  have hg : g < E.ng := by simpa [opndOk,Nat.blt_eq] using hop
  simp [aev,blkOf] at hbx; subst hbx
  obtain ⟨l,h1,_⟩ := I.rel.glob b hg
  obtain ⟨l',h2,_⟩ := hRj.glob b hg
  exact ⟨⟨l,h1⟩,⟨l',h2⟩⟩
 | tmp t =>
  simp only [aev] at hbx
  cases hv : a.tmps[t]? with
  | none =>
   have : (AA j)[t]? = none := by
    rw [List.getElem?_eq_none_iff,c.length (Nat.le_of_lt (get_lt N.at')),← I.len]
    simpa using hv
   simp [List.getD,this,blkOf,undef] at hbx
  | some v' => exact ⟨blkOf_dom (looked c I N (mem_looks hx) hv) hbx,blkOf_dom (hAj.getD t RV.undef) hbx⟩

include c I N in
theorem looked_meet {ιj : Emb} {τj : List Value} (hAj : RVs ιj (AA j) τj) (t : Nat) (ht : Operand.tmp t ∈ o.op.operands) (v v' : Value) (hv : (AA j)[t]? = some v) (hv' : a.tmps[t]? = some v') : RV (ι.meet ιj) v v' := by
 have h1 := looked c I N (mem_looks ht) hv'
 have : (AA j).getD t undef = v := by simp [List.getD,hv]
 rw [this] at h1
 obtain ⟨v0,_,h2⟩ := hAj.get t v hv
 exact h1.meet h2

include c I N in
theorem none_at {b : Nat} (h1 : (HH j).size ≤ b) (h2 : b < (HH (j + 1)).size) : ι b = none := by
 cases hx : ι b with
 | none => rfl
 | some l =>
  have hjn := get_lt N.at'
  rcases I.dom b l hx with h | ⟨i,h3,h4,h5,h6⟩
  ·have := c.size_le (i := 0) (j := j) (by omega) (by omega); omega
  ·have := c.birth h3 hjn h5 h6 h1 h2
   subst this; exact absurd h4 N.not

include c I in
theorem dom_lt {b : Nat} {l : Loc} (hb : ι b = some l) : b < K.size := by
 rw [I.ksz]
 rcases I.dom b l hb with h | ⟨i,h3,h4,h5,h6⟩
 ·exact Nat.lt_of_lt_of_le h (c.size_le (by omega) (Nat.le_refl _))
 ·exact Nat.lt_of_lt_of_le h6 (c.size_le (by omega) (Nat.le_refl _))

include c I N in
theorem same_at {weak : Bool} {b : Nat} {l : Loc} (hb : ι b = some l) (hbj : b < (HH j).size)
  (hfl : ∀ k ok,ops[k]? = some ok → isM ok.op = true → (p ≤ k ∧ k < j ∨ j < k ∧ k < p) → same weak ((HH k).get b) ((HH (k + 1)).get b))
  (hself : isM o.op = true → p ≤ j) : same weak ((HH j).get b) (K.get b) := by
 have hjn := get_lt N.at'
 rcases Nat.lt_or_ge j p with h | h
 ·rw [I.c1 b l hb (Nat.lt_of_lt_of_le hbj (c.size_le (Nat.le_of_lt h) I.le))]
  refine c.same_range (Nat.le_of_lt h) I.le hbj fun k ok hk h1 h2 h3 => ?_
  have hne : j ≠ k := by
   rintro rfl
   rw [N.at'] at hk; injection hk with hk; subst hk
   have := hself h3; omega
  exact hfl k ok hk h3 (.inr ⟨by omega,h2⟩)
 ·rcases Nat.lt_or_ge b (HH p).size with h4 | h4
  ·rw [I.c1 b l hb h4]
   exact (c.same_range h (Nat.le_of_lt hjn) h4 fun k ok hk h1 h2 h3 => hfl k ok hk h3 (.inl ⟨h1,h2⟩)).symm
  ·rcases I.dom b l hb with h5 | ⟨i,h5,h6,h7,h8⟩
   ·have := c.size_le (i := 0) (j := p) (by omega) I.le; omega
   ·have hpi : p ≤ i := by
     rcases Nat.lt_or_ge i p with h9 | h9
     ·have := c.size_le (i := i + 1) (j := p) h9 I.le; omega
     ·exact h9
    have hij : i + 1 ≤ j := by
     rcases Nat.lt_or_ge i j with h9 | h9
     ·exact h9
     ·have := c.size_le (i := j) (j := i) h9 (by omega); omega
    rw [I.c2 i b l hpi h5 h6 hb h7 h8]
    exact (c.same_range hij (Nat.le_of_lt hjn) h8 fun k ok hk h1 h2 h3 => hfl k ok hk h3 (.inl ⟨by omega,h2⟩)).symm

include c I N in
theorem not_moved_yet (hM : isM o.op = true) : p ≤ j ∧ ∀ i oi,ops[i]? = some oi → p ≤ i → i < j → isM oi.op = false := by
 have hpj : p ≤ j := by
  rcases Nat.lt_or_ge j p with h | h
  ·exact absurd ((I.prog j o N.at' hM).2 h) N.not
  ·exact h
 refine ⟨hpj,fun i oi hi h1 h2 => ?_⟩
 cases hMi : isM oi.op with
 | false => rfl
 | true =>
  have hin : isIn listed i := by
   cases hb : bef (befs ops.toList []) i j with
   | true => exact before_done c I N hi hb
   | false => exact absurd ⟨hMi,hM⟩ (drawOk_pair c.ok hi N.at' h2 hb).2
  have := (I.prog i oi hi hMi).1 hin; omega

def weaken (weak : Bool) (o : AObj) : AObj := if weak then (match o with | .cells _ _ sz => .cells [] false sz | _ => .dead) else o
theorem weaken_faint (weak : Bool) {o p : AObj} (h : same weak o p) : faint (weaken weak p) o := by
 cases weak with
 | false => simp [same] at h; subst h; exact .inl rfl
 | true =>
  simp [same] at h
  cases o <;> cases p <;> simp [oszeq] at h
  ·exact .inr (.inl rfl)
  ·subst h; exact .inr (.inr ⟨_,_,_,rfl,rfl⟩)
  ·exact .inr (.inl rfl)
theorem weaken_faint' (weak : Bool) (o : AObj) : faint (weaken weak o) o := weaken_faint weak (same.rfl weak o)

include c I N in
theorem draw_op {Kont : Act → World → Prop} {Q : Exit → Act → World → Prop}
  (hK : ∀ ι2 K2 p2 a2 w2,Inv E ops AA HH ι0 w0 a0 ι2 K2 p2 (listed.setIfInBounds j true) a2 w2 → Kont a2 w2) : wpOp E.P ops Q j Kont a w := by
 have hj : j < listed.size := by rw [I.size]; exact get_lt N.at'
 have hjn := get_lt N.at'
 unfold wpOp
 rw [N.at']
 simp only
 have hws := wanted_same c I N
 have hcame := came (c.run j o N.at')
 have hnot : Region.wanted o (ayield ops (AA j)) = false → AA (j + 1) = aput (AA j) o.dst undef → HH (j + 1) = HH j → Kont (a.put o.dst undef) w := fun hw hA hH => by
  cases hM : isM o.op with
  | false => exact hK _ _ _ _ _ (inv_still c I N hM (Emb.le.refl ι) I.rel I.step rfl (fun _ _ _ => rfl) (fun b l h1 h2 => by rw [h1] at h2; cases h2) hA RV.undef)
  | true =>
   obtain ⟨hpj,hgap⟩ := not_moved_yet c I N hM
   obtain ⟨p',hI⟩ := inv_moved c I N hM (Emb.le.refl ι) I.rel I.step rfl
    (fun b l hb hlt => by
      rw [hH] at hlt ⊢
      have := same_at c I N (weak := false) hb hlt (fun k ok hk hMk h => by
       rcases h with ⟨h1,h2⟩ | ⟨h1,h2⟩
       ·rw [hgap k ok hk h1 h2] at hMk; cases hMk
       ·omega) (fun _ => hpj)
      exact (by simpa [same] using this : (HH j).get b = K.get b).symm)
    (fun b l hb _ => ⟨⟨l,hb⟩,rfl⟩) (fun b _ _ => by rw [hH]) (fun b l h1 h2 => by rw [h1] at h2; cases h2) hA RV.undef
   exact hK _ _ _ _ _ hI
 obtain ⟨ιj,wj,τj,hRj,hDj,hAj,_⟩ := c.chain j (Nat.le_of_lt hjn)
 have hlen : (AA j).length = a.tmps.size := by rw [c.length (Nat.le_of_lt hjn),I.len]
 have hle1 : (ι.meet ιj).le ι := Emb.meet_le _ _
 have hDm1 : Dm (ι.meet ιj) (HH j) := fun b l hb => by
  obtain ⟨l0,hl0⟩ := Option.isSome_iff_exists.1 (Emb.meet_some.1 hb).1
  exact hDj b l0 hl0
 have hmoved : ∀ v,isM o.op = true → Region.wanted o (ayield ops (AA j)) = true → (aop E (AA j) (HH j) o.op = some (.val v (HH (j + 1))) ∨ ∃ f args,aop E (AA j) (HH j) o.op = some (.call f args) ∧ call f args (HH j) = some (v,HH (j + 1))) →
   AA (j + 1) = aput (AA j) o.dst v → o.wp E.P a w Kont Q := fun v hM hw hr hA => by
  obtain ⟨hpj,hgap⟩ := not_moved_yet c I N hM
  have hat : ∀ b l,ι b = some l → b < (HH j).size → (HH j).get b = K.get b := fun b l hb hlt => by
   have := same_at c I N (weak := false) hb hlt (fun k ok hk hMk h => by
    rcases h with ⟨h1,h2⟩ | ⟨h1,h2⟩
    ·rw [hgap k ok hk h1 h2] at hMk; cases hMk
    ·omega) (fun _ => hpj)
   simpa [same] using this
  have hR1 : Rel E (ι.meet ιj) (HH j) w := Rel.meet I.rel hRj fun b l l0 hb hb0 => hat b l hb (hDj b l0 hb0)
  refine runOpV_sim c.hE c.hc hR1 hDm1 hlen (c.opok j o N.at') (fun t ht v v' hv hv' => looked_meet c I N hAj t ht v v' hv hv') hr fun ι' v' w' hv hR' hS' => ?_
  obtain ⟨K2,hz,hK2⟩ := heap_of (fun b => if (ι' b).isSome then (HH (j + 1)).get b else K.get b) K.size K.size
  have hDm' : Dm ι' (HH (j + 1)) := hDm1.step hS'
  have hN : (HH (j + 1)).size ≤ K.size := by rw [I.ksz]; exact c.size_le (by omega) (Nat.le_refl _)
  have hout : ∀ b l,ι' b = some l → (ι.meet ιj) b = none → ι b = none ∧ (HH 0).size ≤ b ∧ b < K2.size := fun b l hb hn => by
   have h1 := hS'.new b l hb hn
   have := c.size_le (i := 0) (j := j) (by omega) (by omega)
   exact ⟨none_at c I N h1.1 h1.2,by omega,by omega⟩
  obtain ⟨g1,g2,g3,g4,g5⟩ := glue (taken := fun _ => True) I.step I.rel hle1 (fun _ _ _ h => h) hR' hS' (fun b l hb _ => hat b l (hle1 _ _ hb) (hDm1 b l hb)) (fun b l _ h => absurd trivial h) hout hz
   (c.size_le (by omega) (by omega)) (fun b l hb _ => by rw [hK2 b (by have := hDm' b l hb; omega)]; simp [hb])
   (fun b hb h => by
     rcases h with h | ⟨_,h⟩
     ·rw [hK2 b (by omega)]; simp [h]
     ·exact absurd trivial h) (fun b l hb => dom_lt c I hb) hDm1
  obtain ⟨p',hI⟩ := inv_moved c I N hM (v := v) (v' := v') g3 g1 g2 hz
   (fun b l hb hlt => by
     cases hx : ι' b with
     | some l' => rw [hK2 b (by omega)]; simp [hx]
     | none =>
      have hb' : ι b = some l := by simpa [hx] using hb
      rw [hK2 b (by omega)]
      simp only [hx,Option.isSome_none,Bool.false_eq_true,if_false]
      have hlt' : b < (HH j).size := by
       rcases Nat.lt_or_ge b (HH j).size with h | h
       ·exact h
       ·have := none_at c I N h hlt; rw [hb'] at this; cases this
      have hn1 : (ι.meet ιj) b = none := by
       cases hy : (ι.meet ιj) b with
       | none => rfl
       | some l1 => rw [hS'.ext _ _ hy] at hx; cases hx
      rw [hS'.away b hlt' hn1,hat b l hb' hlt'])
   (fun b l hb hge => by
     have hx : ι' b = none := by
      cases hy : ι' b with
      | none => rfl
      | some l1 => have := hDm' b l1 hy; omega
     have hb' : ι b = some l := by simpa [hx] using hb
     refine ⟨⟨l,hb'⟩,?_⟩
     rw [hK2 b (dom_lt c I hb')]; simp [hx])
   (fun b hlt hn => hS'.away b hlt (by
     cases hy : (ι.meet ιj) b with
     | none => rfl
     | some l1 => rw [hle1 _ _ hy] at hn; cases hn))
   (fun b l hb hn => by
     obtain ⟨l',h1,h2⟩ := g5 b l hb hn
     exact hS'.new b l' h1 h2) hA (hv.mono g4)
  exact hK _ _ _ _ _ hI
 have hstill : ∀ v,isM o.op = false → Region.wanted o (ayield ops (AA j)) = true → aop E (AA j) (HH j) o.op = some (.val v (HH (j + 1))) →
   AA (j + 1) = aput (AA j) o.dst v → o.wp E.P a w Kont Q := fun v hM hw hop hA => by
  let weak := looksWeak o.op
  have hrd : ∀ b ∈ reads (AA j) o.op,(∃ l,ι b = some l) ∧ b < (HH j).size ∧ same weak ((HH j).get b) (K.get b) := fun b hb => by
   obtain ⟨⟨l,h1⟩,⟨l',h2⟩⟩ := reads_dom c I N hRj hAj hb
   have hlt := hDj b l' h2
   refine ⟨⟨l,h1⟩,hlt,same_at c I N h1 hlt (fun k ok hk hMk h => ?_) (fun h => by rw [hM] at h; cases h)⟩
   have hmr : mayRead o.op = true := by
    revert hb
    cases o.op <;> simp only [reads,mayRead] <;> try simp
    case binOp op t x y u => cases hq : isEq op <;> simp
    case call cl => obtain ⟨callee,args,tys⟩ := cl; cases callee <;> simp; rename_i bb; cases bb <;> simp
   refine c.fl j k o ok N.at' hk hMk hmr ?_ ?_ hw b hb
   ·cases hbf : bef (befs ops.toList []) j k with
    | false => rfl
    | true =>
     have := bef_lt (drawOk_low c.ok) hbf
     rcases h with ⟨h3,h4⟩ | ⟨h3,h4⟩
     ·omega
     ·exact absurd ((I.prog k ok hk hMk).2 h4) (after_undone c I N hk hbf)
   ·cases hbf : bef (befs ops.toList []) k j with
    | false => rfl
    | true =>
     have := bef_lt (drawOk_low c.ok) hbf
     rcases h with ⟨h3,h4⟩ | ⟨h3,h4⟩
     ·have := (I.prog k ok hk hMk).1 (before_done c I N hk hbf); omega
     ·omega
  obtain ⟨G,hGz,hG⟩ := heap_of (fun b => if b ∈ reads (AA j) o.op then weaken weak (K.get b) else .dead) K.size (HH j).size
  have hN0 : (HH j).size ≤ K.size := by rw [I.ksz]; exact c.size_le (by omega) (Nat.le_refl _)
  have hRG : Rel E ι G w := I.rel.faint fun b l hb => by
   rw [hG b (dom_lt c I hb)]
   split
   ·exact weaken_faint' weak _
   ·exact .inr (.inl rfl)
  have hRGj : Rel E ιj G wj := hRj.faint fun b l hb => by
   rw [hG b (by have := hDj b l hb; omega)]
   split
   ·rename_i hb'; exact weaken_faint weak (hrd b hb').2.2
   ·exact .inr (.inl rfl)
  have hR1 : Rel E (ι.meet ιj) G w := Rel.meet hRG hRGj fun _ _ _ _ _ => rfl
  have hDmG : Dm (ι.meet ιj) G := fun b l hb => by rw [hGz]; exact hDm1 b l hb
  obtain ⟨G',hop',hL⟩ := aop_local hM hop hGz (fun b hb => by
   obtain ⟨_,h1,h2⟩ := hrd b hb
   rw [hG b (by omega),if_pos hb]
   cases hwk : looksWeak o.op with
   | false =>
    have e : weak = false := hwk
    rw [e] at h2 ⊢
    simp [same] at h2
    simp [weaken,h2]
   | true =>
    have e : weak = true := hwk
    rw [e] at h2 ⊢
    simp only [same,if_true] at h2
    intro n
    simp only [szOk,hG b (show b < K.size by omega),if_pos hb,e,weaken,if_true]
    cases hx : (HH j).get b <;> cases hy : K.get b <;> simp [hx,hy,oszeq] at h2 ⊢
    subst h2; rfl)
  refine runOpV_sim c.hE c.hc hR1 hDmG hlen (c.opok j o N.at') (fun t ht v v' hv hv' => looked_meet c I N hAj t ht v v' hv hv') (.inl hop') fun ι' v' w' hv hR' hS' => ?_
  obtain ⟨K2,hz,hK2⟩ := heap_of (fun b => if (ι' b).isSome ∧ ι b = none then G'.get b else K.get b) K.size K.size
  have hN : (HH (j + 1)).size ≤ K.size := by rw [I.ksz]; exact c.size_le (by omega) (Nat.le_refl _)
  have hDm' : Dm ι' G' := hDmG.step hS'
  have hnew : ∀ b l,ι' b = some l → (ι.meet ιj) b = none → (HH j).size ≤ b ∧ b < (HH (j + 1)).size := fun b l hb hn => by
   have h1 := hS'.new b l hb hn
   rw [hGz,hL.size] at h1
   exact h1
  obtain ⟨g1,g2,g3,g4,g5⟩ := glue (taken := fun b => b ∈ reads (AA j) o.op ∧ weak = false) I.step I.rel hle1 (fun _ _ _ h => h) hR' hS'
   (fun b l hb ht => by rw [hG b (by have := hDm1 b l hb; omega),if_pos ht.1,ht.2]; rfl)
   (fun b l hb ht => by
     simp only [wrt,hG b (show b < K.size by have := hDm1 b l hb; omega)]
     split
     ·rename_i xs wr sz he
      split at he
      ·rename_i hbr
       have hwk : weak = true := by
        cases hx : weak with
        | true => rfl
        | false => exact absurd ⟨hbr,hx⟩ ht
       rw [hwk] at he
       simp only [weaken,if_true] at he
       cases hy : K.get b <;> simp [hy] at he
       exact he.2.1
      ·cases he
     ·rename_i es clk he
      split at he
      ·rename_i hbr
       have hwk : weak = true := by
        cases hx : weak with
        | true => rfl
        | false => exact absurd ⟨hbr,hx⟩ ht
       rw [hwk] at he
       simp only [weaken,if_true] at he
       cases hy : K.get b <;> simp [hy] at he
      ·cases he
     ·rfl)
   (fun b l hb hn => by
     have h1 := hnew b l hb hn
     have := c.size_le (i := 0) (j := j) (by omega) (by omega)
     exact ⟨none_at c I N h1.1 h1.2,by omega,by omega⟩) hz (by rw [hGz]; exact c.size_le (by omega) (by omega))
   (fun b l hb h => by
     have hbs : b < K.size := by have := hDm' b l hb; have := hL.size; omega
     rw [hK2 b hbs]
     rcases h with h | ⟨h,h'⟩
     ·simp [hb,h]
     ·obtain ⟨l1,hl1⟩ := Option.isSome_iff_exists.1 h
      have hi := hle1 _ _ hl1
      simp only [hb,hi,Option.isSome_some,reduceCtorEq,and_false,if_false]
      have hbj := hDm1 b l1 hl1
      rw [hL.old b hbj,hG b hbs,if_pos h'.1,h'.2]; rfl)
   (fun b hb h => by
     rw [hK2 b (by omega)]
     rcases h with h | ⟨h,_⟩
     ·simp [h]
     ·obtain ⟨l1,hl1⟩ := Option.isSome_iff_exists.1 h
      simp [hl1]) (fun b l hb => dom_lt c I hb) hDmG
  exact hK _ _ _ _ _ (inv_still c I N hM (v := v) (v' := v') g3 g1 g2 hz
   (fun b l hb => by rw [hK2 b (dom_lt c I hb)]; simp [hb])
   (fun b l hb hn => by
     obtain ⟨l',h1,h2⟩ := g5 b l hb hn
     obtain ⟨h3,h4⟩ := hnew b l' h1 h2
     refine ⟨h3,h4,?_⟩
     rw [hK2 b (by omega)]
     simp only [h1,hn,Option.isSome_some,and_self,if_true]
     exact hL.new b h3 h4) hA (hv.mono g4))
 cases hcame with
 | not hw hA hH =>
  rw [if_neg (by rw [hws,hw]; simp)]
  exact hnot hw hA hH
 | val v hw hop hA =>
  rw [if_pos (by rw [hws,hw])]
  refine .inl ?_
  cases hM : isM o.op with
  | true => exact hmoved v hM hw (.inl hop) hA
  | false => exact hstill v hM hw hop hA
 | call v f args hw hop hcall hA =>
  rw [if_pos (by rw [hws,hw])]
  exact .inl (hmoved v (isM_call hop) hw (.inr ⟨f,args,hop,hcall⟩) hA)

end
end AbsYtkhcbbpfchgemaaDoor

/-
 A region that draws its order,whole.
-/
namespace AbsYtkhcbbpfchgemaaDoor
set_option linter.unusedVariables false
set_option linter.unusedSimpArgs false
set_option linter.unusedSectionVars false
open Go

section
variable {E : Env} {call : Call} {ops : Array Oper} {AA : Nat → List Value} {HH : Nat → AHeap} {ι0 : Emb} {w0 : World}

theorem chain_op (hE : TyOk E) (hc : CallOk E call) {o : Oper} (hok : opOk E.ng o.op = true) {ι : Emb} {H H' : AHeap} {w : World} {A A' τ : List Value}
  (hR : Rel E ι H w) (hD : Dm ι H) (hA : RVs ι A τ) (h : runOp E call ops o A H = some (A',H')) :
  ∃ ι' w' τ',Rel E ι' H' w' ∧ Dm ι' H' ∧ RVs ι' A' τ' ∧ Step ι H w ι' H' w' := by
 let a : Act := { tmps := τ.toArray,defers := [] }
 have hAa : RVs ι A a.tmps.toList := by simpa [a] using hA
 cases came h with
 | not hw hA' hH =>
  subst hA'; subst hH
  exact ⟨ι,w,_,hR,hD,put_sim hAa RV.undef o.dst,Step.refl _ _ _⟩
 | val v hw hop hA' =>
  subst hA'
  obtain ⟨n,v',w',ι',_,_,hv,hR',hS'⟩ := aop_val hE hR hD.free hAa hok hop
  exact ⟨ι',w',_,hR',hD.step hS',put_sim (hAa.mono hS'.ext) hv o.dst,hS'⟩
 | call v f args hw hop hcall hA' =>
  subst hA'
  obtain ⟨args',hrun,hargs⟩ := aop_call hR hAa hok hop
  rcases hc.sim _ _ _ _ _ hcall ι w args' hR hD hargs with ⟨_,hcl⟩ | ⟨r',w',_,v',ι',he,hv,hR',hS'⟩
  ·obtain ⟨e,w',fr,⟨v',ι',_,hv,hR',hS'⟩,_⟩ := hcl []
   exact ⟨ι',w',_,hR',hD.step hS',put_sim (hAa.mono hS'.ext) hv o.dst,hS'⟩
  ·exact ⟨ι',w',_,hR',hD.step hS',put_sim (hAa.mono hS'.ext) hv o.dst,hS'⟩

theorem runTr_spec : ∀ (l : List Oper) (A : List Value) (H : AHeap) (tr : List (List Value × AHeap)),runTr E call ops l A H = some tr →
  tr.length = l.length + 1 ∧ tr[0]? = some (A,H) ∧ ∀ (k : Nat) (o : Oper),l[k]? = some o → ∃ A1 H1 A2 H2,tr[k]? = some (A1,H1) ∧ tr[k + 1]? = some (A2,H2) ∧ runOp E call ops o A1 H1 = some (A2,H2)
 | [],A,H,tr,h => by
  simp only [runTr,Option.some.injEq] at h
  subst h
  exact ⟨rfl,rfl,fun k o hk => by simp at hk⟩
 | o :: l,A,H,tr,h => by
  simp only [runTr] at h
  split at h
  rotate_left
  ·cases h
  rename_i A1 H1 hop
  simp only [Option.map_eq_some_iff] at h
  obtain ⟨tr1,h1,h2⟩ := h
  subst h2
  obtain ⟨k1,k2,k3⟩ := runTr_spec l A1 H1 tr1 h1
  refine ⟨by simp [k1],rfl,fun k o' hk => ?_⟩
  cases k with
  | zero =>
   simp at hk; subst hk
   exact ⟨A,H,A1,H1,rfl,by simpa using k2,hop⟩
  | succ k =>
   obtain ⟨B1,G1,B2,G2,m1,m2,m3⟩ := k3 k o' (by simpa using hk)
   exact ⟨B1,G1,B2,G2,by simpa using m1,by simpa using m2,m3⟩

theorem floatPairs_mem {i j : Nat} {oi oj : Oper} (hi : ops[i]? = some oi) (hj : ops[j]? = some oj) (hM : isM oj.op = true) (hr : mayRead oi.op = true) (h1 : bef (befs ops.toList []) i j = false) (h2 : bef (befs ops.toList []) j i = false) :
  (i,j) ∈ floatPairs ops := by
 simp only [floatPairs,List.mem_flatMap,List.mem_filter,List.mem_map]
 exact ⟨(oi,i),⟨zipIdx_mem hi,hr⟩,(oj,j),⟨zipIdx_mem hj,by simp [hM,h1,h2]⟩,rfl⟩

theorem count_set : ∀ (l : List Bool) (j : Nat),l[j]? = some false → (l.set j true).count false + 1 = l.count false
 | [],j,h => by simp at h
 | b :: l,0,h => by simp at h; subst h; simp
 | b :: l,j + 1,h => by
  have := count_set l j (by simpa using h)
  simp only [List.set_cons_succ,List.count_cons]; omega

theorem draw_all (c : Ctx E call ops AA HH ι0 w0) {a0 : Act} {Q : Exit → Act → World → Prop}
  (hQ : ∀ ι K p listed a w,Inv E ops AA HH ι0 w0 a0 ι K p listed a w → (∀ i,i < ops.size → isIn listed i) → Q .normal a w) :
  ∀ (fuel : Nat) (listed : Array Bool) (ι : Emb) (K : AHeap) (p : Nat) (a : Act) (w : World),Inv E ops AA HH ι0 w0 a0 ι K p listed a w → listed.toList.count false ≤ fuel → wpAny E.P .any ops Q fuel listed a w := by
 have hdone : ∀ {listed : Array Bool} {ι : Emb} {K : AHeap} {p : Nat} {a : Act} {w : World},Inv E ops AA HH ι0 w0 a0 ι K p listed a w → Region.ready .any ops listed = [] → Q .normal a w := by
  intro listed ι K p a w I hr
  refine hQ ι K p listed a w I fun i => ?_
  induction i using Nat.strongRecOn with
  | ind i ih =>
   intro hi
   obtain ⟨o,ho⟩ := lt_get (ops := ops) hi
   by_cases hl : isIn listed i
   ·exact hl
   ·exfalso
    have : i ∈ Region.ready .any ops listed := mem_ready.2 ⟨by
     have hs : i < listed.size := by rw [I.size]; exact hi
     simpa [isIn,hs] using hl,o,ho,fun e he hb => ih e.on (drawOk_low c.ok i o ho e he hb) (Nat.lt_trans (drawOk_low c.ok i o ho e he hb) hi)⟩
    rw [hr] at this; cases this
 intro fuel
 induction fuel with
 | zero =>
  intro listed ι K p a w I hcnt
  have hr : Region.ready .any ops listed = [] := by
   cases hx : Region.ready .any ops listed with
   | nil => rfl
   | cons i rest =>
    have hm : i ∈ Region.ready .any ops listed := by rw [hx]; simp
    obtain ⟨h0,o,ho,_⟩ := mem_ready.1 hm
    have hs : i < listed.size := by rw [I.size]; exact get_lt ho
    have : false ∈ listed.toList := by
     simp [hs] at h0
     rw [← h0]; simp
    have := List.count_pos_iff.2 this
    omega
  exact ⟨hr,hdone I hr⟩
 | succ fuel ih =>
  intro listed ι K p a w I hcnt
  refine ⟨hdone I,fun i hi => ?_⟩
  obtain ⟨o,N⟩ := next_of_ready rfl I.size hi
  refine draw_op c I N fun ι2 K2 p2 a2 w2 I2 => ih _ ι2 K2 p2 a2 w2 I2 ?_
  have hs : i < listed.size := by rw [I.size]; exact get_lt N.at'
  have hf : listed.toList[i]? = some false := by
   have := (mem_ready.1 hi).1
   simp [hs] at this
   simp [hs,this]
  have := count_set _ _ hf
  rw [Array.toList_setIfInBounds]; omega

theorem Ctx.finish (c : Ctx E call ops AA HH ι0 w0) {a0 a : Act} {ι : Emb} {K : AHeap} {p : Nat} {listed : Array Bool} {w : World} (I : Inv E ops AA HH ι0 w0 a0 ι K p listed a w) (hall : ∀ i,i < ops.size → isIn listed i) :
  RVs ι (AA ops.size) a.tmps.toList ∧ Rel E ι (HH ops.size) w ∧ Step ι0 (HH 0) w0 ι (HH ops.size) w := by
 have hM : ∀ i oi,ops[i]? = some oi → isM oi.op = true → i < p := fun i oi hi hMi => (I.prog i oi hi hMi).1 (hall i (get_lt hi))
 have hK : ∀ b l,ι b = some l → (HH ops.size).get b = K.get b := fun b l hb => by
  rcases Nat.lt_or_ge b (HH p).size with h | h
  ·rw [I.c1 b l hb h]
   exact c.keep_range I.le (Nat.le_refl _) h fun k ok hk h1 h2 => by
    cases hx : isM ok.op with
    | false => rfl
    | true => have := hM k ok hk hx; omega
  ·rcases I.dom b l hb with h5 | ⟨i,h5,h6,h7,h8⟩
   ·have := c.size_le (i := 0) (j := p) (by omega) I.le; omega
   ·have hpi : p ≤ i := by
     rcases Nat.lt_or_ge i p with h9 | h9
     ·have := c.size_le (i := i + 1) (j := p) h9 I.le; omega
     ·exact h9
    rw [I.c2 i b l hpi h5 h6 hb h7 h8]
    exact c.keep_range (x := i + 1) (by omega) (Nat.le_refl _) h8 fun k ok hk h1 h2 => by
     cases hx : isM ok.op with
     | false => rfl
     | true => have := hM k ok hk hx; omega
 obtain ⟨ιn,wn,τn,_,_,_,hSn⟩ := c.chain ops.size (Nat.le_refl _)
 have hS := I.step
 refine ⟨?_,I.rel.congr hK,?_⟩
 ·refine RVs.of_get (by rw [c.length (Nat.le_refl _),← I.len]; simp) fun t v v' hv hv' => ?_
  obtain ⟨q,h1,h2,h3⟩ := I.tmps t v' (by simpa using hv')
  rw [c.tmp_eq h1 (Nat.le_refl _) fun k ok hk hd => by
   have := h2 k ok hk hd
   have h4 := hall k (get_lt hk)
   have h5 := get_lt hk
   exact ⟨fun _ => h5,fun _ => this.1 h4⟩] at h3
  have : (AA ops.size).getD t undef = v := by simp [List.getD,hv]
  rw [this] at h3; exact h3
 ·refine ⟨hS.ext,?_,by rw [← I.ksz]; exact hS.hsz,?_,hS.place,?_,hS.os,hS.tape,hS.output,hS.size,hS.frame,?_,hS.fresh⟩
  ·intro b l hb hn; rw [← I.ksz]; exact hS.new b l hb hn
  ·intro b l hb hw; exact hS.own b l hb (by simpa only [wrt,hK b l hb] using hw)
  ·intro b hb hl
   cases hx : ι b with
   | some l => exact hS.liv b hb (by simpa only [live,hK b l hx] using hl)
   | none =>
    have hn : ι0 b = none := by
     cases hy : ι0 b with
     | none => rfl
     | some l => rw [hS.ext _ _ hy] at hx; cases hx
    simpa only [live,hSn.away b hb hn] using hl
  ·intro b hb hn; exact hSn.away b hb hn

theorem runDraw_sim (hE : TyOk E) (hc : CallOk E call) (hok : drawOk ops = true) (hop : ops.toList.all (fun o => opOk E.ng o.op) = true) (hm : E.P.follows .mixedOrders = true)
  {ι : Emb} {H H' : AHeap} {w : World} {A A' : List Value} {a : Act} (hR : Rel E ι H w) (hD : Dm ι H) (hA : RVs ι A a.tmps.toList) (hr : runDraw E call ops A H = some (A',H'))
  {Q : Exit → Act → World → Prop} (hQ : ∀ ι' a' w',RVs ι' A' a'.tmps.toList → a'.defers = a.defers → Rel E ι' H' w' → Step ι H w ι' H' w' → Q .normal a' w') (id : Nat) : (Code.region id ops true).wp E.P Q a w := by
 refine wp_region_any hm ?_
 unfold runDraw at hr
 split at hr
 rotate_left
 ·cases hr
 rename_i tr htr
 split at hr
 rotate_left
 ·cases hr
 rename_i hfl
 obtain ⟨t1,t2,t3⟩ := runTr_spec _ _ _ _ htr
 have hopk : ∀ (k : Nat) (o : Oper),ops[k]? = some o → opOk E.ng o.op = true := fun k o hk => by
  rw [List.all_eq_true] at hop
  exact hop o (by simpa using Array.mem_of_getElem? hk)
 let AA : Nat → List Value := fun k => (tr.getD k (A,H)).1
 let HH : Nat → AHeap := fun k => (tr.getD k (A,H)).2
 have hat : ∀ {k B G},tr[k]? = some (B,G) → AA k = B ∧ HH k = G := fun {k B G} h => by simp [AA,HH,List.getD,h]
 obtain ⟨hA0,hH0⟩ := hat t2
 let w1 : World := { w with drawn := w.drawn + 1 }
 have hR1 : Rel E ι H w1 := hR.world rfl
 have hrun : ∀ k o,ops[k]? = some o → runOp E call ops o (AA k) (HH k) = some (AA (k + 1),HH (k + 1)) := fun k o hk => by
  obtain ⟨B1,G1,B2,G2,m1,m2,m3⟩ := t3 k o (by simpa using hk)
  rw [(hat m1).1,(hat m1).2,(hat m2).1,(hat m2).2]; exact m3
 have hchain : ∀ k,k ≤ ops.size → ∃ ι' w' τ,Rel E ι' (HH k) w' ∧ Dm ι' (HH k) ∧ RVs ι' (AA k) τ ∧ Step ι (HH 0) w1 ι' (HH k) w' := by
  intro k
  induction k with
  | zero => intro _; rw [hH0,hA0]; exact ⟨ι,w1,_,hR1,hD,hA,Step.refl _ _ _⟩
  | succ k ih =>
   intro hk
   obtain ⟨ιk,wk,τk,r1,r2,r3,r4⟩ := ih (by omega)
   obtain ⟨o,ho⟩ := lt_get (ops := ops) (show k < ops.size by omega)
   obtain ⟨ι',w',τ',s1,s2,s3,s4⟩ := chain_op hE hc (hopk k o ho) r1 r2 r3 (hrun k o ho)
   exact ⟨ι',w',τ',s1,s2,s3,r4.trans s4⟩
 have c : Ctx E call ops AA HH ι w1 := by
  refine ⟨hE,hc,hok,hopk,hrun,hchain,?_⟩
  intro i j oi oj hi hj hMj hri h1 h2 hw b hb
  have := (List.all_eq_true.1 hfl) _ (floatPairs_mem hi hj hMj hri h1 h2)
  obtain ⟨B1,G1,_,_,m1,_,_⟩ := t3 i oi (by simpa using hi)
  obtain ⟨C1,F1,C2,F2,n1,n2,_⟩ := t3 j oj (by simpa using hj)
  rw [(hat m1).1] at hw hb
  rw [(hat n1).2,(hat n2).2]
  simp only [floatOk,m1,hi,n1,n2,hw,Bool.not_true,Bool.false_or,List.all_eq_true] at this
  have := this b hb
  simp only [same]
  split at this
  ·rename_i hwk; rw [if_pos hwk]; exact this
  ·rename_i hwk; rw [if_neg hwk]; exact oeq_eq this
 have hlast : AA ops.size = A' ∧ HH ops.size = H' := by
  have : tr[ops.size]? = some (A',H') := by
   rw [List.getLast?_eq_getElem?,t1] at hr
   simpa using hr
  exact hat this
 have hI : Inv E ops AA HH ι w1 a ι ⟨(HH 0).tr,(HH ops.size).size⟩ 0 (Array.replicate ops.size false) a w1 := by
  have hno : ∀ i,¬ isIn (Array.replicate ops.size false) i := fun i h => by
   unfold isIn at h
   rcases Nat.lt_or_ge i ops.size with h' | h' <;> simp [h'] at h
  have hg : ∀ b,AHeap.get ⟨(HH 0).tr,(HH ops.size).size⟩ b = (HH 0).get b := fun b => rfl
  refine ⟨by simp,fun i o hi => absurd hi (hno i),Nat.zero_le _,fun i o _ _ => ⟨fun h => absurd h (hno i),fun h => by omega⟩,?_,?_,rfl,?_,fun b l _ _ => hg b,fun i b l _ _ h => absurd h (hno i),fun i o b h => by omega,rfl,?_,?_⟩
  ·rw [hH0]; exact hR1.congr fun b l _ => rfl
  ·refine ⟨Emb.le.refl _,fun b l h h' => (by rw [h] at h'; cases h'),c.size_le (by omega) (Nat.le_refl _),fun b l h hw => .inr ⟨b,l,h,rfl,hw⟩,fun b l h h' => (by rw [h] at h'; cases h'),fun b _ h => h,rfl,rfl,rfl,Nat.le_refl _,fun _ _ _ => rfl,fun _ _ _ => rfl,fun _ _ _ h => .inl h⟩
  ·intro b l hb; left; rw [hH0]; exact hD b l hb
  ·rw [hA0,hA.length]; simp
  ·intro t v' hv
   refine ⟨0,Nat.zero_le _,fun i o _ _ => ⟨fun h => absurd h (hno i),fun h => by omega⟩,?_⟩
   rw [hA0]
   have hlt : t < A.length := by rw [hA.length]; simpa using (Array.getElem?_eq_some_iff.1 hv).1
   obtain ⟨u,hu1,hu2⟩ := hA.get t A[t] (by simp [hlt])
   have : u = v' := by
    rw [Array.getElem?_toList,hv] at hu1; exact (Option.some.inj hu1).symm
   subst this
   simpa [List.getD,hlt] using hu2
 refine draw_all c (a0 := a) (fun ι' K' p' listed' a' w' I hall => ?_) ops.size _ ι _ 0 a w1 hI ?_
 ·obtain ⟨f1,f2,f3⟩ := c.finish I hall
  rw [hlast.1] at f1
  rw [hlast.2] at f2 f3
  rw [hH0] at f3
  refine hQ ι' a' w' f1 I.defers f2 ⟨f3.ext,f3.new,f3.hsz,f3.own,f3.place,f3.liv,f3.os,f3.tape,f3.output,f3.size,f3.frame,f3.away,f3.fresh⟩
 ·simp

end
end AbsYtkhcbbpfchgemaaDoor

/-
 Code,functions,calls: what the abstract machine comes to,the model comes to.
-/
namespace AbsYtkhcbbpfchgemaaDoor
set_option linter.unusedVariables false
set_option linter.unusedSimpArgs false
set_option linter.unusedSectionVars false
open Go

def codeOk (ng : Nat) : Code → Bool
 | .skip | .label _ | .exit _ | .ret => true
 | .seq a b => codeOk ng a && codeOk ng b
 | .cond x a b => opndOk ng x && codeOk ng a && codeOk ng b
 | .block _ c => codeOk ng c
 | .loop c => codeOk ng c
 | .scope c => codeOk ng c
 | .region _ ops draw => ops.toList.all (fun o => opOk ng o.op) && (!draw || drawOk ops)
 | _ => false

structure FnOk (E : Env) (f : Nat) (fn : Func) : Prop where
 at' : E.P.funcs[f]? = some fn
 name : (fn.name == "runtime.NumGoroutine") = false
 code : ∀ c,fn.body = some c → codeOk E.ng c = true

structure EnvOk (E : Env) : Prop where
 ty : TyOk E
 fn : ∀ f fn,E.fn.get f = some fn → FnOk E f fn
 mixed : E.P.follows .mixedOrders = true
 sp : ∀ f g args H r H',E.sp f = some g → g args H = some (r,H') → H.size ≤ H'.size ∧ CallSim E f args H r H'

def exitOf : AExit → Exit
 | .normal => .normal
 | .exit id => .exit id
 | .ret => .ret

section
variable {E : Env}

def CodeSim (E : Env) (c : Code) (A : List Value) (H : AHeap) (e : AExit) (A' : List Value) (H' : AHeap) : Prop :=
 ∀ (ι : Emb) (w : World) (a : Act) (Q : Exit → Act → World → Prop),Rel E ι H w → Dm ι H → RVs ι A a.tmps.toList →
  (∀ ι' a' w',RVs ι' A' a'.tmps.toList → a'.defers = a.defers → Rel E ι' H' w' → Step ι H w ι' H' w' → Q (exitOf e) a' w') → c.wp E.P Q a w

structure ExecOk (E : Env) (ex : Exec) : Prop where
 grow : ∀ c A H e A' H',ex c A H = some (e,A',H') → H.size ≤ H'.size
 sim : ∀ c A H e A' H',codeOk E.ng c = true → ex c A H = some (e,A',H') → CodeSim E c A H e A' H'

theorem runOps_size {call : Call} (hc : CallOk E call) {all : Array Oper} : ∀ {l : List Oper} {A : List Value} {H : AHeap} {A' : List Value} {H' : AHeap},runOps E call all l A H = some (A',H') → H.size ≤ H'.size
 | [],A,H,A',H',h => by simp only [runOps,Option.some.injEq,Prod.mk.injEq] at h; rw [h.2]; exact Nat.le_refl _
 | o :: l,A,H,A',H',h => by
  simp only [runOps] at h
  split at h
  ·rename_i h1
   exact Nat.le_trans (runOp_size hc h1) (runOps_size hc h)
  ·cases h
theorem runTr_size {call : Call} (hc : CallOk E call) {all : Array Oper} : ∀ {l : List Oper} {A : List Value} {H : AHeap} {tr : List (List Value × AHeap)} {p : List Value × AHeap},runTr E call all l A H = some tr → tr.getLast? = some p → H.size ≤ p.2.size
 | [],A,H,tr,p,h,hp => by simp only [runTr,Option.some.injEq] at h; subst h; simp at hp; subst hp; exact Nat.le_refl _
 | o :: l,A,H,tr,p,h,hp => by
  simp only [runTr] at h
  split at h
  ·rename_i A1 H1 h1
   simp only [Option.map_eq_some_iff] at h
   obtain ⟨tr1,h2,h3⟩ := h
   subst h3
   have hl := (runTr_spec _ _ _ _ h2).1
   have : tr1.getLast? = some p := by
    cases tr1 with
    | nil => simp at hl
    | cons q qs => simpa [List.getLast?_cons_cons] using hp
   exact Nat.le_trans (runOp_size hc h1) (runTr_size hc h2 this)
  ·cases h
theorem runDraw_size {call : Call} (hc : CallOk E call) {ops : Array Oper} {A A' : List Value} {H H' : AHeap} (h : runDraw E call ops A H = some (A',H')) : H.size ≤ H'.size := by
 unfold runDraw at h
 split at h
 ·split at h
  ·rename_i h1 _
   exact runTr_size hc h1 h
  ·cases h
 ·cases h

def resOf (tmps : Array Value) : ResultVar → Sem Value
 | .tmp t => pure (tmps.getD t undef)
 | .cell a t => do loadVar t (← asAddr (tmps.getD a undef))
theorem results_eq (fn : Func) (tmps : Array Value) : Go.results fn tmps = (do let vs ← fn.results.mapM (resOf tmps); pure (if h : vs.size = 1 then vs[0] else .tuple vs)) := by
 unfold Go.results
 congr 1

theorem results_sim (hE : TyOk E) {ι : Emb} {H : AHeap} {w : World} (hR : Rel E ι H w) {A : List Value} {a : Act} (hA : RVs ι A a.tmps.toList) : ∀ {l : List ResultVar} {vs : List Value},results E A H l = some vs →
  ∃ vs' : List Value,(l.mapM (resOf a.tmps)).run E.P w = .ok vs' w ∧ RVs ι vs vs'
 | [],vs,h => by
  simp only [results,Option.some.injEq] at h; subst h
  exact ⟨[],by simp,.nil⟩
 | .tmp t :: l,vs,h => by
  simp only [results,Option.map_eq_some_iff] at h
  obtain ⟨r,h1,h2⟩ := h
  subst h2
  obtain ⟨vs',h3,h4⟩ := results_sim hE hR hA h1
  refine ⟨a.tmps.getD t undef :: vs',?_,.cons _ _ _ _ (by rw [toList_getD]; exact hA.getD t RV.undef) h4⟩
  simp only [List.mapM_cons,resOf,Sem.run_bind,Sem.run_pure,Result.andThen_ok,h3]
 | .cell ad t :: l,vs,h => by
  simp only [results] at h
  split at h
  rotate_left
  ·cases h
  rename_i v r h1 h2
  injection h with h; subst h
  obtain ⟨vs',h3,h4⟩ := results_sim hE hR hA h2
  have hp : RV ι (A.getD ad undef) (a.tmps.getD ad undef) := by rw [toList_getD]; exact hA.getD ad RV.undef
  obtain ⟨v',h5,h6⟩ := aload_sim hE hR hp h1
  refine ⟨v' :: vs',?_,.cons _ _ _ _ h6 h4⟩
  have h7 : (resOf a.tmps (.cell ad t)).run E.P w = .ok v' w := by
   simp only [resOf]
   unfold aload at h1
   split at h1
   ·rename_i b o hx
    rw [hx] at hp
    generalize a.tmps.getD ad undef = x' at hp h5
    cases hp with | ptr _ _ l hb => exact h5
   ·rename_i cs hx
    rw [hx] at hp
    generalize a.tmps.getD ad undef = x' at hp h5
    cases hp with | dptr _ B o hh => exact h5
   ·cases h1
  simp only [List.mapM_cons,Sem.run_bind,h7,Result.andThen_ok,h3,Sem.run_pure]

theorem oneOf_sim {ι : Emb} {vs : List Value} {us : Array Value} (h : RVs ι vs us.toList) : RV ι (oneOf vs) (if h : us.size = 1 then us[0] else .tuple us) := by
 obtain ⟨us⟩ := us
 simp only at h
 cases h with
 | nil => exact .tuple [] [] .nil
 | cons v v' vs vs' h hs => cases hs with
  | nil => simpa [oneOf] using h
  | cons u u' us us' g gs =>
   simp only [oneOf,List.size_toArray,List.length_cons]
   rw [dif_neg (by omega)]
   exact .tuple _ _ (.cons _ _ _ _ h (.cons _ _ _ _ g gs))

theorem run_enter {P : Program} {f : FuncId} {fn : Func} {c : Code} (hf : P.funcs[f]? = some fn) (hname : (fn.name == "runtime.NumGoroutine") = false) (hb : fn.body = some c) (args : Array Value) (w : World) :
  (callFunc f args).run P w = .ok (.enter f args) w := by
 have h1 : fn.name ≠ "runtime.NumGoroutine" := by simpa using hname
 simp [callFunc,hf,h1,hb]

theorem callF_ok (hE : EnvOk E) {ex : Exec} (hx : ExecOk E ex) : CallOk E (callF E ex) := by
 have key : ∀ f args H r H',callF E ex f args H = some (r,H') → H.size ≤ H'.size ∧ CallSim E f args H r H' := by
  intro f args H r H' h
  unfold callF at h
  split at h
  ·rename_i g hg
   exact hE.sp f g args H r H' hg h
  ·split at h
   ·cases h
   rename_i fn hfn
   obtain ⟨k1,k2,k3⟩ := hE.fn f fn hfn
   split at h
   ·cases h
   rename_i c hc
   split at h
   ·cases h
   ·rename_i e A1 H1 hexit hex
    have he : e = .normal ∨ e = .ret := by
     cases e with
     | normal => exact .inl rfl
     | ret => exact .inr rfl
     | exit id => exact (hexit id rfl).elim
    simp only [Option.map_eq_some_iff,Prod.mk.injEq] at h
    obtain ⟨vs,h1,h2,h3⟩ := h
    subst h2; subst h3
    refine ⟨hx.grow _ _ _ _ _ _ hex,fun ι w args' hR hD hargs => .inl ⟨run_enter k1 k2 hc _ _,?_⟩⟩
    refine calls_of_wp k1 hc ?_
    refine hx.sim c _ _ _ _ _ (k3 c hc) hex ι w _ _ hR hD ?_ fun ι' a' w' hA' hd' hR' hS' => ?_
    ·have hl := hargs.length
     simp only [Array.toList_append,Array.toList_replicate]
     refine hargs.append ?_
     rw [hl]
     exact RVs.replicate _ RV.undef
    ·obtain ⟨vs',h4,h5⟩ := results_sim hE.ty hR' hA' h1
     have hpost : a'.defers = [] ∧ ∃ v,(Go.results fn a'.tmps).run E.P w' = .ok v w' ∧ CallPost E ι H w (leave E f (oneOf vs)) H1 (.returned v) w' := by
      refine ⟨hd',_,?_,_,ι',rfl,(by
       have := oneOf_sim (us := vs'.toArray) (by simpa using h5)
       unfold leave
       split
       ·exact this
       ·exact this.bare),hR',hS'⟩
      rw [results_eq,Array.mapM_eq_mapM_toList,map_eq_pure_bind]
      simp only [Sem.run_bind,h4,Result.andThen_ok,Sem.run_pure]
     rcases he with rfl | rfl <;> exact hpost
   ·cases h
 exact ⟨fun f args H r H' h => (key f args H r H' h).1,fun f args H r H' h => (key f args H r H' h).2⟩

def LoopSim (E : Env) (k : Nat) (ex : Exec) : Prop := ∀ c A H e A' H',codeOk E.ng c = true → ex (.loop c) A H = some (e,A',H') →
 ∀ (ι : Emb) (w : World) (a : Act) (Q : Exit → Act → World → Prop),Rel E ι H w → Dm ι H → RVs ι A a.tmps.toList →
  (∀ ι' a' w',RVs ι' A' a'.tmps.toList → a'.defers = a.defers → Rel E ι' H' w' → Step ι H w ι' H' w' → Q (exitOf e) a' w') → Code.rounds E.P c Q k a w

theorem loop_next {k : Nat} (ih : ExecOk E (exec E k)) (il : LoopSim E k (exec E k)) : LoopSim E (k + 1) (exec E (k + 1)) := by
 intro c A H e A' H' hok h ι w a Q hR hD hA hQ
 simp only [exec] at h
 rw [rounds_succ]
 split at h
 ·rename_i A1 H1 h1
  refine ih.sim _ _ _ _ _ _ hok h1 ι w a _ hR hD hA fun ι1 a1 w1 hA1 hd1 hR1 hS1 => ?_
  exact il _ _ _ _ _ _ hok h ι1 w1 a1 _ hR1 (hD.step hS1) hA1 fun ι2 a2 w2 hA2 hd2 hR2 hS2 => hQ ι2 a2 w2 hA2 (hd2.trans hd1) hR2 (hS1.trans hS2)
 ·rename_i hno
  refine ih.sim _ _ _ _ _ _ hok h ι w a _ hR hD hA fun ι1 a1 w1 hA1 hd1 hR1 hS1 => ?_
  have := hQ ι1 a1 w1 hA1 hd1 hR1 hS1
  cases e with
  | normal => exact (hno A' H' h).elim
  | exit id => exact this
  | ret => exact this

theorem exec_ok' (hE : EnvOk E) : ∀ k,ExecOk E (exec E k) ∧ LoopSim E k (exec E k)
 | 0 => ⟨⟨fun c A H e A' H' h => by simp [exec] at h,fun c A H e A' H' _ h => by simp [exec] at h⟩,fun c A H e A' H' _ h => by simp [exec] at h⟩
 | k + 1 => by
  obtain ⟨ih,il⟩ := exec_ok' hE k
  refine ⟨?_,loop_next ih il⟩
  have hc := callF_ok hE ih
  have sub : ∀ {c A H e A' H'},exec E k c A H = some (e,A',H') → H.size ≤ H'.size := fun h => ih.grow _ _ _ _ _ _ h
  constructor
  ·intro c A H e A' H' h
   cases c <;> simp only [exec] at h <;> try (cases h; done)
   case skip => simp only [Option.some.injEq,Prod.mk.injEq] at h; rw [h.2.2]; exact Nat.le_refl _
   case label => simp only [Option.some.injEq,Prod.mk.injEq] at h; rw [h.2.2]; exact Nat.le_refl _
   case exit => simp only [Option.some.injEq,Prod.mk.injEq] at h; rw [h.2.2]; exact Nat.le_refl _
   case ret => simp only [Option.some.injEq,Prod.mk.injEq] at h; rw [h.2.2]; exact Nat.le_refl _
   case seq a b =>
    split at h
    ·rename_i h1; exact Nat.le_trans (sub h1) (sub h)
    ·exact sub h
   case cond x a b =>
    split at h
    ·exact sub h
    ·exact sub h
    ·cases h
   case block id c =>
    split at h
    ·rename_i h1
     split at h
     ·simp only [Option.some.injEq,Prod.mk.injEq] at h; rw [← h.2.2]; exact sub h1
     ·simp only [Option.some.injEq,Prod.mk.injEq] at h; rw [← h.2.2]; exact sub h1
    ·exact sub h
   case loop c =>
    split at h
    ·rename_i h1; exact Nat.le_trans (sub h1) (sub h)
    ·exact sub h
   case scope c => exact sub h
   case region id ops draw =>
    simp only [Option.map_eq_some_iff,Prod.mk.injEq] at h
    obtain ⟨⟨A1,H1⟩,h1,_,_,h2⟩ := h
    subst h2
    cases draw with
    | true => exact runDraw_size hc h1
    | false => exact runOps_size hc h1
  ·intro c A H e A' H' hok h ι w a Q hR hD hA hQ
   cases c <;> simp only [exec] at h <;> try (cases h; done)
   case skip =>
    simp only [Option.some.injEq,Prod.mk.injEq] at h; obtain ⟨rfl,rfl,rfl⟩ := h
    exact wp_skip (hQ ι a w hA rfl hR (Step.refl _ _ _))
   case label =>
    simp only [Option.some.injEq,Prod.mk.injEq] at h; obtain ⟨rfl,rfl,rfl⟩ := h
    exact wp_label (hQ ι a w hA rfl hR (Step.refl _ _ _))
   case exit =>
    simp only [Option.some.injEq,Prod.mk.injEq] at h; obtain ⟨rfl,rfl,rfl⟩ := h
    exact wp_exit (hQ ι a w hA rfl hR (Step.refl _ _ _))
   case ret =>
    simp only [Option.some.injEq,Prod.mk.injEq] at h; obtain ⟨rfl,rfl,rfl⟩ := h
    exact wp_ret (hQ ι a w hA rfl hR (Step.refl _ _ _))
   case seq x y =>
    simp only [codeOk,Bool.and_eq_true] at hok
    refine wp_seq ?_
    split at h
    ·rename_i A1 H1 h1
     refine ih.sim _ _ _ _ _ _ hok.1 h1 ι w a _ hR hD hA fun ι1 a1 w1 hA1 hd1 hR1 hS1 => ?_
     exact ih.sim _ _ _ _ _ _ hok.2 h ι1 w1 a1 _ hR1 (hD.step hS1) hA1 fun ι2 a2 w2 hA2 hd2 hR2 hS2 => hQ ι2 a2 w2 hA2 (hd2.trans hd1) hR2 (hS1.trans hS2)
    ·rename_i hno
     refine ih.sim _ _ _ _ _ _ hok.1 h ι w a _ hR hD hA fun ι1 a1 w1 hA1 hd1 hR1 hS1 => ?_
     have := hQ ι1 a1 w1 hA1 hd1 hR1 hS1
     cases e with
     | normal => exact (hno A' H' h).elim
     | exit id => exact this
     | ret => exact this
   case cond x y z =>
    simp only [codeOk,Bool.and_eq_true] at hok
    have hx := aev_sim hR hA hok.1.1
    split at h
    ·rename_i hv
     rw [hv] at hx
     refine wp_cond_true ?_ (ih.sim _ _ _ _ _ _ hok.1.2 h ι w a _ hR hD hA hQ)
     generalize a.eval x = xv at hx
     cases hx; rfl
    ·rename_i hv
     rw [hv] at hx
     refine wp_cond_false ?_ (ih.sim _ _ _ _ _ _ hok.2 h ι w a _ hR hD hA hQ)
     generalize a.eval x = xv at hx
     cases hx; rfl
    ·cases h
   case block id c =>
    have hok : codeOk E.ng c = true := hok
    refine wp_block ?_
    split at h
    ·rename_i id' A1 H1 h1
     refine ih.sim _ _ _ _ _ _ hok h1 ι w a _ hR hD hA fun ι1 a1 w1 hA1 hd1 hR1 hS1 => ?_
     simp only [exitOf,Exit.inBlock]
     split at h
     ·rename_i he
      simp only [Option.some.injEq,Prod.mk.injEq] at h; obtain ⟨rfl,rfl,rfl⟩ := h
      rw [if_pos he]; exact hQ ι1 a1 w1 hA1 hd1 hR1 hS1
     ·rename_i he
      simp only [Option.some.injEq,Prod.mk.injEq] at h; obtain ⟨rfl,rfl,rfl⟩ := h
      rw [if_neg he]; exact hQ ι1 a1 w1 hA1 hd1 hR1 hS1
    ·rename_i hno
     refine ih.sim _ _ _ _ _ _ hok h ι w a _ hR hD hA fun ι1 a1 w1 hA1 hd1 hR1 hS1 => ?_
     have := hQ ι1 a1 w1 hA1 hd1 hR1 hS1
     cases e with
     | exit id' => exact (hno id' A' H' h).elim
     | normal => exact this
     | ret => exact this
   case loop c =>
    have h' : exec E (k + 1) (.loop c) A H = some (e,A',H') := by simp only [exec]; exact h
    exact wp_loop_rounds (k + 1) (loop_next ih il c A H e A' H' hok h' ι w a Q hR hD hA hQ)
   case scope c =>
    have hok : codeOk E.ng c = true := hok
    refine wp_scope_straight ?_
    refine ih.sim _ _ _ _ _ _ hok h ι w a _ hR hD hA fun ι1 a1 w1 hA1 hd1 hR1 hS1 => ?_
    have := hQ ι1 a1 w1 hA1 hd1 hR1 hS1
    cases e <;> exact this
   case region id ops draw =>
    simp only [codeOk,Bool.and_eq_true] at hok
    simp only [Option.map_eq_some_iff,Prod.mk.injEq] at h
    obtain ⟨⟨A1,H1⟩,h1,h2,h3,h4⟩ := h
    subst h2; subst h3; subst h4
    cases draw with
    | true =>
     exact runDraw_sim hE.ty hc (by simpa using hok.2) hok.1 hE.mixed hR hD hA (by simpa using h1) hQ id
    | false =>
     exact wp_region_list (runOps_sim hE.ty hc hR hD hA hok.1 (by simpa using h1) hQ)

theorem exec_ok (hE : EnvOk E) (k : Nat) : ExecOk E (exec E k) := (exec_ok' hE k).1

theorem call_ok (hE : EnvOk E) (k : Nat) : CallOk E (callF E (exec E k)) := callF_ok hE (exec_ok hE k)

end
end AbsYtkhcbbpfchgemaaDoor
