/-
  From a law's walk on the abstract machine to the call in the model.
-/
import Derived.Test.YtlmcjfnignbdoaaAOpen
import Derived.ChangeReads
import Derived.ChangeOld
import Derived.Below
namespace AbsYtlmcjfnignbdoaa
set_option linter.unusedVariables false
set_option linter.unusedSimpArgs false
set_option linter.unusedSectionVars false
open Go

def ArgTyped (E : Env) (H : AHeap) (d t : Nat) (v : Value) : Prop := ∃ as i, E.ty.get t = some i ∧ Typed E H d t as ∧ v = if i.isAgg then .agg as.toArray else as.headD undef
def ArgsTyped (E : Env) (H : AHeap) (d : Nat) : List Nat → List Value → Prop
  | [], [] => True
  | t :: ts, v :: vs => ArgTyped E H d t v ∧ ArgsTyped E H d ts vs
  | _, _ => False

section
variable {E : Env}

theorem ArgsTyped.mono {H H' : AHeap} {d : Nat} (hs : H.size ≤ H'.size) (ho : ∀ b, b < H.size → H'.get b = H.get b) : ∀ {ts : List Nat} {vs : List Value}, ArgsTyped E H d ts vs → ArgsTyped E H' d ts vs
  | [], [], h => h
  | _ :: _, _ :: _, ⟨⟨as, i, h1, h2, h3⟩, h⟩ => ⟨⟨as, i, h1, h2.mono hs ho, h3⟩, ArgsTyped.mono hs ho h⟩

theorem has_cells {P : Program} {w : World} {r : Reach} {base : Nat} {a : Addr} {e : TypeId} {n : Nat} (h : w.has P r base a e n) : ∃ (B : Nat) (C : Array Value) (ty : TypeId) (fz : Nat × Nat), w.heap[B]? = some (.cells C ty fz) := by
  obtain ⟨_, _, row, cells, h1, _⟩ := h
  unfold World.shape? at h1
  split at h1
  · rename_i C ty fz hB; exact ⟨_, C, ty, fz, hB⟩
  · cases h1
theorem slice_cells {P : Program} {w : World} {r : Reach} {base : Nat} {u : TypeId} {a : Addr} {l c : Nat} (h : Cell.okWide P w r base u (.slice (some a) l c)) : ∃ (B : Nat) (C : Array Value) (ty : TypeId) (fz : Nat × Nat), w.heap[B]? = some (.cells C ty fz) := by
  unfold Cell.okWide at h
  split at h <;> try (rename_i heq; cases heq; done)
  all_goals try (rename_i h1 h2; cases h2; done)
  unfold Cell.ok at h
  split at h <;> first | exact has_cells h.2.2 | exact h.elim | (rename_i h2; cases h2; done) | (rename_i h1 h2; cases h2; done)

theorem args_laid (hE : TyOk E) {X : Type} {enc : TypeId × Value → X} {W : World} {d base : Nat} : ∀ {ts : List TypeId} {vs : List Value} {ds : List (DataW X)} {ps : List MemPlace},
    DataW.TrodAll enc E.P W 0 (fun _ => true) true ts vs ds ps → ts.all (argTy E d) = true → (∀ (j : Nat) (t : TypeId) (v : Value), ts[j]? = some t → vs[j]? = some v → Value.okWide E.P W .any base t v) →
    ∀ ι H, Laid E W ι H → ∃ ι' H' us, Laid E W ι' H' ∧ More ι H ι' H' ∧ RVs ι' us vs ∧ ArgsTyped E H' d ts us
  | [], [], _, _, _, _, _, ι, H, hL => ⟨ι, H, [], hL, More.refl _ _, .nil, trivial⟩
  | [], _ :: _, _, _, h, _, _, _, _, _ => by simp [DataW.TrodAll] at h
  | _ :: _, [], _, _, h, _, _, _, _, _ => by simp [DataW.TrodAll] at h
  | _ :: _, _ :: _, [], _, h, _, _, _, _, _ => by simp [DataW.TrodAll] at h
  | t :: ts, v :: vs, x :: ds, ps, ⟨p, q, ⟨n, h1⟩, h2, _⟩, hty, hval, ι, H, hL => by
    simp only [List.all_cons, Bool.and_eq_true] at hty
    have hv := hval 0 t v rfl rfl
    -- the type
    have hd : ∃ d', d = d' + 1 := by cases d with
      | zero => simp [argTy] at hty
      | succ d => exact ⟨d, rfl⟩
    obtain ⟨d', rfl⟩ := hd
    have hti : ∃ i, E.ty.get t = some i := by
      have := hty.1
      unfold argTy at this
      split at this
      · cases this
      · rename_i i hi; exact ⟨i, hi⟩
    obtain ⟨i, hi⟩ := hti
    obtain ⟨inf, dd, t1, t2, t3, _⟩ := ti_parts hE hi
    have hagg := isAgg_of t3
    -- the cells
    have hcells : (i.isAgg = true ∧ ∃ cs, v = .agg cs) ∨ (i.isAgg = false ∧ v.cells.toList = [v]) := by
      unfold Value.okWide at hv
      rw [t2] at hv
      rw [hagg]
      cases dd <;> simp only [aggD] at hv ⊢
      case struct fs => obtain ⟨cs, h, _⟩ := hv; exact .inl ⟨by trivial, cs, h⟩
      case array m e => obtain ⟨cs, h, _⟩ := hv; exact .inl ⟨by trivial, cs, h⟩
      all_goals
        refine .inr ⟨by trivial, ?_⟩
        unfold Cell.okWide at hv
        rw [t2] at hv
        cases v <;> first | rfl | (simp [Cell.ok, t2] at hv)
    have hx : (∃ a l c, Value.slice (some a) l c ∈ v.cells.toList) → ∃ (B : Nat) (C : Array Value) (ty : TypeId) (fz : Nat × Nat), W.heap[B]? = some (.cells C ty fz) := by
      rintro ⟨a, l, c, hm⟩
      unfold Value.okWide at hv
      rcases hcells with ⟨h3, cs, rfl⟩ | ⟨h3, h4⟩
      · rw [t2] at hv
        rw [hagg] at h3
        have hrow : Row.okWide E.P W .any base t cs := by
          cases dd <;> simp [aggD] at h3
          · obtain ⟨cs', e, _, h⟩ := hv; injection e with e; subst e; exact h
          · obtain ⟨cs', e, _, h⟩ := hv; injection e with e; subst e; exact h
        obtain ⟨us, _, _, h5⟩ := hrow
        obtain ⟨k, hk1, hk2⟩ := List.mem_iff_getElem.1 hm
        obtain ⟨u, _, h6⟩ := h5 k (.slice (some a) l c) (by
          have hk1' : k < cs.size := by simpa [Value.cells] using hk1
          rw [Array.getElem?_eq_getElem hk1']
          simpa [Value.cells] using hk2)
        exact slice_cells h6
      · rw [h4] at hm
        simp at hm
        subst hm
        rw [t2] at hv
        rw [hagg] at h3
        cases dd <;> simp [aggD] at h3 <;> exact slice_cells hv
    obtain ⟨ι1, H1, as, L1, M1, R1, T1⟩ := reify hE n (d' + 1) t v.cells.toList (x, p) hty.1 h1 hx ι H hL
    obtain ⟨ι2, H2, us, L2, M2, R2, T2⟩ := args_laid hE h2 hty.2 (fun j t' v' hj hj' => hval (j + 1) t' v' hj hj') ι1 H1 L1
    refine ⟨ι2, H2, (if i.isAgg then .agg as.toArray else as.headD undef) :: us, L2, M1.trans L1.dm M2, .cons _ _ _ _ ?_ R2, ⟨as, i, hi, T1.mono M2.size M2.old, rfl⟩, T2⟩
    rcases hcells with ⟨h3, cs, rfl⟩ | ⟨h3, h4⟩
    · rw [h3]
      simp only [if_true]
      have : RVs ι2 as cs.toList := by simpa [Value.cells] using R1.mono M2.le
      obtain ⟨cs⟩ := cs
      exact .agg as cs this
    · rw [h3]
      simp only [Bool.false_eq_true, if_false]
      rw [h4] at R1
      cases R1 with | cons a _ _ _ ha hs => cases hs; exact ha.mono M2.le

/-- THE CALL OF A LAW: if the abstract machine says true of all arguments, the model does, and leaves all that was there. -/
theorem law_calls (hE : EnvOk E) (hng : E.ng = 0) {X : Type} {enc : TypeId × Value → X} {f : Nat} {fn : Func} {c : Code} (hf : E.fn.get f = some fn) (hb : fn.body = some c) (d : Nat) {ts : List TypeId} {W : World} {args : Array Value}
    {ds : List (DataW X)} {ps : List MemPlace} {base : Nat} (hA : DataW.TrodAll enc E.P W 0 (fun _ => true) true ts args.toList ds ps) (hty : ts.all (argTy E d) = true)
    (hval : ∀ (j : Nat) (t : TypeId) (v : Value), ts[j]? = some t → args[j]? = some v → Value.okWide E.P W .any base t v)
    (law : ∀ H vs, ArgsTyped E H d ts vs → CallW E f vs H fun r _ => r = .bool true) :
    Calls E.P f args W fun e W' => e = .returned (.bool true) ∧ RowKit.Below W.heap.size W W' := by
  have L0 : Laid E W (fun _ => none) .empty := ⟨⟨fun _ _ h => (by cases h), fun _ _ _ _ _ h => (by cases h), fun _ _ _ _ h => (by cases h), fun _ _ _ _ h => (by cases h), fun g hg => (by rw [hng] at hg; omega)⟩, fun _ _ h => (by cases h), fun _ _ h => (by cases h)⟩
  obtain ⟨ι, H, us, L1, _, R1, T1⟩ := args_laid hE.ty hA hty (fun j t v h1 h2 => hval j t v h1 (by simpa using h2)) _ _ L0
  obtain ⟨r, H', rfl, _, hsim⟩ := (law H us T1).sim hE
  obtain ⟨k1, k2, _⟩ := hE.fn f fn hf
  rcases hsim ι W args.toList L1.rel L1.dm R1 with ⟨_, hc⟩ | ⟨r', w', hrun, _⟩
  · refine hc.mono ?_
    rintro e W' ⟨r', ι', rfl, hv, _, hS⟩
    cases hv
    refine ⟨rfl, hS.os, hS.tape, hS.output, hS.size, fun B hB => ?_⟩
    exact hS.frame B hB fun b l hb _ => L1.ro b l hb
  · have := run_enter k1 k2 hb ⟨args.toList⟩ W
    rw [this] at hrun; cases hrun

end
end AbsYtlmcjfnignbdoaa
