/-
  Code, functions, calls: what the abstract machine comes to, the model comes to.
-/
import Derived.Test.YtlmcjfnignbdoaaADraw6
namespace AbsYtlmcjfnignbdoaa
set_option linter.unusedVariables false
set_option linter.unusedSimpArgs false
set_option linter.unusedSectionVars false
open Go

/-! ### what is asked of a function's code -/
def codeOk (ng : Nat) : Code → Bool
  | .skip | .label _ | .exit _ | .ret => true
  | .seq a b => codeOk ng a && codeOk ng b
  | .cond x a b => opndOk ng x && codeOk ng a && codeOk ng b
  | .block _ c => codeOk ng c
  | .loop c => codeOk ng c
  | .scope c => codeOk ng c
  | .region _ ops draw => ops.toList.all (fun o => opOk ng o.op) && (!draw || drawOk ops)
  | _ => false

/-- of each function that may be entered -/
structure FnOk (E : Env) (f : Nat) (fn : Func) : Prop where
  at' : E.P.funcs[f]? = some fn
  name : (fn.name == "runtime.NumGoroutine") = false
  code : ∀ c, fn.body = some c → codeOk E.ng c = true

structure EnvOk (E : Env) : Prop where
  ty : TyOk E
  fn : ∀ f fn, E.fn.get f = some fn → FnOk E f fn
  mixed : E.P.follows .mixedOrders = true
  sp : ∀ f g args H r H', E.sp f = some g → g args H = some (r, H') → H.size ≤ H'.size ∧ CallSim E f args H r H'

def exitOf : AExit → Exit
  | .normal => .normal
  | .exit id => .exit id
  | .ret => .ret

section
variable {E : Env}

/-- what code comes to -/
def CodeSim (E : Env) (c : Code) (A : List Value) (H : AHeap) (e : AExit) (A' : List Value) (H' : AHeap) : Prop :=
  ∀ (ι : Emb) (w : World) (a : Act) (Q : Exit → Act → World → Prop), Rel E ι H w → Dm ι H → RVs ι A a.tmps.toList →
    (∀ ι' a' w', RVs ι' A' a'.tmps.toList → a'.defers = a.defers → Rel E ι' H' w' → Step ι H w ι' H' w' → Q (exitOf e) a' w') → c.wp E.P Q a w

structure ExecOk (E : Env) (ex : Exec) : Prop where
  grow : ∀ c A H e A' H', ex c A H = some (e, A', H') → H.size ≤ H'.size
  sim : ∀ c A H e A' H', codeOk E.ng c = true → ex c A H = some (e, A', H') → CodeSim E c A H e A' H'

theorem runOps_size {call : Call} (hc : CallOk E call) {all : Array Oper} : ∀ {l : List Oper} {A : List Value} {H : AHeap} {A' : List Value} {H' : AHeap}, runOps E call all l A H = some (A', H') → H.size ≤ H'.size
  | [], A, H, A', H', h => by simp only [runOps, Option.some.injEq, Prod.mk.injEq] at h; rw [h.2]; exact Nat.le_refl _
  | o :: l, A, H, A', H', h => by
    simp only [runOps] at h
    split at h
    · rename_i h1
      exact Nat.le_trans (runOp_size hc h1) (runOps_size hc h)
    · cases h
theorem runTr_size {call : Call} (hc : CallOk E call) {all : Array Oper} : ∀ {l : List Oper} {A : List Value} {H : AHeap} {tr : List (List Value × AHeap)} {p : List Value × AHeap}, runTr E call all l A H = some tr → tr.getLast? = some p → H.size ≤ p.2.size
  | [], A, H, tr, p, h, hp => by simp only [runTr, Option.some.injEq] at h; subst h; simp at hp; subst hp; exact Nat.le_refl _
  | o :: l, A, H, tr, p, h, hp => by
    simp only [runTr] at h
    split at h
    · rename_i A1 H1 h1
      simp only [Option.map_eq_some_iff] at h
      obtain ⟨tr1, h2, h3⟩ := h
      subst h3
      have hl := (runTr_spec _ _ _ _ h2).1
      have : tr1.getLast? = some p := by
        cases tr1 with
        | nil => simp at hl
        | cons q qs => simpa [List.getLast?_cons_cons] using hp
      exact Nat.le_trans (runOp_size hc h1) (runTr_size hc h2 this)
    · cases h
theorem runDraw_size {call : Call} (hc : CallOk E call) {ops : Array Oper} {A A' : List Value} {H H' : AHeap} (h : runDraw E call ops A H = some (A', H')) : H.size ≤ H'.size := by
  unfold runDraw at h
  split at h
  · split at h
    · rename_i h1 _
      exact runTr_size hc h1 h
    · cases h
  · cases h

def resOf (tmps : Array Value) : ResultVar → Sem Value
  | .tmp t => pure (tmps.getD t undef)
  | .cell a t => do loadVar t (← asAddr (tmps.getD a undef))
theorem results_eq (fn : Func) (tmps : Array Value) : Go.results fn tmps = (do let vs ← fn.results.mapM (resOf tmps); pure (if h : vs.size = 1 then vs[0] else .tuple vs)) := by
  unfold Go.results
  congr 1

/-- what a function gives back -/
theorem results_sim (hE : TyOk E) {ι : Emb} {H : AHeap} {w : World} (hR : Rel E ι H w) {A : List Value} {a : Act} (hA : RVs ι A a.tmps.toList) : ∀ {l : List ResultVar} {vs : List Value}, results E A H l = some vs →
    ∃ vs' : List Value, (l.mapM (resOf a.tmps)).run E.P w = .ok vs' w ∧ RVs ι vs vs'
  | [], vs, h => by
    simp only [results, Option.some.injEq] at h; subst h
    exact ⟨[], by simp, .nil⟩
  | .tmp t :: l, vs, h => by
    simp only [results, Option.map_eq_some_iff] at h
    obtain ⟨r, h1, h2⟩ := h
    subst h2
    obtain ⟨vs', h3, h4⟩ := results_sim hE hR hA h1
    refine ⟨a.tmps.getD t undef :: vs', ?_, .cons _ _ _ _ (by rw [toList_getD]; exact hA.getD t RV.undef) h4⟩
    simp only [List.mapM_cons, resOf, Sem.run_bind, Sem.run_pure, Result.andThen_ok, h3]
  | .cell ad t :: l, vs, h => by
    simp only [results] at h
    split at h
    rotate_left
    · cases h
    rename_i v r h1 h2
    injection h with h; subst h
    obtain ⟨vs', h3, h4⟩ := results_sim hE hR hA h2
    have hp : RV ι (A.getD ad undef) (a.tmps.getD ad undef) := by rw [toList_getD]; exact hA.getD ad RV.undef
    obtain ⟨v', h5, h6⟩ := aload_sim hE hR hp h1
    refine ⟨v' :: vs', ?_, .cons _ _ _ _ h6 h4⟩
    have h7 : (resOf a.tmps (.cell ad t)).run E.P w = .ok v' w := by
      simp only [resOf]
      unfold aload at h1
      split at h1
      · rename_i b o hx
        rw [hx] at hp
        generalize a.tmps.getD ad undef = x' at hp h5
        cases hp with | ptr _ _ l hb => exact h5
      · cases h1
    simp only [List.mapM_cons, Sem.run_bind, h7, Result.andThen_ok, h3, Sem.run_pure]

theorem oneOf_sim {ι : Emb} {vs : List Value} {us : Array Value} (h : RVs ι vs us.toList) : RV ι (oneOf vs) (if h : us.size = 1 then us[0] else .tuple us) := by
  obtain ⟨us⟩ := us
  simp only at h
  cases h with
  | nil => exact .tuple [] [] .nil
  | cons v v' vs vs' h hs => cases hs with
    | nil => simpa [oneOf] using h
    | cons u u' us us' g gs =>
      simp only [oneOf, List.size_toArray, List.length_cons]
      rw [dif_neg (by omega)]
      exact .tuple _ _ (.cons _ _ _ _ h (.cons _ _ _ _ g gs))

theorem run_enter {P : Program} {f : FuncId} {fn : Func} {c : Code} (hf : P.funcs[f]? = some fn) (hname : (fn.name == "runtime.NumGoroutine") = false) (hb : fn.body = some c) (args : Array Value) (w : World) :
    (callFunc f args).run P w = .ok (.enter f args) w := by
  have h1 : fn.name ≠ "runtime.NumGoroutine" := by simpa using hname
  simp [callFunc, hf, h1, hb]

theorem callF_ok (hE : EnvOk E) {ex : Exec} (hx : ExecOk E ex) : CallOk E (callF E ex) := by
  have key : ∀ f args H r H', callF E ex f args H = some (r, H') → H.size ≤ H'.size ∧ CallSim E f args H r H' := by
    intro f args H r H' h
    unfold callF at h
    split at h
    · rename_i g hg
      exact hE.sp f g args H r H' hg h
    · split at h
      · cases h
      rename_i fn hfn
      obtain ⟨k1, k2, k3⟩ := hE.fn f fn hfn
      split at h
      · cases h
      rename_i c hc
      split at h
      · cases h
      · rename_i e A1 H1 hexit hex
        have he : e = .normal ∨ e = .ret := by
          cases e with
          | normal => exact .inl rfl
          | ret => exact .inr rfl
          | exit id => exact (hexit id rfl).elim
        simp only [Option.map_eq_some_iff, Prod.mk.injEq] at h
        obtain ⟨vs, h1, h2, h3⟩ := h
        subst h2; subst h3
        refine ⟨hx.grow _ _ _ _ _ _ hex, fun ι w args' hR hD hargs => .inl ⟨run_enter k1 k2 hc _ _, ?_⟩⟩
        refine calls_of_wp k1 hc ?_
        refine hx.sim c _ _ _ _ _ (k3 c hc) hex ι w _ _ hR hD ?_ fun ι' a' w' hA' hd' hR' hS' => ?_
        · have hl := hargs.length
          simp only [Array.toList_append, Array.toList_replicate]
          refine hargs.append ?_
          rw [hl]
          exact RVs.replicate _ RV.undef
        · obtain ⟨vs', h4, h5⟩ := results_sim hE.ty hR' hA' h1
          have hpost : a'.defers = [] ∧ ∃ v, (Go.results fn a'.tmps).run E.P w' = .ok v w' ∧ CallPost E ι H w (oneOf vs) H1 (.returned v) w' := by
            refine ⟨hd', _, ?_, _, ι', rfl, oneOf_sim (us := vs'.toArray) (by simpa using h5), hR', hS'⟩
            rw [results_eq, Array.mapM_eq_mapM_toList, map_eq_pure_bind]
            simp only [Sem.run_bind, h4, Result.andThen_ok, Sem.run_pure]
          rcases he with rfl | rfl <;> exact hpost
      · cases h
  exact ⟨fun f args H r H' h => (key f args H r H' h).1, fun f args H r H' h => (key f args H r H' h).2⟩

/-- a loop comes to its end in so many rounds -/
def LoopSim (E : Env) (k : Nat) (ex : Exec) : Prop := ∀ c A H e A' H', codeOk E.ng c = true → ex (.loop c) A H = some (e, A', H') →
  ∀ (ι : Emb) (w : World) (a : Act) (Q : Exit → Act → World → Prop), Rel E ι H w → Dm ι H → RVs ι A a.tmps.toList →
    (∀ ι' a' w', RVs ι' A' a'.tmps.toList → a'.defers = a.defers → Rel E ι' H' w' → Step ι H w ι' H' w' → Q (exitOf e) a' w') → Code.rounds E.P c Q k a w

theorem loop_next {k : Nat} (ih : ExecOk E (exec E k)) (il : LoopSim E k (exec E k)) : LoopSim E (k + 1) (exec E (k + 1)) := by
  intro c A H e A' H' hok h ι w a Q hR hD hA hQ
  simp only [exec] at h
  rw [rounds_succ]
  split at h
  · rename_i A1 H1 h1
    refine ih.sim _ _ _ _ _ _ hok h1 ι w a _ hR hD hA fun ι1 a1 w1 hA1 hd1 hR1 hS1 => ?_
    exact il _ _ _ _ _ _ hok h ι1 w1 a1 _ hR1 (hD.step hS1) hA1 fun ι2 a2 w2 hA2 hd2 hR2 hS2 => hQ ι2 a2 w2 hA2 (hd2.trans hd1) hR2 (hS1.trans hS2)
  · rename_i hno
    refine ih.sim _ _ _ _ _ _ hok h ι w a _ hR hD hA fun ι1 a1 w1 hA1 hd1 hR1 hS1 => ?_
    have := hQ ι1 a1 w1 hA1 hd1 hR1 hS1
    cases e with
    | normal => exact (hno A' H' h).elim
    | exit id => exact this
    | ret => exact this

theorem exec_ok' (hE : EnvOk E) : ∀ k, ExecOk E (exec E k) ∧ LoopSim E k (exec E k)
  | 0 => ⟨⟨fun c A H e A' H' h => by simp [exec] at h, fun c A H e A' H' _ h => by simp [exec] at h⟩, fun c A H e A' H' _ h => by simp [exec] at h⟩
  | k + 1 => by
    obtain ⟨ih, il⟩ := exec_ok' hE k
    refine ⟨?_, loop_next ih il⟩
    have hc := callF_ok hE ih
    have sub : ∀ {c A H e A' H'}, exec E k c A H = some (e, A', H') → H.size ≤ H'.size := fun h => ih.grow _ _ _ _ _ _ h
    constructor
    · intro c A H e A' H' h
      cases c <;> simp only [exec] at h <;> try (cases h; done)
      case skip => simp only [Option.some.injEq, Prod.mk.injEq] at h; rw [h.2.2]; exact Nat.le_refl _
      case label => simp only [Option.some.injEq, Prod.mk.injEq] at h; rw [h.2.2]; exact Nat.le_refl _
      case exit => simp only [Option.some.injEq, Prod.mk.injEq] at h; rw [h.2.2]; exact Nat.le_refl _
      case ret => simp only [Option.some.injEq, Prod.mk.injEq] at h; rw [h.2.2]; exact Nat.le_refl _
      case seq a b =>
        split at h
        · rename_i h1; exact Nat.le_trans (sub h1) (sub h)
        · exact sub h
      case cond x a b =>
        split at h
        · exact sub h
        · exact sub h
        · cases h
      case block id c =>
        split at h
        · rename_i h1
          split at h
          · simp only [Option.some.injEq, Prod.mk.injEq] at h; rw [← h.2.2]; exact sub h1
          · simp only [Option.some.injEq, Prod.mk.injEq] at h; rw [← h.2.2]; exact sub h1
        · exact sub h
      case loop c =>
        split at h
        · rename_i h1; exact Nat.le_trans (sub h1) (sub h)
        · exact sub h
      case scope c => exact sub h
      case region id ops draw =>
        simp only [Option.map_eq_some_iff, Prod.mk.injEq] at h
        obtain ⟨⟨A1, H1⟩, h1, _, _, h2⟩ := h
        subst h2
        cases draw with
        | true => exact runDraw_size hc h1
        | false => exact runOps_size hc h1
    · intro c A H e A' H' hok h ι w a Q hR hD hA hQ
      cases c <;> simp only [exec] at h <;> try (cases h; done)
      case skip =>
        simp only [Option.some.injEq, Prod.mk.injEq] at h; obtain ⟨rfl, rfl, rfl⟩ := h
        exact wp_skip (hQ ι a w hA rfl hR (Step.refl _ _ _))
      case label =>
        simp only [Option.some.injEq, Prod.mk.injEq] at h; obtain ⟨rfl, rfl, rfl⟩ := h
        exact wp_label (hQ ι a w hA rfl hR (Step.refl _ _ _))
      case exit =>
        simp only [Option.some.injEq, Prod.mk.injEq] at h; obtain ⟨rfl, rfl, rfl⟩ := h
        exact wp_exit (hQ ι a w hA rfl hR (Step.refl _ _ _))
      case ret =>
        simp only [Option.some.injEq, Prod.mk.injEq] at h; obtain ⟨rfl, rfl, rfl⟩ := h
        exact wp_ret (hQ ι a w hA rfl hR (Step.refl _ _ _))
      case seq x y =>
        simp only [codeOk, Bool.and_eq_true] at hok
        refine wp_seq ?_
        split at h
        · rename_i A1 H1 h1
          refine ih.sim _ _ _ _ _ _ hok.1 h1 ι w a _ hR hD hA fun ι1 a1 w1 hA1 hd1 hR1 hS1 => ?_
          exact ih.sim _ _ _ _ _ _ hok.2 h ι1 w1 a1 _ hR1 (hD.step hS1) hA1 fun ι2 a2 w2 hA2 hd2 hR2 hS2 => hQ ι2 a2 w2 hA2 (hd2.trans hd1) hR2 (hS1.trans hS2)
        · rename_i hno
          refine ih.sim _ _ _ _ _ _ hok.1 h ι w a _ hR hD hA fun ι1 a1 w1 hA1 hd1 hR1 hS1 => ?_
          have := hQ ι1 a1 w1 hA1 hd1 hR1 hS1
          cases e with
          | normal => exact (hno A' H' h).elim
          | exit id => exact this
          | ret => exact this
      case cond x y z =>
        simp only [codeOk, Bool.and_eq_true] at hok
        have hx := aev_sim hR hA hok.1.1
        split at h
        · rename_i hv
          rw [hv] at hx
          refine wp_cond_true ?_ (ih.sim _ _ _ _ _ _ hok.1.2 h ι w a _ hR hD hA hQ)
          generalize a.eval x = xv at hx
          cases hx; rfl
        · rename_i hv
          rw [hv] at hx
          refine wp_cond_false ?_ (ih.sim _ _ _ _ _ _ hok.2 h ι w a _ hR hD hA hQ)
          generalize a.eval x = xv at hx
          cases hx; rfl
        · cases h
      case block id c =>
        have hok : codeOk E.ng c = true := hok
        refine wp_block ?_
        split at h
        · rename_i id' A1 H1 h1
          refine ih.sim _ _ _ _ _ _ hok h1 ι w a _ hR hD hA fun ι1 a1 w1 hA1 hd1 hR1 hS1 => ?_
          simp only [exitOf, Exit.inBlock]
          split at h
          · rename_i he
            simp only [Option.some.injEq, Prod.mk.injEq] at h; obtain ⟨rfl, rfl, rfl⟩ := h
            rw [if_pos he]; exact hQ ι1 a1 w1 hA1 hd1 hR1 hS1
          · rename_i he
            simp only [Option.some.injEq, Prod.mk.injEq] at h; obtain ⟨rfl, rfl, rfl⟩ := h
            rw [if_neg he]; exact hQ ι1 a1 w1 hA1 hd1 hR1 hS1
        · rename_i hno
          refine ih.sim _ _ _ _ _ _ hok h ι w a _ hR hD hA fun ι1 a1 w1 hA1 hd1 hR1 hS1 => ?_
          have := hQ ι1 a1 w1 hA1 hd1 hR1 hS1
          cases e with
          | exit id' => exact (hno id' A' H' h).elim
          | normal => exact this
          | ret => exact this
      case loop c =>
        have h' : exec E (k + 1) (.loop c) A H = some (e, A', H') := by simp only [exec]; exact h
        exact wp_loop_rounds (k + 1) (loop_next ih il c A H e A' H' hok h' ι w a Q hR hD hA hQ)
      case scope c =>
        have hok : codeOk E.ng c = true := hok
        refine wp_scope_straight ?_
        refine ih.sim _ _ _ _ _ _ hok h ι w a _ hR hD hA fun ι1 a1 w1 hA1 hd1 hR1 hS1 => ?_
        have := hQ ι1 a1 w1 hA1 hd1 hR1 hS1
        cases e <;> exact this
      case region id ops draw =>
        simp only [codeOk, Bool.and_eq_true] at hok
        simp only [Option.map_eq_some_iff, Prod.mk.injEq] at h
        obtain ⟨⟨A1, H1⟩, h1, h2, h3, h4⟩ := h
        subst h2; subst h3; subst h4
        cases draw with
        | true =>
          exact runDraw_sim hE.ty hc (by simpa using hok.2) hok.1 hE.mixed hR hD hA (by simpa using h1) hQ id
        | false =>
          exact wp_region_list (runOps_sim hE.ty hc hR hD hA hok.1 (by simpa using h1) hQ)

theorem exec_ok (hE : EnvOk E) (k : Nat) : ExecOk E (exec E k) := (exec_ok' hE k).1

/-- A CALL: what the abstract machine gives back, every run of the model gives back. -/
theorem call_ok (hE : EnvOk E) (k : Nat) : CallOk E (callF E (exec E k)) := callF_ok hE (exec_ok hE k)

end
end AbsYtlmcjfnignbdoaa
