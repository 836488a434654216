/-
  Reasoning on the abstract machine: more fuel does no harm; rules for code, operations, calls.
-/
import Derived.Test.YtlmcjfnignbdoaaAEnv
namespace AbsYtlmcjfnignbdoaa
set_option linter.unusedVariables false
set_option linter.unusedSimpArgs false
set_option linter.unusedSectionVars false
open Go

def Call.le (c d : Call) : Prop := ∀ f args H r, c f args H = some r → d f args H = some r
def Exec.le (x y : Exec) : Prop := ∀ c A H r, x c A H = some r → y c A H = some r

section
variable {E : Env}

theorem runOp_mono {c d : Call} (h : c.le d) {all : Array Oper} {o : Oper} {A : List Value} {H : AHeap} {r : List Value × AHeap} (hr : runOp E c all o A H = some r) : runOp E d all o A H = some r := by
  unfold runOp at hr ⊢
  split
  · rename_i hw
    rw [if_pos hw] at hr
    split at hr
    · cases hr
    · rename_i hop; exact hr
    · rename_i hop
      split at hr
      · rename_i hc
        rw [h _ _ _ _ hc]; exact hr
      · cases hr
  · rename_i hw
    rw [if_neg hw] at hr; exact hr
theorem runOps_mono {c d : Call} (h : c.le d) {all : Array Oper} : ∀ {l : List Oper} {A : List Value} {H : AHeap} {r : List Value × AHeap}, runOps E c all l A H = some r → runOps E d all l A H = some r
  | [], _, _, _, hr => hr
  | o :: l, A, H, r, hr => by
    simp only [runOps] at hr ⊢
    split at hr
    · rename_i h1
      rw [runOp_mono h h1]; exact runOps_mono h hr
    · cases hr
theorem runTr_mono {c d : Call} (h : c.le d) {all : Array Oper} : ∀ {l : List Oper} {A : List Value} {H : AHeap} {r : List (List Value × AHeap)}, runTr E c all l A H = some r → runTr E d all l A H = some r
  | [], _, _, _, hr => hr
  | o :: l, A, H, r, hr => by
    simp only [runTr] at hr ⊢
    split at hr
    · rename_i h1
      rw [runOp_mono h h1]
      simp only [Option.map_eq_some_iff] at hr ⊢
      obtain ⟨t, h2, h3⟩ := hr
      exact ⟨t, runTr_mono h h2, h3⟩
    · cases hr
theorem runDraw_mono {c d : Call} (h : c.le d) {ops : Array Oper} {A : List Value} {H : AHeap} {r : List Value × AHeap} (hr : runDraw E c ops A H = some r) : runDraw E d ops A H = some r := by
  unfold runDraw at hr ⊢
  split at hr
  · rename_i h1; rw [runTr_mono h h1]; exact hr
  · cases hr
theorem callF_mono {x y : Exec} (h : x.le y) : (callF E x).le (callF E y) := by
  intro f args H r hr
  unfold callF at hr ⊢
  split at hr
  · exact hr
  · split at hr
    · cases hr
    · split at hr
      · cases hr
      · split at hr
        · cases hr
        · rename_i hno hx
          rw [h _ _ _ _ hx]
          split
          · rename_i he; injection he with he; injection he with he _; exact (hno _ he).elim
          · rename_i he; injection he with he; injection he with h1 h2; injection h2 with h2 h3; subst h2; subst h3; exact hr
          · rename_i he; cases he
        · cases hr
/-- one level of code -/
def execStep (E : Env) (ex : Exec) : Exec := fun c A H =>
  match c with
  | .skip => some (.normal, A, H)
  | .label _ => some (.normal, A, H)
  | .seq a b => match ex a A H with
    | some (.normal, A', H') => ex b A' H'
    | r => r
  | .cond x a b => match aev A x with
    | .bool true => ex a A H
    | .bool false => ex b A H
    | _ => none
  | .block id c => match ex c A H with
    | some (.exit id', A', H') => if id' = id then some (.normal, A', H') else some (.exit id', A', H')
    | r => r
  | .loop c => match ex c A H with
    | some (.normal, A', H') => ex (.loop c) A' H'
    | r => r
  | .scope c => ex c A H
  | .exit id => some (.exit id, A, H)
  | .ret => some (.ret, A, H)
  | .region _ ops draw => (if draw then runDraw E (callF E ex) ops A H else runOps E (callF E ex) ops ops.toList A H).map fun p => (.normal, p.1, p.2)
  | _ => none
theorem exec_eq (k : Nat) (c : Code) (A : List Value) (H : AHeap) : exec E (k + 1) c A H = execStep E (exec E k) c A H := by
  cases c <;> rfl
theorem exec_succ : ∀ k, (exec E k).le (exec E (k + 1))
  | 0, c, A, H, r, h => by simp [exec] at h
  | k + 1, c, A, H, r, h => by
    have ih := exec_succ k
    have hc := callF_mono (E := E) ih
    rw [exec_eq] at h ⊢
    cases c <;> simp only [execStep] at h ⊢ <;> try exact h
    case seq a b =>
      split at h
      · rename_i h1; rw [ih _ _ _ _ h1]; exact ih _ _ _ _ h
      · rename_i hno; rw [ih _ _ _ _ h]; split
        · rename_i he; injection he with he; exact (hno _ _ (by rw [← he]; exact h)).elim
        · rfl
    case cond x a b =>
      split at h
      · exact ih _ _ _ _ h
      · exact ih _ _ _ _ h
      · cases h
    case block id c =>
      split at h
      · rename_i h1; rw [ih _ _ _ _ h1]; exact h
      · rename_i hno; rw [ih _ _ _ _ h]; split
        · rename_i he; injection he with he; exact (hno _ _ _ (by rw [← he]; exact h)).elim
        · rfl
    case loop c =>
      split at h
      · rename_i h1; rw [ih _ _ _ _ h1]; exact ih _ _ _ _ h
      · rename_i hno; rw [ih _ _ _ _ h]; split
        · rename_i he; injection he with he; exact (hno _ _ (by rw [← he]; exact h)).elim
        · rfl
    case scope c => exact ih _ _ _ _ h
    case region id ops draw =>
      simp only [Option.map_eq_some_iff] at h ⊢
      obtain ⟨p, h1, h2⟩ := h
      refine ⟨p, ?_, h2⟩
      cases draw with
      | true => simp only [if_true] at h1 ⊢; exact runDraw_mono hc h1
      | false => simp only [Bool.false_eq_true, if_false] at h1 ⊢; exact runOps_mono hc h1
theorem exec_le {k m : Nat} (h : k ≤ m) : (exec E k).le (exec E m) := by
  induction m with
  | zero => have : k = 0 := by omega
            subst this; exact fun _ _ _ _ h => h
  | succ m ih =>
    by_cases he : k = m + 1
    · subst he; exact fun _ _ _ _ h => h
    · exact fun c A H r hr => exec_succ m c A H r (ih (by omega) c A H r hr)

/-! ### what holds at the end -/
def CodeW (E : Env) (c : Code) (A : List Value) (H : AHeap) (Q : AExit → List Value → AHeap → Prop) : Prop := ∃ k e A' H', exec E k c A H = some (e, A', H') ∧ Q e A' H'
def OpsW (E : Env) (all : Array Oper) (l : List Oper) (A : List Value) (H : AHeap) (Q : List Value → AHeap → Prop) : Prop := ∃ k A' H', runOps E (callF E (exec E k)) all l A H = some (A', H') ∧ Q A' H'
def CallW (E : Env) (f : Nat) (args : List Value) (H : AHeap) (Q : Value → AHeap → Prop) : Prop := ∃ k r H', callF E (exec E k) f args H = some (r, H') ∧ Q r H'
/-- a region that draws, its states so far told -/
def TrW (E : Env) (all : Array Oper) (l : List Oper) (A : List Value) (H : AHeap) (Q : List (List Value × AHeap) → Prop) : Prop := ∃ k tr, runTr E (callF E (exec E k)) all l A H = some tr ∧ Q tr

variable {A : List Value} {H : AHeap} {Q : AExit → List Value → AHeap → Prop}

theorem CodeW.mono {c : Code} {Q' : AExit → List Value → AHeap → Prop} (h : CodeW E c A H Q) (hq : ∀ e A H, Q e A H → Q' e A H) : CodeW E c A H Q' := by
  obtain ⟨k, e, A', H', h1, h2⟩ := h; exact ⟨k, e, A', H', h1, hq _ _ _ h2⟩
theorem CallW.mono {f : Nat} {args : List Value} {Q Q' : Value → AHeap → Prop} (h : CallW E f args H Q) (hq : ∀ r H, Q r H → Q' r H) : CallW E f args H Q' := by
  obtain ⟨k, r, H', h1, h2⟩ := h; exact ⟨k, r, H', h1, hq _ _ h2⟩
theorem OpsW.mono {all : Array Oper} {l : List Oper} {Q Q' : List Value → AHeap → Prop} (h : OpsW E all l A H Q) (hq : ∀ A H, Q A H → Q' A H) : OpsW E all l A H Q' := by
  obtain ⟨k, A', H', h1, h2⟩ := h; exact ⟨k, A', H', h1, hq _ _ h2⟩

def thenQ (Q : AExit → List Value → AHeap → Prop) (K : List Value → AHeap → Prop) : AExit → List Value → AHeap → Prop
  | .normal, A, H => K A H
  | e, A, H => Q e A H
def blockQ (id : Nat) (Q : AExit → List Value → AHeap → Prop) : AExit → List Value → AHeap → Prop
  | .exit id', A, H => if id' = id then Q .normal A H else Q (.exit id') A H
  | e, A, H => Q e A H

theorem w_skip (h : Q .normal A H) : CodeW E .skip A H Q := ⟨1, _, _, _, rfl, h⟩
theorem w_label {l : Nat} (h : Q .normal A H) : CodeW E (.label l) A H Q := ⟨1, _, _, _, rfl, h⟩
theorem w_exit {id : Nat} (h : Q (.exit id) A H) : CodeW E (.exit id) A H Q := ⟨1, _, _, _, rfl, h⟩
theorem w_ret (h : Q .ret A H) : CodeW E .ret A H Q := ⟨1, _, _, _, rfl, h⟩
theorem w_seq {a b : Code} (h : CodeW E a A H (thenQ Q fun A H => CodeW E b A H Q)) : CodeW E (.seq a b) A H Q := by
  obtain ⟨k, e, A1, H1, h1, h2⟩ := h
  cases e with
  | normal =>
    obtain ⟨m, e2, A2, H2, h3, h4⟩ := h2
    refine ⟨k + m + 1, e2, A2, H2, ?_, h4⟩
    simp only [exec, exec_le (show k ≤ k + m by omega) _ _ _ _ h1]
    exact exec_le (by omega) _ _ _ _ h3
  | exit id => exact ⟨k + 1, _, A1, H1, by simp only [exec, h1], h2⟩
  | ret => exact ⟨k + 1, _, A1, H1, by simp only [exec, h1], h2⟩
theorem w_cond {x : Operand} {a b : Code} {t : Bool} (hx : aev A x = .bool t) (h1 : t = true → CodeW E a A H Q) (h2 : t = false → CodeW E b A H Q) : CodeW E (.cond x a b) A H Q := by
  cases t with
  | true =>
    obtain ⟨k, e, A1, H1, h3, h4⟩ := h1 rfl
    exact ⟨k + 1, e, A1, H1, by simp only [exec, hx]; exact h3, h4⟩
  | false =>
    obtain ⟨k, e, A1, H1, h3, h4⟩ := h2 rfl
    exact ⟨k + 1, e, A1, H1, by simp only [exec, hx]; exact h3, h4⟩
theorem w_block {id : Nat} {c : Code} (h : CodeW E c A H (blockQ id Q)) : CodeW E (.block id c) A H Q := by
  obtain ⟨k, e, A1, H1, h1, h2⟩ := h
  cases e with
  | normal => exact ⟨k + 1, .normal, A1, H1, by simp only [exec, h1], h2⟩
  | ret => exact ⟨k + 1, .ret, A1, H1, by simp only [exec, h1], h2⟩
  | exit id' =>
    simp only [blockQ] at h2
    by_cases hid : id' = id
    · rw [if_pos hid] at h2
      exact ⟨k + 1, .normal, A1, H1, by simp only [exec, h1, if_pos hid], h2⟩
    · rw [if_neg hid] at h2
      exact ⟨k + 1, .exit id', A1, H1, by simp only [exec, h1, if_neg hid], h2⟩
theorem w_scope {c : Code} (h : CodeW E c A H Q) : CodeW E (.scope c) A H Q := by
  obtain ⟨k, e, A1, H1, h1, h2⟩ := h
  exact ⟨k + 1, e, A1, H1, by simp only [exec]; exact h1, h2⟩
theorem w_loop {c : Code} (h : CodeW E c A H (thenQ Q fun A H => CodeW E (.loop c) A H Q)) : CodeW E (.loop c) A H Q := by
  obtain ⟨k, e, A1, H1, h1, h2⟩ := h
  cases e with
  | normal =>
    obtain ⟨m, e2, A2, H2, h3, h4⟩ := h2
    refine ⟨k + m + 1, e2, A2, H2, ?_, h4⟩
    simp only [exec, exec_le (show k ≤ k + m by omega) _ _ _ _ h1]
    exact exec_le (by omega) _ _ _ _ h3
  | exit id => exact ⟨k + 1, _, A1, H1, by simp only [exec, h1], h2⟩
  | ret => exact ⟨k + 1, _, A1, H1, by simp only [exec, h1], h2⟩
/-- a loop, by an invariant that goes down -/
theorem w_loop_inv {c : Code} (I : List Value → AHeap → Prop) (μ : List Value → AHeap → Nat) (h0 : I A H)
    (h : ∀ A H, I A H → CodeW E c A H (thenQ Q fun A' H' => I A' H' ∧ μ A' H' < μ A H)) : CodeW E (.loop c) A H Q := by
  have : ∀ n A H, μ A H = n → I A H → CodeW E (.loop c) A H Q := by
    intro n
    induction n using Nat.strongRecOn with
    | ind n ih =>
      intro A H hn hI
      refine w_loop ((h A H hI).mono fun e A' H' hq => ?_)
      cases e with
      | normal => exact ih _ (by have := hq.2; omega) A' H' rfl hq.1
      | exit id => exact hq
      | ret => exact hq
  exact this _ A H rfl h0
theorem w_region {id : Nat} {ops : Array Oper} (h : OpsW E ops ops.toList A H (Q .normal)) : CodeW E (.region id ops false) A H Q := by
  obtain ⟨k, A1, H1, h1, h2⟩ := h
  exact ⟨k + 1, .normal, A1, H1, by simp [exec, h1], h2⟩
theorem w_draw {id : Nat} {ops : Array Oper} (h : TrW E ops ops.toList A H fun tr => (floatPairs ops).all (floatOk ops tr) = true ∧ ∃ A' H', tr.getLast? = some (A', H') ∧ Q .normal A' H') : CodeW E (.region id ops true) A H Q := by
  obtain ⟨k, tr, h1, h2, A1, H1, h3, h4⟩ := h
  exact ⟨k + 1, .normal, A1, H1, by simp [exec, runDraw, h1, h2, h3], h4⟩
theorem runTr_of_ops {call : Call} {all : Array Oper} : ∀ {l : List Oper} {A : List Value} {H : AHeap} {A' : List Value} {H' : AHeap}, runOps E call all l A H = some (A', H') → ∃ tr, runTr E call all l A H = some tr ∧ tr.getLast? = some (A', H')
  | [], A, H, A', H', h => ⟨_, rfl, by simp only [runOps] at h; simpa using h⟩
  | o :: l, A, H, A', H', h => by
    simp only [runOps] at h
    split at h
    · rename_i h1
      obtain ⟨tr, h2, h3⟩ := runTr_of_ops h
      refine ⟨(A, H) :: tr, by simp only [runTr, h1, h2, Option.map_some], ?_⟩
      cases tr with
      | nil => simp at h3
      | cons p ps => simpa [List.getLast?_cons_cons] using h3
    · cases h
/-- nothing floats -/
theorem w_draw0 {id : Nat} {ops : Array Oper} (hf : floatPairs ops = []) (h : OpsW E ops ops.toList A H (Q .normal)) : CodeW E (.region id ops true) A H Q := by
  obtain ⟨k, A1, H1, h1, h2⟩ := h
  obtain ⟨tr, h3, h4⟩ := runTr_of_ops h1
  exact ⟨k + 1, .normal, A1, H1, by simp [exec, runDraw, h3, hf, h4], h2⟩

section
variable {all : Array Oper} {l : List Oper} {o : Oper} {K : List Value → AHeap → Prop}
theorem o_nil (h : K A H) : OpsW E all [] A H K := ⟨0, A, H, rfl, h⟩
theorem o_val {v : Value} {H' : AHeap} (hw : Region.wanted o (ayield all A) = true) (hop : aop E A H o.op = some (.val v H')) (h : OpsW E all l (aput A o.dst v) H' K) : OpsW E all (o :: l) A H K := by
  obtain ⟨k, A1, H1, h1, h2⟩ := h
  exact ⟨k, A1, H1, by simp only [runOps, runOp, hw, if_true, hop]; exact h1, h2⟩
theorem o_not (hw : Region.wanted o (ayield all A) = false) (h : OpsW E all l (aput A o.dst undef) H K) : OpsW E all (o :: l) A H K := by
  obtain ⟨k, A1, H1, h1, h2⟩ := h
  exact ⟨k, A1, H1, by simp only [runOps, runOp, hw, Bool.false_eq_true, if_false]; exact h1, h2⟩
theorem o_call {f : Nat} {args : List Value} (hw : Region.wanted o (ayield all A) = true) (hop : aop E A H o.op = some (.call f args)) (h : CallW E f args H fun v H' => OpsW E all l (aput A o.dst v) H' K) : OpsW E all (o :: l) A H K := by
  obtain ⟨k, v, H1, h1, m, A2, H2, h2, h3⟩ := h
  refine ⟨k + m, A2, H2, ?_, h3⟩
  have e1 := callF_mono (exec_le (E := E) (show k ≤ k + m by omega)) _ _ _ _ h1
  have e2 := runOps_mono (callF_mono (exec_le (E := E) (show m ≤ k + m by omega))) h2
  simp only [runOps, runOp, hw, if_true, hop, e1]; exact e2
end

/-- a function's body -/
theorem w_call {f : Nat} {args : List Value} {fn : Func} {c : Code} {Q : Value → AHeap → Prop} (hs : E.sp f = none) (hf : E.fn.get f = some fn) (hb : fn.body = some c)
    (h : CodeW E c (args ++ List.replicate (fn.ntmps - args.length) undef) H fun e A' H' => match e with
      | .exit _ => False
      | _ => ∃ vs, results E A' H' fn.results.toList = some vs ∧ Q (oneOf vs) H') : CallW E f args H Q := by
  obtain ⟨k, e, A1, H1, h1, h2⟩ := h
  cases e with
  | exit id => exact h2.elim
  | normal =>
    obtain ⟨vs, h3, h4⟩ := h2
    exact ⟨k, _, H1, by simp only [callF, hs, hf, hb, h1, h3, Option.map_some], h4⟩
  | ret =>
    obtain ⟨vs, h3, h4⟩ := h2
    exact ⟨k, _, H1, by simp only [callF, hs, hf, hb, h1, h3, Option.map_some], h4⟩
theorem w_special {f : Nat} {args : List Value} {g : Spec} {Q : Value → AHeap → Prop} {r : Value} {H' : AHeap} (hs : E.sp f = some g) (h : g args H = some (r, H')) (hq : Q r H') : CallW E f args H Q :=
  ⟨0, r, H', by simp only [callF, hs]; exact h, hq⟩

/-- what a call comes to, the model comes to -/
theorem CallW.sim (hE : EnvOk E) {f : Nat} {args : List Value} {Q : Value → AHeap → Prop} (h : CallW E f args H Q) : ∃ r H', Q r H' ∧ H.size ≤ H'.size ∧ CallSim E f args H r H' := by
  obtain ⟨k, r, H', h1, h2⟩ := h
  exact ⟨r, H', h2, (call_ok hE k).grow _ _ _ _ _ h1, (call_ok hE k).sim _ _ _ _ _ h1⟩

end
end AbsYtlmcjfnignbdoaa
