/-
  The rules as equivalences, for the simplifier; temporaries as a function.
-/
import Derived.Test.YtlmcjfnignbdoaaAW
namespace AbsYtlmcjfnignbdoaa
set_option linter.unusedVariables false
set_option linter.unusedSimpArgs false
set_option linter.unusedSectionVars false
open Go

/-- temporaries -/
def L (n : Nat) (f : Nat → Value) : List Value := (List.range n).map f
def upd (f : Nat → Value) (d : Nat) (v : Value) : Nat → Value := fun t => if t = d then v else f t
def ofL : List Value → Nat → Value
  | [], _ => undef
  | v :: _, 0 => v
  | _ :: l, t + 1 => ofL l t
theorem upd_same (f : Nat → Value) (d : Nat) (v : Value) : upd f d v d = v := by simp [upd]
theorem upd_ne {f : Nat → Value} {d t : Nat} {v : Value} (h : t ≠ d) : upd f d v t = f t := by simp [upd, h]
theorem upd_at (f : Nat → Value) (d t : Nat) (v : Value) : upd f d v t = if t = d then v else f t := rfl
theorem L_length (n : Nat) (f : Nat → Value) : (L n f).length = n := by simp [L]
theorem L_get {n : Nat} {f : Nat → Value} {t : Nat} (h : t < n) : (L n f)[t]? = some (f t) := by simp [L, h]
theorem L_getD {n : Nat} {f : Nat → Value} {t : Nat} (h : t < n) (u : Value) : (L n f).getD t u = f t := by simp [List.getD, L_get h]
theorem L_set (n : Nat) (f : Nat → Value) (d : Nat) (v : Value) : (L n f).set d v = L n (upd f d v) := by
  apply List.ext_getElem
  · simp [L_length]
  · intro i h1 h2
    simp only [List.length_set, L_length] at h1
    simp only [List.getElem_set, L, List.getElem_map, List.getElem_range, upd]
    split <;> split <;> first | rfl | omega
theorem ofL_getD : ∀ (l : List Value) (t : Nat), ofL l t = l.getD t undef
  | [], t => by simp [ofL]
  | v :: l, 0 => by simp [ofL]
  | v :: l, t + 1 => by simp [ofL, ofL_getD l t]
theorem L_ofL {args : List Value} {n : Nat} (h : args.length ≤ n) : args ++ List.replicate (n - args.length) undef = L n (ofL args) := by
  apply List.ext_getElem
  · simp [L_length]; omega
  · intro i h1 h2
    simp only [L, List.getElem_map, List.getElem_range, ofL_getD]
    rw [List.getElem_append]
    split
    · rename_i hi; simp [List.getD, hi]
    · rename_i hi; simp [List.getD, List.getElem?_eq_none (Nat.le_of_not_lt hi)]
theorem L_eta {A : List Value} {n : Nat} (h : A.length = n) : A = L n fun t => A.getD t undef := by
  subst h
  apply List.ext_getElem
  · simp [L_length]
  · intro i h1 h2; simp [L, List.getD, h1]

theorem aev_tmp {n : Nat} {f : Nat → Value} {t : Nat} : aev (L n f) (.tmp t) = if t < n then f t else undef := by
  split
  · rename_i h; exact L_getD h undef
  · rename_i h; simp only [aev, List.getD]; rw [List.getElem?_eq_none (by simp [L_length]; omega)]; rfl
theorem aev_const (A : List Value) (v : Value) : aev A (.const v) = v := rfl
theorem aev_global (A : List Value) (g : Nat) : aev A (.global g) = .pointer (some ⟨g, 0, none⟩) := rfl
theorem aev_func (A : List Value) (f : Nat) : aev A (.func f) = .func (.func f) #[] #[] := rfl
theorem aput_some (n : Nat) (f : Nat → Value) (d : Nat) (v : Value) : aput (L n f) (some d) v = L n (upd f d v) := L_set n f d v
theorem aput_none (A : List Value) (v : Value) : aput A none v = A := rfl

section
variable {E : Env} {A : List Value} {H : AHeap} {Q : AExit → List Value → AHeap → Prop}

theorem exec_det {k m : Nat} {c : Code} {r s : AExit × List Value × AHeap} (h1 : exec E k c A H = some r) (h2 : exec E m c A H = some s) : r = s := by
  rcases Nat.le_total k m with h | h
  · have := exec_le h _ _ _ _ h1; rw [h2] at this; exact (Option.some.inj this).symm
  · have := exec_le h _ _ _ _ h2; rw [h1] at this; exact Option.some.inj this

theorem W_skip : CodeW E .skip A H Q ↔ Q .normal A H := by
  refine ⟨fun ⟨k, e, A', H', h, hq⟩ => ?_, w_skip⟩
  cases k with
  | zero => cases h
  | succ k => simp only [exec, Option.some.injEq, Prod.mk.injEq] at h; obtain ⟨rfl, rfl, rfl⟩ := h; exact hq
theorem W_label {l : Nat} : CodeW E (.label l) A H Q ↔ Q .normal A H := by
  refine ⟨fun ⟨k, e, A', H', h, hq⟩ => ?_, w_label⟩
  cases k with
  | zero => cases h
  | succ k => simp only [exec, Option.some.injEq, Prod.mk.injEq] at h; obtain ⟨rfl, rfl, rfl⟩ := h; exact hq
theorem W_exit {id : Nat} : CodeW E (.exit id) A H Q ↔ Q (.exit id) A H := by
  refine ⟨fun ⟨k, e, A', H', h, hq⟩ => ?_, w_exit⟩
  cases k with
  | zero => cases h
  | succ k => simp only [exec, Option.some.injEq, Prod.mk.injEq] at h; obtain ⟨rfl, rfl, rfl⟩ := h; exact hq
theorem W_ret : CodeW E .ret A H Q ↔ Q .ret A H := by
  refine ⟨fun ⟨k, e, A', H', h, hq⟩ => ?_, w_ret⟩
  cases k with
  | zero => cases h
  | succ k => simp only [exec, Option.some.injEq, Prod.mk.injEq] at h; obtain ⟨rfl, rfl, rfl⟩ := h; exact hq
/-- what comes next -/
def thenC (E : Env) (b : Code) (Q : AExit → List Value → AHeap → Prop) : AExit → List Value → AHeap → Prop := thenQ Q fun A H => CodeW E b A H Q
theorem then_normal {b : Code} : thenC E b Q .normal A H ↔ CodeW E b A H Q := Iff.rfl
theorem then_exit {b : Code} {id : Nat} : thenC E b Q (.exit id) A H ↔ Q (.exit id) A H := Iff.rfl
theorem then_ret {b : Code} : thenC E b Q .ret A H ↔ Q .ret A H := Iff.rfl
theorem W_seq {a b : Code} : CodeW E (.seq a b) A H Q ↔ CodeW E a A H (thenC E b Q) := by
  refine ⟨fun ⟨k, e, A', H', h, hq⟩ => ?_, w_seq⟩
  cases k with
  | zero => cases h
  | succ k =>
    simp only [exec] at h
    split at h
    · rename_i A1 H1 h1
      exact ⟨k, .normal, A1, H1, h1, k, e, A', H', h, hq⟩
    · rename_i hno
      refine ⟨k, e, A', H', h, ?_⟩
      cases e with
      | normal => exact (hno _ _ h).elim
      | exit id => exact hq
      | ret => exact hq
/-- a branch -/
def condW (v : Value) (p q : Prop) : Prop :=
  match v with
  | .bool t => (t = true → p) ∧ (t = false → q)
  | _ => False
theorem condW_bool {t : Bool} {p q : Prop} : condW (.bool t) p q ↔ (t = true → p) ∧ (t = false → q) := Iff.rfl
theorem condW_true {p q : Prop} : condW (.bool true) p q ↔ p := by simp [condW]
theorem condW_false {p q : Prop} : condW (.bool false) p q ↔ q := by simp [condW]
theorem condW_dec {c : Prop} [Decidable c] {p q : Prop} : condW (.bool (decide c)) p q ↔ (c → p) ∧ (¬ c → q) := by simp [condW]
/-- a branch, as code -/
def condC (E : Env) (v : Value) (a b : Code) (A : List Value) (H : AHeap) (Q : AExit → List Value → AHeap → Prop) : Prop := condW v (CodeW E a A H Q) (CodeW E b A H Q)
theorem C_true {a b : Code} : condC E (.bool true) a b A H Q ↔ CodeW E a A H Q := condW_true
theorem C_false {a b : Code} : condC E (.bool false) a b A H Q ↔ CodeW E b A H Q := condW_false
theorem C_dec {c : Prop} [Decidable c] {a b : Code} : condC E (.bool (decide c)) a b A H Q ↔ (c → CodeW E a A H Q) ∧ (¬ c → CodeW E b A H Q) := condW_dec
theorem C_bool {t : Bool} {a b : Code} : condC E (.bool t) a b A H Q ↔ (t = true → CodeW E a A H Q) ∧ (t = false → CodeW E b A H Q) := condW_bool
theorem W_cond {x : Operand} {a b : Code} : CodeW E (.cond x a b) A H Q ↔ condC E (aev A x) a b A H Q := by
  unfold condC
  constructor
  · rintro ⟨k, e, A', H', h, hq⟩
    cases k with
    | zero => cases h
    | succ k =>
      simp only [exec] at h
      split at h
      · rename_i hx; rw [hx, condW_true]; exact ⟨k, e, A', H', h, hq⟩
      · rename_i hx; rw [hx, condW_false]; exact ⟨k, e, A', H', h, hq⟩
      · cases h
  · intro h
    cases hx : aev A x <;> rw [hx] at h <;> try (exact h.elim)
    exact w_cond hx h.1 h.2
theorem W_block {id : Nat} {c : Code} : CodeW E (.block id c) A H Q ↔ CodeW E c A H (blockQ id Q) := by
  refine ⟨fun ⟨k, e, A', H', h, hq⟩ => ?_, w_block⟩
  cases k with
  | zero => cases h
  | succ k =>
    simp only [exec] at h
    split at h
    · rename_i id' A1 H1 h1
      refine ⟨k, _, A1, H1, h1, ?_⟩
      simp only [blockQ]
      split at h
      · rename_i he; simp only [Option.some.injEq, Prod.mk.injEq] at h; obtain ⟨rfl, rfl, rfl⟩ := h; rw [if_pos he]; exact hq
      · rename_i he; simp only [Option.some.injEq, Prod.mk.injEq] at h; obtain ⟨rfl, rfl, rfl⟩ := h; rw [if_neg he]; exact hq
    · rename_i hno
      refine ⟨k, e, A', H', h, ?_⟩
      cases e with
      | exit id' => exact (hno _ _ _ h).elim
      | normal => exact hq
      | ret => exact hq
theorem W_scope {c : Code} : CodeW E (.scope c) A H Q ↔ CodeW E c A H Q := by
  refine ⟨fun ⟨k, e, A', H', h, hq⟩ => ?_, w_scope⟩
  cases k with
  | zero => cases h
  | succ k => exact ⟨k, e, A', H', by simpa only [exec] using h, hq⟩
theorem W_region {id : Nat} {ops : Array Oper} : CodeW E (.region id ops false) A H Q ↔ OpsW E ops ops.toList A H (Q .normal) := by
  refine ⟨fun ⟨k, e, A', H', h, hq⟩ => ?_, w_region⟩
  cases k with
  | zero => cases h
  | succ k =>
    simp only [exec, Bool.false_eq_true, if_false, Option.map_eq_some_iff, Prod.mk.injEq] at h
    obtain ⟨⟨A1, H1⟩, h1, rfl, rfl, rfl⟩ := h
    exact ⟨k, _, _, h1, hq⟩
theorem W_draw {id : Nat} {ops : Array Oper} : CodeW E (.region id ops true) A H Q ↔ TrW E ops ops.toList A H fun tr => (floatPairs ops).all (floatOk ops tr) = true ∧ ∃ A' H', tr.getLast? = some (A', H') ∧ Q .normal A' H' := by
  refine ⟨fun ⟨k, e, A', H', h, hq⟩ => ?_, w_draw⟩
  cases k with
  | zero => cases h
  | succ k =>
    simp only [exec, if_true, Option.map_eq_some_iff, Prod.mk.injEq] at h
    obtain ⟨⟨A1, H1⟩, h1, rfl, rfl, rfl⟩ := h
    unfold runDraw at h1
    split at h1
    · rename_i tr htr
      split at h1
      · rename_i hf; exact ⟨k, tr, htr, hf, _, _, h1, hq⟩
      · cases h1
    · cases h1

/-! operations -/
/-- what an operation leaves -/
def afterOp (E : Env) (r : Option ARes) (H : AHeap) (K : Value → AHeap → Prop) : Prop :=
  match r with
  | some (.val v H') => K v H'
  | some (.call f args) => CallW E f args H K
  | none => False
theorem after_val {v : Value} {H' : AHeap} {K : Value → AHeap → Prop} : afterOp E (some (.val v H')) H K ↔ K v H' := Iff.rfl
theorem after_call {f : Nat} {args : List Value} {K : Value → AHeap → Prop} : afterOp E (some (.call f args)) H K ↔ CallW E f args H K := Iff.rfl
theorem after_vres {o : Option Value} {v : Value} {K : Value → AHeap → Prop} (h : o = some v) : afterOp E (vres H o) H K ↔ K v H := by subst h; exact Iff.rfl
section
variable {all : Array Oper} {l : List Oper} {K : List Value → AHeap → Prop}
theorem O_nil : OpsW E all [] A H K ↔ K A H := by
  refine ⟨fun ⟨k, A', H', h, hq⟩ => ?_, o_nil⟩
  simp only [runOps, Option.some.injEq, Prod.mk.injEq] at h; obtain ⟨rfl, rfl⟩ := h; exact hq
theorem O_cons {o : Oper} : OpsW E all (o :: l) A H K ↔ if Region.wanted o (ayield all A) then afterOp E (aop E A H o.op) H (fun v H' => OpsW E all l (aput A o.dst v) H' K) else OpsW E all l (aput A o.dst undef) H K := by
  constructor
  · rintro ⟨k, A', H', h, hq⟩
    simp only [runOps, runOp] at h
    split
    · rename_i hw
      rw [if_pos hw] at h
      cases hop : aop E A H o.op with
      | none => simp [hop] at h
      | some r =>
        cases r with
        | val v H1 => simp only [hop] at h; exact ⟨k, A', H', h, hq⟩
        | call f args =>
          simp only [hop] at h
          cases hc : callF E (exec E k) f args H with
          | none => simp [hc] at h
          | some p => simp only [hc] at h; exact ⟨k, p.1, p.2, hc, k, A', H', h, hq⟩
    · rename_i hw
      rw [if_neg hw] at h
      exact ⟨k, A', H', h, hq⟩
  · intro h
    split at h
    · rename_i hw
      cases hop : aop E A H o.op with
      | none => rw [hop] at h; exact h.elim
      | some r =>
        rw [hop] at h
        cases r with
        | val v H1 => exact o_val hw hop h
        | call f args => exact o_call hw hop h
    · rename_i hw
      exact o_not (by simpa using hw) h
/-- what comes behind an operation -/
def opK (E : Env) (all : Array Oper) (dst : Option Tmp) (l : List Oper) (A : List Value) (K : List Value → AHeap → Prop) (v : Value) (H : AHeap) : Prop := OpsW E all l (aput A dst v) H K
theorem K_op {dst : Option Tmp} {v : Value} : opK E all dst l A K v H ↔ OpsW E all l (aput A dst v) H K := Iff.rfl
/-- without a guard -/
theorem O_op {dst : Option Tmp} {op : Op} {ty : TypeId} {pos : String} {after : Array Edge} : OpsW E all (⟨dst, op, ty, pos, after, none⟩ :: l) A H K ↔ afterOp E (aop E A H op) H (opK E all dst l A K) := by
  rw [O_cons]; simp [Region.wanted]; rfl
theorem O_guard {dst : Option Tmp} {op : Op} {ty : TypeId} {pos : String} {after : Array Edge} {g : Nat} {b : Bool} : OpsW E all (⟨dst, op, ty, pos, after, some (g, b)⟩ :: l) A H K ↔
    if ayield all A g == some b then afterOp E (aop E A H op) H (opK E all dst l A K) else OpsW E all l (aput A dst undef) H K := by
  rw [O_cons]; rfl
end

/-- where a function's body ends -/
def retQ (E : Env) (rs : List ResultVar) (Q : Value → AHeap → Prop) (e : AExit) (A : List Value) (H : AHeap) : Prop :=
  match e with
  | .exit _ => False
  | _ => ∃ vs, results E A H rs = some vs ∧ Q (oneOf vs) H
theorem W_call {f : Nat} {args : List Value} {fn : Func} {c : Code} {n : Nat} {rs : List ResultVar} {Q : Value → AHeap → Prop} (hs : E.sp f = none) (hf : E.fn.get f = some fn) (hb : fn.body = some c) (hn : fn.ntmps = n) (hr : fn.results.toList = rs)
    (hl : args.length ≤ n) : CallW E f args H Q ↔ CodeW E c (L n (ofL args)) H (retQ E rs Q) := by
  subst hn; subst hr
  rw [← L_ofL hl]
  refine ⟨fun ⟨k, r, H', h, hq⟩ => ?_, fun h => w_call hs hf hb (h.mono fun e A' H' h => ?_)⟩
  · simp only [callF, hs, hf, hb] at h
    split at h
    · cases h
    · rename_i e A' H1 hno hx
      simp only [Option.map_eq_some_iff, Prod.mk.injEq] at h
      obtain ⟨vs, h1, rfl, rfl⟩ := h
      refine ⟨k, e, A', H1, hx, ?_⟩
      cases e with
      | exit id => exact (hno _ rfl).elim
      | normal => exact ⟨vs, h1, hq⟩
      | ret => exact ⟨vs, h1, hq⟩
    · cases h
  · cases e <;> exact h

theorem thenQ_normal {K : List Value → AHeap → Prop} : thenQ Q K .normal A H ↔ K A H := Iff.rfl
theorem thenQ_exit {K : List Value → AHeap → Prop} {id : Nat} : thenQ Q K (.exit id) A H ↔ Q (.exit id) A H := Iff.rfl
theorem thenQ_ret {K : List Value → AHeap → Prop} : thenQ Q K .ret A H ↔ Q .ret A H := Iff.rfl
theorem blockQ_normal {id : Nat} : blockQ id Q .normal A H ↔ Q .normal A H := Iff.rfl
theorem blockQ_ret {id : Nat} : blockQ id Q .ret A H ↔ Q .ret A H := Iff.rfl
theorem blockQ_exit {id id' : Nat} : blockQ id Q (.exit id') A H ↔ if id' = id then Q .normal A H else Q (.exit id') A H := Iff.rfl
theorem retQ_normal {rs : List ResultVar} {Q : Value → AHeap → Prop} : retQ E rs Q .normal A H ↔ ∃ vs, results E A H rs = some vs ∧ Q (oneOf vs) H := Iff.rfl
theorem retQ_ret {rs : List ResultVar} {Q : Value → AHeap → Prop} : retQ E rs Q .ret A H ↔ ∃ vs, results E A H rs = some vs ∧ Q (oneOf vs) H := Iff.rfl

/-- a loop over temporaries -/
theorem exec_length : ∀ {k : Nat} {c : Code} {A : List Value} {H : AHeap} {e : AExit} {A' : List Value} {H' : AHeap}, exec E k c A H = some (e, A', H') → A'.length = A.length := by
  have hops : ∀ {call : Call} {all : Array Oper} {l : List Oper} {A : List Value} {H : AHeap} {A' : List Value} {H' : AHeap}, runOps E call all l A H = some (A', H') → A'.length = A.length := by
    intro call all l
    induction l with
    | nil => intro A H A' H' h; simp only [runOps, Option.some.injEq, Prod.mk.injEq] at h; rw [h.1]
    | cons o l ih =>
      intro A H A' H' h
      simp only [runOps] at h
      split at h
      · rename_i A1 H1 h1
        obtain ⟨v, hv⟩ := (came h1).put
        rw [ih h, hv, aput_length]
      · cases h
  intro k
  induction k with
  | zero => intro c A H e A' H' h; cases h
  | succ k ih =>
    intro c A H e A' H' h
    cases c <;> simp only [exec] at h <;> try (cases h; done)
    case skip => simp only [Option.some.injEq, Prod.mk.injEq] at h; rw [h.2.1]
    case label => simp only [Option.some.injEq, Prod.mk.injEq] at h; rw [h.2.1]
    case exit => simp only [Option.some.injEq, Prod.mk.injEq] at h; rw [h.2.1]
    case ret => simp only [Option.some.injEq, Prod.mk.injEq] at h; rw [h.2.1]
    case seq a b =>
      split at h
      · rename_i h1; rw [ih h, ih h1]
      · exact ih h
    case cond x a b =>
      split at h
      · exact ih h
      · exact ih h
      · cases h
    case block id c =>
      split at h
      · rename_i h1
        split at h
        · simp only [Option.some.injEq, Prod.mk.injEq] at h; rw [← h.2.1, ih h1]
        · simp only [Option.some.injEq, Prod.mk.injEq] at h; rw [← h.2.1, ih h1]
      · exact ih h
    case loop c =>
      split at h
      · rename_i h1; rw [ih h, ih h1]
      · exact ih h
    case scope c => exact ih h
    case region id ops draw =>
      simp only [Option.map_eq_some_iff, Prod.mk.injEq] at h
      obtain ⟨⟨A1, H1⟩, h1, _, rfl, rfl⟩ := h
      cases draw with
      | false => exact hops (by simpa using h1)
      | true =>
        have h1 : runDraw E (callF E (exec E k)) ops A H = some (A1, H1) := by simpa using h1
        unfold runDraw at h1
        split at h1
        rotate_left
        · cases h1
        rename_i tr htr
        split at h1
        rotate_left
        · cases h1
        have : ∀ {l : List Oper} {A : List Value} {H : AHeap} {tr : List (List Value × AHeap)} {p : List Value × AHeap}, runTr E (callF E (exec E k)) ops l A H = some tr → tr.getLast? = some p → p.1.length = A.length := by
          intro l
          induction l with
          | nil => intro A H tr p h hp; simp only [runTr, Option.some.injEq] at h; subst h; simp at hp; rw [← hp]
          | cons o l ih2 =>
            intro A H tr p h hp
            simp only [runTr] at h
            split at h
            · rename_i A2 H2 h2
              simp only [Option.map_eq_some_iff] at h
              obtain ⟨tr1, h3, h4⟩ := h
              subst h4
              have hl := (runTr_spec _ _ _ _ h3).1
              obtain ⟨v, hv⟩ := (came h2).put
              have : tr1.getLast? = some p := by
                cases tr1 with
                | nil => simp at hl
                | cons q qs => simpa [List.getLast?_cons_cons] using hp
              rw [ih2 h3 this, hv, aput_length]
            · cases h
        exact this htr h1
/-- a loop, by an invariant on its temporaries and on the heap, that goes down -/
theorem W_loop {c : Code} {n : Nat} {f : Nat → Value} (I : (Nat → Value) → AHeap → Prop) (μ : (Nat → Value) → AHeap → Nat) (h0 : I f H)
    (h : ∀ f H, I f H → CodeW E c (L n f) H (thenQ Q fun A' H' => ∃ f', A' = L n f' ∧ I f' H' ∧ μ f' H' < μ f H)) : CodeW E (.loop c) (L n f) H Q := by
  have : ∀ m f H, μ f H = m → I f H → CodeW E (.loop c) (L n f) H Q := by
    intro m
    induction m using Nat.strongRecOn with
    | ind m ih =>
      intro f H hm hI
      refine w_loop ((h f H hI).mono fun e A' H' hq => ?_)
      cases e with
      | normal => obtain ⟨f', rfl, h1, h2⟩ := hq; exact ih _ (by omega) f' H' rfl h1
      | exit id => exact hq
      | ret => exact hq
  exact this _ f H rfl h0

end
end AbsYtlmcjfnignbdoaa
