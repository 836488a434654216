/-
  A region with reads that float, for the simplifier.
-/
import Derived.Test.YtlmcjfnignbdoaaANorm
namespace AbsYtlmcjfnignbdoaa
set_option linter.unusedVariables false
set_option linter.unusedSimpArgs false
set_option linter.unusedSectionVars false
open Go
mutual
theorem veq_refl : ∀ (x : Value), veq x x = true
  | .bool a => by simp [veq]
  | .int k a => by simp [veq]
  | .float k a => by simp [veq]
  | .complex k a c => by simp [veq]
  | .string a => by simp [veq]
  | .pointer a => by simp [veq]
  | .slice a n c => by simp [veq]
  | .map a => by simp [veq]
  | .chan a => by simp [veq]
  | .func f xs ys => by simp [veq, veqA_refl xs, veqA_refl ys]
  | .nilFunc => by simp [veq]
  | .iface t x => by simp [veq, veq_refl x]
  | .nilIface => by simp [veq]
  | .agg xs => by simp [veq, veqA_refl xs]
  | .tuple xs => by simp [veq, veqA_refl xs]
theorem veqA_refl : ∀ (x : Array Value), veqA x x = true
  | ⟨xs⟩ => by rw [veqA]; exact veqL_refl xs
theorem veqL_refl : ∀ (x : List Value), veqL x x = true
  | [] => by simp [veqL]
  | x :: xs => by simp [veqL, veq_refl x, veqL_refl xs]
end
theorem meqL_refl : ∀ (x : List MapEntry), meqL x x = true
  | [] => by simp [meqL]
  | x :: xs => by simp [meqL, meq, veq_refl, meqL_refl xs]
theorem oeq_refl (x : AObj) : oeq x x = true := by cases x <;> simp [oeq, veqL_refl, meqL_refl]
theorem oeq_of {x y : AObj} (h : y = x) : oeq x y = true := by subst h; exact oeq_refl _

section
variable {E : Env} {A : List Value} {H : AHeap} {all : Array Oper} {l : List Oper} {Q : List (List Value × AHeap) → Prop}
def consQ (s : List Value × AHeap) (Q : List (List Value × AHeap) → Prop) (tr : List (List Value × AHeap)) : Prop := Q (s :: tr)
theorem consQ_iff {s : List Value × AHeap} {tr : List (List Value × AHeap)} : consQ s Q tr ↔ Q (s :: tr) := Iff.rfl
def trK (E : Env) (all : Array Oper) (dst : Option Tmp) (l : List Oper) (A : List Value) (H : AHeap) (Q : List (List Value × AHeap) → Prop) (v : Value) (H' : AHeap) : Prop := TrW E all l (aput A dst v) H' (consQ (A, H) Q)
theorem trK_iff {dst : Option Tmp} {v : Value} {H' : AHeap} : trK E all dst l A H Q v H' ↔ TrW E all l (aput A dst v) H' (consQ (A, H) Q) := Iff.rfl
theorem T_nil : TrW E all [] A H Q ↔ Q [(A, H)] := by
  refine ⟨fun ⟨k, tr, h, hq⟩ => ?_, fun h => ⟨0, _, rfl, h⟩⟩
  simp only [runTr, Option.some.injEq] at h; subst h; exact hq
theorem T_cons {o : Oper} : TrW E all (o :: l) A H Q ↔ if Region.wanted o (ayield all A) then afterOp E (aop E A H o.op) H (trK E all o.dst l A H Q) else TrW E all l (aput A o.dst undef) H (consQ (A, H) Q) := by
  constructor
  · rintro ⟨k, tr, h, hq⟩
    simp only [runTr, runOp] at h
    split
    · rename_i hw
      rw [if_pos hw] at h
      cases hop : aop E A H o.op with
      | none => simp [hop] at h
      | some r =>
        cases r with
        | val v H1 =>
          simp only [hop, Option.map_eq_some_iff] at h
          obtain ⟨t, h1, rfl⟩ := h
          exact ⟨k, t, h1, hq⟩
        | call f args =>
          simp only [hop] at h
          cases hc : callF E (exec E k) f args H with
          | none => simp [hc] at h
          | some p =>
            simp only [hc, Option.map_eq_some_iff] at h
            obtain ⟨t, h1, rfl⟩ := h
            exact ⟨k, p.1, p.2, hc, k, t, h1, hq⟩
    · rename_i hw
      rw [if_neg hw] at h
      simp only [Option.map_eq_some_iff] at h
      obtain ⟨t, h1, rfl⟩ := h
      exact ⟨k, t, h1, hq⟩
  · intro h
    split at h
    · rename_i hw
      cases hop : aop E A H o.op with
      | none => rw [hop] at h; exact h.elim
      | some r =>
        rw [hop] at h
        cases r with
        | val v H1 =>
          obtain ⟨k, t, h1, hq⟩ := h
          exact ⟨k, _, by simp only [runTr, runOp, hw, if_true, hop, h1, Option.map_some], hq⟩
        | call f args =>
          obtain ⟨k, v, H1, h1, m, t, h2, hq⟩ := h
          have e1 := callF_mono (exec_le (E := E) (show k ≤ k + m by omega)) _ _ _ _ h1
          have e2 := runTr_mono (callF_mono (exec_le (E := E) (show m ≤ k + m by omega))) h2
          exact ⟨k + m, _, by simp only [runTr, runOp, hw, if_true, hop, e1, e2, Option.map_some], hq⟩
    · rename_i hw
      obtain ⟨k, t, h1, hq⟩ := h
      exact ⟨k, _, by simp only [runTr, runOp, hw, Bool.false_eq_true, if_false, h1, Option.map_some], hq⟩
theorem T_op {dst : Option Tmp} {op : Op} {ty : TypeId} {pos : String} {after : Array Edge} : TrW E all (⟨dst, op, ty, pos, after, none⟩ :: l) A H Q ↔ afterOp E (aop E A H op) H (trK E all dst l A H Q) := by
  rw [T_cons]; simp [Region.wanted]
def guardT (E : Env) (y : Option Bool) (b : Bool) (op : Op) (all : Array Oper) (dst : Option Tmp) (l : List Oper) (A : List Value) (H : AHeap) (Q : List (List Value × AHeap) → Prop) : Prop :=
  if y == some b then afterOp E (aop E A H op) H (trK E all dst l A H Q) else TrW E all l (aput A dst undef) H (consQ (A, H) Q)
theorem T_guard {dst : Option Tmp} {op : Op} {ty : TypeId} {pos : String} {after : Array Edge} {g : Nat} {b : Bool} : TrW E all (⟨dst, op, ty, pos, after, some (g, b)⟩ :: l) A H Q ↔ guardT E (ayield all A g) b op all dst l A H Q := by
  rw [T_cons]; rfl
theorem GT_true {op : Op} {dst : Option Tmp} {b : Bool} : guardT E (some b) b op all dst l A H Q ↔ afterOp E (aop E A H op) H (trK E all dst l A H Q) := by simp [guardT]
theorem GT_tf {op : Op} {dst : Option Tmp} : guardT E (some true) false op all dst l A H Q ↔ TrW E all l (aput A dst undef) H (consQ (A, H) Q) := by simp [guardT]
theorem GT_ft {op : Op} {dst : Option Tmp} : guardT E (some false) true op all dst l A H Q ↔ TrW E all l (aput A dst undef) H (consQ (A, H) Q) := by simp [guardT]
/-- the end of a region that draws -/
def drawQ (ops : Array Oper) (Q : AExit → List Value → AHeap → Prop) (tr : List (List Value × AHeap)) : Prop := (floatPairs ops).all (floatOk ops tr) = true ∧ ∃ A' H', tr.getLast? = some (A', H') ∧ Q .normal A' H'
theorem W_drawT {id : Nat} {ops : Array Oper} {Q : AExit → List Value → AHeap → Prop} : CodeW E (.region id ops true) A H Q ↔ TrW E ops ops.toList A H (drawQ ops Q) := W_draw
theorem drawQ_of {ops : Array Oper} {Q : AExit → List Value → AHeap → Prop} {tr : List (List Value × AHeap)} {fl : List (Nat × Nat)} (hf : floatPairs ops = fl) (h : fl.all (floatOk ops tr) = true ∧ ∃ A' H', tr.getLast? = some (A', H') ∧ Q .normal A' H') : drawQ ops Q tr := by
  unfold drawQ; rw [hf]; exact h
end
end AbsYtlmcjfnignbdoaa
