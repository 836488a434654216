/-
  A program's environment: what is asked of it, so that the kernel can say it.
-/
import Derived.Test.YtlmcjfnignbdoaaAExec
namespace AbsYtlmcjfnignbdoaa
set_option linter.unusedVariables false
set_option linter.unusedSimpArgs false
set_option linter.unusedSectionVars false
open Go

namespace Tr
variable {α : Type}
def depthOk : Nat → Tr α → Bool
  | _, lf => true
  | 0, nd .. => false
  | d + 1, nd _ l r => depthOk d l && depthOk d r
theorem getF_deep : ∀ (d : Nat) (t : Tr α) (k n : Nat), depthOk d t = true → 2 ^ d ≤ n + 1 → getF k t n = none
  | d, lf, k, n, _, _ => getF_lf k n
  | 0, nd .., k, n, h, _ => by simp [depthOk] at h
  | d + 1, nd o l r, k, n, h, hn => by
    simp only [depthOk, Bool.and_eq_true] at h
    cases k with
    | zero => rfl
    | succ k =>
      have hp : 2 ^ (d + 1) = 2 * 2 ^ d := by rw [Nat.pow_succ]; omega
      have h1 : 0 < 2 ^ d := Nat.pos_of_ne_zero (by simp)
      simp only [getF]
      have h0 : Nat.beq n 0 = false := by
        cases hb : Nat.beq n 0 with
        | false => rfl
        | true => have := Nat.eq_of_beq_eq_true hb; omega
      rw [h0, cond_false]
      cases hb : Nat.beq (n % 2) 1 with
      | true =>
        have := Nat.eq_of_beq_eq_true hb
        rw [cond_true]; exact getF_deep d l k _ h.1 (by omega)
      | false =>
        have := Nat.ne_of_beq_eq_false hb
        rw [cond_false]; exact getF_deep d r k _ h.2 (by omega)
theorem get_deep {d : Nat} {t : Tr α} {n : Nat} (h : depthOk d t = true) (hn : 2 ^ d ≤ n + 1) : t.get n = none := getF_deep d t _ n h hn
end Tr

def tyCheck (P : Program) (ty : Tr TI) (n : Nat) : Bool := (List.range n).all fun t => match ty.get t with
  | none => true
  | some i => decide (mkTI P t = some i)

theorem tyOk_of {E : Env} (d : Nat) (h1 : E.ty.depthOk d = true) (h2 : tyCheck E.P E.ty (2 ^ d) = true) : TyOk E where
  ty t i hi := by
    rcases Nat.lt_or_ge t (2 ^ d) with h | h
    · simp only [tyCheck, List.all_eq_true, List.mem_range] at h2
      have := h2 t h
      rw [hi] at this
      simpa using this
    · rw [Tr.get_deep h1 (by omega)] at hi; cases hi

def fnCheck (ng : Nat) (fn : Tr Func) (n : Nat) : Bool := (List.range n).all fun f => match fn.get f with
  | none => true
  | some F => !(F.name == "runtime.NumGoroutine") && (match F.body with
    | some c => codeOk ng c
    | none => true)

theorem fnOk_of {E : Env} (d : Nat) (h1 : E.fn.depthOk d = true) (h2 : fnCheck E.ng E.fn (2 ^ d) = true)
    (h3 : (List.range (2 ^ d)).map E.fn.get = (List.range (2 ^ d)).map fun f => if (E.fn.get f).isSome then E.P.funcs[f]? else none) :
    ∀ f F, E.fn.get f = some F → FnOk E f F := by
  intro f F hf
  rcases Nat.lt_or_ge f (2 ^ d) with h | h
  · simp only [fnCheck, List.all_eq_true, List.mem_range] at h2
    have h4 := h2 f h
    rw [hf] at h4
    simp only [Bool.and_eq_true, Bool.not_eq_true'] at h4
    have h5 := congrArg (fun l => l[f]?) h3
    simp [h, hf] at h5
    refine ⟨h5.symm, h4.1, fun c hc => ?_⟩
    have := h4.2
    rw [hc] at this; exact this
  · rw [Tr.get_deep h1 (by omega)] at hf; cases hf

end AbsYtlmcjfnignbdoaa
