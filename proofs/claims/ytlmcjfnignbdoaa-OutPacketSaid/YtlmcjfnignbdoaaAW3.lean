/-
  What single operations come to, for the simplifier.
-/
import Derived.Test.YtlmcjfnignbdoaaAW2
namespace AbsYtlmcjfnignbdoaa
set_option linter.unusedVariables false
set_option linter.unusedSimpArgs false
set_option linter.unusedSectionVars false
open Go
theorem vres_some {H : AHeap} {v : Value} : vres H (some v) = some (.val v H) := rfl
theorem hres_some {v : Value} {H : AHeap} : hres (some (v, H)) = some (.val v H) := rfl
theorem ures_some {H : AHeap} : ures (some H) = some (.val undef H) := rfl
theorem abin_int {E : Env} {H : AHeap} {op : BinOp} {t : Nat} {cs : Bool} {k : IntKind} {a b : Int} (h : op ≠ .shl) (h' : op ≠ .shr) : abin E H op t cs (.int k a) (.int k b) = aint op k a b := by
  unfold abin
  cases op <;> first | exact absurd rfl h | exact absurd rfl h' | simp
theorem aint_add {k : IntKind} {a b : Int} : aint .add k a b = some (.int k (k.wrap (a + b))) := rfl
theorem aint_sub {k : IntKind} {a b : Int} : aint .sub k a b = some (.int k (k.wrap (a - b))) := rfl
theorem aint_mul {k : IntKind} {a b : Int} : aint .mul k a b = some (.int k (k.wrap (a * b))) := rfl
theorem aint_eql {k : IntKind} {a b : Int} : aint .eql k a b = some (.bool (decide (a = b))) := rfl
theorem aint_neq {k : IntKind} {a b : Int} : aint .neq k a b = some (.bool (decide (a ≠ b))) := by
  simp only [aint, bne]; congr 2; by_cases h : a = b <;> simp [h]
theorem aint_lss {k : IntKind} {a b : Int} : aint .lss k a b = some (.bool (decide (a < b))) := rfl
theorem aint_leq {k : IntKind} {a b : Int} : aint .leq k a b = some (.bool (decide (a ≤ b))) := rfl
theorem aint_gtr {k : IntKind} {a b : Int} : aint .gtr k a b = some (.bool (decide (b < a))) := rfl
theorem aint_geq {k : IntKind} {a b : Int} : aint .geq k a b = some (.bool (decide (b ≤ a))) := rfl
theorem res_nil {E : Env} {A : List Value} {H : AHeap} : results E A H [] = some [] := rfl
theorem res_tmp {E : Env} {n : Nat} {f : Nat → Value} {H : AHeap} {t : Nat} {rs : List ResultVar} : results E (L n f) H (.tmp t :: rs) = (results E (L n f) H rs).map fun r => (if t < n then f t else undef) :: r := by
  simp only [results]
  congr; funext r; congr
  exact aev_tmp (t := t)
theorem oneOf_one {v : Value} : oneOf [v] = v := rfl
theorem oneOf_two {v u : Value} : oneOf [v, u] = .tuple #[v, u] := rfl
theorem oneOf_three {v u x : Value} : oneOf [v, u, x] = .tuple #[v, u, x] := rfl
theorem ofL_zero {v : Value} {l : List Value} : ofL (v :: l) 0 = v := rfl
theorem ofL_succ {v : Value} {l : List Value} {t : Nat} : ofL (v :: l) (t + 1) = ofL l t := rfl
theorem ofL_nil {t : Nat} : ofL [] t = undef := rfl
theorem array_toList {α : Type} {l : List α} : (List.toArray l).toList = l := rfl
end AbsYtlmcjfnignbdoaa
