/-
  A part of a law's proof.
-/
import Derived.Test.YtccimdfmddomaaaDoorAFwqe
namespace Go.Proofs.YtccimdfmddomaaaDoor.AbsA
open Go AbsYtccimdfmddomaaaDoor Abs
set_option maxRecDepth 100000
set_option maxHeartbeats 4000000
set_option linter.unusedSimpArgs false
set_option linter.unusedVariables false
theorem str_add {σ : AHeap} {t : Nat} {cs : Bool} {a b : ByteArray} (h : a.size + b.size ≤ 1000000000) : abin E σ .add t cs (.string a) (.string b) = some (.string (a ++ b)) := by
  simp only [abin, astr]; rw [if_pos (by omega)]
theorem conv_sl {σ : AHeap} {K : Value → AHeap → Prop} {b n c : Nat} {ex : Option Nat} {l : List Nat} {wr : Bool} {sz : Nat} (hg : σ.get b = .cells (u8s l) wr sz) (hn : n = l.length) (hq : K (.string (str l)) σ) : afterOpS E B (some (convS E σ 70 9 (.slice (some ⟨b, 0, ex⟩) n c))) σ K := by
  have hl : (u8s l).length = l.length := by simp [u8s]
  intro b' hb
  refine ⟨.string (str l), σ.resize b', ?_, hq⟩
  simp only [aconvert, ty70, ty9, ty5, takeCells, get_resize, hg]
  rw [if_pos (by rw [hl]; omega)]
  simp only [List.drop_zero]
  rw [List.take_of_length_le (by rw [hl]; omega), mapM_u8]
  simp [str]
def resC (v : Option Value) (r : Option (List Value)) : Option (List Value) := match v, r with
  | some v, some r => some (v :: r)
  | _, _ => none
theorem res_cellc {E : Env} {H : AHeap} {n : Nat} {f : Nat → Value} {a t : Nat} {r : List ResultVar} : AbsYtccimdfmddomaaaDoor.results E (L n f) H (.cell a t :: r) = resC (aload E H t (if a < n then f a else undef)) (AbsYtccimdfmddomaaaDoor.results E (L n f) H r) := by
  have e : (L n f).getD a undef = if a < n then f a else undef := aev_tmp (t := a)
  simp only [AbsYtccimdfmddomaaaDoor.results, e]
  cases aload E H t (if a < n then f a else undef) <;> cases AbsYtccimdfmddomaaaDoor.results E (L n f) H r <;> rfl
theorem resC_some {v : Value} {r : List Value} : resC (some v) (some r) = some (v :: r) := rfl
/-- of the last of some states -/
def lastP (K : List Value → AHeap → Prop) : List (List Value × AHeap) → Prop
  | [] => False
  | [s] => K s.1 s.2
  | _ :: s :: l => lastP K (s :: l)
theorem lastP_cc {K : List Value → AHeap → Prop} {a b : List Value × AHeap} {l : List (List Value × AHeap)} : lastP K (a :: b :: l) = lastP K (b :: l) := rfl
theorem lastP_one {K : List Value → AHeap → Prop} {A : List Value} {H : AHeap} : lastP K [(A, H)] = K A H := rfl
theorem lastP_get {K : List Value → AHeap → Prop} : ∀ {l : List (List Value × AHeap)}, lastP K l → ∃ A H, l.getLast? = some (A, H) ∧ K A H
  | [], h => h.elim
  | [(A, H)], h => ⟨A, H, rfl, h⟩
  | _ :: s :: l, h => by
    obtain ⟨A, H, h1, h2⟩ := lastP_get (l := s :: l) h
    exact ⟨A, H, by rw [List.getLast?_cons_cons]; exact h1, h2⟩
theorem drawS_l {ops : Array Oper} {Q : AExit → List Value → AHeap → Prop} {tr : List (List Value × AHeap)} {fl : List (Nat × Nat)} (hf : floatPairs ops = fl) (h1 : fl.all (floatS B ops tr) = true) (h2 : lastP (Q .normal) tr) : drawS B ops Q tr := by
  obtain ⟨A, H, h3, h4⟩ := lastP_get h2
  exact drawS_of hf ⟨h1, A, H, h3, h4⟩
end Go.Proofs.YtccimdfmddomaaaDoor.AbsA
