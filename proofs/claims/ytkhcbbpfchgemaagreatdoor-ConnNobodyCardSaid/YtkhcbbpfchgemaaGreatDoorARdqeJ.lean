/-
  Parts of a law's proof.
-/
import Derived.Test.YtkhcbbpfchgemaaGreatDoorAFwqdJ
namespace Go.Proofs.YtkhcbbpfchgemaaGreatDoor.AbsA
open Go AbsYtkhcbbpfchgemaaGreatDoor Abs
set_option maxRecDepth 100000
set_option maxHeartbeats 4000000
set_option linter.unusedSimpArgs false
set_option linter.unusedVariables false
section
variable {σ : AHeap} {r p : Nat} {s : ByteArray} {Q : Value → AHeap → Prop}
end
theorem Kept.none {σ σ' : AHeap} {fp fp' : List Nat} (h : Kept σ fp σ' fp') : Kept σ fp σ' [] := ⟨h.get,fun _ h => by cases h⟩
theorem Kept.wid {σ σ' : AHeap} {fp fp' gp gp' : List Nat} (k : Kept σ fp σ' fp') (h1 : ∀ b ∈ fp,b ∈ gp) (h2 : ∀ b ∈ gp',b ∈ fp' ∨ b ∈ gp) : Kept σ gp σ' gp' where
 get b hb hn := k.get b hb fun h => hn (h1 b h)
 new b hb := by
  rcases h2 b hb with h | h
  ·rcases k.new b h with h | h
   ·exact .inl (h1 b h)
   ·exact .inr h
  ·exact .inl h
theorem Kept.tmp {σ : AHeap} {c : Nat} {o o' : AObj} (hc : σ.get c = .dead) : Kept σ [] ((σ.set c o).set c o') [] := ((Kept.new' hc).trans (Kept.set (by simp))).wid (fun _ h => h) fun _ h => .inr h
theorem Kept.le {σ σ' : AHeap} {fp : List Nat} (k : Kept σ [] σ' fp) : Le σ σ' := fun b hb => k.get b hb (by simp)
section
variable {α : Type} {enc : α → List Value} {sz : Nat} {σ σ' : AHeap} {v : Value} {l : List α} {fp : List Nat}
end
def resC (v : Option Value) (r : Option (List Value)) : Option (List Value) := match v,r with
 | some v,some r => some (v :: r)
 | _,_ => none
theorem res_cellc {E : Env} {H : AHeap} {n : Nat} {f : Nat → Value} {a t : Nat} {r : List ResultVar} : AbsYtkhcbbpfchgemaaGreatDoor.results E (L n f) H (.cell a t :: r) = resC (aload E H t (if a < n then f a else undef)) (AbsYtkhcbbpfchgemaaGreatDoor.results E (L n f) H r) := by
 have e : (L n f).getD a undef = if a < n then f a else undef := aev_tmp (t := a)
 simp only [AbsYtkhcbbpfchgemaaGreatDoor.results,e]
 cases aload E H t (if a < n then f a else undef) <;> cases AbsYtkhcbbpfchgemaaGreatDoor.results E (L n f) H r <;> rfl
theorem resC_some {v : Value} {r : List Value} : resC (some v) (some r) = some (v :: r) := rfl
def lastP (K : List Value → AHeap → Prop) : List (List Value × AHeap) → Prop
 | [] => False
 | [s] => K s.1 s.2
 | _ :: s :: l => lastP K (s :: l)
theorem lastP_cc {K : List Value → AHeap → Prop} {a b : List Value × AHeap} {l : List (List Value × AHeap)} : lastP K (a :: b :: l) = lastP K (b :: l) := rfl
theorem lastP_one {K : List Value → AHeap → Prop} {A : List Value} {H : AHeap} : lastP K [(A,H)] = K A H := rfl
theorem lastP_get {K : List Value → AHeap → Prop} : ∀ {l : List (List Value × AHeap)},lastP K l → ∃ A H,l.getLast? = some (A,H) ∧ K A H
 | [],h => h.elim
 | [(A,H)],h => ⟨A,H,rfl,h⟩
 | _ :: s :: l,h => by
  obtain ⟨A,H,h1,h2⟩ := lastP_get (l := s :: l) h
  exact ⟨A,H,by rw [List.getLast?_cons_cons]; exact h1,h2⟩
theorem drawS_l {ops : Array Oper} {Q : AExit → List Value → AHeap → Prop} {tr : List (List Value × AHeap)} {fl : List (Nat × Nat)} (hf : floatPairs ops = fl) (h1 : fl.all (floatS B ops tr) = true) (h2 : lastP (Q .normal) tr) : drawS B ops Q tr := by
 obtain ⟨A,H,h3,h4⟩ := lastP_get h2
 exact drawS_of hf ⟨h1,A,H,h3,h4⟩
set_option maxHeartbeats 2000000
structure Pr where
 id : Int
 n : Int
 s : ByteArray
 v : ByteArray
deriving DecidableEq
def propC (p : Pr) : List Value := [.int .i64 p.id,.int .i64 p.n,.string p.s,.string p.v]
end Go.Proofs.YtkhcbbpfchgemaaGreatDoor.AbsA
