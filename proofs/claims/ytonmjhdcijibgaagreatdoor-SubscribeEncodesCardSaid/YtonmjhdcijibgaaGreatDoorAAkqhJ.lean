/-
  Parts of a law's proof.
-/
import Derived.Test.YtonmjhdcijibgaaGreatDoorAAkqcJ
import Derived.Test.YtonmjhdcijibgaaGreatDoorAPrqeJ
namespace Go.Proofs.YtonmjhdcijibgaaGreatDoor.AbsA
open Go AbsYtonmjhdcijibgaaGreatDoor Abs
set_option maxRecDepth 100000
set_option maxHeartbeats 8000000
set_option linter.unusedSimpArgs false
set_option linter.unusedVariables false
attribute [local irreducible] afterS afterOpS opSK OpsS TrS CodeS condS condW thenS thenQ guardS guardTS outS drawS trSK consS
theorem runW_k : ∀ {l : List Act} {b : ByteArray} {k q : Nat},runW b l = .inr (k,q) → k ≠ 0
 | [],b,k,q,h => by cases h
 | a :: l,b,k,q,h => by
  simp only [runW] at h
  cases ha : actW a with
  | inl m => rw [ha] at h; exact runW_k h
  | inr e =>
   obtain ⟨k',q'⟩ := e
   rw [ha] at h
   simp only [Sum.inr.injEq,Prod.mk.injEq] at h
   have := actW_err ha; omega
theorem encP_k {pl : Int} {l : List Pr} {k r a : Nat} (h : encP pl l = .error (k,r,a)) : k ≠ 0 := by
 unfold encP at h
 cases hc : chk pl [] l with
 | some e =>
  obtain ⟨k',r',a'⟩ := e
  rw [hc] at h
  simp only [Except.error.injEq,Prod.mk.injEq] at h
  have := chk_k hc; omega
 | none =>
  rw [hc] at h
  simp only at h
  cases hr : runW emp (l.flatMap actsP) with
  | inl c => rw [hr] at h; cases h
  | inr e =>
   obtain ⟨k',q'⟩ := e
   rw [hr] at h
   simp only [Except.error.injEq,Prod.mk.injEq] at h
   have := runW_k hr; omega
section
variable {σ : AHeap} {Q : Value → AHeap → Prop}
end
end Go.Proofs.YtonmjhdcijibgaaGreatDoor.AbsA
namespace Go.Proofs.YtonmjhdcijibgaaGreatDoor.AbsA
open Go AbsYtonmjhdcijibgaaGreatDoor Abs
set_option maxRecDepth 100000
set_option maxHeartbeats 2000000
set_option linter.unusedSimpArgs false
set_option linter.unusedVariables false
set_option maxHeartbeats 4000000
theorem numR_lt {s : ByteArray} {p k n q : Nat} (h : numR s p k = .ok (n,q)) : n < 256 ^ k := by
 unfold numR at h
 cases hb : rawR s p k with
 | error e => rw [hb] at h; cases h
 | ok a =>
  obtain ⟨b,q'⟩ := a
  rw [hb] at h
  simp only [Except.ok.injEq,Prod.mk.injEq] at h
  have h1 := (rawR_ok hb).2.2.2.2
  rw [Int.toNat_natCast] at h1
  rw [← h.1]
  have := beF_lt b b.size
  rw [h1] at this ⊢
  exact this
set_option maxHeartbeats 8000000
attribute [local irreducible] afterS afterOpS opSK OpsS TrS CodeS condS condW thenS thenQ guardS guardTS outS drawS trSK consS
inductive Parts {α : Type} (sz : Nat) (one : Nat → Except E3 (α × Nat)) : Nat → List α → Except E3 (List α) → Prop
 | done {p : Nat} {l : List α} (h : sz ≤ p) (hl : l ≠ []) : Parts sz one p l (.ok l)
 | none {p : Nat} (h : sz ≤ p) : Parts sz one p [] (.error (3,130,p))
 | many {p : Nat} {l : List α} (h : p < sz) (hl : l.length = 32) : Parts sz one p l (.error (4,149,p))
 | bad {p : Nat} {l : List α} {e : E3} (h : p < sz) (hl : l.length ≠ 32) (ho : one p = .error e) : Parts sz one p l (.error e)
 | step {p q : Nat} {l : List α} {x : α} {r : Except E3 (List α)} (h : p < sz) (hl : l.length ≠ 32) (ho : one p = .ok (x,q)) (hr : Parts sz one q (l ++ [x]) r) : Parts sz one p l r
theorem Parts.det {α : Type} {sz : Nat} {one : Nat → Except E3 (α × Nat)} {p : Nat} {l : List α} {r : Except E3 (List α)} (h : Parts sz one p l r) : ∀ {r'},Parts sz one p l r' → r = r' := by
 induction h with
 | done h hl =>
  intro r' h'
  cases h' with
  | done _ _ => rfl
  | none _ => exact absurd rfl hl
  | many h1 _ => omega
  | bad h1 _ _ => omega
  | step h1 _ _ _ => omega
 | none h =>
  intro r' h'
  cases h' with
  | done _ h1 => exact absurd rfl h1
  | none _ => rfl
  | many h1 _ => omega
  | bad h1 _ _ => omega
  | step h1 _ _ _ => omega
 | many h hl =>
  intro r' h'
  cases h' with
  | done h1 _ => omega
  | none h1 => omega
  | many _ _ => rfl
  | bad _ h1 _ => exact absurd hl h1
  | step _ h1 _ _ => exact absurd hl h1
 | bad h hl ho =>
  intro r' h'
  cases h' with
  | done h1 _ => omega
  | none h1 => omega
  | many _ h1 => exact absurd h1 hl
  | bad _ _ h1 => rw [ho] at h1; injection h1 with h1; rw [h1]
  | step _ _ h1 _ => rw [ho] at h1; cases h1
 | step h hl ho hr ih =>
  intro r' h'
  cases h' with
  | done h1 _ => omega
  | none h1 => omega
  | many _ h1 => exact absurd h1 hl
  | bad _ _ h1 => rw [ho] at h1; cases h1
  | step _ _ h1 h2 =>
   rw [ho] at h1
   simp only [Except.ok.injEq,Prod.mk.injEq] at h1
   obtain ⟨rfl,rfl⟩ := h1
   exact ih h2
theorem Parts.k {α : Type} {sz : Nat} {one : Nat → Except E3 (α × Nat)} (hone : ∀ p k r a,one p = .error (k,r,a) → k ≠ 0) {p : Nat} {l : List α} {r : Except E3 (List α)} (h : Parts sz one p l r) : ∀ k rr a,r = .error (k,rr,a) → k ≠ 0 := by
 induction h with
 | done h hl => intro k rr a hm; cases hm
 | none h => intro k rr a hm; simp only [Except.error.injEq,Prod.mk.injEq] at hm; omega
 | many h hl => intro k rr a hm; simp only [Except.error.injEq,Prod.mk.injEq] at hm; omega
 | bad h hl ho => intro k rr a hm; injection hm with hm; subst hm; exact hone _ _ _ _ ho
 | step h hl ho hr ih => exact ih
def codeO (kind : Int) (s : ByteArray) (p : Nat) : Except E3 (Int × Nat) := match numR s p 1 with
 | .ok (c,q) => if alw kind (c : Int) = true then .ok ((c : Int),q) else .error (2,129,p)
 | .error (k,q) => .error (k,129,q)
def headM : Nat → Except E3 (List Pr × Nat) → Except E3 (Nat × List Pr × Nat)
 | _,.error e => .error e
 | id,.ok (l,q) => .ok (id,l,q)
def HeadP (kind : Int) (s : ByteArray) (r : Except E3 (Nat × List Pr × Nat)) : Prop := match numR s 0 2 with
 | .error (k,q) => r = .error (k,129,q)
 | .ok (id,q) => if id = 0 then r = .error (3,130,0) else ∃ r',ReadP kind s q r' ∧ r = headM id r'
theorem HeadP.det {kind : Int} {s : ByteArray} {r r' : Except E3 (Nat × List Pr × Nat)} (h : HeadP kind s r) (h' : HeadP kind s r') : r = r' := by
 unfold HeadP at h h'
 cases hn : numR s 0 2 with
 | error e => obtain ⟨k,q⟩ := e; rw [hn] at h h'; exact h.trans h'.symm
 | ok a =>
  obtain ⟨id,q⟩ := a
  rw [hn] at h h'
  simp only at h h'
  split at h
  ·rename_i h1
   rw [if_pos h1] at h'
   exact h.trans h'.symm
  ·rename_i h1
   rw [if_neg h1] at h'
   obtain ⟨x,h3,rfl⟩ := h
   obtain ⟨y,h4,rfl⟩ := h'
   rw [h3.det h4]
theorem HeadP.k {kind : Int} {s : ByteArray} {k rr a : Nat} (h : HeadP kind s (.error (k,rr,a))) : k ≠ 0 := by
 unfold HeadP at h
 cases hn : numR s 0 2 with
 | error e =>
  obtain ⟨k',q⟩ := e
  rw [hn] at h
  simp only [Except.error.injEq,Prod.mk.injEq] at h
  have := numR_k hn; omega
 | ok b =>
  obtain ⟨id,q⟩ := b
  rw [hn] at h
  simp only at h
  split at h
  ·simp only [Except.error.injEq,Prod.mk.injEq] at h; omega
  ·obtain ⟨x,h3,h4⟩ := h
   cases x with
   | error e =>
    obtain ⟨k',r',a'⟩ := e
    simp only [headM,Except.error.injEq,Prod.mk.injEq] at h4
    have := ReadP_k h3; omega
   | ok l => cases h4
def mapE {α β : Type} (g : α → β) : Except E3 α → Except E3 β
 | .error e => .error e
 | .ok a => .ok (g a)
def codA (c : Int) : List Act := [⟨1,c,emp⟩]
theorem intC_frz' (a : Int) : frzL E.ng E.nb (intC a) = true := by simp [intC,frzL,frz]
section
variable {σ : AHeap} {Q : Value → AHeap → Prop}
theorem app_in {K : Value → AHeap → Prop} {v y : Value} {l xs : List Int} {fp : List Nat} (hv : DG intC 1 σ v l fp) (hx : DL intC 1 y xs) (hn : l.length + xs.length ≤ 1000000) (hq : ∀ σ' v' fp',Kept σ fp σ' fp' → DG intC 1 σ' v' (l ++ xs) fp' → K v' σ') :
  afterOpS E B (some (.any fun b => aappend E (σ.resize b) [52,52] [v,y])) σ K :=
 app_deep (by_ := 8) ty52 ty3 rfl (by omega) (by omega) ty52 rfl rfl (fun _ => rfl) intC_frz' (fun _ => rfl) hv hx (by omega) hq
end
theorem IsR.kept {σ σ' : AHeap} {r p : Nat} {s : ByteArray} {e : Value} {gp gp' : List Nat} (h : IsR σ r s p e) (k : Kept σ gp σ' gp') (hd : r ∉ gp) : IsR σ' r s p e := (k.at h (by simp) hd).1
theorem DG.nin {α : Type} {enc : α → List Value} {sz : Nat} {σ : AHeap} {v : Value} {l : List α} {fp : List Nat} {b z : Nat} {x : Value} {cs : List Value} {w : Bool} (h : DG enc sz σ v l fp) (hg : σ.get b = .cells (x :: cs) w z) : b ∉ fp := by
 rcases h with ⟨_,_,rfl⟩ | ⟨m,_,⟨_,rfl⟩ | ⟨t,_,h4,rfl⟩⟩
 ·simp
 ·simp
 ·intro hb
  obtain rfl := List.mem_singleton.1 hb
  rw [h4] at hg; cases hg
section
variable {σ : AHeap} {Q : Value → AHeap → Prop} {r q p : Nat} {s : ByteArray}
end
theorem Kept.add {σ σ' : AHeap} {fp fp' : List Nat} {y : Nat} {o : AObj} (k : Kept σ fp σ' fp') (hy : σ'.get y = .dead) : Kept σ fp (σ'.set y o) (y :: fp') where
 get b hb hn := by
  by_cases h : b = y
  ·subst h
   have := k.get b hb hn
   rw [hy] at this
   exact absurd this.symm hb
  ·rw [AHeap.get_set_ne _ _ (Ne.symm h)]; exact k.get b hb hn
 new b hb := by
  rcases List.mem_cons.1 hb with rfl | hb
  ·by_cases h1 : σ.get b = .dead
   ·exact .inr h1
   ·by_cases h2 : b ∈ fp
    ·exact .inl h2
    ·have := k.get b h1 h2
     rw [hy] at this
     exact absurd this.symm h1
  ·exact k.new b hb
section
variable {σ : AHeap} {Q : Value → AHeap → Prop} {r q p : Nat} {s : ByteArray}
end
end Go.Proofs.YtonmjhdcijibgaaGreatDoor.AbsA
