/-
  Parts of a law's proof.
-/
import Derived.Test.YtjkhhdknplelcaaGreatDoorABxqbJ
import Derived.Test.YtjkhhdknplelcaaGreatDoorAPraJ
namespace Go.Proofs.YtjkhhdknplelcaaGreatDoor.AbsA
open Go AbsYtjkhhdknplelcaaGreatDoor Abs
set_option maxRecDepth 100000
set_option maxHeartbeats 4000000
set_option linter.unusedSimpArgs false
set_option linter.unusedVariables false
attribute [local irreducible] afterS afterOpS opSK OpsS TrS CodeS condS condW thenS thenQ guardS guardTS outS drawS trSK consS
theorem ReadP.det {pl : Int} {s : ByteArray} {p : Nat} {r r' : Except (Nat × Nat × Nat) (List Pr × Nat)} (h : ReadP pl s p r) (h' : ReadP pl s p r') : r = r' := by
 unfold ReadP at h h'
 cases hv : varR s p with
 | error e => obtain ⟨k,q⟩ := e; rw [hv] at h h'; exact h.trans h'.symm
 | ok a =>
  obtain ⟨n,q⟩ := a
  rw [hv] at h h'
  simp only at h h'
  cases hw : rawR s q n with
  | error e => obtain ⟨k,q'⟩ := e; rw [hw] at h h'; exact h.trans h'.symm
  | ok b =>
   obtain ⟨all,q'⟩ := b
   rw [hw] at h h'
   simp only at h h'
   obtain ⟨x,h1,h2⟩ := h
   obtain ⟨y,h3,h4⟩ := h'
   obtain rfl := h1.det h3
   cases x with
   | error e => obtain ⟨k,rr,a⟩ := e; exact h2.trans h4.symm
   | ok l => exact h2.trans h4.symm
theorem TailA.det {kind : Int} {a q : Nat} {s : ByteArray} {r r' : Except E3 (Int × List Pr)} (h : TailA kind a s q r) (h' : TailA kind a s q r') : r = r' := by
 unfold TailA at h h'
 split at h
 ·rename_i h1
  rw [if_pos h1] at h'
  exact h.trans h'.symm
 ·rename_i h1
  rw [if_neg h1] at h'
  split at h
  ·rename_i h2
   rw [if_pos h2] at h'
   obtain ⟨x,h3,rfl⟩ := h
   obtain ⟨y,h4,rfl⟩ := h'
   rw [h3.det h4]
  ·rename_i h2
   rw [if_neg h2] at h'
   exact h.trans h'.symm
theorem MadeR.det {f : Int} {D : ByteArray → Except E3 Pk → Prop} (hD : ∀ b r r',D b r → D b r' → r = r') {w : ByteArray ⊕ (Nat × Nat)} {r r' : Except E3 (Int × ByteArray)} (h : MadeR f D w r) (h' : MadeR f D w r') : r = r' := by
 unfold MadeR at h h'
 cases w with
 | inr e => obtain ⟨k,q⟩ := e; exact h.trans h'.symm
 | inl b =>
  obtain ⟨x,h1,h2⟩ := h
  obtain ⟨y,h3,h4⟩ := h'
  obtain rfl := hD _ _ _ h1 h3
  cases x with
  | error e => exact h2.trans h4.symm
  | ok l => exact h2.trans h4.symm
theorem valueR_k {id : Int} {s : ByteArray} {p k q : Nat} (h : valueR id s p = .error (k,q)) : k ≠ 0 := by
 unfold valueR at h
 split at h
 ·cases h1 : textR s p with
  | error e =>
   obtain ⟨k',q'⟩ := e
   rw [h1] at h
   simp only [Except.error.injEq,Prod.mk.injEq] at h
   have := textR_k h1; omega
  | ok a =>
   obtain ⟨a,q1⟩ := a
   rw [h1] at h
   simp only at h
   cases h2 : textR s q1 with
   | error e =>
    obtain ⟨k',q'⟩ := e
    rw [h2] at h
    simp only [Except.error.injEq,Prod.mk.injEq] at h
    have := textR_k h2; omega
   | ok b => rw [h2] at h; cases h
 ·cases h1 : rdA (typI id) s p with
  | error e =>
   obtain ⟨k',q'⟩ := e
   rw [h1] at h
   simp only [Except.error.injEq,Prod.mk.injEq] at h
   have := rdA_k h1; omega
  | ok a => rw [h1] at h; cases h
theorem oneR_k {pl : Int} {s : ByteArray} {p k r a : Nat} {ahead : List Pr} (h : oneR pl s p ahead = .error (k,r,a)) : k ≠ 0 := by
 unfold oneR at h
 cases hv : varR s p with
 | error e =>
  obtain ⟨k',q'⟩ := e
  rw [hv] at h
  simp only [Except.error.injEq,Prod.mk.injEq] at h
  have := varR_k hv; omega
 | ok b =>
  obtain ⟨id,q1⟩ := b
  rw [hv] at h
  simp only at h
  cases hg : groundP pl ahead (id : Int) with
  | some e =>
   obtain ⟨k',r'⟩ := e
   rw [hg] at h
   simp only [Except.error.injEq,Prod.mk.injEq] at h
   have := groundP_k hg; omega
  | none =>
   rw [hg] at h
   simp only at h
   cases hw : valueR id s q1 with
   | error e =>
    obtain ⟨k',q'⟩ := e
    rw [hw] at h
    simp only [Except.error.injEq,Prod.mk.injEq] at h
    have := valueR_k hw; omega
   | ok b =>
    obtain ⟨y,q2⟩ := b
    rw [hw] at h
    simp only at h
    split at h
    ·cases h
    ·simp only [Except.error.injEq,Prod.mk.injEq] at h; omega
theorem AllP.k {pl : Int} {s : ByteArray} {p : Nat} {l : List Pr} {r : Except (Nat × Nat × Nat) (List Pr)} (h : AllP pl s p l r) : ∀ k rr a,r = .error (k,rr,a) → k ≠ 0 := by
 induction h with
 | nil h => intro k rr a hm; cases hm
 | bad h ho => intro k rr a hm; injection hm with hm; subst hm; exact oneR_k ho
 | step h ho hr ih => exact ih
theorem ReadP_k {pl : Int} {s : ByteArray} {p k rr a : Nat} (h : ReadP pl s p (.error (k,rr,a))) : k ≠ 0 := by
 unfold ReadP at h
 cases hv : varR s p with
 | error e =>
  obtain ⟨k',q⟩ := e
  rw [hv] at h
  simp only [Except.error.injEq,Prod.mk.injEq] at h
  have := varR_k hv; omega
 | ok b =>
  obtain ⟨n,q⟩ := b
  rw [hv] at h
  simp only at h
  cases hw : rawR s q n with
  | error e =>
   obtain ⟨k',q'⟩ := e
   rw [hw] at h
   simp only [Except.error.injEq,Prod.mk.injEq] at h
   have := rawR_k hw; omega
  | ok b =>
   obtain ⟨all,q'⟩ := b
   rw [hw] at h
   simp only at h
   obtain ⟨x,h1,h2⟩ := h
   cases x with
   | error e =>
    obtain ⟨k',r',a'⟩ := e
    simp only [Except.error.injEq,Prod.mk.injEq] at h2
    have := h1.k _ _ _ rfl; omega
   | ok l => cases h2
end Go.Proofs.YtjkhhdknplelcaaGreatDoor.AbsA
namespace Go.Proofs.YtjkhhdknplelcaaGreatDoor.AbsA
open Go AbsYtjkhhdknplelcaaGreatDoor Abs
set_option maxRecDepth 100000
set_option maxHeartbeats 4000000
set_option linter.unusedSimpArgs false
set_option linter.unusedVariables false
theorem numW_ok {n k : Nat} (h : n < 2 ^ (8 * k)) : numW (n : Int) k = .inl (numB n k) := by
 unfold numW
 rw [if_neg (by omega),Int.toNat_natCast]
theorem catW_run : ∀ {l : List Act} {C : ByteArray} (b : ByteArray),catW l = some C → runW b l = .inl (b ++ C)
 | [],C,b,h => by
  simp only [catW,Option.some.injEq] at h
  subst h
  simp only [runW,app_emp']
 | a :: l,C,b,h => by
  simp only [catW] at h
  cases ha : actW a with
  | inr e => rw [ha] at h; simp at h
  | inl m =>
   rw [ha] at h
   cases hl : catW l with
   | none => rw [hl] at h; simp at h
   | some d =>
    rw [hl] at h
    simp only [Option.some.injEq] at h
    subst h
    simp only [runW,ha]
    rw [catW_run (b ++ m) hl,app_assoc]
set_option maxHeartbeats 8000000
attribute [local irreducible] afterS afterOpS opSK OpsS TrS CodeS condS condW thenS thenQ guardS guardTS outS drawS trSK consS
abbrev RSt := Except (Nat × Nat) Nat
section
variable {σ : AHeap} {Q : Value → AHeap → Prop} {r : Nat} {s : ByteArray} {st : RSt}
end
end Go.Proofs.YtjkhhdknplelcaaGreatDoor.AbsA
namespace Go.Proofs.YtjkhhdknplelcaaGreatDoor.AbsA
open Go AbsYtjkhhdknplelcaaGreatDoor Abs
set_option maxRecDepth 100000
set_option maxHeartbeats 4000000
set_option linter.unusedSimpArgs false
set_option linter.unusedVariables false
def EncG {β : Type} (pre : Option E3) (pr : Except E3 β) (f : Int) (D : ByteArray → Except E3 Pk → Prop) (acts : β → List Act) (r : Except E3 (Int × ByteArray)) : Prop := match pre with
 | some e => r = .error e
 | none => match pr with
  | .error e => r = .error e
  | .ok s => MadeR f D (runW emp (acts s)) r
theorem EncG.det {β : Type} {pre : Option E3} {pr : Except E3 β} {f : Int} {D : ByteArray → Except E3 Pk → Prop} {acts : β → List Act} (hD : ∀ b r r',D b r → D b r' → r = r') {r r' : Except E3 (Int × ByteArray)} (h : EncG pre pr f D acts r) (h' : EncG pre pr f D acts r') : r = r' := by
 unfold EncG at h h'
 cases pre with
 | some e => exact h.trans h'.symm
 | none =>
  cases pr with
  | error e => exact h.trans h'.symm
  | ok s => exact MadeR.det hD h h'
theorem EncG.mk {β : Type} {f : Int} {D : ByteArray → Except E3 Pk → Prop} {acts : β → List Act} {s : β} {b : ByteArray} {y : Pk} (hc : catW (acts s) = some b) (hd : D b (.ok y)) : EncG none (.ok s) f D acts (.ok (f,b)) := by
 simp only [EncG,MadeR]
 rw [catW_run emp hc,emp_app']
 exact ⟨_,hd,rfl⟩
structure bigPk (p : Pk) : Prop where
 props : smallP p.props
 wprops : smallP p.will.props
 client : p.client.size ≤ 2100
 wtopic : p.will.topic.size ≤ 2100
 wpay : p.will.pay.size ≤ 2100
 user : p.user.size ≤ 2100
 pass : p.pass.size ≤ 2100
 topic : p.topic.size ≤ 2100
 pay : p.pay.size ≤ 2100
theorem fewPr.small {l : List Pr} (h : fewPr l) : smallP l := ⟨by have := h.1; omega,fun x hx => by have := h.2 x hx; omega⟩
theorem fewPk.big {p : Pk} (h : fewPk p) : bigPk p := ⟨h.props.small,h.wprops.small,by have := h.client; omega,by have := h.wtopic; omega,by have := h.wpay; omega,by have := h.user; omega,by have := h.pass; omega,by have := h.topic; omega,by have := h.pay; omega⟩
theorem w1 {n : Nat} (h : n < 256) : actW ⟨1,(n : Int),emp⟩ = .inl (numB n 1) := numW_ok (by omega)
theorem w2 {n : Nat} (h : n < 65536) : actW ⟨2,(n : Int),emp⟩ = .inl (numB n 2) := numW_ok (by omega)
theorem w6 {b m : ByteArray} (h : textW b = .inl m) : actW ⟨6,0,b⟩ = .inl m := h
theorem runW_k : ∀ {l : List Act} {b : ByteArray} {k q : Nat},runW b l = .inr (k,q) → k ≠ 0
 | [],b,k,q,h => by cases h
 | a :: l,b,k,q,h => by
  simp only [runW] at h
  cases ha : actW a with
  | inl m => rw [ha] at h; exact runW_k h
  | inr e =>
   obtain ⟨k',q'⟩ := e
   rw [ha] at h
   simp only [Sum.inr.injEq,Prod.mk.injEq] at h
   have := actW_err ha; omega
theorem encP_k {pl : Int} {l : List Pr} {k r a : Nat} (h : encP pl l = .error (k,r,a)) : k ≠ 0 := by
 unfold encP at h
 cases hc : chk pl [] l with
 | some e =>
  obtain ⟨k',r',a'⟩ := e
  rw [hc] at h
  simp only [Except.error.injEq,Prod.mk.injEq] at h
  have := chk_k hc; omega
 | none =>
  rw [hc] at h
  simp only at h
  cases hr : runW emp (l.flatMap actsP) with
  | inl c => rw [hr] at h; cases h
  | inr e =>
   obtain ⟨k',q'⟩ := e
   rw [hr] at h
   simp only [Except.error.injEq,Prod.mk.injEq] at h
   have := runW_k hr; omega
end Go.Proofs.YtjkhhdknplelcaaGreatDoor.AbsA
