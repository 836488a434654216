/-
  Parts of a law's proof.
-/
import Derived.Test.YtjkhhdknplelcaaGreatDoorABxqbJ
import Derived.Test.YtjkhhdknplelcaaGreatDoorAPraJ
namespace Go.Proofs.YtjkhhdknplelcaaGreatDoor.AbsA
open Go AbsYtjkhhdknplelcaaGreatDoor Abs
set_option maxRecDepth 100000
set_option maxHeartbeats 4000000
set_option linter.unusedSimpArgs false
set_option linter.unusedVariables false
attribute [local irreducible] afterS afterOpS opSK OpsS TrS CodeS condS condW thenS thenQ guardS guardTS outS drawS trSK consS
theorem ReadP.det {pl : Int} {s : ByteArray} {p : Nat} {r r' : Except (Nat × Nat × Nat) (List Pr × Nat)} (h : ReadP pl s p r) (h' : ReadP pl s p r') : r = r' := by
 unfold ReadP at h h'
 cases hv : varR s p with
 | error e => obtain ⟨k,q⟩ := e; rw [hv] at h h'; exact h.trans h'.symm
 | ok a =>
  obtain ⟨n,q⟩ := a
  rw [hv] at h h'
  simp only at h h'
  cases hw : rawR s q n with
  | error e => obtain ⟨k,q'⟩ := e; rw [hw] at h h'; exact h.trans h'.symm
  | ok b =>
   obtain ⟨all,q'⟩ := b
   rw [hw] at h h'
   simp only at h h'
   obtain ⟨x,h1,h2⟩ := h
   obtain ⟨y,h3,h4⟩ := h'
   obtain rfl := h1.det h3
   cases x with
   | error e => obtain ⟨k,rr,a⟩ := e; exact h2.trans h4.symm
   | ok l => exact h2.trans h4.symm
theorem MadeR.det {f : Int} {D : ByteArray → Except E3 Pk → Prop} (hD : ∀ b r r',D b r → D b r' → r = r') {w : ByteArray ⊕ (Nat × Nat)} {r r' : Except E3 (Int × ByteArray)} (h : MadeR f D w r) (h' : MadeR f D w r') : r = r' := by
 unfold MadeR at h h'
 cases w with
 | inr e => obtain ⟨k,q⟩ := e; exact h.trans h'.symm
 | inl b =>
  obtain ⟨x,h1,h2⟩ := h
  obtain ⟨y,h3,h4⟩ := h'
  obtain rfl := hD _ _ _ h1 h3
  cases x with
  | error e => exact h2.trans h4.symm
  | ok l => exact h2.trans h4.symm
theorem valueR_k {id : Int} {s : ByteArray} {p k q : Nat} (h : valueR id s p = .error (k,q)) : k ≠ 0 := by
 unfold valueR at h
 split at h
 ·cases h1 : textR s p with
  | error e =>
   obtain ⟨k',q'⟩ := e
   rw [h1] at h
   simp only [Except.error.injEq,Prod.mk.injEq] at h
   have := textR_k h1; omega
  | ok a =>
   obtain ⟨a,q1⟩ := a
   rw [h1] at h
   simp only at h
   cases h2 : textR s q1 with
   | error e =>
    obtain ⟨k',q'⟩ := e
    rw [h2] at h
    simp only [Except.error.injEq,Prod.mk.injEq] at h
    have := textR_k h2; omega
   | ok b => rw [h2] at h; cases h
 ·cases h1 : rdA (typI id) s p with
  | error e =>
   obtain ⟨k',q'⟩ := e
   rw [h1] at h
   simp only [Except.error.injEq,Prod.mk.injEq] at h
   have := rdA_k h1; omega
  | ok a => rw [h1] at h; cases h
theorem oneR_k {pl : Int} {s : ByteArray} {p k r a : Nat} {ahead : List Pr} (h : oneR pl s p ahead = .error (k,r,a)) : k ≠ 0 := by
 unfold oneR at h
 cases hv : varR s p with
 | error e =>
  obtain ⟨k',q'⟩ := e
  rw [hv] at h
  simp only [Except.error.injEq,Prod.mk.injEq] at h
  have := varR_k hv; omega
 | ok b =>
  obtain ⟨id,q1⟩ := b
  rw [hv] at h
  simp only at h
  cases hg : groundP pl ahead (id : Int) with
  | some e =>
   obtain ⟨k',r'⟩ := e
   rw [hg] at h
   simp only [Except.error.injEq,Prod.mk.injEq] at h
   have := groundP_k hg; omega
  | none =>
   rw [hg] at h
   simp only at h
   cases hw : valueR id s q1 with
   | error e =>
    obtain ⟨k',q'⟩ := e
    rw [hw] at h
    simp only [Except.error.injEq,Prod.mk.injEq] at h
    have := valueR_k hw; omega
   | ok b =>
    obtain ⟨y,q2⟩ := b
    rw [hw] at h
    simp only at h
    split at h
    ·cases h
    ·simp only [Except.error.injEq,Prod.mk.injEq] at h; omega
theorem AllP.k {pl : Int} {s : ByteArray} {p : Nat} {l : List Pr} {r : Except (Nat × Nat × Nat) (List Pr)} (h : AllP pl s p l r) : ∀ k rr a,r = .error (k,rr,a) → k ≠ 0 := by
 induction h with
 | nil h => intro k rr a hm; cases hm
 | bad h ho => intro k rr a hm; injection hm with hm; subst hm; exact oneR_k ho
 | step h ho hr ih => exact ih
theorem ReadP_k {pl : Int} {s : ByteArray} {p k rr a : Nat} (h : ReadP pl s p (.error (k,rr,a))) : k ≠ 0 := by
 unfold ReadP at h
 cases hv : varR s p with
 | error e =>
  obtain ⟨k',q⟩ := e
  rw [hv] at h
  simp only [Except.error.injEq,Prod.mk.injEq] at h
  have := varR_k hv; omega
 | ok b =>
  obtain ⟨n,q⟩ := b
  rw [hv] at h
  simp only at h
  cases hw : rawR s q n with
  | error e =>
   obtain ⟨k',q'⟩ := e
   rw [hw] at h
   simp only [Except.error.injEq,Prod.mk.injEq] at h
   have := rawR_k hw; omega
  | ok b =>
   obtain ⟨all,q'⟩ := b
   rw [hw] at h
   simp only at h
   obtain ⟨x,h1,h2⟩ := h
   cases x with
   | error e =>
    obtain ⟨k',r',a'⟩ := e
    simp only [Except.error.injEq,Prod.mk.injEq] at h2
    have := h1.k _ _ _ rfl; omega
   | ok l => cases h2
end Go.Proofs.YtjkhhdknplelcaaGreatDoor.AbsA
namespace Go.Proofs.YtjkhhdknplelcaaGreatDoor.AbsA
open Go AbsYtjkhhdknplelcaaGreatDoor Abs
set_option maxRecDepth 100000
set_option maxHeartbeats 4000000
set_option linter.unusedSimpArgs false
set_option linter.unusedVariables false
theorem numR_lt {s : ByteArray} {p k n q : Nat} (h : numR s p k = .ok (n,q)) : n < 256 ^ k := by
 unfold numR at h
 cases hb : rawR s p k with
 | error e => rw [hb] at h; cases h
 | ok a =>
  obtain ⟨b,q'⟩ := a
  rw [hb] at h
  simp only [Except.ok.injEq,Prod.mk.injEq] at h
  have h1 := (rawR_ok hb).2.2.2.2
  rw [Int.toNat_natCast] at h1
  rw [← h.1]
  have := beF_lt b b.size
  rw [h1] at this ⊢
  exact this
theorem numW_ok {n k : Nat} (h : n < 2 ^ (8 * k)) : numW (n : Int) k = .inl (numB n k) := by
 unfold numW
 rw [if_neg (by omega),Int.toNat_natCast]
theorem catW_run : ∀ {l : List Act} {C : ByteArray} (b : ByteArray),catW l = some C → runW b l = .inl (b ++ C)
 | [],C,b,h => by
  simp only [catW,Option.some.injEq] at h
  subst h
  simp only [runW,app_emp']
 | a :: l,C,b,h => by
  simp only [catW] at h
  cases ha : actW a with
  | inr e => rw [ha] at h; simp at h
  | inl m =>
   rw [ha] at h
   cases hl : catW l with
   | none => rw [hl] at h; simp at h
   | some d =>
    rw [hl] at h
    simp only [Option.some.injEq] at h
    subst h
    simp only [runW,ha]
    rw [catW_run (b ++ m) hl,app_assoc]
set_option maxHeartbeats 8000000
attribute [local irreducible] afterS afterOpS opSK OpsS TrS CodeS condS condW thenS thenQ guardS guardTS outS drawS trSK consS
abbrev RSt := Except (Nat × Nat) Nat
def stp {α : Type} (z : α) (rd : Nat → Rd α) : RSt → α × RSt
 | .error e => (z,.error e)
 | .ok p => match rd p with
  | .ok (a,q) => (a,.ok q)
  | .error e => (z,.error e)
def u8S (s : ByteArray) (st : RSt) : Nat × RSt := stp 0 (fun p => numR s p 1) st
def u16S (s : ByteArray) (st : RSt) : Nat × RSt := stp 0 (fun p => numR s p 2) st
def textS (s : ByteArray) (st : RSt) : ByteArray × RSt := stp emp (fun p => textR s p) st
def binS (s : ByteArray) (st : RSt) : ByteArray × RSt := stp emp (fun p => binR s p) st
def endS (s : ByteArray) : RSt → Option (Nat × Nat × Nat)
 | .error (k,q) => some (k,129,q)
 | .ok p => if p = s.size then none else some (2,129,p)
def ReadPS (pl : Int) (s : ByteArray) (st : RSt) (r : Except E3 (List Pr × Nat)) : Prop := match st with
 | .error (k,q) => r = .error (k,129,q)
 | .ok p => ReadP pl s p r
def IsRS (σ : AHeap) (r : Nat) (s : ByteArray) : RSt → Prop
 | .ok p => p ≤ s.size ∧ IsR σ r s p .nilIface
 | .error (k,q) => k ≠ 0 ∧ ∃ p,RBad σ r s p k q
def IsYS (σ : AHeap) (r : Nat) (s : ByteArray) : RSt → Prop
 | .ok p => p ≤ s.size ∧ IsY σ r s p 0 0
 | .error (k,q) => k ≠ 0 ∧ ∃ p,p ≤ s.size ∧ IsY σ r s p (k : Int) (q : Int)
theorem ReadPS.det {pl : Int} {s : ByteArray} {st : RSt} {r r' : Except E3 (List Pr × Nat)} (h : ReadPS pl s st r) (h' : ReadPS pl s st r') : r = r' := by
 cases st with
 | error e => obtain ⟨k,q⟩ := e; exact h.trans h'.symm
 | ok p => exact ReadP.det (show ReadP pl s p r from h) h'
section
variable {σ : AHeap} {Q : Value → AHeap → Prop} {r : Nat} {s : ByteArray} {st : RSt}
theorem IsRS.kept {σ' : AHeap} {gp gp' : List Nat} (h : IsRS σ r s st) (k : Kept σ gp σ' gp') (hd : r ∉ gp) : IsRS σ' r s st := by
 cases st with
 | ok p => exact ⟨h.1,(k.at h.2 (by simp) hd).1⟩
 | error e =>
  obtain ⟨a,q⟩ := e
  obtain ⟨h1,p,d,z,h2,h3,h4⟩ := h
  exact ⟨h1,p,d,z,h2,h3,(k.at h4 (by simp) hd).1⟩
theorem IsYS.kept {σ' : AHeap} {gp gp' : List Nat} (h : IsYS σ r s st) (k : Kept σ gp σ' gp') (hd : r ∉ gp) : IsYS σ' r s st := by
 cases st with
 | ok p => exact ⟨h.1,h.2.kept k hd⟩
 | error e =>
  obtain ⟨a,q⟩ := e
  obtain ⟨h1,p,h2,h3⟩ := h
  exact ⟨h1,p,h2,h3.kept k hd⟩
theorem IsRS.set {b : Nat} {o : AObj} (h : IsRS σ r s st) (hd : b ≠ r) : IsRS (σ.set b o) r s st := by
 cases st with
 | ok p => exact ⟨h.1,(AHeap.get_set_ne _ _ hd).trans h.2⟩
 | error e =>
  obtain ⟨a,q⟩ := e
  obtain ⟨h1,p,d,z,h2,h3,h4⟩ := h
  exact ⟨h1,p,d,z,h2,h3,(AHeap.get_set_ne _ _ hd).trans h4⟩
theorem IsYS.set {b : Nat} {o : AObj} (h : IsYS σ r s st) (hd : b ≠ r) : IsYS (σ.set b o) r s st := by
 cases st with
 | ok p => exact ⟨h.1,(AHeap.get_set_ne _ _ hd).trans h.2⟩
 | error e =>
  obtain ⟨a,q⟩ := e
  obtain ⟨h1,p,h2,h3⟩ := h
  exact ⟨h1,p,h2,(AHeap.get_set_ne _ _ hd).trans h3⟩
theorem IsYS.alive (h : IsYS σ r s st) : σ.get r ≠ .dead := by
 cases st with
 | ok p => intro hd; have := h.2; unfold IsY at this; rw [hd] at this; cases this
 | error e => obtain ⟨a,q⟩ := e; obtain ⟨h1,p,h2,h3⟩ := h; intro hd; unfold IsY at h3; rw [hd] at h3; cases h3
theorem IsRS.alive (h : IsRS σ r s st) : σ.get r ≠ .dead := by
 cases st with
 | ok p => intro hd; have := h.2; unfold IsR at this; rw [hd] at this; cases this
 | error e => obtain ⟨a,q⟩ := e; obtain ⟨h1,p,d,z,h2,h3,h4⟩ := h; intro hd; unfold IsR at h4; rw [hd] at h4; cases h4
theorem binR_k {p k q : Nat} (h : binR s p = .error (k,q)) : k ≠ 0 := by
 unfold binR at h
 cases hb : numR s p 2 with
 | ok a => obtain ⟨n,q'⟩ := a; rw [hb] at h; exact rawR_k h
 | error e => obtain ⟨j,q'⟩ := e; rw [hb] at h; simp only [Except.error.injEq,Prod.mk.injEq] at h; have := numR_k hb; omega
theorem specSU8 (hr : IsRS σ r s st) (hs : s.size ≤ 100000000) (h : ∀ σ',Kept σ [r] σ' [r] → IsRS σ' r s (u8S s st).2 → Q (.int .i64 (((u8S s st).1 : Nat) : Int)) σ') : CallS E B 75 [.pointer (some ⟨r,0,none⟩)] σ Q := by
 unfold u8S at h
 cases st with
 | error e =>
  obtain ⟨k,q⟩ := e
  obtain ⟨hk,p,d,z,hd,he,h0⟩ := hr
  simp only [stp] at h
  exact specRU8E h0 (h σ (Kept.refl _ _) ⟨hk,p,d,z,hd,he,h0⟩)
 | ok p =>
  simp only [stp] at h
  refine specRU8 hr.2 hr.1 (by omega) (fun v q hn σ' k1 i1 => ?_) fun k q hn σ' k1 i1 => ?_
  ·rw [hn] at h; exact h σ' k1 ⟨(numR_ok hn).2,i1⟩
  ·rw [hn] at h; exact h σ' k1 ⟨numR_k hn,p,i1⟩
theorem specZU8 (hr : IsYS σ r s st) (hs : s.size ≤ 100000000) (h : ∀ σ',Kept σ [r] σ' [r] → IsYS σ' r s (u8S s st).2 → Q (.int .i64 (((u8S s st).1 : Nat) : Int)) σ') : CallS E B 121 [.pointer (some ⟨r,0,none⟩)] σ Q := by
 unfold u8S at h
 cases st with
 | error e =>
  obtain ⟨k,q⟩ := e
  obtain ⟨hk,p,hp,h0⟩ := hr
  simp only [stp] at h
  exact specYU8E h0 (by omega) (h σ (Kept.refl _ _) ⟨hk,p,hp,h0⟩)
 | ok p =>
  simp only [stp] at h
  refine specYU8 hr.2 hr.1 (by omega) (fun v q hn σ' k1 i1 => ?_) fun k q hn σ' k1 i1 => ?_
  ·rw [hn] at h; exact h σ' k1 ⟨(numR_le hn).2,i1⟩
  ·rw [hn] at h; exact h σ' k1 ⟨numR_k hn,p,hr.1,i1⟩
theorem specSU16 (hr : IsRS σ r s st) (hs : s.size ≤ 100000000) (h : ∀ σ',Kept σ [r] σ' [r] → IsRS σ' r s (u16S s st).2 → Q (.int .i64 (((u16S s st).1 : Nat) : Int)) σ') : CallS E B 55 [.pointer (some ⟨r,0,none⟩)] σ Q := by
 unfold u16S at h
 cases st with
 | error e =>
  obtain ⟨k,q⟩ := e
  obtain ⟨hk,p,d,z,hd,he,h0⟩ := hr
  simp only [stp] at h
  exact specRU16E h0 (h σ (Kept.refl _ _) ⟨hk,p,d,z,hd,he,h0⟩)
 | ok p =>
  simp only [stp] at h
  refine specRU16 hr.2 hr.1 (by omega) (fun v q hn σ' k1 i1 => ?_) fun k q hn σ' k1 i1 => ?_
  ·rw [hn] at h; exact h σ' k1 ⟨(numR_ok hn).2,i1⟩
  ·rw [hn] at h; exact h σ' k1 ⟨numR_k hn,p,i1⟩
theorem specZU16 (hr : IsYS σ r s st) (hs : s.size ≤ 100000000) (h : ∀ σ',Kept σ [r] σ' [r] → IsYS σ' r s (u16S s st).2 → Q (.int .i64 (((u16S s st).1 : Nat) : Int)) σ') : CallS E B 104 [.pointer (some ⟨r,0,none⟩)] σ Q := by
 unfold u16S at h
 cases st with
 | error e =>
  obtain ⟨k,q⟩ := e
  obtain ⟨hk,p,hp,h0⟩ := hr
  simp only [stp] at h
  exact specYU16E h0 (by omega) (h σ (Kept.refl _ _) ⟨hk,p,hp,h0⟩)
 | ok p =>
  simp only [stp] at h
  refine specYU16 hr.2 hr.1 (by omega) (fun v q hn σ' k1 i1 => ?_) fun k q hn σ' k1 i1 => ?_
  ·rw [hn] at h; exact h σ' k1 ⟨(numR_le hn).2,i1⟩
  ·rw [hn] at h; exact h σ' k1 ⟨numR_k hn,p,hr.1,i1⟩
theorem specSBin (hr : IsRS σ r s st) (hs : s.size ≤ 100000000) (h : ∀ σ',Kept σ [r] σ' [r] → IsRS σ' r s (binS s st).2 → Q (.string (binS s st).1) σ') : CallS E B 108 [.pointer (some ⟨r,0,none⟩)] σ Q := by
 unfold binS at h
 cases st with
 | error e =>
  obtain ⟨k,q⟩ := e
  obtain ⟨hk,p,d,z,hd,he,h0⟩ := hr
  simp only [stp] at h
  exact specRBinE h0 fun σ' k1 i1 => h σ' k1 ⟨hk,p,d,z,hd,he,i1⟩
 | ok p =>
  simp only [stp] at h
  refine specRBin hr.2 hr.1 (by omega) (fun v q hn σ' k1 i1 => ?_) fun k q hn σ' k1 i1 => ?_
  ·rw [hn] at h; exact h σ' k1 ⟨(binR_ok hn).1,i1⟩
  ·rw [hn] at h; exact h σ' k1 ⟨binR_k hn,p,i1⟩
theorem specZBin (hr : IsYS σ r s st) (hs : s.size ≤ 100000000) (h : ∀ σ',Kept σ [r] σ' [r] → IsYS σ' r s (binS s st).2 → Q (.string (binS s st).1) σ') : CallS E B 119 [.pointer (some ⟨r,0,none⟩)] σ Q := by
 unfold binS at h
 cases st with
 | error e =>
  obtain ⟨k,q⟩ := e
  obtain ⟨hk,p,hp,h0⟩ := hr
  simp only [stp] at h
  exact specYBinE h0 (by omega) fun σ' k1 i1 => h σ' k1 ⟨hk,p,hp,i1⟩
 | ok p =>
  simp only [stp] at h
  refine specYBin hr.2 hr.1 (by omega) (fun v q hn σ' k1 i1 => ?_) fun k q hn σ' k1 i1 => ?_
  ·rw [hn] at h; exact h σ' k1 ⟨(binR_ok hn).1,i1⟩
  ·rw [hn] at h; exact h σ' k1 ⟨binR_k hn,p,hr.1,i1⟩
theorem specSText (hr : IsRS σ r s st) (hs : s.size ≤ 100000000) (h : ∀ σ',Kept σ [r] σ' [r] → IsRS σ' r s (textS s st).2 → Q (.string (textS s st).1) σ') : CallS E B 53 [.pointer (some ⟨r,0,none⟩)] σ Q := by
 unfold textS at h
 cases st with
 | error e =>
  obtain ⟨k,q⟩ := e
  obtain ⟨hk,p,d,z,hd,he,h0⟩ := hr
  simp only [stp] at h
  exact specDTextE h0 fun σ' k1 i1 => h σ' k1 ⟨hk,p,d,z,hd,he,i1⟩
 | ok p =>
  simp only [stp] at h
  refine specDText hr.2 hr.1 (by omega) (fun v q hn σ' k1 i1 => ?_) fun k q hn σ' k1 i1 => ?_
  ·rw [hn] at h; exact h σ' k1 ⟨(textR_ok hn).2,i1⟩
  ·rw [hn] at h; exact h σ' k1 ⟨textR_k hn,p,i1⟩
theorem specZText (hr : IsYS σ r s st) (hs : s.size ≤ 100000000) (h : ∀ σ',Kept σ [r] σ' [r] → IsYS σ' r s (textS s st).2 → Q (.string (textS s st).1) σ') : CallS E B 103 [.pointer (some ⟨r,0,none⟩)] σ Q := by
 unfold textS at h
 cases st with
 | error e =>
  obtain ⟨k,q⟩ := e
  obtain ⟨hk,p,hp,h0⟩ := hr
  simp only [stp] at h
  exact specYTextE h0 (by omega) fun σ' k1 i1 => h σ' k1 ⟨hk,p,hp,i1⟩
 | ok p =>
  simp only [stp] at h
  refine specYText hr.2 hr.1 (by omega) (fun v q hn σ' k1 i1 => ?_) fun k q hn σ' k1 i1 => ?_
  ·rw [hn] at h; exact h σ' k1 ⟨(textR_ok hn).2,i1⟩
  ·rw [hn] at h; exact h σ' k1 ⟨textR_k hn,p,hr.1,i1⟩
theorem specSErr (hr : IsRS σ r s st) (hok : ∀ p,st = .ok p → Q .nilIface σ) (hbad : ∀ k q d z,st = .error (k,q) → d ≤ 2 → ErN d (fv 129 (q : Int) z) k → Q (fv 129 (q : Int) z) σ) : CallS E B 56 [.pointer (some ⟨r,0,none⟩)] σ Q := by
 cases st with
 | ok p => exact specRErr hr.2 (hok p rfl)
 | error e =>
  obtain ⟨k,q⟩ := e
  obtain ⟨hk,p,d,z,hd,he,h0⟩ := hr
  exact specRErr h0 (hbad k q d z rfl hd he)
theorem specSDone (hr : IsRS σ r s st) (hs : s.size ≤ 100000000) (hok : endS s st = none → Q .nilIface σ) (hbad : ∀ k q d z,endS s st = some (k,129,q) → d ≤ 2 → ErN d (fv 129 (q : Int) z) k → Q (fv 129 (q : Int) z) σ) : CallS E B 77 [.pointer (some ⟨r,0,none⟩)] σ Q := by
 cases st with
 | ok p =>
  simp only [endS] at hok hbad
  exact specRDone hr.2 hr.1 (by omega) (fun he => hok (if_pos he)) fun hm => hbad 2 p 1 _ (if_neg (by omega)) (by omega) (ErN.new _ _ ⟨by omega,by omega⟩)
 | error e =>
  obtain ⟨k,q⟩ := e
  obtain ⟨hk,p,d,z,hd,he,h0⟩ := hr
  exact specRDoneE h0 (hbad k q d z rfl hd he)
theorem specPReadE {pl : Int} {p : Nat} {u : Nat} {x : Value} (hr : IsR σ r s p (.iface u x)) (h : Q (.tuple #[.slice none 0 0,.iface u x]) σ) : CallS E B 57 [.pointer (some ⟨r,0,none⟩),.int .i64 pl] σ Q := by
 refine call57 (by simp) ?_
 simp only [strip,bodyOf,Tryz.f57,getD_body,keepN,bareOp_mk,List.map_cons,List.map_nil,↓reduceIte,Bool.false_eq_true]
 simp only [↓sbD,sbU,↓reduceIte,Nat.reduceLT,reduceCtorEq]
 refine specRVarE hr ?_
 simp only [↓sbD,sbU,↓reduceIte,Nat.reduceEqDiff,Nat.reduceLT]
 refine specRRawE hr ?_
 simp only [↓sbD,sbU,↓reduceIte,Nat.reduceLT,reduceCtorEq]
 refine specRErr hr ?_
 simp only [↓sbD,sbU,tyB,↓reduceIte,Nat.reduceEqDiff,Nat.reduceLT,isConst]
 exact downS_here h
theorem specSRead {pl : Int} (hr : IsRS σ r s st) (hs : s.size ≤ 100000000)
  (hok : ∀ l q,ReadPS pl s st (.ok (l,q)) → ∀ v σ',DL propC 4 v l → Kept σ [r] σ' [r] → IsRS σ' r s (.ok q) → Q (.tuple #[v,.nilIface]) σ')
  (hbad : ∀ k rr a : Nat,ReadPS pl s st (.error (k,rr,a)) → ∀ σ' d z,Kept σ [r] σ' [r] → d ≤ 3 → ErN d (fv rr a z) k → Q (.tuple #[.slice none 0 0,fv rr a z]) σ') :
  CallS E B 57 [.pointer (some ⟨r,0,none⟩),.int .i64 pl] σ Q := by
 cases st with
 | ok p => exact specPRead hr.2 hr.1 hs (fun l q h1 v σ' h2 h3 h4 h5 => hok l q h1 v σ' h2 h3 ⟨h5,h4⟩) hbad
 | error e =>
  obtain ⟨k,q⟩ := e
  obtain ⟨hk,p,d,z,hd,he,h0⟩ := hr
  exact specPReadE h0 (hbad k 129 q rfl σ d z (Kept.refl _ _) (by omega) he)
theorem specZRead {pl : Int} (hr : IsYS σ r s st) (hs : s.size ≤ 100000000)
  (hok : ∀ l q,ReadPS pl s st (.ok (l,q)) → ∀ v σ',DL propC 4 v l → Kept σ [r] σ' [r] → IsYS σ' r s (.ok q) → Q (.tuple #[v,flt 0 0 0]) σ')
  (hbad : ∀ k rr a : Nat,ReadPS pl s st (.error (k,rr,a)) → k ≠ 0 → ∀ σ',Kept σ [r] σ' [r] → Q (.tuple #[.slice none 0 0,flt k rr a]) σ') :
  CallS E B 106 [.pointer (some ⟨r,0,none⟩),.int .i64 pl] σ Q := by
 cases st with
 | ok p => exact specYRead hr.2 hr.1 hs (fun l q h1 v σ' h2 h3 h4 h5 => hok l q h1 v σ' h2 h3 ⟨h5,h4⟩) fun k rr a h1 => hbad k rr a h1 (ReadP_k h1)
 | error e =>
  obtain ⟨k,q⟩ := e
  obtain ⟨hk,p,hp,h0⟩ := hr
  have hk0 : ¬ (k : Int) = 0 := by omega
  refine call106 (by simp) ?_
  simp only [strip,bodyOf,Tryz.f106,getD_body,keepN,bareOp_mk,lapp_cons,lapp_nil,List.map_cons,List.map_nil,↓reduceIte,Bool.false_eq_true]
  simp only [↓sbD,sbU,↓reduceIte,Nat.reduceLT,reduceCtorEq,AS_new,zeFlt]
  intro c hc
  have h0' := h0
  unfold IsY at h0'
  have hcr : c ≠ r := nd hc h0' (by simp)
  have cr : ∀ (τ : AHeap) o,(AHeap.set τ c o).get r = τ.get r := fun τ o => AHeap.get_set_ne _ _ hcr
  generalize hσ1 : AHeap.set σ c _ = σ1
  have k1 : Kept σ [r] σ1 [r] := by rw [← hσ1]; exact (Kept.refl σ [r]).setD hc
  have gc1 : σ1.get c = .cells [.int .i64 0,.int .i64 0,.int .i64 0] true 0 := by rw [← hσ1]; exact AHeap.get_set_same _ _ _
  have i1 : IsY σ1 r s p (k : Int) (q : Int) := by rw [← hσ1]; unfold IsY; rw [AHeap.get_set_ne _ _ hcr]; exact h0
  clear hσ1
  have i1' := i1
  unfold IsY at i1'
  refine specYVarE i1 hk0 ?_
  simp only [↓sbD,sbU,↓reduceIte,Nat.reduceEqDiff,Nat.reduceLT]
  refine specYRawE i1 hk0 ?_
  simp only [↓sbD,sbU,tyB,↓reduceIte,Nat.reduceEqDiff,Nat.reduceLT,Nat.reduceAdd,Nat.reduceLeDiff,reduceCtorEq,pairs,isConst,splice,ZV.val,i1',hk0,gc1,res_cellc,resC_some]
  exact downS_here (hbad k 129 q rfl hk _ (k1.setD hc))
theorem specZOf (hr : IsYS σ r s st) (hok : endS s st = none → Q (flt 0 0 0) σ) (hbad : ∀ k q,endS s st = some (k,129,q) → k ≠ 0 → Q (flt k 129 q) σ) : CallS E B 120 [.pointer (some ⟨r,0,none⟩)] σ Q := by
 cases st with
 | ok p =>
  simp only [endS] at hok hbad
  exact specKOf hr.2 hr.1 (fun he => hok (if_pos he)) fun hm => hbad 2 p (if_neg (by omega)) (by omega)
 | error e =>
  obtain ⟨k,q⟩ := e
  obtain ⟨hk,p,hp,h0⟩ := hr
  exact specKOfE hk h0 hp (hbad k q rfl hk)
end
end Go.Proofs.YtjkhhdknplelcaaGreatDoor.AbsA
namespace Go.Proofs.YtjkhhdknplelcaaGreatDoor.AbsA
open Go AbsYtjkhhdknplelcaaGreatDoor Abs
set_option maxRecDepth 100000
set_option maxHeartbeats 4000000
set_option linter.unusedSimpArgs false
set_option linter.unusedVariables false
def EncG {β : Type} (pre : Option E3) (pr : Except E3 β) (f : Int) (D : ByteArray → Except E3 Pk → Prop) (acts : β → List Act) (r : Except E3 (Int × ByteArray)) : Prop := match pre with
 | some e => r = .error e
 | none => match pr with
  | .error e => r = .error e
  | .ok s => MadeR f D (runW emp (acts s)) r
theorem EncG.det {β : Type} {pre : Option E3} {pr : Except E3 β} {f : Int} {D : ByteArray → Except E3 Pk → Prop} {acts : β → List Act} (hD : ∀ b r r',D b r → D b r' → r = r') {r r' : Except E3 (Int × ByteArray)} (h : EncG pre pr f D acts r) (h' : EncG pre pr f D acts r') : r = r' := by
 unfold EncG at h h'
 cases pre with
 | some e => exact h.trans h'.symm
 | none =>
  cases pr with
  | error e => exact h.trans h'.symm
  | ok s => exact MadeR.det hD h h'
theorem EncG.mk {β : Type} {f : Int} {D : ByteArray → Except E3 Pk → Prop} {acts : β → List Act} {s : β} {b : ByteArray} {y : Pk} (hc : catW (acts s) = some b) (hd : D b (.ok y)) : EncG none (.ok s) f D acts (.ok (f,b)) := by
 simp only [EncG,MadeR]
 rw [catW_run emp hc,emp_app']
 exact ⟨_,hd,rfl⟩
structure bigPk (p : Pk) : Prop where
 props : smallP p.props
 wprops : smallP p.will.props
 client : p.client.size ≤ 2100
 wtopic : p.will.topic.size ≤ 2100
 wpay : p.will.pay.size ≤ 2100
 user : p.user.size ≤ 2100
 pass : p.pass.size ≤ 2100
 topic : p.topic.size ≤ 2100
 pay : p.pay.size ≤ 2100
theorem fewPr.small {l : List Pr} (h : fewPr l) : smallP l := ⟨by have := h.1; omega,fun x hx => by have := h.2 x hx; omega⟩
theorem fewPk.big {p : Pk} (h : fewPk p) : bigPk p := ⟨h.props.small,h.wprops.small,by have := h.client; omega,by have := h.wtopic; omega,by have := h.wpay; omega,by have := h.user; omega,by have := h.pass; omega,by have := h.topic; omega,by have := h.pay; omega⟩
theorem okS_u8 {s : ByteArray} {st : RSt} {n : Nat} {p : Nat} (h : u8S s st = (n,.ok p)) : n < 256 ∧ p ≤ s.size ∧ ∃ p0,st = .ok p0 := by
 unfold u8S stp at h
 cases st with
 | error e => cases h
 | ok p0 =>
  simp only at h
  cases hn : numR s p0 1 with
  | error e => rw [hn] at h; cases h
  | ok a =>
   obtain ⟨v,q⟩ := a
   rw [hn] at h
   simp only [Prod.mk.injEq,Except.ok.injEq] at h
   obtain ⟨rfl,rfl⟩ := h
   exact ⟨numR_lt hn,(numR_le hn).2,_,rfl⟩
theorem w1 {n : Nat} (h : n < 256) : actW ⟨1,(n : Int),emp⟩ = .inl (numB n 1) := numW_ok (by omega)
theorem w2 {n : Nat} (h : n < 65536) : actW ⟨2,(n : Int),emp⟩ = .inl (numB n 2) := numW_ok (by omega)
theorem w6 {b m : ByteArray} (h : textW b = .inl m) : actW ⟨6,0,b⟩ = .inl m := h
theorem w7 {b m : ByteArray} (h : binW b = .inl m) : actW ⟨7,0,b⟩ = .inl m := h
theorem w8 {b : ByteArray} : actW ⟨8,0,b⟩ = .inl b := rfl
theorem runW_k : ∀ {l : List Act} {b : ByteArray} {k q : Nat},runW b l = .inr (k,q) → k ≠ 0
 | [],b,k,q,h => by cases h
 | a :: l,b,k,q,h => by
  simp only [runW] at h
  cases ha : actW a with
  | inl m => rw [ha] at h; exact runW_k h
  | inr e =>
   obtain ⟨k',q'⟩ := e
   rw [ha] at h
   simp only [Sum.inr.injEq,Prod.mk.injEq] at h
   have := actW_err ha; omega
theorem encP_k {pl : Int} {l : List Pr} {k r a : Nat} (h : encP pl l = .error (k,r,a)) : k ≠ 0 := by
 unfold encP at h
 cases hc : chk pl [] l with
 | some e =>
  obtain ⟨k',r',a'⟩ := e
  rw [hc] at h
  simp only [Except.error.injEq,Prod.mk.injEq] at h
  have := chk_k hc; omega
 | none =>
  rw [hc] at h
  simp only at h
  cases hr : runW emp (l.flatMap actsP) with
  | inl c => rw [hr] at h; cases h
  | inr e =>
   obtain ⟨k',q'⟩ := e
   rw [hr] at h
   simp only [Except.error.injEq,Prod.mk.injEq] at h
   have := runW_k hr; omega
end Go.Proofs.YtjkhhdknplelcaaGreatDoor.AbsA
