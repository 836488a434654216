/-
  Parts of a law's proof.
-/
import Derived.Test.YtjkhhdknplelcaaGreatDoorAApqbJ
import Derived.Test.YtjkhhdknplelcaaGreatDoorABxqbJ
namespace Go.Proofs.YtjkhhdknplelcaaGreatDoor.AbsA
open Go AbsYtjkhhdknplelcaaGreatDoor Abs
set_option maxRecDepth 100000
set_option maxHeartbeats 4000000
set_option linter.unusedSimpArgs false
set_option linter.unusedVariables false
def At (S : ByteArray) (q : Nat) (t : ByteArray) : Prop := ∃ A : ByteArray,A.size = q ∧ S = A ++ t
theorem At.zero (S : ByteArray) : At S 0 S := ⟨emp,rfl,(emp_app' S).symm⟩
theorem At.le {S t : ByteArray} {q : Nat} (h : At S q t) : S.size = q + t.size := by
 obtain ⟨A,h1,rfl⟩ := h
 rw [size_app,h1]
theorem At.mv {S m t : ByteArray} {q : Nat} (h : At S q (m ++ t)) : At S (q + m.size) t := by
 obtain ⟨A,h1,rfl⟩ := h
 exact ⟨A ++ m,by rw [size_app,h1],by rw [app_assoc]⟩
theorem At.rest {S t : ByteArray} {q : Nat} (h : At S q t) : S.extract q S.size = t := by
 obtain ⟨A,h1,rfl⟩ := h
 rw [← h1]
 exact ext_tail A t
theorem At.num {S t : ByteArray} {q n k : Nat} (hk : k = 1 ∨ k = 2 ∨ k = 4) (hn : n < 2 ^ (8 * k)) (h : At S q (numB n k ++ t)) : numR S q k = .ok (n,q + k) ∧ At S (q + k) t := by
 have h2 := h.mv
 obtain ⟨A,h1,rfl⟩ := h
 rw [numB_k hk] at h2
 exact ⟨num_at A t hk hn h1,h2⟩
theorem At.u8 {S t : ByteArray} {q n : Nat} (hn : n < 256) (h : At S q (numB n 1 ++ t)) : u8S S (.ok q) = (n,.ok (q + 1)) ∧ At S (q + 1) t := by
 have := h.num (k := 1) (by omega) (by omega)
 refine ⟨?_,this.2⟩
 simp only [u8S,stp,this.1]
theorem At.u16 {S t : ByteArray} {q n : Nat} (hn : n < 65536) (h : At S q (numB n 2 ++ t)) : u16S S (.ok q) = (n,.ok (q + 2)) ∧ At S (q + 2) t := by
 have := h.num (k := 2) (by omega) (by omega)
 refine ⟨?_,this.2⟩
 simp only [u16S,stp,this.1]
theorem At.text {S t m b : ByteArray} {q : Nat} (hw : textW b = .inl m) (h : At S q (m ++ t)) : textS S (.ok q) = (b,.ok (q + m.size)) ∧ At S (q + m.size) t := by
 have h2 := h.mv
 refine ⟨?_,h2⟩
 obtain ⟨A,h1,rfl⟩ := h
 have hm := rdA_mid A t (a := ⟨6,0,b⟩) (by simp [kindOk]) (show actW ⟨6,0,b⟩ = .inl m from hw)
 simp only [rdA,Int.reduceEq,if_true,if_false,Int.reduceLT,h1,app_assoc] at hm
 cases hr : textR (A ++ (m ++ t)) q with
 | error e => rw [hr] at hm; cases hm
 | ok a =>
  obtain ⟨v,q'⟩ := a
  rw [hr] at hm
  simp only [mapS,Except.ok.injEq,Prod.mk.injEq] at hm
  simp only [textS,stp,hr]
  rw [hm.1.2,hm.2]
theorem At.props {S t c : ByteArray} {q : Nat} {pl : Int} {l : List Pr} (he : encP pl l = .ok c) (hz : c.size ≤ 700000) (h : At S q (c ++ t)) : ReadPS pl S (.ok q) (.ok (l.map plainP,q + c.size)) ∧ At S (q + c.size) t := by
 have h2 := h.mv
 refine ⟨?_,h2⟩
 obtain ⟨A,h1,rfl⟩ := h
 have := read_encP (A := A) (t := t) he hz
 rw [h1,app_assoc] at this
 exact this
theorem At.fin {S : ByteArray} {q : Nat} (h : At S q emp) : q = S.size := by
 have := h.le
 have h0 : emp.size = 0 := rfl
 omega
def EncG {β : Type} (pre : Option E3) (pr : Except E3 β) (f : Int) (D : ByteArray → Except E3 Pk → Prop) (acts : β → List Act) (r : Except E3 (Int × ByteArray)) : Prop := match pre with
 | some e => r = .error e
 | none => match pr with
  | .error e => r = .error e
  | .ok s => MadeR f D (runW emp (acts s)) r
theorem EncG.det {β : Type} {pre : Option E3} {pr : Except E3 β} {f : Int} {D : ByteArray → Except E3 Pk → Prop} {acts : β → List Act} (hD : ∀ b r r',D b r → D b r' → r = r') {r r' : Except E3 (Int × ByteArray)} (h : EncG pre pr f D acts r) (h' : EncG pre pr f D acts r') : r = r' := by
 unfold EncG at h h'
 cases pre with
 | some e => exact h.trans h'.symm
 | none =>
  cases pr with
  | error e => exact h.trans h'.symm
  | ok s => exact MadeR.det hD h h'
theorem EncG.inv {β : Type} {pre : Option E3} {pr : Except E3 β} {f : Int} {D : ByteArray → Except E3 Pk → Prop} {acts : β → List Act} {fb : Int × ByteArray} (h : EncG pre pr f D acts (.ok fb)) : pre = none ∧ ∃ s b y,pr = .ok s ∧ catW (acts s) = some b ∧ fb = (f,b) ∧ D b (.ok y) := by
 unfold EncG at h
 cases pre with
 | some e => cases h
 | none =>
  cases pr with
  | error e => cases h
  | ok s =>
   refine ⟨rfl,?_⟩
   simp only [MadeR] at h
   cases hw : runW emp (acts s) with
   | inr e => obtain ⟨k,q⟩ := e; rw [hw] at h; cases h
   | inl b =>
    rw [hw] at h
    simp only at h
    obtain ⟨d,h1,h2⟩ := h
    obtain ⟨D',hD,rfl⟩ := runW_cat hw
    rw [emp_app'] at *
    cases d with
    | error e => cases h2
    | ok y =>
     simp only [Except.ok.injEq] at h2
     exact ⟨s,_,y,rfl,hD,h2,h1⟩
theorem EncG.mk {β : Type} {f : Int} {D : ByteArray → Except E3 Pk → Prop} {acts : β → List Act} {s : β} {b : ByteArray} {y : Pk} (hc : catW (acts s) = some b) (hd : D b (.ok y)) : EncG none (.ok s) f D acts (.ok (f,b)) := by
 simp only [EncG,MadeR]
 rw [catW_run emp hc,emp_app']
 exact ⟨_,hd,rfl⟩
structure bigPk (p : Pk) : Prop where
 props : smallP p.props
 wprops : smallP p.will.props
 client : p.client.size ≤ 2100
 wtopic : p.will.topic.size ≤ 2100
 wpay : p.will.pay.size ≤ 2100
 user : p.user.size ≤ 2100
 pass : p.pass.size ≤ 2100
 topic : p.topic.size ≤ 2100
 pay : p.pay.size ≤ 2100
theorem fewPr.small {l : List Pr} (h : fewPr l) : smallP l := ⟨by have := h.1; omega,fun x hx => by have := h.2 x hx; omega⟩
theorem fewPk.big {p : Pk} (h : fewPk p) : bigPk p := ⟨h.props.small,h.wprops.small,by have := h.client; omega,by have := h.wtopic; omega,by have := h.wpay; omega,by have := h.user; omega,by have := h.pass; omega,by have := h.topic; omega,by have := h.pay; omega⟩
theorem small_nil : smallP [] := ⟨by simp,by simp⟩
theorem w1 {n : Nat} (h : n < 256) : actW ⟨1,(n : Int),emp⟩ = .inl (numB n 1) := numW_ok (by omega)
theorem w2 {n : Nat} (h : n < 65536) : actW ⟨2,(n : Int),emp⟩ = .inl (numB n 2) := numW_ok (by omega)
theorem w6 {b m : ByteArray} (h : textW b = .inl m) : actW ⟨6,0,b⟩ = .inl m := h
theorem w8 {b : ByteArray} : actW ⟨8,0,b⟩ = .inl b := rfl
theorem inv1 {n : Int} {b m : ByteArray} (h : actW ⟨1,n,b⟩ = .inl m) : ∃ k : Nat,n = k ∧ k < 256 ∧ m = numB k 1 := by
 obtain ⟨h1,h2,h3⟩ := numW_inl (show numW n 1 = .inl m from h)
 exact ⟨n.toNat,by omega,by omega,h3⟩
theorem inv8 {n : Int} {b m : ByteArray} (h : actW ⟨8,n,b⟩ = .inl m) : m = b := by
 have h : (Sum.inl b : ByteArray ⊕ (Nat × Nat)) = Sum.inl m := h
 injection h with h
 exact h.symm
def firstM (k : Int) : Int := if k = 12 ∨ k = 13 ∨ k = 14 ∨ k = 15 then 16 * k else 0
def msP (kind rea : Int) (l : List Pr) : Pk := { pkz with kind := kind,rea := rea,props := l }
def msM (kind : Int) : Except E3 (Int × List Pr) → Except E3 Pk
 | .error e => .error e
 | .ok (c,l) => .ok (msP kind c l)
def msEnd (kind : Int) (s : ByteArray) : Except E3 Pk := if s.size = 0 then .ok (msP kind 0 []) else .error (2,129,0)
def DecM (f : Int) (s : ByteArray) (r : Except E3 Pk) : Prop :=
 if f ≤ 0 ∨ f ≠ firstM (f / 16) then r = .error (2,129,0)
 else if f / 16 < 14 then r = msEnd (f / 16) s
 else ∃ x,TailA (f / 16) 0 s 0 x ∧ r = msM (f / 16) x
theorem DecM.det {f : Int} {s : ByteArray} {r r' : Except E3 Pk} (h : DecM f s r) (h' : DecM f s r') : r = r' := by
 unfold DecM at h h'
 split at h
 ·rename_i h1
  rw [if_pos h1] at h'
  exact h.trans h'.symm
 ·rename_i h1
  rw [if_neg h1] at h'
  split at h
  ·rename_i h2
   rw [if_pos h2] at h'
   exact h.trans h'.symm
  ·rename_i h2
   rw [if_neg h2] at h'
   obtain ⟨x,h3,rfl⟩ := h
   obtain ⟨y,h4,rfl⟩ := h'
   rw [h3.det h4]
def actsM (p : Pk) (s : ByteArray) : List Act := if p.kind < 14 then [] else if p.props = [] then (if p.rea = 0 then [] else [⟨1,p.rea,emp⟩]) else [⟨1,p.rea,emp⟩,⟨8,0,s⟩]
def preM (p : Pk) : Option E3 := if firstM p.kind = 0 then some (7,128,0) else none
def propsM (p : Pk) : Except E3 ByteArray := if p.kind < 14 then .ok emp else propsB p.kind p.props
abbrev EncM (p : Pk) (r : Except E3 (Int × ByteArray)) : Prop := EncG (preM p) (propsM p) (firstM p.kind) (DecM (firstM p.kind)) (actsM p) r
theorem EncM.det {p : Pk} {r r' : Except E3 (Int × ByteArray)} (h : EncM p r) (h' : EncM p r') : r = r' := EncG.det (D := DecM (firstM p.kind)) (fun _ _ _ h1 h2 => h1.det h2) h h'
theorem firstM_kind {k : Int} (h : firstM k ≠ 0) : firstM k / 16 = k ∧ 0 < firstM k ∧ (k = 12 ∨ k = 13 ∨ k = 14 ∨ k = 15) := by
 unfold firstM at h ⊢
 split
 ·rename_i h1; omega
 ·rename_i h1; rw [if_neg h1] at h; exact absurd rfl h
theorem tailM_val {kind rea : Int} {l : List Pr} {s b : ByteArray} (hb : propsB kind l = .ok s) (hz : s.size ≤ 700000)
  (hc : catW (if l = [] then (if rea = 0 then [] else [⟨1,rea,emp⟩]) else [⟨1,rea,emp⟩,⟨8,0,s⟩]) = some b) :
  TailA kind 0 b 0 (if alw kind rea = false then .error (2,129,0) else .ok (rea,l.map plainP)) := by
 have he0 : emp.size = 0 := rfl
 unfold TailA
 by_cases hp : l = []
 ·rw [if_pos hp] at hc
  rw [hp,List.map_nil]
  by_cases hr : rea = 0
  ·rw [if_pos hr] at hc
   simp only [catW,Option.some.injEq] at hc
   subst hc
   rw [codeR_at (by omega),hr]
   by_cases ha : alw kind ((0 : Nat) : Int) = false
   ·have ha' : alw kind 0 = false := ha
    simp only [ha,ha',if_true]
   ·have ha' : ¬ alw kind 0 = false := ha
    rw [if_neg ha,if_neg ha',if_neg (by omega)]
    rfl
  ·rw [if_neg hr] at hc
   obtain ⟨m,c,g1,g2,rfl⟩ := catW_cons hc
   simp only [catW,Option.some.injEq] at g2
   subst g2
   obtain ⟨k,rfl,hk,rfl⟩ := inv1 g1
   have a1 := (At.zero (numB k 1 ++ emp)).num (k := 1) (by omega) (by omega)
   have hcode : codeR (numB k 1 ++ emp) 0 = (k,1) := by unfold codeR; rw [a1.1]
   rw [hcode]
   simp only
   by_cases ha : alw kind (k : Int) = false
   ·simp only [ha,if_true]
   ·rw [if_neg ha,if_neg ha,if_neg (by rw [size_app,numB_z (by omega),he0]; omega)]
 ·rw [if_neg hp] at hc
  obtain ⟨m,c,g1,g2,rfl⟩ := catW_cons hc
  obtain ⟨m',c',g3,g4,rfl⟩ := catW_cons g2
  simp only [catW,Option.some.injEq] at g4
  subst g4
  have := inv8 g3
  subst this
  obtain ⟨k,rfl,hk,rfl⟩ := inv1 g1
  have he : encP kind l = .ok m' := by
   unfold propsB at hb
   rw [if_neg hp] at hb
   exact hb
  have hpos := encP_pos he
  have a1 := (At.zero (numB k 1 ++ (m' ++ emp))).num (k := 1) (by omega) (by omega)
  have a2 := a1.2.props he hz
  have hcode : codeR (numB k 1 ++ (m' ++ emp)) 0 = (k,1) := by unfold codeR; rw [a1.1]
  have hfin := a2.2.fin
  rw [hcode]
  simp only
  by_cases ha : alw kind (k : Int) = false
  ·simp only [ha,if_true]
  ·rw [if_neg ha,if_neg ha,if_pos (by omega)]
   refine ⟨_,a2.1,?_⟩
   simp only [tailE]
   rw [if_pos (by omega)]
theorem decM_val {p : Pk} {s b : ByteArray} (hk : firstM p.kind ≠ 0) (hb : propsM p = .ok s) (hz : s.size ≤ 700000) (hc : catW (actsM p s) = some b) :
  DecM (firstM p.kind) b (if p.kind < 14 then .ok (msP p.kind 0 []) else if alw p.kind p.rea = false then .error (2,129,0) else .ok (msP p.kind p.rea (p.props.map plainP))) := by
 obtain ⟨k1,k2,k3⟩ := firstM_kind hk
 unfold DecM
 rw [k1]
 have hne : ¬ (firstM p.kind ≤ 0 ∨ firstM p.kind ≠ firstM p.kind) := fun h => h.elim (fun h => by omega) fun h => h rfl
 rw [if_neg hne]
 unfold actsM at hc
 unfold propsM at hb
 by_cases h14 : p.kind < 14
 ·rw [if_pos h14] at hc hb ⊢
  rw [if_pos h14]
  simp only [catW,Option.some.injEq] at hc
  subst hc
  rfl
 ·rw [if_neg h14] at hc hb ⊢
  rw [if_neg h14]
  refine ⟨_,tailM_val hb hz hc,?_⟩
  split <;> rfl
def msB (p : Pk) : Pk := if p.kind < 14 then msP p.kind 0 [] else msP p.kind p.rea (p.props.map plainP)
theorem msBack {p : Pk} {fb : Int × ByteArray} {r : Except E3 Pk} (h : EncM p (.ok fb)) (hf : fewPk p) (hd : DecM fb.1 fb.2 r) : r = .ok (msB p) := by
 obtain ⟨h0,s,b,y,h1,h2,rfl,h4⟩ := h.inv
 rw [DecM.det hd h4]
 have hk : firstM p.kind ≠ 0 := by
  unfold preM at h0
  split at h0
  ·cases h0
  ·assumption
 have hz : s.size ≤ 700000 := by
  unfold propsM propsB at h1
  split at h1
  ·simp only [Except.ok.injEq] at h1; subst h1; exact Nat.zero_le _
  ·split at h1
   ·simp only [Except.ok.injEq] at h1; subst h1; exact Nat.zero_le _
   ·have := encP_size hf.props h1; omega
 have := DecM.det h4 (decM_val hk h1 hz h2)
 rw [this]
 unfold msB
 split
 ·rfl
 ·rename_i h14
  rw [if_neg h14] at this
  split
  ·rename_i h; rw [if_pos h] at this; cases this
  ·rfl
theorem msAgain {f : Int} {s : ByteArray} {p : Pk} (h : DecM f s (.ok p)) (hs : s.size ≤ 2048) : ∃ b,EncM p (.ok (f,b)) ∧ DecM f b (.ok p) ∧ bigPk p ∧ b.size ≤ 800000 ∧ ∃ c l,p = msP (f / 16) c l := by
 unfold DecM at h
 split at h
 ·cases h
 rename_i hf
 have hf0 : ¬ f ≤ 0 := fun h => hf (.inl h)
 have hf1 : f = firstM (f / 16) := Decidable.byContradiction fun h => hf (.inr h)
 have hk : firstM (f / 16) ≠ 0 := by omega
 have he0 : emp.size = 0 := rfl
 have key : ∀ (c : Int) (l : List Pr) (sp b : ByteArray),p = msP (f / 16) c l → propsM p = .ok sp → sp.size ≤ 700000 → catW (actsM p sp) = some b → b.size ≤ 800000 → smallP l → (if p.kind < 14 then Except.ok (msP p.kind 0 []) else if alw p.kind p.rea = false then .error (2,129,0) else .ok (msP p.kind p.rea (p.props.map plainP)) : Except E3 Pk) = .ok p → ∃ b,EncM p (.ok (f,b)) ∧ DecM f b (.ok p) ∧ bigPk p ∧ b.size ≤ 800000 ∧ ∃ c l,p = msP (f / 16) c l := by
  intro c l sp b hp h1 h2 h3 h4 h5 h6
  have hkp : p.kind = f / 16 := by rw [hp]; rfl
  have hv := decM_val (p := p) (by rw [hkp]; exact hk) h1 h2 h3
  rw [h6,hkp,← hf1] at hv
  refine ⟨b,?_,hv,?_,h4,c,l,hp⟩
  ·unfold EncM preM
   rw [if_neg (by rw [hkp]; exact hk),h1,hkp,← hf1]
   exact EncG.mk h3 hv
  ·rw [hp]
   refine ⟨h5,small_nil,?_,?_,?_,?_,?_,?_,?_⟩
   all_goals (show emp.size ≤ 2100; rw [he0]; omega)
 split at h
 ·rename_i h14
  unfold msEnd at h
  split at h
  ·simp only [Except.ok.injEq] at h
   have hkp : p.kind < 14 := by rw [h]; exact h14
   refine key 0 [] emp emp h (by unfold propsM; rw [if_pos hkp]) (Nat.zero_le _) (by unfold actsM; rw [if_pos hkp]; rfl) (Nat.zero_le _) small_nil ?_
   rw [if_pos hkp,h]
   rfl
  ·cases h
 rename_i h14
 obtain ⟨x,hx,h3⟩ := h
 cases x with
 | error e => cases h3
 | ok cl =>
  obtain ⟨c,l⟩ := cl
  simp only [msM,Except.ok.injEq] at h3
  have hkp : p.kind = f / 16 := by rw [h3]; rfl
  have hpc : p.rea = c := by rw [h3]; rfl
  have hpl : p.props = l := by rw [h3]; rfl
  unfold TailA at hx
  split at hx
  ·cases hx
  rename_i ha
  have hcl := codeR_lt (s := s) (q := 0)
  have hcq := codeR_le (s := s) (q := 0) (Nat.zero_le _)
  have hcase : c = ((codeR s 0).1 : Int) ∧ ∃ sp,propsB (f / 16) l = .ok sp ∧ sp.size ≤ 700000 ∧ l.map plainP = l ∧ smallP l := by
   split at hx
   ·obtain ⟨y,h1,h2⟩ := hx
    cases y with
    | error e => cases h2
    | ok lq =>
     obtain ⟨l',q'⟩ := lq
     simp only [tailE] at h2
     split at h2
     ·simp only [Except.ok.injEq,Prod.mk.injEq] at h2
      obtain ⟨rfl,rfl⟩ := h2
      obtain ⟨cc,w1,w2,w3,w4,w5⟩ := ReadP_w hs hcq h1
      refine ⟨rfl,?_⟩
      by_cases hl : l = []
      ·exact ⟨emp,by unfold propsB; rw [if_pos hl],Nat.zero_le _,map_plain w4,w5⟩
      ·exact ⟨cc,by unfold propsB; rw [if_neg hl,w1],w2,map_plain w4,w5⟩
     ·cases h2
   ·simp only [Except.ok.injEq,Prod.mk.injEq] at hx
    obtain ⟨rfl,rfl⟩ := hx
    exact ⟨rfl,emp,by unfold propsB; rw [if_pos rfl],Nat.zero_le _,rfl,small_nil⟩
  obtain ⟨hc,sp,e1,e2,e3,e4⟩ := hcase
  have hw : actW ⟨1,c,emp⟩ = .inl (numB (codeR s 0).1 1) := by rw [hc]; exact w1 hcl
  have s1 : (numB (codeR s 0).1 1).size ≤ 4 := numB_size _ _
  have hcat : ∃ b,catW (actsM p sp) = some b ∧ b.size ≤ 800000 := by
   unfold actsM
   rw [if_neg (by omega),hpl,hpc]
   by_cases hl : l = []
   ·rw [if_pos hl]
    by_cases hr : c = 0
    ·rw [if_pos hr]; exact ⟨emp,rfl,Nat.zero_le _⟩
    ·rw [if_neg hr]; exact ⟨_,catW_1 hw rfl,by rw [size_app,he0]; omega⟩
   ·rw [if_neg hl]; exact ⟨_,catW_1 hw (catW_1 w8 rfl),by simp only [size_app,he0]; omega⟩
  obtain ⟨b,hb1,hb2⟩ := hcat
  refine key c l sp b h3 (by unfold propsM; rw [if_neg (by omega),hkp,hpl]; exact e1) e2 hb1 hb2 e4 ?_
  rw [if_neg (by omega),hkp,hpc,hpl,if_neg (by rw [hc]; exact ha),e3,h3]
set_option maxHeartbeats 8000000
attribute [local irreducible] afterS afterOpS opSK OpsS TrS CodeS condS condW thenS thenQ guardS guardTS outS drawS trSK consS
theorem shl_12 {σ : AHeap} {t : Nat} {cs : Bool} : abin E σ .shl t cs (.int .i64 12) (.int .u64 4) = some (.int .i64 192) := rfl
theorem shl_13 {σ : AHeap} {t : Nat} {cs : Bool} : abin E σ .shl t cs (.int .i64 13) (.int .u64 4) = some (.int .i64 208) := rfl
theorem shl_14 {σ : AHeap} {t : Nat} {cs : Bool} : abin E σ .shl t cs (.int .i64 14) (.int .u64 4) = some (.int .i64 224) := rfl
theorem shl_15 {σ : AHeap} {t : Nat} {cs : Bool} : abin E σ .shl t cs (.int .i64 15) (.int .u64 4) = some (.int .i64 240) := rfl
section
variable {σ : AHeap} {Q : Value → AHeap → Prop} {s : ByteArray}
theorem specMsFirst {k : Int} (h : Q (.int .i64 (firstM k)) σ) : CallS E B 78 [.int .i64 k] σ Q := by
 refine call78 (by simp) ?_
 simp only [strip,bodyOf,Tryz.f78,getD_body,keepN,bareOp_mk,List.map_cons,List.map_nil,↓reduceIte,Bool.false_eq_true]
 by_cases hm : k = 12 ∨ k = 13 ∨ k = 14 ∨ k = 15
 ·rcases hm with rfl | rfl | rfl | rfl <;>
   (simp only [↓sbD,sbU,Int.reduceEq,decide_false,↓reduceIte,Nat.reduceEqDiff,Nat.reduceLT,reduceCtorEq,isConst,shl_12,shl_13,shl_14,shl_15]
    exact downS_here h)
 ·have e : firstM k = 0 := if_neg hm
  simp only [not_or] at hm
  rw [e] at h
  obtain ⟨n1,n2,n3,n4⟩ := hm
  simp only [↓sbD,sbU,decide_false,↓reduceIte,Nat.reduceEqDiff,Nat.reduceLT,reduceCtorEq,isConst,n1,n2,n3,n4]
  exact downS_here h
theorem firstM_le (k : Int) : 0 ≤ firstM k ∧ firstM k ≤ 240 := by
 unfold firstM
 split <;> omega
theorem specTells {k : Int} (h : Q (.bool (decide (k = 14 ∨ k = 15))) σ) : CallS E B 79 [.int .i64 k] σ Q := by
 refine call79 (by simp) ?_
 simp only [strip,bodyOf,Tryz.f79,getD_body,keepN,bareOp_mk,List.map_cons,List.map_nil,↓reduceIte,Bool.false_eq_true]
 by_cases h1 : k = 14
 ·have e : decide (k = 14 ∨ k = 15) = true := decide_eq_true (.inl h1)
  rw [e] at h
  simp only [↓sbD,sbU,↓reduceIte,Nat.reduceEqDiff,Nat.reduceLT,reduceCtorEq,isConst,h1]
  exact downS_here h
 by_cases h2 : k = 15
 ·have e : decide (k = 14 ∨ k = 15) = true := decide_eq_true (.inr h2)
  rw [e] at h
  simp only [↓sbD,sbU,Int.reduceEq,decide_false,↓reduceIte,Nat.reduceEqDiff,Nat.reduceLT,reduceCtorEq,isConst,h2]
  exact downS_here h
 have e : decide (k = 14 ∨ k = 15) = false := decide_eq_false (fun h => h.elim h1 h2)
 rw [e] at h
 simp only [↓sbD,sbU,decide_false,↓reduceIte,Nat.reduceEqDiff,Nat.reduceLT,reduceCtorEq,isConst,h1,h2]
 exact downS_here h
theorem Kept.addD {σ σ' : AHeap} {fp : List Nat} {x d : Nat} (k : Kept σ fp σ' [x]) (hd : σ.get d = .dead) : Kept σ fp σ' [x,d] := ⟨k.get,fun b hb => by
 simp only [List.mem_cons,List.not_mem_nil,or_false] at hb
 rcases hb with rfl | rfl
 ·exact k.new b (by simp)
 ·exact .inr hd⟩
theorem specAlwR' {k c c' : Int} (e : c' = c) (h : Q (.bool (alw k c)) σ) : CallS E B 123 [.int .i64 k,.int .i64 c'] σ Q := by
 subst e; exact specAlwR h
theorem specMsRead {k : Int} {r y : Nat} (hk : k = 14 ∨ k = 15) (hr : IsR σ r s 0 .nilIface) (hs : s.size ≤ 100000000) (hyr : y ≠ r) (gy : σ.get y = .cells [.int .i64 k,.int .i64 0,.int .i64 0,.slice none 0 0,.bool false,.int .i64 0,.string emp,.bool false,.string emp,.string emp,.int .i64 0,.bool false,.slice none 0 0,.bool false,.string emp,.bool false,.string emp,.bool false,.string emp,.string emp,.int .i64 0,.bool false,.bool false,.slice none 0 0,.slice none 0 0,.slice none 0 0] true 0)
  (hok : ∀ (c : Nat) l q,q ≤ s.size → TailA k 0 s 0 (tailE s c (.ok (l,q))) → ∀ v σ',DL propC 4 v l → Kept σ [r,y] σ' [r,y] → IsR σ' r s q .nilIface → σ'.get y = .cells [.int .i64 k,.int .i64 0,.int .i64 (c : Int),v,.bool false,.int .i64 0,.string emp,.bool false,.string emp,.string emp,.int .i64 0,.bool false,.slice none 0 0,.bool false,.string emp,.bool false,.string emp,.bool false,.string emp,.string emp,.int .i64 0,.bool false,.bool false,.slice none 0 0,.slice none 0 0,.slice none 0 0] true 0 → Q .nilIface σ')
  (hbad : ∀ kk rr a : Nat,TailA k 0 s 0 (.error (kk,rr,a)) → ∀ σ' d z,Kept σ [r,y] σ' [r,y] → d ≤ 3 → ErN d (fv rr a z) kk → Q (fv rr a z) σ') :
  CallS E B 83 [.pointer (some ⟨r,0,none⟩),.pointer (some ⟨y,0,none⟩)] σ Q := by
 have WI : ∀ {τ τ' : AHeap},Kept τ [r] τ' [r] → Kept τ [r,y] τ' [r,y] := fun k => k.wid (fun _ h => by simp only [List.mem_cons,List.not_mem_nil,or_false] at h ⊢; exact .inl h) (fun _ h => by simp only [List.mem_cons,List.not_mem_nil,or_false] at h ⊢; exact .inr h)
 unfold TailA at hok hbad
 refine call83 (by simp) ?_
 simp only [strip,bodyOf,Tryz.f83,getD_body,keepN,bareOp_mk,List.map_cons,List.map_nil,↓reduceIte,Bool.false_eq_true]
 simp (disch := first | assumption | simp) only [↓sbD,sbU,↓reduceIte,Nat.reduceLT,reduceCtorEq]
 refine specRLeft hr (Nat.zero_le _) (by omega) ?_
 obtain ⟨n,q,hcq⟩ : ∃ n q,codeR s 0 = (n,q) := ⟨_,_,rfl⟩
 rw [hcq] at hok hbad
 simp only at hok hbad
 by_cases hlt : 0 < s.size
 focus
  have h0 : (0 : Int) < ((s.size - 0 : Nat) : Int) := by omega
  obtain ⟨n0,hn⟩ := numR_one (q := 0) hlt
  have hc : codeR s 0 = (n0,0 + 1) := by unfold codeR; rw [hn]
  rw [hcq] at hc
  simp only [Prod.mk.injEq] at hc
  obtain ⟨rfl,hq0⟩ := hc
  simp (disch := first | assumption | simp) only [↓sbD,sbU,↓reduceIte,Nat.reduceEqDiff,Nat.reduceLT,reduceCtorEq,isConst,h0]
  refine specRU8 hr (Nat.zero_le _) (by omega) (fun n' q' hn' σ1 k1 i1 => ?_) fun k q' hn' σ1 k1 i1 => by rw [hn] at hn'; cases hn'
  rw [hn] at hn'
  simp only [Except.ok.injEq,Prod.mk.injEq] at hn'
  obtain ⟨rfl,rfl⟩ := hn'
  have gy1 := (k1.at gy (by simp) (by simp [hyr])).1
  simp (disch := first | assumption | simp) only [↓sbD,sbU,tyB,↓reduceIte,Nat.reduceEqDiff,Nat.reduceLT,Nat.reduceAdd,Nat.reduceLeDiff,reduceCtorEq,splice,gy1]
  generalize hσ2 : AHeap.set σ1 y _ = σ2
  have K2 : Kept σ [r,y] σ2 [r,y] := (WI k1).trans (by rw [← hσ2]; exact Kept.set (by simp))
  have i2 : IsR σ2 r s q .nilIface := by rw [hq0,← hσ2]; unfold IsR; rw [AHeap.get_set_ne _ _ hyr]; exact i1
  have gy2 : σ2.get y = .cells [.int .i64 k,.int .i64 0,.int .i64 (n : Int),.slice none 0 0,.bool false,.int .i64 0,.string emp,.bool false,.string emp,.string emp,.int .i64 0,.bool false,.slice none 0 0,.bool false,.string emp,.bool false,.string emp,.bool false,.string emp,.string emp,.int .i64 0,.bool false,.bool false,.slice none 0 0,.slice none 0 0,.slice none 0 0] true 0 := by rw [← hσ2]; exact AHeap.get_set_same _ _ _
  clear hσ2
  have hq1 : q ≤ s.size := by omega
  try simp (disch := first | assumption | simp) only [↓sbD,sbU,tyB,Nat.reduceMul,Nat.reduceSub,Int.reduceEq,Int.reduceLT,Int.reduceLE,Int.reduceNe,Nat.reduceBneDiff,Nat.reduceBEq,decide_false,gt_iff_lt,Bool.or_self,Bool.false_eq_true,Nat.mul_one,Nat.one_mul,Nat.zero_mul,↓reduceIte,Nat.reduceEqDiff,Nat.reduceLT,Nat.reduceAdd,Nat.reduceLeDiff,reduceCtorEq,goInt,pairs,isConst,TI.isAgg,splice,boxS,Edp,dpv,Nat.beq_eq,ZV.val,List.any_cons,List.any_nil,Bool.false_and,gy2]
  clear hn
  have hN : (n : Int) = (n : Int) := rfl
 rotate_left
 focus
  have h0 : ¬ (0 : Int) < ((s.size - 0 : Nat) : Int) := by omega
  obtain ⟨hn0,hq0⟩ : n = 0 ∧ q = 0 := by rw [codeR_at hlt] at hcq; simp only [Prod.mk.injEq] at hcq; exact ⟨hcq.1.symm,hcq.2.symm⟩
  simp (disch := first | assumption | simp) only [↓sbD,sbU,tyB,decide_false,↓reduceIte,Nat.reduceEqDiff,Nat.reduceLT,reduceCtorEq,isConst,h0,gy]
  have gy2 : σ.get y = .cells [.int .i64 k,.int .i64 0,.int .i64 (n : Int),.slice none 0 0,.bool false,.int .i64 0,.string emp,.bool false,.string emp,.string emp,.int .i64 0,.bool false,.slice none 0 0,.bool false,.string emp,.bool false,.string emp,.bool false,.string emp,.string emp,.int .i64 0,.bool false,.bool false,.slice none 0 0,.slice none 0 0,.slice none 0 0] true 0 := by rw [hn0]; exact gy
  have hN : (0 : Int) = (n : Int) := by omega
  have i2 : IsR σ r s q .nilIface := by rw [hq0]; exact hr
  have hq1 : q ≤ s.size := by omega
  have K2 : Kept σ [r,y] σ [r,y] := Kept.refl _ _
 all_goals
  refine specAlwR' hN ?_
  cases ha : alw k (n : Int) with
  | false =>
   simp only [ha,if_true] at hbad
   simp (disch := first | assumption | simp) only [↓sbD,sbU,tyB,↓reduceIte,Nat.reduceLT,not_bool,gk2]
   refine specNew (n := 2) ⟨by omega,by omega⟩ ?_
   simp (disch := first | assumption | simp) only [↓sbD,sbU,↓reduceIte,Nat.reduceLT]
   exact downS_here (hbad 2 129 _ rfl _ 1 _ K2 (by omega) (ErN.new _ _ ⟨by omega,by omega⟩))
  | true =>
   simp only [ha,Bool.true_eq_false,if_false] at hok hbad
   simp (disch := first | assumption | simp) only [↓sbD,sbU,↓reduceIte,Nat.reduceLT,reduceCtorEq,not_bool]
   refine specRLeft i2 hq1 (by omega) ?_
   by_cases hl2 : q < s.size
   ·have h2 : ¬ ((s.size - q : Nat) : Int) = 0 := by omega
    simp only [hl2,if_true] at hok hbad
    simp (disch := first | assumption | simp) only [↓sbD,sbU,tyB,decide_false,↓reduceIte,Nat.reduceEqDiff,Nat.reduceLT,reduceCtorEq,isConst,h2,gy2]
    refine specPRead i2 hq1 hs (fun l q2 hrd v σ3 hv k3 i3 hq2 => ?_) fun kk rr a hrd σ3 d z k3 hd he => ?_
    all_goals
     have gy3 := (k3.at gy2 (by simp) (by simp [hyr])).1
    ·have hvc := dl_vc hv
     simp (disch := first | assumption | simp) only [↓sbD,sbU,tyB,↓reduceIte,Nat.reduceEqDiff,Nat.reduceLT,Nat.reduceAdd,Nat.reduceLeDiff,reduceCtorEq,splice,gy3,hvc.1,hvc.2]
     generalize hσ4 : AHeap.set σ3 y _ = σ4
     have K4 : Kept σ [r,y] σ4 [r,y] := (K2.trans (WI k3)).trans (by rw [← hσ4]; exact Kept.set (by simp))
     have i4 : IsR σ4 r s q2 .nilIface := by rw [← hσ4]; unfold IsR; rw [AHeap.get_set_ne _ _ hyr]; exact i3
     have gy4 : σ4.get y = .cells [.int .i64 k,.int .i64 0,.int .i64 (n : Int),v,.bool false,.int .i64 0,.string emp,.bool false,.string emp,.string emp,.int .i64 0,.bool false,.slice none 0 0,.bool false,.string emp,.bool false,.string emp,.bool false,.string emp,.string emp,.int .i64 0,.bool false,.bool false,.slice none 0 0,.slice none 0 0,.slice none 0 0] true 0 := by rw [← hσ4]; exact AHeap.get_set_same _ _ _
     clear hσ4
     try simp (disch := first | assumption | simp) only [↓sbD,sbU,tyB,Nat.reduceMul,Nat.reduceSub,Int.reduceEq,Int.reduceLT,Int.reduceLE,Int.reduceNe,Nat.reduceBneDiff,Nat.reduceBEq,decide_false,gt_iff_lt,Bool.or_self,Bool.false_eq_true,Nat.mul_one,Nat.one_mul,Nat.zero_mul,↓reduceIte,Nat.reduceEqDiff,Nat.reduceLT,Nat.reduceAdd,Nat.reduceLeDiff,reduceCtorEq,goInt,pairs,isConst,TI.isAgg,splice,boxS,Edp,dpv,Nat.beq_eq,ZV.val,List.any_cons,List.any_nil,Bool.false_and]
     exact downS_here (hok n l q2 hq2 ⟨_,hrd,rfl⟩ v _ hv K4 i4 gy4)
    ·simp (disch := first | assumption | simp) only [↓sbD,sbU,tyB,↓reduceIte,Nat.reduceEqDiff,Nat.reduceLT,Nat.reduceAdd,Nat.reduceLeDiff,reduceCtorEq,splice,gy3]
     exact downS_here (hbad kk rr a ⟨_,hrd,rfl⟩ _ d z ((K2.trans (WI k3)).trans (Kept.set (by simp))) hd he)
   ·have h2 : ((s.size - q : Nat) : Int) = 0 := by omega
    simp only [hl2,if_false] at hok hbad
    simp (disch := first | assumption | simp) only [↓sbD,sbU,↓reduceIte,Nat.reduceLT,isConst,h2]
    have hqe : q = s.size := by omega
    exact downS_here (hok n [] q hq1 (by simp only [tailE]; rw [if_pos hqe]) _ _ (.inl ⟨rfl,rfl⟩) K2 i2 gy2)
theorem specMsDec {f : Int} (hs : s.size ≤ 100000000)
  (hok : ∀ p,DecM f s (.ok p) → ∀ v σ',PkV p v → Kept σ [] σ' [] → Q (.tuple #[v,.nilIface]) σ')
  (hbad : ∀ k rr a : Nat,DecM f s (.error (k,rr,a)) → ∀ σ' d z,Kept σ [] σ' [] → d ≤ 3 → ErN d (fv rr a z) k → Q (.tuple #[.agg ⟨zeL⟩,fv rr a z]) σ') :
  CallS E B 35 [.agg ⟨[.int .i64 f,.string s]⟩] σ Q := by
 unfold DecM at hok hbad
 refine call35 (by simp) ?_
 simp only [strip,bodyOf,Tryz.f35,getD_body,keepN,bareOp_mk,lessOp_mk,List.map_cons,List.map_nil,↓reduceIte,Nat.reduceEqDiff,Bool.false_eq_true]
 have hsh : ∀ (σ : AHeap) (t : Nat) (cs : Bool),abin E σ .shr t cs (.int .i64 f) (.int .u64 4) = some (.int .i64 (f / 16)) := fun σ t cs => shr4
 by_cases h1 : f ≤ 0
 ·simp only [if_pos (show f ≤ 0 ∨ f ≠ firstM (f / 16) from .inl h1)] at hbad
  simp (disch := first | assumption | simp) only [↓sbD,sbU,tyB,↓reduceIte,Nat.reduceEqDiff,Nat.reduceLT,Nat.reduceAdd,Nat.reduceLeDiff,reduceCtorEq,pairs,isConst,splice,boxS,Edp,dpv,ZV.val,AS_new,zePk,hsh,h1]
  intro b hb d hd
  have hdb : d ≠ b := by rintro rfl; rw [AHeap.get_set_same] at hd; cases hd
  replace hd : σ.get d = .dead := by rw [AHeap.get_set_ne _ _ hdb.symm] at hd; exact hd
  have db : ∀ (τ : AHeap) o,(AHeap.set τ d o).get b = τ.get b := fun τ o => AHeap.get_set_ne _ _ hdb
  have bd : ∀ (τ : AHeap) o,(AHeap.set τ b o).get d = τ.get d := fun τ o => AHeap.get_set_ne _ _ hdb.symm
  try simp (disch := first | assumption | simp) only [↓sbD,sbU,tyB,Nat.reduceMul,Nat.reduceSub,Int.reduceEq,Int.reduceLT,Int.reduceLE,Int.reduceNe,Nat.reduceBneDiff,Nat.reduceBEq,decide_false,gt_iff_lt,Bool.or_self,Bool.false_eq_true,Nat.mul_one,Nat.one_mul,Nat.zero_mul,↓reduceIte,Nat.reduceEqDiff,Nat.reduceLT,Nat.reduceAdd,Nat.reduceLeDiff,reduceCtorEq,goInt,pairs,isConst,TI.isAgg,splice,boxS,Edp,dpv,Nat.beq_eq,ZV.val,List.any_cons,List.any_nil,Bool.false_and,AHeap.get_set_same,db,bd,h1]
  refine drawS_l (fl := [(5,8)]) (by kernel_rfl) ?_ ?_
  rotate_left; simp only [lastP_cc,lastP_one]; rotate_left
  ·simp only [List.all_cons,List.all_nil,floatS,List.getElem?_cons_succ,List.getElem?_cons_zero,List.getElem?_toArray,Region.wanted,reads,looksWeak,aev_tmp,upd_at,↓reduceIte,Nat.reduceEqDiff,Nat.reduceLT,Nat.reduceAdd,blkOf,oeq_refl,Bool.and_true,Bool.and_self,Bool.false_eq_true,yield_list,yield_here,yield_next,truth_bool]
   try rfl
  simp (disch := first | assumption | simp) only [↓sbD,sbU,tyB,↓reduceIte,Nat.reduceLT,pairs,ZV.val,gk2]
  refine specNew (n := 2) ⟨by omega,by omega⟩ ?_
  simp (disch := first | assumption | simp) only [↓sbD,sbU,tyB,↓reduceIte,Nat.reduceEqDiff,Nat.reduceLT,Nat.reduceAdd,Nat.reduceLeDiff,splice,db,res_cellc,resC_some]
  exact downS_here (hbad 2 129 0 rfl _ 1 _ (((((Kept.refl σ []).setD hb).setD hd).setD hd).setD hb) (by omega) (ErN.new _ _ ⟨by omega,by omega⟩))
 simp (disch := first | assumption | simp) only [↓sbD,sbU,tyB,decide_false,↓reduceIte,Nat.reduceEqDiff,Nat.reduceLT,Nat.reduceAdd,Nat.reduceLeDiff,reduceCtorEq,pairs,isConst,splice,boxS,Edp,dpv,ZV.val,AS_new,zePk,hsh,h1]
 intro b hb d hd
 have hdb : d ≠ b := by rintro rfl; rw [AHeap.get_set_same] at hd; cases hd
 replace hd : σ.get d = .dead := by rw [AHeap.get_set_ne _ _ hdb.symm] at hd; exact hd
 have db : ∀ (τ : AHeap) o,(AHeap.set τ d o).get b = τ.get b := fun τ o => AHeap.get_set_ne _ _ hdb
 have bd : ∀ (τ : AHeap) o,(AHeap.set τ b o).get d = τ.get d := fun τ o => AHeap.get_set_ne _ _ hdb.symm
 try simp (disch := first | assumption | simp) only [↓sbD,sbU,tyB,Nat.reduceMul,Nat.reduceSub,Int.reduceEq,Int.reduceLT,Int.reduceLE,Int.reduceNe,Nat.reduceBneDiff,Nat.reduceBEq,decide_false,gt_iff_lt,Bool.or_self,Bool.false_eq_true,Nat.mul_one,Nat.one_mul,Nat.zero_mul,↓reduceIte,Nat.reduceEqDiff,Nat.reduceLT,Nat.reduceAdd,Nat.reduceLeDiff,reduceCtorEq,goInt,pairs,isConst,TI.isAgg,splice,boxS,Edp,dpv,Nat.beq_eq,ZV.val,List.any_cons,List.any_nil,Bool.false_and,AHeap.get_set_same,db,bd,h1]
 refine specMsFirst ?_
 by_cases h2 : f = firstM (f / 16)
 rotate_left
 ·simp only [if_pos (show f ≤ 0 ∨ f ≠ firstM (f / 16) from .inr h2)] at hbad
  simp (disch := first | assumption | simp) only [↓sbD,sbU,Bool.or_self,↓reduceIte,Nat.reduceEqDiff,Nat.reduceLT,isConst,h2]
  refine drawS_l (fl := [(5,8)]) (by kernel_rfl) ?_ ?_
  rotate_left; simp only [lastP_cc,lastP_one]; rotate_left
  ·simp only [List.all_cons,List.all_nil,floatS,List.getElem?_cons_succ,List.getElem?_cons_zero,List.getElem?_toArray,Region.wanted,Bool.or_true,reads,looksWeak,aev_tmp,upd_at,↓reduceIte,Nat.reduceEqDiff,Nat.reduceLT,Nat.reduceAdd,blkOf,oeq_refl,Bool.and_true,Bool.and_self,Bool.false_eq_true,yield_list,yield_here,yield_next,truth_bool]
   try rfl
  simp (disch := first | assumption | simp) only [↓sbD,sbU,tyB,↓reduceIte,Nat.reduceLT,pairs,ZV.val,gk2]
  refine specNew (n := 2) ⟨by omega,by omega⟩ ?_
  simp (disch := first | assumption | simp) only [↓sbD,sbU,tyB,↓reduceIte,Nat.reduceEqDiff,Nat.reduceLT,Nat.reduceAdd,Nat.reduceLeDiff,splice,db,res_cellc,resC_some]
  exact downS_here (hbad 2 129 0 rfl _ 1 _ (((((Kept.refl σ []).setD hb).setD hd).setD hd).setD hb) (by omega) (ErN.new _ _ ⟨by omega,by omega⟩))
 have hne : ¬ (f ≤ 0 ∨ f ≠ firstM (f / 16)) := fun h => h.elim h1 fun h => h h2
 simp only [if_neg hne] at hok hbad
 simp (disch := first | assumption | simp) only [↓sbD,sbU,decide_false,Bool.or_self,↓reduceIte,Nat.reduceEqDiff,Nat.reduceLT,isConst,← h2]
 refine drawS_l (fl := [(5,8)]) (by kernel_rfl) ?_ ?_
 rotate_left; simp only [lastP_cc,lastP_one]; rotate_left
 ·simp only [List.all_cons,List.all_nil,floatS,List.getElem?_cons_succ,List.getElem?_cons_zero,List.getElem?_toArray,Region.wanted,Bool.or_true,reads,looksWeak,aev_tmp,upd_at,↓reduceIte,Nat.reduceEqDiff,Nat.reduceLT,Nat.reduceAdd,blkOf,oeq_refl,Bool.and_true,Bool.and_self,Bool.false_eq_true,yield_list,yield_here,yield_next,truth_bool]
  try rfl
 generalize hσ1 : AHeap.set _ d _ = σ1
 have K1 : Kept σ [] σ1 [] := by rw [← hσ1]; exact (((Kept.refl σ []).setD hb).setD hd).setD hd
 have gb1 : σ1.get b = .cells [.int .i64 0,.int .i64 0,.int .i64 0,.slice none 0 0,.bool false,.int .i64 0,.string emp,.bool false,.string emp,.string emp,.int .i64 0,.bool false,.slice none 0 0,.bool false,.string emp,.bool false,.string emp,.bool false,.string emp,.string emp,.int .i64 0,.bool false,.bool false,.slice none 0 0,.slice none 0 0,.slice none 0 0] true 0 := by rw [← hσ1,db,db]; exact AHeap.get_set_same _ _ _
 have gd1 : σ1.get d = .cells [.int .i64 (f / 16),.int .i64 0,.int .i64 0,.slice none 0 0,.bool false,.int .i64 0,.string emp,.bool false,.string emp,.string emp,.int .i64 0,.bool false,.slice none 0 0,.bool false,.string emp,.bool false,.string emp,.bool false,.string emp,.string emp,.int .i64 0,.bool false,.bool false,.slice none 0 0,.slice none 0 0,.slice none 0 0] true 0 := by rw [← hσ1]; exact AHeap.get_set_same _ _ _
 clear hσ1
 have kge : f / 16 = 12 ∨ f / 16 = 13 ∨ f / 16 = 14 ∨ f / 16 = 15 := by
  by_cases h : f / 16 = 12 ∨ f / 16 = 13 ∨ f / 16 = 14 ∨ f / 16 = 15
  ·exact h
  ·rw [firstM,if_neg h] at h2; exact absurd h2 (by omega)
 simp (disch := first | assumption | simp) only [↓sbD,sbU,tyB,↓reduceIte,Nat.reduceEqDiff,Nat.reduceLT,reduceCtorEq]
 refine specRNew fun x σ2 hx k2 i2 => ?_
 have hbx : b ≠ x := by rintro rfl; rw [gb1] at hx; cases hx
 have hdx : d ≠ x := by rintro rfl; rw [gd1] at hx; cases hx
 have K2 := K1.trans k2
 have gb2 := (k2.at gb1 (by simp) (by simp)).1
 have gd2 := (k2.at gd1 (by simp) (by simp)).1
 simp (disch := first | assumption | simp) only [↓sbD,sbU,tyB,↓reduceIte,Nat.reduceEqDiff,Nat.reduceLT,reduceCtorEq,gd2]
 refine specTells ?_
 by_cases h14 : f / 16 < 14
 ·have hd0 : decide (f / 16 = 14 ∨ f / 16 = 15) = false := decide_eq_false (by omega)
  simp only [if_pos h14] at hok hbad
  unfold msEnd at hok hbad
  simp (disch := first | assumption | simp) only [↓sbD,sbU,tyB,↓reduceIte,Nat.reduceEqDiff,Nat.reduceLT,isConst,hd0]
  refine specRDone i2 (Nat.zero_le _) (by omega) (fun hend => ?_) fun hmore => ?_
  ·simp only [if_pos hend.symm] at hok
   simp (disch := first | assumption | simp) only [↓sbD,sbU,tyB,↓reduceIte,Nat.reduceEqDiff,Nat.reduceLT,Nat.reduceAdd,Nat.reduceLeDiff,isConst,splice,gb2,gd2,res_cellc,resC_some]
   exact downS_here (hok _ rfl _ _ ⟨_,_,_,_,_,.inl ⟨rfl,rfl⟩,.inl ⟨rfl,rfl⟩,.inl ⟨rfl,rfl⟩,.inl ⟨rfl,rfl⟩,.inl ⟨rfl,rfl⟩,rfl⟩ ((K2.wid (gp := []) (gp' := []) (fun _ h => by cases h) (fun _ h => by cases h)).setD hb))
  ·simp only [if_neg (show ¬ s.size = 0 by omega)] at hbad
   simp (disch := first | assumption | simp) only [↓sbD,sbU,tyB,↓reduceIte,Nat.reduceEqDiff,Nat.reduceLT,Nat.reduceAdd,Nat.reduceLeDiff,pairs,isConst,splice,ZV.val,gb2,res_cellc,resC_some]
   exact downS_here (hbad 2 129 0 rfl _ 1 _ ((K2.wid (gp := []) (gp' := []) (fun _ h => by cases h) (fun _ h => by cases h)).setD hb) (by omega) (ErN.new _ _ ⟨by omega,by omega⟩))
 have TT : ∀ {σ' : AHeap},Kept σ2 [x,d] σ' [x,d] → Kept σ [] σ' [] := fun k3 => ((K2.addD hd).trans k3).none
 have hd1 : decide (f / 16 = 14 ∨ f / 16 = 15) = true := decide_eq_true (by omega)
 simp only [if_neg h14] at hok hbad
 simp (disch := first | assumption | simp) only [↓sbD,sbU,↓reduceIte,Nat.reduceEqDiff,Nat.reduceLT,hd1]
 refine specMsRead (by omega) i2 hs hdx gd2 (fun c l q hq ht v σ3 hv k3 i3 gd3 => ?_) fun kk rr a ht σ3 d' z k3 hd' he => ?_
 all_goals
  have gb3 := (k3.at gb2 (by simp) (by simp [hbx,Ne.symm hdb])).1
 rotate_left
 ·simp (disch := first | assumption | simp) only [↓sbD,sbU,tyB,↓reduceIte,Nat.reduceEqDiff,Nat.reduceLT,Nat.reduceAdd,Nat.reduceLeDiff,pairs,isConst,splice,ZV.val,gb3,res_cellc,resC_some]
  exact downS_here (hbad kk rr a ⟨_,ht,rfl⟩ _ d' z ((TT k3).setD hb) hd' he)
 have hvc := dl_vc hv
 simp (disch := first | assumption | simp) only [↓sbD,sbU,tyB,↓reduceIte,Nat.reduceEqDiff,Nat.reduceLT,isConst]
 refine specRDone i3 hq (by omega) (fun hend => ?_) fun hmore => ?_
 ·simp (disch := first | assumption | simp) only [↓sbD,sbU,tyB,↓reduceIte,Nat.reduceEqDiff,Nat.reduceLT,Nat.reduceAdd,Nat.reduceLeDiff,isConst,splice,gb3,gd3,hvc.2,res_cellc,resC_some]
  exact downS_here (hok _ ⟨_,by simp only [tailE,if_pos hend] at ht; exact ht,rfl⟩ _ _ ⟨_,_,_,_,_,hv,.inl ⟨rfl,rfl⟩,.inl ⟨rfl,rfl⟩,.inl ⟨rfl,rfl⟩,.inl ⟨rfl,rfl⟩,rfl⟩ ((TT k3).setD hb))
 ·simp (disch := first | assumption | simp) only [↓sbD,sbU,tyB,↓reduceIte,Nat.reduceEqDiff,Nat.reduceLT,Nat.reduceAdd,Nat.reduceLeDiff,pairs,isConst,splice,ZV.val,gb3,res_cellc,resC_some]
  exact downS_here (hbad 2 129 q ⟨_,by simp only [tailE,if_neg (show ¬ q = s.size by omega)] at ht; exact ht,rfl⟩ _ 1 _ ((TT k3).setD hb) (by omega) (ErN.new _ _ ⟨by omega,by omega⟩))
theorem specMsWrite {p : Pk} {v : Value} {w : Nat} (hp : PkV p v) (hsm : smallP p.props) (h14 : ¬ p.kind < 14) (w2 : WRun σ w (runW emp []) [w])
  (hok : ∀ c,propsB p.kind p.props = .ok c → ∀ σ' fp',Kept σ [w] σ' fp' → WRun σ' w (runW emp (actsM p c)) fp' → leW (runW emp (actsM p c)) 800000 → Q .nilIface σ')
  (hbad : ∀ k r a d z,propsB p.kind p.props = .error (k,r,a) → d ≤ 2 → ErN d (fv r a z) k → ∀ σ' fp',Kept σ [w] σ' fp' → Q (fv r a z) σ') :
  CallS E B 80 [.pointer (some ⟨w,0,none⟩),v] σ Q := by
 obtain ⟨vp,vw,vs,vf,vc,d1,d2,d3,d4,d5,rfl⟩ := hp
 obtain ⟨up,uw,us,uf,uc,d1,d2,d3,d4,d5,_,hbx⟩ := boxPk d1 d2 d3 d4 d5
 simp only [pkC] at hbx ⊢
 have hlen := DLp.len d1
 have eml : (emp).size = 0 := rfl
 have z2 : leW (runW emp []) 0 := fun b hb => by injection hb with hb; subst hb; exact Nat.le_refl _
 by_cases hpn : p.props = []
 ·have hl0 : ¬ (0 : Int) < (p.props.length : Int) := by rw [hpn]; exact fun h => by cases h
  have hpb : propsB p.kind p.props = .ok emp := by unfold propsB; rw [if_pos hpn]
  by_cases hr0 : p.rea = 0
  ·have hac : actsM p emp = [] := by unfold actsM; rw [if_neg h14,if_pos hpn,if_pos hr0]
   simp only [hr0] at hbx ⊢
   refine call80 (by simp) ?_
   simp only [strip,bodyOf,Tryz.f80,getD_body,keepN,bareOp_mk,List.map_cons,List.map_nil,↓reduceIte,Bool.false_eq_true]
   simp only [↓sbD,sbU,tyB,decide_false,↓reduceIte,Nat.reduceEqDiff,Nat.reduceLT,reduceCtorEq,isConst,hbx,hlen,hl0]
   exact downS_here (hok emp hpb _ _ (Kept.refl _ _) (by rw [hac]; exact w2) (by rw [hac]; exact fun b hb => by have := z2 b hb; omega))
  ·have hac : actsM p emp = [⟨1,p.rea,emp⟩] := by unfold actsM; rw [if_neg h14,if_pos hpn,if_neg hr0]
   refine call80 (by simp) ?_
   simp only [strip,bodyOf,Tryz.f80,getD_body,keepN,bareOp_mk,List.map_cons,List.map_nil,↓reduceIte,Bool.false_eq_true]
   simp only [↓sbD,sbU,tyB,decide_false,↓reduceIte,Nat.reduceEqDiff,Nat.reduceLT,reduceCtorEq,isConst,hbx,hlen,hl0,hr0]
   refine specU8R (s := emp) w2 (fun b hb => by have := z2 b hb; omega) fun σ3 fp3 k3 w3 => ?_
   have z3 := leW_step (a := ⟨1,p.rea,emp⟩) z2
   simp only [eml] at z3
   simp only [↓sbD,sbU,↓reduceIte,Nat.reduceEqDiff,Nat.reduceLT]
   exact downS_here (hok emp hpb _ _ k3 (by rw [hac]; exact w3) (by rw [hac]; exact fun b hb => by have := z3 b hb; omega))
 ·have hl0 : (0 : Int) < (p.props.length : Int) := by
   have : p.props.length ≠ 0 := fun h => hpn (List.length_eq_zero_iff.1 h)
   omega
  refine call80 (by simp) ?_
  simp only [strip,bodyOf,Tryz.f80,getD_body,keepN,bareOp_mk,List.map_cons,List.map_nil,↓reduceIte,Bool.false_eq_true]
  simp only [↓sbD,sbU,tyB,↓reduceIte,Nat.reduceEqDiff,Nat.reduceLT,reduceCtorEq,isConst,hbx,hlen,hl0]
  refine specU8R (s := emp) w2 (fun b hb => by have := z2 b hb; omega) fun σ3 fp3 k3 w3 => ?_
  have z3 := leW_step (a := ⟨1,p.rea,emp⟩) z2
  simp only [eml] at z3
  simp only [↓sbD,sbU,tyB,↓reduceIte,Nat.reduceEqDiff,Nat.reduceLT,reduceCtorEq]
  refine specPEncode d1 hsm (fun c hce hcz => ?_) fun k r a d z hce hd he => ?_
  ·have hpb : propsB p.kind p.props = .ok c := by unfold propsB; rw [if_neg hpn,hce]
   have hR : stepW (stepW (runW emp []) [⟨1,p.rea,emp⟩]) [⟨8,0,c⟩] = runW emp (actsM p c) := by rw [stepW_app]; unfold actsM; rw [if_neg h14,if_neg hpn]; rfl
   simp only [↓sbD,sbU,tyB,↓reduceIte,Nat.reduceEqDiff,Nat.reduceLT,reduceCtorEq,isConst]
   refine specRawR (n := 0) w3 (fun b hb => by have := z3 b hb; omega) (by omega) fun σ4 fp4 k4 w4 => ?_
   have z4 := leW_step (a := ⟨8,0,c⟩) z3
   simp only at z4
   rw [hR] at w4 z4
   simp only [↓sbD,sbU,↓reduceIte,Nat.reduceLT]
   exact downS_here (hok c hpb _ _ (k3.trans k4) w4 (fun b hb => by have := z4 b hb; omega))
  ·have hpb : propsB p.kind p.props = .error (k,r,a) := by unfold propsB; rw [if_neg hpn,hce]
   simp only [↓sbD,sbU,tyB,↓reduceIte,Nat.reduceEqDiff,Nat.reduceLT,isConst]
   exact downS_here (hbad k r a d z hpb hd he _ _ k3)
theorem specMsEnc {p : Pk} {v : Value} (hp : PkV p v) (hm : bigPk p)
  (hok : ∀ fb,EncM p (.ok fb) → ∀ σ',Kept σ [] σ' [] → Q (.tuple #[.agg ⟨[.int .i64 fb.1,.string fb.2]⟩,.nilIface]) σ')
  (hbad : ∀ k rr a : Nat,EncM p (.error (k,rr,a)) → ∀ σ' d z,Kept σ [] σ' [] → d ≤ 3 → ErN d (fv rr a z) k → Q (.tuple #[.agg ⟨[.int .i64 0,.string emp]⟩,fv rr a z]) σ') :
  CallS E B 32 [v] σ Q := by
 obtain ⟨vp,vw,vs,vf,vc,d1,d2,d3,d4,d5,rfl⟩ := hp
 obtain ⟨up,uw,us,uf,uc,d1,d2,d3,d4,d5,-,hbx⟩ := boxPk d1 d2 d3 d4 d5
 simp only [pkC] at hbx ⊢
 have eml : (emp).size = 0 := rfl
 unfold EncM EncG at hok hbad
 have fle := firstM_le p.kind
 have hpv : PkV p (.agg ⟨pkC p up uw us uf uc⟩) := ⟨_,_,_,_,_,d1,d2,d3,d4,d5,rfl⟩
 simp only [pkC] at hpv
 refine call32 (by simp) ?_
 simp only [strip,bodyOf,Tryz.f32,getD_body,keepN,bareOp_mk,List.map_cons,List.map_nil,↓reduceIte,Bool.false_eq_true]
 simp (disch := first | assumption | simp) only [↓sbD,sbU,tyB,↓reduceIte,Nat.reduceEqDiff,Nat.reduceLT,reduceCtorEq,AS_new,zeFra,hbx]
 intro b hb
 refine specMsFirst ?_
 by_cases h0 : firstM p.kind = 0
 ·have hpre : preM p = some (7,128,0) := if_pos h0
  simp only [hpre] at hbad
  simp (disch := first | assumption | simp) only [↓sbD,sbU,tyB,↓reduceIte,Nat.reduceLT,pairs,isConst,ZV.val,h0,gk7]
  refine specNew (n := 7) ⟨by omega,by omega⟩ ?_
  simp (disch := first | assumption | simp) only [↓sbD,sbU,tyB,↓reduceIte,Nat.reduceEqDiff,Nat.reduceLT,Nat.reduceAdd,Nat.reduceLeDiff,splice,res_cellc,resC_some]
  exact downS_here (hbad 7 128 0 rfl _ 1 _ (((Kept.refl σ []).setD hb).setD hb) (by omega) (ErN.new _ _ ⟨by omega,by omega⟩))
 have hpre : preM p = none := if_neg h0
 obtain ⟨_,_,kge⟩ := firstM_kind h0
 simp only [hpre] at hok hbad
 simp (disch := first | assumption | simp) only [↓sbD,sbU,tyB,decide_false,Bool.false_eq_true,↓reduceIte,Nat.reduceEqDiff,Nat.reduceLT,reduceCtorEq,pairs,isConst,boxS,Edp,ZV.val,Bool.false_and,h0,AS_new,dpW]
 generalize hσ1 : AHeap.set σ b _ = σ1
 have k1 : Kept σ [] σ1 [] := by rw [← hσ1]; exact (Kept.refl σ []).setD hb
 have gb1 : σ1.get b = .cells [.int .i64 0,.string emp] true 0 := by rw [← hσ1]; exact AHeap.get_set_same _ _ _
 clear hσ1
 intro w hw
 have hwb : w ≠ b := nd hw gb1 (by simp)
 generalize hσ2 : AHeap.set σ1 w _ = σ2
 have gw : σ2.get w = .cells [.slice none 0 0,.nilIface] true 0 := by rw [← hσ2]; exact AHeap.get_set_same _ _ _
 have k2 : Kept σ1 [] σ2 [w] := by rw [← hσ2]; exact Kept.new' hw
 have w2 : WRun σ2 w (runW emp []) [w] := ⟨_,[],gw,.inl ⟨rfl,rfl,rfl⟩,rfl,by simp⟩
 have z2 : leW (runW emp []) 0 := fun b hb => by injection hb with hb; subst hb; exact Nat.le_refl _
 clear gw hσ2
 refine specTells ?_
 by_cases h14 : p.kind < 14
 focus
  have hd0 : decide (p.kind = 14 ∨ p.kind = 15) = false := decide_eq_false (by omega)
  have hpm : propsM p = .ok emp := if_pos h14
  have hac : actsM p emp = [] := if_pos h14
  rw [hpm] at hok hbad
  simp only [hac] at hok hbad
  simp (disch := first | assumption | simp) only [↓sbD,sbU,↓reduceIte,Nat.reduceEqDiff,Nat.reduceLT,hd0]
  have K6 := k2
  have w6 := w2
  have z6 : leW (runW emp []) 800000 := fun b hb => by have := z2 b hb; omega
  refine specBytesR w6 (fun bb hbb => ?_) fun k q d z hr hd he => ?_
  ·have gbn := (K6.at gb1 (by simp) (by simp)).1
   have hle := z6 bb hbb
   simp (disch := first | assumption | simp) only [↓sbD,sbU,tyB,↓reduceIte,Nat.reduceEqDiff,Nat.reduceLT,reduceCtorEq]
   refine specMsFirst ?_
   simp (disch := first | assumption | simp) only [↓sbD,sbU,tyB,↓reduceIte,Nat.reduceEqDiff,Nat.reduceLT,Nat.reduceAdd,Nat.reduceLeDiff,pairs,isConst,splice,ZV.val,AS_new,zeFra]
   intro c hc
   have hcb : c ≠ b := nd hc gbn (by simp)
   generalize hσc : AHeap.set _ c _ = σc
   have kc : Kept σ2 [] σc [] := by rw [← hσc]; exact ((Kept.refl _ []).setD hc).setD hc
   have gc : σc.get c = .cells [.int .i64 (firstM p.kind),.string bb] true 0 := by rw [← hσc]; exact AHeap.get_set_same _ _ _
   clear hσc
   try simp (disch := first | assumption | simp) only [↓sbD,sbU,tyB,Nat.reduceMul,Nat.reduceSub,Int.reduceEq,Int.reduceLT,Int.reduceLE,Int.reduceNe,Nat.reduceBneDiff,Nat.reduceBEq,decide_false,gt_iff_lt,Bool.or_self,Bool.false_eq_true,Nat.mul_one,Nat.one_mul,Nat.zero_mul,↓reduceIte,Nat.reduceEqDiff,Nat.reduceLT,Nat.reduceAdd,Nat.reduceLeDiff,reduceCtorEq,goInt,pairs,isConst,TI.isAgg,splice,boxS,Edp,dpv,Nat.beq_eq,ZV.val,List.any_cons,List.any_nil,Bool.false_and,gc]
   refine specMsDec (by omega) (fun y hy v2 σd hv2 kd => ?_) fun k rr a hy σd d z kd hd he => ?_
   ·have gbd := ((kc.trans kd).at gbn (by simp) (by simp)).1
    have gcd := (kd.at gc (by simp) (by simp)).1
    simp (disch := first | assumption | simp) only [↓sbD,sbU,tyB,↓reduceIte,Nat.reduceEqDiff,Nat.reduceLT,Nat.reduceAdd,Nat.reduceLeDiff,isConst,splice,gcd,gbd,res_cellc,resC_some]
    exact downS_here (hok (firstM p.kind,bb) (by unfold MadeR; rw [hbb]; exact ⟨_,hy,rfl⟩) _ ((k1.trans ((K6.wid (gp := []) (gp' := []) (fun _ h => by cases h) (fun _ h => by cases h)).trans (kc.trans kd))).setD hb))
   ·have gbd := ((kc.trans kd).at gbn (by simp) (by simp)).1
    simp (disch := first | assumption | simp) only [↓sbD,sbU,tyB,↓reduceIte,Nat.reduceEqDiff,Nat.reduceLT,Nat.reduceAdd,Nat.reduceLeDiff,pairs,isConst,splice,ZV.val,gbd,res_cellc,resC_some]
    exact downS_here (hbad k rr a (by unfold MadeR; rw [hbb]; exact ⟨_,hy,rfl⟩) _ d z ((k1.trans ((K6.wid (gp := []) (gp' := []) (fun _ h => by cases h) (fun _ h => by cases h)).trans (kc.trans kd))).setD hb) hd he)
  ·have gbn := (K6.at gb1 (by simp) (by simp)).1
   simp (disch := first | assumption | simp) only [↓sbD,sbU,tyB,↓reduceIte,Nat.reduceEqDiff,Nat.reduceLT,reduceCtorEq]
   refine specMsFirst ?_
   simp (disch := first | assumption | simp) only [↓sbD,sbU,tyB,↓reduceIte,Nat.reduceEqDiff,Nat.reduceLT,Nat.reduceAdd,Nat.reduceLeDiff,pairs,isConst,splice,ZV.val,AS_new,zeFra]
   intro c hc
   have hcb : c ≠ b := nd hc gbn (by simp)
   have bc : ∀ (τ : AHeap) o,(AHeap.set τ c o).get b = τ.get b := fun τ o => AHeap.get_set_ne _ _ hcb
   simp (disch := first | assumption | simp) only [↓sbD,sbU,tyB,↓reduceIte,Nat.reduceEqDiff,Nat.reduceLT,Nat.reduceAdd,Nat.reduceLeDiff,splice,bc,gbn,res_cellc,resC_some]
   exact downS_here (hbad k 129 q (by unfold MadeR; rw [hr]) _ d z ((k1.trans ((K6.wid (gp := []) (gp' := []) (fun _ h => by cases h) (fun _ h => by cases h)).trans (((Kept.refl _ []).setD hc).setD hc))).setD hb) (by omega) he)
 have hd1 : decide (p.kind = 14 ∨ p.kind = 15) = true := decide_eq_true (by omega)
 have hpm : propsM p = propsB p.kind p.props := if_neg h14
 rw [hpm] at hok hbad
 simp (disch := first | assumption | simp) only [↓sbD,sbU,tyB,↓reduceIte,Nat.reduceEqDiff,Nat.reduceLT,Nat.reduceAdd,Nat.reduceLeDiff,hd1]
 refine specMsWrite hpv hm.props h14 w2 (fun c hpb σ6 fp6 k6 w6 z6 => ?_) fun k r a d z hpb hd he σ6 fp6 k6 => ?_
 all_goals
  rw [hpb] at hok hbad
  simp only at hok hbad
  have K6 := k2.trans k6
 rotate_left
 ·have gbn := (K6.at gb1 (by simp) (by simp)).1
  simp (disch := first | assumption | simp) only [↓sbD,sbU,tyB,↓reduceIte,Nat.reduceEqDiff,Nat.reduceLT,Nat.reduceAdd,Nat.reduceLeDiff,pairs,isConst,splice,ZV.val,gbn,res_cellc,resC_some]
  exact downS_here (hbad k r a rfl _ d z ((k1.trans (K6.wid (gp := []) (gp' := []) (fun _ h => by cases h) (fun _ h => by cases h))).setD hb) (by omega) he)
 simp (disch := first | assumption | simp) only [↓sbD,sbU,tyB,↓reduceIte,Nat.reduceEqDiff,Nat.reduceLT,isConst]
 refine specBytesR w6 (fun bb hbb => ?_) fun k q d z hr hd he => ?_
 ·have gbn := (K6.at gb1 (by simp) (by simp)).1
  have hle := z6 bb hbb
  simp (disch := first | assumption | simp) only [↓sbD,sbU,tyB,↓reduceIte,Nat.reduceEqDiff,Nat.reduceLT,reduceCtorEq]
  refine specMsFirst ?_
  simp (disch := first | assumption | simp) only [↓sbD,sbU,tyB,↓reduceIte,Nat.reduceEqDiff,Nat.reduceLT,Nat.reduceAdd,Nat.reduceLeDiff,pairs,isConst,splice,ZV.val,AS_new,zeFra]
  intro c hc
  have hcb : c ≠ b := nd hc gbn (by simp)
  generalize hσc : AHeap.set _ c _ = σc
  have kc : Kept σ6 [] σc [] := by rw [← hσc]; exact ((Kept.refl _ []).setD hc).setD hc
  have gc : σc.get c = .cells [.int .i64 (firstM p.kind),.string bb] true 0 := by rw [← hσc]; exact AHeap.get_set_same _ _ _
  clear hσc
  try simp (disch := first | assumption | simp) only [↓sbD,sbU,tyB,Nat.reduceMul,Nat.reduceSub,Int.reduceEq,Int.reduceLT,Int.reduceLE,Int.reduceNe,Nat.reduceBneDiff,Nat.reduceBEq,decide_false,gt_iff_lt,Bool.or_self,Bool.false_eq_true,Nat.mul_one,Nat.one_mul,Nat.zero_mul,↓reduceIte,Nat.reduceEqDiff,Nat.reduceLT,Nat.reduceAdd,Nat.reduceLeDiff,reduceCtorEq,goInt,pairs,isConst,TI.isAgg,splice,boxS,Edp,dpv,Nat.beq_eq,ZV.val,List.any_cons,List.any_nil,Bool.false_and,gc]
  refine specMsDec (by omega) (fun y hy v2 σd hv2 kd => ?_) fun k rr a hy σd d z kd hd he => ?_
  ·have gbd := ((kc.trans kd).at gbn (by simp) (by simp)).1
   have gcd := (kd.at gc (by simp) (by simp)).1
   simp (disch := first | assumption | simp) only [↓sbD,sbU,tyB,↓reduceIte,Nat.reduceEqDiff,Nat.reduceLT,Nat.reduceAdd,Nat.reduceLeDiff,isConst,splice,gcd,gbd,res_cellc,resC_some]
   exact downS_here (hok (firstM p.kind,bb) (by unfold MadeR; rw [hbb]; exact ⟨_,hy,rfl⟩) _ ((k1.trans ((K6.wid (gp := []) (gp' := []) (fun _ h => by cases h) (fun _ h => by cases h)).trans (kc.trans kd))).setD hb))
  ·have gbd := ((kc.trans kd).at gbn (by simp) (by simp)).1
   simp (disch := first | assumption | simp) only [↓sbD,sbU,tyB,↓reduceIte,Nat.reduceEqDiff,Nat.reduceLT,Nat.reduceAdd,Nat.reduceLeDiff,pairs,isConst,splice,ZV.val,gbd,res_cellc,resC_some]
   exact downS_here (hbad k rr a (by unfold MadeR; rw [hbb]; exact ⟨_,hy,rfl⟩) _ d z ((k1.trans ((K6.wid (gp := []) (gp' := []) (fun _ h => by cases h) (fun _ h => by cases h)).trans (kc.trans kd))).setD hb) hd he)
 ·have gbn := (K6.at gb1 (by simp) (by simp)).1
  simp (disch := first | assumption | simp) only [↓sbD,sbU,tyB,↓reduceIte,Nat.reduceEqDiff,Nat.reduceLT,reduceCtorEq]
  refine specMsFirst ?_
  simp (disch := first | assumption | simp) only [↓sbD,sbU,tyB,↓reduceIte,Nat.reduceEqDiff,Nat.reduceLT,Nat.reduceAdd,Nat.reduceLeDiff,pairs,isConst,splice,ZV.val,AS_new,zeFra]
  intro c hc
  have hcb : c ≠ b := nd hc gbn (by simp)
  have bc : ∀ (τ : AHeap) o,(AHeap.set τ c o).get b = τ.get b := fun τ o => AHeap.get_set_ne _ _ hcb
  simp (disch := first | assumption | simp) only [↓sbD,sbU,tyB,↓reduceIte,Nat.reduceEqDiff,Nat.reduceLT,Nat.reduceAdd,Nat.reduceLeDiff,splice,bc,gbn,res_cellc,resC_some]
  exact downS_here (hbad k 129 q (by unfold MadeR; rw [hr]) _ d z ((k1.trans ((K6.wid (gp := []) (gp' := []) (fun _ h => by cases h) (fun _ h => by cases h)).trans (((Kept.refl _ []).setD hc).setD hc))).setD hb) (by omega) he)
end
section
variable {σ : AHeap} {Q : Value → AHeap → Prop} {s : ByteArray}
theorem catW_sz {l : List Act} {c : ByteArray} (h : catW l = some c) : c.size ≤ (l.map fun a => a.s.size + 4).sum := by
 have h1 := catW_run emp h
 have h2 := runW_le l emp _ 0 (Nat.le_refl _) h1
 rw [emp_app'] at h2
 omega
theorem encM_size {p : Pk} {fb : Int × ByteArray} (h : EncM p (.ok fb)) (hf : fewPk p) : fb.2.size ≤ 100000 := by
 obtain ⟨h0,s,b,y,h1,h2,rfl,h4⟩ := h.inv
 have hz := catW_sz h2
 have he0 : emp.size = 0 := rfl
 show b.size ≤ 100000
 have hs : s.size ≤ 28844 := by
  unfold propsM propsB at h1
  split at h1
  ·simp only [Except.ok.injEq] at h1; subst h1; exact Nat.zero_le _
  ·split at h1
   ·simp only [Except.ok.injEq] at h1; subst h1; exact Nat.zero_le _
   ·exact encP_size hf.props h1
 unfold actsM at hz
 split at hz
 ·simp only [List.map_nil,List.sum_nil] at hz; omega
 ·split at hz
  ·split at hz
   ·simp only [List.map_nil,List.sum_nil] at hz; omega
   ·simp only [List.map_cons,List.map_nil,List.sum_cons,List.sum_nil,he0] at hz; omega
  ·simp only [List.map_cons,List.map_nil,List.sum_cons,List.sum_nil,he0] at hz; omega
theorem specBare14 {p : Pk} {v : Value} (hp : PkV p v) (hs : p.props.length ≤ 1000) (hsw : p.will.props.length ≤ 1000) (hq : ∀ w σ',PkV (msB p) w → Kept σ [] σ' [] → Q w σ') : CallS E B 36 [v] σ Q := by
 obtain ⟨vp,vw,vs,vf,vc,d1,d2,d3,d4,d5,rfl⟩ := hp
 obtain ⟨up,uw,us,uf,uc,d1,d2,d3,d4,d5,_,hbx⟩ := boxPk d1 d2 d3 d4 d5
 simp only [pkC] at hbx ⊢
 unfold msB at hq
 by_cases h14 : p.kind < 14
 ·rw [if_pos h14] at hq
  refine call36 (by simp) ?_
  simp only [strip,bodyOf,Tryz.f36,getD_body,keepN,bareOp_mk,lessOp_mk,List.map_cons,List.map_nil,↓reduceIte,Nat.reduceEqDiff,Bool.false_eq_true]
  simp only [↓sbD,sbU,tyB,↓reduceIte,Nat.reduceEqDiff,Nat.reduceLT,Nat.reduceAdd,Nat.reduceLeDiff,reduceCtorEq,pairs,isConst,splice,ZV.val,AS_new,zePk,hbx,h14,res_cellc,resC_some]
  intro b hb
  try simp only [↓sbD,sbU,tyB,Nat.reduceMul,Nat.reduceSub,Int.reduceEq,Int.reduceLT,Int.reduceLE,Int.reduceNe,Nat.reduceBneDiff,Nat.reduceBEq,decide_false,gt_iff_lt,Bool.or_self,Bool.false_eq_true,Nat.mul_one,Nat.one_mul,Nat.zero_mul,↓reduceIte,Nat.reduceEqDiff,Nat.reduceLT,Nat.reduceAdd,Nat.reduceLeDiff,reduceCtorEq,goInt,pairs,isConst,TI.isAgg,splice,boxS,Edp,dpv,Nat.beq_eq,ZV.val,List.any_cons,List.any_nil,Bool.false_and,AHeap.get_set_same,res_cellc,resC_some]
  exact downS_here (hq _ _ ⟨_,_,_,_,_,.inl ⟨rfl,rfl⟩,.inl ⟨rfl,rfl⟩,.inl ⟨rfl,rfl⟩,.inl ⟨rfl,rfl⟩,.inl ⟨rfl,rfl⟩,rfl⟩ (((Kept.refl σ []).setD hb).setD hb))
 rw [if_neg h14] at hq
 refine call36 (by simp) ?_
 simp only [strip,bodyOf,Tryz.f36,getD_body,keepN,bareOp_mk,lessOp_mk,List.map_cons,List.map_nil,↓reduceIte,Nat.reduceEqDiff,Bool.false_eq_true]
 simp only [↓sbD,sbU,tyB,decide_false,↓reduceIte,Nat.reduceEqDiff,Nat.reduceLT,reduceCtorEq,isConst,AS_new,zePk,hbx,h14]
 intro b hb
 refine specKPlain d1 hs fun w σ1 hw k1 => ?_
 have gb : (σ.set b _).get b = _ := AHeap.get_set_same σ b (.cells [.int .i64 0,.int .i64 0,.int .i64 0,.slice none 0 0,.bool false,.int .i64 0,.string emp,.bool false,.string emp,.string emp,.int .i64 0,.bool false,.slice none 0 0,.bool false,.string emp,.bool false,.string emp,.bool false,.string emp,.string emp,.int .i64 0,.bool false,.bool false,.slice none 0 0,.slice none 0 0,.slice none 0 0] true 0)
 have gb1 := (k1.at gb (by simp) (by simp)).1
 have hvc := dl_vc hw
 simp only [↓sbD,sbU,tyB,↓reduceIte,Nat.reduceEqDiff,Nat.reduceLT,Nat.reduceAdd,Nat.reduceLeDiff,pairs,splice,ZV.val,gb1,hvc.1,hvc.2]
 refine drawS_l (fl := [(1,6),(3,6)]) (by kernel_rfl) ?_ ?_
 rotate_left; simp only [lastP_cc,lastP_one]; rotate_left
 ·simp only [List.all_cons,List.all_nil,floatS,List.getElem?_cons_succ,List.getElem?_cons_zero,List.getElem?_toArray,Region.wanted,Bool.not_true,Bool.or_true,reads,looksWeak,aev_tmp,upd_at,↓reduceIte,Nat.reduceLT,Nat.reduceAdd,blkOf,Bool.and_self,Bool.false_eq_true]
  try rfl
 simp only [↓sbD,sbU,tyB,↓reduceIte,Nat.reduceEqDiff,Nat.reduceLT,Nat.reduceAdd,Nat.reduceLeDiff,res_cellc,resC_some]
 exact downS_here (hq _ _ ⟨_,_,_,_,_,hw,.inl ⟨rfl,rfl⟩,.inl ⟨rfl,rfl⟩,.inl ⟨rfl,rfl⟩,.inl ⟨rfl,rfl⟩,rfl⟩ ((((Kept.refl σ []).setD hb).trans k1).setD hb))
end
theorem fraNe {σ : AHeap} {cs : Bool} {f : Int} {a : ByteArray} : abin E σ .neq 33 cs (.agg ⟨[.int .i64 f,.string a]⟩) (.agg ⟨[.int .i64 f,.string a]⟩) = some (.bool false) := by
 have e1 : (a == a) = true := by rw [bytes_dec]; simp
 simp only [abin,nonNum,eqAsk,aeq,aeqs,apart,ty33,ty3,ty9,TI.isAgg,Bool.and_self,Bool.false_eq_true,List.getElem?_cons_zero,List.getElem?_cons_succ,↓reduceIte,beq_self_eq_true,Option.map_some,e1]
 rfl
theorem fraNe0 {σ : AHeap} {cs : Bool} : abin E σ .neq 33 cs (.agg ⟨[.int .i64 0,.string emp]⟩) (.agg ⟨[.int .i64 0,.string ⟨#[]⟩]⟩) = some (.bool false) := fraNe
theorem pk_zero : PkV pkz (.agg ⟨zeL⟩) := ⟨_,_,_,_,_,.inl ⟨rfl,rfl⟩,.inl ⟨rfl,rfl⟩,.inl ⟨rfl,rfl⟩,.inl ⟨rfl,rfl⟩,.inl ⟨rfl,rfl⟩,rfl⟩
theorem law8 {H : AHeap} {vs : List Value} (hB0 : Ext B H) (h : ArgsTyped E H 8 [29,3,9] vs) : CallW E 10 vs H fun r _ => r = .bool true := by
 obtain ⟨u,vs1,rfl,t1,e1⟩ := h.cons'
 obtain ⟨u2,vs2,rfl,t2,e2⟩ := e1.cons'
 obtain ⟨u3,vs3,rfl,t3,e3⟩ := e2.cons'
 obtain rfl := e3.nil'
 obtain ⟨p,hp,_⟩ := typed_pk t1
 obtain ⟨n,rfl⟩ := typed_i t2
 obtain ⟨s,rfl⟩ := typed_s t3
 clear t1 t2 t3 e1 e2 e3 h
 have key : CallS E B 10 [u,.int .i64 n,.string s] .empty fun r _ => r = .bool true := by
  obtain ⟨vp,vw,vs,vf,vc,d1,d2,d3,d4,d5,rfl⟩ := hp
  obtain ⟨up,uw,us,uf,uc,d1,d2,d3,d4,d5,hzz,hbx⟩ := boxPk d1 d2 d3 d4 d5
  have hp : PkV p (.agg ⟨pkC p up uw us uf uc⟩) := ⟨_,_,_,_,_,d1,d2,d3,d4,d5,rfl⟩
  have hfz : ∀ cs,Value.agg ⟨pkC p up uw us uf uc⟩ = .agg ⟨cs⟩ → frzL E.ng E.nb cs = true := fun cs h => by injection h with h; injection h with h; rw [← h]; exact hzz
  clear d1 d2 d3 d4 d5 hzz
  simp only [pkC] at hp hfz hbx ⊢
  refine call10 (by simp) ?_
  simp only [strip,bodyOf,Tryz.f10,getD_body,keepN,bareOp_mk,lessOp_mk,lapp_cons,lapp_nil,List.map_cons,List.map_nil,↓reduceIte,Nat.reduceEqDiff,Bool.false_eq_true]
  simp (disch := first | assumption | simp) only [↓sbD,sbU,tyB,↓reduceIte,Nat.reduceEqDiff,Nat.reduceLT,Nat.reduceAdd,Nat.reduceLeDiff,hbx]
  refine specKFew hp hfz fun few hfew => ?_
  cases few with
  | false =>
   simp (disch := first | assumption | simp) only [↓sbD,sbU,↓reduceIte,Nat.reduceEqDiff,Nat.reduceLT,not_bool]
   refine specS31 ?_
   simp (disch := first | assumption | simp) only [↓sbD,sbU,↓reduceIte,Nat.reduceLT]
   exact downS_here rfl
  | true =>
   have hf := hfew rfl
   have hsm : smallP p.props := ⟨by have := hf.props.1; omega,fun x hx => by have := hf.props.2 x hx; omega⟩
   by_cases hsz : (2048 : Int) < (s.size : Int)
   ·simp (disch := first | assumption | simp) only [↓sbD,sbU,tyB,↓reduceIte,Nat.reduceEqDiff,Nat.reduceLT,goInt,isConst,not_bool,hsz]
    refine specS31 ?_
    simp (disch := first | assumption | simp) only [↓sbD,sbU,↓reduceIte,Nat.reduceLT]
    exact downS_here rfl
   simp (disch := first | assumption | simp) only [↓sbD,sbU,tyB,decide_false,↓reduceIte,Nat.reduceEqDiff,Nat.reduceLT,Nat.reduceAdd,Nat.reduceLeDiff,goInt,isConst,not_bool,hsz]
   refine specMsEnc hp hf.big (fun fb he σ1 k1 => ?_) fun k rr a he σ1 d z k1 hd hn => ?_
   focus
    have hfz2 := encM_size he hf
    simp (disch := first | assumption | simp) only [↓sbD,sbU,tyB,↓reduceIte,Nat.reduceEqDiff,Nat.reduceLT,Nat.reduceAdd,Nat.reduceLeDiff,isConst,splice,AS_new,zeFra]
    intro c hc
    try simp (disch := first | assumption | simp) only [↓sbD,sbU,tyB,Nat.reduceMul,Nat.reduceSub,Int.reduceEq,Int.reduceLT,Int.reduceLE,Int.reduceNe,Nat.reduceBneDiff,Nat.reduceBEq,decide_false,gt_iff_lt,Bool.or_self,Bool.false_eq_true,Nat.mul_one,Nat.one_mul,Nat.zero_mul,↓reduceIte,Nat.reduceEqDiff,Nat.reduceLT,Nat.reduceAdd,Nat.reduceLeDiff,reduceCtorEq,goInt,pairs,isConst,TI.isAgg,splice,boxS,Edp,dpv,Nat.beq_eq,ZV.val,List.any_cons,List.any_nil,Bool.false_and,AHeap.get_set_same]
    generalize hσ2 : AHeap.set (AHeap.set σ1 c _) c _ = σ2
    have gc2 : σ2.get c = .cells [.int .i64 fb.1,.string fb.2] true 0 := by rw [← hσ2]; exact AHeap.get_set_same _ _ _
    clear hσ2
    try simp (disch := first | assumption | simp) only [↓sbD,sbU,tyB,Nat.reduceMul,Nat.reduceSub,Int.reduceEq,Int.reduceLT,Int.reduceLE,Int.reduceNe,Nat.reduceBneDiff,Nat.reduceBEq,decide_false,gt_iff_lt,Bool.or_self,Bool.false_eq_true,Nat.mul_one,Nat.one_mul,Nat.zero_mul,↓reduceIte,Nat.reduceEqDiff,Nat.reduceLT,Nat.reduceAdd,Nat.reduceLeDiff,reduceCtorEq,goInt,pairs,isConst,TI.isAgg,splice,boxS,Edp,dpv,Nat.beq_eq,ZV.val,List.any_cons,List.any_nil,Bool.false_and,gc2]
    refine specMsDec (by omega) (fun y hy v2 σ3 hv2 k3 => ?_) fun k rr a hy σ3 d z k3 hd hn => by cases msBack he hf hy
    have hyy := msBack he hf hy
    simp only [Except.ok.injEq] at hyy
    subst hyy
    obtain ⟨ga,gb,gc,gd,ge,g1,g2,g3,g4,g5,rfl⟩ := hv2
    have hv2 : PkV (msB p) (.agg ⟨pkC (msB p) ga gb gc gd ge⟩) := ⟨_,_,_,_,_,g1,g2,g3,g4,g5,rfl⟩
    have vg1 := dl_vc g1
    have vg2 := dl_vc g2
    have vg3 := dl_vc g3
    have vg4 := dl_vc g4
    have vg5 := dl_vc g5
    simp only [pkC] at hv2 ⊢
    simp (disch := first | assumption | simp) only [↓sbD,sbU,tyB,↓reduceIte,Nat.reduceEqDiff,Nat.reduceLT,Nat.reduceAdd,Nat.reduceLeDiff,isConst,splice,AS_new,zePk,vg1.2,vg2.2,vg3.2,vg4.2,vg5.2]
    intro t ht
    try simp (disch := first | assumption | simp) only [↓sbD,sbU,tyB,Nat.reduceMul,Nat.reduceSub,Int.reduceEq,Int.reduceLT,Int.reduceLE,Int.reduceNe,Nat.reduceBneDiff,Nat.reduceBEq,decide_false,gt_iff_lt,Bool.or_self,Bool.false_eq_true,Nat.mul_one,Nat.one_mul,Nat.zero_mul,↓reduceIte,Nat.reduceEqDiff,Nat.reduceLT,Nat.reduceAdd,Nat.reduceLeDiff,reduceCtorEq,goInt,pairs,isConst,TI.isAgg,splice,boxS,Edp,dpv,Nat.beq_eq,ZV.val,List.any_cons,List.any_nil,Bool.false_and,AHeap.get_set_same,vg1.1,vg1.2,vg2.1,vg2.2,vg3.1,vg3.2,vg4.1,vg4.2,vg5.1,vg5.2,Bool.and_self,Bool.and_true,List.length_cons,List.length_nil,List.cons_append,List.nil_append,List.drop_succ_cons,List.drop_zero,decide_true]
    generalize hσ4 : AHeap.set (AHeap.set σ3 t _) t _ = σ4
    have gt : σ4.get t = .cells [.int .i64 (msB p).kind,.int .i64 (msB p).id,.int .i64 (msB p).rea,ga,.bool (msB p).clean,.int .i64 (msB p).keep,.string (msB p).client,.bool (msB p).will.has,.string (msB p).will.topic,.string (msB p).will.pay,.int .i64 (msB p).will.qos,.bool (msB p).will.ret,gb,.bool (msB p).hasU,.string (msB p).user,.bool (msB p).hasP,.string (msB p).pass,.bool (msB p).present,.string (msB p).topic,.string (msB p).pay,.int .i64 (msB p).qos,.bool (msB p).ret,.bool (msB p).dup,gc,gd,ge] true 0 := by rw [← hσ4]; exact AHeap.get_set_same _ _ _
    clear hσ4
    try simp (disch := first | assumption | simp) only [↓sbD,sbU,tyB,Nat.reduceMul,Nat.reduceSub,Int.reduceEq,Int.reduceLT,Int.reduceLE,Int.reduceNe,Nat.reduceBneDiff,Nat.reduceBEq,decide_false,gt_iff_lt,Bool.or_self,Bool.false_eq_true,Nat.mul_one,Nat.one_mul,Nat.zero_mul,↓reduceIte,Nat.reduceEqDiff,Nat.reduceLT,Nat.reduceAdd,Nat.reduceLeDiff,reduceCtorEq,goInt,pairs,isConst,TI.isAgg,splice,boxS,Edp,dpv,Nat.beq_eq,ZV.val,List.any_cons,List.any_nil,Bool.false_and,gt]
    refine specBare14 hp (by have := hf.props.1; omega) (by have := hf.wprops.1; omega) fun w σ5 hw k5 => ?_
    have gt5 := (k5.at gt (by simp) (by simp)).1
    try simp (disch := first | assumption | simp) only [↓sbD,sbU,↓reduceIte,Nat.reduceEqDiff,Nat.reduceLT]
    refine specKSame (p := (msB p)) hv2 hw (by rw [show (msB p).props.length = (if p.kind < 14 then 0 else p.props.length) from by (unfold msB; split <;> simp [msP])]; have := hf.props.1; split <;> omega) (by unfold msB; split <;> simp [msP,pkz]) (by unfold msB; split <;> simp [msP,pkz]) (by unfold msB; split <;> simp [msP,pkz]) (by unfold msB; split <;> simp [msP,pkz])  ?_
    simp (disch := first | assumption | simp) only [↓sbD,sbU,↓reduceIte,Nat.reduceEqDiff,Nat.reduceLT,not_bool]
    refine drawS_l (fl := [(3,5)]) (by kernel_rfl) ?_ ?_
    rotate_left; simp only [lastP_cc,lastP_one]; rotate_left
    ·simp only [List.all_cons,List.all_nil,floatS,List.getElem?_cons_succ,List.getElem?_cons_zero,List.getElem?_toArray,Region.wanted,Bool.not_false,Bool.or_true,reads,looksWeak,aev_tmp,upd_at,↓reduceIte,Nat.reduceEqDiff,Nat.reduceLT,Nat.reduceAdd,blkOf,oeq_refl,dead_cells,Bool.and_self,Bool.false_eq_true,Bool.not_false,gt,gt5]
     try rfl
    simp (disch := first | assumption | simp) only [↓sbD,sbU,tyB,↓reduceIte,Nat.reduceEqDiff,Nat.reduceLT,Nat.reduceAdd,Nat.reduceLeDiff,pairs,splice,ZV.val]
   rotate_left
   focus
    simp (disch := first | assumption | simp) only [↓sbD,sbU,tyB,Bool.or_self,↓reduceIte,Nat.reduceEqDiff,Nat.reduceLT,Nat.reduceAdd,Nat.reduceLeDiff,pairs,isConst,splice,ZV.val,AS_new,zeFra]
    intro c hc
    try simp (disch := first | assumption | simp) only [↓sbD,sbU,tyB,↓reduceIte,Nat.reduceEqDiff,Nat.reduceLT,Nat.reduceAdd,Nat.reduceLeDiff,pairs,splice,ZV.val,fraNe0]
   all_goals
    refine specMsDec (by omega) (fun p2 hy2 v3 σ6 hv3 k6 => ?_) fun k2 r2 a2 hy2 σ6 d2 z2 k6 hd2 hn2 => ?_
    rotate_left
    ·simp only [zeL,pkC,pkz]
     simp (disch := first | assumption | simp) only [↓sbD,sbU,tyB,↓reduceIte,Nat.reduceEqDiff,Nat.reduceLT,Nat.reduceAdd,Nat.reduceLeDiff,pairs,isConst,splice,ZV.val,AS_new,zePk]
     intro e he2
     try simp (disch := first | assumption | simp) only [↓sbD,sbU,tyB,Nat.reduceMul,Nat.reduceSub,Int.reduceEq,Int.reduceLT,Int.reduceLE,Int.reduceNe,Nat.reduceBneDiff,Nat.reduceBEq,decide_false,gt_iff_lt,Bool.or_self,Bool.false_eq_true,Nat.mul_one,Nat.one_mul,Nat.zero_mul,↓reduceIte,Nat.reduceEqDiff,Nat.reduceLT,Nat.reduceAdd,Nat.reduceLeDiff,reduceCtorEq,goInt,pairs,isConst,TI.isAgg,splice,boxS,Edp,dpv,Nat.beq_eq,ZV.val,List.any_cons,List.any_nil,Bool.false_and,AHeap.get_set_same]
     refine specKSame (p := pkz) pk_zero pk_zero (by decide) (by decide) (by decide) (by decide) (by decide) ?_
     simp (disch := first | assumption | simp) only [↓sbD,sbU,↓reduceIte,Nat.reduceLT]
     refine specS31 ?_
     simp (disch := first | assumption | simp) only [↓sbD,sbU,↓reduceIte,Nat.reduceEqDiff,Nat.reduceLT]
     exact downS_here rfl
    obtain ⟨b,hE,hD2,hsm2,hbz,c2,l2,rfl⟩ := msAgain hy2 (by omega)
    obtain ⟨ma,mb,mc,md,me,m1,m2,m3,m4,m5,rfl⟩ := hv3
    have hv3 : PkV (msP (n / 16) c2 l2) (.agg ⟨pkC (msP (n / 16) c2 l2) ma mb mc md me⟩) := ⟨_,_,_,_,_,m1,m2,m3,m4,m5,rfl⟩
    have vm1 := dl_vc m1
    have vm2 := dl_vc m2
    have vm3 := dl_vc m3
    have vm4 := dl_vc m4
    have vm5 := dl_vc m5
    simp only [pkC] at hv3 ⊢
    simp (disch := first | assumption | simp) only [↓sbD,sbU,tyB,↓reduceIte,Nat.reduceEqDiff,Nat.reduceLT,Nat.reduceAdd,Nat.reduceLeDiff,isConst,splice,AS_new,zePk,vm1.2,vm2.2,vm3.2,vm4.2,vm5.2]
    intro t ht
    try simp (disch := first | assumption | simp) only [↓sbD,sbU,tyB,Nat.reduceMul,Nat.reduceSub,Int.reduceEq,Int.reduceLT,Int.reduceLE,Int.reduceNe,Nat.reduceBneDiff,Nat.reduceBEq,decide_false,gt_iff_lt,Bool.or_self,Bool.false_eq_true,Nat.mul_one,Nat.one_mul,Nat.zero_mul,↓reduceIte,Nat.reduceEqDiff,Nat.reduceLT,Nat.reduceAdd,Nat.reduceLeDiff,reduceCtorEq,goInt,pairs,isConst,TI.isAgg,splice,boxS,Edp,dpv,Nat.beq_eq,ZV.val,List.any_cons,List.any_nil,Bool.false_and,AHeap.get_set_same,vm1.1,vm1.2,vm2.1,vm2.2,vm3.1,vm3.2,vm4.1,vm4.2,vm5.1,vm5.2,Bool.and_self,Bool.and_true,List.length_cons,List.length_nil,List.cons_append,List.nil_append,List.drop_succ_cons,List.drop_zero,decide_true]
    generalize hσ7 : AHeap.set (AHeap.set σ6 t _) t _ = σ7
    have gt : σ7.get t = .cells [.int .i64 (msP (n / 16) c2 l2).kind,.int .i64 (msP (n / 16) c2 l2).id,.int .i64 (msP (n / 16) c2 l2).rea,ma,.bool (msP (n / 16) c2 l2).clean,.int .i64 (msP (n / 16) c2 l2).keep,.string (msP (n / 16) c2 l2).client,.bool (msP (n / 16) c2 l2).will.has,.string (msP (n / 16) c2 l2).will.topic,.string (msP (n / 16) c2 l2).will.pay,.int .i64 (msP (n / 16) c2 l2).will.qos,.bool (msP (n / 16) c2 l2).will.ret,mb,.bool (msP (n / 16) c2 l2).hasU,.string (msP (n / 16) c2 l2).user,.bool (msP (n / 16) c2 l2).hasP,.string (msP (n / 16) c2 l2).pass,.bool (msP (n / 16) c2 l2).present,.string (msP (n / 16) c2 l2).topic,.string (msP (n / 16) c2 l2).pay,.int .i64 (msP (n / 16) c2 l2).qos,.bool (msP (n / 16) c2 l2).ret,.bool (msP (n / 16) c2 l2).dup,mc,md,me] true 0 := by rw [← hσ7]; exact AHeap.get_set_same _ _ _
    clear hσ7
    try simp (disch := first | assumption | simp) only [↓sbD,sbU,tyB,Nat.reduceMul,Nat.reduceSub,Int.reduceEq,Int.reduceLT,Int.reduceLE,Int.reduceNe,Nat.reduceBneDiff,Nat.reduceBEq,decide_false,gt_iff_lt,Bool.or_self,Bool.false_eq_true,Nat.mul_one,Nat.one_mul,Nat.zero_mul,↓reduceIte,Nat.reduceEqDiff,Nat.reduceLT,Nat.reduceAdd,Nat.reduceLeDiff,reduceCtorEq,goInt,pairs,isConst,TI.isAgg,splice,boxS,Edp,dpv,Nat.beq_eq,ZV.val,List.any_cons,List.any_nil,Bool.false_and,gt]
    refine specMsEnc hv3 hsm2 (fun fb2 he2 σ8 k8 => ?_) fun k2 r2 a2 he2 σ8 d2 z2 k8 hd2 hn2 => by cases he2.det hE
    have hfe := he2.det hE
    simp only [Except.ok.injEq] at hfe
    subst hfe
    have gt8 := (k8.at gt (by simp) (by simp)).1
    simp (disch := first | assumption | simp) only [↓sbD,sbU,tyB,↓reduceIte,Nat.reduceEqDiff,Nat.reduceLT,Nat.reduceAdd,Nat.reduceLeDiff,splice,AS_new,zeFra]
    intro c' hc'
    try simp (disch := first | assumption | simp) only [↓sbD,sbU,tyB,Nat.reduceMul,Nat.reduceSub,Int.reduceEq,Int.reduceLT,Int.reduceLE,Int.reduceNe,Nat.reduceBneDiff,Nat.reduceBEq,decide_false,gt_iff_lt,Bool.or_self,Bool.false_eq_true,Nat.mul_one,Nat.one_mul,Nat.zero_mul,↓reduceIte,Nat.reduceEqDiff,Nat.reduceLT,Nat.reduceAdd,Nat.reduceLeDiff,reduceCtorEq,goInt,pairs,isConst,TI.isAgg,splice,boxS,Edp,dpv,Nat.beq_eq,ZV.val,List.any_cons,List.any_nil,Bool.false_and,AHeap.get_set_same]
    generalize hσ9 : AHeap.set (AHeap.set σ8 c' _) c' _ = σ9
    have k9 : Kept σ8 [] σ9 [] := by rw [← hσ9]; exact ((Kept.refl _ []).setD hc').setD hc'
    have gc9 : σ9.get c' = .cells [.int .i64 n,.string b] true 0 := by rw [← hσ9]; exact AHeap.get_set_same _ _ _
    have gt9 := (k9.at gt8 (by simp) (by simp)).1
    clear hσ9
    try simp (disch := first | assumption | simp) only [↓sbD,sbU,tyB,Nat.reduceMul,Nat.reduceSub,Int.reduceEq,Int.reduceLT,Int.reduceLE,Int.reduceNe,Nat.reduceBneDiff,Nat.reduceBEq,decide_false,gt_iff_lt,Bool.or_self,Bool.false_eq_true,Nat.mul_one,Nat.one_mul,Nat.zero_mul,↓reduceIte,Nat.reduceEqDiff,Nat.reduceLT,Nat.reduceAdd,Nat.reduceLeDiff,reduceCtorEq,goInt,pairs,isConst,TI.isAgg,splice,boxS,Edp,dpv,Nat.beq_eq,ZV.val,List.any_cons,List.any_nil,Bool.false_and,gc9]
    refine specMsDec (by omega) (fun y2 hy3 v4 σ10 hv4 k10 => ?_) fun k2 r2 a2 hy3 σ10 d2 z2 k10 hd2 hn2 => by cases hy3.det hD2
    have hye := hy3.det hD2
    simp only [Except.ok.injEq] at hye
    subst hye
    have gt10 := (k10.at gt9 (by simp) (by simp)).1
    obtain ⟨oa,ob,oc,od,oe,o1,o2,o3,o4,o5,rfl⟩ := hv4
    have hv4 : PkV (msP (n / 16) c2 l2) (.agg ⟨pkC (msP (n / 16) c2 l2) oa ob oc od oe⟩) := ⟨_,_,_,_,_,o1,o2,o3,o4,o5,rfl⟩
    have vo1 := dl_vc o1
    have vo2 := dl_vc o2
    have vo3 := dl_vc o3
    have vo4 := dl_vc o4
    have vo5 := dl_vc o5
    simp only [pkC] at hv4 ⊢
    simp (disch := first | assumption | simp) only [↓sbD,sbU,tyB,↓reduceIte,Nat.reduceEqDiff,Nat.reduceLT,Nat.reduceAdd,Nat.reduceLeDiff,isConst,splice,AS_new,zePk,vo1.2,vo2.2,vo3.2,vo4.2,vo5.2]
    intro t' ht'
    try simp (disch := first | assumption | simp) only [↓sbD,sbU,tyB,Nat.reduceMul,Nat.reduceSub,Int.reduceEq,Int.reduceLT,Int.reduceLE,Int.reduceNe,Nat.reduceBneDiff,Nat.reduceBEq,decide_false,gt_iff_lt,Bool.or_self,Bool.false_eq_true,Nat.mul_one,Nat.one_mul,Nat.zero_mul,↓reduceIte,Nat.reduceEqDiff,Nat.reduceLT,Nat.reduceAdd,Nat.reduceLeDiff,reduceCtorEq,goInt,pairs,isConst,TI.isAgg,splice,boxS,Edp,dpv,Nat.beq_eq,ZV.val,List.any_cons,List.any_nil,Bool.false_and,AHeap.get_set_same,vo1.1,vo1.2,vo2.1,vo2.2,vo3.1,vo3.2,vo4.1,vo4.2,vo5.1,vo5.2,Bool.and_self,Bool.and_true,List.length_cons,List.length_nil,List.cons_append,List.nil_append,List.drop_succ_cons,List.drop_zero,decide_true]
    generalize hσ11 : AHeap.set (AHeap.set σ10 t' _) t' _ = σ11
    have gt' : σ11.get t' = .cells [.int .i64 (msP (n / 16) c2 l2).kind,.int .i64 (msP (n / 16) c2 l2).id,.int .i64 (msP (n / 16) c2 l2).rea,oa,.bool (msP (n / 16) c2 l2).clean,.int .i64 (msP (n / 16) c2 l2).keep,.string (msP (n / 16) c2 l2).client,.bool (msP (n / 16) c2 l2).will.has,.string (msP (n / 16) c2 l2).will.topic,.string (msP (n / 16) c2 l2).will.pay,.int .i64 (msP (n / 16) c2 l2).will.qos,.bool (msP (n / 16) c2 l2).will.ret,ob,.bool (msP (n / 16) c2 l2).hasU,.string (msP (n / 16) c2 l2).user,.bool (msP (n / 16) c2 l2).hasP,.string (msP (n / 16) c2 l2).pass,.bool (msP (n / 16) c2 l2).present,.string (msP (n / 16) c2 l2).topic,.string (msP (n / 16) c2 l2).pay,.int .i64 (msP (n / 16) c2 l2).qos,.bool (msP (n / 16) c2 l2).ret,.bool (msP (n / 16) c2 l2).dup,oc,od,oe] true 0 := by rw [← hσ11]; exact AHeap.get_set_same _ _ _
    have k11 : Kept σ10 [] σ11 [] := by rw [← hσ11]; exact ((Kept.refl _ []).setD ht').setD ht'
    clear hσ11
    try simp (disch := first | assumption | simp) only [↓sbD,sbU,tyB,Nat.reduceMul,Nat.reduceSub,Int.reduceEq,Int.reduceLT,Int.reduceLE,Int.reduceNe,Nat.reduceBneDiff,Nat.reduceBEq,decide_false,gt_iff_lt,Bool.or_self,Bool.false_eq_true,Nat.mul_one,Nat.one_mul,Nat.zero_mul,↓reduceIte,Nat.reduceEqDiff,Nat.reduceLT,Nat.reduceAdd,Nat.reduceLeDiff,reduceCtorEq,goInt,pairs,isConst,TI.isAgg,splice,boxS,Edp,dpv,Nat.beq_eq,ZV.val,List.any_cons,List.any_nil,Bool.false_and,gt']
    have gt11 := (k11.at gt10 (by simp) (by simp)).1
    simp (disch := first | assumption | simp) only [↓sbD,sbU,tyB,↓reduceIte,Nat.reduceEqDiff,Nat.reduceLT,Nat.reduceAdd,Nat.reduceLeDiff,gt11,gt']
    refine specKSame (p := (msP (n / 16) c2 l2)) hv3 hv4 (by have := hsm2.props.1; simp only [msP] at this ⊢; omega) (by simp [msP,pkz]) (by simp [msP,pkz]) (by simp [msP,pkz]) (by simp [msP,pkz]) ?_
    simp (disch := first | assumption | simp) only [↓sbD,sbU,↓reduceIte,Nat.reduceEqDiff,Nat.reduceLT]
    refine specS31 ?_
    simp (disch := first | assumption | simp) only [↓sbD,sbU,↓reduceIte,Nat.reduceEqDiff,Nat.reduceLT]
    exact downS_here rfl
 exact (key H (ext_holds hB0)).mono fun r H' ⟨σ',_,h⟩ => h
end Go.Proofs.YtjkhhdknplelcaaGreatDoor.AbsA
