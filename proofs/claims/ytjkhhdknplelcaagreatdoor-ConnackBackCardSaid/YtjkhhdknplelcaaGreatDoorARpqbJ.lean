/-
  Parts of a law's proof.
-/
import Derived.Test.YtjkhhdknplelcaaGreatDoorAApqbJ
import Derived.Test.YtjkhhdknplelcaaGreatDoorABxqbJ
namespace Go.Proofs.YtjkhhdknplelcaaGreatDoor.AbsA
open Go AbsYtjkhhdknplelcaaGreatDoor Abs
set_option maxRecDepth 100000
set_option maxHeartbeats 4000000
set_option linter.unusedSimpArgs false
set_option linter.unusedVariables false
def At (S : ByteArray) (q : Nat) (t : ByteArray) : Prop := ∃ A : ByteArray,A.size = q ∧ S = A ++ t
theorem At.zero (S : ByteArray) : At S 0 S := ⟨emp,rfl,(emp_app' S).symm⟩
theorem At.le {S t : ByteArray} {q : Nat} (h : At S q t) : S.size = q + t.size := by
 obtain ⟨A,h1,rfl⟩ := h
 rw [size_app,h1]
theorem At.mv {S m t : ByteArray} {q : Nat} (h : At S q (m ++ t)) : At S (q + m.size) t := by
 obtain ⟨A,h1,rfl⟩ := h
 exact ⟨A ++ m,by rw [size_app,h1],by rw [app_assoc]⟩
theorem At.rest {S t : ByteArray} {q : Nat} (h : At S q t) : S.extract q S.size = t := by
 obtain ⟨A,h1,rfl⟩ := h
 rw [← h1]
 exact ext_tail A t
theorem At.num {S t : ByteArray} {q n k : Nat} (hk : k = 1 ∨ k = 2 ∨ k = 4) (hn : n < 2 ^ (8 * k)) (h : At S q (numB n k ++ t)) : numR S q k = .ok (n,q + k) ∧ At S (q + k) t := by
 have h2 := h.mv
 obtain ⟨A,h1,rfl⟩ := h
 rw [numB_k hk] at h2
 exact ⟨num_at A t hk hn h1,h2⟩
theorem At.u8 {S t : ByteArray} {q n : Nat} (hn : n < 256) (h : At S q (numB n 1 ++ t)) : u8S S (.ok q) = (n,.ok (q + 1)) ∧ At S (q + 1) t := by
 have := h.num (k := 1) (by omega) (by omega)
 refine ⟨?_,this.2⟩
 simp only [u8S,stp,this.1]
theorem At.u16 {S t : ByteArray} {q n : Nat} (hn : n < 65536) (h : At S q (numB n 2 ++ t)) : u16S S (.ok q) = (n,.ok (q + 2)) ∧ At S (q + 2) t := by
 have := h.num (k := 2) (by omega) (by omega)
 refine ⟨?_,this.2⟩
 simp only [u16S,stp,this.1]
theorem At.text {S t m b : ByteArray} {q : Nat} (hw : textW b = .inl m) (h : At S q (m ++ t)) : textS S (.ok q) = (b,.ok (q + m.size)) ∧ At S (q + m.size) t := by
 have h2 := h.mv
 refine ⟨?_,h2⟩
 obtain ⟨A,h1,rfl⟩ := h
 have hm := rdA_mid A t (a := ⟨6,0,b⟩) (by simp [kindOk]) (show actW ⟨6,0,b⟩ = .inl m from hw)
 simp only [rdA,Int.reduceEq,if_true,if_false,Int.reduceLT,h1,app_assoc] at hm
 cases hr : textR (A ++ (m ++ t)) q with
 | error e => rw [hr] at hm; cases hm
 | ok a =>
  obtain ⟨v,q'⟩ := a
  rw [hr] at hm
  simp only [mapS,Except.ok.injEq,Prod.mk.injEq] at hm
  simp only [textS,stp,hr]
  rw [hm.1.2,hm.2]
theorem At.props {S t c : ByteArray} {q : Nat} {pl : Int} {l : List Pr} (he : encP pl l = .ok c) (hz : c.size ≤ 700000) (h : At S q (c ++ t)) : ReadPS pl S (.ok q) (.ok (l.map plainP,q + c.size)) ∧ At S (q + c.size) t := by
 have h2 := h.mv
 refine ⟨?_,h2⟩
 obtain ⟨A,h1,rfl⟩ := h
 have := read_encP (A := A) (t := t) he hz
 rw [h1,app_assoc] at this
 exact this
theorem At.fin {S : ByteArray} {q : Nat} (h : At S q emp) : q = S.size := by
 have := h.le
 have h0 : emp.size = 0 := rfl
 omega
theorem endS_fin {S : ByteArray} {q : Nat} (h : At S q emp) : endS S (.ok q) = none := if_pos h.fin
def EncG {β : Type} (pre : Option E3) (pr : Except E3 β) (f : Int) (D : ByteArray → Except E3 Pk → Prop) (acts : β → List Act) (r : Except E3 (Int × ByteArray)) : Prop := match pre with
 | some e => r = .error e
 | none => match pr with
  | .error e => r = .error e
  | .ok s => MadeR f D (runW emp (acts s)) r
theorem EncG.det {β : Type} {pre : Option E3} {pr : Except E3 β} {f : Int} {D : ByteArray → Except E3 Pk → Prop} {acts : β → List Act} (hD : ∀ b r r',D b r → D b r' → r = r') {r r' : Except E3 (Int × ByteArray)} (h : EncG pre pr f D acts r) (h' : EncG pre pr f D acts r') : r = r' := by
 unfold EncG at h h'
 cases pre with
 | some e => exact h.trans h'.symm
 | none =>
  cases pr with
  | error e => exact h.trans h'.symm
  | ok s => exact MadeR.det hD h h'
theorem EncG.inv {β : Type} {pre : Option E3} {pr : Except E3 β} {f : Int} {D : ByteArray → Except E3 Pk → Prop} {acts : β → List Act} {fb : Int × ByteArray} (h : EncG pre pr f D acts (.ok fb)) : pre = none ∧ ∃ s b y,pr = .ok s ∧ catW (acts s) = some b ∧ fb = (f,b) ∧ D b (.ok y) := by
 unfold EncG at h
 cases pre with
 | some e => cases h
 | none =>
  cases pr with
  | error e => cases h
  | ok s =>
   refine ⟨rfl,?_⟩
   simp only [MadeR] at h
   cases hw : runW emp (acts s) with
   | inr e => obtain ⟨k,q⟩ := e; rw [hw] at h; cases h
   | inl b =>
    rw [hw] at h
    simp only at h
    obtain ⟨d,h1,h2⟩ := h
    obtain ⟨D',hD,rfl⟩ := runW_cat hw
    rw [emp_app'] at *
    cases d with
    | error e => cases h2
    | ok y =>
     simp only [Except.ok.injEq] at h2
     exact ⟨s,_,y,rfl,hD,h2,h1⟩
theorem EncG.mk {β : Type} {f : Int} {D : ByteArray → Except E3 Pk → Prop} {acts : β → List Act} {s : β} {b : ByteArray} {y : Pk} (hc : catW (acts s) = some b) (hd : D b (.ok y)) : EncG none (.ok s) f D acts (.ok (f,b)) := by
 simp only [EncG,MadeR]
 rw [catW_run emp hc,emp_app']
 exact ⟨_,hd,rfl⟩
structure bigPk (p : Pk) : Prop where
 props : smallP p.props
 wprops : smallP p.will.props
 client : p.client.size ≤ 2100
 wtopic : p.will.topic.size ≤ 2100
 wpay : p.will.pay.size ≤ 2100
 user : p.user.size ≤ 2100
 pass : p.pass.size ≤ 2100
 topic : p.topic.size ≤ 2100
 pay : p.pay.size ≤ 2100
theorem fewPr.small {l : List Pr} (h : fewPr l) : smallP l := ⟨by have := h.1; omega,fun x hx => by have := h.2 x hx; omega⟩
theorem fewPk.big {p : Pk} (h : fewPk p) : bigPk p := ⟨h.props.small,h.wprops.small,by have := h.client; omega,by have := h.wtopic; omega,by have := h.wpay; omega,by have := h.user; omega,by have := h.pass; omega,by have := h.topic; omega,by have := h.pay; omega⟩
theorem small_nil : smallP [] := ⟨by simp,by simp⟩
theorem ReadPS_w {pl : Int} {s : ByteArray} {p q : Nat} {l : List Pr} (hs : s.size ≤ 2048) (hp : p ≤ s.size) (h : ReadPS pl s (.ok p) (.ok (l,q))) : ∃ c,encP pl l = .ok c ∧ c.size ≤ 700000 ∧ l.map plainP = l ∧ smallP l := by
 obtain ⟨c,h1,h2,h3,h4,h5⟩ := ReadP_w hs hp h
 exact ⟨c,h1,h2,map_plain h4,h5⟩
theorem okS_u8 {s : ByteArray} {st : RSt} {n : Nat} {p : Nat} (h : u8S s st = (n,.ok p)) : n < 256 ∧ p ≤ s.size ∧ ∃ p0,st = .ok p0 := by
 unfold u8S stp at h
 cases st with
 | error e => cases h
 | ok p0 =>
  simp only at h
  cases hn : numR s p0 1 with
  | error e => rw [hn] at h; cases h
  | ok a =>
   obtain ⟨v,q⟩ := a
   rw [hn] at h
   simp only [Prod.mk.injEq,Except.ok.injEq] at h
   obtain ⟨rfl,rfl⟩ := h
   exact ⟨numR_lt hn,(numR_le hn).2,_,rfl⟩
theorem w1 {n : Nat} (h : n < 256) : actW ⟨1,(n : Int),emp⟩ = .inl (numB n 1) := numW_ok (by omega)
theorem w2 {n : Nat} (h : n < 65536) : actW ⟨2,(n : Int),emp⟩ = .inl (numB n 2) := numW_ok (by omega)
theorem w8 {b : ByteArray} : actW ⟨8,0,b⟩ = .inl b := rfl
theorem inv1 {n : Int} {b m : ByteArray} (h : actW ⟨1,n,b⟩ = .inl m) : ∃ k : Nat,n = k ∧ k < 256 ∧ m = numB k 1 := by
 obtain ⟨h1,h2,h3⟩ := numW_inl (show numW n 1 = .inl m from h)
 exact ⟨n.toNat,by omega,by omega,h3⟩
theorem inv8 {n : Int} {b m : ByteArray} (h : actW ⟨8,n,b⟩ = .inl m) : m = b := by
 have h : (Sum.inl b : ByteArray ⊕ (Nat × Nat)) = Sum.inl m := h
 injection h with h
 exact h.symm
def cnP (n c : Nat) (l : List Pr) : Pk := { pkz with kind := 2,present := decide ((n : Int) = 1),rea := c,props := l }
def endM (s : ByteArray) (g : List Pr → Pk) : Except E3 (List Pr × Nat) → Except E3 Pk
 | .error e => .error e
 | .ok (l,q) => match endS s (.ok q) with
  | some e => .error e
  | none => .ok (g l)
def cnBad (n c : Nat) : Option E3 := if 1 < n then some (2,129,0) else if alw 2 (c : Int) = false then some (2,129,1) else if n = 1 ∧ c ≠ 0 then some (3,130,0) else none
def DecC (f : Int) (s : ByteArray) (r : Except E3 Pk) : Prop :=
 if f ≠ 32 then r = .error (2,129,0) else match (u8S s (u8S s (.ok 0)).2).2 with
 | .error (k,q) => r = .error (k,129,q)
 | .ok p => match cnBad (u8S s (.ok 0)).1 (u8S s (u8S s (.ok 0)).2).1 with
  | some e => r = .error e
  | none => ∃ x,ReadPS 2 s (.ok p) x ∧ r = endM s (cnP (u8S s (.ok 0)).1 (u8S s (u8S s (.ok 0)).2).1) x
theorem DecC.det {f : Int} {s : ByteArray} {r r' : Except E3 Pk} (h : DecC f s r) (h' : DecC f s r') : r = r' := by
 unfold DecC at h h'
 split at h
 ·rename_i h1
  rw [if_pos h1] at h'
  exact h.trans h'.symm
 ·rename_i h1
  rw [if_neg h1] at h'
  cases hn : (u8S s (u8S s (.ok 0)).2).2 with
  | error e => obtain ⟨k,q⟩ := e; rw [hn] at h h'; exact h.trans h'.symm
  | ok p =>
   rw [hn] at h h'
   simp only at h h'
   cases hb : cnBad (u8S s (.ok 0)).1 (u8S s (u8S s (.ok 0)).2).1 with
   | some e => rw [hb] at h h'; exact h.trans h'.symm
   | none =>
    rw [hb] at h h'
    obtain ⟨x,h3,rfl⟩ := h
    obtain ⟨y,h4,rfl⟩ := h'
    rw [h3.det h4]
def actsC (p : Pk) (s : ByteArray) : List Act := [⟨1,if p.present then 1 else 0,emp⟩,⟨1,p.rea,emp⟩,⟨8,0,s⟩]
abbrev EncC (p : Pk) (r : Except E3 (Int × ByteArray)) : Prop := EncG none (encP 2 p.props) 32 (DecC 32) (actsC p) r
theorem EncC.det {p : Pk} {r r' : Except E3 (Int × ByteArray)} (h : EncC p r) (h' : EncC p r') : r = r' := EncG.det (D := DecC 32) (fun _ _ _ h1 h2 => h1.det h2) h h'
theorem decC_val {n c : Nat} {l : List Pr} {cc : ByteArray} (hn : n < 256) (hc : c < 256) (he : encP 2 l = .ok cc) (hz : cc.size ≤ 700000) :
  DecC 32 (numB n 1 ++ (numB c 1 ++ (cc ++ emp))) (match cnBad n c with | some e => .error e | none => .ok (cnP n c (l.map plainP))) := by
 generalize hS : numB n 1 ++ (numB c 1 ++ (cc ++ emp)) = S
 have a0 : At S 0 (numB n 1 ++ (numB c 1 ++ (cc ++ emp))) := by rw [hS]; exact At.zero S
 have a1 := a0.u8 hn
 have a2 := a1.2.u8 hc
 have a3 := a2.2.props he hz
 unfold DecC
 rw [if_neg (by simp),a1.1]
 simp only [a2.1]
 cases cnBad n c with
 | some e => rfl
 | none => exact ⟨_,a3.1,by simp only [endM,endS_fin a3.2]⟩
def cnB (p : Pk) : Pk := { pkz with kind := 2,present := p.present,rea := p.rea,props := p.props.map plainP }
theorem actsC_cat {p : Pk} {s b : ByteArray} (h : catW (actsC p s) = some b) : ∃ c : Nat,p.rea = c ∧ c < 256 ∧ b = numB (if p.present then 1 else 0) 1 ++ (numB c 1 ++ (s ++ emp)) := by
 unfold actsC at h
 obtain ⟨m1,x,g1,g2,rfl⟩ := catW_cons h
 obtain ⟨m2,y,g3,g4,rfl⟩ := catW_cons g2
 obtain ⟨m3,z,g5,g6,rfl⟩ := catW_cons g4
 simp only [catW,Option.some.injEq] at g6
 subst g6
 obtain ⟨k,e1,e2,rfl⟩ := inv1 g1
 obtain ⟨c,e3,e4,rfl⟩ := inv1 g3
 have := inv8 g5
 subst this
 refine ⟨c,e3,e4,?_⟩
 have hk : k = if p.present = true then 1 else 0 := by split at e1 <;> simp_all <;> omega
 rw [hk]
theorem cnBack {p : Pk} {fb : Int × ByteArray} {r : Except E3 Pk} (h : EncC p (.ok fb)) (hf : fewPk p) (hd : DecC fb.1 fb.2 r) : r = .ok (cnB p) := by
 obtain ⟨_,s,b,y,h1,h2,rfl,h4⟩ := h.inv
 rw [DecC.det hd h4]
 have hz : s.size ≤ 700000 := by have := encP_size hf.props h1; omega
 obtain ⟨c,e1,e2,rfl⟩ := actsC_cat h2
 have hv := decC_val (n := if p.present then 1 else 0) (c := c) (by split <;> omega) e2 h1 hz
 have := DecC.det h4 hv
 cases hb : cnBad (if p.present then 1 else 0) c with
 | some e => rw [hb] at this; cases this
 | none =>
  rw [hb] at this
  rw [this]
  simp only [cnP,cnB,e1]
  cases p.present <;> rfl
theorem cnAgain {f : Int} {s : ByteArray} {p : Pk} (h : DecC f s (.ok p)) (hs : s.size ≤ 2048) : ∃ b,EncC p (.ok (f,b)) ∧ DecC f b (.ok p) ∧ bigPk p ∧ b.size ≤ 800000 ∧ ∃ n c l,p = cnP n c l := by
 unfold DecC at h
 split at h
 ·cases h
 rename_i hf
 obtain rfl : f = 32 := by omega
 rcases g1 : u8S s (.ok 0) with ⟨n,st1⟩
 rw [g1] at h
 simp only at h
 rcases g2 : u8S s st1 with ⟨c,st2⟩
 rw [g2] at h
 simp only at h
 cases st2 with
 | error e => obtain ⟨k,q⟩ := e; cases h
 | ok p2 =>
  simp only at h
  obtain ⟨hc,hp2,p1,rfl⟩ := okS_u8 g2
  obtain ⟨hn,hp1,_⟩ := okS_u8 g1
  cases hb : cnBad n c with
  | some e => rw [hb] at h; cases h
  | none =>
   rw [hb] at h
   obtain ⟨x,hx,h3⟩ := h
   cases x with
   | error e => cases h3
   | ok lq =>
    obtain ⟨l,q⟩ := lq
    simp only [endM] at h3
    split at h3
    ·cases h3
    ·simp only [Except.ok.injEq] at h3
     subst h3
     obtain ⟨cc,e1,e2,e3,e4⟩ := ReadPS_w hs hp2 hx
     have hv := decC_val (n := n) (c := c) hn hc e1 e2
     rw [hb,e3] at hv
     have hn1 : n ≤ 1 := by
      unfold cnBad at hb
      split at hb
      ·cases hb
      ·omega
     have hpn : (if (cnP n c l).present = true then (1 : Int) else 0) = (n : Nat) := by
      have : n = 0 ∨ n = 1 := by omega
      rcases this with rfl | rfl <;> rfl
     have hcat : catW (actsC (cnP n c l) cc) = some (numB n 1 ++ (numB c 1 ++ (cc ++ emp))) := by
      unfold actsC
      rw [hpn]
      exact catW_1 (w1 hn) (catW_1 (w1 hc) (catW_1 w8 rfl))
     have he0 : emp.size = 0 := rfl
     have hB : EncC (cnP n c l) (.ok (32,numB n 1 ++ (numB c 1 ++ (cc ++ emp)))) := by
      show EncG none (encP 2 l) 32 (DecC 32) (actsC (cnP n c l)) _
      rw [e1]
      exact EncG.mk hcat hv
     refine ⟨_,hB,hv,⟨e4,small_nil,?_,?_,?_,?_,?_,?_,?_⟩,?_,n,c,l,rfl⟩
     all_goals try (show emp.size ≤ 2100; rw [he0]; omega)
     have z1 := numB_size n 1
     have z2 := numB_size c 1
     simp only [size_app,he0]; omega
set_option maxHeartbeats 8000000
attribute [local irreducible] afterS afterOpS opSK OpsS TrS CodeS condS condW thenS thenQ guardS guardTS outS drawS trSK consS
section
variable {σ : AHeap} {Q : Value → AHeap → Prop} {s : ByteArray}
theorem specCBad {n c : Nat} (hok : cnBad n c = none → Q .nilIface σ) (hbad : ∀ k rr a : Nat,cnBad n c = some (k,rr,a) → ∀ d z,d ≤ 2 → ErN d (fv rr a z) k → Q (fv rr a z) σ) : CallS E B 76 [.int .i64 (n : Int),.int .i64 (c : Int)] σ Q := by
 unfold cnBad at hok hbad
 refine call76 (by simp) ?_
 simp only [strip,bodyOf,Tryz.f76,getD_body,keepN,bareOp_mk,List.map_cons,List.map_nil,↓reduceIte,Bool.false_eq_true]
 by_cases h1 : 1 < n
 ·have h1' : (1 : Int) < (n : Int) := by omega
  simp only [h1,if_true] at hbad
  simp only [↓sbD,sbU,tyB,↓reduceIte,Nat.reduceLT,reduceCtorEq,isConst,h1',gk2]
  refine specNew (n := 2) ⟨by omega,by omega⟩ ?_
  simp only [↓sbD,sbU,↓reduceIte,Nat.reduceLT]
  exact downS_here (hbad 2 129 0 rfl 1 _ (by omega) (ErN.new _ _ ⟨by omega,by omega⟩))
 have h1' : ¬ (1 : Int) < (n : Int) := by omega
 simp only [h1,if_false] at hok hbad
 simp only [↓sbD,sbU,decide_false,↓reduceIte,Nat.reduceEqDiff,Nat.reduceLT,reduceCtorEq,isConst,h1']
 refine specAlwR ?_
 cases ha : alw 2 (c : Int) with
 | false =>
  simp only [ha,if_true] at hbad
  simp only [↓sbD,sbU,tyB,↓reduceIte,Nat.reduceLT,not_bool,gk2]
  refine specNew (n := 2) ⟨by omega,by omega⟩ ?_
  simp only [↓sbD,sbU,↓reduceIte,Nat.reduceLT]
  exact downS_here (hbad 2 129 1 rfl 1 _ (by omega) (ErN.new _ _ ⟨by omega,by omega⟩))
 | true =>
  simp only [ha,Bool.true_eq_false,if_false] at hok hbad
  by_cases h2 : n = 1 ∧ c ≠ 0
  ·have h3 : (n : Int) = 1 := by omega
   have h4 : ¬ (c : Int) = 0 := by omega
   simp only [if_pos h2] at hbad
   simp only [↓sbD,sbU,tyB,↓reduceIte,Nat.reduceEqDiff,Nat.reduceLT,reduceCtorEq,isConst,not_bool,h3,h4,gk3]
   refine specNew (n := 3) ⟨by omega,by omega⟩ ?_
   simp only [↓sbD,sbU,↓reduceIte,Nat.reduceLT]
   exact downS_here (hbad 3 130 0 rfl 1 _ (by omega) (ErN.new _ _ ⟨by omega,by omega⟩))
  ·simp only [if_neg h2] at hok
   by_cases h3 : (n : Int) = 1
   ·have h4 : (c : Int) = 0 := by omega
    simp only [↓sbD,sbU,decide_false,↓reduceIte,Nat.reduceEqDiff,Nat.reduceLT,reduceCtorEq,isConst,not_bool,h3,h4]
    exact downS_here (hok (by first | trivial | rfl))
   ·simp only [↓sbD,sbU,decide_false,↓reduceIte,Nat.reduceEqDiff,Nat.reduceLT,reduceCtorEq,isConst,not_bool,h3]
    exact downS_here (hok (by first | trivial | rfl))
theorem specCDec {f : Int} (hs : s.size ≤ 100000000)
  (hok : ∀ p,DecC f s (.ok p) → ∀ v σ',PkV p v → Kept σ [] σ' [] → Q (.tuple #[v,.nilIface]) σ')
  (hbad : ∀ k rr a : Nat,DecC f s (.error (k,rr,a)) → ∀ σ' d z,Kept σ [] σ' [] → d ≤ 3 → ErN d (fv rr a z) k → Q (.tuple #[.agg ⟨zeL⟩,fv rr a z]) σ') :
  CallS E B 29 [.agg ⟨[.int .i64 f,.string s]⟩] σ Q := by
 unfold DecC at hok hbad
 refine call29 (by simp) ?_
 simp only [strip,bodyOf,Tryz.f29,getD_body,keepN,bareOp_mk,List.map_cons,List.map_nil,↓reduceIte,Bool.false_eq_true]
 by_cases h1 : f = 32
 rotate_left
 ·simp only [if_pos (show f ≠ 32 from h1)] at hbad
  simp (disch := first | assumption | simp) only [↓sbD,sbU,tyB,↓reduceIte,Nat.reduceEqDiff,Nat.reduceLT,reduceCtorEq,pairs,isConst,boxS,Edp,dpv,ZV.val,AS_new,zePk,h1,gk2]
  intro b hb
  refine specNew (n := 2) ⟨by omega,by omega⟩ ?_
  simp (disch := first | assumption | simp) only [↓sbD,sbU,tyB,↓reduceIte,Nat.reduceEqDiff,Nat.reduceLT,Nat.reduceAdd,Nat.reduceLeDiff,splice,res_cellc,resC_some]
  exact downS_here (hbad 2 129 0 rfl _ 1 _ (((Kept.refl σ []).setD hb).setD hb) (by omega) (ErN.new _ _ ⟨by omega,by omega⟩))
 simp only [if_neg (show ¬ f ≠ 32 from fun h => h h1)] at hok hbad
 simp (disch := first | assumption | simp) only [↓sbD,sbU,tyB,decide_false,↓reduceIte,Nat.reduceEqDiff,Nat.reduceLT,reduceCtorEq,isConst,boxS,Edp,dpv,AS_new,zePk,h1]
 intro b hb
 generalize hσ1 : AHeap.set σ b _ = σ1
 have k1 : Kept σ [] σ1 [] := by rw [← hσ1]; exact (Kept.refl σ []).setD hb
 have gb1 : σ1.get b = .cells zeL true 0 := by rw [← hσ1]; exact AHeap.get_set_same _ _ _
 clear hσ1
 refine specRNew fun x σ2 hx k2 i2 => ?_
 have r2 : IsRS σ2 x s (.ok 0) := ⟨Nat.zero_le _,i2⟩
 simp (disch := first | assumption | simp) only [↓sbD,sbU,↓reduceIte,Nat.reduceLT]
 refine specSU8 r2 hs fun σ3 k3 r3 => ?_
 generalize (u8S s (.ok 0)).1 = n at hok hbad ⊢
 generalize (u8S s (.ok 0)).2 = st1 at hok hbad r3 ⊢
 simp (disch := first | assumption | simp) only [↓sbD,sbU,↓reduceIte,Nat.reduceEqDiff,Nat.reduceLT]
 refine specSU8 r3 hs fun σ4 k4 r4 => ?_
 generalize (u8S s st1).1 = c at hok hbad ⊢
 generalize (u8S s st1).2 = st2 at hok hbad r4 ⊢
 have K4 := k2.trans (k3.trans k4)
 have gb4 := (K4.at gb1 (by simp) (by simp)).1
 simp only [zeL,pkC,pkz] at gb4
 have T4 := k1.trans (K4.wid (gp := []) (gp' := []) (fun _ h => by cases h) (fun _ h => by cases h))
 simp (disch := first | assumption | simp) only [↓sbD,sbU,↓reduceIte,Nat.reduceEqDiff,Nat.reduceLT]
 refine specSErr r4 (fun p hp => ?_) fun k q d z hp hd he => ?_
 rotate_left
 ·subst hp
  simp only at hbad
  simp (disch := first | assumption | simp) only [↓sbD,sbU,tyB,↓reduceIte,Nat.reduceEqDiff,Nat.reduceLT,Nat.reduceAdd,Nat.reduceLeDiff,pairs,isConst,splice,ZV.val,gb4,res_cellc,resC_some]
  exact downS_here (hbad k 129 q rfl _ d z (T4.setD hb) (by omega) he)
 subst hp
 simp only at hok hbad
 simp (disch := first | assumption | simp) only [↓sbD,sbU,tyB,↓reduceIte,Nat.reduceEqDiff,Nat.reduceLT,isConst]
 refine specCBad (fun hcb => ?_) fun k rr a hcb d z hd he => ?_
 rotate_left
 ·rw [hcb] at hbad
  simp (disch := first | assumption | simp) only [↓sbD,sbU,tyB,↓reduceIte,Nat.reduceEqDiff,Nat.reduceLT,Nat.reduceAdd,Nat.reduceLeDiff,pairs,isConst,splice,ZV.val,gb4,res_cellc,resC_some]
  exact downS_here (hbad k rr a rfl _ d z (T4.setD hb) (by omega) he)
 rw [hcb] at hok hbad
 simp only at hok hbad
 simp (disch := first | assumption | simp) only [↓sbD,sbU,tyB,↓reduceIte,Nat.reduceEqDiff,Nat.reduceLT,isConst]
 refine specSRead r4 hs (fun l q hrd v σ5 hv k5 r5 => ?_) fun k rr a hrd σ5 d z k5 hd he => ?_
 all_goals
  have K5 := K4.trans k5
  have gb5 := (K5.at gb1 (by simp) (by simp)).1
  simp only [zeL,pkC,pkz] at gb5
  have T5 := k1.trans (K5.wid (gp := []) (gp' := []) (fun _ h => by cases h) (fun _ h => by cases h))
 rotate_left
 ·simp (disch := first | assumption | simp) only [↓sbD,sbU,tyB,↓reduceIte,Nat.reduceEqDiff,Nat.reduceLT,Nat.reduceAdd,Nat.reduceLeDiff,pairs,isConst,splice,ZV.val,gb5,res_cellc,resC_some]
  exact downS_here (hbad k rr a ⟨_,hrd,rfl⟩ _ d z (T5.setD hb) hd he)
 simp (disch := first | assumption | simp) only [↓sbD,sbU,tyB,↓reduceIte,Nat.reduceEqDiff,Nat.reduceLT,isConst]
 refine specSDone r5 hs (fun hend => ?_) fun k q' d z hend hd he => ?_
 rotate_left
 ·simp (disch := first | assumption | simp) only [↓sbD,sbU,tyB,↓reduceIte,Nat.reduceEqDiff,Nat.reduceLT,Nat.reduceAdd,Nat.reduceLeDiff,pairs,isConst,splice,ZV.val,gb5,res_cellc,resC_some]
  exact downS_here (hbad k 129 q' ⟨_,hrd,by simp only [endM,hend]⟩ _ d z (T5.setD hb) (by omega) he)
 have hvc := dl_vc hv
 simp (disch := first | assumption | simp) only [↓sbD,sbU,tyB,↓reduceIte,Nat.reduceEqDiff,Nat.reduceLT,Nat.reduceAdd,Nat.reduceLeDiff,pairs,isConst,splice,ZV.val,gb5,res_cellc,resC_some,hvc.1,hvc.2]
 exact downS_here (hok _ ⟨_,hrd,by simp only [endM,hend]; rfl⟩ _ _ ⟨_,_,_,_,_,hv,.inl ⟨rfl,rfl⟩,.inl ⟨rfl,rfl⟩,.inl ⟨rfl,rfl⟩,.inl ⟨rfl,rfl⟩,rfl⟩ (T5.setD hb))
theorem specCEnc {p : Pk} {v : Value} (hp : PkV p v) (hm : bigPk p)
  (hok : ∀ fb,EncC p (.ok fb) → ∀ σ',Kept σ [] σ' [] → Q (.tuple #[.agg ⟨[.int .i64 fb.1,.string fb.2]⟩,.nilIface]) σ')
  (hbad : ∀ k rr a : Nat,EncC p (.error (k,rr,a)) → ∀ σ' d z,Kept σ [] σ' [] → d ≤ 3 → ErN d (fv rr a z) k → Q (.tuple #[.agg ⟨[.int .i64 0,.string emp]⟩,fv rr a z]) σ') :
  CallS E B 26 [v] σ Q := by
 obtain ⟨vp,vw,vs,vf,vc,d1,d2,d3,d4,d5,rfl⟩ := hp
 obtain ⟨up,uw,us,uf,uc,d1,d2,d3,d4,d5,-,hbx⟩ := boxPk d1 d2 d3 d4 d5
 simp only [pkC] at hbx ⊢
 have eml : (emp).size = 0 := rfl
 unfold EncC EncG at hok hbad
 simp only at hok hbad
 refine call26 (by simp) ?_
 simp only [strip,bodyOf,Tryz.f26,getD_body,keepN,bareOp_mk,List.map_cons,List.map_nil,↓reduceIte,Bool.false_eq_true]
 simp only [↓sbD,sbU,tyB,↓reduceIte,Nat.reduceEqDiff,Nat.reduceLT,reduceCtorEq,hbx,AS_new,zeFra]
 intro b hb
 generalize hσ1 : AHeap.set σ b _ = σ1
 have k1 : Kept σ [] σ1 [] := by rw [← hσ1]; exact (Kept.refl σ []).setD hb
 have gb1 : σ1.get b = .cells [.int .i64 0,.string emp] true 0 := by rw [← hσ1]; exact AHeap.get_set_same _ _ _
 clear hσ1
 refine specPEncode d1 hm.props (fun c hce hcz => ?_) fun k r a d z hce hd he => ?_
 rotate_left
 ·rw [hce] at hbad
  simp only at hbad
  simp only [↓sbD,sbU,tyB,↓reduceIte,Nat.reduceEqDiff,Nat.reduceLT,Nat.reduceAdd,Nat.reduceLeDiff,pairs,isConst,splice,ZV.val,gb1,res_cellc,resC_some]
  exact downS_here (hbad k r a rfl _ d z (k1.setD hb) (by omega) he)
 rw [hce] at hok hbad
 simp only at hok hbad
 simp only [↓sbD,sbU,tyB,Bool.false_eq_true,↓reduceIte,Nat.reduceEqDiff,Nat.reduceLT,reduceCtorEq,pairs,isConst,boxS,Edp,ZV.val,Bool.false_and,AS_new,dpW]
 intro w hw
 have hwb : w ≠ b := nd hw gb1 (by simp)
 generalize hσ2 : AHeap.set σ1 w _ = σ2
 have gw : σ2.get w = .cells [.slice none 0 0,.nilIface] true 0 := by rw [← hσ2]; exact AHeap.get_set_same _ _ _
 have k2 : Kept σ1 [] σ2 [w] := by rw [← hσ2]; exact Kept.new' hw
 have w2 : WRun σ2 w (runW emp []) [w] := ⟨_,[],gw,.inl ⟨rfl,rfl,rfl⟩,rfl,by simp⟩
 have z2 : leW (runW emp []) 0 := fun b hb => by injection hb with hb; subst hb; exact Nat.le_refl _
 clear gw hσ2
 have hacts : ∀ n : Int,(if p.present then 1 else 0) = n → stepW (stepW (stepW (runW emp []) [⟨1,n,emp⟩]) [⟨1,p.rea,emp⟩]) [⟨8,0,c⟩] = runW emp (actsC p c) := fun n hn => by rw [stepW_app,stepW_app]; unfold actsC; rw [hn]; rfl
 cases hpr : p.present
 all_goals
  have hact := hacts _ (by rw [hpr])
  simp only [Bool.false_eq_true,if_false,if_true] at hact
  simp only [↓sbD,sbU,↓reduceIte,Nat.reduceEqDiff,Nat.reduceLT]
  refine specU8R (s := emp) w2 (fun b hb => by have := z2 b hb; omega) fun σ3 fp3 k3 w3 => ?_
  have z3 := leW_step (a := ⟨1,0,emp⟩) z2
  have z3' := leW_step (a := ⟨1,1,emp⟩) z2
  simp only [eml] at z3 z3'
  simp only [↓sbD,sbU,tyB,↓reduceIte,Nat.reduceEqDiff,Nat.reduceLT,reduceCtorEq]
  refine specU8R (s := emp) w3 (fun b hb => by first | (have := z3 b hb; omega) | (have := z3' b hb; omega)) fun σ4 fp4 k4 w4 => ?_
  have z4 := leW_step (a := ⟨1,p.rea,emp⟩) z3
  have z4' := leW_step (a := ⟨1,p.rea,emp⟩) z3'
  simp only [eml] at z4 z4'
  simp only [↓sbD,sbU,↓reduceIte,Nat.reduceEqDiff,Nat.reduceLT]
  refine specRawR (n := 0) w4 (fun b hb => by first | (have := z4 b hb; omega) | (have := z4' b hb; omega)) (by omega) fun σ5 fp5 k5 w5 => ?_
  have z5 : leW (runW emp (actsC p c)) (700000 + 20) := fun b hb => by
   rw [← hact] at hb
   first
    | (have := leW_step (a := ⟨8,0,c⟩) z4 b hb; simp only at this; omega)
    | (have := leW_step (a := ⟨8,0,c⟩) z4' b hb; simp only at this; omega)
  rw [hact] at w5
  have K5 := k2.trans (k3.trans (k4.trans k5))
  simp only [↓sbD,sbU,↓reduceIte,Nat.reduceEqDiff,Nat.reduceLT]
  refine specBytesR w5 (fun bb hbb => ?_) fun k q d z hr hd he => ?_
  ·have gbn := (K5.at gb1 (by simp) (by simp)).1
   have hle := z5 bb hbb
   simp only [↓sbD,sbU,tyB,↓reduceIte,Nat.reduceEqDiff,Nat.reduceLT,Nat.reduceAdd,Nat.reduceLeDiff,pairs,isConst,splice,ZV.val,AS_new,zeFra]
   intro c hc
   have hcb : c ≠ b := nd hc gbn (by simp)
   generalize hσc : AHeap.set _ c _ = σc
   have kc : Kept σ5 [] σc [] := by rw [← hσc]; exact ((Kept.refl _ []).setD hc).setD hc
   have gc : σc.get c = .cells [.int .i64 (32),.string bb] true 0 := by rw [← hσc]; exact AHeap.get_set_same _ _ _
   clear hσc
   try simp only [↓sbD,sbU,tyB,Nat.reduceMul,Nat.reduceSub,Int.reduceEq,Int.reduceLT,Int.reduceLE,Int.reduceNe,Nat.reduceBneDiff,Nat.reduceBEq,decide_false,gt_iff_lt,Bool.or_self,Bool.false_eq_true,Nat.mul_one,Nat.one_mul,Nat.zero_mul,↓reduceIte,Nat.reduceEqDiff,Nat.reduceLT,Nat.reduceAdd,Nat.reduceLeDiff,reduceCtorEq,goInt,pairs,isConst,TI.isAgg,splice,boxS,Edp,dpv,Nat.beq_eq,ZV.val,List.any_cons,List.any_nil,Bool.false_and,gc]
   refine specCDec (by omega) (fun y hy v2 σd hv2 kd => ?_) fun k rr a hy σd d z kd hd he => ?_
   ·have gbd := ((kc.trans kd).at gbn (by simp) (by simp)).1
    have gcd := (kd.at gc (by simp) (by simp)).1
    simp only [↓sbD,sbU,tyB,↓reduceIte,Nat.reduceEqDiff,Nat.reduceLT,Nat.reduceAdd,Nat.reduceLeDiff,isConst,splice,gcd,gbd,res_cellc,resC_some]
    exact downS_here (hok (32,bb) (by unfold MadeR; rw [hbb]; exact ⟨_,hy,rfl⟩) _ ((k1.trans ((K5.wid (gp := []) (gp' := []) (fun _ h => by cases h) (fun _ h => by cases h)).trans (kc.trans kd))).setD hb))
   ·have gbd := ((kc.trans kd).at gbn (by simp) (by simp)).1
    simp only [↓sbD,sbU,tyB,↓reduceIte,Nat.reduceEqDiff,Nat.reduceLT,Nat.reduceAdd,Nat.reduceLeDiff,pairs,isConst,splice,ZV.val,gbd,res_cellc,resC_some]
    exact downS_here (hbad k rr a (by unfold MadeR; rw [hbb]; exact ⟨_,hy,rfl⟩) _ d z ((k1.trans ((K5.wid (gp := []) (gp' := []) (fun _ h => by cases h) (fun _ h => by cases h)).trans (kc.trans kd))).setD hb) hd he)
  ·have gbn := (K5.at gb1 (by simp) (by simp)).1
   simp only [↓sbD,sbU,tyB,↓reduceIte,Nat.reduceEqDiff,Nat.reduceLT,Nat.reduceAdd,Nat.reduceLeDiff,pairs,isConst,splice,ZV.val,AS_new,zeFra]
   intro c hc
   have hcb : c ≠ b := nd hc gbn (by simp)
   have bc : ∀ (τ : AHeap) o,(AHeap.set τ c o).get b = τ.get b := fun τ o => AHeap.get_set_ne _ _ hcb
   simp only [↓sbD,sbU,tyB,↓reduceIte,Nat.reduceEqDiff,Nat.reduceLT,Nat.reduceAdd,Nat.reduceLeDiff,splice,bc,gbn,res_cellc,resC_some]
   exact downS_here (hbad k 129 q (by unfold MadeR; rw [hr]) _ d z ((k1.trans ((K5.wid (gp := []) (gp' := []) (fun _ h => by cases h) (fun _ h => by cases h)).trans (((Kept.refl _ []).setD hc).setD hc))).setD hb) (by omega) he)
end
section
variable {σ : AHeap} {Q : Value → AHeap → Prop} {s : ByteArray}
theorem catW_sz {l : List Act} {c : ByteArray} (h : catW l = some c) : c.size ≤ (l.map fun a => a.s.size + 4).sum := by
 have h1 := catW_run emp h
 have h2 := runW_le l emp _ 0 (Nat.le_refl _) h1
 rw [emp_app'] at h2
 omega
theorem encC_size {p : Pk} {fb : Int × ByteArray} (h : EncC p (.ok fb)) (hf : fewPk p) : fb.2.size ≤ 100000 := by
 obtain ⟨h0,s,b,y,h1,h2,rfl,h4⟩ := h.inv
 have hz := catW_sz h2
 have he0 : emp.size = 0 := rfl
 show b.size ≤ 100000
 have := encP_size hf.props h1
 simp only [actsC,List.map_cons,List.map_nil,List.sum_cons,List.sum_nil,he0] at hz
 omega
theorem specBare09 {p : Pk} {v : Value} (hp : PkV p v) (hs : p.props.length ≤ 1000) (hsw : p.will.props.length ≤ 1000) (hq : ∀ w σ',PkV (cnB p) w → Kept σ [] σ' [] → Q w σ') : CallS E B 30 [v] σ Q := by
 obtain ⟨vp,vw,vs,vf,vc,d1,d2,d3,d4,d5,rfl⟩ := hp
 obtain ⟨up,uw,us,uf,uc,d1,d2,d3,d4,d5,_,hbx⟩ := boxPk d1 d2 d3 d4 d5
 simp only [pkC] at hbx ⊢
 refine call30 (by simp) ?_
 simp only [strip,bodyOf,Tryz.f30,getD_body,keepN,bareOp_mk,lessOp_mk,List.map_cons,List.map_nil,↓reduceIte,Nat.reduceEqDiff,Bool.false_eq_true]
 simp only [↓sbD,sbU,tyB,↓reduceIte,Nat.reduceEqDiff,Nat.reduceLT,reduceCtorEq,AS_new,zePk,hbx]
 intro b hb
 refine specKPlain d1 hs fun w σ1 hw k1 => ?_
 have gb : (σ.set b _).get b = _ := AHeap.get_set_same σ b (.cells [.int .i64 0,.int .i64 0,.int .i64 0,.slice none 0 0,.bool false,.int .i64 0,.string emp,.bool false,.string emp,.string emp,.int .i64 0,.bool false,.slice none 0 0,.bool false,.string emp,.bool false,.string emp,.bool false,.string emp,.string emp,.int .i64 0,.bool false,.bool false,.slice none 0 0,.slice none 0 0,.slice none 0 0] true 0)
 have gb1 := (k1.at gb (by simp) (by simp)).1
 have hvc := dl_vc hw
 simp only [↓sbD,sbU,tyB,↓reduceIte,Nat.reduceEqDiff,Nat.reduceLT,Nat.reduceAdd,Nat.reduceLeDiff,pairs,splice,ZV.val,gb1,hvc.1,hvc.2]
 refine drawS_l (fl := [(1,6),(3,6)]) (by kernel_rfl) ?_ ?_
 rotate_left; simp only [lastP_cc,lastP_one]; rotate_left
 ·simp only [List.all_cons,List.all_nil,floatS,List.getElem?_cons_succ,List.getElem?_cons_zero,List.getElem?_toArray,Region.wanted,Bool.not_true,Bool.or_true,reads,looksWeak,aev_tmp,upd_at,↓reduceIte,Nat.reduceLT,Nat.reduceAdd,blkOf,Bool.and_self,Bool.false_eq_true]
  try rfl
 simp only [↓sbD,sbU,tyB,↓reduceIte,Nat.reduceEqDiff,Nat.reduceLT,Nat.reduceAdd,Nat.reduceLeDiff,res_cellc,resC_some]
 exact downS_here (hq _ _ ⟨_,_,_,_,_,hw,.inl ⟨rfl,rfl⟩,.inl ⟨rfl,rfl⟩,.inl ⟨rfl,rfl⟩,.inl ⟨rfl,rfl⟩,rfl⟩ ((((Kept.refl σ []).setD hb).trans k1).setD hb))
end
theorem fraNe {σ : AHeap} {cs : Bool} {f : Int} {a : ByteArray} : abin E σ .neq 33 cs (.agg ⟨[.int .i64 f,.string a]⟩) (.agg ⟨[.int .i64 f,.string a]⟩) = some (.bool false) := by
 have e1 : (a == a) = true := by rw [bytes_dec]; simp
 simp only [abin,nonNum,eqAsk,aeq,aeqs,apart,ty33,ty3,ty9,TI.isAgg,Bool.and_self,Bool.false_eq_true,List.getElem?_cons_zero,List.getElem?_cons_succ,↓reduceIte,beq_self_eq_true,Option.map_some,e1]
 rfl
theorem fraNe0 {σ : AHeap} {cs : Bool} : abin E σ .neq 33 cs (.agg ⟨[.int .i64 0,.string emp]⟩) (.agg ⟨[.int .i64 0,.string ⟨#[]⟩]⟩) = some (.bool false) := fraNe
theorem pk_zero : PkV pkz (.agg ⟨zeL⟩) := ⟨_,_,_,_,_,.inl ⟨rfl,rfl⟩,.inl ⟨rfl,rfl⟩,.inl ⟨rfl,rfl⟩,.inl ⟨rfl,rfl⟩,.inl ⟨rfl,rfl⟩,rfl⟩
theorem law5 {H : AHeap} {vs : List Value} (hB0 : Ext B H) (h : ArgsTyped E H 8 [29,3,9] vs) : CallW E 8 vs H fun r _ => r = .bool true := by
 obtain ⟨u,vs1,rfl,t1,e1⟩ := h.cons'
 obtain ⟨u2,vs2,rfl,t2,e2⟩ := e1.cons'
 obtain ⟨u3,vs3,rfl,t3,e3⟩ := e2.cons'
 obtain rfl := e3.nil'
 obtain ⟨p,hp,_⟩ := typed_pk t1
 obtain ⟨n,rfl⟩ := typed_i t2
 obtain ⟨s,rfl⟩ := typed_s t3
 clear t1 t2 t3 e1 e2 e3 h
 have key : CallS E B 8 [u,.int .i64 n,.string s] .empty fun r _ => r = .bool true := by
  obtain ⟨vp,vw,vs,vf,vc,d1,d2,d3,d4,d5,rfl⟩ := hp
  obtain ⟨up,uw,us,uf,uc,d1,d2,d3,d4,d5,hzz,hbx⟩ := boxPk d1 d2 d3 d4 d5
  have hp : PkV p (.agg ⟨pkC p up uw us uf uc⟩) := ⟨_,_,_,_,_,d1,d2,d3,d4,d5,rfl⟩
  have hfz : ∀ cs,Value.agg ⟨pkC p up uw us uf uc⟩ = .agg ⟨cs⟩ → frzL E.ng E.nb cs = true := fun cs h => by injection h with h; injection h with h; rw [← h]; exact hzz
  clear d1 d2 d3 d4 d5 hzz
  simp only [pkC] at hp hfz hbx ⊢
  refine call8 (by simp) ?_
  simp only [strip,bodyOf,Tryz.f8,getD_body,keepN,bareOp_mk,lessOp_mk,lapp_cons,lapp_nil,List.map_cons,List.map_nil,↓reduceIte,Nat.reduceEqDiff,Bool.false_eq_true]
  simp (disch := first | assumption | simp) only [↓sbD,sbU,tyB,↓reduceIte,Nat.reduceEqDiff,Nat.reduceLT,Nat.reduceAdd,Nat.reduceLeDiff,hbx]
  refine specKFew hp hfz fun few hfew => ?_
  cases few with
  | false =>
   simp (disch := first | assumption | simp) only [↓sbD,sbU,↓reduceIte,Nat.reduceEqDiff,Nat.reduceLT,not_bool]
   refine specS25 ?_
   simp (disch := first | assumption | simp) only [↓sbD,sbU,↓reduceIte,Nat.reduceLT]
   exact downS_here rfl
  | true =>
   have hf := hfew rfl
   have hsm : smallP p.props := ⟨by have := hf.props.1; omega,fun x hx => by have := hf.props.2 x hx; omega⟩
   by_cases hsz : (2048 : Int) < (s.size : Int)
   ·simp (disch := first | assumption | simp) only [↓sbD,sbU,tyB,↓reduceIte,Nat.reduceEqDiff,Nat.reduceLT,goInt,isConst,not_bool,hsz]
    refine specS25 ?_
    simp (disch := first | assumption | simp) only [↓sbD,sbU,↓reduceIte,Nat.reduceLT]
    exact downS_here rfl
   simp (disch := first | assumption | simp) only [↓sbD,sbU,tyB,decide_false,↓reduceIte,Nat.reduceEqDiff,Nat.reduceLT,Nat.reduceAdd,Nat.reduceLeDiff,goInt,isConst,not_bool,hsz]
   refine specCEnc hp hf.big (fun fb he σ1 k1 => ?_) fun k rr a he σ1 d z k1 hd hn => ?_
   focus
    have hfz2 := encC_size he hf
    simp (disch := first | assumption | simp) only [↓sbD,sbU,tyB,↓reduceIte,Nat.reduceEqDiff,Nat.reduceLT,Nat.reduceAdd,Nat.reduceLeDiff,isConst,splice,AS_new,zeFra]
    intro c hc
    try simp (disch := first | assumption | simp) only [↓sbD,sbU,tyB,Nat.reduceMul,Nat.reduceSub,Int.reduceEq,Int.reduceLT,Int.reduceLE,Int.reduceNe,Nat.reduceBneDiff,Nat.reduceBEq,decide_false,gt_iff_lt,Bool.or_self,Bool.false_eq_true,Nat.mul_one,Nat.one_mul,Nat.zero_mul,↓reduceIte,Nat.reduceEqDiff,Nat.reduceLT,Nat.reduceAdd,Nat.reduceLeDiff,reduceCtorEq,goInt,pairs,isConst,TI.isAgg,splice,boxS,Edp,dpv,Nat.beq_eq,ZV.val,List.any_cons,List.any_nil,Bool.false_and,AHeap.get_set_same]
    generalize hσ2 : AHeap.set (AHeap.set σ1 c _) c _ = σ2
    have gc2 : σ2.get c = .cells [.int .i64 fb.1,.string fb.2] true 0 := by rw [← hσ2]; exact AHeap.get_set_same _ _ _
    clear hσ2
    try simp (disch := first | assumption | simp) only [↓sbD,sbU,tyB,Nat.reduceMul,Nat.reduceSub,Int.reduceEq,Int.reduceLT,Int.reduceLE,Int.reduceNe,Nat.reduceBneDiff,Nat.reduceBEq,decide_false,gt_iff_lt,Bool.or_self,Bool.false_eq_true,Nat.mul_one,Nat.one_mul,Nat.zero_mul,↓reduceIte,Nat.reduceEqDiff,Nat.reduceLT,Nat.reduceAdd,Nat.reduceLeDiff,reduceCtorEq,goInt,pairs,isConst,TI.isAgg,splice,boxS,Edp,dpv,Nat.beq_eq,ZV.val,List.any_cons,List.any_nil,Bool.false_and,gc2]
    refine specCDec (by omega) (fun y hy v2 σ3 hv2 k3 => ?_) fun k rr a hy σ3 d z k3 hd hn => by cases cnBack he hf hy
    have hyy := cnBack he hf hy
    simp only [Except.ok.injEq] at hyy
    subst hyy
    obtain ⟨ga,gb,gc,gd,ge,g1,g2,g3,g4,g5,rfl⟩ := hv2
    have hv2 : PkV (cnB p) (.agg ⟨pkC (cnB p) ga gb gc gd ge⟩) := ⟨_,_,_,_,_,g1,g2,g3,g4,g5,rfl⟩
    have vg1 := dl_vc g1
    have vg2 := dl_vc g2
    have vg3 := dl_vc g3
    have vg4 := dl_vc g4
    have vg5 := dl_vc g5
    simp only [pkC,cnB,pkz] at hv2 ⊢
    simp (disch := first | assumption | simp) only [↓sbD,sbU,tyB,↓reduceIte,Nat.reduceEqDiff,Nat.reduceLT,Nat.reduceAdd,Nat.reduceLeDiff,isConst,splice,AS_new,zePk,vg1.2,vg2.2,vg3.2,vg4.2,vg5.2]
    intro t ht
    try simp (disch := first | assumption | simp) only [↓sbD,sbU,tyB,Nat.reduceMul,Nat.reduceSub,Int.reduceEq,Int.reduceLT,Int.reduceLE,Int.reduceNe,Nat.reduceBneDiff,Nat.reduceBEq,decide_false,gt_iff_lt,Bool.or_self,Bool.false_eq_true,Nat.mul_one,Nat.one_mul,Nat.zero_mul,↓reduceIte,Nat.reduceEqDiff,Nat.reduceLT,Nat.reduceAdd,Nat.reduceLeDiff,reduceCtorEq,goInt,pairs,isConst,TI.isAgg,splice,boxS,Edp,dpv,Nat.beq_eq,ZV.val,List.any_cons,List.any_nil,Bool.false_and,AHeap.get_set_same,vg1.1,vg1.2,vg2.1,vg2.2,vg3.1,vg3.2,vg4.1,vg4.2,vg5.1,vg5.2,Bool.and_self,Bool.and_true,List.length_cons,List.length_nil,List.cons_append,List.nil_append,List.drop_succ_cons,List.drop_zero,decide_true]
    generalize hσ4 : AHeap.set (AHeap.set σ3 t _) t _ = σ4
    have gt : σ4.get t = .cells [.int .i64 2,.int .i64 0,.int .i64 p.rea,ga,.bool false,.int .i64 0,.string emp,.bool false,.string emp,.string emp,.int .i64 0,.bool false,gb,.bool false,.string emp,.bool false,.string emp,.bool p.present,.string emp,.string emp,.int .i64 0,.bool false,.bool false,gc,gd,ge] true 0 := by rw [← hσ4]; exact AHeap.get_set_same _ _ _
    clear hσ4
    try simp (disch := first | assumption | simp) only [↓sbD,sbU,tyB,Nat.reduceMul,Nat.reduceSub,Int.reduceEq,Int.reduceLT,Int.reduceLE,Int.reduceNe,Nat.reduceBneDiff,Nat.reduceBEq,decide_false,gt_iff_lt,Bool.or_self,Bool.false_eq_true,Nat.mul_one,Nat.one_mul,Nat.zero_mul,↓reduceIte,Nat.reduceEqDiff,Nat.reduceLT,Nat.reduceAdd,Nat.reduceLeDiff,reduceCtorEq,goInt,pairs,isConst,TI.isAgg,splice,boxS,Edp,dpv,Nat.beq_eq,ZV.val,List.any_cons,List.any_nil,Bool.false_and,gt]
    refine specBare09 hp (by have := hf.props.1; omega) (by have := hf.wprops.1; omega) fun w σ5 hw k5 => ?_
    have gt5 := (k5.at gt (by simp) (by simp)).1
    try simp (disch := first | assumption | simp) only [↓sbD,sbU,↓reduceIte,Nat.reduceEqDiff,Nat.reduceLT]
    refine specKSame (p := (cnB p)) hv2 hw (by simp only [cnB,List.length_map]; have := hf.props.1; omega) (by simp [cnB,pkz]) (by simp [cnB,pkz]) (by simp [cnB,pkz]) (by simp [cnB,pkz]) ?_
    simp (disch := first | assumption | simp) only [↓sbD,sbU,↓reduceIte,Nat.reduceEqDiff,Nat.reduceLT,not_bool]
    refine drawS_l (fl := [(3,5)]) (by kernel_rfl) ?_ ?_
    rotate_left; simp only [lastP_cc,lastP_one]; rotate_left
    ·simp only [List.all_cons,List.all_nil,floatS,List.getElem?_cons_succ,List.getElem?_cons_zero,List.getElem?_toArray,Region.wanted,Bool.not_false,Bool.or_true,reads,looksWeak,aev_tmp,upd_at,↓reduceIte,Nat.reduceEqDiff,Nat.reduceLT,Nat.reduceAdd,blkOf,oeq_refl,dead_cells,Bool.and_self,Bool.false_eq_true,Bool.not_false,gt,gt5]
     try rfl
    simp (disch := first | assumption | simp) only [↓sbD,sbU,tyB,↓reduceIte,Nat.reduceEqDiff,Nat.reduceLT,Nat.reduceAdd,Nat.reduceLeDiff,pairs,splice,ZV.val]
   rotate_left
   focus
    simp (disch := first | assumption | simp) only [↓sbD,sbU,tyB,Bool.or_self,↓reduceIte,Nat.reduceEqDiff,Nat.reduceLT,Nat.reduceAdd,Nat.reduceLeDiff,pairs,isConst,splice,ZV.val,AS_new,zeFra]
    intro c hc
    try simp (disch := first | assumption | simp) only [↓sbD,sbU,tyB,↓reduceIte,Nat.reduceEqDiff,Nat.reduceLT,Nat.reduceAdd,Nat.reduceLeDiff,pairs,splice,ZV.val,fraNe0]
   all_goals
    refine specCDec (by omega) (fun p2 hy2 v3 σ6 hv3 k6 => ?_) fun k2 r2 a2 hy2 σ6 d2 z2 k6 hd2 hn2 => ?_
    rotate_left
    ·simp only [zeL,pkC,pkz]
     simp (disch := first | assumption | simp) only [↓sbD,sbU,tyB,↓reduceIte,Nat.reduceEqDiff,Nat.reduceLT,Nat.reduceAdd,Nat.reduceLeDiff,pairs,isConst,splice,ZV.val,AS_new,zePk]
     intro e he2
     try simp (disch := first | assumption | simp) only [↓sbD,sbU,tyB,Nat.reduceMul,Nat.reduceSub,Int.reduceEq,Int.reduceLT,Int.reduceLE,Int.reduceNe,Nat.reduceBneDiff,Nat.reduceBEq,decide_false,gt_iff_lt,Bool.or_self,Bool.false_eq_true,Nat.mul_one,Nat.one_mul,Nat.zero_mul,↓reduceIte,Nat.reduceEqDiff,Nat.reduceLT,Nat.reduceAdd,Nat.reduceLeDiff,reduceCtorEq,goInt,pairs,isConst,TI.isAgg,splice,boxS,Edp,dpv,Nat.beq_eq,ZV.val,List.any_cons,List.any_nil,Bool.false_and,AHeap.get_set_same]
     refine specKSame (p := pkz) pk_zero pk_zero (by decide) (by decide) (by decide) (by decide) (by decide) ?_
     simp (disch := first | assumption | simp) only [↓sbD,sbU,↓reduceIte,Nat.reduceLT]
     refine specS25 ?_
     simp (disch := first | assumption | simp) only [↓sbD,sbU,↓reduceIte,Nat.reduceEqDiff,Nat.reduceLT]
     exact downS_here rfl
    obtain ⟨b,hE,hD2,hsm2,hbz,n2,c2,l2,rfl⟩ := cnAgain hy2 (by omega)
    obtain ⟨ma,mb,mc,md,me,m1,m2,m3,m4,m5,rfl⟩ := hv3
    have hv3 : PkV (cnP n2 c2 l2) (.agg ⟨pkC (cnP n2 c2 l2) ma mb mc md me⟩) := ⟨_,_,_,_,_,m1,m2,m3,m4,m5,rfl⟩
    have vm1 := dl_vc m1
    have vm2 := dl_vc m2
    have vm3 := dl_vc m3
    have vm4 := dl_vc m4
    have vm5 := dl_vc m5
    simp only [pkC,cnP,pkz] at hv3 ⊢
    simp (disch := first | assumption | simp) only [↓sbD,sbU,tyB,↓reduceIte,Nat.reduceEqDiff,Nat.reduceLT,Nat.reduceAdd,Nat.reduceLeDiff,isConst,splice,AS_new,zePk,vm1.2,vm2.2,vm3.2,vm4.2,vm5.2]
    intro t ht
    try simp (disch := first | assumption | simp) only [↓sbD,sbU,tyB,Nat.reduceMul,Nat.reduceSub,Int.reduceEq,Int.reduceLT,Int.reduceLE,Int.reduceNe,Nat.reduceBneDiff,Nat.reduceBEq,decide_false,gt_iff_lt,Bool.or_self,Bool.false_eq_true,Nat.mul_one,Nat.one_mul,Nat.zero_mul,↓reduceIte,Nat.reduceEqDiff,Nat.reduceLT,Nat.reduceAdd,Nat.reduceLeDiff,reduceCtorEq,goInt,pairs,isConst,TI.isAgg,splice,boxS,Edp,dpv,Nat.beq_eq,ZV.val,List.any_cons,List.any_nil,Bool.false_and,AHeap.get_set_same,vm1.1,vm1.2,vm2.1,vm2.2,vm3.1,vm3.2,vm4.1,vm4.2,vm5.1,vm5.2,Bool.and_self,Bool.and_true,List.length_cons,List.length_nil,List.cons_append,List.nil_append,List.drop_succ_cons,List.drop_zero,decide_true]
    generalize hσ7 : AHeap.set (AHeap.set σ6 t _) t _ = σ7
    have gt : σ7.get t = .cells [.int .i64 2,.int .i64 0,.int .i64 (c2 : Int),ma,.bool false,.int .i64 0,.string emp,.bool false,.string emp,.string emp,.int .i64 0,.bool false,mb,.bool false,.string emp,.bool false,.string emp,.bool (decide ((n2 : Int) = 1)),.string emp,.string emp,.int .i64 0,.bool false,.bool false,mc,md,me] true 0 := by rw [← hσ7]; exact AHeap.get_set_same _ _ _
    clear hσ7
    try simp (disch := first | assumption | simp) only [↓sbD,sbU,tyB,Nat.reduceMul,Nat.reduceSub,Int.reduceEq,Int.reduceLT,Int.reduceLE,Int.reduceNe,Nat.reduceBneDiff,Nat.reduceBEq,decide_false,gt_iff_lt,Bool.or_self,Bool.false_eq_true,Nat.mul_one,Nat.one_mul,Nat.zero_mul,↓reduceIte,Nat.reduceEqDiff,Nat.reduceLT,Nat.reduceAdd,Nat.reduceLeDiff,reduceCtorEq,goInt,pairs,isConst,TI.isAgg,splice,boxS,Edp,dpv,Nat.beq_eq,ZV.val,List.any_cons,List.any_nil,Bool.false_and,gt]
    refine specCEnc hv3 hsm2 (fun fb2 he2 σ8 k8 => ?_) fun k2 r2 a2 he2 σ8 d2 z2 k8 hd2 hn2 => by cases he2.det hE
    have hfe := he2.det hE
    simp only [Except.ok.injEq] at hfe
    subst hfe
    have gt8 := (k8.at gt (by simp) (by simp)).1
    simp (disch := first | assumption | simp) only [↓sbD,sbU,tyB,↓reduceIte,Nat.reduceEqDiff,Nat.reduceLT,Nat.reduceAdd,Nat.reduceLeDiff,splice,AS_new,zeFra]
    intro c' hc'
    try simp (disch := first | assumption | simp) only [↓sbD,sbU,tyB,Nat.reduceMul,Nat.reduceSub,Int.reduceEq,Int.reduceLT,Int.reduceLE,Int.reduceNe,Nat.reduceBneDiff,Nat.reduceBEq,decide_false,gt_iff_lt,Bool.or_self,Bool.false_eq_true,Nat.mul_one,Nat.one_mul,Nat.zero_mul,↓reduceIte,Nat.reduceEqDiff,Nat.reduceLT,Nat.reduceAdd,Nat.reduceLeDiff,reduceCtorEq,goInt,pairs,isConst,TI.isAgg,splice,boxS,Edp,dpv,Nat.beq_eq,ZV.val,List.any_cons,List.any_nil,Bool.false_and,AHeap.get_set_same]
    generalize hσ9 : AHeap.set (AHeap.set σ8 c' _) c' _ = σ9
    have k9 : Kept σ8 [] σ9 [] := by rw [← hσ9]; exact ((Kept.refl _ []).setD hc').setD hc'
    have gc9 : σ9.get c' = .cells [.int .i64 n,.string b] true 0 := by rw [← hσ9]; exact AHeap.get_set_same _ _ _
    have gt9 := (k9.at gt8 (by simp) (by simp)).1
    clear hσ9
    try simp (disch := first | assumption | simp) only [↓sbD,sbU,tyB,Nat.reduceMul,Nat.reduceSub,Int.reduceEq,Int.reduceLT,Int.reduceLE,Int.reduceNe,Nat.reduceBneDiff,Nat.reduceBEq,decide_false,gt_iff_lt,Bool.or_self,Bool.false_eq_true,Nat.mul_one,Nat.one_mul,Nat.zero_mul,↓reduceIte,Nat.reduceEqDiff,Nat.reduceLT,Nat.reduceAdd,Nat.reduceLeDiff,reduceCtorEq,goInt,pairs,isConst,TI.isAgg,splice,boxS,Edp,dpv,Nat.beq_eq,ZV.val,List.any_cons,List.any_nil,Bool.false_and,gc9]
    refine specCDec (by omega) (fun y2 hy3 v4 σ10 hv4 k10 => ?_) fun k2 r2 a2 hy3 σ10 d2 z2 k10 hd2 hn2 => by cases hy3.det hD2
    have hye := hy3.det hD2
    simp only [Except.ok.injEq] at hye
    subst hye
    have gt10 := (k10.at gt9 (by simp) (by simp)).1
    obtain ⟨oa,ob,oc,od,oe,o1,o2,o3,o4,o5,rfl⟩ := hv4
    have hv4 : PkV (cnP n2 c2 l2) (.agg ⟨pkC (cnP n2 c2 l2) oa ob oc od oe⟩) := ⟨_,_,_,_,_,o1,o2,o3,o4,o5,rfl⟩
    have vo1 := dl_vc o1
    have vo2 := dl_vc o2
    have vo3 := dl_vc o3
    have vo4 := dl_vc o4
    have vo5 := dl_vc o5
    simp only [pkC,cnP,pkz] at hv4 ⊢
    simp (disch := first | assumption | simp) only [↓sbD,sbU,tyB,↓reduceIte,Nat.reduceEqDiff,Nat.reduceLT,Nat.reduceAdd,Nat.reduceLeDiff,isConst,splice,AS_new,zePk,vo1.2,vo2.2,vo3.2,vo4.2,vo5.2]
    intro t' ht'
    try simp (disch := first | assumption | simp) only [↓sbD,sbU,tyB,Nat.reduceMul,Nat.reduceSub,Int.reduceEq,Int.reduceLT,Int.reduceLE,Int.reduceNe,Nat.reduceBneDiff,Nat.reduceBEq,decide_false,gt_iff_lt,Bool.or_self,Bool.false_eq_true,Nat.mul_one,Nat.one_mul,Nat.zero_mul,↓reduceIte,Nat.reduceEqDiff,Nat.reduceLT,Nat.reduceAdd,Nat.reduceLeDiff,reduceCtorEq,goInt,pairs,isConst,TI.isAgg,splice,boxS,Edp,dpv,Nat.beq_eq,ZV.val,List.any_cons,List.any_nil,Bool.false_and,AHeap.get_set_same,vo1.1,vo1.2,vo2.1,vo2.2,vo3.1,vo3.2,vo4.1,vo4.2,vo5.1,vo5.2,Bool.and_self,Bool.and_true,List.length_cons,List.length_nil,List.cons_append,List.nil_append,List.drop_succ_cons,List.drop_zero,decide_true]
    generalize hσ11 : AHeap.set (AHeap.set σ10 t' _) t' _ = σ11
    have gt' : σ11.get t' = .cells [.int .i64 2,.int .i64 0,.int .i64 (c2 : Int),oa,.bool false,.int .i64 0,.string emp,.bool false,.string emp,.string emp,.int .i64 0,.bool false,ob,.bool false,.string emp,.bool false,.string emp,.bool (decide ((n2 : Int) = 1)),.string emp,.string emp,.int .i64 0,.bool false,.bool false,oc,od,oe] true 0 := by rw [← hσ11]; exact AHeap.get_set_same _ _ _
    have k11 : Kept σ10 [] σ11 [] := by rw [← hσ11]; exact ((Kept.refl _ []).setD ht').setD ht'
    clear hσ11
    try simp (disch := first | assumption | simp) only [↓sbD,sbU,tyB,Nat.reduceMul,Nat.reduceSub,Int.reduceEq,Int.reduceLT,Int.reduceLE,Int.reduceNe,Nat.reduceBneDiff,Nat.reduceBEq,decide_false,gt_iff_lt,Bool.or_self,Bool.false_eq_true,Nat.mul_one,Nat.one_mul,Nat.zero_mul,↓reduceIte,Nat.reduceEqDiff,Nat.reduceLT,Nat.reduceAdd,Nat.reduceLeDiff,reduceCtorEq,goInt,pairs,isConst,TI.isAgg,splice,boxS,Edp,dpv,Nat.beq_eq,ZV.val,List.any_cons,List.any_nil,Bool.false_and,gt']
    have gt11 := (k11.at gt10 (by simp) (by simp)).1
    simp (disch := first | assumption | simp) only [↓sbD,sbU,tyB,↓reduceIte,Nat.reduceEqDiff,Nat.reduceLT,Nat.reduceAdd,Nat.reduceLeDiff,gt11,gt']
    refine specKSame (p := (cnP n2 c2 l2)) hv3 hv4 (by have := hsm2.props.1; simp only [cnP] at this ⊢; omega) (by simp [cnP,pkz]) (by simp [cnP,pkz]) (by simp [cnP,pkz]) (by simp [cnP,pkz]) ?_
    simp (disch := first | assumption | simp) only [↓sbD,sbU,↓reduceIte,Nat.reduceEqDiff,Nat.reduceLT]
    refine specS25 ?_
    simp (disch := first | assumption | simp) only [↓sbD,sbU,↓reduceIte,Nat.reduceEqDiff,Nat.reduceLT]
    exact downS_here rfl
 exact (key H (ext_holds hB0)).mono fun r H' ⟨σ',_,h⟩ => h
end Go.Proofs.YtjkhhdknplelcaaGreatDoor.AbsA
