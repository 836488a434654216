/-
  Parts of a law's proof.
-/
import Derived.Test.YtjkhhdknplelcaaGreatDoorAApqbJ
import Derived.Test.YtjkhhdknplelcaaGreatDoorABxqbJ
namespace Go.Proofs.YtjkhhdknplelcaaGreatDoor.AbsA
open Go AbsYtjkhhdknplelcaaGreatDoor Abs
set_option maxRecDepth 100000
set_option maxHeartbeats 4000000
set_option linter.unusedSimpArgs false
set_option linter.unusedVariables false
def At (S : ByteArray) (q : Nat) (t : ByteArray) : Prop := ∃ A : ByteArray,A.size = q ∧ S = A ++ t
theorem At.zero (S : ByteArray) : At S 0 S := ⟨emp,rfl,(emp_app' S).symm⟩
theorem At.le {S t : ByteArray} {q : Nat} (h : At S q t) : S.size = q + t.size := by
 obtain ⟨A,h1,rfl⟩ := h
 rw [size_app,h1]
theorem At.mv {S m t : ByteArray} {q : Nat} (h : At S q (m ++ t)) : At S (q + m.size) t := by
 obtain ⟨A,h1,rfl⟩ := h
 exact ⟨A ++ m,by rw [size_app,h1],by rw [app_assoc]⟩
theorem At.rest {S t : ByteArray} {q : Nat} (h : At S q t) : S.extract q S.size = t := by
 obtain ⟨A,h1,rfl⟩ := h
 rw [← h1]
 exact ext_tail A t
theorem At.num {S t : ByteArray} {q n k : Nat} (hk : k = 1 ∨ k = 2 ∨ k = 4) (hn : n < 2 ^ (8 * k)) (h : At S q (numB n k ++ t)) : numR S q k = .ok (n,q + k) ∧ At S (q + k) t := by
 have h2 := h.mv
 obtain ⟨A,h1,rfl⟩ := h
 rw [numB_k hk] at h2
 exact ⟨num_at A t hk hn h1,h2⟩
theorem At.u8 {S t : ByteArray} {q n : Nat} (hn : n < 256) (h : At S q (numB n 1 ++ t)) : u8S S (.ok q) = (n,.ok (q + 1)) ∧ At S (q + 1) t := by
 have := h.num (k := 1) (by omega) (by omega)
 refine ⟨?_,this.2⟩
 simp only [u8S,stp,this.1]
theorem At.u16 {S t : ByteArray} {q n : Nat} (hn : n < 65536) (h : At S q (numB n 2 ++ t)) : u16S S (.ok q) = (n,.ok (q + 2)) ∧ At S (q + 2) t := by
 have := h.num (k := 2) (by omega) (by omega)
 refine ⟨?_,this.2⟩
 simp only [u16S,stp,this.1]
theorem At.text {S t m b : ByteArray} {q : Nat} (hw : textW b = .inl m) (h : At S q (m ++ t)) : textS S (.ok q) = (b,.ok (q + m.size)) ∧ At S (q + m.size) t := by
 have h2 := h.mv
 refine ⟨?_,h2⟩
 obtain ⟨A,h1,rfl⟩ := h
 have hm := rdA_mid A t (a := ⟨6,0,b⟩) (by simp [kindOk]) (show actW ⟨6,0,b⟩ = .inl m from hw)
 simp only [rdA,Int.reduceEq,if_true,if_false,Int.reduceLT,h1,app_assoc] at hm
 cases hr : textR (A ++ (m ++ t)) q with
 | error e => rw [hr] at hm; cases hm
 | ok a =>
  obtain ⟨v,q'⟩ := a
  rw [hr] at hm
  simp only [mapS,Except.ok.injEq,Prod.mk.injEq] at hm
  simp only [textS,stp,hr]
  rw [hm.1.2,hm.2]
theorem At.props {S t c : ByteArray} {q : Nat} {pl : Int} {l : List Pr} (he : encP pl l = .ok c) (hz : c.size ≤ 700000) (h : At S q (c ++ t)) : ReadPS pl S (.ok q) (.ok (l.map plainP,q + c.size)) ∧ At S (q + c.size) t := by
 have h2 := h.mv
 refine ⟨?_,h2⟩
 obtain ⟨A,h1,rfl⟩ := h
 have := read_encP (A := A) (t := t) he hz
 rw [h1,app_assoc] at this
 exact this
theorem At.fin {S : ByteArray} {q : Nat} (h : At S q emp) : q = S.size := by
 have := h.le
 have h0 : emp.size = 0 := rfl
 omega
def EncG {β : Type} (pre : Option E3) (pr : Except E3 β) (f : Int) (D : ByteArray → Except E3 Pk → Prop) (acts : β → List Act) (r : Except E3 (Int × ByteArray)) : Prop := match pre with
 | some e => r = .error e
 | none => match pr with
  | .error e => r = .error e
  | .ok s => MadeR f D (runW emp (acts s)) r
theorem EncG.det {β : Type} {pre : Option E3} {pr : Except E3 β} {f : Int} {D : ByteArray → Except E3 Pk → Prop} {acts : β → List Act} (hD : ∀ b r r',D b r → D b r' → r = r') {r r' : Except E3 (Int × ByteArray)} (h : EncG pre pr f D acts r) (h' : EncG pre pr f D acts r') : r = r' := by
 unfold EncG at h h'
 cases pre with
 | some e => exact h.trans h'.symm
 | none =>
  cases pr with
  | error e => exact h.trans h'.symm
  | ok s => exact MadeR.det hD h h'
theorem EncG.inv {β : Type} {pre : Option E3} {pr : Except E3 β} {f : Int} {D : ByteArray → Except E3 Pk → Prop} {acts : β → List Act} {fb : Int × ByteArray} (h : EncG pre pr f D acts (.ok fb)) : pre = none ∧ ∃ s b y,pr = .ok s ∧ catW (acts s) = some b ∧ fb = (f,b) ∧ D b (.ok y) := by
 unfold EncG at h
 cases pre with
 | some e => cases h
 | none =>
  cases pr with
  | error e => cases h
  | ok s =>
   refine ⟨rfl,?_⟩
   simp only [MadeR] at h
   cases hw : runW emp (acts s) with
   | inr e => obtain ⟨k,q⟩ := e; rw [hw] at h; cases h
   | inl b =>
    rw [hw] at h
    simp only at h
    obtain ⟨d,h1,h2⟩ := h
    obtain ⟨D',hD,rfl⟩ := runW_cat hw
    rw [emp_app'] at *
    cases d with
    | error e => cases h2
    | ok y =>
     simp only [Except.ok.injEq] at h2
     exact ⟨s,_,y,rfl,hD,h2,h1⟩
theorem EncG.mk {β : Type} {f : Int} {D : ByteArray → Except E3 Pk → Prop} {acts : β → List Act} {s : β} {b : ByteArray} {y : Pk} (hc : catW (acts s) = some b) (hd : D b (.ok y)) : EncG none (.ok s) f D acts (.ok (f,b)) := by
 simp only [EncG,MadeR]
 rw [catW_run emp hc,emp_app']
 exact ⟨_,hd,rfl⟩
structure bigPk (p : Pk) : Prop where
 props : smallP p.props
 wprops : smallP p.will.props
 client : p.client.size ≤ 2100
 wtopic : p.will.topic.size ≤ 2100
 wpay : p.will.pay.size ≤ 2100
 user : p.user.size ≤ 2100
 pass : p.pass.size ≤ 2100
 topic : p.topic.size ≤ 2100
 pay : p.pay.size ≤ 2100
theorem fewPr.small {l : List Pr} (h : fewPr l) : smallP l := ⟨by have := h.1; omega,fun x hx => by have := h.2 x hx; omega⟩
theorem fewPk.big {p : Pk} (h : fewPk p) : bigPk p := ⟨h.props.small,h.wprops.small,by have := h.client; omega,by have := h.wtopic; omega,by have := h.wpay; omega,by have := h.user; omega,by have := h.pass; omega,by have := h.topic; omega,by have := h.pay; omega⟩
theorem small_nil : smallP [] := ⟨by simp,by simp⟩
theorem ReadPS_w {pl : Int} {s : ByteArray} {p q : Nat} {l : List Pr} (hs : s.size ≤ 2048) (hp : p ≤ s.size) (h : ReadPS pl s (.ok p) (.ok (l,q))) : ∃ c,encP pl l = .ok c ∧ c.size ≤ 700000 ∧ l.map plainP = l ∧ smallP l := by
 obtain ⟨c,h1,h2,h3,h4,h5⟩ := ReadP_w hs hp h
 exact ⟨c,h1,h2,map_plain h4,h5⟩
theorem okS_u16 {s : ByteArray} {st : RSt} {n : Nat} {p : Nat} (h : u16S s st = (n,.ok p)) : n < 65536 ∧ p ≤ s.size ∧ ∃ p0,st = .ok p0 := by
 unfold u16S stp at h
 cases st with
 | error e => cases h
 | ok p0 =>
  simp only at h
  cases hn : numR s p0 2 with
  | error e => rw [hn] at h; cases h
  | ok a =>
   obtain ⟨v,q⟩ := a
   rw [hn] at h
   simp only [Prod.mk.injEq,Except.ok.injEq] at h
   obtain ⟨rfl,rfl⟩ := h
   exact ⟨numR_lt hn,(numR_le hn).2,_,rfl⟩
theorem okS_text {s : ByteArray} {st : RSt} {b : ByteArray} {p : Nat} (h : textS s st = (b,.ok p)) : textW b = .inl (numB b.size 2 ++ b) ∧ b.size ≤ s.size ∧ p ≤ s.size ∧ ∃ p0,st = .ok p0 := by
 unfold textS stp at h
 cases st with
 | error e => cases h
 | ok p0 =>
  simp only at h
  cases hn : textR s p0 with
  | error e => rw [hn] at h; cases h
  | ok a =>
   obtain ⟨v,q⟩ := a
   rw [hn] at h
   simp only [Prod.mk.injEq,Except.ok.injEq] at h
   obtain ⟨rfl,rfl⟩ := h
   exact ⟨(textR_w hn).1,(textR_w hn).2,(textR_ok hn).2,_,rfl⟩
theorem w1 {n : Nat} (h : n < 256) : actW ⟨1,(n : Int),emp⟩ = .inl (numB n 1) := numW_ok (by omega)
theorem w2 {n : Nat} (h : n < 65536) : actW ⟨2,(n : Int),emp⟩ = .inl (numB n 2) := numW_ok (by omega)
theorem w6 {b m : ByteArray} (h : textW b = .inl m) : actW ⟨6,0,b⟩ = .inl m := h
theorem w8 {b : ByteArray} : actW ⟨8,0,b⟩ = .inl b := rfl
theorem inv2 {n : Int} {b m : ByteArray} (h : actW ⟨2,n,b⟩ = .inl m) : ∃ k : Nat,n = k ∧ k < 65536 ∧ m = numB k 2 := by
 obtain ⟨h1,h2,h3⟩ := numW_inl (show numW n 2 = .inl m from h)
 exact ⟨n.toNat,by omega,by omega,h3⟩
theorem inv8 {n : Int} {b m : ByteArray} (h : actW ⟨8,n,b⟩ = .inl m) : m = b := by
 have h : (Sum.inl b : ByteArray ⊕ (Nat × Nat)) = Sum.inl m := h
 injection h with h
 exact h.symm
def okP : RSt → Bool
 | .ok _ => true
 | .error _ => false
def plc : RSt → Nat
 | .ok p => p
 | .error _ => 0
def idS (q : Int) (s : ByteArray) (st : RSt) : Nat × RSt := if 0 < q then u16S s st else (0,st)
def pbP (f : Int) (t : ByteArray) (id : Nat) (l : List Pr) (pay : ByteArray) : Pk := { pkz with kind := 3,topic := t,id := id,qos := f / 2 % 4,dup := decide (f / 8 % 2 = 1),ret := decide (f % 2 = 1),props := l,pay := pay }
def restM (s : ByteArray) (g : List Pr → ByteArray → Pk) : Except E3 (List Pr × Nat) → Except E3 Pk
 | .error e => .error e
 | .ok (l,q) => .ok (g l (s.extract q s.size))
def pbBad (f : Int) : Prop := f < 48 ∨ 63 < f ∨ f / 2 % 4 = 3 ∨ (f / 8 % 2 = 1 ∧ f / 2 % 4 = 0)
instance (f : Int) : Decidable (pbBad f) := by unfold pbBad; infer_instance
def DecB (f : Int) (s : ByteArray) (a : ByteArray × RSt) (b : Nat × RSt) (r : Except E3 Pk) : Prop :=
 if 0 < f / 2 % 4 ∧ okP b.2 = true ∧ b.1 = 0 then r = .error (3,130,plc a.2)
 else ∃ x,ReadPS 3 s b.2 x ∧ r = restM s (pbP f a.1 b.1) x
def DecP (f : Int) (s : ByteArray) (r : Except E3 Pk) : Prop :=
 if pbBad f then r = .error (2,129,0) else DecB f s (textS s (.ok 0)) (idS (f / 2 % 4) s (textS s (.ok 0)).2) r
theorem DecP.det {f : Int} {s : ByteArray} {r r' : Except E3 Pk} (h : DecP f s r) (h' : DecP f s r') : r = r' := by
 unfold DecP DecB at h h'
 split at h
 ·rename_i h1
  rw [if_pos h1] at h'
  exact h.trans h'.symm
 ·rename_i h1
  rw [if_neg h1] at h'
  split at h
  ·rename_i h2
   rw [if_pos h2] at h'
   exact h.trans h'.symm
  ·rename_i h2
   rw [if_neg h2] at h'
   obtain ⟨x,h3,rfl⟩ := h
   obtain ⟨y,h4,rfl⟩ := h'
   rw [h3.det h4]
def firstP (p : Pk) : Int := 48 + 2 * p.qos + (if p.dup then 8 else 0) + (if p.ret then 1 else 0)
def actsPb (p : Pk) (s : ByteArray) : List Act := if 0 < p.qos then [⟨6,0,p.topic⟩,⟨2,p.id,emp⟩,⟨8,0,s⟩,⟨8,0,p.pay⟩] else [⟨6,0,p.topic⟩,⟨8,0,s⟩,⟨8,0,p.pay⟩]
def preP (p : Pk) : Option E3 := if p.qos < 0 ∨ 3 < p.qos then some (2,129,0) else none
abbrev EncP' (p : Pk) (r : Except E3 (Int × ByteArray)) : Prop := EncG (preP p) (encP 3 p.props) (firstP p) (DecP (firstP p)) (actsPb p) r
theorem EncP'.det {p : Pk} {r r' : Except E3 (Int × ByteArray)} (h : EncP' p r) (h' : EncP' p r') : r = r' := EncG.det (D := DecP (firstP p)) (fun _ _ _ h1 h2 => h1.det h2) h h'
def pbAll (f : Int) (m : ByteArray) (id : Nat) (c : ByteArray) : ByteArray := if 0 < f / 2 % 4 then m ++ (numB id 2 ++ c) else m ++ c
theorem decP_val {f : Int} {t m pay : ByteArray} {id : Nat} {l : List Pr} {cc : ByteArray} (hf : ¬ pbBad f) (hw : textW t = .inl m) (hid : id < 65536) (he : encP 3 l = .ok cc) (hz : cc.size ≤ 700000) :
  DecP f (pbAll f m id (cc ++ (pay ++ emp))) (if 0 < f / 2 % 4 ∧ id = 0 then .error (3,130,m.size) else .ok (pbP f t (if 0 < f / 2 % 4 then id else 0) (l.map plainP) pay)) := by
 unfold DecP pbAll
 rw [if_neg hf]
 by_cases hq : 0 < f / 2 % 4
 ·simp only [if_pos hq]
  generalize hS : m ++ (numB id 2 ++ (cc ++ (pay ++ emp))) = S
  have a0 : At S 0 (m ++ (numB id 2 ++ (cc ++ (pay ++ emp)))) := by rw [hS]; exact At.zero S
  have a1 := a0.text hw
  have a2 := a1.2.u16 hid
  have a3 := a2.2.props he hz
  rw [Nat.zero_add] at a1 a2 a3
  have e2 : idS (f / 2 % 4) S (textS S (.ok 0)).2 = (id,.ok (m.size + 2)) := by unfold idS; rw [if_pos hq,a1.1]; exact a2.1
  rw [e2,a1.1]
  unfold DecB
  by_cases h0 : id = 0
  ·rw [if_pos ⟨hq,rfl,h0⟩,if_pos ⟨hq,h0⟩]; rfl
  ·rw [if_neg (fun h => h0 h.2.2),if_neg (fun h => h0 h.2)]
   refine ⟨_,a3.1,?_⟩
   simp only [restM]
   rw [a3.2.rest,app_emp']
 ·simp only [if_neg hq]
  generalize hS : m ++ (cc ++ (pay ++ emp)) = S
  have a0 : At S 0 (m ++ (cc ++ (pay ++ emp))) := by rw [hS]; exact At.zero S
  have a1 := a0.text hw
  have a3 := a1.2.props he hz
  rw [Nat.zero_add] at a1 a3
  have e2 : idS (f / 2 % 4) S (textS S (.ok 0)).2 = (0,.ok m.size) := by unfold idS; rw [if_neg hq,a1.1]
  rw [e2,a1.1]
  unfold DecB
  rw [if_neg (fun h => hq h.1),if_neg (fun h => hq h.1)]
  refine ⟨_,a3.1,?_⟩
  simp only [restM]
  rw [a3.2.rest,app_emp']
def pbB (p : Pk) : Pk := { pkz with kind := 3,topic := p.topic,id := if 0 < p.qos then p.id else 0,qos := p.qos,dup := p.dup,ret := p.ret,props := p.props.map plainP,pay := p.pay }
theorem firstP_at {p : Pk} (h : ¬ (p.qos < 0 ∨ 3 < p.qos)) : firstP p / 2 % 4 = p.qos ∧ decide (firstP p / 8 % 2 = 1) = p.dup ∧ decide (firstP p % 2 = 1) = p.ret ∧ 48 ≤ firstP p ∧ firstP p ≤ 63 := by
 unfold firstP
 cases p.dup <;> cases p.ret <;> simp only [if_true,if_false,Bool.false_eq_true,decide_eq_true_eq,decide_eq_false_iff_not] <;> omega
theorem actsPb_cat {p : Pk} {s b : ByteArray} (hq : firstP p / 2 % 4 = p.qos) (h : catW (actsPb p s) = some b) : ∃ (m : ByteArray) (id : Nat),textW p.topic = .inl m ∧ (0 < p.qos → p.id = id) ∧ id < 65536 ∧ b = pbAll (firstP p) m id (s ++ (p.pay ++ emp)) := by
 unfold actsPb at h
 unfold pbAll
 rw [hq]
 split at h
 ·rename_i hp
  simp only [if_pos hp]
  obtain ⟨m1,x,g1,g2,rfl⟩ := catW_cons h
  obtain ⟨m2,y,g3,g4,rfl⟩ := catW_cons g2
  obtain ⟨m3,z,g5,g6,rfl⟩ := catW_cons g4
  obtain ⟨m4,u,g7,g8,rfl⟩ := catW_cons g6
  simp only [catW,Option.some.injEq] at g8
  subst g8
  obtain ⟨k,e1,e2,rfl⟩ := inv2 g3
  have h3 := inv8 g5
  have h4 := inv8 g7
  subst h3 h4
  exact ⟨m1,k,g1,fun _ => e1,e2,rfl⟩
 ·rename_i hp
  simp only [if_neg hp]
  obtain ⟨m1,x,g1,g2,rfl⟩ := catW_cons h
  obtain ⟨m3,z,g5,g6,rfl⟩ := catW_cons g2
  obtain ⟨m4,u,g7,g8,rfl⟩ := catW_cons g6
  simp only [catW,Option.some.injEq] at g8
  subst g8
  have h3 := inv8 g5
  have h4 := inv8 g7
  subst h3 h4
  exact ⟨m1,0,g1,fun h => absurd h hp,by omega,rfl⟩
theorem pbBack {p : Pk} {fb : Int × ByteArray} {r : Except E3 Pk} (h : EncP' p (.ok fb)) (hf : fewPk p) (hd : DecP fb.1 fb.2 r) : r = .ok (pbB p) := by
 obtain ⟨h0,s,b,y,h1,h2,rfl,h4⟩ := h.inv
 rw [DecP.det hd h4]
 have hz : s.size ≤ 700000 := by have := encP_size hf.props h1; omega
 have hq : ¬ (p.qos < 0 ∨ 3 < p.qos) := by
  unfold preP at h0
  split at h0
  ·cases h0
  ·assumption
 obtain ⟨f1,f2,f3,f4,f5⟩ := firstP_at hq
 obtain ⟨m,id,e1,e2,e3,rfl⟩ := actsPb_cat f1 h2
 have hbad : ¬ pbBad (firstP p) := by
  intro hb
  have h4' := h4
  unfold DecP at h4'
  rw [if_pos hb] at h4'
  cases h4'
 have hv := decP_val (pay := p.pay) hbad e1 e3 h1 hz
 have := DecP.det h4 hv
 split at this
 ·cases this
 ·rw [this]
  unfold pbP pbB
  rw [f1,f2,f3]
  congr 1
  by_cases hp : 0 < p.qos
  ·rw [if_pos hp,if_pos hp,e2 hp]
  ·rw [if_neg hp,if_neg hp]; rfl
theorem pbAgain {f : Int} {s : ByteArray} {p : Pk} (h : DecP f s (.ok p)) (hs : s.size ≤ 2048) : ∃ b,EncP' p (.ok (f,b)) ∧ DecP f b (.ok p) ∧ bigPk p ∧ b.size ≤ 800000 ∧ ∃ t id l pay,p = pbP f t id l pay := by
 unfold DecP at h
 split at h
 ·cases h
 rename_i hf
 rcases g1 : textS s (.ok 0) with ⟨t,st1⟩
 rw [g1] at h
 simp only at h
 rcases g2 : idS (f / 2 % 4) s st1 with ⟨id,st2⟩
 rw [g2] at h
 unfold DecB at h
 simp only at h
 split at h
 ·cases h
 rename_i hid
 obtain ⟨x,hx,h3⟩ := h
 cases x with
 | error e => cases h3
 | ok lq =>
  obtain ⟨l,q⟩ := lq
  simp only [restM,Except.ok.injEq] at h3
  subst h3
  cases st2 with
  | error e => obtain ⟨k,q⟩ := e; cases hx
  | ok p2 =>
   have hp2 : p2 ≤ s.size ∧ id < 65536 ∧ (0 < f / 2 % 4 → id ≠ 0) ∧ (¬ 0 < f / 2 % 4 → id = 0) ∧ ∃ p1,st1 = .ok p1 := by
    unfold idS at g2
    split at g2
    ·rename_i hq
     obtain ⟨h1,h2,h3⟩ := okS_u16 g2
     exact ⟨h2,h1,fun _ h0 => hid ⟨hq,rfl,h0⟩,fun h => absurd hq h,h3⟩
    ·rename_i hq
     simp only [Prod.mk.injEq] at g2
     obtain ⟨rfl,rfl⟩ := g2
     exact ⟨(okS_text g1).2.2.1,by omega,fun h => absurd h hq,fun _ => rfl,_,rfl⟩
   obtain ⟨hp,hi1,hi2,hi3,p1,rfl⟩ := hp2
   obtain ⟨ht1,ht2,_,_⟩ := okS_text g1
   obtain ⟨cc,e1,e2,e3,e4⟩ := ReadPS_w hs hp hx
   generalize hpay : s.extract q s.size = pay
   have hpz : pay.size ≤ 2048 := by rw [← hpay,ByteArray.size_extract]; omega
   have hv := decP_val (f := f) (pay := pay) (id := id) hf ht1 hi1 e1 e2
   have hne : ¬ (0 < f / 2 % 4 ∧ id = 0) := fun h => hi2 h.1 h.2
   rw [if_neg hne,e3] at hv
   have hid' : (if 0 < f / 2 % 4 then id else 0) = id := by
    split
    ·rfl
    ·rename_i hq; exact (hi3 hq).symm
   rw [hid'] at hv
   have hff : firstP (pbP f t id l pay) = f := by
    have h48 : ¬ f < 48 := fun h => hf (.inl h)
    have h63 : ¬ 63 < f := fun h => hf (.inr (.inl h))
    unfold firstP pbP
    simp only [decide_eq_true_eq]
    split <;> split <;> omega
   have hcat : catW (actsPb (pbP f t id l pay) cc) = some (pbAll f (numB t.size 2 ++ t) id (cc ++ (pay ++ emp))) := by
    unfold actsPb pbAll
    have : (pbP f t id l pay).qos = f / 2 % 4 := rfl
    rw [this]
    split
    ·exact catW_1 (w6 ht1) (catW_1 (w2 hi1) (catW_1 w8 (catW_1 w8 rfl)))
    ·exact catW_1 (w6 ht1) (catW_1 w8 (catW_1 w8 rfl))
   have he0 : emp.size = 0 := rfl
   have hpre : preP (pbP f t id l pay) = none := by
    unfold preP
    have : (pbP f t id l pay).qos = f / 2 % 4 := rfl
    rw [this,if_neg (by omega)]
   have hB : EncP' (pbP f t id l pay) (.ok (f,pbAll f (numB t.size 2 ++ t) id (cc ++ (pay ++ emp)))) := by
    unfold EncP'
    rw [hpre,hff]
    show EncG none (encP 3 l) f (DecP f) (actsPb (pbP f t id l pay)) _
    rw [e1]
    exact EncG.mk hcat hv
   refine ⟨_,hB,hv,⟨e4,small_nil,?_,?_,?_,?_,?_,?_,?_⟩,?_,t,id,l,pay,rfl⟩
   all_goals try (show emp.size ≤ 2100; rw [he0]; omega)
   ·show t.size ≤ 2100; omega
   ·show pay.size ≤ 2100; omega
   ·have z1 := numB_size id 2
    have z2 := numB_size t.size 2
    unfold pbAll
    split <;> (simp only [size_app,he0]; omega)
set_option maxHeartbeats 8000000
attribute [local irreducible] afterS afterOpS opSK OpsS TrS CodeS condS condW thenS thenQ guardS guardTS outS drawS trSK consS
section
variable {σ : AHeap} {Q : Value → AHeap → Prop} {s : ByteArray}
theorem bits64 : ∀ n,n < 64 → (n / 2 &&& 3 = n / 2 % 4) ∧ ((n &&& 8 = 8 ∧ n / 8 % 2 = 1) ∨ (n &&& 8 = 0 ∧ n / 8 % 2 = 0)) ∧ ((n &&& 1 = 1 ∧ n % 2 = 1) ∨ (n &&& 1 = 0 ∧ n % 2 = 0)) := by decide
theorem quoK {σ : AHeap} {f k : Int} {t : Nat} {cs : Bool} (hk : ¬ k = 0) : abin E σ .quo t cs (.int .i64 f) (.int .i64 k) = some (.int .i64 (IntKind.i64.wrap (f.tdiv k))) := by
 show (if k = 0 then none else some (Value.int .i64 (IntKind.i64.wrap (f.tdiv k)))) = _
 rw [if_neg hk]
theorem specPbDec {f : Int} (hs : s.size ≤ 100000000)
  (hok : ∀ p,DecP f s (.ok p) → ∀ v σ',PkV p v → Kept σ [] σ' [] → Q (.tuple #[v,.nilIface]) σ')
  (hbad : ∀ k rr a : Nat,DecP f s (.error (k,rr,a)) → ∀ σ' d z,Kept σ [] σ' [] → d ≤ 3 → ErN d (fv rr a z) k → Q (.tuple #[.agg ⟨zeL⟩,fv rr a z]) σ') :
  CallS E B 16 [.agg ⟨[.int .i64 f,.string s]⟩] σ Q := by
 unfold DecP at hok hbad
 refine call16 (by simp) ?_
 simp only [strip,bodyOf,Tryz.f16,getD_body,keepN,bareOp_mk,lapp_cons,lapp_nil,List.map_cons,List.map_nil,↓reduceIte,Bool.false_eq_true]
 by_cases hr : 48 ≤ f ∧ f ≤ 63
 rotate_left
 ·have hbd : pbBad f := by unfold pbBad; omega
  simp only [if_pos hbd] at hbad
  have hq0 : ∀ (τ : AHeap) (t : Nat) (cs : Bool),abin E τ .quo t cs (.int .i64 f) (.int .i64 2) = some (.int .i64 (IntKind.i64.wrap (f.tdiv 2))) := fun τ t cs => quoK (by decide)
  obtain ⟨y3,hy3⟩ : ∃ y,aint .and .i64 (IntKind.i64.wrap (f.tdiv 2)) 3 = some (.int .i64 y) := ⟨_,rfl⟩
  obtain ⟨y8,hy8⟩ : ∃ y,aint .and .i64 f 8 = some (.int .i64 y) := ⟨_,rfl⟩
  obtain ⟨y1,hy1⟩ : ∃ y,aint .and .i64 f 1 = some (.int .i64 y) := ⟨_,rfl⟩
  have OUT : ∀ {P : Prop},(f < 48 → P) → (¬ f < 48 → 64 ≤ f → P) → P := fun a b => by
   by_cases h : f < 48
   ·exact a h
   ·exact b h (by omega)
  refine OUT (fun h1 => ?_) fun h1 h2 => ?_
  focus simp only [↓sbD,sbU,tyB,↓reduceIte,Nat.reduceEqDiff,Nat.reduceLT,Nat.reduceAdd,Nat.reduceLeDiff,reduceCtorEq,pairs,isConst,splice,boxS,Edp,dpv,ZV.val,AS_new,zePk,hq0,hy3,hy8,hy1,h1,gk2]
  rotate_left
  focus simp only [↓sbD,sbU,tyB,decide_false,↓reduceIte,Nat.reduceEqDiff,Nat.reduceLT,Nat.reduceAdd,Nat.reduceLeDiff,reduceCtorEq,pairs,isConst,splice,boxS,Edp,dpv,ZV.val,AS_new,zePk,hq0,hy3,hy8,hy1,h1,h2,gk2]
  all_goals
   intro b hb d hd
   have hdb : d ≠ b := by rintro rfl; rw [AHeap.get_set_same] at hd; cases hd
   replace hd : σ.get d = .dead := by rw [AHeap.get_set_ne _ _ hdb.symm] at hd; exact hd
   have db : ∀ (τ : AHeap) o,(AHeap.set τ d o).get b = τ.get b := fun τ o => AHeap.get_set_ne _ _ hdb
   have bd : ∀ (τ : AHeap) o,(AHeap.set τ b o).get d = τ.get d := fun τ o => AHeap.get_set_ne _ _ hdb.symm
   try simp only [↓sbD,sbU,tyB,Nat.reduceMul,Nat.reduceSub,Int.reduceEq,Int.reduceLT,Int.reduceLE,Int.reduceNe,Nat.reduceBneDiff,Nat.reduceBEq,decide_false,gt_iff_lt,Bool.or_self,Bool.false_eq_true,Nat.mul_one,Nat.one_mul,Nat.zero_mul,↓reduceIte,Nat.reduceEqDiff,Nat.reduceLT,Nat.reduceAdd,Nat.reduceLeDiff,reduceCtorEq,goInt,pairs,isConst,TI.isAgg,splice,boxS,Edp,dpv,Nat.beq_eq,ZV.val,List.any_cons,List.any_nil,Bool.false_and,AHeap.get_set_same,db,bd]
   refine specNew (n := 2) ⟨by omega,by omega⟩ ?_
   simp only [↓sbD,sbU,tyB,↓reduceIte,Nat.reduceEqDiff,Nat.reduceLT,Nat.reduceAdd,Nat.reduceLeDiff,splice,db,res_cellc,resC_some]
   exact downS_here (hbad 2 129 0 rfl _ 1 _ (((((Kept.refl σ []).setD hb).setD hd).setD hd).setD hb) (by omega) (ErN.new _ _ ⟨by omega,by omega⟩))
 have hf0 : f = (f.toNat : Int) := by omega
 have hn64 : f.toNat < 64 := by omega
 have hq0 : ∀ (τ : AHeap) (t : Nat) (cs : Bool),abin E τ .quo t cs (.int .i64 f) (.int .i64 2) = some (.int .i64 (f / 2)) := fun τ t cs => by
  rw [quoK (by decide),Int.tdiv_eq_ediv_of_nonneg (by omega),wrap64 ⟨by omega,by omega⟩]
 obtain ⟨b3,b8,b1⟩ := bits64 f.toNat hn64
 have ha3 : aint .and .i64 (f / 2) 3 = some (.int .i64 (f / 2 % 4)) := by
  have := and_nat (n := f.toNat / 2) (m := 3) (by omega) (by omega)
  rw [b3] at this
  have e1 : ((f.toNat / 2 : Nat) : Int) = f / 2 := by omega
  have e2 : ((f.toNat / 2 % 4 : Nat) : Int) = f / 2 % 4 := by omega
  rw [e1,e2] at this
  exact this
 have C8 : (aint .and .i64 f 8 = some (.int .i64 8) ∧ decide (f / 8 % 2 = 1) = true) ∨ (aint .and .i64 f 8 = some (.int .i64 0) ∧ decide (f / 8 % 2 = 1) = false) := by
  have := and_nat (n := f.toNat) (m := 8) (by omega) (by omega)
  rw [← hf0] at this
  rcases b8 with ⟨b8,q⟩ | ⟨b8,q⟩
  ·exact .inl ⟨by rw [b8] at this; exact this,by simp only [decide_eq_true_eq]; omega⟩
  ·exact .inr ⟨by rw [b8] at this; exact this,by simp only [decide_eq_false_iff_not]; omega⟩
 have C1 : (aint .and .i64 f 1 = some (.int .i64 1) ∧ decide (f % 2 = 1) = true) ∨ (aint .and .i64 f 1 = some (.int .i64 0) ∧ decide (f % 2 = 1) = false) := by
  have := and_nat (n := f.toNat) (m := 1) (by omega) (by omega)
  rw [← hf0] at this
  rcases b1 with ⟨b1,q⟩ | ⟨b1,q⟩
  ·exact .inl ⟨by rw [b1] at this; exact this,by simp only [decide_eq_true_eq]; omega⟩
  ·exact .inr ⟨by rw [b1] at this; exact this,by simp only [decide_eq_false_iff_not]; omega⟩
 have h48 : ¬ f < 48 := by omega
 have h64 : ¬ 64 ≤ f := by omega
 clear b3 b8 b1
 rcases C1 with ⟨ha1,d1⟩ | ⟨ha1,d1⟩
 all_goals
  by_cases h3 : f / 2 % 4 = 3
  ·simp only [if_pos (show pbBad f from .inr (.inr (.inl h3)))] at hbad
   obtain ⟨y8,hy8⟩ : ∃ y,aint .and .i64 f 8 = some (.int .i64 y) := ⟨_,rfl⟩
   simp only [↓sbD,sbU,tyB,Int.reduceEq,decide_false,↓reduceIte,Nat.reduceEqDiff,Nat.reduceLT,Nat.reduceAdd,Nat.reduceLeDiff,reduceCtorEq,pairs,isConst,splice,boxS,Edp,dpv,ZV.val,AS_new,zePk,hq0,ha3,hy8,ha1,h48,h64,h3,gk2]
   intro b hb d hd
   have hdb : d ≠ b := by rintro rfl; rw [AHeap.get_set_same] at hd; cases hd
   replace hd : σ.get d = .dead := by rw [AHeap.get_set_ne _ _ hdb.symm] at hd; exact hd
   have db : ∀ (τ : AHeap) o,(AHeap.set τ d o).get b = τ.get b := fun τ o => AHeap.get_set_ne _ _ hdb
   have bd : ∀ (τ : AHeap) o,(AHeap.set τ b o).get d = τ.get d := fun τ o => AHeap.get_set_ne _ _ hdb.symm
   try simp only [↓sbD,sbU,tyB,Nat.reduceMul,Nat.reduceSub,Int.reduceEq,Int.reduceLT,Int.reduceLE,Int.reduceNe,Nat.reduceBneDiff,Nat.reduceBEq,decide_false,gt_iff_lt,Bool.or_self,Bool.false_eq_true,Nat.mul_one,Nat.one_mul,Nat.zero_mul,↓reduceIte,Nat.reduceEqDiff,Nat.reduceLT,Nat.reduceAdd,Nat.reduceLeDiff,reduceCtorEq,goInt,pairs,isConst,TI.isAgg,splice,boxS,Edp,dpv,Nat.beq_eq,ZV.val,List.any_cons,List.any_nil,Bool.false_and,AHeap.get_set_same,db,bd]
   refine specNew (n := 2) ⟨by omega,by omega⟩ ?_
   simp only [↓sbD,sbU,tyB,↓reduceIte,Nat.reduceEqDiff,Nat.reduceLT,Nat.reduceAdd,Nat.reduceLeDiff,splice,db,res_cellc,resC_some]
   exact downS_here (hbad 2 129 0 rfl _ 1 _ (((((Kept.refl σ []).setD hb).setD hd).setD hd).setD hb) (by omega) (ErN.new _ _ ⟨by omega,by omega⟩))
  rcases C8 with ⟨ha8,d8⟩ | ⟨ha8,d8⟩
  focus
   by_cases h0 : f / 2 % 4 = 0
   ·simp only [if_pos (show pbBad f from .inr (.inr (.inr ⟨by simpa using d8,h0⟩)))] at hbad
    simp only [↓sbD,sbU,tyB,Int.reduceEq,decide_false,↓reduceIte,Nat.reduceEqDiff,Nat.reduceLT,Nat.reduceAdd,Nat.reduceLeDiff,reduceCtorEq,pairs,isConst,splice,boxS,Edp,dpv,ZV.val,AS_new,zePk,hq0,ha3,ha8,ha1,h48,h64,h0,gk2]
    intro b hb d hd
    have hdb : d ≠ b := by rintro rfl; rw [AHeap.get_set_same] at hd; cases hd
    replace hd : σ.get d = .dead := by rw [AHeap.get_set_ne _ _ hdb.symm] at hd; exact hd
    have db : ∀ (τ : AHeap) o,(AHeap.set τ d o).get b = τ.get b := fun τ o => AHeap.get_set_ne _ _ hdb
    have bd : ∀ (τ : AHeap) o,(AHeap.set τ b o).get d = τ.get d := fun τ o => AHeap.get_set_ne _ _ hdb.symm
    try simp only [↓sbD,sbU,tyB,Nat.reduceMul,Nat.reduceSub,Int.reduceEq,Int.reduceLT,Int.reduceLE,Int.reduceNe,Nat.reduceBneDiff,Nat.reduceBEq,decide_false,gt_iff_lt,Bool.or_self,Bool.false_eq_true,Nat.mul_one,Nat.one_mul,Nat.zero_mul,↓reduceIte,Nat.reduceEqDiff,Nat.reduceLT,Nat.reduceAdd,Nat.reduceLeDiff,reduceCtorEq,goInt,pairs,isConst,TI.isAgg,splice,boxS,Edp,dpv,Nat.beq_eq,ZV.val,List.any_cons,List.any_nil,Bool.false_and,AHeap.get_set_same,db,bd]
    refine specNew (n := 2) ⟨by omega,by omega⟩ ?_
    simp only [↓sbD,sbU,tyB,↓reduceIte,Nat.reduceEqDiff,Nat.reduceLT,Nat.reduceAdd,Nat.reduceLeDiff,splice,db,res_cellc,resC_some]
    exact downS_here (hbad 2 129 0 rfl _ 1 _ (((((Kept.refl σ []).setD hb).setD hd).setD hd).setD hb) (by omega) (ErN.new _ _ ⟨by omega,by omega⟩))
   have hgood : ¬ pbBad f := fun h => h.elim h48 fun h => h.elim (fun h => by omega) fun h => h.elim h3 fun h => h0 h.2
   simp only [if_neg hgood] at hok hbad
   simp only [↓sbD,sbU,tyB,Int.reduceEq,decide_false,↓reduceIte,Nat.reduceEqDiff,Nat.reduceLT,Nat.reduceAdd,Nat.reduceLeDiff,reduceCtorEq,pairs,isConst,splice,boxS,Edp,dpv,ZV.val,AS_new,zePk,hq0,ha3,ha8,ha1,h48,h64,h3,h0]
  rotate_left
  focus
   have hgood : ¬ pbBad f := fun h => h.elim h48 fun h => h.elim (fun h => by omega) fun h => h.elim h3 fun h => by simp only [decide_eq_false_iff_not] at d8; exact d8 h.1
   simp only [if_neg hgood] at hok hbad
   simp only [↓sbD,sbU,tyB,Int.reduceEq,decide_false,↓reduceIte,Nat.reduceEqDiff,Nat.reduceLT,Nat.reduceAdd,Nat.reduceLeDiff,reduceCtorEq,pairs,isConst,splice,boxS,Edp,dpv,ZV.val,AS_new,zePk,hq0,ha3,ha8,ha1,h48,h64,h3]
  all_goals
   intro b hb d hd
   have hdb : d ≠ b := by rintro rfl; rw [AHeap.get_set_same] at hd; cases hd
   replace hd : σ.get d = .dead := by rw [AHeap.get_set_ne _ _ hdb.symm] at hd; exact hd
   have db : ∀ (τ : AHeap) o,(AHeap.set τ d o).get b = τ.get b := fun τ o => AHeap.get_set_ne _ _ hdb
   have bd : ∀ (τ : AHeap) o,(AHeap.set τ b o).get d = τ.get d := fun τ o => AHeap.get_set_ne _ _ hdb.symm
   try simp only [↓sbD,sbU,tyB,Nat.reduceMul,Nat.reduceSub,Int.reduceEq,Int.reduceLT,Int.reduceLE,Int.reduceNe,Nat.reduceBneDiff,Nat.reduceBEq,decide_false,gt_iff_lt,Bool.or_self,Bool.false_eq_true,Nat.mul_one,Nat.one_mul,Nat.zero_mul,↓reduceIte,Nat.reduceEqDiff,Nat.reduceLT,Nat.reduceAdd,Nat.reduceLeDiff,reduceCtorEq,goInt,pairs,isConst,TI.isAgg,splice,boxS,Edp,dpv,Nat.beq_eq,ZV.val,List.any_cons,List.any_nil,Bool.false_and,AHeap.get_set_same,db,bd]
   generalize hσ1 : AHeap.set _ d _ = σ1
   have K1 : Kept σ [] σ1 [] := by rw [← hσ1]; exact (((Kept.refl σ []).setD hb).setD hd).setD hd
   have gb1 : σ1.get b = .cells [.int .i64 0,.int .i64 0,.int .i64 0,.slice none 0 0,.bool false,.int .i64 0,.string emp,.bool false,.string emp,.string emp,.int .i64 0,.bool false,.slice none 0 0,.bool false,.string emp,.bool false,.string emp,.bool false,.string emp,.string emp,.int .i64 0,.bool false,.bool false,.slice none 0 0,.slice none 0 0,.slice none 0 0] true 0 := by rw [← hσ1,db,db]; exact AHeap.get_set_same _ _ _
   have gd1 : σ1.get d = .cells [.int .i64 3,.int .i64 0,.int .i64 0,.slice none 0 0,.bool false,.int .i64 0,.string emp,.bool false,.string emp,.string emp,.int .i64 0,.bool false,.slice none 0 0,.bool false,.string emp,.bool false,.string emp,.bool false,.string emp,.string emp,.int .i64 (f / 2 % 4),.bool (decide (f % 2 = 1)),.bool (decide (f / 8 % 2 = 1)),.slice none 0 0,.slice none 0 0,.slice none 0 0] true 0 := by rw [← hσ1,d8,d1]; exact AHeap.get_set_same _ _ _
   clear hσ1
   try simp only [↓sbD,sbU,tyB,Nat.reduceMul,Nat.reduceSub,Int.reduceEq,Int.reduceLT,Int.reduceLE,Int.reduceNe,Nat.reduceBneDiff,Nat.reduceBEq,decide_false,gt_iff_lt,Bool.or_self,Bool.false_eq_true,Nat.mul_one,Nat.one_mul,Nat.zero_mul,↓reduceIte,Nat.reduceEqDiff,Nat.reduceLT,Nat.reduceAdd,Nat.reduceLeDiff,reduceCtorEq,goInt,pairs,isConst,TI.isAgg,splice,boxS,Edp,dpv,Nat.beq_eq,ZV.val,List.any_cons,List.any_nil,Bool.false_and]
   refine specRNew fun x σ2 hx k2 i2 => ?_
   have r2 : IsRS σ2 x s (.ok 0) := ⟨Nat.zero_le _,i2⟩
   have hbx : b ≠ x := by rintro rfl; rw [gb1] at hx; cases hx
   have hdx : d ≠ x := by rintro rfl; rw [gd1] at hx; cases hx
   have K2 := K1.trans k2
   have gb2 := (k2.at gb1 (by simp) (by simp)).1
   have gd2 := (k2.at gd1 (by simp) (by simp)).1
   simp only [↓sbD,sbU,↓reduceIte,Nat.reduceLT]
   refine specSText r2 hs fun σ3 k3 r3 => ?_
   obtain ⟨t,st1,hT⟩ : ∃ t st1,textS s (.ok 0) = (t,st1) := ⟨_,_,rfl⟩
   simp only [hT] at hok hbad r3 ⊢
   have K3 := K2.trans k3
   have gb3 := (k3.at gb2 (by simp) (by simp [hbx])).1
   have gd3 := (k3.at gd2 (by simp) (by simp [hdx])).1
   simp only [↓sbD,sbU,tyB,↓reduceIte,Nat.reduceEqDiff,Nat.reduceLT,Nat.reduceAdd,Nat.reduceLeDiff,reduceCtorEq,splice,gd3]
   generalize hσ4 : AHeap.set σ3 d _ = σ4
   have K4 : Kept σ [] σ4 [x] := by rw [← hσ4]; exact K3.setD hd
   have k4 : Kept σ3 [d] σ4 [d] := by rw [← hσ4]; exact Kept.set (by simp)
   have r4 := r3.kept k4 (by simp [hdx.symm])
   have gd4 : σ4.get d = .cells [.int .i64 3,.int .i64 0,.int .i64 0,.slice none 0 0,.bool false,.int .i64 0,.string emp,.bool false,.string emp,.string emp,.int .i64 0,.bool false,.slice none 0 0,.bool false,.string emp,.bool false,.string emp,.bool false,.string t,.string emp,.int .i64 (f / 2 % 4),.bool (decide (f % 2 = 1)),.bool (decide (f / 8 % 2 = 1)),.slice none 0 0,.slice none 0 0,.slice none 0 0] true 0 := by rw [← hσ4]; exact AHeap.get_set_same _ _ _
   have gb4 := (k4.at gb3 (by simp) (by simp [Ne.symm hdb])).1
   clear hσ4
   try simp only [↓sbD,sbU,tyB,Nat.reduceMul,Nat.reduceSub,Int.reduceEq,Int.reduceLT,Int.reduceLE,Int.reduceNe,Nat.reduceBneDiff,Nat.reduceBEq,decide_false,gt_iff_lt,Bool.or_self,Bool.false_eq_true,Nat.mul_one,Nat.one_mul,Nat.zero_mul,↓reduceIte,Nat.reduceEqDiff,Nat.reduceLT,Nat.reduceAdd,Nat.reduceLeDiff,reduceCtorEq,goInt,pairs,isConst,TI.isAgg,splice,boxS,Edp,dpv,Nat.beq_eq,ZV.val,List.any_cons,List.any_nil,Bool.false_and]
   refine specSAt r4 fun a ha => ?_
   by_cases hq : 0 < f / 2 % 4
   focus
    simp only [idS,if_pos hq] at hok hbad
    simp only [↓sbD,sbU,tyB,↓reduceIte,Nat.reduceEqDiff,Nat.reduceLT,reduceCtorEq,isConst,gd4,hq]
    refine specSU16 r4 hs fun σ5 k5 r5 => ?_
    obtain ⟨id,st2,hU⟩ : ∃ id st2,u16S s st1 = (id,st2) := ⟨_,_,rfl⟩
    simp only [hU] at hok hbad r5 ⊢
    have K5 := K4.trans k5
    have gb5 := (k5.at gb4 (by simp) (by simp [hbx])).1
    have gd5 := (k5.at gd4 (by simp) (by simp [hdx])).1
    simp only [↓sbD,sbU,tyB,↓reduceIte,Nat.reduceEqDiff,Nat.reduceLT,Nat.reduceAdd,Nat.reduceLeDiff,reduceCtorEq,splice,gd5]
    generalize hσ6 : AHeap.set σ5 d _ = σ6
    have K6 : Kept σ [] σ6 [x] := by rw [← hσ6]; exact K5.setD hd
    have k6 : Kept σ5 [d] σ6 [d] := by rw [← hσ6]; exact Kept.set (by simp)
    have r6 := r5.kept k6 (by simp [hdx.symm])
    have gd6 : σ6.get d = .cells [.int .i64 3,.int .i64 (id : Int),.int .i64 0,.slice none 0 0,.bool false,.int .i64 0,.string emp,.bool false,.string emp,.string emp,.int .i64 0,.bool false,.slice none 0 0,.bool false,.string emp,.bool false,.string emp,.bool false,.string t,.string emp,.int .i64 (f / 2 % 4),.bool (decide (f % 2 = 1)),.bool (decide (f / 8 % 2 = 1)),.slice none 0 0,.slice none 0 0,.slice none 0 0] true 0 := by rw [← hσ6]; exact AHeap.get_set_same _ _ _
    have gb6 := (k6.at gb5 (by simp) (by simp [Ne.symm hdb])).1
    clear hσ6
    try simp only [↓sbD,sbU,tyB,Nat.reduceMul,Nat.reduceSub,Int.reduceEq,Int.reduceLT,Int.reduceLE,Int.reduceNe,Nat.reduceBneDiff,Nat.reduceBEq,decide_false,gt_iff_lt,Bool.or_self,Bool.false_eq_true,Nat.mul_one,Nat.one_mul,Nat.zero_mul,↓reduceIte,Nat.reduceEqDiff,Nat.reduceLT,Nat.reduceAdd,Nat.reduceLeDiff,reduceCtorEq,goInt,pairs,isConst,TI.isAgg,splice,boxS,Edp,dpv,Nat.beq_eq,ZV.val,List.any_cons,List.any_nil,Bool.false_and]
    refine specSErr r6 (fun p hp => ?_) fun k q d' z hp hd' he => ?_
    focus
     subst hp
     have hp1 : ∃ p1,st1 = .ok p1 := (okS_u16 hU).2.2
     obtain ⟨p1,hp1⟩ := hp1
     have hap := ha p1 hp1
     by_cases h0 : id = 0
     ·have h0' : (id : Int) = 0 := by omega
      have hc : 0 < f / 2 % 4 ∧ okP (.ok p) = true ∧ id = 0 := ⟨hq,rfl,h0⟩
      subst hap hp1
      simp only [DecB,if_pos hc,plc] at hbad
      simp only [↓sbD,sbU,tyB,↓reduceIte,Nat.reduceEqDiff,Nat.reduceLT,reduceCtorEq,pairs,isConst,ZV.val,gd6,h0',gk3]
      refine specNew (n := 3) ⟨by omega,by omega⟩ ?_
      simp only [↓sbD,sbU,tyB,↓reduceIte,Nat.reduceEqDiff,Nat.reduceLT,Nat.reduceAdd,Nat.reduceLeDiff,splice,gb6,res_cellc,resC_some]
      exact downS_here (hbad 3 130 _ rfl _ 1 _ ((K6.wid (gp := []) (gp' := []) (fun _ h => by cases h) (fun _ h => by cases h)).setD hb) (by omega) (ErN.new _ _ ⟨by omega,by omega⟩))
     have h0' : ¬ (id : Int) = 0 := by omega
     have hne : ¬ (0 < f / 2 % 4 ∧ okP (.ok p) = true ∧ id = 0) := fun h => h0 h.2.2
     simp only [DecB,if_neg hne] at hok hbad
     clear hU
     simp only [↓sbD,sbU,tyB,decide_false,↓reduceIte,Nat.reduceEqDiff,Nat.reduceLT,reduceCtorEq,isConst,gd6,h0']
     generalize (Except.ok p : RSt) = st2 at hok hbad r6
    rotate_left
    focus
     subst hp
     have hne : ¬ (0 < f / 2 % 4 ∧ okP (.error (k,q)) = true ∧ id = 0) := fun h => by cases h.2.1
     simp only [DecB,if_neg hne] at hok hbad
     clear hU he
     simp only [↓sbD,sbU,tyB,↓reduceIte,Nat.reduceEqDiff,Nat.reduceLT,isConst]
     generalize (Except.error (k,q) : RSt) = st2 at hok hbad r6
   rotate_left
   rotate_left
   focus
    simp only [idS,if_neg hq] at hok hbad
    simp only [DecB,hq,false_and,if_false] at hok hbad
    simp only [↓sbD,sbU,tyB,decide_false,↓reduceIte,Nat.reduceEqDiff,Nat.reduceLT,reduceCtorEq,isConst,gd4,hq]
    have K6 := K4
    have gb6 := gb4
    have gd6 : σ4.get d = .cells [.int .i64 3,.int .i64 ((0 : Nat) : Int),.int .i64 0,.slice none 0 0,.bool false,.int .i64 0,.string emp,.bool false,.string emp,.string emp,.int .i64 0,.bool false,.slice none 0 0,.bool false,.string emp,.bool false,.string emp,.bool false,.string t,.string emp,.int .i64 (f / 2 % 4),.bool (decide (f % 2 = 1)),.bool (decide (f / 8 % 2 = 1)),.slice none 0 0,.slice none 0 0,.slice none 0 0] true 0 := gd4
    have r6 := r4
    clear K4 gb4 gd4 r4
   all_goals
    refine specSRead r6 hs (fun l q2 hrd v σ7 hv k7 r7 => ?_) fun k rr a hrd σ7 d' z k7 hd' he => ?_
    rotate_left
    ·have gb7 := (k7.at gb6 (by simp) (by simp [hbx])).1
     simp only [↓sbD,sbU,tyB,↓reduceIte,Nat.reduceEqDiff,Nat.reduceLT,Nat.reduceAdd,Nat.reduceLeDiff,pairs,isConst,splice,ZV.val,gb7,res_cellc,resC_some]
     exact downS_here (hbad k rr a ⟨_,hrd,rfl⟩ _ d' z (((K6.trans k7).wid (gp := []) (gp' := []) (fun _ h => by cases h) (fun _ h => by cases h)).setD hb) hd' he)
    focus
     have gb7 := (k7.at gb6 (by simp) (by simp [hbx])).1
     have gd7 := (k7.at gd6 (by simp) (by simp [hdx])).1
     have hvc := dl_vc hv
     simp only [↓sbD,sbU,tyB,↓reduceIte,Nat.reduceEqDiff,Nat.reduceLT,isConst]
     refine specRRest r7.2 r7.1 hs fun σ8 k8 r8 => ?_
     have gb8 := (k8.at gb7 (by simp) (by simp [hbx])).1
     have gd8 := (k8.at gd7 (by simp) (by simp [hdx])).1
     have T8 := ((K6.trans k7).trans k8).wid (gp := []) (gp' := []) (fun _ h => by cases h) (fun _ h => by cases h)
     simp only [↓sbD,sbU,tyB,↓reduceIte,Nat.reduceEqDiff,Nat.reduceLT,Nat.reduceAdd,Nat.reduceLeDiff,reduceCtorEq,splice,gd8,gb8,db,hvc.1,hvc.2,res_cellc,resC_some]
     exact downS_here (hok _ ⟨_,hrd,rfl⟩ _ _ ⟨_,_,_,_,_,hv,.inl ⟨rfl,rfl⟩,.inl ⟨rfl,rfl⟩,.inl ⟨rfl,rfl⟩,.inl ⟨rfl,rfl⟩,rfl⟩ (((T8.setD hd).setD hd).setD hb))
theorem first_or {p : Pk} (hq : ¬ (p.qos < 0 ∨ 3 < p.qos)) : ∃ F0 F1 : Int,IntKind.i64.wrap (p.qos * 2) = p.qos * 2 ∧ aint .or .i64 48 (p.qos * 2) = some (.int .i64 F0) ∧ (p.dup = true → aint .or .i64 F0 8 = some (.int .i64 F1)) ∧ (p.dup = false → F1 = F0) ∧ (p.ret = true → aint .or .i64 F1 1 = some (.int .i64 (firstP p))) ∧ (p.ret = false → firstP p = F1) := by
 refine ⟨48 + p.qos * 2,48 + p.qos * 2 + (if p.dup then 8 else 0),by rw [wrap64 ⟨by omega,by omega⟩],?_,?_,?_,?_,?_⟩
 ·obtain h | h | h | h : p.qos = 0 ∨ p.qos = 1 ∨ p.qos = 2 ∨ p.qos = 3 := by omega
  all_goals (rw [h]; kernel_rfl)
 ·intro hd
  rw [hd]
  obtain h | h | h | h : p.qos = 0 ∨ p.qos = 1 ∨ p.qos = 2 ∨ p.qos = 3 := by omega
  all_goals (rw [h]; kernel_rfl)
 ·intro hd; rw [hd]; simp
 ·intro hr
  unfold firstP
  rw [hr]
  obtain h | h | h | h : p.qos = 0 ∨ p.qos = 1 ∨ p.qos = 2 ∨ p.qos = 3 := by omega
  all_goals (rw [h]; cases p.dup <;> kernel_rfl)
 ·intro hr
  unfold firstP
  rw [hr]
  cases p.dup <;> simp <;> omega
theorem specPbEnc {p : Pk} {v : Value} (hp : PkV p v) (hm : bigPk p)
  (hok : ∀ fb,EncP' p (.ok fb) → ∀ σ',Kept σ [] σ' [] → Q (.tuple #[.agg ⟨[.int .i64 fb.1,.string fb.2]⟩,.nilIface]) σ')
  (hbad : ∀ k rr a : Nat,EncP' p (.error (k,rr,a)) → ∀ σ' d z,Kept σ [] σ' [] → d ≤ 3 → ErN d (fv rr a z) k → Q (.tuple #[.agg ⟨[.int .i64 0,.string emp]⟩,fv rr a z]) σ') :
  CallS E B 13 [v] σ Q := by
 obtain ⟨vp,vw,vs,vf,vc,d1,d2,d3,d4,d5,rfl⟩ := hp
 obtain ⟨up,uw,us,uf,uc,d1,d2,d3,d4,d5,-,hbx⟩ := boxPk d1 d2 d3 d4 d5
 simp only [pkC] at hbx ⊢
 have eml : (emp).size = 0 := rfl
 unfold EncP' EncG at hok hbad
 have h1 := hm.topic
 have h2 := hm.pay
 by_cases hq : p.qos < 0 ∨ 3 < p.qos
 ·have hpre : preP p = some (2,129,0) := if_pos hq
  simp only [hpre] at hbad
  refine call13 (by simp) ?_
  simp only [strip,bodyOf,Tryz.f13,getD_body,keepN,bareOp_mk,lapp_cons,lapp_nil,List.map_cons,List.map_nil,↓reduceIte,Bool.false_eq_true]
  have OUT : ∀ {P : Prop},(p.qos < 0 → P) → (¬ p.qos < 0 → 3 < p.qos → P) → P := fun a b => by
   by_cases h : p.qos < 0
   ·exact a h
   ·exact b h (by omega)
  refine OUT (fun h3 => ?_) fun h3 h4 => ?_
  focus simp only [↓sbD,sbU,tyB,↓reduceIte,Nat.reduceEqDiff,Nat.reduceLT,reduceCtorEq,pairs,isConst,ZV.val,hbx,AS_new,zeFra,h3,gk2]
  rotate_left
  focus simp only [↓sbD,sbU,tyB,decide_false,↓reduceIte,Nat.reduceEqDiff,Nat.reduceLT,reduceCtorEq,pairs,isConst,ZV.val,hbx,AS_new,zeFra,h3,h4,gk2]
  all_goals
   intro b hb
   refine specNew (n := 2) ⟨by omega,by omega⟩ ?_
   simp only [↓sbD,sbU,tyB,↓reduceIte,Nat.reduceEqDiff,Nat.reduceLT,Nat.reduceAdd,Nat.reduceLeDiff,splice,res_cellc,resC_some]
   exact downS_here (hbad 2 129 0 rfl _ 1 _ (((Kept.refl σ []).setD hb).setD hb) (by omega) (ErN.new _ _ ⟨by omega,by omega⟩))
 have hpre : preP p = none := if_neg hq
 simp only [hpre] at hok hbad
 have h3 : ¬ p.qos < 0 := by omega
 have h4 : ¬ 3 < p.qos := by omega
 obtain ⟨F0,F1,hw,o1,o2,e2,o3,e3⟩ := first_or hq
 have hdc : p.dup = false ∨ p.dup = true := by cases p.dup <;> simp
 have hrc : p.ret = false ∨ p.ret = true := by cases p.ret <;> simp
 rcases hdc with hd | hd <;> rcases hrc with hr | hr <;> simp only [hd,hr] at hbx ⊢
 all_goals
  refine call13 (by simp) ?_
  simp only [strip,bodyOf,Tryz.f13,getD_body,keepN,bareOp_mk,lapp_cons,lapp_nil,List.map_cons,List.map_nil,↓reduceIte,Bool.false_eq_true]
 focus
  have e4 := e3 hr
  have e5 := e2 hd
  rw [← e5,← e4] at o1
  simp only [↓sbD,sbU,tyB,decide_false,↓reduceIte,Nat.reduceEqDiff,Nat.reduceLT,reduceCtorEq,isConst,hbx,AS_new,zeFra,h3,h4,hw,o1]
 rotate_left
 focus
  have e5 := e2 hd
  rw [← e5] at o1
  have o4 := o3 hr
  simp only [↓sbD,sbU,tyB,decide_false,↓reduceIte,Nat.reduceEqDiff,Nat.reduceLT,reduceCtorEq,isConst,hbx,AS_new,zeFra,h3,h4,hw,o1,o4]
 rotate_left
 focus
  have e4 := e3 hr
  have o4 := o2 hd
  rw [← e4] at o4
  simp only [↓sbD,sbU,tyB,decide_false,↓reduceIte,Nat.reduceEqDiff,Nat.reduceLT,reduceCtorEq,isConst,hbx,AS_new,zeFra,h3,h4,hw,o1,o4]
 rotate_left
 focus
  have o4 := o2 hd
  have o5 := o3 hr
  simp only [↓sbD,sbU,tyB,decide_false,↓reduceIte,Nat.reduceEqDiff,Nat.reduceLT,reduceCtorEq,isConst,hbx,AS_new,zeFra,h3,h4,hw,o1,o4,o5]
 all_goals
  intro b hb
  generalize hσ1 : AHeap.set σ b _ = σ1
  have k1 : Kept σ [] σ1 [] := by rw [← hσ1]; exact (Kept.refl σ []).setD hb
  have gb1 : σ1.get b = .cells [.int .i64 0,.string emp] true 0 := by rw [← hσ1]; exact AHeap.get_set_same _ _ _
  clear hσ1
  refine specPEncode d1 hm.props (fun c hce hcz => ?_) fun k r a d z hce hd he => ?_
  rotate_left
  ·simp only [hce] at hbad
   simp only [↓sbD,sbU,tyB,↓reduceIte,Nat.reduceEqDiff,Nat.reduceLT,Nat.reduceAdd,Nat.reduceLeDiff,pairs,isConst,splice,ZV.val,gb1,res_cellc,resC_some]
   exact downS_here (hbad k r a rfl _ d z (k1.setD hb) (by omega) he)
  simp only [hce] at hok hbad
  simp only [↓sbD,sbU,tyB,Bool.false_eq_true,↓reduceIte,Nat.reduceEqDiff,Nat.reduceLT,reduceCtorEq,pairs,isConst,boxS,Edp,ZV.val,Bool.false_and,AS_new,dpW]
  intro w hw
  have hwb : w ≠ b := nd hw gb1 (by simp)
  generalize hσ2 : AHeap.set σ1 w _ = σ2
  have gw : σ2.get w = .cells [.slice none 0 0,.nilIface] true 0 := by rw [← hσ2]; exact AHeap.get_set_same _ _ _
  have k2 : Kept σ1 [] σ2 [w] := by rw [← hσ2]; exact Kept.new' hw
  have w2 : WRun σ2 w (runW emp []) [w] := ⟨_,[],gw,.inl ⟨rfl,rfl,rfl⟩,rfl,by simp⟩
  have z2 : leW (runW emp []) 0 := fun b hb => by injection hb with hb; subst hb; exact Nat.le_refl _
  clear gw hσ2
  refine specTextR (n := 0) w2 (fun b hb => by have := z2 b hb; omega) (by omega) fun σ3 fp3 k3 w3 => ?_
  have z3 := leW_step (a := ⟨6,0,p.topic⟩) z2
  simp only at z3
  by_cases hq0 : 0 < p.qos
  focus
   simp only [↓sbD,sbU,tyB,↓reduceIte,Nat.reduceEqDiff,Nat.reduceLT,reduceCtorEq,isConst,hq0]
   refine specU16R (s := emp) w3 (fun b hb => by have := z3 b hb; omega) fun σ4 fp4 k4 w4 => ?_
   have z4 := leW_step (a := ⟨2,p.id,emp⟩) z3
   simp only [eml] at z4
   have hR : stepW (stepW (stepW (stepW (runW emp []) [⟨6,0,p.topic⟩]) [⟨2,p.id,emp⟩]) [⟨8,0,c⟩]) [⟨8,0,p.pay⟩] = runW emp (actsPb p c) := by rw [stepW_app,stepW_app,stepW_app]; unfold actsPb; rw [if_pos hq0]; rfl
   generalize stepW (stepW (runW emp []) [⟨6,0,p.topic⟩]) [⟨2,p.id,emp⟩] = R4 at hR w4 z4
   have K4 := k2.trans (k3.trans k4)
   simp only [↓sbD,sbU,↓reduceIte,Nat.reduceEqDiff,Nat.reduceLT]
  rotate_left
  focus
   simp only [↓sbD,sbU,tyB,decide_false,↓reduceIte,Nat.reduceEqDiff,Nat.reduceLT,reduceCtorEq,isConst,hq0]
   have hR : stepW (stepW (stepW (runW emp []) [⟨6,0,p.topic⟩]) [⟨8,0,c⟩]) [⟨8,0,p.pay⟩] = runW emp (actsPb p c) := by rw [stepW_app,stepW_app]; unfold actsPb; rw [if_neg hq0]; rfl
   have w4 := w3
   have z4 : leW _ (0 + (p.topic.size + 4) + (0 + 4)) := fun b hb => by have := z3 b hb; omega
   generalize stepW (runW emp []) [⟨6,0,p.topic⟩] = R4 at hR w4 z4
   have K4 := k2.trans k3
   clear w3 z3 k3
  all_goals
   refine specRawR (n := 0) w4 (fun b hb => by have := z4 b hb; omega) (by omega) fun σ5 fp5 k5 w5 => ?_
   have z5 := leW_step (a := ⟨8,0,c⟩) z4
   simp only at z5
   simp only [↓sbD,sbU,tyB,↓reduceIte,Nat.reduceEqDiff,Nat.reduceLT,reduceCtorEq]
   refine specRawR (n := 0) w5 (fun b hb => by have := z5 b hb; omega) (by omega) fun σ6 fp6 k6 w6 => ?_
   have z6 := leW_step (a := ⟨8,0,p.pay⟩) z5
   simp only at z6
   rw [hR] at w6 z6
   have K6 := K4.trans (k5.trans k6)
   simp only [↓sbD,sbU,↓reduceIte,Nat.reduceEqDiff,Nat.reduceLT]
   refine specBytesR w6 (fun bb hbb => ?_) fun k q d z hr hd he => ?_
   ·have gbn := (K6.at gb1 (by simp) (by simp)).1
    have hle := z6 bb hbb
    simp only [↓sbD,sbU,tyB,↓reduceIte,Nat.reduceEqDiff,Nat.reduceLT,Nat.reduceAdd,Nat.reduceLeDiff,pairs,isConst,splice,ZV.val,AS_new,zeFra]
    intro c hc
    have hcb : c ≠ b := nd hc gbn (by simp)
    generalize hσc : AHeap.set _ c _ = σc
    have kc : Kept σ6 [] σc [] := by rw [← hσc]; exact ((Kept.refl _ []).setD hc).setD hc
    have gc : σc.get c = .cells [.int .i64 (firstP p),.string bb] true 0 := by rw [← hσc]; exact AHeap.get_set_same _ _ _
    clear hσc
    try simp only [↓sbD,sbU,tyB,Nat.reduceMul,Nat.reduceSub,Int.reduceEq,Int.reduceLT,Int.reduceLE,Int.reduceNe,Nat.reduceBneDiff,Nat.reduceBEq,decide_false,gt_iff_lt,Bool.or_self,Bool.false_eq_true,Nat.mul_one,Nat.one_mul,Nat.zero_mul,↓reduceIte,Nat.reduceEqDiff,Nat.reduceLT,Nat.reduceAdd,Nat.reduceLeDiff,reduceCtorEq,goInt,pairs,isConst,TI.isAgg,splice,boxS,Edp,dpv,Nat.beq_eq,ZV.val,List.any_cons,List.any_nil,Bool.false_and,gc]
    refine specPbDec (by omega) (fun y hy v2 σd hv2 kd => ?_) fun k rr a hy σd d z kd hd he => ?_
    ·have gbd := ((kc.trans kd).at gbn (by simp) (by simp)).1
     have gcd := (kd.at gc (by simp) (by simp)).1
     simp only [↓sbD,sbU,tyB,↓reduceIte,Nat.reduceEqDiff,Nat.reduceLT,Nat.reduceAdd,Nat.reduceLeDiff,isConst,splice,gcd,gbd,res_cellc,resC_some]
     exact downS_here (hok (firstP p,bb) (by unfold MadeR; rw [hbb]; exact ⟨_,hy,rfl⟩) _ ((k1.trans ((K6.wid (gp := []) (gp' := []) (fun _ h => by cases h) (fun _ h => by cases h)).trans (kc.trans kd))).setD hb))
    ·have gbd := ((kc.trans kd).at gbn (by simp) (by simp)).1
     simp only [↓sbD,sbU,tyB,↓reduceIte,Nat.reduceEqDiff,Nat.reduceLT,Nat.reduceAdd,Nat.reduceLeDiff,pairs,isConst,splice,ZV.val,gbd,res_cellc,resC_some]
     exact downS_here (hbad k rr a (by unfold MadeR; rw [hbb]; exact ⟨_,hy,rfl⟩) _ d z ((k1.trans ((K6.wid (gp := []) (gp' := []) (fun _ h => by cases h) (fun _ h => by cases h)).trans (kc.trans kd))).setD hb) hd he)
   ·have gbn := (K6.at gb1 (by simp) (by simp)).1
    simp only [↓sbD,sbU,tyB,↓reduceIte,Nat.reduceEqDiff,Nat.reduceLT,Nat.reduceAdd,Nat.reduceLeDiff,pairs,isConst,splice,ZV.val,AS_new,zeFra]
    intro c hc
    have hcb : c ≠ b := nd hc gbn (by simp)
    have bc : ∀ (τ : AHeap) o,(AHeap.set τ c o).get b = τ.get b := fun τ o => AHeap.get_set_ne _ _ hcb
    simp only [↓sbD,sbU,tyB,↓reduceIte,Nat.reduceEqDiff,Nat.reduceLT,Nat.reduceAdd,Nat.reduceLeDiff,splice,bc,gbn,res_cellc,resC_some]
    exact downS_here (hbad k 129 q (by unfold MadeR; rw [hr]) _ d z ((k1.trans ((K6.wid (gp := []) (gp' := []) (fun _ h => by cases h) (fun _ h => by cases h)).trans (((Kept.refl _ []).setD hc).setD hc))).setD hb) (by omega) he)
end
section
variable {σ : AHeap} {Q : Value → AHeap → Prop} {s : ByteArray}
theorem catW_sz {l : List Act} {c : ByteArray} (h : catW l = some c) : c.size ≤ (l.map fun a => a.s.size + 4).sum := by
 have h1 := catW_run emp h
 have h2 := runW_le l emp _ 0 (Nat.le_refl _) h1
 rw [emp_app'] at h2
 omega
theorem encPb_size {p : Pk} {fb : Int × ByteArray} (h : EncP' p (.ok fb)) (hf : fewPk p) : fb.2.size ≤ 100000 := by
 obtain ⟨h0,s,b,y,h1,h2,rfl,h4⟩ := h.inv
 have hz := catW_sz h2
 have he0 : emp.size = 0 := rfl
 show b.size ≤ 100000
 have := encP_size hf.props h1
 have := hf.topic
 have := hf.pay
 unfold actsPb at hz
 split at hz <;> simp only [List.map_cons,List.map_nil,List.sum_cons,List.sum_nil,he0] at hz <;> omega
theorem specBare10 {p : Pk} {v : Value} (hp : PkV p v) (hs : p.props.length ≤ 1000) (hsw : p.will.props.length ≤ 1000) (hq : ∀ w σ',PkV (pbB p) w → Kept σ [] σ' [] → Q w σ') : CallS E B 18 [v] σ Q := by
 obtain ⟨vp,vw,vs,vf,vc,d1,d2,d3,d4,d5,rfl⟩ := hp
 obtain ⟨up,uw,us,uf,uc,d1,d2,d3,d4,d5,_,hbx⟩ := boxPk d1 d2 d3 d4 d5
 simp only [pkC] at hbx ⊢
 refine call18 (by simp) ?_
 simp only [strip,bodyOf,Tryz.f18,getD_body,keepN,bareOp_mk,lessOp_mk,List.map_cons,List.map_nil,↓reduceIte,Nat.reduceEqDiff,Bool.false_eq_true]
 simp only [↓sbD,sbU,tyB,↓reduceIte,Nat.reduceEqDiff,Nat.reduceLT,reduceCtorEq,AS_new,zePk,hbx]
 intro b hb
 refine specKPlain d1 hs fun w σ1 hw k1 => ?_
 have gb : (σ.set b _).get b = _ := AHeap.get_set_same σ b (.cells [.int .i64 0,.int .i64 0,.int .i64 0,.slice none 0 0,.bool false,.int .i64 0,.string emp,.bool false,.string emp,.string emp,.int .i64 0,.bool false,.slice none 0 0,.bool false,.string emp,.bool false,.string emp,.bool false,.string emp,.string emp,.int .i64 0,.bool false,.bool false,.slice none 0 0,.slice none 0 0,.slice none 0 0] true 0)
 have gb1 := (k1.at gb (by simp) (by simp)).1
 have hvc := dl_vc hw
 simp only [↓sbD,sbU,tyB,↓reduceIte,Nat.reduceEqDiff,Nat.reduceLT,Nat.reduceAdd,Nat.reduceLeDiff,pairs,splice,ZV.val,AS_new,zePk,hvc.1,hvc.2]
 intro d hd
 have hdb : d ≠ b := nd hd gb1 (by simp)
 have db : ∀ (τ : AHeap) o,(AHeap.set τ d o).get b = τ.get b := fun τ o => AHeap.get_set_ne _ _ hdb
 try simp only [↓sbD,sbU,tyB,Nat.reduceMul,Nat.reduceSub,Int.reduceEq,Int.reduceLT,Int.reduceLE,Int.reduceNe,Nat.reduceBneDiff,Nat.reduceBEq,decide_false,gt_iff_lt,Bool.or_self,Bool.false_eq_true,Nat.mul_one,Nat.one_mul,Nat.zero_mul,↓reduceIte,Nat.reduceEqDiff,Nat.reduceLT,Nat.reduceAdd,Nat.reduceLeDiff,reduceCtorEq,goInt,pairs,isConst,TI.isAgg,splice,boxS,Edp,dpv,Nat.beq_eq,ZV.val,List.any_cons,List.any_nil,Bool.false_and,AHeap.get_set_same,gb1,hvc.1,hvc.2,Bool.and_self,Bool.and_true,List.length_cons,List.length_nil,List.cons_append,List.nil_append,List.drop_succ_cons,List.drop_zero,List.set_cons_zero,List.set_cons_succ,decide_true]
 refine drawS_l (fl := [(1,12),(3,12),(5,12),(7,12),(9,12)]) (by kernel_rfl) ?_ ?_
 rotate_left; simp only [lastP_cc,lastP_one]; rotate_left
 ·simp only [List.all_cons,List.all_nil,floatS,List.getElem?_cons_succ,List.getElem?_cons_zero,List.getElem?_toArray,Region.wanted,Bool.not_true,Bool.or_true,reads,looksWeak,aev_tmp,upd_at,↓reduceIte,Nat.reduceLT,Nat.reduceAdd,blkOf,Bool.and_self,Bool.false_eq_true]
  try rfl
 generalize hσ2 : AHeap.set (AHeap.set σ1 d _) d _ = σ2
 have k2 : Kept σ1 [] σ2 [] := by rw [← hσ2]; exact ((Kept.refl _ []).setD hd).setD hd
 have gd2 : σ2.get d = .cells [.int .i64 3,.int .i64 0,.int .i64 0,w,.bool false,.int .i64 0,.string emp,.bool false,.string emp,.string emp,.int .i64 0,.bool false,.slice none 0 0,.bool false,.string emp,.bool false,.string emp,.bool false,.string p.topic,.string p.pay,.int .i64 p.qos,.bool p.ret,.bool p.dup,.slice none 0 0,.slice none 0 0,.slice none 0 0] true 0 := by rw [← hσ2]; exact AHeap.get_set_same _ _ _
 have gb2 := (k2.at gb1 (by simp) (by simp)).1
 have K2 : Kept σ [] σ2 [] := (((Kept.refl σ []).setD hb).trans k1).trans k2
 clear hσ2
 by_cases hq0 : 0 < p.qos
 focus
  simp only [↓sbD,sbU,tyB,↓reduceIte,Nat.reduceEqDiff,Nat.reduceLT,Nat.reduceAdd,Nat.reduceLeDiff,reduceCtorEq,isConst,splice,hq0,gd2]
  generalize hσ3 : AHeap.set σ2 d _ = σ3
  have K3 : Kept σ [] σ3 [] := ((((Kept.refl σ []).setD hb).trans k1)).trans (by rw [← hσ3]; exact k2.setD hd)
  have gd3 : σ3.get d = .cells [.int .i64 3,.int .i64 p.id,.int .i64 0,w,.bool false,.int .i64 0,.string emp,.bool false,.string emp,.string emp,.int .i64 0,.bool false,.slice none 0 0,.bool false,.string emp,.bool false,.string emp,.bool false,.string p.topic,.string p.pay,.int .i64 p.qos,.bool p.ret,.bool p.dup,.slice none 0 0,.slice none 0 0,.slice none 0 0] true 0 := by rw [← hσ3]; exact AHeap.get_set_same _ _ _
  have gb3 : σ3.get b = _ := (show σ3.get b = σ2.get b by rw [← hσ3]; exact AHeap.get_set_ne _ _ hdb).trans gb2
  clear hσ3
  simp only [↓sbD,sbU,tyB,↓reduceIte,Nat.reduceEqDiff,Nat.reduceLT,Nat.reduceAdd,Nat.reduceLeDiff,splice,gb3,hvc.2,res_cellc,resC_some]
  exact downS_here (hq _ _ ⟨_,_,_,_,_,hw,.inl ⟨rfl,rfl⟩,.inl ⟨rfl,rfl⟩,.inl ⟨rfl,rfl⟩,.inl ⟨rfl,rfl⟩,by simp only [pkC,pbB,pkz,if_pos hq0]⟩ (K3.setD hb))
 rotate_left
 simp only [↓sbD,sbU,tyB,decide_false,↓reduceIte,Nat.reduceEqDiff,Nat.reduceLT,Nat.reduceAdd,Nat.reduceLeDiff,reduceCtorEq,isConst,splice,hq0,gd2,gb2,hvc.2,res_cellc,resC_some]
 exact downS_here (hq _ _ ⟨_,_,_,_,_,hw,.inl ⟨rfl,rfl⟩,.inl ⟨rfl,rfl⟩,.inl ⟨rfl,rfl⟩,.inl ⟨rfl,rfl⟩,by simp only [pkC,pbB,pkz,if_neg hq0]⟩ (K2.setD hb))
end
theorem fraNe {σ : AHeap} {cs : Bool} {f : Int} {a : ByteArray} : abin E σ .neq 33 cs (.agg ⟨[.int .i64 f,.string a]⟩) (.agg ⟨[.int .i64 f,.string a]⟩) = some (.bool false) := by
 have e1 : (a == a) = true := by rw [bytes_dec]; simp
 simp only [abin,nonNum,eqAsk,aeq,aeqs,apart,ty33,ty3,ty9,TI.isAgg,Bool.and_self,Bool.false_eq_true,List.getElem?_cons_zero,List.getElem?_cons_succ,↓reduceIte,beq_self_eq_true,Option.map_some,e1]
 rfl
theorem fraNe0 {σ : AHeap} {cs : Bool} : abin E σ .neq 33 cs (.agg ⟨[.int .i64 0,.string emp]⟩) (.agg ⟨[.int .i64 0,.string ⟨#[]⟩]⟩) = some (.bool false) := fraNe
theorem pk_zero : PkV pkz (.agg ⟨zeL⟩) := ⟨_,_,_,_,_,.inl ⟨rfl,rfl⟩,.inl ⟨rfl,rfl⟩,.inl ⟨rfl,rfl⟩,.inl ⟨rfl,rfl⟩,.inl ⟨rfl,rfl⟩,rfl⟩
theorem law9 {H : AHeap} {vs : List Value} (hB0 : Ext B H) (h : ArgsTyped E H 8 [29,3,9] vs) : CallW E 4 vs H fun r _ => r = .bool true := by
 obtain ⟨u,vs1,rfl,t1,e1⟩ := h.cons'
 obtain ⟨u2,vs2,rfl,t2,e2⟩ := e1.cons'
 obtain ⟨u3,vs3,rfl,t3,e3⟩ := e2.cons'
 obtain rfl := e3.nil'
 obtain ⟨p,hp,_⟩ := typed_pk t1
 obtain ⟨n,rfl⟩ := typed_i t2
 obtain ⟨s,rfl⟩ := typed_s t3
 clear t1 t2 t3 e1 e2 e3 h
 have key : CallS E B 4 [u,.int .i64 n,.string s] .empty fun r _ => r = .bool true := by
  obtain ⟨vp,vw,vs,vf,vc,d1,d2,d3,d4,d5,rfl⟩ := hp
  obtain ⟨up,uw,us,uf,uc,d1,d2,d3,d4,d5,hzz,hbx⟩ := boxPk d1 d2 d3 d4 d5
  have hp : PkV p (.agg ⟨pkC p up uw us uf uc⟩) := ⟨_,_,_,_,_,d1,d2,d3,d4,d5,rfl⟩
  have hfz : ∀ cs,Value.agg ⟨pkC p up uw us uf uc⟩ = .agg ⟨cs⟩ → frzL E.ng E.nb cs = true := fun cs h => by injection h with h; injection h with h; rw [← h]; exact hzz
  clear d1 d2 d3 d4 d5 hzz
  simp only [pkC] at hp hfz hbx ⊢
  refine call4 (by simp) ?_
  simp only [strip,bodyOf,Tryz.f4,getD_body,keepN,bareOp_mk,lessOp_mk,lapp_cons,lapp_nil,List.map_cons,List.map_nil,↓reduceIte,Nat.reduceEqDiff,Bool.false_eq_true]
  simp (disch := first | assumption | simp) only [↓sbD,sbU,tyB,↓reduceIte,Nat.reduceEqDiff,Nat.reduceLT,Nat.reduceAdd,Nat.reduceLeDiff,hbx]
  refine specKFew hp hfz fun few hfew => ?_
  cases few with
  | false =>
   simp (disch := first | assumption | simp) only [↓sbD,sbU,↓reduceIte,Nat.reduceEqDiff,Nat.reduceLT,not_bool]
   refine specS12 ?_
   simp (disch := first | assumption | simp) only [↓sbD,sbU,↓reduceIte,Nat.reduceLT]
   exact downS_here rfl
  | true =>
   have hf := hfew rfl
   have hsm : smallP p.props := ⟨by have := hf.props.1; omega,fun x hx => by have := hf.props.2 x hx; omega⟩
   by_cases hsz : (2048 : Int) < (s.size : Int)
   ·simp (disch := first | assumption | simp) only [↓sbD,sbU,tyB,↓reduceIte,Nat.reduceEqDiff,Nat.reduceLT,goInt,isConst,not_bool,hsz]
    refine specS12 ?_
    simp (disch := first | assumption | simp) only [↓sbD,sbU,↓reduceIte,Nat.reduceLT]
    exact downS_here rfl
   simp (disch := first | assumption | simp) only [↓sbD,sbU,tyB,decide_false,↓reduceIte,Nat.reduceEqDiff,Nat.reduceLT,Nat.reduceAdd,Nat.reduceLeDiff,goInt,isConst,not_bool,hsz]
   refine specPbEnc hp hf.big (fun fb he σ1 k1 => ?_) fun k rr a he σ1 d z k1 hd hn => ?_
   focus
    have hfz2 := encPb_size he hf
    simp (disch := first | assumption | simp) only [↓sbD,sbU,tyB,↓reduceIte,Nat.reduceEqDiff,Nat.reduceLT,Nat.reduceAdd,Nat.reduceLeDiff,isConst,splice,AS_new,zeFra]
    intro c hc
    try simp (disch := first | assumption | simp) only [↓sbD,sbU,tyB,Nat.reduceMul,Nat.reduceSub,Int.reduceEq,Int.reduceLT,Int.reduceLE,Int.reduceNe,Nat.reduceBneDiff,Nat.reduceBEq,decide_false,gt_iff_lt,Bool.or_self,Bool.false_eq_true,Nat.mul_one,Nat.one_mul,Nat.zero_mul,↓reduceIte,Nat.reduceEqDiff,Nat.reduceLT,Nat.reduceAdd,Nat.reduceLeDiff,reduceCtorEq,goInt,pairs,isConst,TI.isAgg,splice,boxS,Edp,dpv,Nat.beq_eq,ZV.val,List.any_cons,List.any_nil,Bool.false_and,AHeap.get_set_same]
    generalize hσ2 : AHeap.set (AHeap.set σ1 c _) c _ = σ2
    have gc2 : σ2.get c = .cells [.int .i64 fb.1,.string fb.2] true 0 := by rw [← hσ2]; exact AHeap.get_set_same _ _ _
    clear hσ2
    try simp (disch := first | assumption | simp) only [↓sbD,sbU,tyB,Nat.reduceMul,Nat.reduceSub,Int.reduceEq,Int.reduceLT,Int.reduceLE,Int.reduceNe,Nat.reduceBneDiff,Nat.reduceBEq,decide_false,gt_iff_lt,Bool.or_self,Bool.false_eq_true,Nat.mul_one,Nat.one_mul,Nat.zero_mul,↓reduceIte,Nat.reduceEqDiff,Nat.reduceLT,Nat.reduceAdd,Nat.reduceLeDiff,reduceCtorEq,goInt,pairs,isConst,TI.isAgg,splice,boxS,Edp,dpv,Nat.beq_eq,ZV.val,List.any_cons,List.any_nil,Bool.false_and,gc2]
    refine specPbDec (by omega) (fun y hy v2 σ3 hv2 k3 => ?_) fun k rr a hy σ3 d z k3 hd hn => by cases pbBack he hf hy
    have hyy := pbBack he hf hy
    simp only [Except.ok.injEq] at hyy
    subst hyy
    obtain ⟨ga,gb,gc,gd,ge,g1,g2,g3,g4,g5,rfl⟩ := hv2
    have hv2 : PkV (pbB p) (.agg ⟨pkC (pbB p) ga gb gc gd ge⟩) := ⟨_,_,_,_,_,g1,g2,g3,g4,g5,rfl⟩
    have vg1 := dl_vc g1
    have vg2 := dl_vc g2
    have vg3 := dl_vc g3
    have vg4 := dl_vc g4
    have vg5 := dl_vc g5
    simp only [pkC] at hv2 ⊢
    simp (disch := first | assumption | simp) only [↓sbD,sbU,tyB,↓reduceIte,Nat.reduceEqDiff,Nat.reduceLT,Nat.reduceAdd,Nat.reduceLeDiff,isConst,splice,AS_new,zePk,vg1.2,vg2.2,vg3.2,vg4.2,vg5.2]
    intro t ht
    try simp (disch := first | assumption | simp) only [↓sbD,sbU,tyB,Nat.reduceMul,Nat.reduceSub,Int.reduceEq,Int.reduceLT,Int.reduceLE,Int.reduceNe,Nat.reduceBneDiff,Nat.reduceBEq,decide_false,gt_iff_lt,Bool.or_self,Bool.false_eq_true,Nat.mul_one,Nat.one_mul,Nat.zero_mul,↓reduceIte,Nat.reduceEqDiff,Nat.reduceLT,Nat.reduceAdd,Nat.reduceLeDiff,reduceCtorEq,goInt,pairs,isConst,TI.isAgg,splice,boxS,Edp,dpv,Nat.beq_eq,ZV.val,List.any_cons,List.any_nil,Bool.false_and,AHeap.get_set_same,vg1.1,vg1.2,vg2.1,vg2.2,vg3.1,vg3.2,vg4.1,vg4.2,vg5.1,vg5.2,Bool.and_self,Bool.and_true,List.length_cons,List.length_nil,List.cons_append,List.nil_append,List.drop_succ_cons,List.drop_zero,decide_true]
    generalize hσ4 : AHeap.set (AHeap.set σ3 t _) t _ = σ4
    have gt : σ4.get t = .cells [.int .i64 (pbB p).kind,.int .i64 (pbB p).id,.int .i64 (pbB p).rea,ga,.bool (pbB p).clean,.int .i64 (pbB p).keep,.string (pbB p).client,.bool (pbB p).will.has,.string (pbB p).will.topic,.string (pbB p).will.pay,.int .i64 (pbB p).will.qos,.bool (pbB p).will.ret,gb,.bool (pbB p).hasU,.string (pbB p).user,.bool (pbB p).hasP,.string (pbB p).pass,.bool (pbB p).present,.string (pbB p).topic,.string (pbB p).pay,.int .i64 (pbB p).qos,.bool (pbB p).ret,.bool (pbB p).dup,gc,gd,ge] true 0 := by rw [← hσ4]; exact AHeap.get_set_same _ _ _
    clear hσ4
    try simp (disch := first | assumption | simp) only [↓sbD,sbU,tyB,Nat.reduceMul,Nat.reduceSub,Int.reduceEq,Int.reduceLT,Int.reduceLE,Int.reduceNe,Nat.reduceBneDiff,Nat.reduceBEq,decide_false,gt_iff_lt,Bool.or_self,Bool.false_eq_true,Nat.mul_one,Nat.one_mul,Nat.zero_mul,↓reduceIte,Nat.reduceEqDiff,Nat.reduceLT,Nat.reduceAdd,Nat.reduceLeDiff,reduceCtorEq,goInt,pairs,isConst,TI.isAgg,splice,boxS,Edp,dpv,Nat.beq_eq,ZV.val,List.any_cons,List.any_nil,Bool.false_and,gt]
    refine specBare10 hp (by have := hf.props.1; omega) (by have := hf.wprops.1; omega) fun w σ5 hw k5 => ?_
    have gt5 := (k5.at gt (by simp) (by simp)).1
    try simp (disch := first | assumption | simp) only [↓sbD,sbU,↓reduceIte,Nat.reduceEqDiff,Nat.reduceLT]
    refine specKSame (p := (pbB p)) hv2 hw (by simp only [pbB,List.length_map]; have := hf.props.1; omega) (by simp [pbB,pkz]) (by simp [pbB,pkz]) (by simp [pbB,pkz]) (by simp [pbB,pkz])  ?_
    simp (disch := first | assumption | simp) only [↓sbD,sbU,↓reduceIte,Nat.reduceEqDiff,Nat.reduceLT,not_bool]
    refine drawS_l (fl := [(3,5)]) (by kernel_rfl) ?_ ?_
    rotate_left; simp only [lastP_cc,lastP_one]; rotate_left
    ·simp only [List.all_cons,List.all_nil,floatS,List.getElem?_cons_succ,List.getElem?_cons_zero,List.getElem?_toArray,Region.wanted,Bool.not_false,Bool.or_true,reads,looksWeak,aev_tmp,upd_at,↓reduceIte,Nat.reduceEqDiff,Nat.reduceLT,Nat.reduceAdd,blkOf,oeq_refl,dead_cells,Bool.and_self,Bool.false_eq_true,Bool.not_false,gt,gt5]
     try rfl
    simp (disch := first | assumption | simp) only [↓sbD,sbU,tyB,↓reduceIte,Nat.reduceEqDiff,Nat.reduceLT,Nat.reduceAdd,Nat.reduceLeDiff,pairs,splice,ZV.val]
   rotate_left
   focus
    simp (disch := first | assumption | simp) only [↓sbD,sbU,tyB,Bool.or_self,↓reduceIte,Nat.reduceEqDiff,Nat.reduceLT,Nat.reduceAdd,Nat.reduceLeDiff,pairs,isConst,splice,ZV.val,AS_new,zeFra]
    intro c hc
    try simp (disch := first | assumption | simp) only [↓sbD,sbU,tyB,↓reduceIte,Nat.reduceEqDiff,Nat.reduceLT,Nat.reduceAdd,Nat.reduceLeDiff,pairs,splice,ZV.val,fraNe0]
   all_goals
    refine specPbDec (by omega) (fun p2 hy2 v3 σ6 hv3 k6 => ?_) fun k2 r2 a2 hy2 σ6 d2 z2 k6 hd2 hn2 => ?_
    rotate_left
    ·simp only [zeL,pkC,pkz]
     simp (disch := first | assumption | simp) only [↓sbD,sbU,tyB,↓reduceIte,Nat.reduceEqDiff,Nat.reduceLT,Nat.reduceAdd,Nat.reduceLeDiff,pairs,isConst,splice,ZV.val,AS_new,zePk]
     intro e he2
     try simp (disch := first | assumption | simp) only [↓sbD,sbU,tyB,Nat.reduceMul,Nat.reduceSub,Int.reduceEq,Int.reduceLT,Int.reduceLE,Int.reduceNe,Nat.reduceBneDiff,Nat.reduceBEq,decide_false,gt_iff_lt,Bool.or_self,Bool.false_eq_true,Nat.mul_one,Nat.one_mul,Nat.zero_mul,↓reduceIte,Nat.reduceEqDiff,Nat.reduceLT,Nat.reduceAdd,Nat.reduceLeDiff,reduceCtorEq,goInt,pairs,isConst,TI.isAgg,splice,boxS,Edp,dpv,Nat.beq_eq,ZV.val,List.any_cons,List.any_nil,Bool.false_and,AHeap.get_set_same]
     refine specKSame (p := pkz) pk_zero pk_zero (by decide) (by decide) (by decide) (by decide) (by decide) ?_
     simp (disch := first | assumption | simp) only [↓sbD,sbU,↓reduceIte,Nat.reduceLT]
     refine specS12 ?_
     simp (disch := first | assumption | simp) only [↓sbD,sbU,↓reduceIte,Nat.reduceEqDiff,Nat.reduceLT]
     exact downS_here rfl
    obtain ⟨b,hE,hD2,hsm2,hbz,t2,id2,l2,pay2,rfl⟩ := pbAgain hy2 (by omega)
    obtain ⟨ma,mb,mc,md,me,m1,m2,m3,m4,m5,rfl⟩ := hv3
    have hv3 : PkV (pbP n t2 id2 l2 pay2) (.agg ⟨pkC (pbP n t2 id2 l2 pay2) ma mb mc md me⟩) := ⟨_,_,_,_,_,m1,m2,m3,m4,m5,rfl⟩
    have vm1 := dl_vc m1
    have vm2 := dl_vc m2
    have vm3 := dl_vc m3
    have vm4 := dl_vc m4
    have vm5 := dl_vc m5
    simp only [pkC] at hv3 ⊢
    simp (disch := first | assumption | simp) only [↓sbD,sbU,tyB,↓reduceIte,Nat.reduceEqDiff,Nat.reduceLT,Nat.reduceAdd,Nat.reduceLeDiff,isConst,splice,AS_new,zePk,vm1.2,vm2.2,vm3.2,vm4.2,vm5.2]
    intro t ht
    try simp (disch := first | assumption | simp) only [↓sbD,sbU,tyB,Nat.reduceMul,Nat.reduceSub,Int.reduceEq,Int.reduceLT,Int.reduceLE,Int.reduceNe,Nat.reduceBneDiff,Nat.reduceBEq,decide_false,gt_iff_lt,Bool.or_self,Bool.false_eq_true,Nat.mul_one,Nat.one_mul,Nat.zero_mul,↓reduceIte,Nat.reduceEqDiff,Nat.reduceLT,Nat.reduceAdd,Nat.reduceLeDiff,reduceCtorEq,goInt,pairs,isConst,TI.isAgg,splice,boxS,Edp,dpv,Nat.beq_eq,ZV.val,List.any_cons,List.any_nil,Bool.false_and,AHeap.get_set_same,vm1.1,vm1.2,vm2.1,vm2.2,vm3.1,vm3.2,vm4.1,vm4.2,vm5.1,vm5.2,Bool.and_self,Bool.and_true,List.length_cons,List.length_nil,List.cons_append,List.nil_append,List.drop_succ_cons,List.drop_zero,decide_true]
    generalize hσ7 : AHeap.set (AHeap.set σ6 t _) t _ = σ7
    have gt : σ7.get t = .cells [.int .i64 (pbP n t2 id2 l2 pay2).kind,.int .i64 (pbP n t2 id2 l2 pay2).id,.int .i64 (pbP n t2 id2 l2 pay2).rea,ma,.bool (pbP n t2 id2 l2 pay2).clean,.int .i64 (pbP n t2 id2 l2 pay2).keep,.string (pbP n t2 id2 l2 pay2).client,.bool (pbP n t2 id2 l2 pay2).will.has,.string (pbP n t2 id2 l2 pay2).will.topic,.string (pbP n t2 id2 l2 pay2).will.pay,.int .i64 (pbP n t2 id2 l2 pay2).will.qos,.bool (pbP n t2 id2 l2 pay2).will.ret,mb,.bool (pbP n t2 id2 l2 pay2).hasU,.string (pbP n t2 id2 l2 pay2).user,.bool (pbP n t2 id2 l2 pay2).hasP,.string (pbP n t2 id2 l2 pay2).pass,.bool (pbP n t2 id2 l2 pay2).present,.string (pbP n t2 id2 l2 pay2).topic,.string (pbP n t2 id2 l2 pay2).pay,.int .i64 (pbP n t2 id2 l2 pay2).qos,.bool (pbP n t2 id2 l2 pay2).ret,.bool (pbP n t2 id2 l2 pay2).dup,mc,md,me] true 0 := by rw [← hσ7]; exact AHeap.get_set_same _ _ _
    clear hσ7
    try simp (disch := first | assumption | simp) only [↓sbD,sbU,tyB,Nat.reduceMul,Nat.reduceSub,Int.reduceEq,Int.reduceLT,Int.reduceLE,Int.reduceNe,Nat.reduceBneDiff,Nat.reduceBEq,decide_false,gt_iff_lt,Bool.or_self,Bool.false_eq_true,Nat.mul_one,Nat.one_mul,Nat.zero_mul,↓reduceIte,Nat.reduceEqDiff,Nat.reduceLT,Nat.reduceAdd,Nat.reduceLeDiff,reduceCtorEq,goInt,pairs,isConst,TI.isAgg,splice,boxS,Edp,dpv,Nat.beq_eq,ZV.val,List.any_cons,List.any_nil,Bool.false_and,gt]
    refine specPbEnc hv3 hsm2 (fun fb2 he2 σ8 k8 => ?_) fun k2 r2 a2 he2 σ8 d2 z2 k8 hd2 hn2 => by cases he2.det hE
    have hfe := he2.det hE
    simp only [Except.ok.injEq] at hfe
    subst hfe
    have gt8 := (k8.at gt (by simp) (by simp)).1
    simp (disch := first | assumption | simp) only [↓sbD,sbU,tyB,↓reduceIte,Nat.reduceEqDiff,Nat.reduceLT,Nat.reduceAdd,Nat.reduceLeDiff,splice,AS_new,zeFra]
    intro c' hc'
    try simp (disch := first | assumption | simp) only [↓sbD,sbU,tyB,Nat.reduceMul,Nat.reduceSub,Int.reduceEq,Int.reduceLT,Int.reduceLE,Int.reduceNe,Nat.reduceBneDiff,Nat.reduceBEq,decide_false,gt_iff_lt,Bool.or_self,Bool.false_eq_true,Nat.mul_one,Nat.one_mul,Nat.zero_mul,↓reduceIte,Nat.reduceEqDiff,Nat.reduceLT,Nat.reduceAdd,Nat.reduceLeDiff,reduceCtorEq,goInt,pairs,isConst,TI.isAgg,splice,boxS,Edp,dpv,Nat.beq_eq,ZV.val,List.any_cons,List.any_nil,Bool.false_and,AHeap.get_set_same]
    generalize hσ9 : AHeap.set (AHeap.set σ8 c' _) c' _ = σ9
    have k9 : Kept σ8 [] σ9 [] := by rw [← hσ9]; exact ((Kept.refl _ []).setD hc').setD hc'
    have gc9 : σ9.get c' = .cells [.int .i64 n,.string b] true 0 := by rw [← hσ9]; exact AHeap.get_set_same _ _ _
    have gt9 := (k9.at gt8 (by simp) (by simp)).1
    clear hσ9
    try simp (disch := first | assumption | simp) only [↓sbD,sbU,tyB,Nat.reduceMul,Nat.reduceSub,Int.reduceEq,Int.reduceLT,Int.reduceLE,Int.reduceNe,Nat.reduceBneDiff,Nat.reduceBEq,decide_false,gt_iff_lt,Bool.or_self,Bool.false_eq_true,Nat.mul_one,Nat.one_mul,Nat.zero_mul,↓reduceIte,Nat.reduceEqDiff,Nat.reduceLT,Nat.reduceAdd,Nat.reduceLeDiff,reduceCtorEq,goInt,pairs,isConst,TI.isAgg,splice,boxS,Edp,dpv,Nat.beq_eq,ZV.val,List.any_cons,List.any_nil,Bool.false_and,gc9]
    refine specPbDec (by omega) (fun y2 hy3 v4 σ10 hv4 k10 => ?_) fun k2 r2 a2 hy3 σ10 d2 z2 k10 hd2 hn2 => by cases hy3.det hD2
    have hye := hy3.det hD2
    simp only [Except.ok.injEq] at hye
    subst hye
    have gt10 := (k10.at gt9 (by simp) (by simp)).1
    obtain ⟨oa,ob,oc,od,oe,o1,o2,o3,o4,o5,rfl⟩ := hv4
    have hv4 : PkV (pbP n t2 id2 l2 pay2) (.agg ⟨pkC (pbP n t2 id2 l2 pay2) oa ob oc od oe⟩) := ⟨_,_,_,_,_,o1,o2,o3,o4,o5,rfl⟩
    have vo1 := dl_vc o1
    have vo2 := dl_vc o2
    have vo3 := dl_vc o3
    have vo4 := dl_vc o4
    have vo5 := dl_vc o5
    simp only [pkC] at hv4 ⊢
    simp (disch := first | assumption | simp) only [↓sbD,sbU,tyB,↓reduceIte,Nat.reduceEqDiff,Nat.reduceLT,Nat.reduceAdd,Nat.reduceLeDiff,isConst,splice,AS_new,zePk,vo1.2,vo2.2,vo3.2,vo4.2,vo5.2]
    intro t' ht'
    try simp (disch := first | assumption | simp) only [↓sbD,sbU,tyB,Nat.reduceMul,Nat.reduceSub,Int.reduceEq,Int.reduceLT,Int.reduceLE,Int.reduceNe,Nat.reduceBneDiff,Nat.reduceBEq,decide_false,gt_iff_lt,Bool.or_self,Bool.false_eq_true,Nat.mul_one,Nat.one_mul,Nat.zero_mul,↓reduceIte,Nat.reduceEqDiff,Nat.reduceLT,Nat.reduceAdd,Nat.reduceLeDiff,reduceCtorEq,goInt,pairs,isConst,TI.isAgg,splice,boxS,Edp,dpv,Nat.beq_eq,ZV.val,List.any_cons,List.any_nil,Bool.false_and,AHeap.get_set_same,vo1.1,vo1.2,vo2.1,vo2.2,vo3.1,vo3.2,vo4.1,vo4.2,vo5.1,vo5.2,Bool.and_self,Bool.and_true,List.length_cons,List.length_nil,List.cons_append,List.nil_append,List.drop_succ_cons,List.drop_zero,decide_true]
    generalize hσ11 : AHeap.set (AHeap.set σ10 t' _) t' _ = σ11
    have gt' : σ11.get t' = .cells [.int .i64 (pbP n t2 id2 l2 pay2).kind,.int .i64 (pbP n t2 id2 l2 pay2).id,.int .i64 (pbP n t2 id2 l2 pay2).rea,oa,.bool (pbP n t2 id2 l2 pay2).clean,.int .i64 (pbP n t2 id2 l2 pay2).keep,.string (pbP n t2 id2 l2 pay2).client,.bool (pbP n t2 id2 l2 pay2).will.has,.string (pbP n t2 id2 l2 pay2).will.topic,.string (pbP n t2 id2 l2 pay2).will.pay,.int .i64 (pbP n t2 id2 l2 pay2).will.qos,.bool (pbP n t2 id2 l2 pay2).will.ret,ob,.bool (pbP n t2 id2 l2 pay2).hasU,.string (pbP n t2 id2 l2 pay2).user,.bool (pbP n t2 id2 l2 pay2).hasP,.string (pbP n t2 id2 l2 pay2).pass,.bool (pbP n t2 id2 l2 pay2).present,.string (pbP n t2 id2 l2 pay2).topic,.string (pbP n t2 id2 l2 pay2).pay,.int .i64 (pbP n t2 id2 l2 pay2).qos,.bool (pbP n t2 id2 l2 pay2).ret,.bool (pbP n t2 id2 l2 pay2).dup,oc,od,oe] true 0 := by rw [← hσ11]; exact AHeap.get_set_same _ _ _
    have k11 : Kept σ10 [] σ11 [] := by rw [← hσ11]; exact ((Kept.refl _ []).setD ht').setD ht'
    clear hσ11
    try simp (disch := first | assumption | simp) only [↓sbD,sbU,tyB,Nat.reduceMul,Nat.reduceSub,Int.reduceEq,Int.reduceLT,Int.reduceLE,Int.reduceNe,Nat.reduceBneDiff,Nat.reduceBEq,decide_false,gt_iff_lt,Bool.or_self,Bool.false_eq_true,Nat.mul_one,Nat.one_mul,Nat.zero_mul,↓reduceIte,Nat.reduceEqDiff,Nat.reduceLT,Nat.reduceAdd,Nat.reduceLeDiff,reduceCtorEq,goInt,pairs,isConst,TI.isAgg,splice,boxS,Edp,dpv,Nat.beq_eq,ZV.val,List.any_cons,List.any_nil,Bool.false_and,gt']
    have gt11 := (k11.at gt10 (by simp) (by simp)).1
    simp (disch := first | assumption | simp) only [↓sbD,sbU,tyB,↓reduceIte,Nat.reduceEqDiff,Nat.reduceLT,Nat.reduceAdd,Nat.reduceLeDiff,gt11,gt']
    refine specKSame (p := (pbP n t2 id2 l2 pay2)) hv3 hv4 (by have := hsm2.props.1; simp only [pbP] at this ⊢; omega) (by simp [pbP,pkz]) (by simp [pbP,pkz]) (by simp [pbP,pkz]) (by simp [pbP,pkz]) ?_
    simp (disch := first | assumption | simp) only [↓sbD,sbU,↓reduceIte,Nat.reduceEqDiff,Nat.reduceLT]
    refine specS12 ?_
    simp (disch := first | assumption | simp) only [↓sbD,sbU,↓reduceIte,Nat.reduceEqDiff,Nat.reduceLT]
    exact downS_here rfl
 exact (key H (ext_holds hB0)).mono fun r H' ⟨σ',_,h⟩ => h
end Go.Proofs.YtjkhhdknplelcaaGreatDoor.AbsA
