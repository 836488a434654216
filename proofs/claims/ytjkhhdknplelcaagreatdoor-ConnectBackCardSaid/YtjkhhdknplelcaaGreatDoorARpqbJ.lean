/-
  Parts of a law's proof.
-/
import Derived.Test.YtjkhhdknplelcaaGreatDoorAApqbJ
import Derived.Test.YtjkhhdknplelcaaGreatDoorAPraJ
import Derived.Test.YtjkhhdknplelcaaGreatDoorABxqbJ
namespace Go.Proofs.YtjkhhdknplelcaaGreatDoor.AbsB
open Go AbsYtjkhhdknplelcaaGreatDoor Abs
set_option maxRecDepth 100000
set_option maxHeartbeats 4000000
set_option linter.unusedSimpArgs false
set_option linter.unusedVariables false
def At (S : ByteArray) (q : Nat) (t : ByteArray) : Prop := ∃ A : ByteArray,A.size = q ∧ S = A ++ t
theorem At.zero (S : ByteArray) : At S 0 S := ⟨emp,rfl,(emp_app' S).symm⟩
theorem At.le {S t : ByteArray} {q : Nat} (h : At S q t) : S.size = q + t.size := by
 obtain ⟨A,h1,rfl⟩ := h
 rw [size_app,h1]
theorem At.mv {S m t : ByteArray} {q : Nat} (h : At S q (m ++ t)) : At S (q + m.size) t := by
 obtain ⟨A,h1,rfl⟩ := h
 exact ⟨A ++ m,by rw [size_app,h1],by rw [app_assoc]⟩
theorem At.rest {S t : ByteArray} {q : Nat} (h : At S q t) : S.extract q S.size = t := by
 obtain ⟨A,h1,rfl⟩ := h
 rw [← h1]
 exact ext_tail A t
theorem At.num {S t : ByteArray} {q n k : Nat} (hk : k = 1 ∨ k = 2 ∨ k = 4) (hn : n < 2 ^ (8 * k)) (h : At S q (numB n k ++ t)) : numR S q k = .ok (n,q + k) ∧ At S (q + k) t := by
 have h2 := h.mv
 obtain ⟨A,h1,rfl⟩ := h
 rw [numB_k hk] at h2
 exact ⟨num_at A t hk hn h1,h2⟩
theorem At.u8 {S t : ByteArray} {q n : Nat} (hn : n < 256) (h : At S q (numB n 1 ++ t)) : u8S S (.ok q) = (n,.ok (q + 1)) ∧ At S (q + 1) t := by
 have := h.num (k := 1) (by omega) (by omega)
 refine ⟨?_,this.2⟩
 simp only [u8S,stp,this.1]
theorem At.u16 {S t : ByteArray} {q n : Nat} (hn : n < 65536) (h : At S q (numB n 2 ++ t)) : u16S S (.ok q) = (n,.ok (q + 2)) ∧ At S (q + 2) t := by
 have := h.num (k := 2) (by omega) (by omega)
 refine ⟨?_,this.2⟩
 simp only [u16S,stp,this.1]
theorem At.text {S t m b : ByteArray} {q : Nat} (hw : textW b = .inl m) (h : At S q (m ++ t)) : textS S (.ok q) = (b,.ok (q + m.size)) ∧ At S (q + m.size) t := by
 have h2 := h.mv
 refine ⟨?_,h2⟩
 obtain ⟨A,h1,rfl⟩ := h
 have hm := rdA_mid A t (a := ⟨6,0,b⟩) (by simp [kindOk]) (show actW ⟨6,0,b⟩ = .inl m from hw)
 simp only [rdA,Int.reduceEq,if_true,if_false,Int.reduceLT,h1,app_assoc] at hm
 cases hr : textR (A ++ (m ++ t)) q with
 | error e => rw [hr] at hm; cases hm
 | ok a =>
  obtain ⟨v,q'⟩ := a
  rw [hr] at hm
  simp only [mapS,Except.ok.injEq,Prod.mk.injEq] at hm
  simp only [textS,stp,hr]
  rw [hm.1.2,hm.2]
theorem At.bin {S t m b : ByteArray} {q : Nat} (hw : binW b = .inl m) (h : At S q (m ++ t)) : binS S (.ok q) = (b,.ok (q + m.size)) ∧ At S (q + m.size) t := by
 have h2 := h.mv
 refine ⟨?_,h2⟩
 obtain ⟨A,h1,rfl⟩ := h
 have hm := rdA_mid A t (a := ⟨7,0,b⟩) (by simp [kindOk]) (show actW ⟨7,0,b⟩ = .inl m from hw)
 simp only [rdA,Int.reduceEq,if_false,Int.reduceLT,h1,app_assoc] at hm
 cases hr : binR (A ++ (m ++ t)) q with
 | error e => rw [hr] at hm; cases hm
 | ok a =>
  obtain ⟨v,q'⟩ := a
  rw [hr] at hm
  simp only [mapS,Except.ok.injEq,Prod.mk.injEq] at hm
  simp only [binS,stp,hr]
  rw [hm.1.2,hm.2]
theorem At.props {S t c : ByteArray} {q : Nat} {pl : Int} {l : List Pr} (he : encP pl l = .ok c) (hz : c.size ≤ 700000) (h : At S q (c ++ t)) : ReadPS pl S (.ok q) (.ok (l.map plainP,q + c.size)) ∧ At S (q + c.size) t := by
 have h2 := h.mv
 refine ⟨?_,h2⟩
 obtain ⟨A,h1,rfl⟩ := h
 have := read_encP (A := A) (t := t) he hz
 rw [h1,app_assoc] at this
 exact this
theorem At.fin {S : ByteArray} {q : Nat} (h : At S q emp) : q = S.size := by
 have := h.le
 have h0 : emp.size = 0 := rfl
 omega
theorem endS_fin {S : ByteArray} {q : Nat} (h : At S q emp) : endS S (.ok q) = none := if_pos h.fin
def EncG {β : Type} (pre : Option E3) (pr : Except E3 β) (f : Int) (D : ByteArray → Except E3 Pk → Prop) (acts : β → List Act) (r : Except E3 (Int × ByteArray)) : Prop := match pre with
 | some e => r = .error e
 | none => match pr with
  | .error e => r = .error e
  | .ok s => MadeR f D (runW emp (acts s)) r
theorem EncG.det {β : Type} {pre : Option E3} {pr : Except E3 β} {f : Int} {D : ByteArray → Except E3 Pk → Prop} {acts : β → List Act} (hD : ∀ b r r',D b r → D b r' → r = r') {r r' : Except E3 (Int × ByteArray)} (h : EncG pre pr f D acts r) (h' : EncG pre pr f D acts r') : r = r' := by
 unfold EncG at h h'
 cases pre with
 | some e => exact h.trans h'.symm
 | none =>
  cases pr with
  | error e => exact h.trans h'.symm
  | ok s => exact MadeR.det hD h h'
theorem EncG.inv {β : Type} {pre : Option E3} {pr : Except E3 β} {f : Int} {D : ByteArray → Except E3 Pk → Prop} {acts : β → List Act} {fb : Int × ByteArray} (h : EncG pre pr f D acts (.ok fb)) : pre = none ∧ ∃ s b y,pr = .ok s ∧ catW (acts s) = some b ∧ fb = (f,b) ∧ D b (.ok y) := by
 unfold EncG at h
 cases pre with
 | some e => cases h
 | none =>
  cases pr with
  | error e => cases h
  | ok s =>
   refine ⟨rfl,?_⟩
   simp only [MadeR] at h
   cases hw : runW emp (acts s) with
   | inr e => obtain ⟨k,q⟩ := e; rw [hw] at h; cases h
   | inl b =>
    rw [hw] at h
    simp only at h
    obtain ⟨d,h1,h2⟩ := h
    obtain ⟨D',hD,rfl⟩ := runW_cat hw
    rw [emp_app'] at *
    cases d with
    | error e => cases h2
    | ok y =>
     simp only [Except.ok.injEq] at h2
     exact ⟨s,_,y,rfl,hD,h2,h1⟩
theorem EncG.mk {β : Type} {f : Int} {D : ByteArray → Except E3 Pk → Prop} {acts : β → List Act} {s : β} {b : ByteArray} {y : Pk} (hc : catW (acts s) = some b) (hd : D b (.ok y)) : EncG none (.ok s) f D acts (.ok (f,b)) := by
 simp only [EncG,MadeR]
 rw [catW_run emp hc,emp_app']
 exact ⟨_,hd,rfl⟩
structure bigPk (p : Pk) : Prop where
 props : smallP p.props
 wprops : smallP p.will.props
 client : p.client.size ≤ 2100
 wtopic : p.will.topic.size ≤ 2100
 wpay : p.will.pay.size ≤ 2100
 user : p.user.size ≤ 2100
 pass : p.pass.size ≤ 2100
 topic : p.topic.size ≤ 2100
 pay : p.pay.size ≤ 2100
theorem fewPr.small {l : List Pr} (h : fewPr l) : smallP l := ⟨by have := h.1; omega,fun x hx => by have := h.2 x hx; omega⟩
theorem fewPk.big {p : Pk} (h : fewPk p) : bigPk p := ⟨h.props.small,h.wprops.small,by have := h.client; omega,by have := h.wtopic; omega,by have := h.wpay; omega,by have := h.user; omega,by have := h.pass; omega,by have := h.topic; omega,by have := h.pay; omega⟩
theorem small_nil : smallP [] := ⟨by simp,by simp⟩
theorem ReadPS_w {pl : Int} {s : ByteArray} {p q : Nat} {l : List Pr} (hs : s.size ≤ 2048) (hp : p ≤ s.size) (h : ReadPS pl s (.ok p) (.ok (l,q))) : ∃ c,encP pl l = .ok c ∧ c.size ≤ 700000 ∧ l.map plainP = l ∧ smallP l := by
 obtain ⟨c,h1,h2,h3,h4,h5⟩ := ReadP_w hs hp h
 exact ⟨c,h1,h2,map_plain h4,h5⟩
def okS (s : ByteArray) (st : RSt) : Prop := ∀ p,st = .ok p → p ≤ s.size
theorem okS_u8 {s : ByteArray} {st : RSt} {n : Nat} {p : Nat} (h : u8S s st = (n,.ok p)) : n < 256 ∧ p ≤ s.size ∧ ∃ p0,st = .ok p0 := by
 unfold u8S stp at h
 cases st with
 | error e => cases h
 | ok p0 =>
  simp only at h
  cases hn : numR s p0 1 with
  | error e => rw [hn] at h; cases h
  | ok a =>
   obtain ⟨v,q⟩ := a
   rw [hn] at h
   simp only [Prod.mk.injEq,Except.ok.injEq] at h
   obtain ⟨rfl,rfl⟩ := h
   exact ⟨numR_lt hn,(numR_le hn).2,_,rfl⟩
theorem okS_u16 {s : ByteArray} {st : RSt} {n : Nat} {p : Nat} (h : u16S s st = (n,.ok p)) : n < 65536 ∧ p ≤ s.size ∧ ∃ p0,st = .ok p0 := by
 unfold u16S stp at h
 cases st with
 | error e => cases h
 | ok p0 =>
  simp only at h
  cases hn : numR s p0 2 with
  | error e => rw [hn] at h; cases h
  | ok a =>
   obtain ⟨v,q⟩ := a
   rw [hn] at h
   simp only [Prod.mk.injEq,Except.ok.injEq] at h
   obtain ⟨rfl,rfl⟩ := h
   exact ⟨numR_lt hn,(numR_le hn).2,_,rfl⟩
theorem okS_text {s : ByteArray} {st : RSt} {b : ByteArray} {p : Nat} (h : textS s st = (b,.ok p)) : textW b = .inl (numB b.size 2 ++ b) ∧ b.size ≤ s.size ∧ p ≤ s.size ∧ ∃ p0,st = .ok p0 := by
 unfold textS stp at h
 cases st with
 | error e => cases h
 | ok p0 =>
  simp only at h
  cases hn : textR s p0 with
  | error e => rw [hn] at h; cases h
  | ok a =>
   obtain ⟨v,q⟩ := a
   rw [hn] at h
   simp only [Prod.mk.injEq,Except.ok.injEq] at h
   obtain ⟨rfl,rfl⟩ := h
   exact ⟨(textR_w hn).1,(textR_w hn).2,(textR_ok hn).2,_,rfl⟩
theorem okS_bin {s : ByteArray} {st : RSt} {b : ByteArray} {p : Nat} (h : binS s st = (b,.ok p)) : binW b = .inl (numB b.size 2 ++ b) ∧ b.size ≤ s.size ∧ p ≤ s.size ∧ ∃ p0,st = .ok p0 := by
 unfold binS stp at h
 cases st with
 | error e => cases h
 | ok p0 =>
  simp only at h
  cases hn : binR s p0 with
  | error e => rw [hn] at h; cases h
  | ok a =>
   obtain ⟨v,q⟩ := a
   rw [hn] at h
   simp only [Prod.mk.injEq,Except.ok.injEq] at h
   obtain ⟨rfl,rfl⟩ := h
   exact ⟨(binR_w hn).1,(binR_w hn).2,(binR_ok hn).1,_,rfl⟩
theorem w1 {n : Nat} (h : n < 256) : actW ⟨1,(n : Int),emp⟩ = .inl (numB n 1) := numW_ok (by omega)
theorem w2 {n : Nat} (h : n < 65536) : actW ⟨2,(n : Int),emp⟩ = .inl (numB n 2) := numW_ok (by omega)
theorem w6 {b m : ByteArray} (h : textW b = .inl m) : actW ⟨6,0,b⟩ = .inl m := h
theorem w7 {b m : ByteArray} (h : binW b = .inl m) : actW ⟨7,0,b⟩ = .inl m := h
theorem w8 {b : ByteArray} : actW ⟨8,0,b⟩ = .inl b := rfl
theorem inv1 {n : Int} {b m : ByteArray} (h : actW ⟨1,n,b⟩ = .inl m) : ∃ k : Nat,n = k ∧ k < 256 ∧ m = numB k 1 := by
 obtain ⟨h1,h2,h3⟩ := numW_inl (show numW n 1 = .inl m from h)
 exact ⟨n.toNat,by omega,by omega,h3⟩
theorem inv2 {n : Int} {b m : ByteArray} (h : actW ⟨2,n,b⟩ = .inl m) : ∃ k : Nat,n = k ∧ k < 65536 ∧ m = numB k 2 := by
 obtain ⟨h1,h2,h3⟩ := numW_inl (show numW n 2 = .inl m from h)
 exact ⟨n.toNat,by omega,by omega,h3⟩
theorem inv8 {n : Int} {b m : ByteArray} (h : actW ⟨8,n,b⟩ = .inl m) : m = b := by
 have h : (Sum.inl b : ByteArray ⊕ (Nat × Nat)) = Sum.inl m := h
 injection h with h
 exact h.symm
def okP : RSt → Bool
 | .ok _ => true
 | .error _ => false
def pbBad (f : Int) : Prop := f < 48 ∨ 63 < f ∨ f / 2 % 4 = 3 ∨ (f / 8 % 2 = 1 ∧ f / 2 % 4 = 0)
instance (f : Int) : Decidable (pbBad f) := by unfold pbBad; infer_instance
set_option maxHeartbeats 8000000
attribute [local irreducible] afterS afterOpS opSK OpsS TrS CodeS condS condW thenS thenQ guardS guardTS outS drawS trSK consS
section
variable {σ : AHeap} {Q : Value → AHeap → Prop} {s : ByteArray}
theorem quoK {σ : AHeap} {f k : Int} {t : Nat} {cs : Bool} (hk : ¬ k = 0) : abin E σ .quo t cs (.int .i64 f) (.int .i64 k) = some (.int .i64 (IntKind.i64.wrap (f.tdiv k))) := by
 show (if k = 0 then none else some (Value.int .i64 (IntKind.i64.wrap (f.tdiv k)))) = _
 rw [if_neg hk]
end
section
variable {σ : AHeap} {Q : Value → AHeap → Prop} {s : ByteArray}
theorem divP {f k : Int} {t : Nat} {cs : Bool} (ha : 0 ≤ f) (hb : f < 1000) (hk : k = 2 ∨ k = 8) : abin E σ .quo t cs (.int .i64 f) (.int .i64 k) = some (.int .i64 (f / k)) := by
 rw [quoK (by omega),Int.tdiv_eq_ediv_of_nonneg ha,wrap64 (by rcases hk with rfl | rfl <;> constructor <;> omega)]
end
end Go.Proofs.YtjkhhdknplelcaaGreatDoor.AbsB
namespace Go.Proofs.YtjkhhdknplelcaaGreatDoor.AbsB
open Go AbsYtjkhhdknplelcaaGreatDoor Abs
set_option maxRecDepth 100000
set_option maxHeartbeats 4000000
set_option linter.unusedSimpArgs false
set_option linter.unusedVariables false
def mqtt : ByteArray := ⟨#[77,81,84,84]⟩
def flBad (n : Nat) : Prop := n % 2 = 1 ∨ n / 8 % 4 = 3 ∨ (n / 4 % 2 = 0 ∧ (0 < n / 8 % 4 ∨ n / 32 % 2 = 1))
instance (n : Nat) : Decidable (flBad n) := by unfold flBad; infer_instance
def headK (a : ByteArray × RSt) (b c : Nat × RSt) : Except E3 (Nat × Nat) :=
 if okP a.2 = true ∧ a.1 ≠ mqtt then .error (3,132,0) else if okP b.2 = true ∧ b.1 ≠ 5 then .error (3,132,6) else match c.2 with
 | .error (k,q) => .error (k,129,q)
 | .ok p => if flBad c.1 then .error (2,129,7) else .ok (c.1,p)
def headS (s : ByteArray) : Except E3 (Nat × Nat) := headK (textS s (.ok 0)) (u8S s (textS s (.ok 0)).2) (u8S s (u8S s (textS s (.ok 0)).2).2)
def coW (n : Nat) (t p : ByteArray) (m : List Pr) : Wl := ⟨true,t,p,(n / 8 % 4 : Nat),decide (n / 32 % 2 = 1),m⟩
def wlz : Wl := ⟨false,emp,emp,0,false,[]⟩
def coP (n keep : Nat) (l : List Pr) (cl : ByteArray) (w : Wl) (u pw : ByteArray) : Pk := { pkz with kind := 1,clean := decide (n / 2 % 2 = 1),keep := keep,props := l,client := cl,will := w,hasU := decide (n / 128 = 1),user := u,hasP := decide (n / 64 % 2 = 1),pass := pw }
def userS (n : Nat) (s : ByteArray) (st : RSt) : ByteArray × RSt := if n / 128 = 1 then textS s st else (emp,st)
def passS (n : Nat) (s : ByteArray) (st : RSt) : ByteArray × RSt := if n / 64 % 2 = 1 then binS s st else (emp,st)
def finK (n : Nat) (s : ByteArray) (st : RSt) (g : ByteArray → ByteArray → Pk) : Except E3 Pk := match endS s (passS n s (userS n s st).2).2 with
 | some e => .error e
 | none => .ok (g (userS n s st).1 (passS n s (userS n s st).2).1)
def willK (n : Nat) (s : ByteArray) (st : RSt) (g : Wl → ByteArray → ByteArray → Pk) (r : Except E3 Pk) : Prop :=
 if n / 4 % 2 = 1 then ∃ y,ReadPS 16 s st y ∧ match y with
  | .error e => r = .error e
  | .ok (m,q) => r = finK n s (binS s (textS s (.ok q)).2).2 (g (coW n (textS s (.ok q)).1 (binS s (textS s (.ok q)).2).1 m))
 else r = finK n s st (g wlz)
def DecK (f : Int) (s : ByteArray) (r : Except E3 Pk) : Prop :=
 if f ≠ 16 then r = .error (2,129,0) else match headS s with
 | .error e => r = .error e
 | .ok (n,p) => ∃ x,ReadPS 1 s (u16S s (.ok p)).2 x ∧ match x with
  | .error e => r = .error e
  | .ok (l,q) => willK n s (textS s (.ok q)).2 (coP n (u16S s (.ok p)).1 l (textS s (.ok q)).1) r
theorem willK.det {n : Nat} {s : ByteArray} {st : RSt} {g : Wl → ByteArray → ByteArray → Pk} {r r' : Except E3 Pk} (h : willK n s st g r) (h' : willK n s st g r') : r = r' := by
 unfold willK at h h'
 split at h
 ·rename_i h1
  rw [if_pos h1] at h'
  obtain ⟨x,h3,h5⟩ := h
  obtain ⟨y,h4,h6⟩ := h'
  obtain rfl := h3.det h4
  cases x with
  | error e => exact h5.trans h6.symm
  | ok a => exact h5.trans h6.symm
 ·rename_i h1
  rw [if_neg h1] at h'
  exact h.trans h'.symm
theorem DecK.det {f : Int} {s : ByteArray} {r r' : Except E3 Pk} (h : DecK f s r) (h' : DecK f s r') : r = r' := by
 unfold DecK at h h'
 split at h
 ·rename_i h1
  rw [if_pos h1] at h'
  exact h.trans h'.symm
 ·rename_i h1
  rw [if_neg h1] at h'
  cases hh : headS s with
  | error e => rw [hh] at h h'; exact h.trans h'.symm
  | ok a =>
   obtain ⟨n,p⟩ := a
   rw [hh] at h h'
   obtain ⟨x,h3,h5⟩ := h
   obtain ⟨y,h4,h6⟩ := h'
   obtain rfl := h3.det h4
   cases x with
   | error e => exact h5.trans h6.symm
   | ok a => exact willK.det h5 h6
def bI (b : Bool) (n : Int) : Int := if b then n else 0
def flagsI (p : Pk) : Int := bI p.clean 2 + bI p.hasU 128 + bI p.hasP 64 + (if p.will.has then 4 + 8 * p.will.qos + bI p.will.ret 32 else 0)
def actsK (p : Pk) (s : ByteArray × ByteArray) : List Act :=
 [⟨6,0,mqtt⟩,⟨1,5,emp⟩,⟨1,flagsI p,emp⟩,⟨2,p.keep,emp⟩,⟨8,0,s.1⟩,⟨6,0,p.client⟩] ++ ((if p.will.has then [⟨8,0,s.2⟩,⟨6,0,p.will.topic⟩,⟨7,0,p.will.pay⟩] else []) ++ ((if p.hasU then [⟨6,0,p.user⟩] else []) ++ (if p.hasP then [⟨7,0,p.pass⟩] else [])))
def preK (p : Pk) : Option E3 := if p.will.has = true ∧ (p.will.qos < 0 ∨ 3 < p.will.qos) then some (2,129,0) else none
def propsK (p : Pk) : Except E3 (ByteArray × ByteArray) := match encP 1 p.props with
 | .error e => .error e
 | .ok a => if p.will.has then match encP 16 p.will.props with
  | .error e => .error e
  | .ok b => .ok (a,b) else .ok (a,emp)
abbrev EncK (p : Pk) (r : Except E3 (Int × ByteArray)) : Prop := EncG (preK p) (propsK p) 16 (DecK 16) (actsK p) r
theorem EncK.det {p : Pk} {r r' : Except E3 (Int × ByteArray)} (h : EncK p r) (h' : EncK p r') : r = r' := EncG.det (D := DecK 16) (fun _ _ _ h1 h2 => h1.det h2) h h'
def opt (b : Bool) (m : ByteArray) : ByteArray := if b then m else emp
theorem mqtt_w : textW mqtt = .inl (numB 4 2 ++ mqtt) := by decide +kernel
theorem finK_val {n : Nat} {S u pw mu mp : ByteArray} {q : Nat} {g : ByteArray → ByteArray → Pk} (hu : n / 128 = 1 → textW u = .inl mu) (hp : n / 64 % 2 = 1 → binW pw = .inl mp)
  (h : At S q (opt (decide (n / 128 = 1)) mu ++ (opt (decide (n / 64 % 2 = 1)) mp ++ emp))) : finK n S (.ok q) g = .ok (g (opt (decide (n / 128 = 1)) u) (opt (decide (n / 64 % 2 = 1)) pw)) := by
 unfold finK userS passS
 have key : ∀ q,At S q (opt (decide (n / 64 % 2 = 1)) mp ++ emp) → ∃ q',(if n / 64 % 2 = 1 then binS S (.ok q) else (emp,.ok q)) = (opt (decide (n / 64 % 2 = 1)) pw,.ok q') ∧ endS S (.ok q') = none := by
  intro q h
  by_cases h2 : n / 64 % 2 = 1
  ·simp only [h2,opt,decide_true,if_true] at h ⊢
   have := h.bin (hp h2)
   exact ⟨_,this.1,endS_fin this.2⟩
  ·simp only [h2,opt,decide_false,if_false,Bool.false_eq_true] at h ⊢
   rw [emp_app'] at h
   exact ⟨_,rfl,endS_fin h⟩
 by_cases h1 : n / 128 = 1
 ·simp only [h1,opt,decide_true,if_true] at h ⊢
  have := h.text (hu h1)
  rw [this.1]
  obtain ⟨q',e1,e2⟩ := key _ this.2
  simp only [opt] at e1
  simp only [e1,e2]
 ·simp only [h1,opt,decide_false,if_false,Bool.false_eq_true] at h ⊢
  rw [emp_app'] at h
  obtain ⟨q',e1,e2⟩ := key _ h
  simp only [opt] at e1
  simp only [e1,e2]
def willB (n : Nat) (c mt mp : ByteArray) : ByteArray := opt (decide (n / 4 % 2 = 1)) (c ++ (mt ++ mp))
theorem willK_val {n : Nat} {S t wp mt mwp c u pw mu mp : ByteArray} {q : Nat} {m : List Pr} {g : Wl → ByteArray → ByteArray → Pk} (hc : n / 4 % 2 = 1 → encP 16 m = .ok c) (hz : c.size ≤ 700000) (ht : n / 4 % 2 = 1 → textW t = .inl mt) (hw : n / 4 % 2 = 1 → binW wp = .inl mwp)
  (hu : n / 128 = 1 → textW u = .inl mu) (hp : n / 64 % 2 = 1 → binW pw = .inl mp)
  (h : At S q (willB n c mt mwp ++ (opt (decide (n / 128 = 1)) mu ++ (opt (decide (n / 64 % 2 = 1)) mp ++ emp)))) :
  willK n S (.ok q) g (.ok (g (if n / 4 % 2 = 1 then coW n t wp (m.map plainP) else wlz) (opt (decide (n / 128 = 1)) u) (opt (decide (n / 64 % 2 = 1)) pw))) := by
 unfold willK willB at *
 by_cases h4 : n / 4 % 2 = 1
 ·rw [if_pos h4,if_pos h4]
  have e : opt (decide (n / 4 % 2 = 1)) (c ++ (mt ++ mwp)) = c ++ (mt ++ mwp) := by simp [opt,h4]
  rw [e] at h
  simp only [app_assoc] at h
  have a1 := h.props (hc h4) hz
  have a2 := a1.2.text (ht h4)
  have a3 := a2.2.bin (hw h4)
  refine ⟨_,a1.1,?_⟩
  simp only
  rw [a2.1]
  simp only
  rw [a3.1]
  exact (finK_val hu hp a3.2).symm
 ·rw [if_neg h4,if_neg h4]
  have e : opt (decide (n / 4 % 2 = 1)) (c ++ (mt ++ mwp)) = emp := by simp [opt,h4]
  rw [e,emp_app'] at h
  exact (finK_val hu hp h).symm
def coAll (n keep : Nat) (c1 mc c2 mt mwp mu mp : ByteArray) : ByteArray := (numB 4 2 ++ mqtt) ++ (numB 5 1 ++ (numB n 1 ++ (numB keep 2 ++ (c1 ++ (mc ++ (willB n c2 mt mwp ++ (opt (decide (n / 128 = 1)) mu ++ (opt (decide (n / 64 % 2 = 1)) mp ++ emp))))))))
theorem decK_val {n keep : Nat} {l m : List Pr} {cl t wp u pw c1 mc c2 mt mwp mu mp : ByteArray} (hn : n < 256) (hk : keep < 65536) (h1 : encP 1 l = .ok c1) (z1 : c1.size ≤ 700000) (hcl : textW cl = .inl mc)
  (hc : n / 4 % 2 = 1 → encP 16 m = .ok c2) (hz : c2.size ≤ 700000) (ht : n / 4 % 2 = 1 → textW t = .inl mt) (hw : n / 4 % 2 = 1 → binW wp = .inl mwp)
  (hu : n / 128 = 1 → textW u = .inl mu) (hp : n / 64 % 2 = 1 → binW pw = .inl mp) :
  DecK 16 (coAll n keep c1 mc c2 mt mwp mu mp) (if flBad n then .error (2,129,7) else .ok (coP n keep (l.map plainP) cl (if n / 4 % 2 = 1 then coW n t wp (m.map plainP) else wlz) (opt (decide (n / 128 = 1)) u) (opt (decide (n / 64 % 2 = 1)) pw))) := by
 generalize hS : coAll n keep c1 mc c2 mt mwp mu mp = S
 have a0 : At S 0 (coAll n keep c1 mc c2 mt mwp mu mp) := by rw [hS]; exact At.zero S
 unfold coAll at a0
 have a1 := a0.text mqtt_w
 have a2 := a1.2.u8 (by omega)
 have a3 := a2.2.u8 hn
 have a4 := a3.2.u16 hk
 have a5 := a4.2.props h1 z1
 have a6 := a5.2.text hcl
 have hh : headS S = if flBad n then .error (2,129,7) else .ok (n,0 + (numB 4 2 ++ mqtt).size + 1 + 1) := by
  unfold headS headK
  rw [a1.1]
  simp only
  rw [a2.1]
  simp only
  rw [a3.1]
  simp only [okP,ne_eq,not_true,and_false,if_false]
 unfold DecK
 rw [if_neg (by simp),hh]
 by_cases hb : flBad n
 ·rw [if_pos hb,if_pos hb]
 ·rw [if_neg hb,if_neg hb]
  simp only
  rw [a4.1]
  refine ⟨_,a5.1,?_⟩
  simp only
  rw [a6.1]
  exact willK_val (g := coP n keep (l.map plainP) cl) hc hz ht hw hu hp a6.2
def coB (p : Pk) : Pk := { pkz with kind := 1,clean := p.clean,keep := p.keep,props := p.props.map plainP,client := p.client,will := if p.will.has then { p.will with props := p.will.props.map plainP } else wlz,hasU := p.hasU,user := opt p.hasU p.user,hasP := p.hasP,pass := opt p.hasP p.pass }
theorem bit_at (b : Bool) (k : Int) : ∃ x : Int,(if b = true then k else 0) = k * x ∧ (x = 0 ∨ x = 1) ∧ b = decide (x = 1) := by
 cases b with
 | true => exact ⟨1,by simp,.inr rfl,rfl⟩
 | false => exact ⟨0,by simp,.inl rfl,rfl⟩
theorem flags_at {p : Pk} {n : Nat} (h : flagsI p = n) (hq : p.will.has = true → ¬ (p.will.qos < 0 ∨ 3 < p.will.qos)) :
  n < 256 ∧ decide (n / 2 % 2 = 1) = p.clean ∧ decide (n / 128 = 1) = p.hasU ∧ decide (n / 64 % 2 = 1) = p.hasP ∧ decide (n / 4 % 2 = 1) = p.will.has ∧ (p.will.has = true → ((n / 8 % 4 : Nat) : Int) = p.will.qos ∧ decide (n / 32 % 2 = 1) = p.will.ret) := by
 unfold flagsI bI at h
 obtain ⟨x1,e1,c1,b1⟩ := bit_at p.clean 2
 obtain ⟨x2,e2,c2,b2⟩ := bit_at p.hasU 128
 obtain ⟨x3,e3,c3,b3⟩ := bit_at p.hasP 64
 obtain ⟨x5,e5,c5,b5⟩ := bit_at p.will.ret 32
 rw [e1,e2,e3,e5] at h
 rw [b1,b2,b3,b5]
 cases hw : p.will.has with
 | true =>
  have hq' := hq hw
  rw [hw] at h
  simp only [if_true] at h
  refine ⟨by omega,decide_eq_decide.2 (by omega),decide_eq_decide.2 (by omega),decide_eq_decide.2 (by omega),by simp only [decide_eq_true_eq]; omega,fun _ => ⟨by omega,decide_eq_decide.2 (by omega)⟩⟩
 | false =>
  rw [hw] at h
  simp only [Bool.false_eq_true,if_false] at h
  refine ⟨by omega,decide_eq_decide.2 (by omega),decide_eq_decide.2 (by omega),decide_eq_decide.2 (by omega),by simp only [decide_eq_false_iff_not]; omega,fun h => by cases h⟩
theorem flags_of {n : Nat} (hn : n < 256) (hb : ¬ flBad n) {p : Pk} (h1 : p.clean = decide (n / 2 % 2 = 1)) (h2 : p.hasU = decide (n / 128 = 1)) (h3 : p.hasP = decide (n / 64 % 2 = 1)) (h4 : p.will.has = decide (n / 4 % 2 = 1)) (h5 : n / 4 % 2 = 1 → p.will.qos = (n / 8 % 4 : Nat) ∧ p.will.ret = decide (n / 32 % 2 = 1)) : flagsI p = n := by
 unfold flagsI bI
 rw [h1,h2,h3,h4]
 unfold flBad at hb
 have e1 : (if decide (n / 2 % 2 = 1) = true then (2 : Int) else 0) = 2 * (n / 2 % 2 : Nat) := by simp only [decide_eq_true_eq]; split <;> omega
 have e2 : (if decide (n / 128 = 1) = true then (128 : Int) else 0) = 128 * (n / 128 : Nat) := by simp only [decide_eq_true_eq]; split <;> omega
 have e3 : (if decide (n / 64 % 2 = 1) = true then (64 : Int) else 0) = 64 * (n / 64 % 2 : Nat) := by simp only [decide_eq_true_eq]; split <;> omega
 rw [e1,e2,e3]
 by_cases g : n / 4 % 2 = 1
 ·have e5 : (if decide (n / 32 % 2 = 1) = true then (32 : Int) else 0) = 32 * (n / 32 % 2 : Nat) := by simp only [decide_eq_true_eq]; split <;> omega
  rw [(h5 g).1,(h5 g).2,e5,if_pos (by simpa using g)]
  omega
 ·rw [if_neg (by simpa using g)]
  omega
theorem catW_opt {b : Bool} {l k : List Act} {c : ByteArray} (h : catW ((if b = true then l else []) ++ k) = some c) : ∃ x y,(b = true → catW l = some x) ∧ catW k = some y ∧ c = opt b x ++ y := by
 cases b with
 | true =>
  obtain ⟨x,y,h1,h2,rfl⟩ := catW_split h
  exact ⟨x,y,fun _ => h1,h2,rfl⟩
 | false => exact ⟨emp,c,(fun h => by cases h),h,by simp only [opt,Bool.false_eq_true,if_false]; rw [emp_app']⟩
theorem catW_optI {b : Bool} {l k : List Act} {x y : ByteArray} (h1 : b = true → catW l = some x) (h2 : catW k = some y) : catW ((if b = true then l else []) ++ k) = some (opt b x ++ y) := by
 cases b with
 | true => exact catW_app (h1 rfl) h2
 | false => simp only [opt,Bool.false_eq_true,if_false,List.nil_append]; rw [emp_app']; exact h2
theorem catW_nil (l : List Act) : l = l ++ [] := (List.append_nil l).symm
theorem actsK_cat {p : Pk} {s : ByteArray × ByteArray} {b : ByteArray} (hq : p.will.has = true → ¬ (p.will.qos < 0 ∨ 3 < p.will.qos)) (h : catW (actsK p s) = some b) : ∃ (n keep : Nat) (mc mt mwp mu mp : ByteArray),flagsI p = n ∧ n < 256 ∧ p.keep = keep ∧ keep < 65536 ∧ textW p.client = .inl mc ∧
  (p.will.has = true → textW p.will.topic = .inl mt ∧ binW p.will.pay = .inl mwp) ∧ (p.hasU = true → textW p.user = .inl mu) ∧ (p.hasP = true → binW p.pass = .inl mp) ∧ b = coAll n keep s.1 mc s.2 mt mwp mu mp := by
 unfold actsK at h
 simp only [List.cons_append,List.nil_append] at h
 obtain ⟨m1,x1,g1,q1,rfl⟩ := catW_cons h
 obtain ⟨m2,x2,g2,q2,rfl⟩ := catW_cons q1
 obtain ⟨m3,x3,g3,q3,rfl⟩ := catW_cons q2
 obtain ⟨m4,x4,g4,q4,rfl⟩ := catW_cons q3
 obtain ⟨m5,x5,g5,q5,rfl⟩ := catW_cons q4
 obtain ⟨m6,x6,g6,q6,rfl⟩ := catW_cons q5
 rw [catW_nil (if p.hasP = true then [(⟨7,0,p.pass⟩ : Act)] else [])] at q6
 obtain ⟨x7,y7,g7,q7,rfl⟩ := catW_opt q6
 obtain ⟨x8,y8,g8,q8,rfl⟩ := catW_opt q7
 obtain ⟨x9,y9,g9,q9,rfl⟩ := catW_opt q8
 simp only [catW,Option.some.injEq] at q9
 subst q9
 clear h q1 q2 q3 q4 q5 q6 q7 q8
 obtain ⟨n,e1,e2,rfl⟩ := inv1 g3
 obtain ⟨keep,e3,e4,rfl⟩ := inv2 g4
 obtain ⟨five,e5,e6,rfl⟩ := inv1 g2
 obtain rfl : five = 5 := by omega
 have := inv8 g5
 subst this
 have hm : m1 = numB 4 2 ++ mqtt := by
  have h : textW mqtt = .inl m1 := g1
  rw [mqtt_w] at h
  injection h with h
  exact h.symm
 subst hm
 obtain ⟨f1,f2,f3,f4,f5,f6⟩ := flags_at e1 hq
 have hw : ∃ mt mwp,(p.will.has = true → textW p.will.topic = .inl mt ∧ binW p.will.pay = .inl mwp) ∧ opt p.will.has x7 = willB n s.2 mt mwp := by
  by_cases hh : p.will.has = true
  ·obtain ⟨n1,r1,k1,q1,hx7⟩ := catW_cons (g7 hh)
   obtain ⟨n2,r2,k2,q2,rfl⟩ := catW_cons q1
   obtain ⟨n3,r3,k3,q3,rfl⟩ := catW_cons q2
   simp only [catW,Option.some.injEq] at q3
   subst q3
   have := inv8 k1
   subst this
   exact ⟨n2,n3,fun _ => ⟨k2,k3⟩,by unfold willB; rw [f5,hx7,app_emp']⟩
  ·exact ⟨emp,emp,fun h => absurd h hh,by unfold willB; rw [f5]; simp only [opt,if_neg hh]⟩
 obtain ⟨mt,mwp,w1,w2⟩ := hw
 have one : ∀ {b : Bool} {a : Act} {x : ByteArray},(b = true → catW [a] = some x) → ∃ m,(b = true → actW a = .inl m) ∧ opt b x = opt b m := by
  intro b a x h
  by_cases hb : b = true
  ·obtain ⟨m,r,k1,k2,k3⟩ := catW_cons (h hb)
   simp only [catW,Option.some.injEq] at k2
   subst k2
   exact ⟨m,fun _ => k1,by rw [k3,app_emp']⟩
  ·exact ⟨emp,fun h => absurd h hb,by simp only [opt,if_neg hb]⟩
 obtain ⟨mu,u1,u2⟩ := one g8
 obtain ⟨mp,p1,p2⟩ := one g9
 refine ⟨n,keep,m6,mt,mwp,mu,mp,e1,e2,e3,e4,g6,w1,u1,p1,?_⟩
 unfold coAll
 rw [w2,u2,p2,f3,f4]
end Go.Proofs.YtjkhhdknplelcaaGreatDoor.AbsB
