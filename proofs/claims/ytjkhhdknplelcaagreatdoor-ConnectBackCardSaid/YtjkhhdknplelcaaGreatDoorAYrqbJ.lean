/-
  Parts of a law's proof.
-/
import Derived.Test.YtjkhhdknplelcaaGreatDoorAPrqeJ
import Derived.Test.YtjkhhdknplelcaaGreatDoorAPraJ
import Derived.Test.YtjkhhdknplelcaaGreatDoorAFwqdJ
import Derived.Test.YtjkhhdknplelcaaGreatDoorAFrqbJ
namespace Go.Proofs.YtjkhhdknplelcaaGreatDoor.AbsB
open Go AbsYtjkhhdknplelcaaGreatDoor Abs
set_option maxRecDepth 100000
set_option maxHeartbeats 2000000
set_option linter.unusedSimpArgs false
set_option linter.unusedVariables false
attribute [local irreducible] afterS afterOpS opSK OpsS TrS CodeS condS condW thenS thenQ guardS guardTS outS drawS trSK consS
section
variable {σ : AHeap} {Q : Value → AHeap → Prop} {r p : Nat} {s : ByteArray}
theorem rawR_k {n : Int} {k q : Nat} (h : rawR s p n = .error (k,q)) : k ≠ 0 := by
 unfold rawR at h
 split at h
 ·simp only [Except.error.injEq,Prod.mk.injEq] at h; omega
 split at h
 ·simp only [Except.error.injEq,Prod.mk.injEq] at h; omega
 ·cases h
theorem numR_k {m k q : Nat} (h : numR s p m = .error (k,q)) : k ≠ 0 := by
 unfold numR at h
 cases hb : rawR s p (m : Int) with
 | ok a => rw [hb] at h; cases h
 | error e => obtain ⟨j,q'⟩ := e; rw [hb] at h; simp only [Except.error.injEq,Prod.mk.injEq] at h; have := rawR_k hb; omega
end
section
variable {σ : AHeap} {Q : Value → AHeap → Prop} {r p : Nat} {s : ByteArray}
theorem varR_k {k q : Nat} (h : varR s p = .error (k,q)) : k ≠ 0 := by
 unfold varR at h
 cases ht : takeF (s.extract p s.size) 4 0 0 with
 | inl a => obtain ⟨m,j⟩ := a; rw [ht] at h; cases h
 | inr e => obtain ⟨j,q'⟩ := e; rw [ht] at h; simp only [Except.error.injEq,Prod.mk.injEq] at h; omega
theorem textR_k {k q : Nat} (h : textR s p = .error (k,q)) : k ≠ 0 := by
 unfold textR at h
 cases hb : binR s p with
 | error e =>
  obtain ⟨j,q'⟩ := e
  rw [hb] at h
  simp only [Except.error.injEq,Prod.mk.injEq] at h
  unfold binR at hb
  cases hn : numR s p 2 with
  | ok a => obtain ⟨n,q2⟩ := a; rw [hn] at hb; have := rawR_k hb; omega
  | error e => obtain ⟨j2,q2⟩ := e; rw [hn] at hb; simp only [Except.error.injEq,Prod.mk.injEq] at hb; have := numR_k hn; omega
 | ok a =>
  obtain ⟨b,q'⟩ := a
  rw [hb] at h
  simp only at h
  cases ht : textF b with
  | inl m => rw [ht] at h; cases h
  | inr e => obtain ⟨j,i⟩ := e; rw [ht] at h; simp only [Except.error.injEq,Prod.mk.injEq] at h; omega
theorem rdA_k {T : Int} {k q : Nat} (h : rdA T s p = .error (k,q)) : k ≠ 0 := by
 unfold rdA at h
 have mN : ∀ r : Rd Nat,mapN r = .error (k,q) → r = .error (k,q) := by
  intro r hr
  unfold mapN at hr
  split at hr
  ·cases hr
  ·simp only [Except.error.injEq] at hr ⊢; exact hr
 have mS : ∀ r : Rd ByteArray,mapS r = .error (k,q) → r = .error (k,q) := by
  intro r hr
  unfold mapS at hr
  split at hr
  ·cases hr
  ·simp only [Except.error.injEq] at hr ⊢; exact hr
 split at h
 ·exact numR_k (mN _ h)
 split at h
 ·exact numR_k (mN _ h)
 split at h
 ·exact numR_k (mN _ h)
 split at h
 ·exact varR_k (mN _ h)
 split at h
 ·exact textR_k (mS _ h)
 ·have h := mS _ h
  unfold binR at h
  cases hn : numR s p 2 with
  | ok a => obtain ⟨n,q2⟩ := a; rw [hn] at h; exact rawR_k h
  | error e => obtain ⟨j2,q2⟩ := e; rw [hn] at h; simp only [Except.error.injEq,Prod.mk.injEq] at h; have := numR_k hn; omega
end
section
variable {σ : AHeap} {Q : Value → AHeap → Prop} {r p : Nat} {s : ByteArray}
end
set_option maxHeartbeats 4000000
section
variable {σ : AHeap} {Q : Value → AHeap → Prop} {r p : Nat} {s : ByteArray}
theorem nd {τ : AHeap} {b x : Nat} {o : AObj} (hb : τ.get b = .dead) (hx : τ.get x = o) (ho : o ≠ .dead) : b ≠ x := by rintro rfl; rw [hx] at hb; exact ho hb
end
end Go.Proofs.YtjkhhdknplelcaaGreatDoor.AbsB
namespace Go.Proofs.YtjkhhdknplelcaaGreatDoor.AbsB
open Go AbsYtjkhhdknplelcaaGreatDoor Abs
set_option maxRecDepth 100000
set_option maxHeartbeats 4000000
set_option linter.unusedSimpArgs false
set_option linter.unusedVariables false
structure Sb where
 f : ByteArray
 q : Int
 nl : Bool
 ai : Bool
 rt : Int
def subC (x : Sb) : List Value := [.string x.f,.int .i64 x.q,.bool x.nl,.bool x.ai,.int .i64 x.rt]
structure Wl where
 has : Bool
 topic : ByteArray
 pay : ByteArray
 qos : Int
 ret : Bool
 props : List Pr
structure Pk where
 kind : Int
 id : Int
 rea : Int
 props : List Pr
 clean : Bool
 keep : Int
 client : ByteArray
 will : Wl
 hasU : Bool
 user : ByteArray
 hasP : Bool
 pass : ByteArray
 present : Bool
 topic : ByteArray
 pay : ByteArray
 qos : Int
 ret : Bool
 dup : Bool
 subs : List Sb
 filts : List ByteArray
 codes : List Int
def strC1 (s : ByteArray) : List Value := [.string s]
def wlC (w : Wl) (vw : Value) : List Value := [.bool w.has,.string w.topic,.string w.pay,.int .i64 w.qos,.bool w.ret,vw]
def pkC (p : Pk) (vp vw vs vf vc : Value) : List Value := [.int .i64 p.kind,.int .i64 p.id,.int .i64 p.rea,vp,.bool p.clean,.int .i64 p.keep,.string p.client,.bool p.will.has,.string p.will.topic,.string p.will.pay,.int .i64 p.will.qos,.bool p.will.ret,vw,.bool p.hasU,.string p.user,.bool p.hasP,.string p.pass,.bool p.present,.string p.topic,.string p.pay,.int .i64 p.qos,.bool p.ret,.bool p.dup,vs,vf,vc]
def PkV (p : Pk) (v : Value) : Prop := ∃ vp vw vs vf vc,DL propC 4 vp p.props ∧ DL propC 4 vw p.will.props ∧ DL subC 5 vs p.subs ∧ DL strC1 1 vf p.filts ∧ DL intC 1 vc p.codes ∧ v = .agg ⟨pkC p vp vw vs vf vc⟩
theorem typed_b {H : AHeap} {d : Nat} {xs : List Value} (h : Typed E H d 4 xs) : ∃ b,xs = [.bool b] := by
 cases d with
 | zero => exact h.elim
 | succ d => simpa only [Typed,ty4] using h
theorem typedL_pr {H : AHeap} {d : Nat} {xs : List Value} (h : Typed E H d 22 xs) : ∃ v l,xs = [v] ∧ DL propC 4 v (l : List Pr) ∧ frz E.ng E.nb v = true := by
 cases d with
 | zero => exact h.elim
 | succ d =>
  simp only [Typed,ty22] at h
  rcases h with rfl | ⟨h2,_⟩ | ⟨_,n,j,cs,hj,rfl,hl,hk⟩
  ·exact ⟨_,[],rfl,.inl ⟨rfl,rfl⟩,frz_nils⟩
  ·cases h2
  ·rw [ty104] at hj; injection hj with hj; subst hj
   obtain ⟨l,h3,h4⟩ := chunks (enc := propC) (fun a => rfl) n cs hl fun k hk' => typed_pr (hk k hk')
   exact ⟨_,l,rfl,.inr ⟨0,by rw [h3,← h4]⟩,by rw [frz_dsl]; rfl⟩
theorem typedL_s {H : AHeap} {d : Nat} {xs : List Value} (h : Typed E H d 26 xs) : ∃ v l,xs = [v] ∧ DL strC1 1 v (l : List ByteArray) ∧ frz E.ng E.nb v = true := by
 cases d with
 | zero => exact h.elim
 | succ d =>
  simp only [Typed,ty26] at h
  rcases h with rfl | ⟨h2,_⟩ | ⟨_,n,j,cs,hj,rfl,hl,hk⟩
  ·exact ⟨_,[],rfl,.inl ⟨rfl,rfl⟩,frz_nils⟩
  ·cases h2
  ·rw [ty9] at hj; injection hj with hj; subst hj
   obtain ⟨l,h3,h4⟩ := chunks (enc := strC1) (fun a => rfl) n cs hl fun k hk' => by obtain ⟨s,hs,_⟩ := typed_str (hk k hk'); exact ⟨s,hs⟩
   exact ⟨_,l,rfl,.inr ⟨0,by rw [h3,← h4]⟩,by rw [frz_dsl]; rfl⟩
theorem typedL_i {H : AHeap} {d : Nat} {xs : List Value} (h : Typed E H d 27 xs) : ∃ v l,xs = [v] ∧ DL intC 1 v (l : List Int) ∧ frz E.ng E.nb v = true := by
 cases d with
 | zero => exact h.elim
 | succ d =>
  simp only [Typed,ty27] at h
  rcases h with rfl | ⟨h2,_⟩ | ⟨_,n,j,cs,hj,rfl,hl,hk⟩
  ·exact ⟨_,[],rfl,.inl ⟨rfl,rfl⟩,frz_nils⟩
  ·cases h2
  ·rw [ty3] at hj; injection hj with hj; subst hj
   obtain ⟨l,h3,h4⟩ := chunks (enc := intC) (fun a => rfl) n cs hl fun k hk' => by obtain ⟨s,hs,_⟩ := typed_int (hk k hk'); exact ⟨s,hs⟩
   exact ⟨_,l,rfl,.inr ⟨0,by rw [h3,← h4]⟩,by rw [frz_dsl]; rfl⟩
theorem typed_sb {H : AHeap} {d : Nat} {xs : List Value} (h : Typed E H d 50 xs) : ∃ a : Sb,xs = subC a := by
 cases d with
 | zero => exact h.elim
 | succ d =>
  simp only [Typed,ty50] at h
  obtain ⟨hl,hp⟩ := h
  match xs,hl with
  | [x0,x1,x2,x3,x4],_ =>
   obtain ⟨j,j1,j2⟩ := hp (0,9,false) (by simp)
   rw [ty9] at j1; injection j1 with j1; subst j1
   obtain ⟨af,eaf,_⟩ := typed_str (by simpa using j2)
   obtain ⟨j,j1,j2⟩ := hp (1,3,false) (by simp)
   rw [ty3] at j1; injection j1 with j1; subst j1
   obtain ⟨aq,eaq,_⟩ := typed_int (by simpa using j2)
   obtain ⟨j,j1,j2⟩ := hp (2,4,false) (by simp)
   rw [ty4] at j1; injection j1 with j1; subst j1
   obtain ⟨anl,eanl⟩ := typed_b (by simpa using j2)
   obtain ⟨j,j1,j2⟩ := hp (3,4,false) (by simp)
   rw [ty4] at j1; injection j1 with j1; subst j1
   obtain ⟨aai,eaai⟩ := typed_b (by simpa using j2)
   obtain ⟨j,j1,j2⟩ := hp (4,3,false) (by simp)
   rw [ty3] at j1; injection j1 with j1; subst j1
   obtain ⟨art,eart,_⟩ := typed_int (by simpa using j2)
   simp only [List.cons.injEq,and_true] at eaf eaq eanl eaai eart
   exact ⟨⟨af,aq,anl,aai,art⟩,by rw [eaf,eaq,eanl,eaai,eart]; rfl⟩
theorem typedL_sb {H : AHeap} {d : Nat} {xs : List Value} (h : Typed E H d 25 xs) : ∃ v l,xs = [v] ∧ DL subC 5 v (l : List Sb) ∧ frz E.ng E.nb v = true := by
 cases d with
 | zero => exact h.elim
 | succ d =>
  simp only [Typed,ty25] at h
  rcases h with rfl | ⟨h2,_⟩ | ⟨_,n,j,cs,hj,rfl,hl,hk⟩
  ·exact ⟨_,[],rfl,.inl ⟨rfl,rfl⟩,frz_nils⟩
  ·cases h2
  ·rw [ty50] at hj; injection hj with hj; subst hj
   obtain ⟨l,h3,h4⟩ := chunks (enc := subC) (fun a => rfl) n cs hl fun k hk' => typed_sb (hk k hk')
   exact ⟨_,l,rfl,.inr ⟨0,by rw [h3,← h4]⟩,by rw [frz_dsl]; rfl⟩
theorem typed_wl {H : AHeap} {d : Nat} {xs : List Value} (h : Typed E H d 24 xs) : ∃ (w : Wl) (vw : Value),DL propC 4 vw w.props ∧ xs = wlC w vw ∧ frz E.ng E.nb vw = true := by
 cases d with
 | zero => exact h.elim
 | succ d =>
  simp only [Typed,ty24] at h
  obtain ⟨hl,hp⟩ := h
  match xs,hl with
  | [x0,x1,x2,x3,x4,x5],_ =>
   obtain ⟨j,j1,j2⟩ := hp (0,4,false) (by simp)
   rw [ty4] at j1; injection j1 with j1; subst j1
   obtain ⟨ahas,eahas⟩ := typed_b (by simpa using j2)
   obtain ⟨j,j1,j2⟩ := hp (1,9,false) (by simp)
   rw [ty9] at j1; injection j1 with j1; subst j1
   obtain ⟨atopic,eatopic,_⟩ := typed_str (by simpa using j2)
   obtain ⟨j,j1,j2⟩ := hp (2,9,false) (by simp)
   rw [ty9] at j1; injection j1 with j1; subst j1
   obtain ⟨apay,eapay,_⟩ := typed_str (by simpa using j2)
   obtain ⟨j,j1,j2⟩ := hp (3,3,false) (by simp)
   rw [ty3] at j1; injection j1 with j1; subst j1
   obtain ⟨aqos,eaqos,_⟩ := typed_int (by simpa using j2)
   obtain ⟨j,j1,j2⟩ := hp (4,4,false) (by simp)
   rw [ty4] at j1; injection j1 with j1; subst j1
   obtain ⟨aret,earet⟩ := typed_b (by simpa using j2)
   obtain ⟨j,j1,j2⟩ := hp (5,22,false) (by simp)
   rw [ty22] at j1; injection j1 with j1; subst j1
   obtain ⟨vaprops,aprops,eaprops,daprops,zaprops⟩ := typedL_pr (by simpa using j2)
   simp only [List.cons.injEq,and_true] at eahas eatopic eapay eaqos earet eaprops
   exact ⟨⟨ahas,atopic,apay,aqos,aret,aprops⟩,vaprops,daprops,by rw [eahas,eatopic,eapay,eaqos,earet,eaprops]; rfl,zaprops⟩
theorem typed_pk {H : AHeap} {d : Nat} {v : Value} (h : ArgTyped E H d 29 v) : ∃ p : Pk,PkV p v ∧ ∀ cs,v = .agg ⟨cs⟩ → frzL E.ng E.nb cs = true := by
 obtain ⟨xs,h1,rfl⟩ := h.agg ty29 rfl
 cases d with
 | zero => exact h1.elim
 | succ d =>
  simp only [Typed,ty29] at h1
  obtain ⟨hl,hp⟩ := h1
  match xs,hl with
  | [x0,x1,x2,x3,x4,x5,x6,x7,x8,x9,x10,x11,x12,x13,x14,x15,x16,x17,x18,x19,x20,x21,x22,x23,x24,x25],_ =>
   obtain ⟨j,j1,j2⟩ := hp (0,3,false) (by simp)
   rw [ty3] at j1; injection j1 with j1; subst j1
   obtain ⟨akind,eakind,_⟩ := typed_int (by simpa using j2)
   obtain ⟨j,j1,j2⟩ := hp (1,3,false) (by simp)
   rw [ty3] at j1; injection j1 with j1; subst j1
   obtain ⟨aid,eaid,_⟩ := typed_int (by simpa using j2)
   obtain ⟨j,j1,j2⟩ := hp (2,3,false) (by simp)
   rw [ty3] at j1; injection j1 with j1; subst j1
   obtain ⟨area,earea,_⟩ := typed_int (by simpa using j2)
   obtain ⟨j,j1,j2⟩ := hp (3,22,false) (by simp)
   rw [ty22] at j1; injection j1 with j1; subst j1
   obtain ⟨vaprops,aprops,eaprops,daprops,zaprops⟩ := typedL_pr (by simpa using j2)
   obtain ⟨j,j1,j2⟩ := hp (4,4,false) (by simp)
   rw [ty4] at j1; injection j1 with j1; subst j1
   obtain ⟨aclean,eaclean⟩ := typed_b (by simpa using j2)
   obtain ⟨j,j1,j2⟩ := hp (5,3,false) (by simp)
   rw [ty3] at j1; injection j1 with j1; subst j1
   obtain ⟨akeep,eakeep,_⟩ := typed_int (by simpa using j2)
   obtain ⟨j,j1,j2⟩ := hp (6,9,false) (by simp)
   rw [ty9] at j1; injection j1 with j1; subst j1
   obtain ⟨aclient,eaclient,_⟩ := typed_str (by simpa using j2)
   obtain ⟨j,j1,j2⟩ := hp (7,24,false) (by simp)
   rw [ty24] at j1; injection j1 with j1; subst j1
   obtain ⟨w,vw,dw,ew,zw⟩ := typed_wl (by simpa using j2)
   obtain ⟨j,j1,j2⟩ := hp (13,4,false) (by simp)
   rw [ty4] at j1; injection j1 with j1; subst j1
   obtain ⟨ahasU,eahasU⟩ := typed_b (by simpa using j2)
   obtain ⟨j,j1,j2⟩ := hp (14,9,false) (by simp)
   rw [ty9] at j1; injection j1 with j1; subst j1
   obtain ⟨auser,eauser,_⟩ := typed_str (by simpa using j2)
   obtain ⟨j,j1,j2⟩ := hp (15,4,false) (by simp)
   rw [ty4] at j1; injection j1 with j1; subst j1
   obtain ⟨ahasP,eahasP⟩ := typed_b (by simpa using j2)
   obtain ⟨j,j1,j2⟩ := hp (16,9,false) (by simp)
   rw [ty9] at j1; injection j1 with j1; subst j1
   obtain ⟨apass,eapass,_⟩ := typed_str (by simpa using j2)
   obtain ⟨j,j1,j2⟩ := hp (17,4,false) (by simp)
   rw [ty4] at j1; injection j1 with j1; subst j1
   obtain ⟨apresent,eapresent⟩ := typed_b (by simpa using j2)
   obtain ⟨j,j1,j2⟩ := hp (18,9,false) (by simp)
   rw [ty9] at j1; injection j1 with j1; subst j1
   obtain ⟨atopic,eatopic,_⟩ := typed_str (by simpa using j2)
   obtain ⟨j,j1,j2⟩ := hp (19,9,false) (by simp)
   rw [ty9] at j1; injection j1 with j1; subst j1
   obtain ⟨apay,eapay,_⟩ := typed_str (by simpa using j2)
   obtain ⟨j,j1,j2⟩ := hp (20,3,false) (by simp)
   rw [ty3] at j1; injection j1 with j1; subst j1
   obtain ⟨aqos,eaqos,_⟩ := typed_int (by simpa using j2)
   obtain ⟨j,j1,j2⟩ := hp (21,4,false) (by simp)
   rw [ty4] at j1; injection j1 with j1; subst j1
   obtain ⟨aret,earet⟩ := typed_b (by simpa using j2)
   obtain ⟨j,j1,j2⟩ := hp (22,4,false) (by simp)
   rw [ty4] at j1; injection j1 with j1; subst j1
   obtain ⟨adup,eadup⟩ := typed_b (by simpa using j2)
   obtain ⟨j,j1,j2⟩ := hp (23,25,false) (by simp)
   rw [ty25] at j1; injection j1 with j1; subst j1
   obtain ⟨vasubs,asubs,easubs,dasubs,zasubs⟩ := typedL_sb (by simpa using j2)
   obtain ⟨j,j1,j2⟩ := hp (24,26,false) (by simp)
   rw [ty26] at j1; injection j1 with j1; subst j1
   obtain ⟨vafilts,afilts,eafilts,dafilts,zafilts⟩ := typedL_s (by simpa using j2)
   obtain ⟨j,j1,j2⟩ := hp (25,27,false) (by simp)
   rw [ty27] at j1; injection j1 with j1; subst j1
   obtain ⟨vacodes,acodes,eacodes,dacodes,zacodes⟩ := typedL_i (by simpa using j2)
   simp only [List.cons.injEq,and_true,wlC] at ew eakind eaid earea eaprops eaclean eakeep eaclient eahasU eauser eahasP eapass eapresent eatopic eapay eaqos earet eadup easubs eafilts eacodes
   obtain ⟨w0,w1,w2,w3,w4,w5⟩ := ew
   subst eakind eaid earea eaprops eaclean eakeep eaclient eahasU eauser eahasP eapass eapresent eatopic eapay eaqos earet eadup easubs eafilts eacodes w0 w1 w2 w3 w4 w5
   refine ⟨⟨akind,aid,area,aprops,aclean,akeep,aclient,w,ahasU,auser,ahasP,apass,apresent,atopic,apay,aqos,aret,adup,asubs,afilts,acodes⟩,⟨_,_,_,_,_,daprops,dw,dasubs,dafilts,dacodes,rfl⟩,?_⟩
   intro cs hcs
   have hcs2 := congrArg (fun v => match v with | Value.agg ⟨xs⟩ => xs | _ => []) hcs
   simp only [] at hcs2
   rw [← hcs2]
   simp only [frzL,frz_int,frz_bool,frz_str,zaprops,zw,zasubs,zafilts,zacodes,Bool.and_self]
attribute [local irreducible] afterS afterOpS opSK OpsS TrS CodeS condS condW thenS thenQ guardS guardTS outS drawS trSK consS
section
variable {σ : AHeap} {Q : Value → AHeap → Prop}
theorem DLsb.len {v : Value} {l : List Sb} (h : DL subC 5 v l) (σ : AHeap) : abuiltin E σ .len [25] [v] = some (.int .i64 (l.length : Int),σ) := by
 rcases h with ⟨rfl,rfl⟩ | ⟨m,rfl⟩ <;> rfl
theorem DLsb.at {v : Value} {l : List Sb} (h : DL subC 5 v l) {i : Nat} (hi : i < l.length) : aindexAddr E 25 v (.int .i64 (i : Int)) = some (dptr (subC l[i] ++ (l.drop (i + 1)).flatMap subC)) := by
 rcases h with ⟨rfl,rfl⟩ | ⟨m,rfl⟩
 ·simp at hi
 ·rw [ia_dsl hi,drop_flat (enc := subC) (sz := 5) (fun a => rfl) hi]; rfl
theorem DLst.len {v : Value} {l : List ByteArray} (h : DL strC1 1 v l) (σ : AHeap) : abuiltin E σ .len [26] [v] = some (.int .i64 (l.length : Int),σ) := by
 rcases h with ⟨rfl,rfl⟩ | ⟨m,rfl⟩ <;> rfl
theorem DLst.at {v : Value} {l : List ByteArray} (h : DL strC1 1 v l) {i : Nat} (hi : i < l.length) : aindexAddr E 26 v (.int .i64 (i : Int)) = some (dptr (strC1 l[i] ++ (l.drop (i + 1)).flatMap strC1)) := by
 rcases h with ⟨rfl,rfl⟩ | ⟨m,rfl⟩
 ·simp at hi
 ·rw [ia_dsl hi,drop_flat (enc := strC1) (sz := 1) (fun a => rfl) hi]; rfl
theorem DL.fz {α : Type} {enc : α → List Value} {sz : Nat} {v : Value} {l : List α} (h : DL enc sz v l) (hm : ∀ m,v = dsl m sz l.length (l.flatMap enc) → m ≤ 1) : frz E.ng E.nb v = true := by
 rcases h with ⟨_,rfl⟩ | ⟨m,rfl⟩
 ·exact frz_nils
 ·rw [frz_dsl]; simp [hm m rfl]
structure fewPk (p : Pk) : Prop where
 subs : p.subs.length ≤ 40
 sub : ∀ x ∈ p.subs,x.f.size ≤ 200
 filts : p.filts.length ≤ 40
 filt : ∀ x ∈ p.filts,x.size ≤ 200
 codes : p.codes.length ≤ 40
 props : fewPr p.props
 wprops : fewPr p.will.props
 client : p.client.size ≤ 200
 wtopic : p.will.topic.size ≤ 200
 wpay : p.will.pay.size ≤ 200
 user : p.user.size ≤ 200
 pass : p.pass.size ≤ 200
 topic : p.topic.size ≤ 200
 pay : p.pay.size ≤ 200
theorem specKFew {p : Pk} {v : Value} (hp : PkV p v) (hfz : ∀ cs,v = .agg ⟨cs⟩ → frzL E.ng E.nb cs = true) (hq : ∀ b : Bool,(b = true → fewPk p) → Q (.bool b) σ) : CallS E B 11 [v] σ Q := by
 obtain ⟨vp,vw,vs,vf,vc,d1,d2,d3,d4,d5,rfl⟩ := hp
 have hz := hfz _ rfl
 clear hfz
 simp only [pkC] at hz ⊢
 have l3 := DLsb.len d3
 have l4 := DLst.len d4
 have l5 := DLi.len d5
 have hno : ∀ τ : AHeap,τ = σ → downS Q (.bool false) τ := fun τ h => by subst h; exact downS_here (hq false (fun h => by cases h))
 refine call11 (by simp) ?_
 simp only [strip,bodyOf,Tryz.f11,getD_body,keepN,bareOp_mk,lapp_cons,lapp_nil,List.map_cons,List.map_nil,↓reduceIte,Bool.false_eq_true]
 simp only [↓sbD,sbU,↓reduceIte,Nat.reduceLT,boxS,Edp,dpv,hz]
 refine S_loop (fun k f σ' => σ' = σ ∧ ∃ i : Nat,i ≤ 40 ∧ i ≤ p.subs.length ∧ k + i = p.subs.length ∧ f 3 = .int .i64 i ∧ ∀ j (hj : j < p.subs.length),j < i → (p.subs[j]).f.size ≤ 200) p.subs.length (Le.refl _) ⟨rfl,0,by omega,by omega,rfl,by simp only [sbU,↓reduceIte]; rfl,fun j _ hj => by omega⟩ ?_
 rintro k f σ' ⟨rfl,i,h20,hil,hk,f3,hall⟩ hf
 have f1 := hf 1 (by decide) (notMem_wr (by kernel_rfl))
 simp only [sbU,↓reduceIte,Nat.reduceEqDiff] at f1
 clear hf
 have next : ∀ (P : Prop),(((i : Int) < (p.subs.length : Int) ∧ (i : Int) < 40) → P) → ((¬ ((i : Int) < (p.subs.length : Int)) ∨ (((i : Int) < (p.subs.length : Int)) ∧ ¬ ((i : Int) < 40))) → P) → P := fun P a b => by
  by_cases h1 : (i : Int) < (p.subs.length : Int)
  ·by_cases h2 : (i : Int) < 40
   ·exact a ⟨h1,h2⟩
   ·exact b (.inr ⟨h1,h2⟩)
  ·exact b (.inl h1)
 refine next _ (fun ⟨h1,h2⟩ => ?_) fun hend => ?_
 ·have hi : i < p.subs.length := by omega
  have hia := DLsb.at d3 hi
  have hw := wrap_suc (n := i) (by omega)
  generalize hy : p.subs[i] = y at hia
  have hac : subC y = [.string y.f,.int .i64 y.q,.bool y.nl,.bool y.ai,.int .i64 y.rt] := rfl
  by_cases hb : (200 : Int) < (y.f.size : Int)
  ·simp only [↓sbD,sbU,tyB,Bool.or_self,↓reduceIte,Nat.reduceEqDiff,Nat.reduceLT,reduceCtorEq,goInt,isConst,f1,f3,l3,h1,h2,hia,hac,hb]
   exact hno _ rfl
  ·simp only [↓sbD,sbU,tyB,decide_false,Bool.or_self,↓reduceIte,Nat.reduceEqDiff,Nat.reduceLT,reduceCtorEq,goInt,isConst,f1,f3,l3,h1,h2,hia,hac,hb,hw]
   refine ⟨_,k - 1,_,rfl,by omega,Le.refl _,rfl,i + 1,by omega,by omega,by omega,by simp only [sbU,↓reduceIte],fun j hj hji => ?_⟩
   rcases (by omega : j < i ∨ j = i) with h3 | rfl
   ·exact hall j hj h3
   ·rw [hy]; omega
 have hsub : p.subs.length ≤ 40 → ∀ x ∈ p.subs,x.f.size ≤ 200 := fun h x hx => by
  obtain ⟨j,hj,rfl⟩ := List.getElem_of_mem hx
  exact hall j hj (by omega)
 clear hall next
 rcases hend.imp (fun h => And.intro h h) id with ⟨h1,h2⟩ | ⟨h1,h2⟩
 all_goals
  simp only [↓sbD,sbU,tyB,decide_false,Bool.or_self,↓reduceIte,Nat.reduceEqDiff,Nat.reduceLT,reduceCtorEq,isConst,f1,f3,l3,h1,h2]
  refine S_loop (fun k f σ'' => σ'' = σ' ∧ ∃ i : Nat,i ≤ 40 ∧ i ≤ p.filts.length ∧ k + i = p.filts.length ∧ f 4 = .int .i64 i ∧ ∀ j (hj : j < p.filts.length),j < i → (p.filts[j]).size ≤ 200) p.filts.length (Le.refl _) ⟨rfl,0,by omega,by omega,rfl,by simp only [sbU,↓reduceIte]; rfl,fun j _ hj => by omega⟩ ?_
  have F1 := f1
  clear h1 hk hil h20 f3 f1
  rintro k f σ'' ⟨rfl,i,h20,hil,hk,f4,hall⟩ hf
  have f1 := hf 1 (by decide) (notMem_wr (by kernel_rfl))
  simp only [sbU,↓reduceIte,Nat.reduceEqDiff,F1] at f1
  clear hf
  have next : ∀ (P : Prop),(((i : Int) < (p.filts.length : Int) ∧ (i : Int) < 40) → P) → ((¬ ((i : Int) < (p.filts.length : Int)) ∨ (((i : Int) < (p.filts.length : Int)) ∧ ¬ ((i : Int) < 40))) → P) → P := fun P a b => by
   by_cases h1 : (i : Int) < (p.filts.length : Int)
   ·by_cases h2 : (i : Int) < 40
    ·exact a ⟨h1,h2⟩
    ·exact b (.inr ⟨h1,h2⟩)
   ·exact b (.inl h1)
  refine next _ (fun ⟨h1,h2⟩ => ?_) fun hend => ?_
  ·have hi : i < p.filts.length := by omega
   have hia := DLst.at d4 hi
   have hw := wrap_suc (n := i) (by omega)
   generalize hy : p.filts[i] = y at hia
   have hac : strC1 y = [.string y] := rfl
   by_cases hb : (200 : Int) < (y.size : Int)
   ·simp only [↓sbD,sbU,tyB,Bool.or_self,↓reduceIte,Nat.reduceEqDiff,Nat.reduceLT,reduceCtorEq,goInt,isConst,f1,f4,l4,h1,h2,hia,hac,hb]
    exact hno _ rfl
   ·simp only [↓sbD,sbU,tyB,decide_false,Bool.or_self,↓reduceIte,Nat.reduceEqDiff,Nat.reduceLT,reduceCtorEq,goInt,isConst,f1,f4,l4,h1,h2,hia,hac,hb,hw]
    refine ⟨_,k - 1,_,rfl,by omega,Le.refl _,rfl,i + 1,by omega,by omega,by omega,by simp only [sbU,↓reduceIte],fun j hj hji => ?_⟩
    rcases (by omega : j < i ∨ j = i) with h3 | rfl
    ·exact hall j hj h3
    ·rw [hy]; omega
  have hfilt : p.filts.length ≤ 40 → ∀ x ∈ p.filts,x.size ≤ 200 := fun h x hx => by
   obtain ⟨j,hj,rfl⟩ := List.getElem_of_mem hx
   exact hall j hj (by omega)
  clear hall next
  rcases hend.imp (fun h => And.intro h h) id with ⟨h1,h2⟩ | ⟨h1,h2⟩
  all_goals
   by_cases c1 : (p.subs.length : Int) ≤ 40
   rotate_left
   ·simp only [↓sbD,sbU,tyB,decide_false,Bool.or_self,↓reduceIte,Nat.reduceEqDiff,Nat.reduceLT,reduceCtorEq,isConst,f1,f4,h1,h2,l3,l4,c1]
    exact hno _ rfl
   by_cases c2 : (p.filts.length : Int) ≤ 40
   rotate_left
   ·simp only [↓sbD,sbU,tyB,decide_false,Bool.or_self,↓reduceIte,Nat.reduceEqDiff,Nat.reduceLT,reduceCtorEq,isConst,f1,f4,h1,h2,l3,l4,c1,c2]
    exact hno _ rfl
   by_cases c3 : (p.codes.length : Int) ≤ 40
   rotate_left
   ·simp only [↓sbD,sbU,tyB,decide_false,Bool.or_self,↓reduceIte,Nat.reduceEqDiff,Nat.reduceLT,reduceCtorEq,isConst,f1,f4,h1,h2,l3,l4,l5,c1,c2,c3]
    exact hno _ rfl
   simp only [↓sbD,sbU,tyB,decide_false,Bool.or_self,↓reduceIte,Nat.reduceEqDiff,Nat.reduceLT,reduceCtorEq,isConst,f1,f4,h1,h2,l3,l4,l5,c1,c2,c3]
   refine specFewP d1 fun few hfew => ?_
   cases few with
   | false =>
    simp only [↓sbD,sbU,↓reduceIte,Nat.reduceEqDiff,Nat.reduceLT]
    exact hno _ rfl
   | true =>
    simp only [↓sbD,sbU,tyB,↓reduceIte,Nat.reduceEqDiff,Nat.reduceLT,reduceCtorEq,f1]
    refine specFewP d2 fun few2 hfew2 => ?_
    cases few2 with
    | false =>
     simp only [↓sbD,sbU,↓reduceIte,Nat.reduceEqDiff,Nat.reduceLT]
     exact hno _ rfl
    | true =>
     by_cases e0 : (p.client.size : Int) ≤ 200
     rotate_left
     ·simp only [↓sbD,sbU,tyB,decide_false,↓reduceIte,Nat.reduceEqDiff,Nat.reduceLT,reduceCtorEq,goInt,isConst,f1,e0]
      exact hno _ rfl
     by_cases e1 : (p.will.topic.size : Int) ≤ 200
     rotate_left
     ·simp only [↓sbD,sbU,tyB,decide_false,↓reduceIte,Nat.reduceEqDiff,Nat.reduceLT,reduceCtorEq,goInt,isConst,f1,e0,e1]
      exact hno _ rfl
     by_cases e2 : (p.will.pay.size : Int) ≤ 200
     rotate_left
     ·simp only [↓sbD,sbU,tyB,decide_false,↓reduceIte,Nat.reduceEqDiff,Nat.reduceLT,reduceCtorEq,goInt,isConst,f1,e0,e1,e2]
      exact hno _ rfl
     by_cases e3 : (p.user.size : Int) ≤ 200
     rotate_left
     ·simp only [↓sbD,sbU,tyB,decide_false,↓reduceIte,Nat.reduceEqDiff,Nat.reduceLT,reduceCtorEq,goInt,isConst,f1,e0,e1,e2,e3]
      exact hno _ rfl
     by_cases e4 : (p.pass.size : Int) ≤ 200
     rotate_left
     ·simp only [↓sbD,sbU,tyB,decide_false,↓reduceIte,Nat.reduceEqDiff,Nat.reduceLT,reduceCtorEq,goInt,isConst,f1,e0,e1,e2,e3,e4]
      exact hno _ rfl
     by_cases e5 : (p.topic.size : Int) ≤ 200
     rotate_left
     ·simp only [↓sbD,sbU,tyB,decide_false,↓reduceIte,Nat.reduceEqDiff,Nat.reduceLT,reduceCtorEq,goInt,isConst,f1,e0,e1,e2,e3,e4,e5]
      exact hno _ rfl
     by_cases e6 : (p.pay.size : Int) ≤ 200
     rotate_left
     ·simp only [↓sbD,sbU,tyB,decide_false,↓reduceIte,Nat.reduceEqDiff,Nat.reduceLT,reduceCtorEq,goInt,isConst,f1,e0,e1,e2,e3,e4,e5,e6]
      exact hno _ rfl
     simp only [↓sbD,sbU,tyB,↓reduceIte,Nat.reduceEqDiff,Nat.reduceLT,reduceCtorEq,goInt,isConst,f1,e0,e1,e2,e3,e4,e5,e6]
     exact downS_here (hq true fun _ => ⟨by omega,hsub (by omega),by omega,hfilt (by omega),by omega,hfew rfl,hfew2 rfl,by omega,by omega,by omega,by omega,by omega,by omega,by omega⟩)
end
end Go.Proofs.YtjkhhdknplelcaaGreatDoor.AbsB
