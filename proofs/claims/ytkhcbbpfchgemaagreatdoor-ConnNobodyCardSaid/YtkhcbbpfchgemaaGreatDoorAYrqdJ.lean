/-
  Parts of a law's proof.
-/
import Derived.Test.YtkhcbbpfchgemaaGreatDoorAPeqcJ
import Derived.Test.YtkhcbbpfchgemaaGreatDoorAPrqcJ
namespace Go.Proofs.YtkhcbbpfchgemaaGreatDoor.AbsA
open Go AbsYtkhcbbpfchgemaaGreatDoor Abs
set_option maxRecDepth 100000
set_option maxHeartbeats 2000000
set_option linter.unusedSimpArgs false
set_option linter.unusedVariables false
attribute [local irreducible] afterS afterOpS opSK OpsS TrS CodeS condS condW thenS thenQ guardS guardTS outS drawS trSK consS
section
variable {σ : AHeap} {Q : Value → AHeap → Prop} {r p : Nat} {s : ByteArray}
end
set_option maxHeartbeats 4000000
section
variable {σ : AHeap} {Q : Value → AHeap → Prop} {r p : Nat} {s : ByteArray}
theorem nd {τ : AHeap} {b x : Nat} {o : AObj} (hb : τ.get b = .dead) (hx : τ.get x = o) (ho : o ≠ .dead) : b ≠ x := by rintro rfl; rw [hx] at hb; exact ho hb
end
end Go.Proofs.YtkhcbbpfchgemaaGreatDoor.AbsA
namespace Go.Proofs.YtkhcbbpfchgemaaGreatDoor.AbsA
open Go AbsYtkhcbbpfchgemaaGreatDoor Abs
set_option maxRecDepth 100000
set_option maxHeartbeats 4000000
set_option linter.unusedSimpArgs false
set_option linter.unusedVariables false
theorem typed_pr {H : AHeap} {d : Nat} {xs : List Value} (h : Typed E H d 158 xs) : ∃ a : Pr,xs = propC a := by
 cases d with
 | zero => exact h.elim
 | succ d =>
  simp only [Typed,ty158] at h
  obtain ⟨hl,hp⟩ := h
  match xs,hl with
  | [x,y,z,w],_ =>
   obtain ⟨j,j1,j2⟩ := hp (0,3,false) (by simp)
   rw [ty3] at j1; injection j1 with j1; subst j1
   obtain ⟨n1,e1,_⟩ := typed_int (by simpa using j2)
   obtain ⟨j,j1,j2⟩ := hp (1,3,false) (by simp)
   rw [ty3] at j1; injection j1 with j1; subst j1
   obtain ⟨n2,e2,_⟩ := typed_int (by simpa using j2)
   obtain ⟨j,j1,j2⟩ := hp (2,9,false) (by simp)
   rw [ty9] at j1; injection j1 with j1; subst j1
   obtain ⟨s,e3,_⟩ := typed_str (by simpa using j2)
   obtain ⟨j,j1,j2⟩ := hp (3,9,false) (by simp)
   rw [ty9] at j1; injection j1 with j1; subst j1
   obtain ⟨t,e4,_⟩ := typed_str (by simpa using j2)
   simp only [List.cons.injEq,and_true] at e1 e2 e3 e4
   exact ⟨⟨n1,n2,s,t⟩,by rw [e1,e2,e3,e4]; rfl⟩
structure Sb where
 f : ByteArray
 q : Int
 nl : Bool
 ai : Bool
 rt : Int
def subC (x : Sb) : List Value := [.string x.f,.int .i64 x.q,.bool x.nl,.bool x.ai,.int .i64 x.rt]
structure Wl where
 has : Bool
 topic : ByteArray
 pay : ByteArray
 qos : Int
 ret : Bool
 props : List Pr
structure Pk where
 kind : Int
 id : Int
 rea : Int
 props : List Pr
 clean : Bool
 keep : Int
 client : ByteArray
 will : Wl
 hasU : Bool
 user : ByteArray
 hasP : Bool
 pass : ByteArray
 present : Bool
 topic : ByteArray
 pay : ByteArray
 qos : Int
 ret : Bool
 dup : Bool
 subs : List Sb
 filts : List ByteArray
 codes : List Int
def strC1 (s : ByteArray) : List Value := [.string s]
def wlC (w : Wl) (vw : Value) : List Value := [.bool w.has,.string w.topic,.string w.pay,.int .i64 w.qos,.bool w.ret,vw]
def pkC (p : Pk) (vp vw vs vf vc : Value) : List Value := [.int .i64 p.kind,.int .i64 p.id,.int .i64 p.rea,vp,.bool p.clean,.int .i64 p.keep,.string p.client,.bool p.will.has,.string p.will.topic,.string p.will.pay,.int .i64 p.will.qos,.bool p.will.ret,vw,.bool p.hasU,.string p.user,.bool p.hasP,.string p.pass,.bool p.present,.string p.topic,.string p.pay,.int .i64 p.qos,.bool p.ret,.bool p.dup,vs,vf,vc]
def PkV (p : Pk) (v : Value) : Prop := ∃ vp vw vs vf vc,DL propC 4 vp p.props ∧ DL propC 4 vw p.will.props ∧ DL subC 5 vs p.subs ∧ DL strC1 1 vf p.filts ∧ DL intC 1 vc p.codes ∧ v = .agg ⟨pkC p vp vw vs vf vc⟩
theorem typed_b {H : AHeap} {d : Nat} {xs : List Value} (h : Typed E H d 4 xs) : ∃ b,xs = [.bool b] := by
 cases d with
 | zero => exact h.elim
 | succ d => simpa only [Typed,ty4] using h
theorem typedL_pr {H : AHeap} {d : Nat} {xs : List Value} (h : Typed E H d 26 xs) : ∃ v l,xs = [v] ∧ DL propC 4 v (l : List Pr) ∧ frz E.ng E.nb v = true := by
 cases d with
 | zero => exact h.elim
 | succ d =>
  simp only [Typed,ty26] at h
  rcases h with rfl | ⟨h2,_⟩ | ⟨_,n,j,cs,hj,rfl,hl,hk⟩
  ·exact ⟨_,[],rfl,.inl ⟨rfl,rfl⟩,frz_nils⟩
  ·cases h2
  ·rw [ty158] at hj; injection hj with hj; subst hj
   obtain ⟨l,h3,h4⟩ := chunks (enc := propC) (fun a => rfl) n cs hl fun k hk' => typed_pr (hk k hk')
   exact ⟨_,l,rfl,.inr ⟨0,by rw [h3,← h4]⟩,by rw [frz_dsl]; rfl⟩
theorem typedL_s {H : AHeap} {d : Nat} {xs : List Value} (h : Typed E H d 22 xs) : ∃ v l,xs = [v] ∧ DL strC1 1 v (l : List ByteArray) ∧ frz E.ng E.nb v = true := by
 cases d with
 | zero => exact h.elim
 | succ d =>
  simp only [Typed,ty22] at h
  rcases h with rfl | ⟨h2,_⟩ | ⟨_,n,j,cs,hj,rfl,hl,hk⟩
  ·exact ⟨_,[],rfl,.inl ⟨rfl,rfl⟩,frz_nils⟩
  ·cases h2
  ·rw [ty9] at hj; injection hj with hj; subst hj
   obtain ⟨l,h3,h4⟩ := chunks (enc := strC1) (fun a => rfl) n cs hl fun k hk' => by obtain ⟨s,hs,_⟩ := typed_str (hk k hk'); exact ⟨s,hs⟩
   exact ⟨_,l,rfl,.inr ⟨0,by rw [h3,← h4]⟩,by rw [frz_dsl]; rfl⟩
theorem typedL_i {H : AHeap} {d : Nat} {xs : List Value} (h : Typed E H d 52 xs) : ∃ v l,xs = [v] ∧ DL intC 1 v (l : List Int) ∧ frz E.ng E.nb v = true := by
 cases d with
 | zero => exact h.elim
 | succ d =>
  simp only [Typed,ty52] at h
  rcases h with rfl | ⟨h2,_⟩ | ⟨_,n,j,cs,hj,rfl,hl,hk⟩
  ·exact ⟨_,[],rfl,.inl ⟨rfl,rfl⟩,frz_nils⟩
  ·cases h2
  ·rw [ty3] at hj; injection hj with hj; subst hj
   obtain ⟨l,h3,h4⟩ := chunks (enc := intC) (fun a => rfl) n cs hl fun k hk' => by obtain ⟨s,hs,_⟩ := typed_int (hk k hk'); exact ⟨s,hs⟩
   exact ⟨_,l,rfl,.inr ⟨0,by rw [h3,← h4]⟩,by rw [frz_dsl]; rfl⟩
theorem typed_sb {H : AHeap} {d : Nat} {xs : List Value} (h : Typed E H d 124 xs) : ∃ a : Sb,xs = subC a := by
 cases d with
 | zero => exact h.elim
 | succ d =>
  simp only [Typed,ty124] at h
  obtain ⟨hl,hp⟩ := h
  match xs,hl with
  | [x0,x1,x2,x3,x4],_ =>
   obtain ⟨j,j1,j2⟩ := hp (0,9,false) (by simp)
   rw [ty9] at j1; injection j1 with j1; subst j1
   obtain ⟨af,eaf,_⟩ := typed_str (by simpa using j2)
   obtain ⟨j,j1,j2⟩ := hp (1,3,false) (by simp)
   rw [ty3] at j1; injection j1 with j1; subst j1
   obtain ⟨aq,eaq,_⟩ := typed_int (by simpa using j2)
   obtain ⟨j,j1,j2⟩ := hp (2,4,false) (by simp)
   rw [ty4] at j1; injection j1 with j1; subst j1
   obtain ⟨anl,eanl⟩ := typed_b (by simpa using j2)
   obtain ⟨j,j1,j2⟩ := hp (3,4,false) (by simp)
   rw [ty4] at j1; injection j1 with j1; subst j1
   obtain ⟨aai,eaai⟩ := typed_b (by simpa using j2)
   obtain ⟨j,j1,j2⟩ := hp (4,3,false) (by simp)
   rw [ty3] at j1; injection j1 with j1; subst j1
   obtain ⟨art,eart,_⟩ := typed_int (by simpa using j2)
   simp only [List.cons.injEq,and_true] at eaf eaq eanl eaai eart
   exact ⟨⟨af,aq,anl,aai,art⟩,by rw [eaf,eaq,eanl,eaai,eart]; rfl⟩
theorem typedL_sb {H : AHeap} {d : Nat} {xs : List Value} (h : Typed E H d 51 xs) : ∃ v l,xs = [v] ∧ DL subC 5 v (l : List Sb) ∧ frz E.ng E.nb v = true := by
 cases d with
 | zero => exact h.elim
 | succ d =>
  simp only [Typed,ty51] at h
  rcases h with rfl | ⟨h2,_⟩ | ⟨_,n,j,cs,hj,rfl,hl,hk⟩
  ·exact ⟨_,[],rfl,.inl ⟨rfl,rfl⟩,frz_nils⟩
  ·cases h2
  ·rw [ty124] at hj; injection hj with hj; subst hj
   obtain ⟨l,h3,h4⟩ := chunks (enc := subC) (fun a => rfl) n cs hl fun k hk' => typed_sb (hk k hk')
   exact ⟨_,l,rfl,.inr ⟨0,by rw [h3,← h4]⟩,by rw [frz_dsl]; rfl⟩
theorem typed_wl {H : AHeap} {d : Nat} {xs : List Value} (h : Typed E H d 50 xs) : ∃ (w : Wl) (vw : Value),DL propC 4 vw w.props ∧ xs = wlC w vw ∧ frz E.ng E.nb vw = true := by
 cases d with
 | zero => exact h.elim
 | succ d =>
  simp only [Typed,ty50] at h
  obtain ⟨hl,hp⟩ := h
  match xs,hl with
  | [x0,x1,x2,x3,x4,x5],_ =>
   obtain ⟨j,j1,j2⟩ := hp (0,4,false) (by simp)
   rw [ty4] at j1; injection j1 with j1; subst j1
   obtain ⟨ahas,eahas⟩ := typed_b (by simpa using j2)
   obtain ⟨j,j1,j2⟩ := hp (1,9,false) (by simp)
   rw [ty9] at j1; injection j1 with j1; subst j1
   obtain ⟨atopic,eatopic,_⟩ := typed_str (by simpa using j2)
   obtain ⟨j,j1,j2⟩ := hp (2,9,false) (by simp)
   rw [ty9] at j1; injection j1 with j1; subst j1
   obtain ⟨apay,eapay,_⟩ := typed_str (by simpa using j2)
   obtain ⟨j,j1,j2⟩ := hp (3,3,false) (by simp)
   rw [ty3] at j1; injection j1 with j1; subst j1
   obtain ⟨aqos,eaqos,_⟩ := typed_int (by simpa using j2)
   obtain ⟨j,j1,j2⟩ := hp (4,4,false) (by simp)
   rw [ty4] at j1; injection j1 with j1; subst j1
   obtain ⟨aret,earet⟩ := typed_b (by simpa using j2)
   obtain ⟨j,j1,j2⟩ := hp (5,26,false) (by simp)
   rw [ty26] at j1; injection j1 with j1; subst j1
   obtain ⟨vaprops,aprops,eaprops,daprops,zaprops⟩ := typedL_pr (by simpa using j2)
   simp only [List.cons.injEq,and_true] at eahas eatopic eapay eaqos earet eaprops
   exact ⟨⟨ahas,atopic,apay,aqos,aret,aprops⟩,vaprops,daprops,by rw [eahas,eatopic,eapay,eaqos,earet,eaprops]; rfl,zaprops⟩
attribute [local irreducible] afterS afterOpS opSK OpsS TrS CodeS condS condW thenS thenQ guardS guardTS outS drawS trSK consS
section
variable {σ : AHeap} {Q : Value → AHeap → Prop}
theorem DLsb.len {v : Value} {l : List Sb} (h : DL subC 5 v l) (σ : AHeap) : abuiltin E σ .len [51] [v] = some (.int .i64 (l.length : Int),σ) := by
 rcases h with ⟨rfl,rfl⟩ | ⟨m,rfl⟩ <;> rfl
theorem DLsb.at {v : Value} {l : List Sb} (h : DL subC 5 v l) {i : Nat} (hi : i < l.length) : aindexAddr E 51 v (.int .i64 (i : Int)) = some (dptr (subC l[i] ++ (l.drop (i + 1)).flatMap subC)) := by
 rcases h with ⟨rfl,rfl⟩ | ⟨m,rfl⟩
 ·simp at hi
 ·rw [ia_dsl hi,drop_flat (enc := subC) (sz := 5) (fun a => rfl) hi]; rfl
theorem DLst.len {v : Value} {l : List ByteArray} (h : DL strC1 1 v l) (σ : AHeap) : abuiltin E σ .len [22] [v] = some (.int .i64 (l.length : Int),σ) := by
 rcases h with ⟨rfl,rfl⟩ | ⟨m,rfl⟩ <;> rfl
theorem DLst.at {v : Value} {l : List ByteArray} (h : DL strC1 1 v l) {i : Nat} (hi : i < l.length) : aindexAddr E 22 v (.int .i64 (i : Int)) = some (dptr (strC1 l[i] ++ (l.drop (i + 1)).flatMap strC1)) := by
 rcases h with ⟨rfl,rfl⟩ | ⟨m,rfl⟩
 ·simp at hi
 ·rw [ia_dsl hi,drop_flat (enc := strC1) (sz := 1) (fun a => rfl) hi]; rfl
theorem DL.fz {α : Type} {enc : α → List Value} {sz : Nat} {v : Value} {l : List α} (h : DL enc sz v l) (hm : ∀ m,v = dsl m sz l.length (l.flatMap enc) → m ≤ 1) : frz E.ng E.nb v = true := by
 rcases h with ⟨_,rfl⟩ | ⟨m,rfl⟩
 ·exact frz_nils
 ·rw [frz_dsl]; simp [hm m rfl]
structure fewPk (p : Pk) : Prop where
 subs : p.subs.length ≤ 40
 sub : ∀ x ∈ p.subs,x.f.size ≤ 200
 filts : p.filts.length ≤ 40
 filt : ∀ x ∈ p.filts,x.size ≤ 200
 codes : p.codes.length ≤ 40
 props : fewPr p.props
 wprops : fewPr p.will.props
 client : p.client.size ≤ 200
 wtopic : p.will.topic.size ≤ 200
 wpay : p.will.pay.size ≤ 200
 user : p.user.size ≤ 200
 pass : p.pass.size ≤ 200
 topic : p.topic.size ≤ 200
 pay : p.pay.size ≤ 200
theorem specKFew {p : Pk} {v : Value} (hp : PkV p v) (hfz : ∀ cs,v = .agg ⟨cs⟩ → frzL E.ng E.nb cs = true) (hq : ∀ b : Bool,(b = true → fewPk p) → Q (.bool b) σ) : CallS E B 20 [v] σ Q := by
 obtain ⟨vp,vw,vs,vf,vc,d1,d2,d3,d4,d5,rfl⟩ := hp
 have hz := hfz _ rfl
 clear hfz
 simp only [pkC] at hz ⊢
 have l3 := DLsb.len d3
 have l4 := DLst.len d4
 have l5 := DLi.len d5
 have hno : ∀ τ : AHeap,τ = σ → downS Q (.bool false) τ := fun τ h => by subst h; exact downS_here (hq false (fun h => by cases h))
 refine call20 (by simp) ?_
 simp only [strip,bodyOf,Tryz.f20,getD_body,keepN,bareOp_mk,lessOp_mk,lapp_cons,lapp_nil,List.map_cons,List.map_nil,array_toList,↓reduceIte,Nat.reduceEqDiff,Bool.false_eq_true]
 simp (disch := first | assumption | simp) only [↓sbD,sbU,tyB,Nat.reduceMul,Nat.reduceSub,Int.reduceEq,Int.reduceLT,Int.reduceLE,Int.reduceNe,Nat.reduceBneDiff,Nat.reduceBEq,decide_false,gt_iff_lt,Bool.or_self,Bool.false_eq_true,Nat.mul_one,Nat.one_mul,Nat.zero_mul,↓reduceIte,Nat.reduceEqDiff,Nat.reduceLT,Nat.reduceAdd,Nat.reduceLeDiff,reduceCtorEq,goInt,pairs,isConst,TI.isAgg,splice,boxS,Edp,dpv,Nat.beq_eq,ZV.val,List.any_cons,List.any_nil,Bool.false_and,hz]
 refine S_loop (fun k f σ' => σ' = σ ∧ ∃ i : Nat,i ≤ 40 ∧ i ≤ p.subs.length ∧ k + i = p.subs.length ∧ f 3 = .int .i64 i ∧ ∀ j (hj : j < p.subs.length),j < i → (p.subs[j]).f.size ≤ 200) p.subs.length (Le.refl _) ⟨rfl,0,by omega,by omega,rfl,by simp (disch := first | assumption | simp) only [↓sbD,sbU,tyB,Nat.reduceMul,Nat.reduceSub,Int.reduceEq,Int.reduceLT,Int.reduceLE,Int.reduceNe,Nat.reduceBneDiff,Nat.reduceBEq,decide_false,gt_iff_lt,Bool.or_self,Bool.false_eq_true,Nat.mul_one,Nat.one_mul,Nat.zero_mul,↓reduceIte,Nat.reduceEqDiff,Nat.reduceLT,Nat.reduceAdd,Nat.reduceLeDiff,reduceCtorEq,goInt,pairs,isConst,TI.isAgg,splice,boxS,Edp,dpv,Nat.beq_eq,ZV.val,List.any_cons,List.any_nil,Bool.false_and]; rfl,fun j _ hj => by omega⟩ ?_
 rintro k f σ' ⟨rfl,i,h20,hil,hk,f3,hall⟩ hf
 have f1 := hf 1 (by decide) (notMem_wr (by kernel_rfl))
 simp (disch := first | assumption | simp) only [↓sbD,sbU,tyB,Nat.reduceMul,Nat.reduceSub,Int.reduceEq,Int.reduceLT,Int.reduceLE,Int.reduceNe,Nat.reduceBneDiff,Nat.reduceBEq,decide_false,gt_iff_lt,Bool.or_self,Bool.false_eq_true,Nat.mul_one,Nat.one_mul,Nat.zero_mul,↓reduceIte,Nat.reduceEqDiff,Nat.reduceLT,Nat.reduceAdd,Nat.reduceLeDiff,reduceCtorEq,goInt,pairs,isConst,TI.isAgg,splice,boxS,Edp,dpv,Nat.beq_eq,ZV.val,List.any_cons,List.any_nil,Bool.false_and] at f1
 clear hf
 have next : ∀ (P : Prop),(((i : Int) < (p.subs.length : Int) ∧ (i : Int) < 40) → P) → ((¬ ((i : Int) < (p.subs.length : Int)) ∨ (((i : Int) < (p.subs.length : Int)) ∧ ¬ ((i : Int) < 40))) → P) → P := fun P a b => by
  by_cases h1 : (i : Int) < (p.subs.length : Int)
  ·by_cases h2 : (i : Int) < 40
   ·exact a ⟨h1,h2⟩
   ·exact b (.inr ⟨h1,h2⟩)
  ·exact b (.inl h1)
 refine next _ (fun ⟨h1,h2⟩ => ?_) fun hend => ?_
 ·have hi : i < p.subs.length := by omega
  have hia := DLsb.at d3 hi
  have hw := wrap_suc (n := i) (by omega)
  generalize hy : p.subs[i] = y at hia
  have hac : subC y = [.string y.f,.int .i64 y.q,.bool y.nl,.bool y.ai,.int .i64 y.rt] := rfl
  by_cases hb : (200 : Int) < (y.f.size : Int)
  ·simp (disch := first | assumption | simp) only [↓sbD,sbU,tyB,Nat.reduceMul,Nat.reduceSub,Int.reduceEq,Int.reduceLT,Int.reduceLE,Int.reduceNe,Nat.reduceBneDiff,Nat.reduceBEq,decide_false,gt_iff_lt,Bool.or_self,Bool.false_eq_true,Nat.mul_one,Nat.one_mul,Nat.zero_mul,↓reduceIte,Nat.reduceEqDiff,Nat.reduceLT,Nat.reduceAdd,Nat.reduceLeDiff,reduceCtorEq,goInt,pairs,isConst,TI.isAgg,splice,boxS,Edp,dpv,Nat.beq_eq,ZV.val,List.any_cons,List.any_nil,Bool.false_and,f1,f3,l3,h1,h2,hia,hac,hb]
   exact hno _ rfl
  ·simp (disch := first | assumption | simp) only [↓sbD,sbU,tyB,Nat.reduceMul,Nat.reduceSub,Int.reduceEq,Int.reduceLT,Int.reduceLE,Int.reduceNe,Nat.reduceBneDiff,Nat.reduceBEq,decide_false,gt_iff_lt,Bool.or_self,Bool.false_eq_true,Nat.mul_one,Nat.one_mul,Nat.zero_mul,↓reduceIte,Nat.reduceEqDiff,Nat.reduceLT,Nat.reduceAdd,Nat.reduceLeDiff,reduceCtorEq,goInt,pairs,isConst,TI.isAgg,splice,boxS,Edp,dpv,Nat.beq_eq,ZV.val,List.any_cons,List.any_nil,Bool.false_and,f1,f3,l3,h1,h2,hia,hac,hb,hw]
   refine ⟨_,k - 1,_,rfl,by omega,Le.refl _,rfl,i + 1,by omega,by omega,by omega,by simp (disch := first | assumption | simp) only [↓sbD,sbU,tyB,Nat.reduceMul,Nat.reduceSub,Int.reduceEq,Int.reduceLT,Int.reduceLE,Int.reduceNe,Nat.reduceBneDiff,Nat.reduceBEq,decide_false,gt_iff_lt,Bool.or_self,Bool.false_eq_true,Nat.mul_one,Nat.one_mul,Nat.zero_mul,↓reduceIte,Nat.reduceEqDiff,Nat.reduceLT,Nat.reduceAdd,Nat.reduceLeDiff,reduceCtorEq,goInt,pairs,isConst,TI.isAgg,splice,boxS,Edp,dpv,Nat.beq_eq,ZV.val,List.any_cons,List.any_nil,Bool.false_and],fun j hj hji => ?_⟩
   rcases (by omega : j < i ∨ j = i) with h3 | rfl
   ·exact hall j hj h3
   ·rw [hy]; omega
 have hsub : p.subs.length ≤ 40 → ∀ x ∈ p.subs,x.f.size ≤ 200 := fun h x hx => by
  obtain ⟨j,hj,rfl⟩ := List.getElem_of_mem hx
  exact hall j hj (by omega)
 clear hall next
 rcases hend.imp (fun h => And.intro h h) id with ⟨h1,h2⟩ | ⟨h1,h2⟩
 all_goals
  simp (disch := first | assumption | simp) only [↓sbD,sbU,tyB,Nat.reduceMul,Nat.reduceSub,Int.reduceEq,Int.reduceLT,Int.reduceLE,Int.reduceNe,Nat.reduceBneDiff,Nat.reduceBEq,decide_false,gt_iff_lt,Bool.or_self,Bool.false_eq_true,Nat.mul_one,Nat.one_mul,Nat.zero_mul,↓reduceIte,Nat.reduceEqDiff,Nat.reduceLT,Nat.reduceAdd,Nat.reduceLeDiff,reduceCtorEq,goInt,pairs,isConst,TI.isAgg,splice,boxS,Edp,dpv,Nat.beq_eq,ZV.val,List.any_cons,List.any_nil,Bool.false_and,f1,f3,l3,h1,h2]
  refine S_loop (fun k f σ'' => σ'' = σ' ∧ ∃ i : Nat,i ≤ 40 ∧ i ≤ p.filts.length ∧ k + i = p.filts.length ∧ f 4 = .int .i64 i ∧ ∀ j (hj : j < p.filts.length),j < i → (p.filts[j]).size ≤ 200) p.filts.length (Le.refl _) ⟨rfl,0,by omega,by omega,rfl,by simp (disch := first | assumption | simp) only [↓sbD,sbU,tyB,Nat.reduceMul,Nat.reduceSub,Int.reduceEq,Int.reduceLT,Int.reduceLE,Int.reduceNe,Nat.reduceBneDiff,Nat.reduceBEq,decide_false,gt_iff_lt,Bool.or_self,Bool.false_eq_true,Nat.mul_one,Nat.one_mul,Nat.zero_mul,↓reduceIte,Nat.reduceEqDiff,Nat.reduceLT,Nat.reduceAdd,Nat.reduceLeDiff,reduceCtorEq,goInt,pairs,isConst,TI.isAgg,splice,boxS,Edp,dpv,Nat.beq_eq,ZV.val,List.any_cons,List.any_nil,Bool.false_and]; rfl,fun j _ hj => by omega⟩ ?_
  have F1 := f1
  clear h1 hk hil h20 f3 f1
  rintro k f σ'' ⟨rfl,i,h20,hil,hk,f4,hall⟩ hf
  have f1 := hf 1 (by decide) (notMem_wr (by kernel_rfl))
  simp (disch := first | assumption | simp) only [↓sbD,sbU,tyB,Nat.reduceMul,Nat.reduceSub,Int.reduceEq,Int.reduceLT,Int.reduceLE,Int.reduceNe,Nat.reduceBneDiff,Nat.reduceBEq,decide_false,gt_iff_lt,Bool.or_self,Bool.false_eq_true,Nat.mul_one,Nat.one_mul,Nat.zero_mul,↓reduceIte,Nat.reduceEqDiff,Nat.reduceLT,Nat.reduceAdd,Nat.reduceLeDiff,reduceCtorEq,goInt,pairs,isConst,TI.isAgg,splice,boxS,Edp,dpv,Nat.beq_eq,ZV.val,List.any_cons,List.any_nil,Bool.false_and,F1] at f1
  clear hf
  have next : ∀ (P : Prop),(((i : Int) < (p.filts.length : Int) ∧ (i : Int) < 40) → P) → ((¬ ((i : Int) < (p.filts.length : Int)) ∨ (((i : Int) < (p.filts.length : Int)) ∧ ¬ ((i : Int) < 40))) → P) → P := fun P a b => by
   by_cases h1 : (i : Int) < (p.filts.length : Int)
   ·by_cases h2 : (i : Int) < 40
    ·exact a ⟨h1,h2⟩
    ·exact b (.inr ⟨h1,h2⟩)
   ·exact b (.inl h1)
  refine next _ (fun ⟨h1,h2⟩ => ?_) fun hend => ?_
  ·have hi : i < p.filts.length := by omega
   have hia := DLst.at d4 hi
   have hw := wrap_suc (n := i) (by omega)
   generalize hy : p.filts[i] = y at hia
   have hac : strC1 y = [.string y] := rfl
   by_cases hb : (200 : Int) < (y.size : Int)
   ·simp (disch := first | assumption | simp) only [↓sbD,sbU,tyB,Nat.reduceMul,Nat.reduceSub,Int.reduceEq,Int.reduceLT,Int.reduceLE,Int.reduceNe,Nat.reduceBneDiff,Nat.reduceBEq,decide_false,gt_iff_lt,Bool.or_self,Bool.false_eq_true,Nat.mul_one,Nat.one_mul,Nat.zero_mul,↓reduceIte,Nat.reduceEqDiff,Nat.reduceLT,Nat.reduceAdd,Nat.reduceLeDiff,reduceCtorEq,goInt,pairs,isConst,TI.isAgg,splice,boxS,Edp,dpv,Nat.beq_eq,ZV.val,List.any_cons,List.any_nil,Bool.false_and,f1,f4,l4,h1,h2,hia,hac,hb]
    exact hno _ rfl
   ·simp (disch := first | assumption | simp) only [↓sbD,sbU,tyB,Nat.reduceMul,Nat.reduceSub,Int.reduceEq,Int.reduceLT,Int.reduceLE,Int.reduceNe,Nat.reduceBneDiff,Nat.reduceBEq,decide_false,gt_iff_lt,Bool.or_self,Bool.false_eq_true,Nat.mul_one,Nat.one_mul,Nat.zero_mul,↓reduceIte,Nat.reduceEqDiff,Nat.reduceLT,Nat.reduceAdd,Nat.reduceLeDiff,reduceCtorEq,goInt,pairs,isConst,TI.isAgg,splice,boxS,Edp,dpv,Nat.beq_eq,ZV.val,List.any_cons,List.any_nil,Bool.false_and,f1,f4,l4,h1,h2,hia,hac,hb,hw]
    refine ⟨_,k - 1,_,rfl,by omega,Le.refl _,rfl,i + 1,by omega,by omega,by omega,by simp (disch := first | assumption | simp) only [↓sbD,sbU,tyB,Nat.reduceMul,Nat.reduceSub,Int.reduceEq,Int.reduceLT,Int.reduceLE,Int.reduceNe,Nat.reduceBneDiff,Nat.reduceBEq,decide_false,gt_iff_lt,Bool.or_self,Bool.false_eq_true,Nat.mul_one,Nat.one_mul,Nat.zero_mul,↓reduceIte,Nat.reduceEqDiff,Nat.reduceLT,Nat.reduceAdd,Nat.reduceLeDiff,reduceCtorEq,goInt,pairs,isConst,TI.isAgg,splice,boxS,Edp,dpv,Nat.beq_eq,ZV.val,List.any_cons,List.any_nil,Bool.false_and],fun j hj hji => ?_⟩
    rcases (by omega : j < i ∨ j = i) with h3 | rfl
    ·exact hall j hj h3
    ·rw [hy]; omega
  have hfilt : p.filts.length ≤ 40 → ∀ x ∈ p.filts,x.size ≤ 200 := fun h x hx => by
   obtain ⟨j,hj,rfl⟩ := List.getElem_of_mem hx
   exact hall j hj (by omega)
  clear hall next
  rcases hend.imp (fun h => And.intro h h) id with ⟨h1,h2⟩ | ⟨h1,h2⟩
  all_goals
   by_cases c1 : (p.subs.length : Int) ≤ 40
   rotate_left
   ·simp (disch := first | assumption | simp) only [↓sbD,sbU,tyB,Nat.reduceMul,Nat.reduceSub,Int.reduceEq,Int.reduceLT,Int.reduceLE,Int.reduceNe,Nat.reduceBneDiff,Nat.reduceBEq,decide_false,gt_iff_lt,Bool.or_self,Bool.false_eq_true,Nat.mul_one,Nat.one_mul,Nat.zero_mul,↓reduceIte,Nat.reduceEqDiff,Nat.reduceLT,Nat.reduceAdd,Nat.reduceLeDiff,reduceCtorEq,goInt,pairs,isConst,TI.isAgg,splice,boxS,Edp,dpv,Nat.beq_eq,ZV.val,List.any_cons,List.any_nil,Bool.false_and,f1,f4,h1,h2,l3,l4,l5,c1]
    exact hno _ rfl
   by_cases c2 : (p.filts.length : Int) ≤ 40
   rotate_left
   ·simp (disch := first | assumption | simp) only [↓sbD,sbU,tyB,Nat.reduceMul,Nat.reduceSub,Int.reduceEq,Int.reduceLT,Int.reduceLE,Int.reduceNe,Nat.reduceBneDiff,Nat.reduceBEq,decide_false,gt_iff_lt,Bool.or_self,Bool.false_eq_true,Nat.mul_one,Nat.one_mul,Nat.zero_mul,↓reduceIte,Nat.reduceEqDiff,Nat.reduceLT,Nat.reduceAdd,Nat.reduceLeDiff,reduceCtorEq,goInt,pairs,isConst,TI.isAgg,splice,boxS,Edp,dpv,Nat.beq_eq,ZV.val,List.any_cons,List.any_nil,Bool.false_and,f1,f4,h1,h2,l3,l4,l5,c1,c2]
    exact hno _ rfl
   by_cases c3 : (p.codes.length : Int) ≤ 40
   rotate_left
   ·simp (disch := first | assumption | simp) only [↓sbD,sbU,tyB,Nat.reduceMul,Nat.reduceSub,Int.reduceEq,Int.reduceLT,Int.reduceLE,Int.reduceNe,Nat.reduceBneDiff,Nat.reduceBEq,decide_false,gt_iff_lt,Bool.or_self,Bool.false_eq_true,Nat.mul_one,Nat.one_mul,Nat.zero_mul,↓reduceIte,Nat.reduceEqDiff,Nat.reduceLT,Nat.reduceAdd,Nat.reduceLeDiff,reduceCtorEq,goInt,pairs,isConst,TI.isAgg,splice,boxS,Edp,dpv,Nat.beq_eq,ZV.val,List.any_cons,List.any_nil,Bool.false_and,f1,f4,h1,h2,l3,l4,l5,c1,c2,c3]
    exact hno _ rfl
   simp (disch := first | assumption | simp) only [↓sbD,sbU,tyB,Nat.reduceMul,Nat.reduceSub,Int.reduceEq,Int.reduceLT,Int.reduceLE,Int.reduceNe,Nat.reduceBneDiff,Nat.reduceBEq,decide_false,gt_iff_lt,Bool.or_self,Bool.false_eq_true,Nat.mul_one,Nat.one_mul,Nat.zero_mul,↓reduceIte,Nat.reduceEqDiff,Nat.reduceLT,Nat.reduceAdd,Nat.reduceLeDiff,reduceCtorEq,goInt,pairs,isConst,TI.isAgg,splice,boxS,Edp,dpv,Nat.beq_eq,ZV.val,List.any_cons,List.any_nil,Bool.false_and,f1,f4,h1,h2,l3,l4,l5,c1,c2,c3]
   refine specFewP d1 fun few hfew => ?_
   cases few with
   | false =>
    simp (disch := first | assumption | simp) only [↓sbD,sbU,tyB,Nat.reduceMul,Nat.reduceSub,Int.reduceEq,Int.reduceLT,Int.reduceLE,Int.reduceNe,Nat.reduceBneDiff,Nat.reduceBEq,decide_false,gt_iff_lt,Bool.or_self,Bool.false_eq_true,Nat.mul_one,Nat.one_mul,Nat.zero_mul,↓reduceIte,Nat.reduceEqDiff,Nat.reduceLT,Nat.reduceAdd,Nat.reduceLeDiff,reduceCtorEq,goInt,pairs,isConst,TI.isAgg,splice,boxS,Edp,dpv,Nat.beq_eq,ZV.val,List.any_cons,List.any_nil,Bool.false_and]
    exact hno _ rfl
   | true =>
    simp (disch := first | assumption | simp) only [↓sbD,sbU,tyB,Nat.reduceMul,Nat.reduceSub,Int.reduceEq,Int.reduceLT,Int.reduceLE,Int.reduceNe,Nat.reduceBneDiff,Nat.reduceBEq,decide_false,gt_iff_lt,Bool.or_self,Bool.false_eq_true,Nat.mul_one,Nat.one_mul,Nat.zero_mul,↓reduceIte,Nat.reduceEqDiff,Nat.reduceLT,Nat.reduceAdd,Nat.reduceLeDiff,reduceCtorEq,goInt,pairs,isConst,TI.isAgg,splice,boxS,Edp,dpv,Nat.beq_eq,ZV.val,List.any_cons,List.any_nil,Bool.false_and,f1]
    refine specFewP d2 fun few2 hfew2 => ?_
    cases few2 with
    | false =>
     simp (disch := first | assumption | simp) only [↓sbD,sbU,tyB,Nat.reduceMul,Nat.reduceSub,Int.reduceEq,Int.reduceLT,Int.reduceLE,Int.reduceNe,Nat.reduceBneDiff,Nat.reduceBEq,decide_false,gt_iff_lt,Bool.or_self,Bool.false_eq_true,Nat.mul_one,Nat.one_mul,Nat.zero_mul,↓reduceIte,Nat.reduceEqDiff,Nat.reduceLT,Nat.reduceAdd,Nat.reduceLeDiff,reduceCtorEq,goInt,pairs,isConst,TI.isAgg,splice,boxS,Edp,dpv,Nat.beq_eq,ZV.val,List.any_cons,List.any_nil,Bool.false_and]
     exact hno _ rfl
    | true =>
     by_cases e0 : (p.client.size : Int) ≤ 200
     rotate_left
     ·simp (disch := first | assumption | simp) only [↓sbD,sbU,tyB,Nat.reduceMul,Nat.reduceSub,Int.reduceEq,Int.reduceLT,Int.reduceLE,Int.reduceNe,Nat.reduceBneDiff,Nat.reduceBEq,decide_false,gt_iff_lt,Bool.or_self,Bool.false_eq_true,Nat.mul_one,Nat.one_mul,Nat.zero_mul,↓reduceIte,Nat.reduceEqDiff,Nat.reduceLT,Nat.reduceAdd,Nat.reduceLeDiff,reduceCtorEq,goInt,pairs,isConst,TI.isAgg,splice,boxS,Edp,dpv,Nat.beq_eq,ZV.val,List.any_cons,List.any_nil,Bool.false_and,f1,e0]
      exact hno _ rfl
     by_cases e1 : (p.will.topic.size : Int) ≤ 200
     rotate_left
     ·simp (disch := first | assumption | simp) only [↓sbD,sbU,tyB,Nat.reduceMul,Nat.reduceSub,Int.reduceEq,Int.reduceLT,Int.reduceLE,Int.reduceNe,Nat.reduceBneDiff,Nat.reduceBEq,decide_false,gt_iff_lt,Bool.or_self,Bool.false_eq_true,Nat.mul_one,Nat.one_mul,Nat.zero_mul,↓reduceIte,Nat.reduceEqDiff,Nat.reduceLT,Nat.reduceAdd,Nat.reduceLeDiff,reduceCtorEq,goInt,pairs,isConst,TI.isAgg,splice,boxS,Edp,dpv,Nat.beq_eq,ZV.val,List.any_cons,List.any_nil,Bool.false_and,f1,e0,e1]
      exact hno _ rfl
     by_cases e2 : (p.will.pay.size : Int) ≤ 200
     rotate_left
     ·simp (disch := first | assumption | simp) only [↓sbD,sbU,tyB,Nat.reduceMul,Nat.reduceSub,Int.reduceEq,Int.reduceLT,Int.reduceLE,Int.reduceNe,Nat.reduceBneDiff,Nat.reduceBEq,decide_false,gt_iff_lt,Bool.or_self,Bool.false_eq_true,Nat.mul_one,Nat.one_mul,Nat.zero_mul,↓reduceIte,Nat.reduceEqDiff,Nat.reduceLT,Nat.reduceAdd,Nat.reduceLeDiff,reduceCtorEq,goInt,pairs,isConst,TI.isAgg,splice,boxS,Edp,dpv,Nat.beq_eq,ZV.val,List.any_cons,List.any_nil,Bool.false_and,f1,e0,e1,e2]
      exact hno _ rfl
     by_cases e3 : (p.user.size : Int) ≤ 200
     rotate_left
     ·simp (disch := first | assumption | simp) only [↓sbD,sbU,tyB,Nat.reduceMul,Nat.reduceSub,Int.reduceEq,Int.reduceLT,Int.reduceLE,Int.reduceNe,Nat.reduceBneDiff,Nat.reduceBEq,decide_false,gt_iff_lt,Bool.or_self,Bool.false_eq_true,Nat.mul_one,Nat.one_mul,Nat.zero_mul,↓reduceIte,Nat.reduceEqDiff,Nat.reduceLT,Nat.reduceAdd,Nat.reduceLeDiff,reduceCtorEq,goInt,pairs,isConst,TI.isAgg,splice,boxS,Edp,dpv,Nat.beq_eq,ZV.val,List.any_cons,List.any_nil,Bool.false_and,f1,e0,e1,e2,e3]
      exact hno _ rfl
     by_cases e4 : (p.pass.size : Int) ≤ 200
     rotate_left
     ·simp (disch := first | assumption | simp) only [↓sbD,sbU,tyB,Nat.reduceMul,Nat.reduceSub,Int.reduceEq,Int.reduceLT,Int.reduceLE,Int.reduceNe,Nat.reduceBneDiff,Nat.reduceBEq,decide_false,gt_iff_lt,Bool.or_self,Bool.false_eq_true,Nat.mul_one,Nat.one_mul,Nat.zero_mul,↓reduceIte,Nat.reduceEqDiff,Nat.reduceLT,Nat.reduceAdd,Nat.reduceLeDiff,reduceCtorEq,goInt,pairs,isConst,TI.isAgg,splice,boxS,Edp,dpv,Nat.beq_eq,ZV.val,List.any_cons,List.any_nil,Bool.false_and,f1,e0,e1,e2,e3,e4]
      exact hno _ rfl
     by_cases e5 : (p.topic.size : Int) ≤ 200
     rotate_left
     ·simp (disch := first | assumption | simp) only [↓sbD,sbU,tyB,Nat.reduceMul,Nat.reduceSub,Int.reduceEq,Int.reduceLT,Int.reduceLE,Int.reduceNe,Nat.reduceBneDiff,Nat.reduceBEq,decide_false,gt_iff_lt,Bool.or_self,Bool.false_eq_true,Nat.mul_one,Nat.one_mul,Nat.zero_mul,↓reduceIte,Nat.reduceEqDiff,Nat.reduceLT,Nat.reduceAdd,Nat.reduceLeDiff,reduceCtorEq,goInt,pairs,isConst,TI.isAgg,splice,boxS,Edp,dpv,Nat.beq_eq,ZV.val,List.any_cons,List.any_nil,Bool.false_and,f1,e0,e1,e2,e3,e4,e5]
      exact hno _ rfl
     by_cases e6 : (p.pay.size : Int) ≤ 200
     rotate_left
     ·simp (disch := first | assumption | simp) only [↓sbD,sbU,tyB,Nat.reduceMul,Nat.reduceSub,Int.reduceEq,Int.reduceLT,Int.reduceLE,Int.reduceNe,Nat.reduceBneDiff,Nat.reduceBEq,decide_false,gt_iff_lt,Bool.or_self,Bool.false_eq_true,Nat.mul_one,Nat.one_mul,Nat.zero_mul,↓reduceIte,Nat.reduceEqDiff,Nat.reduceLT,Nat.reduceAdd,Nat.reduceLeDiff,reduceCtorEq,goInt,pairs,isConst,TI.isAgg,splice,boxS,Edp,dpv,Nat.beq_eq,ZV.val,List.any_cons,List.any_nil,Bool.false_and,f1,e0,e1,e2,e3,e4,e5,e6]
      exact hno _ rfl
     simp (disch := first | assumption | simp) only [↓sbD,sbU,tyB,Nat.reduceMul,Nat.reduceSub,Int.reduceEq,Int.reduceLT,Int.reduceLE,Int.reduceNe,Nat.reduceBneDiff,Nat.reduceBEq,decide_false,gt_iff_lt,Bool.or_self,Bool.false_eq_true,Nat.mul_one,Nat.one_mul,Nat.zero_mul,↓reduceIte,Nat.reduceEqDiff,Nat.reduceLT,Nat.reduceAdd,Nat.reduceLeDiff,reduceCtorEq,goInt,pairs,isConst,TI.isAgg,splice,boxS,Edp,dpv,Nat.beq_eq,ZV.val,List.any_cons,List.any_nil,Bool.false_and,f1,e0,e1,e2,e3,e4,e5,e6]
     exact downS_here (hq true fun _ => ⟨by omega,hsub (by omega),by omega,hfilt (by omega),by omega,hfew rfl,hfew2 rfl,by omega,by omega,by omega,by omega,by omega,by omega,by omega⟩)
end
set_option maxHeartbeats 8000000
theorem DL.bareF {α : Type} {enc : α → List Value} {sz : Nat} {v : Value} {l : List α} (h : DL enc sz v l) : DL enc sz (bare v) l ∧ frz E.ng E.nb (bare v) = true := by
 rcases h with ⟨h1,rfl⟩ | ⟨m,rfl⟩
 ·exact ⟨.inl ⟨h1,rfl⟩,frz_nils⟩
 ·refine ⟨.inr ⟨_,rfl⟩,?_⟩
  show frz E.ng E.nb (dsl (if m ≤ 1 then m else 0) sz l.length (l.flatMap enc)) = true
  rw [frz_dsl]
  split <;> simp_all
theorem boxPk {p : Pk} {vp vw vs vf vc : Value} (d1 : DL propC 4 vp p.props) (d2 : DL propC 4 vw p.will.props) (d3 : DL subC 5 vs p.subs) (d4 : DL strC1 1 vf p.filts) (d5 : DL intC 1 vc p.codes) :
  ∃ up uw us uf uc,DL propC 4 up p.props ∧ DL propC 4 uw p.will.props ∧ DL subC 5 us p.subs ∧ DL strC1 1 uf p.filts ∧ DL intC 1 uc p.codes ∧ frzL E.ng E.nb (pkC p up uw us uf uc) = true ∧
   ∀ σ,boxS 54 E (pkC p vp vw vs vf vc) σ = .val (dptr (pkC p up uw us uf uc)) σ := by
 by_cases hz : frzL E.ng E.nb (pkC p vp vw vs vf vc) = true
 ·exact ⟨vp,vw,vs,vf,vc,d1,d2,d3,d4,d5,hz,fun σ => box_deep (by rw [hz]; rfl)⟩
 ·have hb : bareL (pkC p vp vw vs vf vc) = pkC p (bare vp) (bare vw) (bare vs) (bare vf) (bare vc) := rfl
  have hf : frzL E.ng E.nb (pkC p (bare vp) (bare vw) (bare vs) (bare vf) (bare vc)) = true := by
   simp only [pkC,frzL,frz_int,frz_bool,frz_str,d1.bareF.2,d2.bareF.2,d3.bareF.2,d4.bareF.2,d5.bareF.2,Bool.and_self,Bool.and_true]
  refine ⟨_,_,_,_,_,d1.bareF.1,d2.bareF.1,d3.bareF.1,d4.bareF.1,d5.bareF.1,hf,fun σ => ?_⟩
  unfold boxS
  rw [if_neg (by simp [hz]),hb,if_pos (by rw [hf]; rfl)]
end Go.Proofs.YtkhcbbpfchgemaaGreatDoor.AbsA
