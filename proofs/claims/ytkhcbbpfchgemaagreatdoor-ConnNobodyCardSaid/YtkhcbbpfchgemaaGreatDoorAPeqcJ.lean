/-
  Parts of a law's proof.
-/
import Derived.Test.YtkhcbbpfchgemaaGreatDoorAGeqcJ
import Derived.Test.YtkhcbbpfchgemaaGreatDoorAPrqcJ
namespace Go.Proofs.YtkhcbbpfchgemaaGreatDoor.AbsA
open Go AbsYtkhcbbpfchgemaaGreatDoor Abs
set_option maxRecDepth 100000
set_option maxHeartbeats 4000000
set_option linter.unusedSimpArgs false
set_option linter.unusedVariables false
attribute [local irreducible] afterS afterOpS opSK OpsS TrS CodeS condS condW thenS thenQ guardS guardTS outS drawS trSK consS
section
variable {σ : AHeap} {Q : Value → AHeap → Prop}
end
def getP (l : List Pr) (id : Int) : Option Pr := l.find? fun p => decide (p.id = id)
def prz : Pr := ⟨0,0,emp,emp⟩
def getV (o : Option Pr) : Value := .tuple #[.agg ⟨propC (o.getD prz)⟩,.bool o.isSome]
def numV (o : Option Pr) (n : Int) : Int := match o with
 | some p => p.n
 | none => n
theorem getP_at {l : List Pr} {id : Int} {i : Nat} (hi : i < l.length) (he : (l[i]).id = id) (hno : ∀ j (hj : j < l.length),j < i → (l[j]).id ≠ id) : getP l id = some l[i] := by
 unfold getP
 rw [List.find?_eq_some_iff_getElem]
 exact ⟨by simp [he],i,hi,rfl,fun j hj => by simp [hno j (by omega) hj]⟩
theorem getP_no {l : List Pr} {id : Int} (hno : ∀ p ∈ l,p.id ≠ id) : getP l id = none := by
 unfold getP
 rw [List.find?_eq_none]
 intro p hp
 simp [hno p hp]
section
variable {σ : AHeap} {Q : Value → AHeap → Prop}
theorem specGet1 {b : Nat} {id : Int} {p : Pr} (hb : σ.get b = .cells [.int .i64 id] true 0) {R : Value → AHeap → Prop} (h : R (.bool (decide (p.id = id))) σ) : CallS E B 234 [.agg ⟨propC p⟩,.pointer (some ⟨b,0,none⟩)] σ R := by
 simp only [propC]
 refine call234 (by simp) ?_
 simp only [strip,bodyOf,Tryz.f234,getD_body,keepN,bareOp_mk,lessOp_mk,lapp_cons,lapp_nil,List.map_cons,List.map_nil,array_toList,↓reduceIte,Nat.reduceEqDiff,Bool.false_eq_true]
 simp (disch := first | assumption | simp) only [↓sbD,sbU,tyB,Nat.reduceMul,Nat.reduceSub,Int.reduceEq,Int.reduceLT,Int.reduceLE,Int.reduceNe,Nat.reduceBneDiff,Nat.reduceBEq,decide_false,gt_iff_lt,Bool.or_self,Bool.false_eq_true,Nat.mul_one,Nat.one_mul,Nat.zero_mul,↓reduceIte,Nat.reduceEqDiff,Nat.reduceLT,Nat.reduceAdd,Nat.reduceLeDiff,reduceCtorEq,goInt,pairs,isConst,TI.isAgg,splice,boxS,Edp,dpv,Nat.beq_eq,ZV.val,List.any_cons,List.any_nil,Bool.false_and,hb]
 exact downS_here h
theorem specGetP {v : Value} {l : List Pr} {id : Int} (hl : DL propC 4 v l) (hs : l.length ≤ 100000) (hq : ∀ σ',Kept σ [] σ' [] → Q (getV (getP l id)) σ') : CallS E B 165 [v,.int .i64 id] σ Q := by
 refine call165 (by simp) ?_
 simp only [strip,bodyOf,Tryz.f165,getD_body,keepN,bareOp_mk,lessOp_mk,lapp_cons,lapp_nil,List.map_cons,List.map_nil,array_toList,↓reduceIte,Nat.reduceEqDiff,Bool.false_eq_true]
 simp (disch := first | assumption | simp) only [↓sbD,sbU,tyB,Nat.reduceMul,Nat.reduceSub,Int.reduceEq,Int.reduceLT,Int.reduceLE,Int.reduceNe,Nat.reduceBneDiff,Nat.reduceBEq,decide_false,gt_iff_lt,Bool.or_self,Bool.false_eq_true,Nat.mul_one,Nat.one_mul,Nat.zero_mul,↓reduceIte,Nat.reduceEqDiff,Nat.reduceLT,Nat.reduceAdd,Nat.reduceLeDiff,reduceCtorEq,goInt,pairs,isConst,TI.isAgg,splice,boxS,Edp,dpv,Nat.beq_eq,ZV.val,List.any_cons,List.any_nil,Bool.false_and,AS_new,dpI,zePr]
 intro c hc b hb
 have hbc : b ≠ c := by rintro rfl; rw [AHeap.get_set_same] at hb; cases hb
 have hbd : σ.get b = .dead := by rw [AHeap.get_set_ne _ _ hbc.symm] at hb; exact hb
 generalize hσ1 : AHeap.set (AHeap.set σ c _) b _ = σ1
 have k1 : Kept σ [] σ1 [] := by rw [← hσ1]; exact ((Kept.refl σ []).setD hc).setD hbd
 have gc1 : σ1.get c = .cells [.int .i64 id] true 0 := by rw [← hσ1,AHeap.get_set_ne _ _ hbc]; exact AHeap.get_set_same _ _ _
 have gb1 : σ1.get b = .cells [.int .i64 0,.int .i64 0,.string ⟨#[]⟩,.string ⟨#[]⟩] true 0 := by rw [← hσ1]; exact AHeap.get_set_same _ _ _
 clear hσ1
 try simp (disch := first | assumption | simp) only [↓sbD,sbU,tyB,Nat.reduceMul,Nat.reduceSub,Int.reduceEq,Int.reduceLT,Int.reduceLE,Int.reduceNe,Nat.reduceBneDiff,Nat.reduceBEq,decide_false,gt_iff_lt,Bool.or_self,Bool.false_eq_true,Nat.mul_one,Nat.one_mul,Nat.zero_mul,↓reduceIte,Nat.reduceEqDiff,Nat.reduceLT,Nat.reduceAdd,Nat.reduceLeDiff,reduceCtorEq,goInt,pairs,isConst,TI.isAgg,splice,boxS,Edp,dpv,Nat.beq_eq,ZV.val,List.any_cons,List.any_nil,Bool.false_and,arr_map]
 refine specIndexP hl hs (fun p {R} h => specGet1 gc1 h) (fun i hi he hno => ?_) fun hno => ?_
 ·have hn : ¬ (i : Int) < 0 := by omega
  have hia := DLp.at hl hi
  have hg := getP_at hi he hno
  rw [hg] at hq
  generalize l[i] = y at hia hq
  have hac : propC y = [.int .i64 y.id,.int .i64 y.n,.string y.s,.string y.v] := rfl
  simp (disch := first | assumption | simp) only [↓sbD,sbU,tyB,Nat.reduceMul,Nat.reduceSub,Int.reduceEq,Int.reduceLT,Int.reduceLE,Int.reduceNe,Nat.reduceBneDiff,Nat.reduceBEq,decide_false,gt_iff_lt,Bool.or_self,Bool.false_eq_true,Nat.mul_one,Nat.one_mul,Nat.zero_mul,↓reduceIte,Nat.reduceEqDiff,Nat.reduceLT,Nat.reduceAdd,Nat.reduceLeDiff,reduceCtorEq,goInt,pairs,isConst,TI.isAgg,splice,boxS,Edp,dpv,Nat.beq_eq,ZV.val,List.any_cons,List.any_nil,Bool.false_and,hn,hia,hac,gb1,AHeap.get_set_same,res_cellc,resC_some]
  exact downS_here (hq _ (k1.setD hbd))
 ·have hn : ((-1 : Int)) < 0 := by omega
  rw [getP_no hno] at hq
  simp (disch := first | assumption | simp) only [↓sbD,sbU,tyB,Nat.reduceMul,Nat.reduceSub,Int.reduceEq,Int.reduceLT,Int.reduceLE,Int.reduceNe,Nat.reduceBneDiff,Nat.reduceBEq,decide_false,gt_iff_lt,Bool.or_self,Bool.false_eq_true,Nat.mul_one,Nat.one_mul,Nat.zero_mul,↓reduceIte,Nat.reduceEqDiff,Nat.reduceLT,Nat.reduceAdd,Nat.reduceLeDiff,reduceCtorEq,goInt,pairs,isConst,TI.isAgg,splice,boxS,Edp,dpv,Nat.beq_eq,ZV.val,List.any_cons,List.any_nil,Bool.false_and,gb1,AHeap.get_set_same,res_cellc,resC_some]
  exact downS_here (hq _ (k1.setD hbd))
theorem specGetR {v : Value} {l : List Pr} {id : Int} (hl : DL propC 4 v l) (hs : l.length ≤ 100000) (hq : ∀ σ',Kept σ [] σ' [] → Q (getV (getP l id)) σ') : CallS E B 106 [v,.int .i64 id] σ Q := by
 have hlen := DLp.len hl
 refine call106 (by simp) ?_
 simp only [strip,bodyOf,Tryz.f106,getD_body,keepN,bareOp_mk,lessOp_mk,lapp_cons,lapp_nil,List.map_cons,List.map_nil,array_toList,↓reduceIte,Nat.reduceEqDiff,Bool.false_eq_true]
 simp (disch := first | assumption | simp) only [↓sbD,sbU,tyB,Nat.reduceMul,Nat.reduceSub,Int.reduceEq,Int.reduceLT,Int.reduceLE,Int.reduceNe,Nat.reduceBneDiff,Nat.reduceBEq,decide_false,gt_iff_lt,Bool.or_self,Bool.false_eq_true,Nat.mul_one,Nat.one_mul,Nat.zero_mul,↓reduceIte,Nat.reduceEqDiff,Nat.reduceLT,Nat.reduceAdd,Nat.reduceLeDiff,reduceCtorEq,goInt,pairs,isConst,TI.isAgg,splice,boxS,Edp,dpv,Nat.beq_eq,ZV.val,List.any_cons,List.any_nil,Bool.false_and,AS_new,zePr]
 intro b hb
 generalize hσ1 : AHeap.set σ b _ = σ1
 have k1 : Kept σ [] σ1 [] := by rw [← hσ1]; exact (Kept.refl σ []).setD hb
 have gb1 : σ1.get b = .cells [.int .i64 0,.int .i64 0,.string ⟨#[]⟩,.string ⟨#[]⟩] true 0 := by rw [← hσ1]; exact AHeap.get_set_same _ _ _
 clear hσ1
 try simp (disch := first | assumption | simp) only [↓sbD,sbU,tyB,Nat.reduceMul,Nat.reduceSub,Int.reduceEq,Int.reduceLT,Int.reduceLE,Int.reduceNe,Nat.reduceBneDiff,Nat.reduceBEq,decide_false,gt_iff_lt,Bool.or_self,Bool.false_eq_true,Nat.mul_one,Nat.one_mul,Nat.zero_mul,↓reduceIte,Nat.reduceEqDiff,Nat.reduceLT,Nat.reduceAdd,Nat.reduceLeDiff,reduceCtorEq,goInt,pairs,isConst,TI.isAgg,splice,boxS,Edp,dpv,Nat.beq_eq,ZV.val,List.any_cons,List.any_nil,Bool.false_and]
 refine S_loop (fun m f σ' => σ' = σ1 ∧ ∃ i : Nat,m + i = l.length ∧ f 6 = .int .i64 i ∧ ∀ j (hj : j < l.length),j < i → (l[j]).id ≠ id) l.length (Le.refl _) ⟨rfl,0,rfl,by simp (disch := first | assumption | simp) only [↓sbD,sbU,tyB,Nat.reduceMul,Nat.reduceSub,Int.reduceEq,Int.reduceLT,Int.reduceLE,Int.reduceNe,Nat.reduceBneDiff,Nat.reduceBEq,decide_false,gt_iff_lt,Bool.or_self,Bool.false_eq_true,Nat.mul_one,Nat.one_mul,Nat.zero_mul,↓reduceIte,Nat.reduceEqDiff,Nat.reduceLT,Nat.reduceAdd,Nat.reduceLeDiff,reduceCtorEq,goInt,pairs,isConst,TI.isAgg,splice,boxS,Edp,dpv,Nat.beq_eq,ZV.val,List.any_cons,List.any_nil,Bool.false_and]; rfl,fun j _ hj => by omega⟩ ?_
 rintro m f σ' ⟨rfl,i,hm,f6,hno⟩ hf
 have f0 := hf 0 (by decide) (notMem_wr (by kernel_rfl))
 have f1 := hf 1 (by decide) (notMem_wr (by kernel_rfl))
 have f4 := hf 4 (by decide) (notMem_wr (by kernel_rfl))
 simp (disch := first | assumption | simp) only [↓sbD,sbU,tyB,Nat.reduceMul,Nat.reduceSub,Int.reduceEq,Int.reduceLT,Int.reduceLE,Int.reduceNe,Nat.reduceBneDiff,Nat.reduceBEq,decide_false,gt_iff_lt,Bool.or_self,Bool.false_eq_true,Nat.mul_one,Nat.one_mul,Nat.zero_mul,↓reduceIte,Nat.reduceEqDiff,Nat.reduceLT,Nat.reduceAdd,Nat.reduceLeDiff,reduceCtorEq,goInt,pairs,isConst,TI.isAgg,splice,boxS,Edp,dpv,Nat.beq_eq,ZV.val,List.any_cons,List.any_nil,Bool.false_and] at f0 f1 f4
 clear hf
 by_cases hi : (i : Int) < (l.length : Int)
 ·have hi' : i < l.length := by omega
  have hia := DLp.at hl hi'
  have hw := wrap_suc (n := i) (by omega)
  by_cases he : (l[i]).id = id
  ·rw [getP_at hi' he hno] at hq
   generalize l[i] = y at hia hq he
   have hac : propC y = [.int .i64 y.id,.int .i64 y.n,.string y.s,.string y.v] := rfl
   simp (disch := first | assumption | simp) only [↓sbD,sbU,tyB,Nat.reduceMul,Nat.reduceSub,Int.reduceEq,Int.reduceLT,Int.reduceLE,Int.reduceNe,Nat.reduceBneDiff,Nat.reduceBEq,decide_false,gt_iff_lt,Bool.or_self,Bool.false_eq_true,Nat.mul_one,Nat.one_mul,Nat.zero_mul,↓reduceIte,Nat.reduceEqDiff,Nat.reduceLT,Nat.reduceAdd,Nat.reduceLeDiff,reduceCtorEq,goInt,pairs,isConst,TI.isAgg,splice,boxS,Edp,dpv,Nat.beq_eq,ZV.val,List.any_cons,List.any_nil,Bool.false_and,f0,f1,f4,f6,hlen,hi,hia,hac,eq_true he,gb1,AHeap.get_set_same,res_cellc,resC_some]
   exact downS_here (hq _ (k1.setD hb))
  ·have hno' := hno
   generalize hy : l[i] = y at hia he
   have hac : propC y = [.int .i64 y.id,.int .i64 y.n,.string y.s,.string y.v] := rfl
   simp (disch := first | assumption | simp) only [↓sbD,sbU,tyB,Nat.reduceMul,Nat.reduceSub,Int.reduceEq,Int.reduceLT,Int.reduceLE,Int.reduceNe,Nat.reduceBneDiff,Nat.reduceBEq,decide_false,gt_iff_lt,Bool.or_self,Bool.false_eq_true,Nat.mul_one,Nat.one_mul,Nat.zero_mul,↓reduceIte,Nat.reduceEqDiff,Nat.reduceLT,Nat.reduceAdd,Nat.reduceLeDiff,reduceCtorEq,goInt,pairs,isConst,TI.isAgg,splice,boxS,Edp,dpv,Nat.beq_eq,ZV.val,List.any_cons,List.any_nil,Bool.false_and,f0,f1,f4,f6,hlen,hi,hia,hac,he,hw]
   refine ⟨_,m - 1,_,rfl,by omega,Le.refl _,rfl,i + 1,by omega,by simp (disch := first | assumption | simp) only [↓sbD,sbU,tyB,Nat.reduceMul,Nat.reduceSub,Int.reduceEq,Int.reduceLT,Int.reduceLE,Int.reduceNe,Nat.reduceBneDiff,Nat.reduceBEq,decide_false,gt_iff_lt,Bool.or_self,Bool.false_eq_true,Nat.mul_one,Nat.one_mul,Nat.zero_mul,↓reduceIte,Nat.reduceEqDiff,Nat.reduceLT,Nat.reduceAdd,Nat.reduceLeDiff,reduceCtorEq,goInt,pairs,isConst,TI.isAgg,splice,boxS,Edp,dpv,Nat.beq_eq,ZV.val,List.any_cons,List.any_nil,Bool.false_and],fun j hj hji => ?_⟩
   rcases (by omega : j < i ∨ j = i) with h3 | rfl
   ·exact hno j hj h3
   ·rw [hy]; exact he
 ·rw [getP_no (fun p hp => by obtain ⟨j,hj,rfl⟩ := List.getElem_of_mem hp; exact hno j hj (by omega))] at hq
  simp (disch := first | assumption | simp) only [↓sbD,sbU,tyB,Nat.reduceMul,Nat.reduceSub,Int.reduceEq,Int.reduceLT,Int.reduceLE,Int.reduceNe,Nat.reduceBneDiff,Nat.reduceBEq,decide_false,gt_iff_lt,Bool.or_self,Bool.false_eq_true,Nat.mul_one,Nat.one_mul,Nat.zero_mul,↓reduceIte,Nat.reduceEqDiff,Nat.reduceLT,Nat.reduceAdd,Nat.reduceLeDiff,reduceCtorEq,goInt,pairs,isConst,TI.isAgg,splice,boxS,Edp,dpv,Nat.beq_eq,ZV.val,List.any_cons,List.any_nil,Bool.false_and,f0,f4,f6,hlen,hi,gb1,AHeap.get_set_same,res_cellc,resC_some]
  exact downS_here (hq _ (k1.setD hb))
theorem specNumP {v : Value} {l : List Pr} {id n : Int} (hl : DL propC 4 v l) (hs : l.length ≤ 100000) (hq : ∀ σ',Kept σ [] σ' [] → Q (.int .i64 (numV (getP l id) n)) σ') : CallS E B 105 [v,.int .i64 id,.int .i64 n] σ Q := by
 refine call105 (by simp) ?_
 simp only [strip,bodyOf,Tryz.f105,getD_body,keepN,bareOp_mk,lessOp_mk,lapp_cons,lapp_nil,List.map_cons,List.map_nil,array_toList,↓reduceIte,Nat.reduceEqDiff,Bool.false_eq_true]
 simp (disch := first | assumption | simp) only [↓sbD,sbU,tyB,Nat.reduceMul,Nat.reduceSub,Int.reduceEq,Int.reduceLT,Int.reduceLE,Int.reduceNe,Nat.reduceBneDiff,Nat.reduceBEq,decide_false,gt_iff_lt,Bool.or_self,Bool.false_eq_true,Nat.mul_one,Nat.one_mul,Nat.zero_mul,↓reduceIte,Nat.reduceEqDiff,Nat.reduceLT,Nat.reduceAdd,Nat.reduceLeDiff,reduceCtorEq,goInt,pairs,isConst,TI.isAgg,splice,boxS,Edp,dpv,Nat.beq_eq,ZV.val,List.any_cons,List.any_nil,Bool.false_and]
 refine specGetP hl hs fun σ1 k1 => ?_
 cases hg : getP l id with
 | none =>
  rw [hg] at hq
  simp only [getV,propC,prz,Option.getD_none,Option.isSome_none]
  simp (disch := first | assumption | simp) only [↓sbD,sbU,tyB,Nat.reduceMul,Nat.reduceSub,Int.reduceEq,Int.reduceLT,Int.reduceLE,Int.reduceNe,Nat.reduceBneDiff,Nat.reduceBEq,decide_false,gt_iff_lt,Bool.or_self,Bool.false_eq_true,Nat.mul_one,Nat.one_mul,Nat.zero_mul,↓reduceIte,Nat.reduceEqDiff,Nat.reduceLT,Nat.reduceAdd,Nat.reduceLeDiff,reduceCtorEq,goInt,pairs,isConst,TI.isAgg,splice,boxS,Edp,dpv,Nat.beq_eq,ZV.val,List.any_cons,List.any_nil,Bool.false_and,AS_new,zePr]
  intro b hb
  try simp (disch := first | assumption | simp) only [↓sbD,sbU,tyB,Nat.reduceMul,Nat.reduceSub,Int.reduceEq,Int.reduceLT,Int.reduceLE,Int.reduceNe,Nat.reduceBneDiff,Nat.reduceBEq,decide_false,gt_iff_lt,Bool.or_self,Bool.false_eq_true,Nat.mul_one,Nat.one_mul,Nat.zero_mul,↓reduceIte,Nat.reduceEqDiff,Nat.reduceLT,Nat.reduceAdd,Nat.reduceLeDiff,reduceCtorEq,goInt,pairs,isConst,TI.isAgg,splice,boxS,Edp,dpv,Nat.beq_eq,ZV.val,List.any_cons,List.any_nil,Bool.false_and,AHeap.get_set_same,not_bool,Bool.not_false]
  exact downS_here (hq _ ((k1.trans (((Kept.refl _ []).setD hb).setD hb))))
 | some p =>
  rw [hg] at hq
  simp only [getV,propC,Option.getD_some,Option.isSome_some]
  simp (disch := first | assumption | simp) only [↓sbD,sbU,tyB,Nat.reduceMul,Nat.reduceSub,Int.reduceEq,Int.reduceLT,Int.reduceLE,Int.reduceNe,Nat.reduceBneDiff,Nat.reduceBEq,decide_false,gt_iff_lt,Bool.or_self,Bool.false_eq_true,Nat.mul_one,Nat.one_mul,Nat.zero_mul,↓reduceIte,Nat.reduceEqDiff,Nat.reduceLT,Nat.reduceAdd,Nat.reduceLeDiff,reduceCtorEq,goInt,pairs,isConst,TI.isAgg,splice,boxS,Edp,dpv,Nat.beq_eq,ZV.val,List.any_cons,List.any_nil,Bool.false_and,AS_new,zePr]
  intro b hb
  try simp (disch := first | assumption | simp) only [↓sbD,sbU,tyB,Nat.reduceMul,Nat.reduceSub,Int.reduceEq,Int.reduceLT,Int.reduceLE,Int.reduceNe,Nat.reduceBneDiff,Nat.reduceBEq,decide_false,gt_iff_lt,Bool.or_self,Bool.false_eq_true,Nat.mul_one,Nat.one_mul,Nat.zero_mul,↓reduceIte,Nat.reduceEqDiff,Nat.reduceLT,Nat.reduceAdd,Nat.reduceLeDiff,reduceCtorEq,goInt,pairs,isConst,TI.isAgg,splice,boxS,Edp,dpv,Nat.beq_eq,ZV.val,List.any_cons,List.any_nil,Bool.false_and,AHeap.get_set_same,not_bool,Bool.not_true]
  exact downS_here (hq _ ((k1.trans (((Kept.refl _ []).setD hb).setD hb))))
theorem specNumR {v : Value} {l : List Pr} {id n : Int} (hl : DL propC 4 v l) (hs : l.length ≤ 100000) (hq : ∀ σ',Kept σ [] σ' [] → Q (.int .i64 (numV (getP l id) n)) σ') : CallS E B 50 [v,.int .i64 id,.int .i64 n] σ Q := by
 refine call50 (by simp) ?_
 simp only [strip,bodyOf,Tryz.f50,getD_body,keepN,bareOp_mk,lessOp_mk,lapp_cons,lapp_nil,List.map_cons,List.map_nil,array_toList,↓reduceIte,Nat.reduceEqDiff,Bool.false_eq_true]
 simp (disch := first | assumption | simp) only [↓sbD,sbU,tyB,Nat.reduceMul,Nat.reduceSub,Int.reduceEq,Int.reduceLT,Int.reduceLE,Int.reduceNe,Nat.reduceBneDiff,Nat.reduceBEq,decide_false,gt_iff_lt,Bool.or_self,Bool.false_eq_true,Nat.mul_one,Nat.one_mul,Nat.zero_mul,↓reduceIte,Nat.reduceEqDiff,Nat.reduceLT,Nat.reduceAdd,Nat.reduceLeDiff,reduceCtorEq,goInt,pairs,isConst,TI.isAgg,splice,boxS,Edp,dpv,Nat.beq_eq,ZV.val,List.any_cons,List.any_nil,Bool.false_and]
 refine specGetR hl hs fun σ1 k1 => ?_
 cases hg : getP l id with
 | none =>
  rw [hg] at hq
  simp only [getV,propC,prz,Option.getD_none,Option.isSome_none]
  simp (disch := first | assumption | simp) only [↓sbD,sbU,tyB,Nat.reduceMul,Nat.reduceSub,Int.reduceEq,Int.reduceLT,Int.reduceLE,Int.reduceNe,Nat.reduceBneDiff,Nat.reduceBEq,decide_false,gt_iff_lt,Bool.or_self,Bool.false_eq_true,Nat.mul_one,Nat.one_mul,Nat.zero_mul,↓reduceIte,Nat.reduceEqDiff,Nat.reduceLT,Nat.reduceAdd,Nat.reduceLeDiff,reduceCtorEq,goInt,pairs,isConst,TI.isAgg,splice,boxS,Edp,dpv,Nat.beq_eq,ZV.val,List.any_cons,List.any_nil,Bool.false_and,AS_new,zePr]
  intro b hb
  try simp (disch := first | assumption | simp) only [↓sbD,sbU,tyB,Nat.reduceMul,Nat.reduceSub,Int.reduceEq,Int.reduceLT,Int.reduceLE,Int.reduceNe,Nat.reduceBneDiff,Nat.reduceBEq,decide_false,gt_iff_lt,Bool.or_self,Bool.false_eq_true,Nat.mul_one,Nat.one_mul,Nat.zero_mul,↓reduceIte,Nat.reduceEqDiff,Nat.reduceLT,Nat.reduceAdd,Nat.reduceLeDiff,reduceCtorEq,goInt,pairs,isConst,TI.isAgg,splice,boxS,Edp,dpv,Nat.beq_eq,ZV.val,List.any_cons,List.any_nil,Bool.false_and,AHeap.get_set_same,not_bool,Bool.not_false]
  exact downS_here (hq _ ((k1.trans (((Kept.refl _ []).setD hb).setD hb))))
 | some p =>
  rw [hg] at hq
  simp only [getV,propC,Option.getD_some,Option.isSome_some]
  simp (disch := first | assumption | simp) only [↓sbD,sbU,tyB,Nat.reduceMul,Nat.reduceSub,Int.reduceEq,Int.reduceLT,Int.reduceLE,Int.reduceNe,Nat.reduceBneDiff,Nat.reduceBEq,decide_false,gt_iff_lt,Bool.or_self,Bool.false_eq_true,Nat.mul_one,Nat.one_mul,Nat.zero_mul,↓reduceIte,Nat.reduceEqDiff,Nat.reduceLT,Nat.reduceAdd,Nat.reduceLeDiff,reduceCtorEq,goInt,pairs,isConst,TI.isAgg,splice,boxS,Edp,dpv,Nat.beq_eq,ZV.val,List.any_cons,List.any_nil,Bool.false_and,AS_new,zePr]
  intro b hb
  try simp (disch := first | assumption | simp) only [↓sbD,sbU,tyB,Nat.reduceMul,Nat.reduceSub,Int.reduceEq,Int.reduceLT,Int.reduceLE,Int.reduceNe,Nat.reduceBneDiff,Nat.reduceBEq,decide_false,gt_iff_lt,Bool.or_self,Bool.false_eq_true,Nat.mul_one,Nat.one_mul,Nat.zero_mul,↓reduceIte,Nat.reduceEqDiff,Nat.reduceLT,Nat.reduceAdd,Nat.reduceLeDiff,reduceCtorEq,goInt,pairs,isConst,TI.isAgg,splice,boxS,Edp,dpv,Nat.beq_eq,ZV.val,List.any_cons,List.any_nil,Bool.false_and,AHeap.get_set_same,not_bool,Bool.not_true]
  exact downS_here (hq _ ((k1.trans (((Kept.refl _ []).setD hb).setD hb))))
end
set_option maxHeartbeats 2000000
section
variable {σ : AHeap} {Q : Value → AHeap → Prop} {r p : Nat} {s : ByteArray}
end
section
variable {σ : AHeap} {Q : Value → AHeap → Prop} {r p : Nat} {s : ByteArray}
end
section
variable {σ : AHeap} {Q : Value → AHeap → Prop} {r : Nat} {s : ByteArray} {p : Nat}
end
set_option maxHeartbeats 4000000
section
variable {σ : AHeap} {Q : Value → AHeap → Prop}
end
end Go.Proofs.YtkhcbbpfchgemaaGreatDoor.AbsA
