/-
  Parts of a law's proof.
-/
import Derived.Test.YtdiekikcnfjlnaaGreatDoorARdqbJ
import Derived.Test.YtdiekikcnfjlnaaGreatDoorAFwqdJ
namespace Go.Proofs.YtdiekikcnfjlnaaGreatDoor.AbsA
open Go AbsYtdiekikcnfjlnaaGreatDoor Abs
set_option maxRecDepth 100000
set_option maxHeartbeats 4000000
set_option linter.unusedSimpArgs false
set_option linter.unusedVariables false
set_option maxHeartbeats 2000000
structure Pr where
 id : Int
 n : Int
 s : ByteArray
 v : ByteArray
deriving DecidableEq
def propC (p : Pr) : List Value := [.int .i64 p.id,.int .i64 p.n,.string p.s,.string p.v]
def ids : List Int := [1,2,3,8,9,11,17,18,19,21,22,23,24,25,26,28,31,33,34,35,36,37,38,39,40,41,42]
def typI (id : Int) : Int :=
 if id = 1 ∨ id = 23 ∨ id = 25 ∨ id = 36 ∨ id = 37 ∨ id = 40 ∨ id = 41 ∨ id = 42 then 1
 else if id = 19 ∨ id = 33 ∨ id = 34 ∨ id = 35 then 2
 else if id = 2 ∨ id = 17 ∨ id = 24 ∨ id = 39 then 4
 else if id = 11 then 5
 else if id = 3 ∨ id = 8 ∨ id = 18 ∨ id = 21 ∨ id = 26 ∨ id = 28 ∨ id = 31 then 6
 else if id = 9 ∨ id = 22 then 7
 else if id = 38 then 9 else 0
def allow (id pl : Int) : Bool :=
 if id = 1 ∨ id = 2 ∨ id = 3 ∨ id = 8 ∨ id = 9 then decide (pl = 3 ∨ pl = 16)
 else if id = 11 then decide (pl = 3 ∨ pl = 8)
 else if id = 35 then decide (pl = 3)
 else if id = 24 then decide (pl = 16)
 else if id = 23 ∨ id = 25 then decide (pl = 1)
 else if id = 18 ∨ id = 19 ∨ id = 26 ∨ id = 36 ∨ id = 37 ∨ id = 40 ∨ id = 41 ∨ id = 42 then decide (pl = 2)
 else if id = 28 then decide (pl = 2 ∨ pl = 14)
 else if id = 33 ∨ id = 34 ∨ id = 39 then decide (pl = 1 ∨ pl = 2)
 else if id = 17 then decide (pl = 1 ∨ pl = 2 ∨ pl = 14)
 else if id = 21 ∨ id = 22 then decide (pl = 1 ∨ pl = 2 ∨ pl = 15)
 else if id = 31 then decide (pl = 2 ∨ pl = 4 ∨ pl = 5 ∨ pl = 6 ∨ pl = 7 ∨ pl = 9 ∨ pl = 11 ∨ pl = 14 ∨ pl = 15)
 else if id = 38 then decide (1 ≤ pl ∧ pl ≤ 16 ∧ pl ≠ 12 ∧ pl ≠ 13)
 else false
set_option maxHeartbeats 8000000
attribute [local irreducible] afterS afterOpS opSK OpsS TrS CodeS condS condW thenS thenQ guardS guardTS outS drawS trSK consS
section
variable {σ : AHeap} {Q : Value → AHeap → Prop}
theorem specType {id : Int} (h : Q (.int .i64 (typI id)) σ) : CallS E B 8 [.int .i64 id] σ Q := by
 refine call8 (by simp) ?_
 simp only [strip,bodyOf,Tryz.f8,getD_body,keepN,bareOp_mk,lessOp_mk,lapp_cons,lapp_nil,List.map_cons,List.map_nil,array_toList,↓reduceIte,Nat.reduceEqDiff,Bool.false_eq_true]
 by_cases hm : id ∈ ids
 ·simp only [ids,List.mem_cons,List.not_mem_nil,or_false] at hm
  rcases hm with rfl | rfl | rfl | rfl | rfl | rfl | rfl | rfl | rfl | rfl | rfl | rfl | rfl | rfl | rfl | rfl | rfl | rfl | rfl | rfl | rfl | rfl | rfl | rfl | rfl | rfl | rfl <;>
   (simp (disch := first | assumption | simp) only [↓sbD,sbU,tyB,Nat.reduceMul,Nat.reduceSub,Int.reduceEq,Int.reduceLT,Int.reduceLE,Int.reduceNe,Nat.reduceBneDiff,Nat.reduceBEq,decide_false,gt_iff_lt,Bool.or_self,Bool.false_eq_true,Nat.mul_one,Nat.one_mul,Nat.zero_mul,↓reduceIte,Nat.reduceEqDiff,Nat.reduceLT,Nat.reduceAdd,Nat.reduceLeDiff,reduceCtorEq,goInt,pairs,isConst,TI.isAgg,splice,boxS,Edp,dpv,Nat.beq_eq,ZV.val,List.any_cons,List.any_nil,Bool.false_and]
    exact downS_here h)
 ·simp only [ids,List.mem_cons,List.not_mem_nil,or_false,not_or] at hm
  have e : typI id = 0 := by simp [typI,hm]
  rw [e] at h
  obtain ⟨n1,n2,n3,n4,n5,n6,n7,n8,n9,n10,n11,n12,n13,n14,n15,n16,n17,n18,n19,n20,n21,n22,n23,n24,n25,n26,n27⟩ := hm
  simp (disch := first | assumption | simp) only [↓sbD,sbU,tyB,Nat.reduceMul,Nat.reduceSub,Int.reduceEq,Int.reduceLT,Int.reduceLE,Int.reduceNe,Nat.reduceBneDiff,Nat.reduceBEq,decide_false,gt_iff_lt,Bool.or_self,Bool.false_eq_true,Nat.mul_one,Nat.one_mul,Nat.zero_mul,↓reduceIte,Nat.reduceEqDiff,Nat.reduceLT,Nat.reduceAdd,Nat.reduceLeDiff,reduceCtorEq,goInt,pairs,isConst,TI.isAgg,splice,boxS,Edp,dpv,Nat.beq_eq,ZV.val,List.any_cons,List.any_nil,Bool.false_and,n1,n2,n3,n4,n5,n6,n7,n8,n9,n10,n11,n12,n13,n14,n15,n16,n17,n18,n19,n20,n21,n22,n23,n24,n25,n26,n27]
  exact downS_here h
end
section
variable {σ : AHeap} {Q : Value → AHeap → Prop}
def intC (n : Int) : List Value := [.int .i64 n]
theorem DLi.len {v : Value} {l : List Int} (h : DL intC 1 v l) (σ : AHeap) : abuiltin E σ .len [49] [v] = some (.int .i64 (l.length : Int),σ) := by
 rcases h with ⟨rfl,rfl⟩ | ⟨m,rfl⟩ <;> rfl
theorem DLi.at {v : Value} {l : List Int} (h : DL intC 1 v l) {i : Nat} (hi : i < l.length) : aindexAddr E 49 v (.int .i64 (i : Int)) = some (dptr (intC l[i] ++ (l.drop (i + 1)).flatMap intC)) := by
 rcases h with ⟨rfl,rfl⟩ | ⟨m,rfl⟩
 ·simp at hi
 ·rw [ia_dsl hi,drop_flat (enc := intC) (sz := 1) (fun a => rfl) hi]; rfl
theorem specIndexI {v : Value} {l : List Int} {x : Int} (hl : DL intC 1 v l) (hs : l.length ≤ 100000) (hin : x ∈ l → ∀ i : Nat,Q (.int .i64 (i : Int)) σ) (hout : x ∉ l → Q (.int .i64 (-1)) σ) : CallS E B 43 [v,.int .i64 x] σ Q := by
 have hlen := DLi.len hl
 refine call43 (by simp) ?_
 simp only [strip,bodyOf,Tryz.f43,getD_body,keepN,bareOp_mk,lessOp_mk,lapp_cons,lapp_nil,List.map_cons,List.map_nil,array_toList,↓reduceIte,Nat.reduceEqDiff,Bool.false_eq_true]
 simp (disch := first | assumption | simp) only [↓sbD,sbU,tyB,Nat.reduceMul,Nat.reduceSub,Int.reduceEq,Int.reduceLT,Int.reduceLE,Int.reduceNe,Nat.reduceBneDiff,Nat.reduceBEq,decide_false,gt_iff_lt,Bool.or_self,Bool.false_eq_true,Nat.mul_one,Nat.one_mul,Nat.zero_mul,↓reduceIte,Nat.reduceEqDiff,Nat.reduceLT,Nat.reduceAdd,Nat.reduceLeDiff,reduceCtorEq,goInt,pairs,isConst,TI.isAgg,splice,boxS,Edp,dpv,Nat.beq_eq,ZV.val,List.any_cons,List.any_nil,Bool.false_and,hlen]
 refine S_loop (fun m f σ' => σ' = σ ∧ ∃ i : Nat,m + i = l.length ∧ f 8 = .int .i64 i ∧ ∀ j (hj : j < l.length),j < i → x ≠ l[j]) l.length (Le.refl _) ⟨rfl,0,rfl,by simp (disch := first | assumption | simp) only [↓sbD,sbU,tyB,Nat.reduceMul,Nat.reduceSub,Int.reduceEq,Int.reduceLT,Int.reduceLE,Int.reduceNe,Nat.reduceBneDiff,Nat.reduceBEq,decide_false,gt_iff_lt,Bool.or_self,Bool.false_eq_true,Nat.mul_one,Nat.one_mul,Nat.zero_mul,↓reduceIte,Nat.reduceEqDiff,Nat.reduceLT,Nat.reduceAdd,Nat.reduceLeDiff,reduceCtorEq,goInt,pairs,isConst,TI.isAgg,splice,boxS,Edp,dpv,Nat.beq_eq,ZV.val,List.any_cons,List.any_nil,Bool.false_and]; rfl,fun j _ hj => by omega⟩ ?_
 rintro m f σ' ⟨rfl,i,hm,f8,hno⟩ hf
 have f0 := hf 0 (by decide) (notMem_wr (by kernel_rfl))
 have f1 := hf 1 (by decide) (notMem_wr (by kernel_rfl))
 have f7 := hf 7 (by decide) (notMem_wr (by kernel_rfl))
 simp (disch := first | assumption | simp) only [↓sbD,sbU,tyB,Nat.reduceMul,Nat.reduceSub,Int.reduceEq,Int.reduceLT,Int.reduceLE,Int.reduceNe,Nat.reduceBneDiff,Nat.reduceBEq,decide_false,gt_iff_lt,Bool.or_self,Bool.false_eq_true,Nat.mul_one,Nat.one_mul,Nat.zero_mul,↓reduceIte,Nat.reduceEqDiff,Nat.reduceLT,Nat.reduceAdd,Nat.reduceLeDiff,reduceCtorEq,goInt,pairs,isConst,TI.isAgg,splice,boxS,Edp,dpv,Nat.beq_eq,ZV.val,List.any_cons,List.any_nil,Bool.false_and] at f0 f1 f7
 clear hf
 by_cases hi : (i : Int) < (l.length : Int)
 ·have hi' : i < l.length := by omega
  have hia := DLi.at hl hi'
  have hw := wrap_suc (n := i) (by omega)
  by_cases he : x = l[i]
  ·simp (disch := first | assumption | simp) only [↓sbD,sbU,tyB,Nat.reduceMul,Nat.reduceSub,Int.reduceEq,Int.reduceLT,Int.reduceLE,Int.reduceNe,Nat.reduceBneDiff,Nat.reduceBEq,decide_false,gt_iff_lt,Bool.or_self,Bool.false_eq_true,Nat.mul_one,Nat.one_mul,Nat.zero_mul,↓reduceIte,Nat.reduceEqDiff,Nat.reduceLT,Nat.reduceAdd,Nat.reduceLeDiff,reduceCtorEq,goInt,pairs,isConst,TI.isAgg,splice,boxS,Edp,dpv,Nat.beq_eq,ZV.val,List.any_cons,List.any_nil,Bool.false_and,f0,f1,f7,f8,hi,hia,intC,he]
   exact downS_here (hin (by rw [he]; exact List.getElem_mem hi') i)
  ·simp (disch := first | assumption | simp) only [↓sbD,sbU,tyB,Nat.reduceMul,Nat.reduceSub,Int.reduceEq,Int.reduceLT,Int.reduceLE,Int.reduceNe,Nat.reduceBneDiff,Nat.reduceBEq,decide_false,gt_iff_lt,Bool.or_self,Bool.false_eq_true,Nat.mul_one,Nat.one_mul,Nat.zero_mul,↓reduceIte,Nat.reduceEqDiff,Nat.reduceLT,Nat.reduceAdd,Nat.reduceLeDiff,reduceCtorEq,goInt,pairs,isConst,TI.isAgg,splice,boxS,Edp,dpv,Nat.beq_eq,ZV.val,List.any_cons,List.any_nil,Bool.false_and,f0,f1,f7,f8,hi,hia,intC,he,hw]
   refine ⟨_,m - 1,_,rfl,by omega,Le.refl _,rfl,i + 1,by omega,by simp (disch := first | assumption | simp) only [↓sbD,sbU,tyB,Nat.reduceMul,Nat.reduceSub,Int.reduceEq,Int.reduceLT,Int.reduceLE,Int.reduceNe,Nat.reduceBneDiff,Nat.reduceBEq,decide_false,gt_iff_lt,Bool.or_self,Bool.false_eq_true,Nat.mul_one,Nat.one_mul,Nat.zero_mul,↓reduceIte,Nat.reduceEqDiff,Nat.reduceLT,Nat.reduceAdd,Nat.reduceLeDiff,reduceCtorEq,goInt,pairs,isConst,TI.isAgg,splice,boxS,Edp,dpv,Nat.beq_eq,ZV.val,List.any_cons,List.any_nil,Bool.false_and],fun j hj hji => ?_⟩
   rcases (by omega : j < i ∨ j = i) with h3 | rfl
   ·exact hno j hj h3
   ·exact he
 ·simp (disch := first | assumption | simp) only [↓sbD,sbU,tyB,Nat.reduceMul,Nat.reduceSub,Int.reduceEq,Int.reduceLT,Int.reduceLE,Int.reduceNe,Nat.reduceBneDiff,Nat.reduceBEq,decide_false,gt_iff_lt,Bool.or_self,Bool.false_eq_true,Nat.mul_one,Nat.one_mul,Nat.zero_mul,↓reduceIte,Nat.reduceEqDiff,Nat.reduceLT,Nat.reduceAdd,Nat.reduceLeDiff,reduceCtorEq,goInt,pairs,isConst,TI.isAgg,splice,boxS,Edp,dpv,Nat.beq_eq,ZV.val,List.any_cons,List.any_nil,Bool.false_and,f0,f1,f7,f8,hi]
  refine downS_here (hout fun hx => ?_)
  obtain ⟨j,hj,rfl⟩ := List.getElem_of_mem hx
  exact hno j hj (by omega) rfl
theorem specContainsI {v : Value} {l : List Int} {x : Int} (hl : DL intC 1 v l) (hs : l.length ≤ 100000) (h : Q (.bool (decide (x ∈ l))) σ) : CallS E B 24 [v,.int .i64 x] σ Q := by
 refine call24 (by simp) ?_
 simp only [strip,bodyOf,Tryz.f24,getD_body,keepN,bareOp_mk,lessOp_mk,lapp_cons,lapp_nil,List.map_cons,List.map_nil,array_toList,↓reduceIte,Nat.reduceEqDiff,Bool.false_eq_true]
 simp (disch := first | assumption | simp) only [↓sbD,sbU,tyB,Nat.reduceMul,Nat.reduceSub,Int.reduceEq,Int.reduceLT,Int.reduceLE,Int.reduceNe,Nat.reduceBneDiff,Nat.reduceBEq,decide_false,gt_iff_lt,Bool.or_self,Bool.false_eq_true,Nat.mul_one,Nat.one_mul,Nat.zero_mul,↓reduceIte,Nat.reduceEqDiff,Nat.reduceLT,Nat.reduceAdd,Nat.reduceLeDiff,reduceCtorEq,goInt,pairs,isConst,TI.isAgg,splice,boxS,Edp,dpv,Nat.beq_eq,ZV.val,List.any_cons,List.any_nil,Bool.false_and]
 refine specIndexI hl hs (fun hx i => ?_) fun hx => ?_
 ·have h0 : (0 : Int) ≤ (i : Int) := by omega
  simp (disch := first | assumption | simp) only [↓sbD,sbU,tyB,Nat.reduceMul,Nat.reduceSub,Int.reduceEq,Int.reduceLT,Int.reduceLE,Int.reduceNe,Nat.reduceBneDiff,Nat.reduceBEq,decide_false,gt_iff_lt,Bool.or_self,Bool.false_eq_true,Nat.mul_one,Nat.one_mul,Nat.zero_mul,↓reduceIte,Nat.reduceEqDiff,Nat.reduceLT,Nat.reduceAdd,Nat.reduceLeDiff,reduceCtorEq,goInt,pairs,isConst,TI.isAgg,splice,boxS,Edp,dpv,Nat.beq_eq,ZV.val,List.any_cons,List.any_nil,Bool.false_and,h0]
  exact downS_here (by simpa [hx] using h)
 ·simp (disch := first | assumption | simp) only [↓sbD,sbU,tyB,Nat.reduceMul,Nat.reduceSub,Int.reduceEq,Int.reduceLT,Int.reduceLE,Int.reduceNe,Nat.reduceBneDiff,Nat.reduceBEq,decide_false,gt_iff_lt,Bool.or_self,Bool.false_eq_true,Nat.mul_one,Nat.one_mul,Nat.zero_mul,↓reduceIte,Nat.reduceEqDiff,Nat.reduceLT,Nat.reduceAdd,Nat.reduceLeDiff,reduceCtorEq,goInt,pairs,isConst,TI.isAgg,splice,boxS,Edp,dpv,Nat.beq_eq,ZV.val,List.any_cons,List.any_nil,Bool.false_and]
  exact downS_here (by simpa [hx] using h)
theorem specAllowed {id pl : Int} (h : Q (.bool (allow id pl)) σ) : CallS E B 10 [.int .i64 id,.int .i64 pl] σ Q := by
 refine call10 (by simp) ?_
 simp only [strip,bodyOf,Tryz.f10,getD_body,keepN,bareOp_mk,lessOp_mk,lapp_cons,lapp_nil,List.map_cons,List.map_nil,array_toList,↓reduceIte,Nat.reduceEqDiff,Bool.false_eq_true]
 by_cases hm : id ∈ ids
 rotate_left
 ·simp only [ids,List.mem_cons,List.not_mem_nil,or_false,not_or] at hm
  have e : allow id pl = false := by simp [allow,hm]
  rw [e] at h
  obtain ⟨n1,n2,n3,n4,n5,n6,n7,n8,n9,n10,n11,n12,n13,n14,n15,n16,n17,n18,n19,n20,n21,n22,n23,n24,n25,n26,n27⟩ := hm
  simp (disch := first | assumption | simp) only [↓sbD,sbU,tyB,Nat.reduceMul,Nat.reduceSub,Int.reduceEq,Int.reduceLT,Int.reduceLE,Int.reduceNe,Nat.reduceBneDiff,Nat.reduceBEq,decide_false,gt_iff_lt,Bool.or_self,Bool.false_eq_true,Nat.mul_one,Nat.one_mul,Nat.zero_mul,↓reduceIte,Nat.reduceEqDiff,Nat.reduceLT,Nat.reduceAdd,Nat.reduceLeDiff,reduceCtorEq,goInt,pairs,isConst,TI.isAgg,splice,boxS,Edp,dpv,Nat.beq_eq,ZV.val,List.any_cons,List.any_nil,Bool.false_and,n1,n2,n3,n4,n5,n6,n7,n8,n9,n10,n11,n12,n13,n14,n15,n16,n17,n18,n19,n20,n21,n22,n23,n24,n25,n26,n27]
  exact downS_here h
 have hm2 : (id = 1 ∨ id = 2 ∨ id = 3 ∨ id = 8 ∨ id = 9) ∨ id = 11 ∨ id = 35 ∨ id = 24 ∨ (id = 23 ∨ id = 25) ∨ (id = 18 ∨ id = 19 ∨ id = 26 ∨ id = 36 ∨ id = 37 ∨ id = 40 ∨ id = 41 ∨ id = 42) ∨ id = 28 ∨ (id = 33 ∨ id = 34 ∨ id = 39) ∨ id = 17 ∨ (id = 21 ∨ id = 22) ∨ id = 31 ∨ id = 38 := by
  simp only [ids,List.mem_cons,List.not_mem_nil,or_false] at hm
  omega
 rcases hm2 with hm | rfl | rfl | rfl | hm | hm | rfl | hm | rfl | hm | rfl | rfl
 ·by_cases p3 : pl = 3
  ·rcases hm with rfl | rfl | rfl | rfl | rfl <;> (simp (disch := first | assumption | simp) only [↓sbD,sbU,tyB,Nat.reduceMul,Nat.reduceSub,Int.reduceEq,Int.reduceLT,Int.reduceLE,Int.reduceNe,Nat.reduceBneDiff,Nat.reduceBEq,decide_false,gt_iff_lt,Bool.or_self,Bool.false_eq_true,Nat.mul_one,Nat.one_mul,Nat.zero_mul,↓reduceIte,Nat.reduceEqDiff,Nat.reduceLT,Nat.reduceAdd,Nat.reduceLeDiff,reduceCtorEq,goInt,pairs,isConst,TI.isAgg,splice,boxS,Edp,dpv,Nat.beq_eq,ZV.val,List.any_cons,List.any_nil,Bool.false_and,p3]; exact downS_here (by simpa [allow,p3] using h))
  by_cases p16 : pl = 16
  ·rcases hm with rfl | rfl | rfl | rfl | rfl <;> (simp (disch := first | assumption | simp) only [↓sbD,sbU,tyB,Nat.reduceMul,Nat.reduceSub,Int.reduceEq,Int.reduceLT,Int.reduceLE,Int.reduceNe,Nat.reduceBneDiff,Nat.reduceBEq,decide_false,gt_iff_lt,Bool.or_self,Bool.false_eq_true,Nat.mul_one,Nat.one_mul,Nat.zero_mul,↓reduceIte,Nat.reduceEqDiff,Nat.reduceLT,Nat.reduceAdd,Nat.reduceLeDiff,reduceCtorEq,goInt,pairs,isConst,TI.isAgg,splice,boxS,Edp,dpv,Nat.beq_eq,ZV.val,List.any_cons,List.any_nil,Bool.false_and,p16]; exact downS_here (by simpa [allow,p16] using h))
  ·rcases hm with rfl | rfl | rfl | rfl | rfl <;> (simp (disch := first | assumption | simp) only [↓sbD,sbU,tyB,Nat.reduceMul,Nat.reduceSub,Int.reduceEq,Int.reduceLT,Int.reduceLE,Int.reduceNe,Nat.reduceBneDiff,Nat.reduceBEq,decide_false,gt_iff_lt,Bool.or_self,Bool.false_eq_true,Nat.mul_one,Nat.one_mul,Nat.zero_mul,↓reduceIte,Nat.reduceEqDiff,Nat.reduceLT,Nat.reduceAdd,Nat.reduceLeDiff,reduceCtorEq,goInt,pairs,isConst,TI.isAgg,splice,boxS,Edp,dpv,Nat.beq_eq,ZV.val,List.any_cons,List.any_nil,Bool.false_and,p3,p16]; exact downS_here (by simpa [allow,p3,p16] using h))
 ·by_cases p3 : pl = 3
  ·simp (disch := first | assumption | simp) only [↓sbD,sbU,tyB,Nat.reduceMul,Nat.reduceSub,Int.reduceEq,Int.reduceLT,Int.reduceLE,Int.reduceNe,Nat.reduceBneDiff,Nat.reduceBEq,decide_false,gt_iff_lt,Bool.or_self,Bool.false_eq_true,Nat.mul_one,Nat.one_mul,Nat.zero_mul,↓reduceIte,Nat.reduceEqDiff,Nat.reduceLT,Nat.reduceAdd,Nat.reduceLeDiff,reduceCtorEq,goInt,pairs,isConst,TI.isAgg,splice,boxS,Edp,dpv,Nat.beq_eq,ZV.val,List.any_cons,List.any_nil,Bool.false_and,p3]; exact downS_here (by simpa [allow,p3] using h)
  by_cases p8 : pl = 8
  ·simp (disch := first | assumption | simp) only [↓sbD,sbU,tyB,Nat.reduceMul,Nat.reduceSub,Int.reduceEq,Int.reduceLT,Int.reduceLE,Int.reduceNe,Nat.reduceBneDiff,Nat.reduceBEq,decide_false,gt_iff_lt,Bool.or_self,Bool.false_eq_true,Nat.mul_one,Nat.one_mul,Nat.zero_mul,↓reduceIte,Nat.reduceEqDiff,Nat.reduceLT,Nat.reduceAdd,Nat.reduceLeDiff,reduceCtorEq,goInt,pairs,isConst,TI.isAgg,splice,boxS,Edp,dpv,Nat.beq_eq,ZV.val,List.any_cons,List.any_nil,Bool.false_and,p8]; exact downS_here (by simpa [allow,p8] using h)
  ·simp (disch := first | assumption | simp) only [↓sbD,sbU,tyB,Nat.reduceMul,Nat.reduceSub,Int.reduceEq,Int.reduceLT,Int.reduceLE,Int.reduceNe,Nat.reduceBneDiff,Nat.reduceBEq,decide_false,gt_iff_lt,Bool.or_self,Bool.false_eq_true,Nat.mul_one,Nat.one_mul,Nat.zero_mul,↓reduceIte,Nat.reduceEqDiff,Nat.reduceLT,Nat.reduceAdd,Nat.reduceLeDiff,reduceCtorEq,goInt,pairs,isConst,TI.isAgg,splice,boxS,Edp,dpv,Nat.beq_eq,ZV.val,List.any_cons,List.any_nil,Bool.false_and,p3,p8]; exact downS_here (by simpa [allow,p3,p8] using h)
 ·by_cases p3 : pl = 3
  ·simp (disch := first | assumption | simp) only [↓sbD,sbU,tyB,Nat.reduceMul,Nat.reduceSub,Int.reduceEq,Int.reduceLT,Int.reduceLE,Int.reduceNe,Nat.reduceBneDiff,Nat.reduceBEq,decide_false,gt_iff_lt,Bool.or_self,Bool.false_eq_true,Nat.mul_one,Nat.one_mul,Nat.zero_mul,↓reduceIte,Nat.reduceEqDiff,Nat.reduceLT,Nat.reduceAdd,Nat.reduceLeDiff,reduceCtorEq,goInt,pairs,isConst,TI.isAgg,splice,boxS,Edp,dpv,Nat.beq_eq,ZV.val,List.any_cons,List.any_nil,Bool.false_and,p3]; exact downS_here (by simpa [allow,p3] using h)
  ·simp (disch := first | assumption | simp) only [↓sbD,sbU,tyB,Nat.reduceMul,Nat.reduceSub,Int.reduceEq,Int.reduceLT,Int.reduceLE,Int.reduceNe,Nat.reduceBneDiff,Nat.reduceBEq,decide_false,gt_iff_lt,Bool.or_self,Bool.false_eq_true,Nat.mul_one,Nat.one_mul,Nat.zero_mul,↓reduceIte,Nat.reduceEqDiff,Nat.reduceLT,Nat.reduceAdd,Nat.reduceLeDiff,reduceCtorEq,goInt,pairs,isConst,TI.isAgg,splice,boxS,Edp,dpv,Nat.beq_eq,ZV.val,List.any_cons,List.any_nil,Bool.false_and,p3]; exact downS_here (by simpa [allow,p3] using h)
 ·by_cases p3 : pl = 16
  ·simp (disch := first | assumption | simp) only [↓sbD,sbU,tyB,Nat.reduceMul,Nat.reduceSub,Int.reduceEq,Int.reduceLT,Int.reduceLE,Int.reduceNe,Nat.reduceBneDiff,Nat.reduceBEq,decide_false,gt_iff_lt,Bool.or_self,Bool.false_eq_true,Nat.mul_one,Nat.one_mul,Nat.zero_mul,↓reduceIte,Nat.reduceEqDiff,Nat.reduceLT,Nat.reduceAdd,Nat.reduceLeDiff,reduceCtorEq,goInt,pairs,isConst,TI.isAgg,splice,boxS,Edp,dpv,Nat.beq_eq,ZV.val,List.any_cons,List.any_nil,Bool.false_and,p3]; exact downS_here (by simpa [allow,p3] using h)
  ·simp (disch := first | assumption | simp) only [↓sbD,sbU,tyB,Nat.reduceMul,Nat.reduceSub,Int.reduceEq,Int.reduceLT,Int.reduceLE,Int.reduceNe,Nat.reduceBneDiff,Nat.reduceBEq,decide_false,gt_iff_lt,Bool.or_self,Bool.false_eq_true,Nat.mul_one,Nat.one_mul,Nat.zero_mul,↓reduceIte,Nat.reduceEqDiff,Nat.reduceLT,Nat.reduceAdd,Nat.reduceLeDiff,reduceCtorEq,goInt,pairs,isConst,TI.isAgg,splice,boxS,Edp,dpv,Nat.beq_eq,ZV.val,List.any_cons,List.any_nil,Bool.false_and,p3]; exact downS_here (by simpa [allow,p3] using h)
 ·by_cases p3 : pl = 1
  ·rcases hm with rfl | rfl <;> (simp (disch := first | assumption | simp) only [↓sbD,sbU,tyB,Nat.reduceMul,Nat.reduceSub,Int.reduceEq,Int.reduceLT,Int.reduceLE,Int.reduceNe,Nat.reduceBneDiff,Nat.reduceBEq,decide_false,gt_iff_lt,Bool.or_self,Bool.false_eq_true,Nat.mul_one,Nat.one_mul,Nat.zero_mul,↓reduceIte,Nat.reduceEqDiff,Nat.reduceLT,Nat.reduceAdd,Nat.reduceLeDiff,reduceCtorEq,goInt,pairs,isConst,TI.isAgg,splice,boxS,Edp,dpv,Nat.beq_eq,ZV.val,List.any_cons,List.any_nil,Bool.false_and,p3]; exact downS_here (by simpa [allow,p3] using h))
  ·rcases hm with rfl | rfl <;> (simp (disch := first | assumption | simp) only [↓sbD,sbU,tyB,Nat.reduceMul,Nat.reduceSub,Int.reduceEq,Int.reduceLT,Int.reduceLE,Int.reduceNe,Nat.reduceBneDiff,Nat.reduceBEq,decide_false,gt_iff_lt,Bool.or_self,Bool.false_eq_true,Nat.mul_one,Nat.one_mul,Nat.zero_mul,↓reduceIte,Nat.reduceEqDiff,Nat.reduceLT,Nat.reduceAdd,Nat.reduceLeDiff,reduceCtorEq,goInt,pairs,isConst,TI.isAgg,splice,boxS,Edp,dpv,Nat.beq_eq,ZV.val,List.any_cons,List.any_nil,Bool.false_and,p3]; exact downS_here (by simpa [allow,p3] using h))
 ·by_cases p3 : pl = 2
  ·rcases hm with rfl | rfl | rfl | rfl | rfl | rfl | rfl | rfl <;> (simp (disch := first | assumption | simp) only [↓sbD,sbU,tyB,Nat.reduceMul,Nat.reduceSub,Int.reduceEq,Int.reduceLT,Int.reduceLE,Int.reduceNe,Nat.reduceBneDiff,Nat.reduceBEq,decide_false,gt_iff_lt,Bool.or_self,Bool.false_eq_true,Nat.mul_one,Nat.one_mul,Nat.zero_mul,↓reduceIte,Nat.reduceEqDiff,Nat.reduceLT,Nat.reduceAdd,Nat.reduceLeDiff,reduceCtorEq,goInt,pairs,isConst,TI.isAgg,splice,boxS,Edp,dpv,Nat.beq_eq,ZV.val,List.any_cons,List.any_nil,Bool.false_and,p3]; exact downS_here (by simpa [allow,p3] using h))
  ·rcases hm with rfl | rfl | rfl | rfl | rfl | rfl | rfl | rfl <;> (simp (disch := first | assumption | simp) only [↓sbD,sbU,tyB,Nat.reduceMul,Nat.reduceSub,Int.reduceEq,Int.reduceLT,Int.reduceLE,Int.reduceNe,Nat.reduceBneDiff,Nat.reduceBEq,decide_false,gt_iff_lt,Bool.or_self,Bool.false_eq_true,Nat.mul_one,Nat.one_mul,Nat.zero_mul,↓reduceIte,Nat.reduceEqDiff,Nat.reduceLT,Nat.reduceAdd,Nat.reduceLeDiff,reduceCtorEq,goInt,pairs,isConst,TI.isAgg,splice,boxS,Edp,dpv,Nat.beq_eq,ZV.val,List.any_cons,List.any_nil,Bool.false_and,p3]; exact downS_here (by simpa [allow,p3] using h))
 ·by_cases p3 : pl = 2
  ·simp (disch := first | assumption | simp) only [↓sbD,sbU,tyB,Nat.reduceMul,Nat.reduceSub,Int.reduceEq,Int.reduceLT,Int.reduceLE,Int.reduceNe,Nat.reduceBneDiff,Nat.reduceBEq,decide_false,gt_iff_lt,Bool.or_self,Bool.false_eq_true,Nat.mul_one,Nat.one_mul,Nat.zero_mul,↓reduceIte,Nat.reduceEqDiff,Nat.reduceLT,Nat.reduceAdd,Nat.reduceLeDiff,reduceCtorEq,goInt,pairs,isConst,TI.isAgg,splice,boxS,Edp,dpv,Nat.beq_eq,ZV.val,List.any_cons,List.any_nil,Bool.false_and,p3]; exact downS_here (by simpa [allow,p3] using h)
  by_cases p8 : pl = 14
  ·simp (disch := first | assumption | simp) only [↓sbD,sbU,tyB,Nat.reduceMul,Nat.reduceSub,Int.reduceEq,Int.reduceLT,Int.reduceLE,Int.reduceNe,Nat.reduceBneDiff,Nat.reduceBEq,decide_false,gt_iff_lt,Bool.or_self,Bool.false_eq_true,Nat.mul_one,Nat.one_mul,Nat.zero_mul,↓reduceIte,Nat.reduceEqDiff,Nat.reduceLT,Nat.reduceAdd,Nat.reduceLeDiff,reduceCtorEq,goInt,pairs,isConst,TI.isAgg,splice,boxS,Edp,dpv,Nat.beq_eq,ZV.val,List.any_cons,List.any_nil,Bool.false_and,p8]; exact downS_here (by simpa [allow,p8] using h)
  ·simp (disch := first | assumption | simp) only [↓sbD,sbU,tyB,Nat.reduceMul,Nat.reduceSub,Int.reduceEq,Int.reduceLT,Int.reduceLE,Int.reduceNe,Nat.reduceBneDiff,Nat.reduceBEq,decide_false,gt_iff_lt,Bool.or_self,Bool.false_eq_true,Nat.mul_one,Nat.one_mul,Nat.zero_mul,↓reduceIte,Nat.reduceEqDiff,Nat.reduceLT,Nat.reduceAdd,Nat.reduceLeDiff,reduceCtorEq,goInt,pairs,isConst,TI.isAgg,splice,boxS,Edp,dpv,Nat.beq_eq,ZV.val,List.any_cons,List.any_nil,Bool.false_and,p3,p8]; exact downS_here (by simpa [allow,p3,p8] using h)
 ·by_cases p1 : pl = 1
  ·rcases hm with rfl | rfl | rfl <;> (simp (disch := first | assumption | simp) only [↓sbD,sbU,tyB,Nat.reduceMul,Nat.reduceSub,Int.reduceEq,Int.reduceLT,Int.reduceLE,Int.reduceNe,Nat.reduceBneDiff,Nat.reduceBEq,decide_false,gt_iff_lt,Bool.or_self,Bool.false_eq_true,Nat.mul_one,Nat.one_mul,Nat.zero_mul,↓reduceIte,Nat.reduceEqDiff,Nat.reduceLT,Nat.reduceAdd,Nat.reduceLeDiff,reduceCtorEq,goInt,pairs,isConst,TI.isAgg,splice,boxS,Edp,dpv,Nat.beq_eq,ZV.val,List.any_cons,List.any_nil,Bool.false_and,p1]; exact downS_here (by simpa [allow,p1] using h))
  by_cases p2 : pl = 2
  ·rcases hm with rfl | rfl | rfl <;> (simp (disch := first | assumption | simp) only [↓sbD,sbU,tyB,Nat.reduceMul,Nat.reduceSub,Int.reduceEq,Int.reduceLT,Int.reduceLE,Int.reduceNe,Nat.reduceBneDiff,Nat.reduceBEq,decide_false,gt_iff_lt,Bool.or_self,Bool.false_eq_true,Nat.mul_one,Nat.one_mul,Nat.zero_mul,↓reduceIte,Nat.reduceEqDiff,Nat.reduceLT,Nat.reduceAdd,Nat.reduceLeDiff,reduceCtorEq,goInt,pairs,isConst,TI.isAgg,splice,boxS,Edp,dpv,Nat.beq_eq,ZV.val,List.any_cons,List.any_nil,Bool.false_and,p2]; exact downS_here (by simpa [allow,p2] using h))
  ·rcases hm with rfl | rfl | rfl <;> (simp (disch := first | assumption | simp) only [↓sbD,sbU,tyB,Nat.reduceMul,Nat.reduceSub,Int.reduceEq,Int.reduceLT,Int.reduceLE,Int.reduceNe,Nat.reduceBneDiff,Nat.reduceBEq,decide_false,gt_iff_lt,Bool.or_self,Bool.false_eq_true,Nat.mul_one,Nat.one_mul,Nat.zero_mul,↓reduceIte,Nat.reduceEqDiff,Nat.reduceLT,Nat.reduceAdd,Nat.reduceLeDiff,reduceCtorEq,goInt,pairs,isConst,TI.isAgg,splice,boxS,Edp,dpv,Nat.beq_eq,ZV.val,List.any_cons,List.any_nil,Bool.false_and,p1,p2]; exact downS_here (by simpa [allow,p1,p2] using h))
 ·by_cases p1 : pl = 1
  ·simp (disch := first | assumption | simp) only [↓sbD,sbU,tyB,Nat.reduceMul,Nat.reduceSub,Int.reduceEq,Int.reduceLT,Int.reduceLE,Int.reduceNe,Nat.reduceBneDiff,Nat.reduceBEq,decide_false,gt_iff_lt,Bool.or_self,Bool.false_eq_true,Nat.mul_one,Nat.one_mul,Nat.zero_mul,↓reduceIte,Nat.reduceEqDiff,Nat.reduceLT,Nat.reduceAdd,Nat.reduceLeDiff,reduceCtorEq,goInt,pairs,isConst,TI.isAgg,splice,boxS,Edp,dpv,Nat.beq_eq,ZV.val,List.any_cons,List.any_nil,Bool.false_and,p1]; exact downS_here (by simpa [allow,p1] using h)
  by_cases p2 : pl = 2
  ·simp (disch := first | assumption | simp) only [↓sbD,sbU,tyB,Nat.reduceMul,Nat.reduceSub,Int.reduceEq,Int.reduceLT,Int.reduceLE,Int.reduceNe,Nat.reduceBneDiff,Nat.reduceBEq,decide_false,gt_iff_lt,Bool.or_self,Bool.false_eq_true,Nat.mul_one,Nat.one_mul,Nat.zero_mul,↓reduceIte,Nat.reduceEqDiff,Nat.reduceLT,Nat.reduceAdd,Nat.reduceLeDiff,reduceCtorEq,goInt,pairs,isConst,TI.isAgg,splice,boxS,Edp,dpv,Nat.beq_eq,ZV.val,List.any_cons,List.any_nil,Bool.false_and,p2]; exact downS_here (by simpa [allow,p2] using h)
  by_cases p3 : pl = 14
  ·simp (disch := first | assumption | simp) only [↓sbD,sbU,tyB,Nat.reduceMul,Nat.reduceSub,Int.reduceEq,Int.reduceLT,Int.reduceLE,Int.reduceNe,Nat.reduceBneDiff,Nat.reduceBEq,decide_false,gt_iff_lt,Bool.or_self,Bool.false_eq_true,Nat.mul_one,Nat.one_mul,Nat.zero_mul,↓reduceIte,Nat.reduceEqDiff,Nat.reduceLT,Nat.reduceAdd,Nat.reduceLeDiff,reduceCtorEq,goInt,pairs,isConst,TI.isAgg,splice,boxS,Edp,dpv,Nat.beq_eq,ZV.val,List.any_cons,List.any_nil,Bool.false_and,p3]; exact downS_here (by simpa [allow,p3] using h)
  ·simp (disch := first | assumption | simp) only [↓sbD,sbU,tyB,Nat.reduceMul,Nat.reduceSub,Int.reduceEq,Int.reduceLT,Int.reduceLE,Int.reduceNe,Nat.reduceBneDiff,Nat.reduceBEq,decide_false,gt_iff_lt,Bool.or_self,Bool.false_eq_true,Nat.mul_one,Nat.one_mul,Nat.zero_mul,↓reduceIte,Nat.reduceEqDiff,Nat.reduceLT,Nat.reduceAdd,Nat.reduceLeDiff,reduceCtorEq,goInt,pairs,isConst,TI.isAgg,splice,boxS,Edp,dpv,Nat.beq_eq,ZV.val,List.any_cons,List.any_nil,Bool.false_and,p1,p2,p3]; exact downS_here (by simpa [allow,p1,p2,p3] using h)
 ·by_cases p1 : pl = 1
  ·rcases hm with rfl | rfl <;> (simp (disch := first | assumption | simp) only [↓sbD,sbU,tyB,Nat.reduceMul,Nat.reduceSub,Int.reduceEq,Int.reduceLT,Int.reduceLE,Int.reduceNe,Nat.reduceBneDiff,Nat.reduceBEq,decide_false,gt_iff_lt,Bool.or_self,Bool.false_eq_true,Nat.mul_one,Nat.one_mul,Nat.zero_mul,↓reduceIte,Nat.reduceEqDiff,Nat.reduceLT,Nat.reduceAdd,Nat.reduceLeDiff,reduceCtorEq,goInt,pairs,isConst,TI.isAgg,splice,boxS,Edp,dpv,Nat.beq_eq,ZV.val,List.any_cons,List.any_nil,Bool.false_and,p1]; exact downS_here (by simpa [allow,p1] using h))
  by_cases p2 : pl = 2
  ·rcases hm with rfl | rfl <;> (simp (disch := first | assumption | simp) only [↓sbD,sbU,tyB,Nat.reduceMul,Nat.reduceSub,Int.reduceEq,Int.reduceLT,Int.reduceLE,Int.reduceNe,Nat.reduceBneDiff,Nat.reduceBEq,decide_false,gt_iff_lt,Bool.or_self,Bool.false_eq_true,Nat.mul_one,Nat.one_mul,Nat.zero_mul,↓reduceIte,Nat.reduceEqDiff,Nat.reduceLT,Nat.reduceAdd,Nat.reduceLeDiff,reduceCtorEq,goInt,pairs,isConst,TI.isAgg,splice,boxS,Edp,dpv,Nat.beq_eq,ZV.val,List.any_cons,List.any_nil,Bool.false_and,p2]; exact downS_here (by simpa [allow,p2] using h))
  by_cases p3 : pl = 15
  ·rcases hm with rfl | rfl <;> (simp (disch := first | assumption | simp) only [↓sbD,sbU,tyB,Nat.reduceMul,Nat.reduceSub,Int.reduceEq,Int.reduceLT,Int.reduceLE,Int.reduceNe,Nat.reduceBneDiff,Nat.reduceBEq,decide_false,gt_iff_lt,Bool.or_self,Bool.false_eq_true,Nat.mul_one,Nat.one_mul,Nat.zero_mul,↓reduceIte,Nat.reduceEqDiff,Nat.reduceLT,Nat.reduceAdd,Nat.reduceLeDiff,reduceCtorEq,goInt,pairs,isConst,TI.isAgg,splice,boxS,Edp,dpv,Nat.beq_eq,ZV.val,List.any_cons,List.any_nil,Bool.false_and,p3]; exact downS_here (by simpa [allow,p3] using h))
  ·rcases hm with rfl | rfl <;> (simp (disch := first | assumption | simp) only [↓sbD,sbU,tyB,Nat.reduceMul,Nat.reduceSub,Int.reduceEq,Int.reduceLT,Int.reduceLE,Int.reduceNe,Nat.reduceBneDiff,Nat.reduceBEq,decide_false,gt_iff_lt,Bool.or_self,Bool.false_eq_true,Nat.mul_one,Nat.one_mul,Nat.zero_mul,↓reduceIte,Nat.reduceEqDiff,Nat.reduceLT,Nat.reduceAdd,Nat.reduceLeDiff,reduceCtorEq,goInt,pairs,isConst,TI.isAgg,splice,boxS,Edp,dpv,Nat.beq_eq,ZV.val,List.any_cons,List.any_nil,Bool.false_and,p1,p2,p3]; exact downS_here (by simpa [allow,p1,p2,p3] using h))
 ·simp (disch := first | assumption | simp) only [↓sbD,sbU,tyB,Nat.reduceMul,Nat.reduceSub,Int.reduceEq,Int.reduceLT,Int.reduceLE,Int.reduceNe,Nat.reduceBneDiff,Nat.reduceBEq,decide_false,gt_iff_lt,Bool.or_self,Bool.false_eq_true,Nat.mul_one,Nat.one_mul,Nat.zero_mul,↓reduceIte,Nat.reduceEqDiff,Nat.reduceLT,Nat.reduceAdd,Nat.reduceLeDiff,reduceCtorEq,goInt,pairs,isConst,TI.isAgg,splice,boxS,Edp,dpv,Nat.beq_eq,ZV.val,List.any_cons,List.any_nil,Bool.false_and]
  refine specContainsI (l := [2,4,5,6,7,9,11,14,15]) (.inr ⟨1,rfl⟩) (by decide) ?_
  simp (disch := first | assumption | simp) only [↓sbD,sbU,tyB,Nat.reduceMul,Nat.reduceSub,Int.reduceEq,Int.reduceLT,Int.reduceLE,Int.reduceNe,Nat.reduceBneDiff,Nat.reduceBEq,decide_false,gt_iff_lt,Bool.or_self,Bool.false_eq_true,Nat.mul_one,Nat.one_mul,Nat.zero_mul,↓reduceIte,Nat.reduceEqDiff,Nat.reduceLT,Nat.reduceAdd,Nat.reduceLeDiff,reduceCtorEq,goInt,pairs,isConst,TI.isAgg,splice,boxS,Edp,dpv,Nat.beq_eq,ZV.val,List.any_cons,List.any_nil,Bool.false_and]
  exact downS_here (by simpa [allow] using h)
 ·by_cases p1 : 1 ≤ pl
  rotate_left
  ·simp (disch := first | assumption | simp) only [↓sbD,sbU,tyB,Nat.reduceMul,Nat.reduceSub,Int.reduceEq,Int.reduceLT,Int.reduceLE,Int.reduceNe,Nat.reduceBneDiff,Nat.reduceBEq,decide_false,gt_iff_lt,Bool.or_self,Bool.false_eq_true,Nat.mul_one,Nat.one_mul,Nat.zero_mul,↓reduceIte,Nat.reduceEqDiff,Nat.reduceLT,Nat.reduceAdd,Nat.reduceLeDiff,reduceCtorEq,goInt,pairs,isConst,TI.isAgg,splice,boxS,Edp,dpv,Nat.beq_eq,ZV.val,List.any_cons,List.any_nil,Bool.false_and,p1]; exact downS_here (by simpa [allow,p1] using h)
  by_cases p2 : pl ≤ 16
  rotate_left
  ·simp (disch := first | assumption | simp) only [↓sbD,sbU,tyB,Nat.reduceMul,Nat.reduceSub,Int.reduceEq,Int.reduceLT,Int.reduceLE,Int.reduceNe,Nat.reduceBneDiff,Nat.reduceBEq,decide_false,gt_iff_lt,Bool.or_self,Bool.false_eq_true,Nat.mul_one,Nat.one_mul,Nat.zero_mul,↓reduceIte,Nat.reduceEqDiff,Nat.reduceLT,Nat.reduceAdd,Nat.reduceLeDiff,reduceCtorEq,goInt,pairs,isConst,TI.isAgg,splice,boxS,Edp,dpv,Nat.beq_eq,ZV.val,List.any_cons,List.any_nil,Bool.false_and,p1,p2]; exact downS_here (by simpa [allow,p1,p2] using h)
  by_cases p3 : pl = 12
  ·simp (disch := first | assumption | simp) only [↓sbD,sbU,tyB,Nat.reduceMul,Nat.reduceSub,Int.reduceEq,Int.reduceLT,Int.reduceLE,Int.reduceNe,Nat.reduceBneDiff,Nat.reduceBEq,decide_false,gt_iff_lt,Bool.or_self,Bool.false_eq_true,Nat.mul_one,Nat.one_mul,Nat.zero_mul,↓reduceIte,Nat.reduceEqDiff,Nat.reduceLT,Nat.reduceAdd,Nat.reduceLeDiff,reduceCtorEq,goInt,pairs,isConst,TI.isAgg,splice,boxS,Edp,dpv,Nat.beq_eq,ZV.val,List.any_cons,List.any_nil,Bool.false_and,p3]; exact downS_here (by simpa [allow,p3] using h)
  by_cases p4 : pl = 13
  ·simp (disch := first | assumption | simp) only [↓sbD,sbU,tyB,Nat.reduceMul,Nat.reduceSub,Int.reduceEq,Int.reduceLT,Int.reduceLE,Int.reduceNe,Nat.reduceBneDiff,Nat.reduceBEq,decide_false,gt_iff_lt,Bool.or_self,Bool.false_eq_true,Nat.mul_one,Nat.one_mul,Nat.zero_mul,↓reduceIte,Nat.reduceEqDiff,Nat.reduceLT,Nat.reduceAdd,Nat.reduceLeDiff,reduceCtorEq,goInt,pairs,isConst,TI.isAgg,splice,boxS,Edp,dpv,Nat.beq_eq,ZV.val,List.any_cons,List.any_nil,Bool.false_and,p4]; exact downS_here (by simpa [allow,p4] using h)
  ·simp (disch := first | assumption | simp) only [↓sbD,sbU,tyB,Nat.reduceMul,Nat.reduceSub,Int.reduceEq,Int.reduceLT,Int.reduceLE,Int.reduceNe,Nat.reduceBneDiff,Nat.reduceBEq,decide_false,gt_iff_lt,Bool.or_self,Bool.false_eq_true,Nat.mul_one,Nat.one_mul,Nat.zero_mul,↓reduceIte,Nat.reduceEqDiff,Nat.reduceLT,Nat.reduceAdd,Nat.reduceLeDiff,reduceCtorEq,goInt,pairs,isConst,TI.isAgg,splice,boxS,Edp,dpv,Nat.beq_eq,ZV.val,List.any_cons,List.any_nil,Bool.false_and,p1,p2,p3,p4]; exact downS_here (by simpa [allow,p1,p2,p3,p4] using h)
end
end Go.Proofs.YtdiekikcnfjlnaaGreatDoor.AbsA
