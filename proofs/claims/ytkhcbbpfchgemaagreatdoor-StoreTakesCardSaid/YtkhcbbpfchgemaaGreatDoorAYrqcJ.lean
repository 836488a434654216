/-
  Parts of a law's proof.
-/
import Derived.Test.YtkhcbbpfchgemaaGreatDoorAPrqhJ
import Derived.Test.YtkhcbbpfchgemaaGreatDoorAPrqcJ
namespace Go.Proofs.YtkhcbbpfchgemaaGreatDoor.AbsA
open Go AbsYtkhcbbpfchgemaaGreatDoor Abs
set_option maxRecDepth 100000
set_option maxHeartbeats 2000000
set_option linter.unusedSimpArgs false
set_option linter.unusedVariables false
attribute [local irreducible] afterS afterOpS opSK OpsS TrS CodeS condS condW thenS thenQ guardS guardTS outS drawS trSK consS
section
variable {σ : AHeap} {Q : Value → AHeap → Prop} {r p : Nat} {s : ByteArray}
theorem varR_k {k q : Nat} (h : varR s p = .error (k,q)) : k ≠ 0 := by
 unfold varR at h
 cases ht : takeF (s.extract p s.size) 4 0 0 with
 | inl a => obtain ⟨m,j⟩ := a; rw [ht] at h; cases h
 | inr e => obtain ⟨j,q'⟩ := e; rw [ht] at h; simp only [Except.error.injEq,Prod.mk.injEq] at h; omega
theorem textR_k {k q : Nat} (h : textR s p = .error (k,q)) : k ≠ 0 := by
 unfold textR at h
 cases hb : binR s p with
 | error e =>
  obtain ⟨j,q'⟩ := e
  rw [hb] at h
  simp only [Except.error.injEq,Prod.mk.injEq] at h
  unfold binR at hb
  cases hn : numR s p 2 with
  | ok a => obtain ⟨n,q2⟩ := a; rw [hn] at hb; have := rawR_k hb; omega
  | error e => obtain ⟨j2,q2⟩ := e; rw [hn] at hb; simp only [Except.error.injEq,Prod.mk.injEq] at hb; have := numR_k hn; omega
 | ok a =>
  obtain ⟨b,q'⟩ := a
  rw [hb] at h
  simp only at h
  cases ht : textF b with
  | inl m => rw [ht] at h; cases h
  | inr e => obtain ⟨j,i⟩ := e; rw [ht] at h; simp only [Except.error.injEq,Prod.mk.injEq] at h; omega
theorem specYVar (hr : IsY σ r s p 0 0) (hp : p ≤ s.size) (hs : s.size ≤ 100000000)
  (hok : ∀ n q,varR s p = .ok (n,q) → ∀ σ',Kept σ [r] σ' [r] → IsY σ' r s q 0 0 → Q (.int .i64 (n : Int)) σ')
  (hbad : ∀ e q,varR s p = .error (e,q) → ∀ σ',Kept σ [r] σ' [r] → IsY σ' r s p (e : Int) (q : Int) → Q (.int .i64 0) σ') : CallS E B 125 [.pointer (some ⟨r,0,none⟩)] σ Q := by
 unfold varR at hok hbad
 have hr' := hr
 unfold IsY at hr'
 have hsl : ∀ τ : AHeap,aslice E τ 9 (.string s) (some (.int .i64 (p : Int))) none none = some (.string (s.extract p s.size)) := fun τ => slice_from ty9 hp
 have hbs : (s.extract p s.size).size ≤ 100000000 := by rw [ByteArray.size_extract]; omega
 have hez : (s.extract p s.size).size = s.size - p := by rw [ByteArray.size_extract]; omega
 have hk := takeF_k (s.extract p s.size) 4 0 0 (by omega)
 refine call125 (by simp) ?_
 simp only [strip,bodyOf,Tryz.f125,getD_body,keepN,bareOp_mk,lessOp_mk,lapp_cons,lapp_nil,List.map_cons,List.map_nil,array_toList,↓reduceIte,Nat.reduceEqDiff,Bool.false_eq_true]
 simp (disch := first | assumption | simp) only [↓sbD,sbU,tyB,Nat.reduceMul,Nat.reduceSub,Int.reduceEq,Int.reduceLT,Int.reduceLE,Int.reduceNe,Nat.reduceBneDiff,Nat.reduceBEq,decide_false,gt_iff_lt,Bool.or_self,Bool.false_eq_true,Nat.mul_one,Nat.one_mul,Nat.zero_mul,↓reduceIte,Nat.reduceEqDiff,Nat.reduceLT,Nat.reduceAdd,Nat.reduceLeDiff,reduceCtorEq,goInt,pairs,isConst,TI.isAgg,splice,boxS,Edp,dpv,Nat.beq_eq,ZV.val,List.any_cons,List.any_nil,Bool.false_and,hr',hsl,Option.map_some,Option.map_none]
 refine specRTake hbs (fun n k ht => ?_) fun k q ht => ?_
 ·rw [ht] at hk hok
  have hk : k ≤ (s.extract p s.size).size := hk
  have hw : IntKind.i64.wrap ((p : Int) + (k : Int)) = ((p + k : Nat) : Int) := by rw [wrap64 ⟨by omega,by omega⟩]; omega
  simp (disch := first | assumption | simp) only [↓sbD,sbU,tyB,Nat.reduceMul,Nat.reduceSub,Int.reduceEq,Int.reduceLT,Int.reduceLE,Int.reduceNe,Nat.reduceBneDiff,Nat.reduceBEq,decide_false,gt_iff_lt,Bool.or_self,Bool.false_eq_true,Nat.mul_one,Nat.one_mul,Nat.zero_mul,↓reduceIte,Nat.reduceEqDiff,Nat.reduceLT,Nat.reduceAdd,Nat.reduceLeDiff,reduceCtorEq,goInt,pairs,isConst,TI.isAgg,splice,boxS,Edp,dpv,Nat.beq_eq,ZV.val,List.any_cons,List.any_nil,Bool.false_and,extract_4,hr',hw]
  exact downS_here (hok n (p + k) rfl _ (Kept.set (by simp)) (AHeap.get_set_same _ _ _))
 ·rw [ht] at hk hbad
  have hk : q ≤ (s.extract p s.size).size + 3 := hk
  have hk0 : ¬ ((k : Int) + 1 = 0) := by omega
  have hw : IntKind.i64.wrap ((p : Int) + (q : Int)) = ((p + q : Nat) : Int) := by rw [wrap64 ⟨by omega,by omega⟩]; omega
  simp (disch := first | assumption | simp) only [↓sbD,sbU,tyB,Nat.reduceMul,Nat.reduceSub,Int.reduceEq,Int.reduceLT,Int.reduceLE,Int.reduceNe,Nat.reduceBneDiff,Nat.reduceBEq,decide_false,gt_iff_lt,Bool.or_self,Bool.false_eq_true,Nat.mul_one,Nat.one_mul,Nat.zero_mul,↓reduceIte,Nat.reduceEqDiff,Nat.reduceLT,Nat.reduceAdd,Nat.reduceLeDiff,reduceCtorEq,goInt,pairs,isConst,TI.isAgg,splice,boxS,Edp,dpv,Nat.beq_eq,ZV.val,List.any_cons,List.any_nil,Bool.false_and,extract_4,hr',hk0,hw]
  refine specYFail hr ?_
  simp (disch := first | assumption | simp) only [↓sbD,sbU,tyB,Nat.reduceMul,Nat.reduceSub,Int.reduceEq,Int.reduceLT,Int.reduceLE,Int.reduceNe,Nat.reduceBneDiff,Nat.reduceBEq,decide_false,gt_iff_lt,Bool.or_self,Bool.false_eq_true,Nat.mul_one,Nat.one_mul,Nat.zero_mul,↓reduceIte,Nat.reduceEqDiff,Nat.reduceLT,Nat.reduceAdd,Nat.reduceLeDiff,reduceCtorEq,goInt,pairs,isConst,TI.isAgg,splice,boxS,Edp,dpv,Nat.beq_eq,ZV.val,List.any_cons,List.any_nil,Bool.false_and]
  exact downS_here (hbad (k + 1) (p + q) rfl _ (Kept.set (by simp)) (AHeap.get_set_same _ _ _))
theorem specYVarE {e a : Int} (hr : IsY σ r s p e a) (he : e ≠ 0) (h : Q (.int .i64 0) σ) : CallS E B 125 [.pointer (some ⟨r,0,none⟩)] σ Q := by
 unfold IsY at hr
 refine call125 (by simp) ?_
 simp only [strip,bodyOf,Tryz.f125,getD_body,keepN,bareOp_mk,lessOp_mk,lapp_cons,lapp_nil,List.map_cons,List.map_nil,array_toList,↓reduceIte,Nat.reduceEqDiff,Bool.false_eq_true]
 simp (disch := first | assumption | simp) only [↓sbD,sbU,tyB,Nat.reduceMul,Nat.reduceSub,Int.reduceEq,Int.reduceLT,Int.reduceLE,Int.reduceNe,Nat.reduceBneDiff,Nat.reduceBEq,decide_false,gt_iff_lt,Bool.or_self,Bool.false_eq_true,Nat.mul_one,Nat.one_mul,Nat.zero_mul,↓reduceIte,Nat.reduceEqDiff,Nat.reduceLT,Nat.reduceAdd,Nat.reduceLeDiff,reduceCtorEq,goInt,pairs,isConst,TI.isAgg,splice,boxS,Edp,dpv,Nat.beq_eq,ZV.val,List.any_cons,List.any_nil,Bool.false_and,hr,he]
 exact downS_here h
theorem specYText (hr : IsY σ r s p 0 0) (hp : p ≤ s.size) (hs : s.size ≤ 100000000)
  (hok : ∀ v q,textR s p = .ok (v,q) → ∀ σ',Kept σ [r] σ' [r] → IsY σ' r s q 0 0 → Q (.string v) σ')
  (hbad : ∀ k q,textR s p = .error (k,q) → ∀ σ',Kept σ [r] σ' [r] → IsY σ' r s p (k : Int) (q : Int) → Q (.string emp) σ') : CallS E B 186 [.pointer (some ⟨r,0,none⟩)] σ Q := by
 unfold textR at hok hbad
 have hr' := hr
 unfold IsY at hr'
 refine call186 (by simp) ?_
 simp only [strip,bodyOf,Tryz.f186,getD_body,keepN,bareOp_mk,lessOp_mk,lapp_cons,lapp_nil,List.map_cons,List.map_nil,array_toList,↓reduceIte,Nat.reduceEqDiff,Bool.false_eq_true]
 simp (disch := first | assumption | simp) only [↓sbD,sbU,tyB,Nat.reduceMul,Nat.reduceSub,Int.reduceEq,Int.reduceLT,Int.reduceLE,Int.reduceNe,Nat.reduceBneDiff,Nat.reduceBEq,decide_false,gt_iff_lt,Bool.or_self,Bool.false_eq_true,Nat.mul_one,Nat.one_mul,Nat.zero_mul,↓reduceIte,Nat.reduceEqDiff,Nat.reduceLT,Nat.reduceAdd,Nat.reduceLeDiff,reduceCtorEq,goInt,pairs,isConst,TI.isAgg,splice,boxS,Edp,dpv,Nat.beq_eq,ZV.val,List.any_cons,List.any_nil,Bool.false_and,hr']
 refine specYBin hr hp (by omega) (fun v q hv σ1 k1 i1 => ?_) fun k q hv σ1 k1 i1 => ?_
 ·rw [hv] at hok hbad
  simp only at hok hbad
  have hb := binR_ok hv
  have i1' := i1
  unfold IsY at i1'
  simp (disch := first | assumption | simp) only [↓sbD,sbU,tyB,Nat.reduceMul,Nat.reduceSub,Int.reduceEq,Int.reduceLT,Int.reduceLE,Int.reduceNe,Nat.reduceBneDiff,Nat.reduceBEq,decide_false,gt_iff_lt,Bool.or_self,Bool.false_eq_true,Nat.mul_one,Nat.one_mul,Nat.zero_mul,↓reduceIte,Nat.reduceEqDiff,Nat.reduceLT,Nat.reduceAdd,Nat.reduceLeDiff,reduceCtorEq,goInt,pairs,isConst,TI.isAgg,splice,boxS,Edp,dpv,Nat.beq_eq,ZV.val,List.any_cons,List.any_nil,Bool.false_and,i1']
  refine specRCheck (by omega) (fun m hm => ?_) fun k j hm => ?_
  ·rw [hm] at hok
   simp (disch := first | assumption | simp) only [↓sbD,sbU,tyB,Nat.reduceMul,Nat.reduceSub,Int.reduceEq,Int.reduceLT,Int.reduceLE,Int.reduceNe,Nat.reduceBneDiff,Nat.reduceBEq,decide_false,gt_iff_lt,Bool.or_self,Bool.false_eq_true,Nat.mul_one,Nat.one_mul,Nat.zero_mul,↓reduceIte,Nat.reduceEqDiff,Nat.reduceLT,Nat.reduceAdd,Nat.reduceLeDiff,reduceCtorEq,goInt,pairs,isConst,TI.isAgg,splice,boxS,Edp,dpv,Nat.beq_eq,ZV.val,List.any_cons,List.any_nil,Bool.false_and]
   exact downS_here (hok v q rfl _ k1 i1)
  ·rw [hm] at hbad
   have hj := textF_p hm
   have hk0 : ¬ ((k : Int) + 1 = 0) := by omega
   have hw1 : IntKind.i64.wrap ((p : Int) + 2) = ((p + 2 : Nat) : Int) := by rw [wrap64 ⟨by omega,by omega⟩]; omega
   have hw2 : IntKind.i64.wrap (((p + 2 : Nat) : Int) + (j : Int)) = ((p + 2 + j : Nat) : Int) := by rw [wrap64 ⟨by omega,by omega⟩]; omega
   simp (disch := first | assumption | simp) only [↓sbD,sbU,tyB,Nat.reduceMul,Nat.reduceSub,Int.reduceEq,Int.reduceLT,Int.reduceLE,Int.reduceNe,Nat.reduceBneDiff,Nat.reduceBEq,decide_false,gt_iff_lt,Bool.or_self,Bool.false_eq_true,Nat.mul_one,Nat.one_mul,Nat.zero_mul,↓reduceIte,Nat.reduceEqDiff,Nat.reduceLT,Nat.reduceAdd,Nat.reduceLeDiff,reduceCtorEq,goInt,pairs,isConst,TI.isAgg,splice,boxS,Edp,dpv,Nat.beq_eq,ZV.val,List.any_cons,List.any_nil,Bool.false_and,hk0,i1',hw1,hw2]
   refine specYFail (p := p) (s := s) (AHeap.get_set_same _ _ _) ?_
   simp (disch := first | assumption | simp) only [↓sbD,sbU,tyB,Nat.reduceMul,Nat.reduceSub,Int.reduceEq,Int.reduceLT,Int.reduceLE,Int.reduceNe,Nat.reduceBneDiff,Nat.reduceBEq,decide_false,gt_iff_lt,Bool.or_self,Bool.false_eq_true,Nat.mul_one,Nat.one_mul,Nat.zero_mul,↓reduceIte,Nat.reduceEqDiff,Nat.reduceLT,Nat.reduceAdd,Nat.reduceLeDiff,reduceCtorEq,goInt,pairs,isConst,TI.isAgg,splice,boxS,Edp,dpv,Nat.beq_eq,ZV.val,List.any_cons,List.any_nil,Bool.false_and]
   exact downS_here (hbad (k + 1) (p + 2 + j) rfl _ ((k1.trans (Kept.set (by simp))).trans (Kept.set (by simp))) (AHeap.get_set_same _ _ _))
 ·rw [hv] at hbad
  simp only at hbad
  have hk0 : ¬ (k : Int) = 0 := by
   have := textR_k (s := s) (p := p) (k := k) (q := q) (by unfold textR; rw [hv])
   omega
  have i1' := i1
  unfold IsY at i1'
  simp (disch := first | assumption | simp) only [↓sbD,sbU,tyB,Nat.reduceMul,Nat.reduceSub,Int.reduceEq,Int.reduceLT,Int.reduceLE,Int.reduceNe,Nat.reduceBneDiff,Nat.reduceBEq,decide_false,gt_iff_lt,Bool.or_self,Bool.false_eq_true,Nat.mul_one,Nat.one_mul,Nat.zero_mul,↓reduceIte,Nat.reduceEqDiff,Nat.reduceLT,Nat.reduceAdd,Nat.reduceLeDiff,reduceCtorEq,goInt,pairs,isConst,TI.isAgg,splice,boxS,Edp,dpv,Nat.beq_eq,ZV.val,List.any_cons,List.any_nil,Bool.false_and,i1',hk0]
  exact downS_here (hbad k q rfl _ k1 i1)
theorem specYTextE {e a : Int} (hr : IsY σ r s p e a) (he : e ≠ 0) (h : ∀ σ',Kept σ [r] σ' [r] → IsY σ' r s p e a → Q (.string emp) σ') : CallS E B 186 [.pointer (some ⟨r,0,none⟩)] σ Q := by
 have hr' := hr
 unfold IsY at hr'
 refine call186 (by simp) ?_
 simp only [strip,bodyOf,Tryz.f186,getD_body,keepN,bareOp_mk,lessOp_mk,lapp_cons,lapp_nil,List.map_cons,List.map_nil,array_toList,↓reduceIte,Nat.reduceEqDiff,Bool.false_eq_true]
 simp (disch := first | assumption | simp) only [↓sbD,sbU,tyB,Nat.reduceMul,Nat.reduceSub,Int.reduceEq,Int.reduceLT,Int.reduceLE,Int.reduceNe,Nat.reduceBneDiff,Nat.reduceBEq,decide_false,gt_iff_lt,Bool.or_self,Bool.false_eq_true,Nat.mul_one,Nat.one_mul,Nat.zero_mul,↓reduceIte,Nat.reduceEqDiff,Nat.reduceLT,Nat.reduceAdd,Nat.reduceLeDiff,reduceCtorEq,goInt,pairs,isConst,TI.isAgg,splice,boxS,Edp,dpv,Nat.beq_eq,ZV.val,List.any_cons,List.any_nil,Bool.false_and,hr']
 refine specYBinE hr he fun σ1 k1 i1 => ?_
 have i1' := i1
 unfold IsY at i1'
 simp (disch := first | assumption | simp) only [↓sbD,sbU,tyB,Nat.reduceMul,Nat.reduceSub,Int.reduceEq,Int.reduceLT,Int.reduceLE,Int.reduceNe,Nat.reduceBneDiff,Nat.reduceBEq,decide_false,gt_iff_lt,Bool.or_self,Bool.false_eq_true,Nat.mul_one,Nat.one_mul,Nat.zero_mul,↓reduceIte,Nat.reduceEqDiff,Nat.reduceLT,Nat.reduceAdd,Nat.reduceLeDiff,reduceCtorEq,goInt,pairs,isConst,TI.isAgg,splice,boxS,Edp,dpv,Nat.beq_eq,ZV.val,List.any_cons,List.any_nil,Bool.false_and,i1',he]
 exact downS_here (h σ1 k1 i1)
theorem rdA_k {T : Int} {k q : Nat} (h : rdA T s p = .error (k,q)) : k ≠ 0 := by
 unfold rdA at h
 have mN : ∀ r : Rd Nat,mapN r = .error (k,q) → r = .error (k,q) := by
  intro r hr
  unfold mapN at hr
  split at hr
  ·cases hr
  ·simp only [Except.error.injEq] at hr ⊢; exact hr
 have mS : ∀ r : Rd ByteArray,mapS r = .error (k,q) → r = .error (k,q) := by
  intro r hr
  unfold mapS at hr
  split at hr
  ·cases hr
  ·simp only [Except.error.injEq] at hr ⊢; exact hr
 split at h
 ·exact numR_k (mN _ h)
 split at h
 ·exact numR_k (mN _ h)
 split at h
 ·exact numR_k (mN _ h)
 split at h
 ·exact varR_k (mN _ h)
 split at h
 ·exact textR_k (mS _ h)
 ·have h := mS _ h
  unfold binR at h
  cases hn : numR s p 2 with
  | ok a => obtain ⟨n,q2⟩ := a; rw [hn] at h; exact rawR_k h
  | error e => obtain ⟨j2,q2⟩ := e; rw [hn] at h; simp only [Except.error.injEq,Prod.mk.injEq] at h; have := numR_k hn; omega
theorem specYDo {T n : Int} {b : ByteArray} (hk : kindOk T) (hr : IsY σ r s p 0 0) (hp : p ≤ s.size) (hs : s.size ≤ 100000000)
  (hok : ∀ n v q,rdA T s p = .ok ((n,v),q) → ∀ σ',Kept σ [r] σ' [r] → IsY σ' r s q 0 0 → Q (.tuple #[.int .i64 n,.string v]) σ')
  (hbad : ∀ e q,rdA T s p = .error (e,q) → ∀ σ',Kept σ [r] σ' [r] → IsY σ' r s p (e : Int) (q : Int) → Q (.tuple #[.int .i64 0,.string emp]) σ') : CallS E B 187 [.pointer (some ⟨r,0,none⟩),.agg ⟨actC ⟨T,n,b⟩⟩] σ Q := by
 simp only [actC]
 unfold rdA at hok hbad
 refine call187 (by simp) ?_
 simp only [strip,bodyOf,Tryz.f187,getD_body,keepN,bareOp_mk,lessOp_mk,lapp_cons,lapp_nil,List.map_cons,List.map_nil,array_toList,↓reduceIte,Nat.reduceEqDiff,Bool.false_eq_true]
 rcases hk with rfl | rfl | rfl | rfl | rfl | rfl
 ·simp only [Int.reduceEq,if_true,if_false] at hok hbad
  simp (disch := first | assumption | simp) only [↓sbD,sbU,tyB,Nat.reduceMul,Nat.reduceSub,Int.reduceEq,Int.reduceLT,Int.reduceLE,Int.reduceNe,Nat.reduceBneDiff,Nat.reduceBEq,decide_false,gt_iff_lt,Bool.or_self,Bool.false_eq_true,Nat.mul_one,Nat.one_mul,Nat.zero_mul,↓reduceIte,Nat.reduceEqDiff,Nat.reduceLT,Nat.reduceAdd,Nat.reduceLeDiff,reduceCtorEq,goInt,pairs,isConst,TI.isAgg,splice,boxS,Edp,dpv,Nat.beq_eq,ZV.val,List.any_cons,List.any_nil,Bool.false_and]
  refine specYU8 hr hp (by omega) (fun n q hn σ1 k1 i1 => ?_) fun k q hn σ1 k1 i1 => ?_
  ·simp (disch := first | assumption | simp) only [↓sbD,sbU,tyB,Nat.reduceMul,Nat.reduceSub,Int.reduceEq,Int.reduceLT,Int.reduceLE,Int.reduceNe,Nat.reduceBneDiff,Nat.reduceBEq,decide_false,gt_iff_lt,Bool.or_self,Bool.false_eq_true,Nat.mul_one,Nat.one_mul,Nat.zero_mul,↓reduceIte,Nat.reduceEqDiff,Nat.reduceLT,Nat.reduceAdd,Nat.reduceLeDiff,reduceCtorEq,goInt,pairs,isConst,TI.isAgg,splice,boxS,Edp,dpv,Nat.beq_eq,ZV.val,List.any_cons,List.any_nil,Bool.false_and]
   exact downS_here (hok n emp q (by rw [hn]; rfl) σ1 k1 i1)
  ·simp (disch := first | assumption | simp) only [↓sbD,sbU,tyB,Nat.reduceMul,Nat.reduceSub,Int.reduceEq,Int.reduceLT,Int.reduceLE,Int.reduceNe,Nat.reduceBneDiff,Nat.reduceBEq,decide_false,gt_iff_lt,Bool.or_self,Bool.false_eq_true,Nat.mul_one,Nat.one_mul,Nat.zero_mul,↓reduceIte,Nat.reduceEqDiff,Nat.reduceLT,Nat.reduceAdd,Nat.reduceLeDiff,reduceCtorEq,goInt,pairs,isConst,TI.isAgg,splice,boxS,Edp,dpv,Nat.beq_eq,ZV.val,List.any_cons,List.any_nil,Bool.false_and]
   exact downS_here (hbad k q (by rw [hn]; rfl) σ1 k1 i1)
 ·simp only [Int.reduceEq,if_true,if_false] at hok hbad
  simp (disch := first | assumption | simp) only [↓sbD,sbU,tyB,Nat.reduceMul,Nat.reduceSub,Int.reduceEq,Int.reduceLT,Int.reduceLE,Int.reduceNe,Nat.reduceBneDiff,Nat.reduceBEq,decide_false,gt_iff_lt,Bool.or_self,Bool.false_eq_true,Nat.mul_one,Nat.one_mul,Nat.zero_mul,↓reduceIte,Nat.reduceEqDiff,Nat.reduceLT,Nat.reduceAdd,Nat.reduceLeDiff,reduceCtorEq,goInt,pairs,isConst,TI.isAgg,splice,boxS,Edp,dpv,Nat.beq_eq,ZV.val,List.any_cons,List.any_nil,Bool.false_and]
  refine specYU16 hr hp (by omega) (fun n q hn σ1 k1 i1 => ?_) fun k q hn σ1 k1 i1 => ?_
  ·simp (disch := first | assumption | simp) only [↓sbD,sbU,tyB,Nat.reduceMul,Nat.reduceSub,Int.reduceEq,Int.reduceLT,Int.reduceLE,Int.reduceNe,Nat.reduceBneDiff,Nat.reduceBEq,decide_false,gt_iff_lt,Bool.or_self,Bool.false_eq_true,Nat.mul_one,Nat.one_mul,Nat.zero_mul,↓reduceIte,Nat.reduceEqDiff,Nat.reduceLT,Nat.reduceAdd,Nat.reduceLeDiff,reduceCtorEq,goInt,pairs,isConst,TI.isAgg,splice,boxS,Edp,dpv,Nat.beq_eq,ZV.val,List.any_cons,List.any_nil,Bool.false_and]
   exact downS_here (hok n emp q (by rw [hn]; rfl) σ1 k1 i1)
  ·simp (disch := first | assumption | simp) only [↓sbD,sbU,tyB,Nat.reduceMul,Nat.reduceSub,Int.reduceEq,Int.reduceLT,Int.reduceLE,Int.reduceNe,Nat.reduceBneDiff,Nat.reduceBEq,decide_false,gt_iff_lt,Bool.or_self,Bool.false_eq_true,Nat.mul_one,Nat.one_mul,Nat.zero_mul,↓reduceIte,Nat.reduceEqDiff,Nat.reduceLT,Nat.reduceAdd,Nat.reduceLeDiff,reduceCtorEq,goInt,pairs,isConst,TI.isAgg,splice,boxS,Edp,dpv,Nat.beq_eq,ZV.val,List.any_cons,List.any_nil,Bool.false_and]
   exact downS_here (hbad k q (by rw [hn]; rfl) σ1 k1 i1)
 ·simp only [Int.reduceEq,if_true,if_false] at hok hbad
  simp (disch := first | assumption | simp) only [↓sbD,sbU,tyB,Nat.reduceMul,Nat.reduceSub,Int.reduceEq,Int.reduceLT,Int.reduceLE,Int.reduceNe,Nat.reduceBneDiff,Nat.reduceBEq,decide_false,gt_iff_lt,Bool.or_self,Bool.false_eq_true,Nat.mul_one,Nat.one_mul,Nat.zero_mul,↓reduceIte,Nat.reduceEqDiff,Nat.reduceLT,Nat.reduceAdd,Nat.reduceLeDiff,reduceCtorEq,goInt,pairs,isConst,TI.isAgg,splice,boxS,Edp,dpv,Nat.beq_eq,ZV.val,List.any_cons,List.any_nil,Bool.false_and]
  refine specYU32 hr hp (by omega) (fun n q hn σ1 k1 i1 => ?_) fun k q hn σ1 k1 i1 => ?_
  ·simp (disch := first | assumption | simp) only [↓sbD,sbU,tyB,Nat.reduceMul,Nat.reduceSub,Int.reduceEq,Int.reduceLT,Int.reduceLE,Int.reduceNe,Nat.reduceBneDiff,Nat.reduceBEq,decide_false,gt_iff_lt,Bool.or_self,Bool.false_eq_true,Nat.mul_one,Nat.one_mul,Nat.zero_mul,↓reduceIte,Nat.reduceEqDiff,Nat.reduceLT,Nat.reduceAdd,Nat.reduceLeDiff,reduceCtorEq,goInt,pairs,isConst,TI.isAgg,splice,boxS,Edp,dpv,Nat.beq_eq,ZV.val,List.any_cons,List.any_nil,Bool.false_and]
   exact downS_here (hok n emp q (by rw [hn]; rfl) σ1 k1 i1)
  ·simp (disch := first | assumption | simp) only [↓sbD,sbU,tyB,Nat.reduceMul,Nat.reduceSub,Int.reduceEq,Int.reduceLT,Int.reduceLE,Int.reduceNe,Nat.reduceBneDiff,Nat.reduceBEq,decide_false,gt_iff_lt,Bool.or_self,Bool.false_eq_true,Nat.mul_one,Nat.one_mul,Nat.zero_mul,↓reduceIte,Nat.reduceEqDiff,Nat.reduceLT,Nat.reduceAdd,Nat.reduceLeDiff,reduceCtorEq,goInt,pairs,isConst,TI.isAgg,splice,boxS,Edp,dpv,Nat.beq_eq,ZV.val,List.any_cons,List.any_nil,Bool.false_and]
   exact downS_here (hbad k q (by rw [hn]; rfl) σ1 k1 i1)
 ·simp only [Int.reduceEq,if_true,if_false] at hok hbad
  simp (disch := first | assumption | simp) only [↓sbD,sbU,tyB,Nat.reduceMul,Nat.reduceSub,Int.reduceEq,Int.reduceLT,Int.reduceLE,Int.reduceNe,Nat.reduceBneDiff,Nat.reduceBEq,decide_false,gt_iff_lt,Bool.or_self,Bool.false_eq_true,Nat.mul_one,Nat.one_mul,Nat.zero_mul,↓reduceIte,Nat.reduceEqDiff,Nat.reduceLT,Nat.reduceAdd,Nat.reduceLeDiff,reduceCtorEq,goInt,pairs,isConst,TI.isAgg,splice,boxS,Edp,dpv,Nat.beq_eq,ZV.val,List.any_cons,List.any_nil,Bool.false_and]
  refine specYVar hr hp (by omega) (fun n q hn σ1 k1 i1 => ?_) fun k q hn σ1 k1 i1 => ?_
  ·simp (disch := first | assumption | simp) only [↓sbD,sbU,tyB,Nat.reduceMul,Nat.reduceSub,Int.reduceEq,Int.reduceLT,Int.reduceLE,Int.reduceNe,Nat.reduceBneDiff,Nat.reduceBEq,decide_false,gt_iff_lt,Bool.or_self,Bool.false_eq_true,Nat.mul_one,Nat.one_mul,Nat.zero_mul,↓reduceIte,Nat.reduceEqDiff,Nat.reduceLT,Nat.reduceAdd,Nat.reduceLeDiff,reduceCtorEq,goInt,pairs,isConst,TI.isAgg,splice,boxS,Edp,dpv,Nat.beq_eq,ZV.val,List.any_cons,List.any_nil,Bool.false_and]
   exact downS_here (hok n emp q (by rw [hn]; rfl) σ1 k1 i1)
  ·simp (disch := first | assumption | simp) only [↓sbD,sbU,tyB,Nat.reduceMul,Nat.reduceSub,Int.reduceEq,Int.reduceLT,Int.reduceLE,Int.reduceNe,Nat.reduceBneDiff,Nat.reduceBEq,decide_false,gt_iff_lt,Bool.or_self,Bool.false_eq_true,Nat.mul_one,Nat.one_mul,Nat.zero_mul,↓reduceIte,Nat.reduceEqDiff,Nat.reduceLT,Nat.reduceAdd,Nat.reduceLeDiff,reduceCtorEq,goInt,pairs,isConst,TI.isAgg,splice,boxS,Edp,dpv,Nat.beq_eq,ZV.val,List.any_cons,List.any_nil,Bool.false_and]
   exact downS_here (hbad k q (by rw [hn]; rfl) σ1 k1 i1)
 ·simp only [Int.reduceEq,if_true,if_false] at hok hbad
  simp (disch := first | assumption | simp) only [↓sbD,sbU,tyB,Nat.reduceMul,Nat.reduceSub,Int.reduceEq,Int.reduceLT,Int.reduceLE,Int.reduceNe,Nat.reduceBneDiff,Nat.reduceBEq,decide_false,gt_iff_lt,Bool.or_self,Bool.false_eq_true,Nat.mul_one,Nat.one_mul,Nat.zero_mul,↓reduceIte,Nat.reduceEqDiff,Nat.reduceLT,Nat.reduceAdd,Nat.reduceLeDiff,reduceCtorEq,goInt,pairs,isConst,TI.isAgg,splice,boxS,Edp,dpv,Nat.beq_eq,ZV.val,List.any_cons,List.any_nil,Bool.false_and]
  refine specYText hr hp (by omega) (fun n q hn σ1 k1 i1 => ?_) fun k q hn σ1 k1 i1 => ?_
  ·simp (disch := first | assumption | simp) only [↓sbD,sbU,tyB,Nat.reduceMul,Nat.reduceSub,Int.reduceEq,Int.reduceLT,Int.reduceLE,Int.reduceNe,Nat.reduceBneDiff,Nat.reduceBEq,decide_false,gt_iff_lt,Bool.or_self,Bool.false_eq_true,Nat.mul_one,Nat.one_mul,Nat.zero_mul,↓reduceIte,Nat.reduceEqDiff,Nat.reduceLT,Nat.reduceAdd,Nat.reduceLeDiff,reduceCtorEq,goInt,pairs,isConst,TI.isAgg,splice,boxS,Edp,dpv,Nat.beq_eq,ZV.val,List.any_cons,List.any_nil,Bool.false_and]
   exact downS_here (hok 0 n q (by rw [hn]; rfl) σ1 k1 i1)
  ·simp (disch := first | assumption | simp) only [↓sbD,sbU,tyB,Nat.reduceMul,Nat.reduceSub,Int.reduceEq,Int.reduceLT,Int.reduceLE,Int.reduceNe,Nat.reduceBneDiff,Nat.reduceBEq,decide_false,gt_iff_lt,Bool.or_self,Bool.false_eq_true,Nat.mul_one,Nat.one_mul,Nat.zero_mul,↓reduceIte,Nat.reduceEqDiff,Nat.reduceLT,Nat.reduceAdd,Nat.reduceLeDiff,reduceCtorEq,goInt,pairs,isConst,TI.isAgg,splice,boxS,Edp,dpv,Nat.beq_eq,ZV.val,List.any_cons,List.any_nil,Bool.false_and]
   exact downS_here (hbad k q (by rw [hn]; rfl) σ1 k1 i1)
 ·simp only [Int.reduceEq,if_true,if_false] at hok hbad
  simp (disch := first | assumption | simp) only [↓sbD,sbU,tyB,Nat.reduceMul,Nat.reduceSub,Int.reduceEq,Int.reduceLT,Int.reduceLE,Int.reduceNe,Nat.reduceBneDiff,Nat.reduceBEq,decide_false,gt_iff_lt,Bool.or_self,Bool.false_eq_true,Nat.mul_one,Nat.one_mul,Nat.zero_mul,↓reduceIte,Nat.reduceEqDiff,Nat.reduceLT,Nat.reduceAdd,Nat.reduceLeDiff,reduceCtorEq,goInt,pairs,isConst,TI.isAgg,splice,boxS,Edp,dpv,Nat.beq_eq,ZV.val,List.any_cons,List.any_nil,Bool.false_and]
  refine specYBin hr hp (by omega) (fun n q hn σ1 k1 i1 => ?_) fun k q hn σ1 k1 i1 => ?_
  ·simp (disch := first | assumption | simp) only [↓sbD,sbU,tyB,Nat.reduceMul,Nat.reduceSub,Int.reduceEq,Int.reduceLT,Int.reduceLE,Int.reduceNe,Nat.reduceBneDiff,Nat.reduceBEq,decide_false,gt_iff_lt,Bool.or_self,Bool.false_eq_true,Nat.mul_one,Nat.one_mul,Nat.zero_mul,↓reduceIte,Nat.reduceEqDiff,Nat.reduceLT,Nat.reduceAdd,Nat.reduceLeDiff,reduceCtorEq,goInt,pairs,isConst,TI.isAgg,splice,boxS,Edp,dpv,Nat.beq_eq,ZV.val,List.any_cons,List.any_nil,Bool.false_and]
   exact downS_here (hok 0 n q (by rw [hn]; rfl) σ1 k1 i1)
  ·simp (disch := first | assumption | simp) only [↓sbD,sbU,tyB,Nat.reduceMul,Nat.reduceSub,Int.reduceEq,Int.reduceLT,Int.reduceLE,Int.reduceNe,Nat.reduceBneDiff,Nat.reduceBEq,decide_false,gt_iff_lt,Bool.or_self,Bool.false_eq_true,Nat.mul_one,Nat.one_mul,Nat.zero_mul,↓reduceIte,Nat.reduceEqDiff,Nat.reduceLT,Nat.reduceAdd,Nat.reduceLeDiff,reduceCtorEq,goInt,pairs,isConst,TI.isAgg,splice,boxS,Edp,dpv,Nat.beq_eq,ZV.val,List.any_cons,List.any_nil,Bool.false_and]
   exact downS_here (hbad k q (by rw [hn]; rfl) σ1 k1 i1)
end
section
variable {σ : AHeap} {Q : Value → AHeap → Prop} {x : Nat} {r : ByteArray ⊕ (Nat × Nat)}
end
def placesI (id : Int) : List Int :=
 if id = 1 ∨ id = 2 ∨ id = 3 ∨ id = 8 ∨ id = 9 then [3,16]
 else if id = 11 then [3,8]
 else if id = 35 then [3]
 else if id = 24 then [16]
 else if id = 23 ∨ id = 25 then [1]
 else if id = 18 ∨ id = 19 ∨ id = 26 ∨ id = 36 ∨ id = 37 ∨ id = 40 ∨ id = 41 ∨ id = 42 then [2]
 else if id = 28 then [2,14]
 else if id = 33 ∨ id = 34 ∨ id = 39 then [1,2]
 else if id = 17 then [1,2,14]
 else if id = 21 ∨ id = 22 then [1,2,15]
 else if id = 31 then [2,4,5,6,7,9,11,14,15]
 else if id = 38 then [1,2,3,4,5,6,7,8,9,10,11,14,15,16]
 else []
theorem places_allow (id pl : Int) : decide (pl ∈ placesI id) = allow id pl := by
 unfold placesI allow
 by_cases h : id = 1 ∨ id = 2 ∨ id = 3 ∨ id = 8 ∨ id = 9
 ·simp only [if_pos h]
  rw [decide_eq_decide]
  simp only [List.mem_cons,List.not_mem_nil,or_false]
  try omega
 simp only [if_neg h]
 clear h
 by_cases h : id = 11
 ·simp only [if_pos h]
  rw [decide_eq_decide]
  simp only [List.mem_cons,List.not_mem_nil,or_false]
  try omega
 simp only [if_neg h]
 clear h
 by_cases h : id = 35
 ·simp only [if_pos h]
  rw [decide_eq_decide]
  simp only [List.mem_cons,List.not_mem_nil,or_false]
  try omega
 simp only [if_neg h]
 clear h
 by_cases h : id = 24
 ·simp only [if_pos h]
  rw [decide_eq_decide]
  simp only [List.mem_cons,List.not_mem_nil,or_false]
  try omega
 simp only [if_neg h]
 clear h
 by_cases h : id = 23 ∨ id = 25
 ·simp only [if_pos h]
  rw [decide_eq_decide]
  simp only [List.mem_cons,List.not_mem_nil,or_false]
  try omega
 simp only [if_neg h]
 clear h
 by_cases h : id = 18 ∨ id = 19 ∨ id = 26 ∨ id = 36 ∨ id = 37 ∨ id = 40 ∨ id = 41 ∨ id = 42
 ·simp only [if_pos h]
  rw [decide_eq_decide]
  simp only [List.mem_cons,List.not_mem_nil,or_false]
  try omega
 simp only [if_neg h]
 clear h
 by_cases h : id = 28
 ·simp only [if_pos h]
  rw [decide_eq_decide]
  simp only [List.mem_cons,List.not_mem_nil,or_false]
  try omega
 simp only [if_neg h]
 clear h
 by_cases h : id = 33 ∨ id = 34 ∨ id = 39
 ·simp only [if_pos h]
  rw [decide_eq_decide]
  simp only [List.mem_cons,List.not_mem_nil,or_false]
  try omega
 simp only [if_neg h]
 clear h
 by_cases h : id = 17
 ·simp only [if_pos h]
  rw [decide_eq_decide]
  simp only [List.mem_cons,List.not_mem_nil,or_false]
  try omega
 simp only [if_neg h]
 clear h
 by_cases h : id = 21 ∨ id = 22
 ·simp only [if_pos h]
  rw [decide_eq_decide]
  simp only [List.mem_cons,List.not_mem_nil,or_false]
  try omega
 simp only [if_neg h]
 clear h
 by_cases h : id = 31
 ·simp only [if_pos h]
  rw [decide_eq_decide]
  simp only [List.mem_cons,List.not_mem_nil,or_false]
  try omega
 simp only [if_neg h]
 clear h
 by_cases h : id = 38
 ·simp only [if_pos h]
  rw [decide_eq_decide]
  simp only [List.mem_cons,List.not_mem_nil,or_false]
  try omega
 simp only [if_neg h]
 clear h
 rw [decide_eq_false (by simp)]
section
variable {σ : AHeap} {Q : Value → AHeap → Prop}
theorem specPlaces {id : Int} (h : ∀ v,DL intC 1 v (placesI id) → Q v σ) : CallS E B 245 [.int .i64 id] σ Q := by
 refine call245 (by simp) ?_
 simp only [strip,bodyOf,Tryz.f245,getD_body,keepN,bareOp_mk,lessOp_mk,lapp_cons,lapp_nil,List.map_cons,List.map_nil,array_toList,↓reduceIte,Nat.reduceEqDiff,Bool.false_eq_true]
 by_cases hm : id ∈ ids
 ·simp only [ids,List.mem_cons,List.not_mem_nil,or_false] at hm
  rcases hm with rfl | rfl | rfl | rfl | rfl | rfl | rfl | rfl | rfl | rfl | rfl | rfl | rfl | rfl | rfl | rfl | rfl | rfl | rfl | rfl | rfl | rfl | rfl | rfl | rfl | rfl | rfl <;>
   (simp (disch := first | assumption | simp) only [↓sbD,sbU,tyB,Nat.reduceMul,Nat.reduceSub,Int.reduceEq,Int.reduceLT,Int.reduceLE,Int.reduceNe,Nat.reduceBneDiff,Nat.reduceBEq,decide_false,gt_iff_lt,Bool.or_self,Bool.false_eq_true,Nat.mul_one,Nat.one_mul,Nat.zero_mul,↓reduceIte,Nat.reduceEqDiff,Nat.reduceLT,Nat.reduceAdd,Nat.reduceLeDiff,reduceCtorEq,goInt,pairs,isConst,TI.isAgg,splice,boxS,Edp,dpv,Nat.beq_eq,ZV.val,List.any_cons,List.any_nil,Bool.false_and]
    exact downS_here (h _ (.inr ⟨1,rfl⟩)))
 ·simp only [ids,List.mem_cons,List.not_mem_nil,or_false,not_or] at hm
  have e : placesI id = [] := by simp [placesI,hm]
  rw [e] at h
  obtain ⟨n1,n2,n3,n4,n5,n6,n7,n8,n9,n10,n11,n12,n13,n14,n15,n16,n17,n18,n19,n20,n21,n22,n23,n24,n25,n26,n27⟩ := hm
  simp (disch := first | assumption | simp) only [↓sbD,sbU,tyB,Nat.reduceMul,Nat.reduceSub,Int.reduceEq,Int.reduceLT,Int.reduceLE,Int.reduceNe,Nat.reduceBneDiff,Nat.reduceBEq,decide_false,gt_iff_lt,Bool.or_self,Bool.false_eq_true,Nat.mul_one,Nat.one_mul,Nat.zero_mul,↓reduceIte,Nat.reduceEqDiff,Nat.reduceLT,Nat.reduceAdd,Nat.reduceLeDiff,reduceCtorEq,goInt,pairs,isConst,TI.isAgg,splice,boxS,Edp,dpv,Nat.beq_eq,ZV.val,List.any_cons,List.any_nil,Bool.false_and,n1,n2,n3,n4,n5,n6,n7,n8,n9,n10,n11,n12,n13,n14,n15,n16,n17,n18,n19,n20,n21,n22,n23,n24,n25,n26,n27]
  exact downS_here (h _ (.inl ⟨rfl,rfl⟩))
end
set_option maxHeartbeats 4000000
section
variable {σ : AHeap} {Q : Value → AHeap → Prop}
theorem places_len (id : Int) : (placesI id).length ≤ 20 := by
 unfold placesI
 by_cases h : id = 1 ∨ id = 2 ∨ id = 3 ∨ id = 8 ∨ id = 9
 ·rw [if_pos h]; decide
 rw [if_neg h]
 clear h
 by_cases h : id = 11
 ·rw [if_pos h]; decide
 rw [if_neg h]
 clear h
 by_cases h : id = 35
 ·rw [if_pos h]; decide
 rw [if_neg h]
 clear h
 by_cases h : id = 24
 ·rw [if_pos h]; decide
 rw [if_neg h]
 clear h
 by_cases h : id = 23 ∨ id = 25
 ·rw [if_pos h]; decide
 rw [if_neg h]
 clear h
 by_cases h : id = 18 ∨ id = 19 ∨ id = 26 ∨ id = 36 ∨ id = 37 ∨ id = 40 ∨ id = 41 ∨ id = 42
 ·rw [if_pos h]; decide
 rw [if_neg h]
 clear h
 by_cases h : id = 28
 ·rw [if_pos h]; decide
 rw [if_neg h]
 clear h
 by_cases h : id = 33 ∨ id = 34 ∨ id = 39
 ·rw [if_pos h]; decide
 rw [if_neg h]
 clear h
 by_cases h : id = 17
 ·rw [if_pos h]; decide
 rw [if_neg h]
 clear h
 by_cases h : id = 21 ∨ id = 22
 ·rw [if_pos h]; decide
 rw [if_neg h]
 clear h
 by_cases h : id = 31
 ·rw [if_pos h]; decide
 rw [if_neg h]
 clear h
 by_cases h : id = 38
 ·rw [if_pos h]; decide
 rw [if_neg h]
 clear h
 decide
theorem specRAllowed {id pl : Int} (h : Q (.bool (allow id pl)) σ) : CallS E B 185 [.int .i64 id,.int .i64 pl] σ Q := by
 rw [← places_allow] at h
 have hlz := places_len id
 refine call185 (by simp) ?_
 simp only [strip,bodyOf,Tryz.f185,getD_body,keepN,bareOp_mk,lessOp_mk,lapp_cons,lapp_nil,List.map_cons,List.map_nil,array_toList,↓reduceIte,Nat.reduceEqDiff,Bool.false_eq_true]
 simp (disch := first | assumption | simp) only [↓sbD,sbU,tyB,Nat.reduceMul,Nat.reduceSub,Int.reduceEq,Int.reduceLT,Int.reduceLE,Int.reduceNe,Nat.reduceBneDiff,Nat.reduceBEq,decide_false,gt_iff_lt,Bool.or_self,Bool.false_eq_true,Nat.mul_one,Nat.one_mul,Nat.zero_mul,↓reduceIte,Nat.reduceEqDiff,Nat.reduceLT,Nat.reduceAdd,Nat.reduceLeDiff,reduceCtorEq,goInt,pairs,isConst,TI.isAgg,splice,boxS,Edp,dpv,Nat.beq_eq,ZV.val,List.any_cons,List.any_nil,Bool.false_and]
 refine specPlaces fun v hv => ?_
 generalize placesI id = L at h hv hlz
 have hlen := DLi.len hv
 simp (disch := first | assumption | simp) only [↓sbD,sbU,tyB,Nat.reduceMul,Nat.reduceSub,Int.reduceEq,Int.reduceLT,Int.reduceLE,Int.reduceNe,Nat.reduceBneDiff,Nat.reduceBEq,decide_false,gt_iff_lt,Bool.or_self,Bool.false_eq_true,Nat.mul_one,Nat.one_mul,Nat.zero_mul,↓reduceIte,Nat.reduceEqDiff,Nat.reduceLT,Nat.reduceAdd,Nat.reduceLeDiff,reduceCtorEq,goInt,pairs,isConst,TI.isAgg,splice,boxS,Edp,dpv,Nat.beq_eq,ZV.val,List.any_cons,List.any_nil,Bool.false_and]
 refine S_loop (fun m f σ' => σ' = σ ∧ ∃ i : Nat,m + i = L.length ∧ f 6 = .int .i64 i ∧ ∀ j (hj : j < L.length),j < i → L[j] ≠ pl) L.length (Le.refl _) ⟨rfl,0,rfl,by simp (disch := first | assumption | simp) only [↓sbD,sbU,tyB,Nat.reduceMul,Nat.reduceSub,Int.reduceEq,Int.reduceLT,Int.reduceLE,Int.reduceNe,Nat.reduceBneDiff,Nat.reduceBEq,decide_false,gt_iff_lt,Bool.or_self,Bool.false_eq_true,Nat.mul_one,Nat.one_mul,Nat.zero_mul,↓reduceIte,Nat.reduceEqDiff,Nat.reduceLT,Nat.reduceAdd,Nat.reduceLeDiff,reduceCtorEq,goInt,pairs,isConst,TI.isAgg,splice,boxS,Edp,dpv,Nat.beq_eq,ZV.val,List.any_cons,List.any_nil,Bool.false_and]; rfl,fun j _ hj => by omega⟩ ?_
 rintro m f σ' ⟨rfl,i,hm,f6,hno⟩ hf
 have f0 := hf 0 (by decide) (notMem_wr (by kernel_rfl))
 have f1 := hf 1 (by decide) (notMem_wr (by kernel_rfl))
 have f5 := hf 5 (by decide) (notMem_wr (by kernel_rfl))
 simp (disch := first | assumption | simp) only [↓sbD,sbU,tyB,Nat.reduceMul,Nat.reduceSub,Int.reduceEq,Int.reduceLT,Int.reduceLE,Int.reduceNe,Nat.reduceBneDiff,Nat.reduceBEq,decide_false,gt_iff_lt,Bool.or_self,Bool.false_eq_true,Nat.mul_one,Nat.one_mul,Nat.zero_mul,↓reduceIte,Nat.reduceEqDiff,Nat.reduceLT,Nat.reduceAdd,Nat.reduceLeDiff,reduceCtorEq,goInt,pairs,isConst,TI.isAgg,splice,boxS,Edp,dpv,Nat.beq_eq,ZV.val,List.any_cons,List.any_nil,Bool.false_and] at f0 f1 f5
 clear hf
 by_cases hi : (i : Int) < (L.length : Int)
 ·have hi' : i < L.length := by omega
  have hia := DLi.at hv hi'
  have hw := wrap_suc (n := i) (by omega)
  by_cases he : L[i] = pl
  ·simp (disch := first | assumption | simp) only [↓sbD,sbU,tyB,Nat.reduceMul,Nat.reduceSub,Int.reduceEq,Int.reduceLT,Int.reduceLE,Int.reduceNe,Nat.reduceBneDiff,Nat.reduceBEq,decide_false,gt_iff_lt,Bool.or_self,Bool.false_eq_true,Nat.mul_one,Nat.one_mul,Nat.zero_mul,↓reduceIte,Nat.reduceEqDiff,Nat.reduceLT,Nat.reduceAdd,Nat.reduceLeDiff,reduceCtorEq,goInt,pairs,isConst,TI.isAgg,splice,boxS,Edp,dpv,Nat.beq_eq,ZV.val,List.any_cons,List.any_nil,Bool.false_and,f0,f1,f5,f6,hlen,hi,hia,intC,he]
   rw [decide_eq_true (by rw [← he]; exact List.getElem_mem hi')] at h
   exact downS_here h
  ·simp (disch := first | assumption | simp) only [↓sbD,sbU,tyB,Nat.reduceMul,Nat.reduceSub,Int.reduceEq,Int.reduceLT,Int.reduceLE,Int.reduceNe,Nat.reduceBneDiff,Nat.reduceBEq,decide_false,gt_iff_lt,Bool.or_self,Bool.false_eq_true,Nat.mul_one,Nat.one_mul,Nat.zero_mul,↓reduceIte,Nat.reduceEqDiff,Nat.reduceLT,Nat.reduceAdd,Nat.reduceLeDiff,reduceCtorEq,goInt,pairs,isConst,TI.isAgg,splice,boxS,Edp,dpv,Nat.beq_eq,ZV.val,List.any_cons,List.any_nil,Bool.false_and,f0,f1,f5,f6,hlen,hi,hia,intC,he,hw]
   refine ⟨_,m - 1,_,rfl,by omega,Le.refl _,rfl,i + 1,by omega,by simp (disch := first | assumption | simp) only [↓sbD,sbU,tyB,Nat.reduceMul,Nat.reduceSub,Int.reduceEq,Int.reduceLT,Int.reduceLE,Int.reduceNe,Nat.reduceBneDiff,Nat.reduceBEq,decide_false,gt_iff_lt,Bool.or_self,Bool.false_eq_true,Nat.mul_one,Nat.one_mul,Nat.zero_mul,↓reduceIte,Nat.reduceEqDiff,Nat.reduceLT,Nat.reduceAdd,Nat.reduceLeDiff,reduceCtorEq,goInt,pairs,isConst,TI.isAgg,splice,boxS,Edp,dpv,Nat.beq_eq,ZV.val,List.any_cons,List.any_nil,Bool.false_and],fun j hj hji => ?_⟩
   rcases (by omega : j < i ∨ j = i) with h3 | rfl
   ·exact hno j hj h3
   ·exact he
 ·simp (disch := first | assumption | simp) only [↓sbD,sbU,tyB,Nat.reduceMul,Nat.reduceSub,Int.reduceEq,Int.reduceLT,Int.reduceLE,Int.reduceNe,Nat.reduceBneDiff,Nat.reduceBEq,decide_false,gt_iff_lt,Bool.or_self,Bool.false_eq_true,Nat.mul_one,Nat.one_mul,Nat.zero_mul,↓reduceIte,Nat.reduceEqDiff,Nat.reduceLT,Nat.reduceAdd,Nat.reduceLeDiff,reduceCtorEq,goInt,pairs,isConst,TI.isAgg,splice,boxS,Edp,dpv,Nat.beq_eq,ZV.val,List.any_cons,List.any_nil,Bool.false_and,f0,f1,f5,f6,hlen,hi]
  rw [decide_eq_false (fun hx => by
   obtain ⟨j,hj,hje⟩ := List.getElem_of_mem hx
   exact hno j hj (by omega) hje)] at h
  exact downS_here h
theorem specRNumbered {p : Pr} (h : Q (.bool (numOk p)) σ) : CallS E B 128 [.agg ⟨propC p⟩] σ Q := by
 obtain ⟨id,n,s,v⟩ := p
 unfold numOk at h
 simp only [propC]
 refine call128 (by simp) ?_
 simp only [strip,bodyOf,Tryz.f128,getD_body,keepN,bareOp_mk,lessOp_mk,lapp_cons,lapp_nil,List.map_cons,List.map_nil,array_toList,↓reduceIte,Nat.reduceEqDiff,Bool.false_eq_true]
 by_cases hm : id = 1 ∨ id = 23 ∨ id = 25 ∨ id = 36 ∨ id = 37 ∨ id = 40 ∨ id = 41 ∨ id = 42
 ·rw [if_pos hm] at h
  by_cases h0 : n = 0
  ·simp only [h0,true_or,decide_true] at h
   rcases hm with rfl | rfl | rfl | rfl | rfl | rfl | rfl | rfl <;>
   (simp (disch := first | assumption | simp) only [↓sbD,sbU,tyB,Nat.reduceMul,Nat.reduceSub,Int.reduceEq,Int.reduceLT,Int.reduceLE,Int.reduceNe,Nat.reduceBneDiff,Nat.reduceBEq,decide_false,gt_iff_lt,Bool.or_self,Bool.false_eq_true,Nat.mul_one,Nat.one_mul,Nat.zero_mul,↓reduceIte,Nat.reduceEqDiff,Nat.reduceLT,Nat.reduceAdd,Nat.reduceLeDiff,reduceCtorEq,goInt,pairs,isConst,TI.isAgg,splice,boxS,Edp,dpv,Nat.beq_eq,ZV.val,List.any_cons,List.any_nil,Bool.false_and,h0]
    exact downS_here h)
  ·by_cases h1 : n = 1
   ·simp only [h1,or_true,decide_true] at h
    rcases hm with rfl | rfl | rfl | rfl | rfl | rfl | rfl | rfl <;>
    (simp (disch := first | assumption | simp) only [↓sbD,sbU,tyB,Nat.reduceMul,Nat.reduceSub,Int.reduceEq,Int.reduceLT,Int.reduceLE,Int.reduceNe,Nat.reduceBneDiff,Nat.reduceBEq,decide_false,gt_iff_lt,Bool.or_self,Bool.false_eq_true,Nat.mul_one,Nat.one_mul,Nat.zero_mul,↓reduceIte,Nat.reduceEqDiff,Nat.reduceLT,Nat.reduceAdd,Nat.reduceLeDiff,reduceCtorEq,goInt,pairs,isConst,TI.isAgg,splice,boxS,Edp,dpv,Nat.beq_eq,ZV.val,List.any_cons,List.any_nil,Bool.false_and,h1]
     exact downS_here h)
   ·simp only [h0,h1,or_self,decide_false] at h
    rcases hm with rfl | rfl | rfl | rfl | rfl | rfl | rfl | rfl <;>
    (simp (disch := first | assumption | simp) only [↓sbD,sbU,tyB,Nat.reduceMul,Nat.reduceSub,Int.reduceEq,Int.reduceLT,Int.reduceLE,Int.reduceNe,Nat.reduceBneDiff,Nat.reduceBEq,decide_false,gt_iff_lt,Bool.or_self,Bool.false_eq_true,Nat.mul_one,Nat.one_mul,Nat.zero_mul,↓reduceIte,Nat.reduceEqDiff,Nat.reduceLT,Nat.reduceAdd,Nat.reduceLeDiff,reduceCtorEq,goInt,pairs,isConst,TI.isAgg,splice,boxS,Edp,dpv,Nat.beq_eq,ZV.val,List.any_cons,List.any_nil,Bool.false_and,h0,h1]
     exact downS_here h)
 ·rw [if_neg hm] at h
  simp only [not_or] at hm
  obtain ⟨n1,n2,n3,n4,n5,n6,n7,n8⟩ := hm
  by_cases hm : id = 11 ∨ id = 33 ∨ id = 35 ∨ id = 39
  ·rw [if_pos hm] at h
   by_cases h0 : 0 < n
   ·simp only [h0,decide_true] at h
    rcases hm with rfl | rfl | rfl | rfl <;>
    (simp (disch := first | assumption | simp) only [↓sbD,sbU,tyB,Nat.reduceMul,Nat.reduceSub,Int.reduceEq,Int.reduceLT,Int.reduceLE,Int.reduceNe,Nat.reduceBneDiff,Nat.reduceBEq,decide_false,gt_iff_lt,Bool.or_self,Bool.false_eq_true,Nat.mul_one,Nat.one_mul,Nat.zero_mul,↓reduceIte,Nat.reduceEqDiff,Nat.reduceLT,Nat.reduceAdd,Nat.reduceLeDiff,reduceCtorEq,goInt,pairs,isConst,TI.isAgg,splice,boxS,Edp,dpv,Nat.beq_eq,ZV.val,List.any_cons,List.any_nil,Bool.false_and,h0]
     exact downS_here h)
   ·simp only [h0,decide_false] at h
    rcases hm with rfl | rfl | rfl | rfl <;>
    (simp (disch := first | assumption | simp) only [↓sbD,sbU,tyB,Nat.reduceMul,Nat.reduceSub,Int.reduceEq,Int.reduceLT,Int.reduceLE,Int.reduceNe,Nat.reduceBneDiff,Nat.reduceBEq,decide_false,gt_iff_lt,Bool.or_self,Bool.false_eq_true,Nat.mul_one,Nat.one_mul,Nat.zero_mul,↓reduceIte,Nat.reduceEqDiff,Nat.reduceLT,Nat.reduceAdd,Nat.reduceLeDiff,reduceCtorEq,goInt,pairs,isConst,TI.isAgg,splice,boxS,Edp,dpv,Nat.beq_eq,ZV.val,List.any_cons,List.any_nil,Bool.false_and,h0]
     exact downS_here h)
  ·rw [if_neg hm] at h
   simp only [not_or] at hm
   obtain ⟨m1,m2,m3,m4⟩ := hm
   simp (disch := first | assumption | simp) only [↓sbD,sbU,tyB,Nat.reduceMul,Nat.reduceSub,Int.reduceEq,Int.reduceLT,Int.reduceLE,Int.reduceNe,Nat.reduceBneDiff,Nat.reduceBEq,decide_false,gt_iff_lt,Bool.or_self,Bool.false_eq_true,Nat.mul_one,Nat.one_mul,Nat.zero_mul,↓reduceIte,Nat.reduceEqDiff,Nat.reduceLT,Nat.reduceAdd,Nat.reduceLeDiff,reduceCtorEq,goInt,pairs,isConst,TI.isAgg,splice,boxS,Edp,dpv,Nat.beq_eq,ZV.val,List.any_cons,List.any_nil,Bool.false_and,n1,n2,n3,n4,n5,n6,n7,n8,m1,m2,m3,m4]
   exact downS_here h
theorem specRType {id : Int} (h : Q (.int .i64 (typI id)) σ) : CallS E B 176 [.int .i64 id] σ Q := by
 refine call176 (by simp) ?_
 simp only [strip,bodyOf,Tryz.f176,getD_body,keepN,bareOp_mk,lessOp_mk,lapp_cons,lapp_nil,List.map_cons,List.map_nil,array_toList,↓reduceIte,Nat.reduceEqDiff,Bool.false_eq_true]
 by_cases hm : id ∈ ids
 ·simp only [ids,List.mem_cons,List.not_mem_nil,or_false] at hm
  rcases hm with rfl | rfl | rfl | rfl | rfl | rfl | rfl | rfl | rfl | rfl | rfl | rfl | rfl | rfl | rfl | rfl | rfl | rfl | rfl | rfl | rfl | rfl | rfl | rfl | rfl | rfl | rfl <;>
   (simp (disch := first | assumption | simp) only [↓sbD,sbU,tyB,Nat.reduceMul,Nat.reduceSub,Int.reduceEq,Int.reduceLT,Int.reduceLE,Int.reduceNe,Nat.reduceBneDiff,Nat.reduceBEq,decide_false,gt_iff_lt,Bool.or_self,Bool.false_eq_true,Nat.mul_one,Nat.one_mul,Nat.zero_mul,↓reduceIte,Nat.reduceEqDiff,Nat.reduceLT,Nat.reduceAdd,Nat.reduceLeDiff,reduceCtorEq,goInt,pairs,isConst,TI.isAgg,splice,boxS,Edp,dpv,Nat.beq_eq,ZV.val,List.any_cons,List.any_nil,Bool.false_and]
    exact downS_here h)
 ·simp only [ids,List.mem_cons,List.not_mem_nil,or_false,not_or] at hm
  have e : typI id = 0 := by simp [typI,hm]
  rw [e] at h
  obtain ⟨n1,n2,n3,n4,n5,n6,n7,n8,n9,n10,n11,n12,n13,n14,n15,n16,n17,n18,n19,n20,n21,n22,n23,n24,n25,n26,n27⟩ := hm
  simp (disch := first | assumption | simp) only [↓sbD,sbU,tyB,Nat.reduceMul,Nat.reduceSub,Int.reduceEq,Int.reduceLT,Int.reduceLE,Int.reduceNe,Nat.reduceBneDiff,Nat.reduceBEq,decide_false,gt_iff_lt,Bool.or_self,Bool.false_eq_true,Nat.mul_one,Nat.one_mul,Nat.zero_mul,↓reduceIte,Nat.reduceEqDiff,Nat.reduceLT,Nat.reduceAdd,Nat.reduceLeDiff,reduceCtorEq,goInt,pairs,isConst,TI.isAgg,splice,boxS,Edp,dpv,Nat.beq_eq,ZV.val,List.any_cons,List.any_nil,Bool.false_and,n1,n2,n3,n4,n5,n6,n7,n8,n9,n10,n11,n12,n13,n14,n15,n16,n17,n18,n19,n20,n21,n22,n23,n24,n25,n26,n27]
  exact downS_here h
def fltG : Option (Nat × Nat) → Value
 | none => flt 0 0 0
 | some (k,r) => flt k r 0
theorem specRGround {pl id : Int} {v : Value} {l : List Pr} (hl : DL propC 4 v l) (hs : l.length ≤ 100000) (h : Q (fltG (groundP pl l id)) σ) : CallS E B 126 [.int .i64 pl,v,.int .i64 id] σ Q := by
 have hlen := DLp.len hl
 refine call126 (by simp) ?_
 simp only [strip,bodyOf,Tryz.f126,getD_body,keepN,bareOp_mk,lessOp_mk,lapp_cons,lapp_nil,List.map_cons,List.map_nil,array_toList,↓reduceIte,Nat.reduceEqDiff,Bool.false_eq_true]
 simp (disch := first | assumption | simp) only [↓sbD,sbU,tyB,Nat.reduceMul,Nat.reduceSub,Int.reduceEq,Int.reduceLT,Int.reduceLE,Int.reduceNe,Nat.reduceBneDiff,Nat.reduceBEq,decide_false,gt_iff_lt,Bool.or_self,Bool.false_eq_true,Nat.mul_one,Nat.one_mul,Nat.zero_mul,↓reduceIte,Nat.reduceEqDiff,Nat.reduceLT,Nat.reduceAdd,Nat.reduceLeDiff,reduceCtorEq,goInt,pairs,isConst,TI.isAgg,splice,boxS,Edp,dpv,Nat.beq_eq,ZV.val,List.any_cons,List.any_nil,Bool.false_and,AS_new,zeFlt]
 intro c hc
 by_cases h64 : (64 : Int) ≤ (l.length : Int)
 ·have e : groundP pl l id = some (4,149) := by unfold groundP; rw [if_pos (by omega)]
  rw [e] at h
  simp (disch := first | assumption | simp) only [↓sbD,sbU,tyB,Nat.reduceMul,Nat.reduceSub,Int.reduceEq,Int.reduceLT,Int.reduceLE,Int.reduceNe,Nat.reduceBneDiff,Nat.reduceBEq,decide_false,gt_iff_lt,Bool.or_self,Bool.false_eq_true,Nat.mul_one,Nat.one_mul,Nat.zero_mul,↓reduceIte,Nat.reduceEqDiff,Nat.reduceLT,Nat.reduceAdd,Nat.reduceLeDiff,reduceCtorEq,goInt,pairs,isConst,TI.isAgg,splice,boxS,Edp,dpv,Nat.beq_eq,ZV.val,List.any_cons,List.any_nil,Bool.false_and,hlen,h64]
  exact downS_le (Le.new' (Le.new hc) hc) h
 simp (disch := first | assumption | simp) only [↓sbD,sbU,tyB,Nat.reduceMul,Nat.reduceSub,Int.reduceEq,Int.reduceLT,Int.reduceLE,Int.reduceNe,Nat.reduceBneDiff,Nat.reduceBEq,decide_false,gt_iff_lt,Bool.or_self,Bool.false_eq_true,Nat.mul_one,Nat.one_mul,Nat.zero_mul,↓reduceIte,Nat.reduceEqDiff,Nat.reduceLT,Nat.reduceAdd,Nat.reduceLeDiff,reduceCtorEq,goInt,pairs,isConst,TI.isAgg,splice,boxS,Edp,dpv,Nat.beq_eq,ZV.val,List.any_cons,List.any_nil,Bool.false_and,hlen,h64]
 refine specRType ?_
 by_cases ht : typI id = 0
 ·have e : groundP pl l id = some (2,129) := by unfold groundP; rw [if_neg (by omega),if_pos (.inl ht)]
  rw [e] at h
  simp (disch := first | assumption | simp) only [↓sbD,sbU,tyB,Nat.reduceMul,Nat.reduceSub,Int.reduceEq,Int.reduceLT,Int.reduceLE,Int.reduceNe,Nat.reduceBneDiff,Nat.reduceBEq,decide_false,gt_iff_lt,Bool.or_self,Bool.false_eq_true,Nat.mul_one,Nat.one_mul,Nat.zero_mul,↓reduceIte,Nat.reduceEqDiff,Nat.reduceLT,Nat.reduceAdd,Nat.reduceLeDiff,reduceCtorEq,goInt,pairs,isConst,TI.isAgg,splice,boxS,Edp,dpv,Nat.beq_eq,ZV.val,List.any_cons,List.any_nil,Bool.false_and,ht]
  exact downS_le (Le.new' (Le.new hc) hc) h
 simp (disch := first | assumption | simp) only [↓sbD,sbU,tyB,Nat.reduceMul,Nat.reduceSub,Int.reduceEq,Int.reduceLT,Int.reduceLE,Int.reduceNe,Nat.reduceBneDiff,Nat.reduceBEq,decide_false,gt_iff_lt,Bool.or_self,Bool.false_eq_true,Nat.mul_one,Nat.one_mul,Nat.zero_mul,↓reduceIte,Nat.reduceEqDiff,Nat.reduceLT,Nat.reduceAdd,Nat.reduceLeDiff,reduceCtorEq,goInt,pairs,isConst,TI.isAgg,splice,boxS,Edp,dpv,Nat.beq_eq,ZV.val,List.any_cons,List.any_nil,Bool.false_and,ht]
 refine specRAllowed ?_
 cases ha : allow id pl with
 | false =>
  have e : groundP pl l id = some (2,129) := by unfold groundP; rw [if_neg (by omega),if_pos (.inr ha)]
  rw [e] at h
  simp (disch := first | assumption | simp) only [↓sbD,sbU,tyB,Nat.reduceMul,Nat.reduceSub,Int.reduceEq,Int.reduceLT,Int.reduceLE,Int.reduceNe,Nat.reduceBneDiff,Nat.reduceBEq,decide_false,gt_iff_lt,Bool.or_self,Bool.false_eq_true,Nat.mul_one,Nat.one_mul,Nat.zero_mul,↓reduceIte,Nat.reduceEqDiff,Nat.reduceLT,Nat.reduceAdd,Nat.reduceLeDiff,reduceCtorEq,goInt,pairs,isConst,TI.isAgg,splice,boxS,Edp,dpv,Nat.beq_eq,ZV.val,List.any_cons,List.any_nil,Bool.false_and,not_bool]
  exact downS_le (Le.new' (Le.new hc) hc) h
 | true =>
  have e : groundP pl l id = if id ≠ 38 ∧ ¬ (id = 11 ∧ pl = 3) ∧ hasId l id = true then some (3,130) else none := by
   unfold groundP; rw [if_neg (by omega),if_neg (by rw [ha]; simp [ht])]
  rw [e] at h
  clear e
  simp (disch := first | assumption | simp) only [↓sbD,sbU,tyB,Nat.reduceMul,Nat.reduceSub,Int.reduceEq,Int.reduceLT,Int.reduceLE,Int.reduceNe,Nat.reduceBneDiff,Nat.reduceBEq,decide_false,gt_iff_lt,Bool.or_self,Bool.false_eq_true,Nat.mul_one,Nat.one_mul,Nat.zero_mul,↓reduceIte,Nat.reduceEqDiff,Nat.reduceLT,Nat.reduceAdd,Nat.reduceLeDiff,reduceCtorEq,goInt,pairs,isConst,TI.isAgg,splice,boxS,Edp,dpv,Nat.beq_eq,ZV.val,List.any_cons,List.any_nil,Bool.false_and,not_bool]
  generalize hσ1 : AHeap.set σ c _ = σ1
  have gc : σ1.get c = .cells [.int .i64 0,.int .i64 0,.int .i64 0] true 0 := by rw [← hσ1]; exact AHeap.get_set_same _ _ _
  have hle : Le σ σ1 := by rw [← hσ1]; exact Le.new hc
  clear hσ1
  obtain ⟨T,hT⟩ : ∃ T : Prop,T ↔ (id ≠ 38 ∧ ¬ (id = 11 ∧ pl = 3)) := ⟨_,Iff.rfl⟩
  obtain ⟨jd,hjd⟩ : ∃ jd : Int,jd = id := ⟨_,rfl⟩
  refine S_loop (fun m f σ' => σ' = σ1 ∧ ∃ i : Nat,m + i = l.length ∧ f 7 = .int .i64 i ∧ ∀ j (hj : j < l.length),j < i → ¬ ((l[j]).id = jd ∧ T)) l.length (Le.refl _) ⟨rfl,0,rfl,by simp (disch := first | assumption | simp) only [↓sbD,sbU,tyB,Nat.reduceMul,Nat.reduceSub,Int.reduceEq,Int.reduceLT,Int.reduceLE,Int.reduceNe,Nat.reduceBneDiff,Nat.reduceBEq,decide_false,gt_iff_lt,Bool.or_self,Bool.false_eq_true,Nat.mul_one,Nat.one_mul,Nat.zero_mul,↓reduceIte,Nat.reduceEqDiff,Nat.reduceLT,Nat.reduceAdd,Nat.reduceLeDiff,reduceCtorEq,goInt,pairs,isConst,TI.isAgg,splice,boxS,Edp,dpv,Nat.beq_eq,ZV.val,List.any_cons,List.any_nil,Bool.false_and]; rfl,fun j _ hj => by omega⟩ ?_
  rintro m f σ' ⟨rfl,i,hm,f7,hno⟩ hf
  have f0 := hf 0 (by decide) (notMem_wr (by kernel_rfl))
  have f1 := hf 1 (by decide) (notMem_wr (by kernel_rfl))
  have f2 := hf 2 (by decide) (notMem_wr (by kernel_rfl))
  have f6 := hf 6 (by decide) (notMem_wr (by kernel_rfl))
  simp (disch := first | assumption | simp) only [↓sbD,sbU,tyB,Nat.reduceMul,Nat.reduceSub,Int.reduceEq,Int.reduceLT,Int.reduceLE,Int.reduceNe,Nat.reduceBneDiff,Nat.reduceBEq,decide_false,gt_iff_lt,Bool.or_self,Bool.false_eq_true,Nat.mul_one,Nat.one_mul,Nat.zero_mul,↓reduceIte,Nat.reduceEqDiff,Nat.reduceLT,Nat.reduceAdd,Nat.reduceLeDiff,reduceCtorEq,goInt,pairs,isConst,TI.isAgg,splice,boxS,Edp,dpv,Nat.beq_eq,ZV.val,List.any_cons,List.any_nil,Bool.false_and] at f0 f1 f2 f6
  clear hf
  by_cases hi : (i : Int) < (l.length : Int)
  ·have hi' : i < l.length := by omega
   have hia := DLp.at hl hi'
   have hw := wrap_suc (n := i) (by omega)
   have hnext : ¬ ((l[i]).id = jd ∧ T) → ∀ j (hj : j < l.length),j < i + 1 → ¬ ((l[j]).id = jd ∧ T) := fun hp j hj hji => by
    rcases (by omega : j < i ∨ j = i) with h3 | rfl
    ·exact hno j hj h3
    ·exact hp
   have hbad : (l[i]).id = id → id ≠ 38 ∧ ¬ (id = 11 ∧ pl = 3) → Q (flt 3 130 0) σ := fun h1 h2 => by
    have : hasId l id = true := by
     unfold hasId
     rw [List.any_eq_true]
     exact ⟨l[i],List.getElem_mem hi',by simp [h1]⟩
    rw [if_pos ⟨h2.1,h2.2,this⟩] at h
    exact h
   generalize l[i] = y at hia hnext hbad
   have hac : propC y = [.int .i64 y.id,.int .i64 y.n,.string y.s,.string y.v] := rfl
   by_cases he : y.id = id
   ·by_cases c38 : id = 38
    ·subst c38
     simp (disch := first | assumption | simp) only [↓sbD,sbU,tyB,Nat.reduceMul,Nat.reduceSub,Int.reduceEq,Int.reduceLT,Int.reduceLE,Int.reduceNe,Nat.reduceBneDiff,Nat.reduceBEq,decide_false,gt_iff_lt,Bool.or_self,Bool.false_eq_true,Nat.mul_one,Nat.one_mul,Nat.zero_mul,↓reduceIte,Nat.reduceEqDiff,Nat.reduceLT,Nat.reduceAdd,Nat.reduceLeDiff,reduceCtorEq,goInt,pairs,isConst,TI.isAgg,splice,boxS,Edp,dpv,Nat.beq_eq,ZV.val,List.any_cons,List.any_nil,Bool.false_and,f0,f1,f2,f6,f7,hlen,hi,hia,hac,he,decide_true,hw]
     exact ⟨_,m - 1,_,rfl,by omega,Le.refl _,rfl,i + 1,by omega,by simp (disch := first | assumption | simp) only [↓sbD,sbU,tyB,Nat.reduceMul,Nat.reduceSub,Int.reduceEq,Int.reduceLT,Int.reduceLE,Int.reduceNe,Nat.reduceBneDiff,Nat.reduceBEq,decide_false,gt_iff_lt,Bool.or_self,Bool.false_eq_true,Nat.mul_one,Nat.one_mul,Nat.zero_mul,↓reduceIte,Nat.reduceEqDiff,Nat.reduceLT,Nat.reduceAdd,Nat.reduceLeDiff,reduceCtorEq,goInt,pairs,isConst,TI.isAgg,splice,boxS,Edp,dpv,Nat.beq_eq,ZV.val,List.any_cons,List.any_nil,Bool.false_and],hnext fun h => (hT.1 h.2).1 rfl⟩
    ·by_cases c11 : id = 11
     ·by_cases c3 : pl = 3
      ·subst c11; subst c3
       simp (disch := first | assumption | simp) only [↓sbD,sbU,tyB,Nat.reduceMul,Nat.reduceSub,Int.reduceEq,Int.reduceLT,Int.reduceLE,Int.reduceNe,Nat.reduceBneDiff,Nat.reduceBEq,decide_false,gt_iff_lt,Bool.or_self,Bool.false_eq_true,Nat.mul_one,Nat.one_mul,Nat.zero_mul,↓reduceIte,Nat.reduceEqDiff,Nat.reduceLT,Nat.reduceAdd,Nat.reduceLeDiff,reduceCtorEq,goInt,pairs,isConst,TI.isAgg,splice,boxS,Edp,dpv,Nat.beq_eq,ZV.val,List.any_cons,List.any_nil,Bool.false_and,f0,f1,f2,f6,f7,hlen,hi,hia,hac,he,decide_true,hw,not_bool]
       exact ⟨_,m - 1,_,rfl,by omega,Le.refl _,rfl,i + 1,by omega,by simp (disch := first | assumption | simp) only [↓sbD,sbU,tyB,Nat.reduceMul,Nat.reduceSub,Int.reduceEq,Int.reduceLT,Int.reduceLE,Int.reduceNe,Nat.reduceBneDiff,Nat.reduceBEq,decide_false,gt_iff_lt,Bool.or_self,Bool.false_eq_true,Nat.mul_one,Nat.one_mul,Nat.zero_mul,↓reduceIte,Nat.reduceEqDiff,Nat.reduceLT,Nat.reduceAdd,Nat.reduceLeDiff,reduceCtorEq,goInt,pairs,isConst,TI.isAgg,splice,boxS,Edp,dpv,Nat.beq_eq,ZV.val,List.any_cons,List.any_nil,Bool.false_and],hnext fun h => (hT.1 h.2).2 ⟨rfl,rfl⟩⟩
      ·simp (disch := first | assumption | simp) only [↓sbD,sbU,tyB,Nat.reduceMul,Nat.reduceSub,Int.reduceEq,Int.reduceLT,Int.reduceLE,Int.reduceNe,Nat.reduceBneDiff,Nat.reduceBEq,decide_false,gt_iff_lt,Bool.or_self,Bool.false_eq_true,Nat.mul_one,Nat.one_mul,Nat.zero_mul,↓reduceIte,Nat.reduceEqDiff,Nat.reduceLT,Nat.reduceAdd,Nat.reduceLeDiff,reduceCtorEq,goInt,pairs,isConst,TI.isAgg,splice,boxS,Edp,dpv,Nat.beq_eq,ZV.val,List.any_cons,List.any_nil,Bool.false_and,f0,f1,f2,f6,f7,hlen,hi,hia,hac,he,c11,c3,decide_true,hw,not_bool,gc]
       exact downS_le (Le.new' hle hc) (hbad he ⟨c38,fun h => c3 h.2⟩)
     ·simp (disch := first | assumption | simp) only [↓sbD,sbU,tyB,Nat.reduceMul,Nat.reduceSub,Int.reduceEq,Int.reduceLT,Int.reduceLE,Int.reduceNe,Nat.reduceBneDiff,Nat.reduceBEq,decide_false,gt_iff_lt,Bool.or_self,Bool.false_eq_true,Nat.mul_one,Nat.one_mul,Nat.zero_mul,↓reduceIte,Nat.reduceEqDiff,Nat.reduceLT,Nat.reduceAdd,Nat.reduceLeDiff,reduceCtorEq,goInt,pairs,isConst,TI.isAgg,splice,boxS,Edp,dpv,Nat.beq_eq,ZV.val,List.any_cons,List.any_nil,Bool.false_and,f0,f1,f2,f6,f7,hlen,hi,hia,hac,he,c38,c11,decide_true,hw,not_bool,gc]
      exact downS_le (Le.new' hle hc) (hbad he ⟨c38,fun h => c11 h.1⟩)
   ·simp (disch := first | assumption | simp) only [↓sbD,sbU,tyB,Nat.reduceMul,Nat.reduceSub,Int.reduceEq,Int.reduceLT,Int.reduceLE,Int.reduceNe,Nat.reduceBneDiff,Nat.reduceBEq,decide_false,gt_iff_lt,Bool.or_self,Bool.false_eq_true,Nat.mul_one,Nat.one_mul,Nat.zero_mul,↓reduceIte,Nat.reduceEqDiff,Nat.reduceLT,Nat.reduceAdd,Nat.reduceLeDiff,reduceCtorEq,goInt,pairs,isConst,TI.isAgg,splice,boxS,Edp,dpv,Nat.beq_eq,ZV.val,List.any_cons,List.any_nil,Bool.false_and,f0,f1,f2,f6,f7,hlen,hi,hia,hac,he,hw]
    exact ⟨_,m - 1,_,rfl,by omega,Le.refl _,rfl,i + 1,by omega,by simp (disch := first | assumption | simp) only [↓sbD,sbU,tyB,Nat.reduceMul,Nat.reduceSub,Int.reduceEq,Int.reduceLT,Int.reduceLE,Int.reduceNe,Nat.reduceBneDiff,Nat.reduceBEq,decide_false,gt_iff_lt,Bool.or_self,Bool.false_eq_true,Nat.mul_one,Nat.one_mul,Nat.zero_mul,↓reduceIte,Nat.reduceEqDiff,Nat.reduceLT,Nat.reduceAdd,Nat.reduceLeDiff,reduceCtorEq,goInt,pairs,isConst,TI.isAgg,splice,boxS,Edp,dpv,Nat.beq_eq,ZV.val,List.any_cons,List.any_nil,Bool.false_and],hnext fun h => he (h.1.trans hjd)⟩
  ·simp (disch := first | assumption | simp) only [↓sbD,sbU,tyB,Nat.reduceMul,Nat.reduceSub,Int.reduceEq,Int.reduceLT,Int.reduceLE,Int.reduceNe,Nat.reduceBneDiff,Nat.reduceBEq,decide_false,gt_iff_lt,Bool.or_self,Bool.false_eq_true,Nat.mul_one,Nat.one_mul,Nat.zero_mul,↓reduceIte,Nat.reduceEqDiff,Nat.reduceLT,Nat.reduceAdd,Nat.reduceLeDiff,reduceCtorEq,goInt,pairs,isConst,TI.isAgg,splice,boxS,Edp,dpv,Nat.beq_eq,ZV.val,List.any_cons,List.any_nil,Bool.false_and,f0,f1,f2,f6,f7,hlen,hi,gc]
   rw [if_neg (fun hx => by
    obtain ⟨h1,h2,h3⟩ := hx
    unfold hasId at h3
    rw [List.any_eq_true] at h3
    obtain ⟨p,hp,hpe⟩ := h3
    obtain ⟨j,hj,rfl⟩ := List.getElem_of_mem hp
    exact hno j hj (by omega) ⟨by rw [hjd]; simpa using hpe,hT.2 ⟨h1,h2⟩⟩)] at h
   exact downS_le (Le.new' hle hc) h
end
set_option maxHeartbeats 2000000
section
variable {σ : AHeap} {Q : Value → AHeap → Prop} {r : Nat} {s : ByteArray} {p : Nat}
theorem groundP_typ {pl id : Int} {l : List Pr} (h : groundP pl l id = none) : typI id ≠ 0 ∧ l.length < 64 := by
 unfold groundP at h
 split at h
 ·cases h
 split at h
 ·cases h
 ·rename_i h1 h2
  exact ⟨fun h3 => h2 (.inl h3),by omega⟩
theorem oneR_ok {pl : Int} {ahead : List Pr} {x : Pr} {q : Nat} (hp : p ≤ s.size) (h : oneR pl s p ahead = .ok (x,q)) : p < q ∧ q ≤ s.size ∧ ahead.length < 64 ∧ badP pl ahead x = none := by
 unfold oneR at h
 cases hv : varR s p with
 | error e => obtain ⟨k,q'⟩ := e; rw [hv] at h; cases h
 | ok a =>
  obtain ⟨id,q1⟩ := a
  rw [hv] at h
  have h1 := varR_le hp hv
  simp only at h
  cases hg : groundP pl ahead id with
  | some e => obtain ⟨k,rr⟩ := e; rw [hg] at h; cases h
  | none =>
   have h2 := groundP_typ hg
   rw [hg] at h
   simp only at h
   cases hw : valueR id s q1 with
   | error e => obtain ⟨k,q'⟩ := e; rw [hw] at h; cases h
   | ok b =>
    obtain ⟨y,q2⟩ := b
    have h3 := valueR_le h1.2.1 hw
    rw [hw] at h
    simp only at h
    cases hn : numOk y with
    | false => rw [hn] at h; simp at h
    | true =>
     rw [hn] at h
     simp only [if_true,Except.ok.injEq,Prod.mk.injEq] at h
     obtain ⟨rfl,rfl⟩ := h
     have hid : y.id = id := by
      unfold valueR at hw
      split at hw
      ·cases ht : textR s q1 with
       | error e => rw [ht] at hw; cases hw
       | ok a =>
        obtain ⟨a,q3⟩ := a
        rw [ht] at hw
        simp only at hw
        cases ht2 : textR s q3 with
        | error e => rw [ht2] at hw; cases hw
        | ok a => obtain ⟨b,q4⟩ := a; rw [ht2] at hw; simp only [Except.ok.injEq,Prod.mk.injEq] at hw; rw [← hw.1]
      ·cases ht : rdA (typI id) s q1 with
       | error e => rw [ht] at hw; cases hw
       | ok a => obtain ⟨⟨n,a⟩,q3⟩ := a; rw [ht] at hw; simp only [Except.ok.injEq,Prod.mk.injEq] at hw; rw [← hw.1]
     exact ⟨by omega,by omega,h2.2,by unfold badP; rw [hid,hg]; simp [hn]⟩
theorem specOne {pl : Int} {v : Value} {l : List Pr} (hl : DL propC 4 v l) (hll : l.length ≤ 100000) (hr : IsR σ r s p .nilIface) (hp : p ≤ s.size) (hs : s.size ≤ 100000000)
  (hok : ∀ x q,oneR pl s p l = .ok (x,q) → ∀ σ',Kept σ [r] σ' [r] → IsR σ' r s q .nilIface → Q (.tuple #[.agg ⟨propC x⟩,.nilIface]) σ')
  (hbad : ∀ k rr a : Nat,oneR pl s p l = .error (k,rr,a) → ∀ σ' d z y,Kept σ [r] σ' [r] → d ≤ 2 → ErN d (fv rr a z) k → a ≤ s.size + 65537 → Q (.tuple #[.agg ⟨propC y⟩,fv rr a z]) σ') :
  CallS E B 180 [.pointer (some ⟨r,0,none⟩),.int .i64 pl,v] σ Q := by
 unfold oneR at hok hbad
 refine call180 (by simp) ?_
 simp only [strip,bodyOf,Tryz.f180,getD_body,keepN,bareOp_mk,lessOp_mk,lapp_cons,lapp_nil,List.map_cons,List.map_nil,array_toList,↓reduceIte,Nat.reduceEqDiff,Bool.false_eq_true]
 simp (disch := first | assumption | simp) only [↓sbD,sbU,tyB,Nat.reduceMul,Nat.reduceSub,Int.reduceEq,Int.reduceLT,Int.reduceLE,Int.reduceNe,Nat.reduceBneDiff,Nat.reduceBEq,decide_false,gt_iff_lt,Bool.or_self,Bool.false_eq_true,Nat.mul_one,Nat.one_mul,Nat.zero_mul,↓reduceIte,Nat.reduceEqDiff,Nat.reduceLT,Nat.reduceAdd,Nat.reduceLeDiff,reduceCtorEq,goInt,pairs,isConst,TI.isAgg,splice,boxS,Edp,dpv,Nat.beq_eq,ZV.val,List.any_cons,List.any_nil,Bool.false_and,AS_new,zePr]
 intro c hc
 have hcr : c ≠ r := by rintro rfl; rw [hr] at hc; cases hc
 generalize hσ1 : AHeap.set σ c _ = σ1
 have k1 : Kept σ [r] σ1 [r] := by rw [← hσ1]; exact (Kept.refl σ [r]).setD hc
 have gc1 : σ1.get c = .cells [.int .i64 0,.int .i64 0,.string ⟨#[]⟩,.string ⟨#[]⟩] true 0 := by rw [← hσ1]; exact AHeap.get_set_same _ _ _
 have i1 : IsR σ1 r s p .nilIface := by rw [← hσ1]; unfold IsR; rw [AHeap.get_set_ne _ _ hcr]; exact hr
 clear hσ1
 refine specRAt i1 ?_
 simp (disch := first | assumption | simp) only [↓sbD,sbU,tyB,Nat.reduceMul,Nat.reduceSub,Int.reduceEq,Int.reduceLT,Int.reduceLE,Int.reduceNe,Nat.reduceBneDiff,Nat.reduceBEq,decide_false,gt_iff_lt,Bool.or_self,Bool.false_eq_true,Nat.mul_one,Nat.one_mul,Nat.zero_mul,↓reduceIte,Nat.reduceEqDiff,Nat.reduceLT,Nat.reduceAdd,Nat.reduceLeDiff,reduceCtorEq,goInt,pairs,isConst,TI.isAgg,splice,boxS,Edp,dpv,Nat.beq_eq,ZV.val,List.any_cons,List.any_nil,Bool.false_and]
 refine specRVar i1 hp hs (fun n q hn σ2 k2 i2 => ?_) fun k q hn σ2 k2 i2 => ?_
 rotate_left
 ·obtain ⟨d,z,hd,he,i3⟩ := i2
  rw [hn] at hbad
  have gc2 := (k2.at gc1 (by simp) (by simpa using hcr)).1
  have hq := varR_er hp hn
  simp (disch := first | assumption | simp) only [↓sbD,sbU,tyB,Nat.reduceMul,Nat.reduceSub,Int.reduceEq,Int.reduceLT,Int.reduceLE,Int.reduceNe,Nat.reduceBneDiff,Nat.reduceBEq,decide_false,gt_iff_lt,Bool.or_self,Bool.false_eq_true,Nat.mul_one,Nat.one_mul,Nat.zero_mul,↓reduceIte,Nat.reduceEqDiff,Nat.reduceLT,Nat.reduceAdd,Nat.reduceLeDiff,reduceCtorEq,goInt,pairs,isConst,TI.isAgg,splice,boxS,Edp,dpv,Nat.beq_eq,ZV.val,List.any_cons,List.any_nil,Bool.false_and]
  refine specRErr i3 ?_
  simp (disch := first | assumption | simp) only [↓sbD,sbU,tyB,Nat.reduceMul,Nat.reduceSub,Int.reduceEq,Int.reduceLT,Int.reduceLE,Int.reduceNe,Nat.reduceBneDiff,Nat.reduceBEq,decide_false,gt_iff_lt,Bool.or_self,Bool.false_eq_true,Nat.mul_one,Nat.one_mul,Nat.zero_mul,↓reduceIte,Nat.reduceEqDiff,Nat.reduceLT,Nat.reduceAdd,Nat.reduceLeDiff,reduceCtorEq,goInt,pairs,isConst,TI.isAgg,splice,boxS,Edp,dpv,Nat.beq_eq,ZV.val,List.any_cons,List.any_nil,Bool.false_and,gc2,res_cellc,resC_some]
  exact downS_here (hbad k 129 q rfl _ d z ⟨0,0,emp,emp⟩ ((k1.trans k2).setD hc) hd he (by omega))
 ·have hv := varR_le hp hn
  rw [hn] at hok hbad
  simp only at hok hbad
  have gc2 := (k2.at gc1 (by simp) (by simpa using hcr)).1
  simp (disch := first | assumption | simp) only [↓sbD,sbU,tyB,Nat.reduceMul,Nat.reduceSub,Int.reduceEq,Int.reduceLT,Int.reduceLE,Int.reduceNe,Nat.reduceBneDiff,Nat.reduceBEq,decide_false,gt_iff_lt,Bool.or_self,Bool.false_eq_true,Nat.mul_one,Nat.one_mul,Nat.zero_mul,↓reduceIte,Nat.reduceEqDiff,Nat.reduceLT,Nat.reduceAdd,Nat.reduceLeDiff,reduceCtorEq,goInt,pairs,isConst,TI.isAgg,splice,boxS,Edp,dpv,Nat.beq_eq,ZV.val,List.any_cons,List.any_nil,Bool.false_and]
  refine specRErr i2 ?_
  simp (disch := first | assumption | simp) only [↓sbD,sbU,tyB,Nat.reduceMul,Nat.reduceSub,Int.reduceEq,Int.reduceLT,Int.reduceLE,Int.reduceNe,Nat.reduceBneDiff,Nat.reduceBEq,decide_false,gt_iff_lt,Bool.or_self,Bool.false_eq_true,Nat.mul_one,Nat.one_mul,Nat.zero_mul,↓reduceIte,Nat.reduceEqDiff,Nat.reduceLT,Nat.reduceAdd,Nat.reduceLeDiff,reduceCtorEq,goInt,pairs,isConst,TI.isAgg,splice,boxS,Edp,dpv,Nat.beq_eq,ZV.val,List.any_cons,List.any_nil,Bool.false_and]
  refine specGround hl hll (fun hg => ?_) fun k rr hg hk => ?_
  rotate_left
  ·rw [hg] at hbad
   simp (disch := first | assumption | simp) only [↓sbD,sbU,tyB,Nat.reduceMul,Nat.reduceSub,Int.reduceEq,Int.reduceLT,Int.reduceLE,Int.reduceNe,Nat.reduceBneDiff,Nat.reduceBEq,decide_false,gt_iff_lt,Bool.or_self,Bool.false_eq_true,Nat.mul_one,Nat.one_mul,Nat.zero_mul,↓reduceIte,Nat.reduceEqDiff,Nat.reduceLT,Nat.reduceAdd,Nat.reduceLeDiff,reduceCtorEq,goInt,pairs,isConst,TI.isAgg,splice,boxS,Edp,dpv,Nat.beq_eq,ZV.val,List.any_cons,List.any_nil,Bool.false_and,gc2,res_cellc,resC_some]
   exact downS_here (hbad k rr p rfl _ 1 _ ⟨0,0,emp,emp⟩ ((k1.trans k2).setD hc) (by omega) (ErN.new _ _ hk) (by omega))
  ·rw [hg] at hok hbad
   simp only at hok hbad
   have ht0 := (groundP_typ hg).1
   simp (disch := first | assumption | simp) only [↓sbD,sbU,tyB,Nat.reduceMul,Nat.reduceSub,Int.reduceEq,Int.reduceLT,Int.reduceLE,Int.reduceNe,Nat.reduceBneDiff,Nat.reduceBEq,decide_false,gt_iff_lt,Bool.or_self,Bool.false_eq_true,Nat.mul_one,Nat.one_mul,Nat.zero_mul,↓reduceIte,Nat.reduceEqDiff,Nat.reduceLT,Nat.reduceAdd,Nat.reduceLeDiff,reduceCtorEq,goInt,pairs,isConst,TI.isAgg,splice,boxS,Edp,dpv,Nat.beq_eq,ZV.val,List.any_cons,List.any_nil,Bool.false_and]
   refine specPValue ht0 i2 hv.2.1 hs (fun x q2 hx σ3 k3 i3 => ?_) fun k q2 hx σ3 p' y k3 i3 => ?_
   rotate_left
   ·obtain ⟨d,z,hd,he,i4⟩ := i3
    rw [hx] at hbad
    have gc3 := (k3.at gc2 (by simp) (by simpa using hcr)).1
    have hq := valueR_er hv.2.1 hx
    have hac : propC y = [.int .i64 y.id,.int .i64 y.n,.string y.s,.string y.v] := rfl
    simp (disch := first | assumption | simp) only [↓sbD,sbU,tyB,Nat.reduceMul,Nat.reduceSub,Int.reduceEq,Int.reduceLT,Int.reduceLE,Int.reduceNe,Nat.reduceBneDiff,Nat.reduceBEq,decide_false,gt_iff_lt,Bool.or_self,Bool.false_eq_true,Nat.mul_one,Nat.one_mul,Nat.zero_mul,↓reduceIte,Nat.reduceEqDiff,Nat.reduceLT,Nat.reduceAdd,Nat.reduceLeDiff,reduceCtorEq,goInt,pairs,isConst,TI.isAgg,splice,boxS,Edp,dpv,Nat.beq_eq,ZV.val,List.any_cons,List.any_nil,Bool.false_and,AS_new,zePr,hac]
    intro b hb
    have hb0 : b ≠ c := by rintro rfl; rw [gc3] at hb; cases hb
    have hbr : b ≠ r := by rintro rfl; rw [i4] at hb; cases hb
    have bc : ∀ (τ : AHeap) o,(AHeap.set τ b o).get c = τ.get c := fun τ o => AHeap.get_set_ne _ _ hb0
    have i5 : ∀ o o',IsR (AHeap.set (AHeap.set σ3 b o) b o') r s p' (fv 129 (q2 : Int) z) := fun o o' => by unfold IsR; rw [AHeap.get_set_ne _ _ hbr,AHeap.get_set_ne _ _ hbr]; exact i4
    refine specRErr (i5 _ _) ?_
    simp (disch := first | assumption | simp) only [↓sbD,sbU,tyB,Nat.reduceMul,Nat.reduceSub,Int.reduceEq,Int.reduceLT,Int.reduceLE,Int.reduceNe,Nat.reduceBneDiff,Nat.reduceBEq,decide_false,gt_iff_lt,Bool.or_self,Bool.false_eq_true,Nat.mul_one,Nat.one_mul,Nat.zero_mul,↓reduceIte,Nat.reduceEqDiff,Nat.reduceLT,Nat.reduceAdd,Nat.reduceLeDiff,reduceCtorEq,goInt,pairs,isConst,TI.isAgg,splice,boxS,Edp,dpv,Nat.beq_eq,ZV.val,List.any_cons,List.any_nil,Bool.false_and,gc3,bc,res_cellc,resC_some]
    have hb1 : ∀ o,(AHeap.set σ3 c o).get b = .dead := fun o => by rw [AHeap.get_set_ne _ _ hb0.symm]; exact hb
    refine downS_le ?_ (hbad k 129 q2 rfl (σ3.set c (.cells [.int .i64 0,.int .i64 0,.string ⟨#[]⟩,.string ⟨#[]⟩] true 0)) d z ⟨0,0,emp,emp⟩ (((k1.trans k2).trans k3).setD hc) hd he hq)
    exact Le.set (Le.new' (Le.new hb) hb)
   ·rw [hx] at hok hbad
    simp only at hok hbad
    have gc3 := (k3.at gc2 (by simp) (by simpa using hcr)).1
    have hac : propC x = [.int .i64 x.id,.int .i64 x.n,.string x.s,.string x.v] := rfl
    simp (disch := first | assumption | simp) only [↓sbD,sbU,tyB,Nat.reduceMul,Nat.reduceSub,Int.reduceEq,Int.reduceLT,Int.reduceLE,Int.reduceNe,Nat.reduceBneDiff,Nat.reduceBEq,decide_false,gt_iff_lt,Bool.or_self,Bool.false_eq_true,Nat.mul_one,Nat.one_mul,Nat.zero_mul,↓reduceIte,Nat.reduceEqDiff,Nat.reduceLT,Nat.reduceAdd,Nat.reduceLeDiff,reduceCtorEq,goInt,pairs,isConst,TI.isAgg,splice,boxS,Edp,dpv,Nat.beq_eq,ZV.val,List.any_cons,List.any_nil,Bool.false_and,AS_new,zePr,hac]
    intro b hb
    have hb0 : b ≠ c := by rintro rfl; rw [gc3] at hb; cases hb
    have hbr : b ≠ r := by rintro rfl; rw [i3] at hb; cases hb
    have bc : ∀ (τ : AHeap) o,(AHeap.set τ b o).get c = τ.get c := fun τ o => AHeap.get_set_ne _ _ hb0
    have cb : ∀ (τ : AHeap) o,(AHeap.set τ c o).get b = τ.get b := fun τ o => AHeap.get_set_ne _ _ hb0.symm
    have i5 : ∀ o o',IsR (AHeap.set (AHeap.set σ3 b o) b o') r s q2 .nilIface := fun o o' => by unfold IsR; rw [AHeap.get_set_ne _ _ hbr,AHeap.get_set_ne _ _ hbr]; exact i3
    refine specRErr (i5 _ _) ?_
    simp (disch := first | assumption | simp) only [↓sbD,sbU,tyB,Nat.reduceMul,Nat.reduceSub,Int.reduceEq,Int.reduceLT,Int.reduceLE,Int.reduceNe,Nat.reduceBneDiff,Nat.reduceBEq,decide_false,gt_iff_lt,Bool.or_self,Bool.false_eq_true,Nat.mul_one,Nat.one_mul,Nat.zero_mul,↓reduceIte,Nat.reduceEqDiff,Nat.reduceLT,Nat.reduceAdd,Nat.reduceLeDiff,reduceCtorEq,goInt,pairs,isConst,TI.isAgg,splice,boxS,Edp,dpv,Nat.beq_eq,ZV.val,List.any_cons,List.any_nil,Bool.false_and]
    rw [propC_ag]
    have hcb : Nat.beq c b = false := beq_ne hb0.symm
    refine specBadP (fun hn => ?_) fun hn => ?_
    ·rw [hn] at hok
     simp (disch := first | assumption | simp) only [↓sbD,sbU,tyB,Nat.reduceMul,Nat.reduceSub,Int.reduceEq,Int.reduceLT,Int.reduceLE,Int.reduceNe,Nat.reduceBneDiff,Nat.reduceBEq,decide_false,gt_iff_lt,Bool.or_self,Bool.false_eq_true,Nat.mul_one,Nat.one_mul,Nat.zero_mul,↓reduceIte,Nat.reduceEqDiff,Nat.reduceLT,Nat.reduceAdd,Nat.reduceLeDiff,reduceCtorEq,goInt,pairs,isConst,TI.isAgg,splice,boxS,Edp,dpv,Nat.beq_eq,ZV.val,List.any_cons,List.any_nil,Bool.false_and,gc3,bc,cb,hac]
     refine drawS_l (fl := [(0,3)]) (by kernel_rfl) ?_ ?_
     rotate_left; simp only [lastP_cc,lastP_one]; rotate_left
     ·simp only [List.all_cons,List.all_nil,floatS,List.getElem?_cons_succ,List.getElem?_cons_zero,List.getElem?_toArray,Region.wanted,Bool.not_true,Bool.not_false,Bool.false_or,Bool.true_or,Bool.or_true,Bool.true_and,reads,looksWeak,aev_tmp,aev_const,upd_at,↓reduceIte,Nat.reduceEqDiff,Nat.reduceLT,Nat.reduceAdd,ofL_zero,ofL_succ,blkOf,oeq_refl,oeq_of,dead_cells,dead_map,Bool.and_true,Bool.and_self,Bool.false_eq_true,Bool.not_false,gc3,bc,cb,hcb,AHeap.get_set_same]
     simp (disch := first | assumption | simp) only [↓sbD,sbU,tyB,Nat.reduceMul,Nat.reduceSub,Int.reduceEq,Int.reduceLT,Int.reduceLE,Int.reduceNe,Nat.reduceBneDiff,Nat.reduceBEq,decide_false,gt_iff_lt,Bool.or_self,Bool.false_eq_true,Nat.mul_one,Nat.one_mul,Nat.zero_mul,↓reduceIte,Nat.reduceEqDiff,Nat.reduceLT,Nat.reduceAdd,Nat.reduceLeDiff,reduceCtorEq,goInt,pairs,isConst,TI.isAgg,splice,boxS,Edp,dpv,Nat.beq_eq,ZV.val,List.any_cons,List.any_nil,Bool.false_and,gc3,bc,cb,hac,res_cellc,resC_some]
     have hcr2 : ∀ (τ : AHeap) o,(AHeap.set τ c o).get r = τ.get r := fun τ o => AHeap.get_set_ne _ _ hcr
     refine downS_le ?_ (hok x q2 rfl (σ3.set c (.cells [.int .i64 x.id,.int .i64 x.n,.string x.s,.string x.v] true 0)) (((k1.trans k2).trans k3).setD hc) (by unfold IsR; rw [hcr2]; exact i3))
     exact Le.set (Le.new' (Le.new hb) hb)
    ·rw [hn] at hbad
     simp (disch := first | assumption | simp) only [↓sbD,sbU,tyB,Nat.reduceMul,Nat.reduceSub,Int.reduceEq,Int.reduceLT,Int.reduceLE,Int.reduceNe,Nat.reduceBneDiff,Nat.reduceBEq,decide_false,gt_iff_lt,Bool.or_self,Bool.false_eq_true,Nat.mul_one,Nat.one_mul,Nat.zero_mul,↓reduceIte,Nat.reduceEqDiff,Nat.reduceLT,Nat.reduceAdd,Nat.reduceLeDiff,reduceCtorEq,goInt,pairs,isConst,TI.isAgg,splice,boxS,Edp,dpv,Nat.beq_eq,ZV.val,List.any_cons,List.any_nil,Bool.false_and,gc3,bc,cb,hac]
     refine drawS_l (fl := [(0,3)]) (by kernel_rfl) ?_ ?_
     rotate_left; simp only [lastP_cc,lastP_one]; rotate_left
     ·simp only [List.all_cons,List.all_nil,floatS,List.getElem?_cons_succ,List.getElem?_cons_zero,List.getElem?_toArray,Region.wanted,Bool.not_true,Bool.not_false,Bool.false_or,Bool.true_or,Bool.or_true,Bool.true_and,reads,looksWeak,aev_tmp,aev_const,upd_at,↓reduceIte,Nat.reduceEqDiff,Nat.reduceLT,Nat.reduceAdd,ofL_zero,ofL_succ,blkOf,oeq_refl,oeq_of,dead_cells,dead_map,Bool.and_true,Bool.and_self,Bool.false_eq_true,Bool.not_false,gc3,bc,cb,hcb,AHeap.get_set_same]
     simp (disch := first | assumption | simp) only [↓sbD,sbU,tyB,Nat.reduceMul,Nat.reduceSub,Int.reduceEq,Int.reduceLT,Int.reduceLE,Int.reduceNe,Nat.reduceBneDiff,Nat.reduceBEq,decide_false,gt_iff_lt,Bool.or_self,Bool.false_eq_true,Nat.mul_one,Nat.one_mul,Nat.zero_mul,↓reduceIte,Nat.reduceEqDiff,Nat.reduceLT,Nat.reduceAdd,Nat.reduceLeDiff,reduceCtorEq,goInt,pairs,isConst,TI.isAgg,splice,boxS,Edp,dpv,Nat.beq_eq,ZV.val,List.any_cons,List.any_nil,Bool.false_and,gc3,bc,cb,hac,res_cellc,resC_some]
     refine downS_le ?_ (hbad 3 130 p rfl (σ3.set c (.cells [.int .i64 x.id,.int .i64 x.n,.string x.s,.string x.v] true 0)) 1 _ x (((k1.trans k2).trans k3).setD hc) (by omega) (ErN.new _ _ ⟨by omega,by omega⟩) (by omega))
     exact Le.set (Le.new' (Le.new hb) hb)
end
set_option maxHeartbeats 4000000
section
variable {σ : AHeap} {Q : Value → AHeap → Prop}
end
set_option maxHeartbeats 2000000
section
variable {σ : AHeap} {Q : Value → AHeap → Prop} {r p : Nat} {s : ByteArray}
theorem specYValue {id : Int} (ht0 : typI id ≠ 0) (hr : IsY σ r s p 0 0) (hp : p ≤ s.size) (hs : s.size ≤ 100000000)
  (hok : ∀ x q,valueR id s p = .ok (x,q) → ∀ σ',Kept σ [r] σ' [r] → IsY σ' r s q 0 0 → Q (.agg ⟨propC x⟩) σ')
  (hbad : ∀ k q,valueR id s p = .error (k,q) → k ≠ 0 → ∀ σ' p' y,Kept σ [r] σ' [r] → IsY σ' r s p' (k : Int) (q : Int) → Q (.agg ⟨propC y⟩) σ') :
  CallS E B 127 [.pointer (some ⟨r,0,none⟩),.int .i64 id] σ Q := by
 unfold valueR at hok hbad
 refine call127 (by simp) ?_
 simp only [strip,bodyOf,Tryz.f127,getD_body,keepN,bareOp_mk,lessOp_mk,lapp_cons,lapp_nil,List.map_cons,List.map_nil,array_toList,↓reduceIte,Nat.reduceEqDiff,Bool.false_eq_true]
 simp (disch := first | assumption | simp) only [↓sbD,sbU,tyB,Nat.reduceMul,Nat.reduceSub,Int.reduceEq,Int.reduceLT,Int.reduceLE,Int.reduceNe,Nat.reduceBneDiff,Nat.reduceBEq,decide_false,gt_iff_lt,Bool.or_self,Bool.false_eq_true,Nat.mul_one,Nat.one_mul,Nat.zero_mul,↓reduceIte,Nat.reduceEqDiff,Nat.reduceLT,Nat.reduceAdd,Nat.reduceLeDiff,reduceCtorEq,goInt,pairs,isConst,TI.isAgg,splice,boxS,Edp,dpv,Nat.beq_eq,ZV.val,List.any_cons,List.any_nil,Bool.false_and,AS_new,zePr]
 intro c hc d hd
 have hlive : σ.get r ≠ .dead := by rw [show σ.get r = _ from hr]; simp
 have hcr : c ≠ r := by rintro rfl; exact hlive hc
 have hdc : d ≠ c := by rintro rfl; rw [AHeap.get_set_same] at hd; cases hd
 have hd0 : σ.get d = .dead := by rw [AHeap.get_set_ne _ _ hdc.symm] at hd; exact hd
 have hdr : d ≠ r := by rintro rfl; exact hlive hd0
 generalize hσ1 : AHeap.set (AHeap.set (AHeap.set σ c _) d _) d _ = σ1
 have k1 : Kept σ [r] σ1 [r] := by rw [← hσ1]; exact (((Kept.refl σ [r]).setD hc).setD hd0).setD hd0
 have g1 : σ1.get d = .cells [.int .i64 id,.int .i64 0,.string ⟨#[]⟩,.string ⟨#[]⟩] true 0 := by rw [← hσ1]; exact AHeap.get_set_same _ _ _
 have gc1 : σ1.get c = .cells [.int .i64 0,.int .i64 0,.string ⟨#[]⟩,.string ⟨#[]⟩] true 0 := by rw [← hσ1,AHeap.get_set_ne _ _ hdc,AHeap.get_set_ne _ _ hdc]; exact AHeap.get_set_same _ _ _
 have i1 : IsY σ1 r s p 0 0 := by rw [← hσ1]; unfold IsY; rw [AHeap.get_set_ne _ _ hdr,AHeap.get_set_ne _ _ hdr,AHeap.get_set_ne _ _ hcr]; exact hr
 clear hσ1 hd
 have dc : ∀ (τ : AHeap) o,(AHeap.set τ d o).get c = τ.get c := fun τ o => AHeap.get_set_ne _ _ hdc
 have xr : ∀ (τ : AHeap) o o',(AHeap.set (AHeap.set τ d o) c o').get r = τ.get r := fun τ o o' => by rw [AHeap.get_set_ne _ _ hcr,AHeap.get_set_ne _ _ hdr]
 have dr : ∀ (τ : AHeap) o,(AHeap.set τ d o).get r = τ.get r := fun τ o => AHeap.get_set_ne _ _ hdr
 have cr : ∀ (τ : AHeap) o,(AHeap.set τ c o).get r = τ.get r := fun τ o => AHeap.get_set_ne _ _ hcr
 refine specRType ?_
 by_cases h9 : typI id = 9
 ·rw [if_pos h9] at hok hbad
  simp (disch := first | assumption | simp) only [↓sbD,sbU,tyB,Nat.reduceMul,Nat.reduceSub,Int.reduceEq,Int.reduceLT,Int.reduceLE,Int.reduceNe,Nat.reduceBneDiff,Nat.reduceBEq,decide_false,gt_iff_lt,Bool.or_self,Bool.false_eq_true,Nat.mul_one,Nat.one_mul,Nat.zero_mul,↓reduceIte,Nat.reduceEqDiff,Nat.reduceLT,Nat.reduceAdd,Nat.reduceLeDiff,reduceCtorEq,goInt,pairs,isConst,TI.isAgg,splice,boxS,Edp,dpv,Nat.beq_eq,ZV.val,List.any_cons,List.any_nil,Bool.false_and,h9]
  refine specYText i1 hp hs (fun a q ha σ2 k2 i2 => ?_) fun k q ha σ2 k2 i2 => ?_
  ·have hq := textR_ok ha
   rw [ha] at hok hbad
   simp only at hok hbad
   have g2 := (k2.at g1 (by simp) (by simpa using hdr)).1
   have gc2 := (k2.at gc1 (by simp) (by simpa using hcr)).1
   simp (disch := first | assumption | simp) only [↓sbD,sbU,tyB,Nat.reduceMul,Nat.reduceSub,Int.reduceEq,Int.reduceLT,Int.reduceLE,Int.reduceNe,Nat.reduceBneDiff,Nat.reduceBEq,decide_false,gt_iff_lt,Bool.or_self,Bool.false_eq_true,Nat.mul_one,Nat.one_mul,Nat.zero_mul,↓reduceIte,Nat.reduceEqDiff,Nat.reduceLT,Nat.reduceAdd,Nat.reduceLeDiff,reduceCtorEq,goInt,pairs,isConst,TI.isAgg,splice,boxS,Edp,dpv,Nat.beq_eq,ZV.val,List.any_cons,List.any_nil,Bool.false_and,g2,gc2,dc]
   generalize hσ3 : AHeap.set σ2 d _ = σ3
   have g3 : σ3.get d = .cells [.int .i64 id,.int .i64 0,.string a,.string ⟨#[]⟩] true 0 := by rw [← hσ3]; exact AHeap.get_set_same _ _ _
   have gc3 : σ3.get c = .cells [.int .i64 0,.int .i64 0,.string ⟨#[]⟩,.string ⟨#[]⟩] true 0 := by rw [← hσ3,dc]; exact gc2
   have k3 : Kept σ [r] σ3 [r] := by rw [← hσ3]; exact (k1.trans k2).setD hd0
   have i3 : IsY σ3 r s q 0 0 := by rw [← hσ3]; unfold IsY; rw [dr]; exact i2
   clear hσ3
   refine specYText i3 hq.2 hs (fun b q2 hb σ4 k4 i4 => ?_) fun k q2 hb σ4 k4 i4 => ?_
   ·rw [hb] at hok
    have g4 := (k4.at g3 (by simp) (by simpa using hdr)).1
    have gc4 := (k4.at gc3 (by simp) (by simpa using hcr)).1
    simp (disch := first | assumption | simp) only [↓sbD,sbU,tyB,Nat.reduceMul,Nat.reduceSub,Int.reduceEq,Int.reduceLT,Int.reduceLE,Int.reduceNe,Nat.reduceBneDiff,Nat.reduceBEq,decide_false,gt_iff_lt,Bool.or_self,Bool.false_eq_true,Nat.mul_one,Nat.one_mul,Nat.zero_mul,↓reduceIte,Nat.reduceEqDiff,Nat.reduceLT,Nat.reduceAdd,Nat.reduceLeDiff,reduceCtorEq,goInt,pairs,isConst,TI.isAgg,splice,boxS,Edp,dpv,Nat.beq_eq,ZV.val,List.any_cons,List.any_nil,Bool.false_and,g4,gc4,dc,AHeap.get_set_same]
    exact downS_here (hok ⟨id,0,a,b⟩ q2 rfl _ (((k3.trans k4).setD hd0).setD hc) (by unfold IsY; rw [cr,dr]; exact i4))
   ·rw [hb] at hbad
    have g4 := (k4.at g3 (by simp) (by simpa using hdr)).1
    have gc4 := (k4.at gc3 (by simp) (by simpa using hcr)).1
    simp (disch := first | assumption | simp) only [↓sbD,sbU,tyB,Nat.reduceMul,Nat.reduceSub,Int.reduceEq,Int.reduceLT,Int.reduceLE,Int.reduceNe,Nat.reduceBneDiff,Nat.reduceBEq,decide_false,gt_iff_lt,Bool.or_self,Bool.false_eq_true,Nat.mul_one,Nat.one_mul,Nat.zero_mul,↓reduceIte,Nat.reduceEqDiff,Nat.reduceLT,Nat.reduceAdd,Nat.reduceLeDiff,reduceCtorEq,goInt,pairs,isConst,TI.isAgg,splice,boxS,Edp,dpv,Nat.beq_eq,ZV.val,List.any_cons,List.any_nil,Bool.false_and,g4,gc4,dc,AHeap.get_set_same]
    exact downS_here (hbad k q2 rfl (textR_k hb) _ q ⟨id,0,a,emp⟩ (((k3.trans k4).setD hd0).setD hc) (by unfold IsY; rw [cr,dr]; exact i4))
  ·rw [ha] at hbad
   have hk0 := textR_k ha
   have g2 := (k2.at g1 (by simp) (by simpa using hdr)).1
   have gc2 := (k2.at gc1 (by simp) (by simpa using hcr)).1
   simp (disch := first | assumption | simp) only [↓sbD,sbU,tyB,Nat.reduceMul,Nat.reduceSub,Int.reduceEq,Int.reduceLT,Int.reduceLE,Int.reduceNe,Nat.reduceBneDiff,Nat.reduceBEq,decide_false,gt_iff_lt,Bool.or_self,Bool.false_eq_true,Nat.mul_one,Nat.one_mul,Nat.zero_mul,↓reduceIte,Nat.reduceEqDiff,Nat.reduceLT,Nat.reduceAdd,Nat.reduceLeDiff,reduceCtorEq,goInt,pairs,isConst,TI.isAgg,splice,boxS,Edp,dpv,Nat.beq_eq,ZV.val,List.any_cons,List.any_nil,Bool.false_and,g2,gc2,dc]
   generalize hσ3 : AHeap.set σ2 d _ = σ3
   have g3 : σ3.get d = .cells [.int .i64 id,.int .i64 0,.string emp,.string ⟨#[]⟩] true 0 := by rw [← hσ3]; exact AHeap.get_set_same _ _ _
   have gc3 : σ3.get c = .cells [.int .i64 0,.int .i64 0,.string ⟨#[]⟩,.string ⟨#[]⟩] true 0 := by rw [← hσ3,dc]; exact gc2
   have k3 : Kept σ [r] σ3 [r] := by rw [← hσ3]; exact (k1.trans k2).setD hd0
   have i3 : IsY σ3 r s p (k : Int) (q : Int) := by rw [← hσ3]; unfold IsY; rw [dr]; exact i2
   clear hσ3
   refine specYTextE i3 (by omega) fun σ4 k4 i4 => ?_
   have g4 := (k4.at g3 (by simp) (by simpa using hdr)).1
   have gc4 := (k4.at gc3 (by simp) (by simpa using hcr)).1
   simp (disch := first | assumption | simp) only [↓sbD,sbU,tyB,Nat.reduceMul,Nat.reduceSub,Int.reduceEq,Int.reduceLT,Int.reduceLE,Int.reduceNe,Nat.reduceBneDiff,Nat.reduceBEq,decide_false,gt_iff_lt,Bool.or_self,Bool.false_eq_true,Nat.mul_one,Nat.one_mul,Nat.zero_mul,↓reduceIte,Nat.reduceEqDiff,Nat.reduceLT,Nat.reduceAdd,Nat.reduceLeDiff,reduceCtorEq,goInt,pairs,isConst,TI.isAgg,splice,boxS,Edp,dpv,Nat.beq_eq,ZV.val,List.any_cons,List.any_nil,Bool.false_and,g4,gc4,dc,AHeap.get_set_same]
   exact downS_here (hbad k q rfl hk0 _ p ⟨id,0,emp,emp⟩ (((k3.trans k4).setD hd0).setD hc) (by unfold IsY; rw [cr,dr]; exact i4))
 ·rw [if_neg h9] at hok hbad
  have hk : kindOk (typI id) := by
   have := typ_cases id
   unfold kindOk; omega
  simp (disch := first | assumption | simp) only [↓sbD,sbU,tyB,Nat.reduceMul,Nat.reduceSub,Int.reduceEq,Int.reduceLT,Int.reduceLE,Int.reduceNe,Nat.reduceBneDiff,Nat.reduceBEq,decide_false,gt_iff_lt,Bool.or_self,Bool.false_eq_true,Nat.mul_one,Nat.one_mul,Nat.zero_mul,↓reduceIte,Nat.reduceEqDiff,Nat.reduceLT,Nat.reduceAdd,Nat.reduceLeDiff,reduceCtorEq,goInt,pairs,isConst,TI.isAgg,splice,boxS,Edp,dpv,Nat.beq_eq,ZV.val,List.any_cons,List.any_nil,Bool.false_and,h9]
  refine specYDo (T := typI id) (n := 0) (b := emp) hk i1 hp hs (fun n a q ha σ2 k2 i2 => ?_) fun k q ha σ2 k2 i2 => ?_
  ·rw [ha] at hok
   have g2 := (k2.at g1 (by simp) (by simpa using hdr)).1
   have gc2 := (k2.at gc1 (by simp) (by simpa using hcr)).1
   simp (disch := first | assumption | simp) only [↓sbD,sbU,tyB,Nat.reduceMul,Nat.reduceSub,Int.reduceEq,Int.reduceLT,Int.reduceLE,Int.reduceNe,Nat.reduceBneDiff,Nat.reduceBEq,decide_false,gt_iff_lt,Bool.or_self,Bool.false_eq_true,Nat.mul_one,Nat.one_mul,Nat.zero_mul,↓reduceIte,Nat.reduceEqDiff,Nat.reduceLT,Nat.reduceAdd,Nat.reduceLeDiff,reduceCtorEq,goInt,pairs,isConst,TI.isAgg,splice,boxS,Edp,dpv,Nat.beq_eq,ZV.val,List.any_cons,List.any_nil,Bool.false_and,g2,gc2,dc,AHeap.get_set_same]
   exact downS_here (hok ⟨id,n,a,emp⟩ q rfl _ ((((k1.trans k2).setD hd0).setD hd0).setD hc) (by unfold IsY; rw [cr,dr,dr]; exact i2))
  ·rw [ha] at hbad
   have g2 := (k2.at g1 (by simp) (by simpa using hdr)).1
   have gc2 := (k2.at gc1 (by simp) (by simpa using hcr)).1
   simp (disch := first | assumption | simp) only [↓sbD,sbU,tyB,Nat.reduceMul,Nat.reduceSub,Int.reduceEq,Int.reduceLT,Int.reduceLE,Int.reduceNe,Nat.reduceBneDiff,Nat.reduceBEq,decide_false,gt_iff_lt,Bool.or_self,Bool.false_eq_true,Nat.mul_one,Nat.one_mul,Nat.zero_mul,↓reduceIte,Nat.reduceEqDiff,Nat.reduceLT,Nat.reduceAdd,Nat.reduceLeDiff,reduceCtorEq,goInt,pairs,isConst,TI.isAgg,splice,boxS,Edp,dpv,Nat.beq_eq,ZV.val,List.any_cons,List.any_nil,Bool.false_and,g2,gc2,dc,AHeap.get_set_same]
   exact downS_here (hbad k q rfl (rdA_k ha) _ p ⟨id,0,emp,emp⟩ ((((k1.trans k2).setD hd0).setD hd0).setD hc) (by unfold IsY; rw [cr,dr,dr]; exact i2))
end
end Go.Proofs.YtkhcbbpfchgemaaGreatDoor.AbsA
