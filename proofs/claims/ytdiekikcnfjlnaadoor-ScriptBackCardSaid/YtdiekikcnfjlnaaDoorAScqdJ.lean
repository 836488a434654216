/-
  Parts of a law's proof.
-/
import Derived.Test.YtdiekikcnfjlnaaDoorARdqeJ
namespace Go.Proofs.YtdiekikcnfjlnaaDoor.AbsA
open Go AbsYtdiekikcnfjlnaaDoor Abs
set_option maxRecDepth 100000
set_option maxHeartbeats 4000000
set_option linter.unusedSimpArgs false
set_option linter.unusedVariables false
attribute [local irreducible] afterS afterOpS opSK OpsS TrS CodeS condS condW thenS thenQ guardS guardTS outS drawS trSK consS
section
variable {σ : AHeap} {Q : Value → AHeap → Prop} {r p : Nat} {s : ByteArray}
theorem zeCfg : azero E 23 = some (cfgC [0,0,0,0,0,0,0,0,0,0,0,0,0]) := rfl
theorem zeArr : azero E 83 = some (cfgC [0,0,0,0,0,0,0,0,0,0,0,0,0]) := rfl
theorem cfgC_len (l : List Int) : (cfgC l).length = l.length := List.length_map ..
theorem cfgC_set {l : List Int} {i : Nat} {n : Int} (h : i < l.length) : List.take i (cfgC l) ++ [.int .i64 n] ++ List.drop (i + 1) (cfgC l) = cfgC (l.set i n) := by
 unfold cfgC
 rw [List.map_set,List.set_eq_take_append_cons_drop,if_pos (by rw [List.length_map]; exact h)]
 simp
theorem len13 {l : List Int} (hl : l.length = 13) : ∃ x0 x1 x2 x3 x4 x5 x6 x7 x8 x9 x10 x11 x12 : Int,l = [x0,x1,x2,x3,x4,x5,x6,x7,x8,x9,x10,x11,x12] := by
 match l,hl with
 | [x0,x1,x2,x3,x4,x5,x6,x7,x8,x9,x10,x11,x12],_ => exact ⟨_,_,_,_,_,_,_,_,_,_,_,_,_,rfl⟩
def cfgE (R : Rd (List Nat)) : Except Er (List Int × Nat) := match R with
 | .error (k,q) => .error (k,129,q)
 | .ok (l,q) => match cfgBad 0 (castL l) bndL with
  | some i => .error (7,131,i)
  | none => .ok (castL l,q)
theorem specSConfigG {R : Rd (List Nat)} (h0 : (IsR σ r s p .nilIface ∧ p ≤ s.size ∧ numsR s p 13 [] = R) ∨ ∃ k q p',RBad σ r s p' k q ∧ R = .error (k,q)) (hs : s.size ≤ 100000000)
  (hok : ∀ c q,cfgE R = .ok (c,q) → c.length = 13 → ∀ σ',Kept σ [r] σ' [r] → IsR σ' r s q .nilIface → q ≤ s.size → Q (.tuple #[.agg ⟨cfgC c⟩,.nilIface]) σ')
  (hbad : ∀ k rr a : Nat,cfgE R = .error (k,rr,a) → ∀ σ' d z c,Kept σ [r] σ' [r] → ((∃ p',IsR σ' r s p' .nilIface ∧ p' ≤ s.size) ∨ ∃ k q p',RBad σ' r s p' k q) → d ≤ 2 → ErN d (fv rr a z) k → c.length = 13 → Q (.tuple #[.agg ⟨cfgC c⟩,fv rr a z]) σ') :
  CallS E B 31 [.pointer (some ⟨r,0,none⟩)] σ Q := by
 unfold cfgE at hok hbad
 have hlive : σ.get r ≠ .dead := by
  rcases h0 with ⟨h,_,_⟩ | ⟨k,q,p',⟨e,z,_,_,h⟩,_⟩ <;> (rw [show σ.get r = _ from h]; simp)
 refine call31 (by simp) ?_
 simp only [strip,bodyOf,Tryd.f31,getD_body,keepN,bareOp_mk,lessOp_mk,lapp_cons,lapp_nil,List.map_cons,List.map_nil,array_toList,↓reduceIte,Nat.reduceEqDiff,Bool.false_eq_true]
 simp (disch := first | assumption | simp) only [↓sbD,sbU,tyB,Nat.reduceMul,Nat.reduceSub,Int.reduceEq,Int.reduceLT,Int.reduceLE,Int.reduceNe,Nat.reduceBneDiff,Nat.reduceBEq,decide_false,gt_iff_lt,Bool.or_self,Bool.false_eq_true,Nat.mul_one,Nat.one_mul,Nat.zero_mul,↓reduceIte,Nat.reduceEqDiff,Nat.reduceLT,Nat.reduceAdd,Nat.reduceLeDiff,reduceCtorEq,goInt,pairs,isConst,TI.isAgg,splice,boxS,Edp,dpv,Nat.beq_eq,ZV.val,List.any_cons,List.any_nil,Bool.false_and,AS_new,zeCfg,zeArr]
 intro c hc d hd
 have hcr : c ≠ r := by rintro rfl; exact hlive hc
 have hdc : d ≠ c := by rintro rfl; rw [AHeap.get_set_same] at hd; cases hd
 have hd0 : σ.get d = .dead := by rw [AHeap.get_set_ne _ _ hdc.symm] at hd; exact hd
 have hdr : d ≠ r := by rintro rfl; exact hlive hd0
 generalize hσ1 : AHeap.set (AHeap.set σ c _) d _ = σ1
 have k1 : Kept σ [r] σ1 [r] := by rw [← hσ1]; exact ((Kept.refl σ [r]).setD hc).setD hd0
 have g1 : σ1.get d = .cells (cfgC [0,0,0,0,0,0,0,0,0,0,0,0,0]) true 0 := by rw [← hσ1]; exact AHeap.get_set_same _ _ _
 have gc1 : σ1.get c = .cells (cfgC [0,0,0,0,0,0,0,0,0,0,0,0,0]) true 0 := by rw [← hσ1,AHeap.get_set_ne _ _ hdc]; exact AHeap.get_set_same _ _ _
 have xr1 : σ1.get r = σ.get r := by rw [← hσ1,AHeap.get_set_ne _ _ hdr,AHeap.get_set_ne _ _ hcr]
 clear hσ1 hd
 refine S_loop (fun m f σ' => ∃ (i : Nat) (cs : List Int),m + i = 13 ∧ f 8 = .int .i64 i ∧ cs.length = 13 ∧ σ'.get d = .cells (cfgC cs) true 0 ∧ σ'.get c = .cells (cfgC [0,0,0,0,0,0,0,0,0,0,0,0,0]) true 0 ∧ Kept σ [r] σ' [r] ∧ ((∃ acc p',IsR σ' r s p' .nilIface ∧ p' ≤ s.size ∧ acc.length = i ∧ cs.take i = castL acc ∧ numsR s p' (13 - i) acc = R) ∨ ∃ k q p',RBad σ' r s p' k q ∧ R = .error (k,q))) 13 (Le.refl _) ⟨0,_,rfl,by simp (disch := first | assumption | simp) only [↓sbD,sbU,tyB,Nat.reduceMul,Nat.reduceSub,Int.reduceEq,Int.reduceLT,Int.reduceLE,Int.reduceNe,Nat.reduceBneDiff,Nat.reduceBEq,decide_false,gt_iff_lt,Bool.or_self,Bool.false_eq_true,Nat.mul_one,Nat.one_mul,Nat.zero_mul,↓reduceIte,Nat.reduceEqDiff,Nat.reduceLT,Nat.reduceAdd,Nat.reduceLeDiff,reduceCtorEq,goInt,pairs,isConst,TI.isAgg,splice,boxS,Edp,dpv,Nat.beq_eq,ZV.val,List.any_cons,List.any_nil,Bool.false_and]; rfl,rfl,g1,gc1,k1,by
  rcases h0 with ⟨h,hp,hR⟩ | ⟨k,q,p',⟨e,z,h1,h2,h⟩,hR⟩
  ·exact .inl ⟨[],p,by unfold IsR; rw [xr1]; exact h,hp,rfl,rfl,hR⟩
  ·exact .inr ⟨k,q,p',⟨e,z,h1,h2,by unfold IsR; rw [xr1]; exact h⟩,hR⟩⟩ ?_
 clear g1 gc1 k1 xr1
 rintro m f σ2 ⟨i,cs,hm,f8,hcs,gd,gc,hk,hst⟩ hf
 have f0 := hf 0 (by decide) (notMem_wr (by kernel_rfl))
 have f2 := hf 2 (by decide) (notMem_wr (by kernel_rfl))
 have f3 := hf 3 (by decide) (notMem_wr (by kernel_rfl))
 have f4 := hf 4 (by decide) (notMem_wr (by kernel_rfl))
 simp (disch := first | assumption | simp) only [↓sbD,sbU,tyB,Nat.reduceMul,Nat.reduceSub,Int.reduceEq,Int.reduceLT,Int.reduceLE,Int.reduceNe,Nat.reduceBneDiff,Nat.reduceBEq,decide_false,gt_iff_lt,Bool.or_self,Bool.false_eq_true,Nat.mul_one,Nat.one_mul,Nat.zero_mul,↓reduceIte,Nat.reduceEqDiff,Nat.reduceLT,Nat.reduceAdd,Nat.reduceLeDiff,reduceCtorEq,goInt,pairs,isConst,TI.isAgg,splice,boxS,Edp,dpv,Nat.beq_eq,ZV.val,List.any_cons,List.any_nil,Bool.false_and] at f0 f2 f3 f4
 clear hf
 by_cases hi : (i : Int) < 13
 ·have hw := wrap_suc (n := i) (by omega)
  have hi0 : (0 : Int) ≤ (i : Int) := by omega
  have hia := iaArr (d := d) hi0 hi
  rw [Int.toNat_natCast] at hia
  have hlen : (cfgC cs).length = 13 := by rw [cfgC_len,hcs]
  have hi12 : i ≤ 12 := by omega
  have hset : ∀ n : Int,List.take i (cfgC cs) ++ [.int .i64 n] ++ List.drop (i + 1) (cfgC cs) = cfgC (cs.set i n) := fun n => cfgC_set (by omega)
  have hset2 : ∀ n : Int,List.take i (cfgC cs) ++ .int .i64 n :: List.drop (i + 1) (cfgC cs) = cfgC (cs.set i n) := fun n => by rw [← hset]; simp
  have htk : ∀ n : Int,(cs.set i n).take (i + 1) = cs.take i ++ [n] := fun n => by
   rw [List.take_succ_eq_append_getElem (by rw [List.length_set]; omega)]
   rw [List.take_set_of_le (Nat.le_refl _),List.getElem_set_self]
  have h13 : 13 - i = (13 - (i + 1)) + 1 := by omega
  rcases hst with ⟨acc,p',ir,hp',hal,hct,hnr⟩ | ⟨k,q,p',hb,hRe⟩
  ·rw [h13] at hnr
   simp only [numsR] at hnr
   simp (disch := first | assumption | simp) only [↓sbD,sbU,tyB,Nat.reduceMul,Nat.reduceSub,Int.reduceEq,Int.reduceLT,Int.reduceLE,Int.reduceNe,Nat.reduceBneDiff,Nat.reduceBEq,decide_false,gt_iff_lt,Bool.or_self,Bool.false_eq_true,Nat.mul_one,Nat.one_mul,Nat.zero_mul,↓reduceIte,Nat.reduceEqDiff,Nat.reduceLT,Nat.reduceAdd,Nat.reduceLeDiff,reduceCtorEq,goInt,pairs,isConst,TI.isAgg,splice,boxS,Edp,dpv,Nat.beq_eq,ZV.val,List.any_cons,List.any_nil,Bool.false_and,f0,f4,f8,hi]
   refine specRU32 ir hp' (by omega) (fun n q hn σ3 k3 i3 => ?_) fun k q hn σ3 k3 i3 => ?_
   ·rw [hn] at hnr
    simp only at hnr
    have gd3 := (k3.at gd (by simp) (by simpa using hdr)).1
    have gc3 := (k3.at gc (by simp) (by simpa using hcr)).1
    simp (disch := first | assumption | simp) only [↓sbD,sbU,tyB,Nat.reduceMul,Nat.reduceSub,Int.reduceEq,Int.reduceLT,Int.reduceLE,Int.reduceNe,Nat.reduceBneDiff,Nat.reduceBEq,decide_false,gt_iff_lt,Bool.or_self,Bool.false_eq_true,Nat.mul_one,Nat.one_mul,Nat.zero_mul,↓reduceIte,Nat.reduceEqDiff,Nat.reduceLT,Nat.reduceAdd,Nat.reduceLeDiff,reduceCtorEq,goInt,pairs,isConst,TI.isAgg,splice,boxS,Edp,dpv,Nat.beq_eq,ZV.val,List.any_cons,List.any_nil,Bool.false_and,f4,f8,hia,gd3,hlen,hi12,decide_true,hset,hset2,hw]
    refine ⟨_,m - 1,_,rfl,by omega,Le.refl _,i + 1,cs.set i n,by omega,by simp (disch := first | assumption | simp) only [↓sbD,sbU,tyB,Nat.reduceMul,Nat.reduceSub,Int.reduceEq,Int.reduceLT,Int.reduceLE,Int.reduceNe,Nat.reduceBneDiff,Nat.reduceBEq,decide_false,gt_iff_lt,Bool.or_self,Bool.false_eq_true,Nat.mul_one,Nat.one_mul,Nat.zero_mul,↓reduceIte,Nat.reduceEqDiff,Nat.reduceLT,Nat.reduceAdd,Nat.reduceLeDiff,reduceCtorEq,goInt,pairs,isConst,TI.isAgg,splice,boxS,Edp,dpv,Nat.beq_eq,ZV.val,List.any_cons,List.any_nil,Bool.false_and],by rw [List.length_set]; exact hcs,AHeap.get_set_same _ _ _,by rw [AHeap.get_set_ne _ _ hdc]; exact gc3,(hk.trans k3).setD hd0,.inl ⟨acc ++ [n],q,by unfold IsR; rw [AHeap.get_set_ne _ _ hdr]; exact i3,(numR_le hn).2,by rw [List.length_append,hal]; rfl,?_,hnr⟩⟩
    rw [htk,hct]
    simp [castL]
   ·rw [hn] at hnr
    simp only at hnr
    have gd3 := (k3.at gd (by simp) (by simpa using hdr)).1
    have gc3 := (k3.at gc (by simp) (by simpa using hcr)).1
    obtain ⟨e,z,he1,he2,i4⟩ := i3
    simp (disch := first | assumption | simp) only [↓sbD,sbU,tyB,Nat.reduceMul,Nat.reduceSub,Int.reduceEq,Int.reduceLT,Int.reduceLE,Int.reduceNe,Nat.reduceBneDiff,Nat.reduceBEq,decide_false,gt_iff_lt,Bool.or_self,Bool.false_eq_true,Nat.mul_one,Nat.one_mul,Nat.zero_mul,↓reduceIte,Nat.reduceEqDiff,Nat.reduceLT,Nat.reduceAdd,Nat.reduceLeDiff,reduceCtorEq,goInt,pairs,isConst,TI.isAgg,splice,boxS,Edp,dpv,Nat.beq_eq,ZV.val,List.any_cons,List.any_nil,Bool.false_and,f4,f8,hia,gd3,hlen,hi12,decide_true,hset,hset2,hw]
    refine ⟨_,m - 1,_,rfl,by omega,Le.refl _,i + 1,cs.set i 0,by omega,by simp (disch := first | assumption | simp) only [↓sbD,sbU,tyB,Nat.reduceMul,Nat.reduceSub,Int.reduceEq,Int.reduceLT,Int.reduceLE,Int.reduceNe,Nat.reduceBneDiff,Nat.reduceBEq,decide_false,gt_iff_lt,Bool.or_self,Bool.false_eq_true,Nat.mul_one,Nat.one_mul,Nat.zero_mul,↓reduceIte,Nat.reduceEqDiff,Nat.reduceLT,Nat.reduceAdd,Nat.reduceLeDiff,reduceCtorEq,goInt,pairs,isConst,TI.isAgg,splice,boxS,Edp,dpv,Nat.beq_eq,ZV.val,List.any_cons,List.any_nil,Bool.false_and],by rw [List.length_set]; exact hcs,AHeap.get_set_same _ _ _,by rw [AHeap.get_set_ne _ _ hdc]; exact gc3,(hk.trans k3).setD hd0,.inr ⟨k,q,p',⟨e,z,he1,he2,by unfold IsR; rw [AHeap.get_set_ne _ _ hdr]; exact i4⟩,hnr.symm⟩⟩
  ·obtain ⟨e,z,he1,he2,i4⟩ := hb
   simp (disch := first | assumption | simp) only [↓sbD,sbU,tyB,Nat.reduceMul,Nat.reduceSub,Int.reduceEq,Int.reduceLT,Int.reduceLE,Int.reduceNe,Nat.reduceBneDiff,Nat.reduceBEq,decide_false,gt_iff_lt,Bool.or_self,Bool.false_eq_true,Nat.mul_one,Nat.one_mul,Nat.zero_mul,↓reduceIte,Nat.reduceEqDiff,Nat.reduceLT,Nat.reduceAdd,Nat.reduceLeDiff,reduceCtorEq,goInt,pairs,isConst,TI.isAgg,splice,boxS,Edp,dpv,Nat.beq_eq,ZV.val,List.any_cons,List.any_nil,Bool.false_and,f0,f4,f8,hi]
   refine specRU32E i4 ?_
   simp (disch := first | assumption | simp) only [↓sbD,sbU,tyB,Nat.reduceMul,Nat.reduceSub,Int.reduceEq,Int.reduceLT,Int.reduceLE,Int.reduceNe,Nat.reduceBneDiff,Nat.reduceBEq,decide_false,gt_iff_lt,Bool.or_self,Bool.false_eq_true,Nat.mul_one,Nat.one_mul,Nat.zero_mul,↓reduceIte,Nat.reduceEqDiff,Nat.reduceLT,Nat.reduceAdd,Nat.reduceLeDiff,reduceCtorEq,goInt,pairs,isConst,TI.isAgg,splice,boxS,Edp,dpv,Nat.beq_eq,ZV.val,List.any_cons,List.any_nil,Bool.false_and,f4,f8,hia,gd,hlen,hi12,decide_true,hset,hset2,hw]
   refine ⟨_,m - 1,_,rfl,by omega,Le.refl _,i + 1,cs.set i 0,by omega,by simp (disch := first | assumption | simp) only [↓sbD,sbU,tyB,Nat.reduceMul,Nat.reduceSub,Int.reduceEq,Int.reduceLT,Int.reduceLE,Int.reduceNe,Nat.reduceBneDiff,Nat.reduceBEq,decide_false,gt_iff_lt,Bool.or_self,Bool.false_eq_true,Nat.mul_one,Nat.one_mul,Nat.zero_mul,↓reduceIte,Nat.reduceEqDiff,Nat.reduceLT,Nat.reduceAdd,Nat.reduceLeDiff,reduceCtorEq,goInt,pairs,isConst,TI.isAgg,splice,boxS,Edp,dpv,Nat.beq_eq,ZV.val,List.any_cons,List.any_nil,Bool.false_and],by rw [List.length_set]; exact hcs,AHeap.get_set_same _ _ _,by rw [AHeap.get_set_ne _ _ hdc]; exact gc,hk.setD hd0,.inr ⟨k,q,p',⟨e,z,he1,he2,by unfold IsR; rw [AHeap.get_set_ne _ _ hdr]; exact i4⟩,hRe⟩⟩
 ·obtain rfl : i = 13 := by omega
  obtain ⟨x0,x1,x2,x3,x4,x5,x6,x7,x8,x9,x10,x11,x12,he⟩ := len13 hcs
  have hcl : cfgC cs = [.int .i64 x0,.int .i64 x1,.int .i64 x2,.int .i64 x3,.int .i64 x4,.int .i64 x5,.int .i64 x6,.int .i64 x7,.int .i64 x8,.int .i64 x9,.int .i64 x10,.int .i64 x11,.int .i64 x12] := by rw [he]; rfl
  have gd' := gd
  rw [hcl] at gd'
  have z13 : cfgC [0,0,0,0,0,0,0,0,0,0,0,0,0] = [.int .i64 0,.int .i64 0,.int .i64 0,.int .i64 0,.int .i64 0,.int .i64 0,.int .i64 0,.int .i64 0,.int .i64 0,.int .i64 0,.int .i64 0,.int .i64 0,.int .i64 0] := rfl
  have a0 := iaArr (d := d) (n := 0) (by decide) (by decide)
  have a1 := iaArr (d := d) (n := 1) (by decide) (by decide)
  have a2 := iaArr (d := d) (n := 2) (by decide) (by decide)
  have a3 := iaArr (d := d) (n := 3) (by decide) (by decide)
  have a4 := iaArr (d := d) (n := 4) (by decide) (by decide)
  have a5 := iaArr (d := d) (n := 5) (by decide) (by decide)
  have a6 := iaArr (d := d) (n := 6) (by decide) (by decide)
  have a7 := iaArr (d := d) (n := 7) (by decide) (by decide)
  have a8 := iaArr (d := d) (n := 8) (by decide) (by decide)
  have a9 := iaArr (d := d) (n := 9) (by decide) (by decide)
  have a10 := iaArr (d := d) (n := 10) (by decide) (by decide)
  have a11 := iaArr (d := d) (n := 11) (by decide) (by decide)
  have a12 := iaArr (d := d) (n := 12) (by decide) (by decide)
  simp (disch := first | assumption | simp) only [↓sbD,sbU,tyB,Nat.reduceMul,Nat.reduceSub,Int.reduceEq,Int.reduceLT,Int.reduceLE,Int.reduceNe,Nat.reduceBneDiff,Nat.reduceBEq,decide_false,gt_iff_lt,Bool.or_self,Bool.false_eq_true,Nat.mul_one,Nat.one_mul,Nat.zero_mul,↓reduceIte,Nat.reduceEqDiff,Nat.reduceLT,Nat.reduceAdd,Nat.reduceLeDiff,reduceCtorEq,goInt,pairs,isConst,TI.isAgg,splice,boxS,Edp,dpv,Nat.beq_eq,ZV.val,List.any_cons,List.any_nil,Bool.false_and,f0,f4,f8,hi,a0,a1,a2,a3,a4,a5,a6,a7,a8,a9,a10,a11,a12,Int.reduceToNat,gd',AS_new,zeCfg,z13]
  intro b hb
  have hbc : b ≠ c := by rintro rfl; rw [gc] at hb; cases hb
  have hbr : ∀ p' e,IsR σ2 r s p' e → b ≠ r := fun p' e h => by rintro rfl; rw [h] at hb; cases hb
  have bc : ∀ (τ : AHeap) o,(AHeap.set τ b o).get c = τ.get c := fun τ o => AHeap.get_set_ne _ _ hbc
  have cb : ∀ (τ : AHeap) o,(AHeap.set τ c o).get b = τ.get b := fun τ o => AHeap.get_set_ne _ _ hbc.symm
  have hcb : Nat.beq c b = false := beq_ne hbc.symm
  have gc' := gc
  rw [z13] at gc'
  have fin : ∀ o o' o'' : AObj,Le (σ2.set c o) (((σ2.set b o').set b o'').set c o) := fun o o' o'' => Le.set (Le.new' (Le.new hb) hb)
  rcases hst with ⟨acc,p',ir,hp',hal,hct,hnr⟩ | ⟨k,q,p',hbd,hRe⟩
  ·have hne := hbr _ _ ir
   have hcs2 : cs = castL acc := by rw [← hct,List.take_of_length_le (by omega)]
   have ir2 : ∀ o o',IsR ((σ2.set b o).set b o') r s p' .nilIface := fun o o' => by unfold IsR; rw [AHeap.get_set_ne _ _ hne,AHeap.get_set_ne _ _ hne]; exact ir
   simp only [Nat.sub_self,numsR] at hnr
   subst hnr
   simp only at hok hbad
   rw [← hcs2] at hok hbad
   refine specRErr (ir2 _ _) ?_
   simp (disch := first | assumption | simp) only [↓sbD,sbU,tyB,Nat.reduceMul,Nat.reduceSub,Int.reduceEq,Int.reduceLT,Int.reduceLE,Int.reduceNe,Nat.reduceBneDiff,Nat.reduceBEq,decide_false,gt_iff_lt,Bool.or_self,Bool.false_eq_true,Nat.mul_one,Nat.one_mul,Nat.zero_mul,↓reduceIte,Nat.reduceEqDiff,Nat.reduceLT,Nat.reduceAdd,Nat.reduceLeDiff,reduceCtorEq,goInt,pairs,isConst,TI.isAgg,splice,boxS,Edp,dpv,Nat.beq_eq,ZV.val,List.any_cons,List.any_nil,Bool.false_and]
   rw [← hcl]
   refine specTCheck hcs (fun hcb2 => ?_) fun j hcb2 => ?_
   ·rw [hcb2] at hok
    simp (disch := first | assumption | simp) only [↓sbD,sbU,tyB,Nat.reduceMul,Nat.reduceSub,Int.reduceEq,Int.reduceLT,Int.reduceLE,Int.reduceNe,Nat.reduceBneDiff,Nat.reduceBEq,decide_false,gt_iff_lt,Bool.or_self,Bool.false_eq_true,Nat.mul_one,Nat.one_mul,Nat.zero_mul,↓reduceIte,Nat.reduceEqDiff,Nat.reduceLT,Nat.reduceAdd,Nat.reduceLeDiff,reduceCtorEq,goInt,pairs,isConst,TI.isAgg,splice,boxS,Edp,dpv,Nat.beq_eq,ZV.val,List.any_cons,List.any_nil,Bool.false_and,f2,hcl,gc',bc,cb]
    refine drawS_l (fl := [(0,2)]) (by kernel_rfl) ?_ ?_
    rotate_left; simp only [lastP_cc,lastP_one]; rotate_left
    ·simp only [List.all_cons,List.all_nil,floatS,List.getElem?_cons_succ,List.getElem?_cons_zero,List.getElem?_toArray,Region.wanted,Bool.not_true,Bool.not_false,Bool.false_or,Bool.true_or,Bool.or_true,Bool.true_and,reads,looksWeak,aev_tmp,aev_const,upd_at,↓reduceIte,Nat.reduceEqDiff,Nat.reduceLT,Nat.reduceAdd,ofL_zero,ofL_succ,blkOf,oeq_refl,oeq_of,dead_cells,dead_map,Bool.and_true,Bool.and_self,Bool.false_eq_true,Bool.not_false,f2,gc',bc,cb,hcb,AHeap.get_set_same]
    simp (disch := first | assumption | simp) only [↓sbD,sbU,tyB,Nat.reduceMul,Nat.reduceSub,Int.reduceEq,Int.reduceLT,Int.reduceLE,Int.reduceNe,Nat.reduceBneDiff,Nat.reduceBEq,decide_false,gt_iff_lt,Bool.or_self,Bool.false_eq_true,Nat.mul_one,Nat.one_mul,Nat.zero_mul,↓reduceIte,Nat.reduceEqDiff,Nat.reduceLT,Nat.reduceAdd,Nat.reduceLeDiff,reduceCtorEq,goInt,pairs,isConst,TI.isAgg,splice,boxS,Edp,dpv,Nat.beq_eq,ZV.val,List.any_cons,List.any_nil,Bool.false_and,f2,gc',bc,cb,res_cellc,resC_some]
    have hh := hok cs p' rfl hcs (σ2.set c (.cells (cfgC cs) true 0)) (hk.setD hc) (by unfold IsR; rw [AHeap.get_set_ne _ _ hcr]; exact ir) hp'
    rw [hcl] at hh
    exact downS_le (fin _ _ _) hh
   ·rw [hcb2] at hbad
    simp (disch := first | assumption | simp) only [↓sbD,sbU,tyB,Nat.reduceMul,Nat.reduceSub,Int.reduceEq,Int.reduceLT,Int.reduceLE,Int.reduceNe,Nat.reduceBneDiff,Nat.reduceBEq,decide_false,gt_iff_lt,Bool.or_self,Bool.false_eq_true,Nat.mul_one,Nat.one_mul,Nat.zero_mul,↓reduceIte,Nat.reduceEqDiff,Nat.reduceLT,Nat.reduceAdd,Nat.reduceLeDiff,reduceCtorEq,goInt,pairs,isConst,TI.isAgg,splice,boxS,Edp,dpv,Nat.beq_eq,ZV.val,List.any_cons,List.any_nil,Bool.false_and,f2,hcl,gc',bc,cb]
    refine drawS_l (fl := [(0,2)]) (by kernel_rfl) ?_ ?_
    rotate_left; simp only [lastP_cc,lastP_one]; rotate_left
    ·simp only [List.all_cons,List.all_nil,floatS,List.getElem?_cons_succ,List.getElem?_cons_zero,List.getElem?_toArray,Region.wanted,Bool.not_true,Bool.not_false,Bool.false_or,Bool.true_or,Bool.or_true,Bool.true_and,reads,looksWeak,aev_tmp,aev_const,upd_at,↓reduceIte,Nat.reduceEqDiff,Nat.reduceLT,Nat.reduceAdd,ofL_zero,ofL_succ,blkOf,oeq_refl,oeq_of,dead_cells,dead_map,Bool.and_true,Bool.and_self,Bool.false_eq_true,Bool.not_false,f2,gc',bc,cb,hcb,AHeap.get_set_same]
    simp (disch := first | assumption | simp) only [↓sbD,sbU,tyB,Nat.reduceMul,Nat.reduceSub,Int.reduceEq,Int.reduceLT,Int.reduceLE,Int.reduceNe,Nat.reduceBneDiff,Nat.reduceBEq,decide_false,gt_iff_lt,Bool.or_self,Bool.false_eq_true,Nat.mul_one,Nat.one_mul,Nat.zero_mul,↓reduceIte,Nat.reduceEqDiff,Nat.reduceLT,Nat.reduceAdd,Nat.reduceLeDiff,reduceCtorEq,goInt,pairs,isConst,TI.isAgg,splice,boxS,Edp,dpv,Nat.beq_eq,ZV.val,List.any_cons,List.any_nil,Bool.false_and,f2,gc',bc,cb,res_cellc,resC_some]
    have hh := hbad 7 131 j rfl (σ2.set c (.cells (cfgC cs) true 0)) 1 (sent 7) cs (hk.setD hc) (.inl ⟨p',by unfold IsR; rw [AHeap.get_set_ne _ _ hcr]; exact ir,hp'⟩) (by omega) (ErN.new _ _ ⟨by omega,by omega⟩) hcs
    rw [hcl] at hh
    exact downS_le (fin _ _ _) hh
  ·obtain ⟨e,z,he1,he2,i4⟩ := hbd
   have hne := hbr _ _ i4
   have ir2 : ∀ o o',IsR ((σ2.set b o).set b o') r s p' (fv 129 (q : Int) z) := fun o o' => by unfold IsR; rw [AHeap.get_set_ne _ _ hne,AHeap.get_set_ne _ _ hne]; exact i4
   subst hRe
   simp only at hok hbad
   refine specRErr (ir2 _ _) ?_
   simp (disch := first | assumption | simp) only [↓sbD,sbU,tyB,Nat.reduceMul,Nat.reduceSub,Int.reduceEq,Int.reduceLT,Int.reduceLE,Int.reduceNe,Nat.reduceBneDiff,Nat.reduceBEq,decide_false,gt_iff_lt,Bool.or_self,Bool.false_eq_true,Nat.mul_one,Nat.one_mul,Nat.zero_mul,↓reduceIte,Nat.reduceEqDiff,Nat.reduceLT,Nat.reduceAdd,Nat.reduceLeDiff,reduceCtorEq,goInt,pairs,isConst,TI.isAgg,splice,boxS,Edp,dpv,Nat.beq_eq,ZV.val,List.any_cons,List.any_nil,Bool.false_and,f2,gc',bc,cb,res_cellc,resC_some]
   have hh := hbad k 129 q rfl (σ2.set c (.cells (cfgC cs) true 0)) e z cs (hk.setD hc) (.inr ⟨k,q,p',e,z,he1,he2,by unfold IsR; rw [AHeap.get_set_ne _ _ hcr]; exact i4⟩) he1 he2 hcs
   rw [hcl] at hh
   exact downS_le (fin _ _ _) hh
end
section
variable {σ : AHeap} {Q : Value → AHeap → Prop} {r p : Nat} {s : ByteArray}
theorem zeEv : azero E 36 = some [.int .i64 0,.int .i64 0,.string ⟨#[]⟩,.int .i64 0] := rfl
theorem specSMay {n : Int} (h : Q (.bool (decide (1 ≤ n ∧ n ≤ 7))) σ) : CallS E B 17 [.int .i64 n] σ Q := by
 refine call17 (by simp) ?_
 simp only [strip,bodyOf,Tryd.f17,getD_body,keepN,bareOp_mk,lessOp_mk,lapp_cons,lapp_nil,List.map_cons,List.map_nil,array_toList,↓reduceIte,Nat.reduceEqDiff,Bool.false_eq_true]
 by_cases h1 : 1 ≤ n
 ·by_cases h2 : n ≤ 7
  ·simp (disch := first | assumption | simp) only [↓sbD,sbU,tyB,Nat.reduceMul,Nat.reduceSub,Int.reduceEq,Int.reduceLT,Int.reduceLE,Int.reduceNe,Nat.reduceBneDiff,Nat.reduceBEq,decide_false,gt_iff_lt,Bool.or_self,Bool.false_eq_true,Nat.mul_one,Nat.one_mul,Nat.zero_mul,↓reduceIte,Nat.reduceEqDiff,Nat.reduceLT,Nat.reduceAdd,Nat.reduceLeDiff,reduceCtorEq,goInt,pairs,isConst,TI.isAgg,splice,boxS,Edp,dpv,Nat.beq_eq,ZV.val,List.any_cons,List.any_nil,Bool.false_and,h1,h2]; exact downS_here (by simpa [h1,h2] using h)
  ·simp (disch := first | assumption | simp) only [↓sbD,sbU,tyB,Nat.reduceMul,Nat.reduceSub,Int.reduceEq,Int.reduceLT,Int.reduceLE,Int.reduceNe,Nat.reduceBneDiff,Nat.reduceBEq,decide_false,gt_iff_lt,Bool.or_self,Bool.false_eq_true,Nat.mul_one,Nat.one_mul,Nat.zero_mul,↓reduceIte,Nat.reduceEqDiff,Nat.reduceLT,Nat.reduceAdd,Nat.reduceLeDiff,reduceCtorEq,goInt,pairs,isConst,TI.isAgg,splice,boxS,Edp,dpv,Nat.beq_eq,ZV.val,List.any_cons,List.any_nil,Bool.false_and,h1,h2]; exact downS_here (by simpa [h1,h2] using h)
 ·simp (disch := first | assumption | simp) only [↓sbD,sbU,tyB,Nat.reduceMul,Nat.reduceSub,Int.reduceEq,Int.reduceLT,Int.reduceLE,Int.reduceNe,Nat.reduceBneDiff,Nat.reduceBEq,decide_false,gt_iff_lt,Bool.or_self,Bool.false_eq_true,Nat.mul_one,Nat.one_mul,Nat.zero_mul,↓reduceIte,Nat.reduceEqDiff,Nat.reduceLT,Nat.reduceAdd,Nat.reduceLeDiff,reduceCtorEq,goInt,pairs,isConst,TI.isAgg,splice,boxS,Edp,dpv,Nat.beq_eq,ZV.val,List.any_cons,List.any_nil,Bool.false_and,h1]; exact downS_here (by simpa [h1] using h)
theorem specSEvent (hr : IsR σ r s p .nilIface) (hp : p ≤ s.size) (hs : s.size ≤ 100000000)
  (hok : ∀ e q,evR s p = .ok (e,q) → ∀ σ',Kept σ [r] σ' [r] → IsR σ' r s q .nilIface → q ≤ s.size → Q (.tuple #[.agg ⟨evC e⟩,.nilIface]) σ')
  (hbad : ∀ k rr a : Nat,evR s p = .error (k,rr,a) → ∀ σ' d z e,Kept σ [r] σ' [r] → d ≤ 2 → ErN d (fv rr a z) k → Q (.tuple #[.agg ⟨evC e⟩,fv rr a z]) σ') :
  CallS E B 34 [.pointer (some ⟨r,0,none⟩)] σ Q := by
 unfold evR at hok hbad
 refine call34 (by simp) ?_
 simp only [strip,bodyOf,Tryd.f34,getD_body,keepN,bareOp_mk,lessOp_mk,lapp_cons,lapp_nil,List.map_cons,List.map_nil,array_toList,↓reduceIte,Nat.reduceEqDiff,Bool.false_eq_true]
 simp (disch := first | assumption | simp) only [↓sbD,sbU,tyB,Nat.reduceMul,Nat.reduceSub,Int.reduceEq,Int.reduceLT,Int.reduceLE,Int.reduceNe,Nat.reduceBneDiff,Nat.reduceBEq,decide_false,gt_iff_lt,Bool.or_self,Bool.false_eq_true,Nat.mul_one,Nat.one_mul,Nat.zero_mul,↓reduceIte,Nat.reduceEqDiff,Nat.reduceLT,Nat.reduceAdd,Nat.reduceLeDiff,reduceCtorEq,goInt,pairs,isConst,TI.isAgg,splice,boxS,Edp,dpv,Nat.beq_eq,ZV.val,List.any_cons,List.any_nil,Bool.false_and,AS_new,zeEv]
 intro c hc
 have hcr : c ≠ r := by rintro rfl; rw [hr] at hc; cases hc
 generalize hσ1 : AHeap.set σ c _ = σ1
 have k1 : Kept σ [r] σ1 [r] := by rw [← hσ1]; exact (Kept.refl σ [r]).setD hc
 have gc1 : σ1.get c = .cells [.int .i64 0,.int .i64 0,.string ⟨#[]⟩,.int .i64 0] true 0 := by rw [← hσ1]; exact AHeap.get_set_same _ _ _
 have i1 : IsR σ1 r s p .nilIface := by rw [← hσ1]; unfold IsR; rw [AHeap.get_set_ne _ _ hcr]; exact hr
 clear hσ1
 have xr : ∀ (τ : AHeap) o,(AHeap.set τ c o).get r = τ.get r := fun τ o => AHeap.get_set_ne _ _ hcr
 refine specRAt i1 ?_
 simp (disch := first | assumption | simp) only [↓sbD,sbU,tyB,Nat.reduceMul,Nat.reduceSub,Int.reduceEq,Int.reduceLT,Int.reduceLE,Int.reduceNe,Nat.reduceBneDiff,Nat.reduceBEq,decide_false,gt_iff_lt,Bool.or_self,Bool.false_eq_true,Nat.mul_one,Nat.one_mul,Nat.zero_mul,↓reduceIte,Nat.reduceEqDiff,Nat.reduceLT,Nat.reduceAdd,Nat.reduceLeDiff,reduceCtorEq,goInt,pairs,isConst,TI.isAgg,splice,boxS,Edp,dpv,Nat.beq_eq,ZV.val,List.any_cons,List.any_nil,Bool.false_and]
 refine specRU8 i1 hp (by omega) (fun kd q1 h1 σ2 k2 i2 => ?_) fun k q h1 σ2 k2 i2 => ?_
 ·rw [h1] at hok hbad
  simp only at hok hbad
  have l1 := numR_le h1
  simp (disch := first | assumption | simp) only [↓sbD,sbU,tyB,Nat.reduceMul,Nat.reduceSub,Int.reduceEq,Int.reduceLT,Int.reduceLE,Int.reduceNe,Nat.reduceBneDiff,Nat.reduceBEq,decide_false,gt_iff_lt,Bool.or_self,Bool.false_eq_true,Nat.mul_one,Nat.one_mul,Nat.zero_mul,↓reduceIte,Nat.reduceEqDiff,Nat.reduceLT,Nat.reduceAdd,Nat.reduceLeDiff,reduceCtorEq,goInt,pairs,isConst,TI.isAgg,splice,boxS,Edp,dpv,Nat.beq_eq,ZV.val,List.any_cons,List.any_nil,Bool.false_and]
  refine specRU8 i2 l1.2 (by omega) (fun cn q2 h2 σ3 k3 i3 => ?_) fun k q h2 σ3 k3 i3 => ?_
  ·rw [h2] at hok hbad
   simp only at hok hbad
   have l2 := numR_le h2
   simp (disch := first | assumption | simp) only [↓sbD,sbU,tyB,Nat.reduceMul,Nat.reduceSub,Int.reduceEq,Int.reduceLT,Int.reduceLE,Int.reduceNe,Nat.reduceBneDiff,Nat.reduceBEq,decide_false,gt_iff_lt,Bool.or_self,Bool.false_eq_true,Nat.mul_one,Nat.one_mul,Nat.zero_mul,↓reduceIte,Nat.reduceEqDiff,Nat.reduceLT,Nat.reduceAdd,Nat.reduceLeDiff,reduceCtorEq,goInt,pairs,isConst,TI.isAgg,splice,boxS,Edp,dpv,Nat.beq_eq,ZV.val,List.any_cons,List.any_nil,Bool.false_and]
   refine specRU32 i3 l2.2 (by omega) (fun n q3 h3 σ4 k4 i4 => ?_) fun k q h3 σ4 k4 i4 => ?_
   ·rw [h3] at hok hbad
    simp only at hok hbad
    have l3 := numR_le h3
    simp (disch := first | assumption | simp) only [↓sbD,sbU,tyB,Nat.reduceMul,Nat.reduceSub,Int.reduceEq,Int.reduceLT,Int.reduceLE,Int.reduceNe,Nat.reduceBneDiff,Nat.reduceBEq,decide_false,gt_iff_lt,Bool.or_self,Bool.false_eq_true,Nat.mul_one,Nat.one_mul,Nat.zero_mul,↓reduceIte,Nat.reduceEqDiff,Nat.reduceLT,Nat.reduceAdd,Nat.reduceLeDiff,reduceCtorEq,goInt,pairs,isConst,TI.isAgg,splice,boxS,Edp,dpv,Nat.beq_eq,ZV.val,List.any_cons,List.any_nil,Bool.false_and]
    refine specRBin i4 l3.2 (by omega) (fun b q4 h4 σ5 k5 i5 => ?_) fun k q h4 σ5 k5 i5 => ?_
    ·rw [h4] at hok hbad
     simp only at hok hbad
     have l4 := binR_ok h4
     have k6 := ((k1.trans k2).trans (k3.trans k4)).trans k5
     have gc5 := ((((k2.trans k3).trans k4).trans k5).at gc1 (by simp) (by simpa using hcr)).1
     simp (disch := first | assumption | simp) only [↓sbD,sbU,tyB,Nat.reduceMul,Nat.reduceSub,Int.reduceEq,Int.reduceLT,Int.reduceLE,Int.reduceNe,Nat.reduceBneDiff,Nat.reduceBEq,decide_false,gt_iff_lt,Bool.or_self,Bool.false_eq_true,Nat.mul_one,Nat.one_mul,Nat.zero_mul,↓reduceIte,Nat.reduceEqDiff,Nat.reduceLT,Nat.reduceAdd,Nat.reduceLeDiff,reduceCtorEq,goInt,pairs,isConst,TI.isAgg,splice,boxS,Edp,dpv,Nat.beq_eq,ZV.val,List.any_cons,List.any_nil,Bool.false_and,AS_new,zeEv]
     intro d hd
     have hdc : d ≠ c := by rintro rfl; rw [gc5] at hd; cases hd
     have hdr : d ≠ r := by rintro rfl; rw [i5] at hd; cases hd
     have dc : ∀ (τ : AHeap) o,(AHeap.set τ d o).get c = τ.get c := fun τ o => AHeap.get_set_ne _ _ hdc
     have cd : ∀ (τ : AHeap) o,(AHeap.set τ c o).get d = τ.get d := fun τ o => AHeap.get_set_ne _ _ hdc.symm
     have hcd : Nat.beq c d = false := beq_ne hdc.symm
     have ir2 : ∀ o o',IsR ((σ5.set d o).set d o') r s q4 .nilIface := fun o o' => by unfold IsR; rw [AHeap.get_set_ne _ _ hdr,AHeap.get_set_ne _ _ hdr]; exact i5
     have fin : ∀ o o' o'' : AObj,Le (σ5.set c o) (((σ5.set d o').set d o'').set c o) := fun o o' o'' => Le.set (Le.new' (Le.new hd) hd)
     refine specRErr (ir2 _ _) ?_
     simp (disch := first | assumption | simp) only [↓sbD,sbU,tyB,Nat.reduceMul,Nat.reduceSub,Int.reduceEq,Int.reduceLT,Int.reduceLE,Int.reduceNe,Nat.reduceBneDiff,Nat.reduceBEq,decide_false,gt_iff_lt,Bool.or_self,Bool.false_eq_true,Nat.mul_one,Nat.one_mul,Nat.zero_mul,↓reduceIte,Nat.reduceEqDiff,Nat.reduceLT,Nat.reduceAdd,Nat.reduceLeDiff,reduceCtorEq,goInt,pairs,isConst,TI.isAgg,splice,boxS,Edp,dpv,Nat.beq_eq,ZV.val,List.any_cons,List.any_nil,Bool.false_and,AHeap.get_set_same]
     refine specSMay ?_
     by_cases hm : 1 ≤ kd ∧ kd ≤ 7
     ·have hm' : decide (1 ≤ (kd : Int) ∧ (kd : Int) ≤ 7) = true := by simp; omega
      rw [if_pos hm] at hok
      rw [hm']
      simp (disch := first | assumption | simp) only [↓sbD,sbU,tyB,Nat.reduceMul,Nat.reduceSub,Int.reduceEq,Int.reduceLT,Int.reduceLE,Int.reduceNe,Nat.reduceBneDiff,Nat.reduceBEq,decide_false,gt_iff_lt,Bool.or_self,Bool.false_eq_true,Nat.mul_one,Nat.one_mul,Nat.zero_mul,↓reduceIte,Nat.reduceEqDiff,Nat.reduceLT,Nat.reduceAdd,Nat.reduceLeDiff,reduceCtorEq,goInt,pairs,isConst,TI.isAgg,splice,boxS,Edp,dpv,Nat.beq_eq,ZV.val,List.any_cons,List.any_nil,Bool.false_and,not_bool]
      refine specRErr (ir2 _ _) ?_
      simp (disch := first | assumption | simp) only [↓sbD,sbU,tyB,Nat.reduceMul,Nat.reduceSub,Int.reduceEq,Int.reduceLT,Int.reduceLE,Int.reduceNe,Nat.reduceBneDiff,Nat.reduceBEq,decide_false,gt_iff_lt,Bool.or_self,Bool.false_eq_true,Nat.mul_one,Nat.one_mul,Nat.zero_mul,↓reduceIte,Nat.reduceEqDiff,Nat.reduceLT,Nat.reduceAdd,Nat.reduceLeDiff,reduceCtorEq,goInt,pairs,isConst,TI.isAgg,splice,boxS,Edp,dpv,Nat.beq_eq,ZV.val,List.any_cons,List.any_nil,Bool.false_and,gc5,dc,cd]
      refine drawS_l (fl := [(0,2)]) (by kernel_rfl) ?_ ?_
      rotate_left; simp only [lastP_cc,lastP_one]; rotate_left
      ·simp only [List.all_cons,List.all_nil,floatS,List.getElem?_cons_succ,List.getElem?_cons_zero,List.getElem?_toArray,Region.wanted,Bool.not_true,Bool.not_false,Bool.false_or,Bool.true_or,Bool.or_true,Bool.true_and,reads,looksWeak,aev_tmp,aev_const,upd_at,↓reduceIte,Nat.reduceEqDiff,Nat.reduceLT,Nat.reduceAdd,ofL_zero,ofL_succ,blkOf,oeq_refl,oeq_of,dead_cells,dead_map,Bool.and_true,Bool.and_self,Bool.false_eq_true,Bool.not_false,gc5,dc,cd,hcd,AHeap.get_set_same]
      simp (disch := first | assumption | simp) only [↓sbD,sbU,tyB,Nat.reduceMul,Nat.reduceSub,Int.reduceEq,Int.reduceLT,Int.reduceLE,Int.reduceNe,Nat.reduceBneDiff,Nat.reduceBEq,decide_false,gt_iff_lt,Bool.or_self,Bool.false_eq_true,Nat.mul_one,Nat.one_mul,Nat.zero_mul,↓reduceIte,Nat.reduceEqDiff,Nat.reduceLT,Nat.reduceAdd,Nat.reduceLeDiff,reduceCtorEq,goInt,pairs,isConst,TI.isAgg,splice,boxS,Edp,dpv,Nat.beq_eq,ZV.val,List.any_cons,List.any_nil,Bool.false_and,gc5,dc,cd,res_cellc,resC_some]
      exact downS_le (fin _ _ _) (hok ⟨kd,cn,b,n⟩ q4 rfl (σ5.set c _) (k6.setD hc) (by unfold IsR; rw [xr]; exact i5) l4.1)
     ·have hm' : decide (1 ≤ (kd : Int) ∧ (kd : Int) ≤ 7) = false := by simp; omega
      rw [if_neg hm] at hbad
      rw [hm']
      simp (disch := first | assumption | simp) only [↓sbD,sbU,tyB,Nat.reduceMul,Nat.reduceSub,Int.reduceEq,Int.reduceLT,Int.reduceLE,Int.reduceNe,Nat.reduceBneDiff,Nat.reduceBEq,decide_false,gt_iff_lt,Bool.or_self,Bool.false_eq_true,Nat.mul_one,Nat.one_mul,Nat.zero_mul,↓reduceIte,Nat.reduceEqDiff,Nat.reduceLT,Nat.reduceAdd,Nat.reduceLeDiff,reduceCtorEq,goInt,pairs,isConst,TI.isAgg,splice,boxS,Edp,dpv,Nat.beq_eq,ZV.val,List.any_cons,List.any_nil,Bool.false_and,not_bool,gk2]
      refine specNew (n := 2) ⟨by omega,by omega⟩ ?_
      simp (disch := first | assumption | simp) only [↓sbD,sbU,tyB,Nat.reduceMul,Nat.reduceSub,Int.reduceEq,Int.reduceLT,Int.reduceLE,Int.reduceNe,Nat.reduceBneDiff,Nat.reduceBEq,decide_false,gt_iff_lt,Bool.or_self,Bool.false_eq_true,Nat.mul_one,Nat.one_mul,Nat.zero_mul,↓reduceIte,Nat.reduceEqDiff,Nat.reduceLT,Nat.reduceAdd,Nat.reduceLeDiff,reduceCtorEq,goInt,pairs,isConst,TI.isAgg,splice,boxS,Edp,dpv,Nat.beq_eq,ZV.val,List.any_cons,List.any_nil,Bool.false_and,gc5,dc,cd]
      refine drawS_l (fl := [(0,3)]) (by kernel_rfl) ?_ ?_
      rotate_left; simp only [lastP_cc,lastP_one]; rotate_left
      ·simp only [List.all_cons,List.all_nil,floatS,List.getElem?_cons_succ,List.getElem?_cons_zero,List.getElem?_toArray,Region.wanted,Bool.not_true,Bool.not_false,Bool.false_or,Bool.true_or,Bool.or_true,Bool.true_and,reads,looksWeak,aev_tmp,aev_const,upd_at,↓reduceIte,Nat.reduceEqDiff,Nat.reduceLT,Nat.reduceAdd,ofL_zero,ofL_succ,blkOf,oeq_refl,oeq_of,dead_cells,dead_map,Bool.and_true,Bool.and_self,Bool.false_eq_true,Bool.not_false,gc5,dc,cd,hcd,AHeap.get_set_same]
      simp (disch := first | assumption | simp) only [↓sbD,sbU,tyB,Nat.reduceMul,Nat.reduceSub,Int.reduceEq,Int.reduceLT,Int.reduceLE,Int.reduceNe,Nat.reduceBneDiff,Nat.reduceBEq,decide_false,gt_iff_lt,Bool.or_self,Bool.false_eq_true,Nat.mul_one,Nat.one_mul,Nat.zero_mul,↓reduceIte,Nat.reduceEqDiff,Nat.reduceLT,Nat.reduceAdd,Nat.reduceLeDiff,reduceCtorEq,goInt,pairs,isConst,TI.isAgg,splice,boxS,Edp,dpv,Nat.beq_eq,ZV.val,List.any_cons,List.any_nil,Bool.false_and,gc5,dc,cd,res_cellc,resC_some]
      exact downS_le (fin _ _ _) (hbad 2 129 p rfl (σ5.set c _) 1 _ ⟨kd,cn,b,n⟩ (k6.setD hc) (by omega) (ErN.new _ _ ⟨by omega,by omega⟩))
    ·skip
     rw [h4] at hbad
     simp only at hbad
     have kA := ((k2.trans k3).trans k4).trans k5
     obtain ⟨e,z,he1,he2,i9⟩ := i5
     simp (disch := first | assumption | simp) only [↓sbD,sbU,tyB,Nat.reduceMul,Nat.reduceSub,Int.reduceEq,Int.reduceLT,Int.reduceLE,Int.reduceNe,Nat.reduceBneDiff,Nat.reduceBEq,decide_false,gt_iff_lt,Bool.or_self,Bool.false_eq_true,Nat.mul_one,Nat.one_mul,Nat.zero_mul,↓reduceIte,Nat.reduceEqDiff,Nat.reduceLT,Nat.reduceAdd,Nat.reduceLeDiff,reduceCtorEq,goInt,pairs,isConst,TI.isAgg,splice,boxS,Edp,dpv,Nat.beq_eq,ZV.val,List.any_cons,List.any_nil,Bool.false_and]
     have gc9 := (kA.at gc1 (by simp) (by simpa using hcr)).1
     simp (disch := first | assumption | simp) only [↓sbD,sbU,tyB,Nat.reduceMul,Nat.reduceSub,Int.reduceEq,Int.reduceLT,Int.reduceLE,Int.reduceNe,Nat.reduceBneDiff,Nat.reduceBEq,decide_false,gt_iff_lt,Bool.or_self,Bool.false_eq_true,Nat.mul_one,Nat.one_mul,Nat.zero_mul,↓reduceIte,Nat.reduceEqDiff,Nat.reduceLT,Nat.reduceAdd,Nat.reduceLeDiff,reduceCtorEq,goInt,pairs,isConst,TI.isAgg,splice,boxS,Edp,dpv,Nat.beq_eq,ZV.val,List.any_cons,List.any_nil,Bool.false_and,AS_new,zeEv]
     intro d hd
     have hdc : d ≠ c := by rintro rfl; rw [gc9] at hd; cases hd
     have hdr : d ≠ r := by rintro rfl; rw [i9] at hd; cases hd
     have dc : ∀ (τ : AHeap) o,(AHeap.set τ d o).get c = τ.get c := fun τ o => AHeap.get_set_ne _ _ hdc
     have cd : ∀ (τ : AHeap) o,(AHeap.set τ c o).get d = τ.get d := fun τ o => AHeap.get_set_ne _ _ hdc.symm
     have hcd : Nat.beq c d = false := beq_ne hdc.symm
     have ir2 : ∀ o o',IsR ((σ5.set d o).set d o') r s _ _ := fun o o' => by unfold IsR; rw [AHeap.get_set_ne _ _ hdr,AHeap.get_set_ne _ _ hdr]; exact i9
     refine specRErr (ir2 _ _) ?_
     simp (disch := first | assumption | simp) only [↓sbD,sbU,tyB,Nat.reduceMul,Nat.reduceSub,Int.reduceEq,Int.reduceLT,Int.reduceLE,Int.reduceNe,Nat.reduceBneDiff,Nat.reduceBEq,decide_false,gt_iff_lt,Bool.or_self,Bool.false_eq_true,Nat.mul_one,Nat.one_mul,Nat.zero_mul,↓reduceIte,Nat.reduceEqDiff,Nat.reduceLT,Nat.reduceAdd,Nat.reduceLeDiff,reduceCtorEq,goInt,pairs,isConst,TI.isAgg,splice,boxS,Edp,dpv,Nat.beq_eq,ZV.val,List.any_cons,List.any_nil,Bool.false_and]
     refine specRErr (ir2 _ _) ?_
     simp (disch := first | assumption | simp) only [↓sbD,sbU,tyB,Nat.reduceMul,Nat.reduceSub,Int.reduceEq,Int.reduceLT,Int.reduceLE,Int.reduceNe,Nat.reduceBneDiff,Nat.reduceBEq,decide_false,gt_iff_lt,Bool.or_self,Bool.false_eq_true,Nat.mul_one,Nat.one_mul,Nat.zero_mul,↓reduceIte,Nat.reduceEqDiff,Nat.reduceLT,Nat.reduceAdd,Nat.reduceLeDiff,reduceCtorEq,goInt,pairs,isConst,TI.isAgg,splice,boxS,Edp,dpv,Nat.beq_eq,ZV.val,List.any_cons,List.any_nil,Bool.false_and,gc9,dc,cd]
     refine drawS_l (fl := [(0,2)]) (by kernel_rfl) ?_ ?_
     rotate_left; simp only [lastP_cc,lastP_one]; rotate_left
     ·simp only [List.all_cons,List.all_nil,floatS,List.getElem?_cons_succ,List.getElem?_cons_zero,List.getElem?_toArray,Region.wanted,Bool.not_true,Bool.not_false,Bool.false_or,Bool.true_or,Bool.or_true,Bool.true_and,reads,looksWeak,aev_tmp,aev_const,upd_at,↓reduceIte,Nat.reduceEqDiff,Nat.reduceLT,Nat.reduceAdd,ofL_zero,ofL_succ,blkOf,oeq_refl,oeq_of,dead_cells,dead_map,Bool.and_true,Bool.and_self,Bool.false_eq_true,Bool.not_false,gc9,dc,cd,hcd,AHeap.get_set_same]
     simp (disch := first | assumption | simp) only [↓sbD,sbU,tyB,Nat.reduceMul,Nat.reduceSub,Int.reduceEq,Int.reduceLT,Int.reduceLE,Int.reduceNe,Nat.reduceBneDiff,Nat.reduceBEq,decide_false,gt_iff_lt,Bool.or_self,Bool.false_eq_true,Nat.mul_one,Nat.one_mul,Nat.zero_mul,↓reduceIte,Nat.reduceEqDiff,Nat.reduceLT,Nat.reduceAdd,Nat.reduceLeDiff,reduceCtorEq,goInt,pairs,isConst,TI.isAgg,splice,boxS,Edp,dpv,Nat.beq_eq,ZV.val,List.any_cons,List.any_nil,Bool.false_and,gc9,dc,cd,res_cellc,resC_some]
     exact downS_le (Le.set (Le.new' (Le.new hd) hd)) (hbad k 129 q rfl (σ5.set c _) e z ⟨kd,cn,emp,n⟩ ((k1.trans kA).setD hc) he1 he2)
   ·skip
    rw [h3] at hbad
    simp only at hbad
    have kA := (k2.trans k3).trans k4
    obtain ⟨e,z,he1,he2,i9⟩ := i4
    simp (disch := first | assumption | simp) only [↓sbD,sbU,tyB,Nat.reduceMul,Nat.reduceSub,Int.reduceEq,Int.reduceLT,Int.reduceLE,Int.reduceNe,Nat.reduceBneDiff,Nat.reduceBEq,decide_false,gt_iff_lt,Bool.or_self,Bool.false_eq_true,Nat.mul_one,Nat.one_mul,Nat.zero_mul,↓reduceIte,Nat.reduceEqDiff,Nat.reduceLT,Nat.reduceAdd,Nat.reduceLeDiff,reduceCtorEq,goInt,pairs,isConst,TI.isAgg,splice,boxS,Edp,dpv,Nat.beq_eq,ZV.val,List.any_cons,List.any_nil,Bool.false_and]
    refine specRBinE i9 fun σ9 k9 i10 => ?_
    replace kA := kA.trans k9
    have gc9 := (kA.at gc1 (by simp) (by simpa using hcr)).1
    simp (disch := first | assumption | simp) only [↓sbD,sbU,tyB,Nat.reduceMul,Nat.reduceSub,Int.reduceEq,Int.reduceLT,Int.reduceLE,Int.reduceNe,Nat.reduceBneDiff,Nat.reduceBEq,decide_false,gt_iff_lt,Bool.or_self,Bool.false_eq_true,Nat.mul_one,Nat.one_mul,Nat.zero_mul,↓reduceIte,Nat.reduceEqDiff,Nat.reduceLT,Nat.reduceAdd,Nat.reduceLeDiff,reduceCtorEq,goInt,pairs,isConst,TI.isAgg,splice,boxS,Edp,dpv,Nat.beq_eq,ZV.val,List.any_cons,List.any_nil,Bool.false_and,AS_new,zeEv]
    intro d hd
    have hdc : d ≠ c := by rintro rfl; rw [gc9] at hd; cases hd
    have hdr : d ≠ r := by rintro rfl; rw [i10] at hd; cases hd
    have dc : ∀ (τ : AHeap) o,(AHeap.set τ d o).get c = τ.get c := fun τ o => AHeap.get_set_ne _ _ hdc
    have cd : ∀ (τ : AHeap) o,(AHeap.set τ c o).get d = τ.get d := fun τ o => AHeap.get_set_ne _ _ hdc.symm
    have hcd : Nat.beq c d = false := beq_ne hdc.symm
    have ir2 : ∀ o o',IsR ((σ9.set d o).set d o') r s _ _ := fun o o' => by unfold IsR; rw [AHeap.get_set_ne _ _ hdr,AHeap.get_set_ne _ _ hdr]; exact i10
    refine specRErr (ir2 _ _) ?_
    simp (disch := first | assumption | simp) only [↓sbD,sbU,tyB,Nat.reduceMul,Nat.reduceSub,Int.reduceEq,Int.reduceLT,Int.reduceLE,Int.reduceNe,Nat.reduceBneDiff,Nat.reduceBEq,decide_false,gt_iff_lt,Bool.or_self,Bool.false_eq_true,Nat.mul_one,Nat.one_mul,Nat.zero_mul,↓reduceIte,Nat.reduceEqDiff,Nat.reduceLT,Nat.reduceAdd,Nat.reduceLeDiff,reduceCtorEq,goInt,pairs,isConst,TI.isAgg,splice,boxS,Edp,dpv,Nat.beq_eq,ZV.val,List.any_cons,List.any_nil,Bool.false_and]
    refine specRErr (ir2 _ _) ?_
    simp (disch := first | assumption | simp) only [↓sbD,sbU,tyB,Nat.reduceMul,Nat.reduceSub,Int.reduceEq,Int.reduceLT,Int.reduceLE,Int.reduceNe,Nat.reduceBneDiff,Nat.reduceBEq,decide_false,gt_iff_lt,Bool.or_self,Bool.false_eq_true,Nat.mul_one,Nat.one_mul,Nat.zero_mul,↓reduceIte,Nat.reduceEqDiff,Nat.reduceLT,Nat.reduceAdd,Nat.reduceLeDiff,reduceCtorEq,goInt,pairs,isConst,TI.isAgg,splice,boxS,Edp,dpv,Nat.beq_eq,ZV.val,List.any_cons,List.any_nil,Bool.false_and,gc9,dc,cd]
    refine drawS_l (fl := [(0,2)]) (by kernel_rfl) ?_ ?_
    rotate_left; simp only [lastP_cc,lastP_one]; rotate_left
    ·simp only [List.all_cons,List.all_nil,floatS,List.getElem?_cons_succ,List.getElem?_cons_zero,List.getElem?_toArray,Region.wanted,Bool.not_true,Bool.not_false,Bool.false_or,Bool.true_or,Bool.or_true,Bool.true_and,reads,looksWeak,aev_tmp,aev_const,upd_at,↓reduceIte,Nat.reduceEqDiff,Nat.reduceLT,Nat.reduceAdd,ofL_zero,ofL_succ,blkOf,oeq_refl,oeq_of,dead_cells,dead_map,Bool.and_true,Bool.and_self,Bool.false_eq_true,Bool.not_false,gc9,dc,cd,hcd,AHeap.get_set_same]
    simp (disch := first | assumption | simp) only [↓sbD,sbU,tyB,Nat.reduceMul,Nat.reduceSub,Int.reduceEq,Int.reduceLT,Int.reduceLE,Int.reduceNe,Nat.reduceBneDiff,Nat.reduceBEq,decide_false,gt_iff_lt,Bool.or_self,Bool.false_eq_true,Nat.mul_one,Nat.one_mul,Nat.zero_mul,↓reduceIte,Nat.reduceEqDiff,Nat.reduceLT,Nat.reduceAdd,Nat.reduceLeDiff,reduceCtorEq,goInt,pairs,isConst,TI.isAgg,splice,boxS,Edp,dpv,Nat.beq_eq,ZV.val,List.any_cons,List.any_nil,Bool.false_and,gc9,dc,cd,res_cellc,resC_some]
    exact downS_le (Le.set (Le.new' (Le.new hd) hd)) (hbad k 129 q rfl (σ9.set c _) e z ⟨kd,cn,emp,0⟩ ((k1.trans kA).setD hc) he1 he2)
  ·skip
   rw [h2] at hbad
   simp only at hbad
   have kA := k2.trans k3
   obtain ⟨e,z,he1,he2,i9⟩ := i3
   simp (disch := first | assumption | simp) only [↓sbD,sbU,tyB,Nat.reduceMul,Nat.reduceSub,Int.reduceEq,Int.reduceLT,Int.reduceLE,Int.reduceNe,Nat.reduceBneDiff,Nat.reduceBEq,decide_false,gt_iff_lt,Bool.or_self,Bool.false_eq_true,Nat.mul_one,Nat.one_mul,Nat.zero_mul,↓reduceIte,Nat.reduceEqDiff,Nat.reduceLT,Nat.reduceAdd,Nat.reduceLeDiff,reduceCtorEq,goInt,pairs,isConst,TI.isAgg,splice,boxS,Edp,dpv,Nat.beq_eq,ZV.val,List.any_cons,List.any_nil,Bool.false_and]
   refine specRU32E i9 ?_
   simp (disch := first | assumption | simp) only [↓sbD,sbU,tyB,Nat.reduceMul,Nat.reduceSub,Int.reduceEq,Int.reduceLT,Int.reduceLE,Int.reduceNe,Nat.reduceBneDiff,Nat.reduceBEq,decide_false,gt_iff_lt,Bool.or_self,Bool.false_eq_true,Nat.mul_one,Nat.one_mul,Nat.zero_mul,↓reduceIte,Nat.reduceEqDiff,Nat.reduceLT,Nat.reduceAdd,Nat.reduceLeDiff,reduceCtorEq,goInt,pairs,isConst,TI.isAgg,splice,boxS,Edp,dpv,Nat.beq_eq,ZV.val,List.any_cons,List.any_nil,Bool.false_and]
   refine specRBinE i9 fun σ9 k9 i10 => ?_
   replace kA := kA.trans k9
   have gc9 := (kA.at gc1 (by simp) (by simpa using hcr)).1
   simp (disch := first | assumption | simp) only [↓sbD,sbU,tyB,Nat.reduceMul,Nat.reduceSub,Int.reduceEq,Int.reduceLT,Int.reduceLE,Int.reduceNe,Nat.reduceBneDiff,Nat.reduceBEq,decide_false,gt_iff_lt,Bool.or_self,Bool.false_eq_true,Nat.mul_one,Nat.one_mul,Nat.zero_mul,↓reduceIte,Nat.reduceEqDiff,Nat.reduceLT,Nat.reduceAdd,Nat.reduceLeDiff,reduceCtorEq,goInt,pairs,isConst,TI.isAgg,splice,boxS,Edp,dpv,Nat.beq_eq,ZV.val,List.any_cons,List.any_nil,Bool.false_and,AS_new,zeEv]
   intro d hd
   have hdc : d ≠ c := by rintro rfl; rw [gc9] at hd; cases hd
   have hdr : d ≠ r := by rintro rfl; rw [i10] at hd; cases hd
   have dc : ∀ (τ : AHeap) o,(AHeap.set τ d o).get c = τ.get c := fun τ o => AHeap.get_set_ne _ _ hdc
   have cd : ∀ (τ : AHeap) o,(AHeap.set τ c o).get d = τ.get d := fun τ o => AHeap.get_set_ne _ _ hdc.symm
   have hcd : Nat.beq c d = false := beq_ne hdc.symm
   have ir2 : ∀ o o',IsR ((σ9.set d o).set d o') r s _ _ := fun o o' => by unfold IsR; rw [AHeap.get_set_ne _ _ hdr,AHeap.get_set_ne _ _ hdr]; exact i10
   refine specRErr (ir2 _ _) ?_
   simp (disch := first | assumption | simp) only [↓sbD,sbU,tyB,Nat.reduceMul,Nat.reduceSub,Int.reduceEq,Int.reduceLT,Int.reduceLE,Int.reduceNe,Nat.reduceBneDiff,Nat.reduceBEq,decide_false,gt_iff_lt,Bool.or_self,Bool.false_eq_true,Nat.mul_one,Nat.one_mul,Nat.zero_mul,↓reduceIte,Nat.reduceEqDiff,Nat.reduceLT,Nat.reduceAdd,Nat.reduceLeDiff,reduceCtorEq,goInt,pairs,isConst,TI.isAgg,splice,boxS,Edp,dpv,Nat.beq_eq,ZV.val,List.any_cons,List.any_nil,Bool.false_and]
   refine specRErr (ir2 _ _) ?_
   simp (disch := first | assumption | simp) only [↓sbD,sbU,tyB,Nat.reduceMul,Nat.reduceSub,Int.reduceEq,Int.reduceLT,Int.reduceLE,Int.reduceNe,Nat.reduceBneDiff,Nat.reduceBEq,decide_false,gt_iff_lt,Bool.or_self,Bool.false_eq_true,Nat.mul_one,Nat.one_mul,Nat.zero_mul,↓reduceIte,Nat.reduceEqDiff,Nat.reduceLT,Nat.reduceAdd,Nat.reduceLeDiff,reduceCtorEq,goInt,pairs,isConst,TI.isAgg,splice,boxS,Edp,dpv,Nat.beq_eq,ZV.val,List.any_cons,List.any_nil,Bool.false_and,gc9,dc,cd]
   refine drawS_l (fl := [(0,2)]) (by kernel_rfl) ?_ ?_
   rotate_left; simp only [lastP_cc,lastP_one]; rotate_left
   ·simp only [List.all_cons,List.all_nil,floatS,List.getElem?_cons_succ,List.getElem?_cons_zero,List.getElem?_toArray,Region.wanted,Bool.not_true,Bool.not_false,Bool.false_or,Bool.true_or,Bool.or_true,Bool.true_and,reads,looksWeak,aev_tmp,aev_const,upd_at,↓reduceIte,Nat.reduceEqDiff,Nat.reduceLT,Nat.reduceAdd,ofL_zero,ofL_succ,blkOf,oeq_refl,oeq_of,dead_cells,dead_map,Bool.and_true,Bool.and_self,Bool.false_eq_true,Bool.not_false,gc9,dc,cd,hcd,AHeap.get_set_same]
   simp (disch := first | assumption | simp) only [↓sbD,sbU,tyB,Nat.reduceMul,Nat.reduceSub,Int.reduceEq,Int.reduceLT,Int.reduceLE,Int.reduceNe,Nat.reduceBneDiff,Nat.reduceBEq,decide_false,gt_iff_lt,Bool.or_self,Bool.false_eq_true,Nat.mul_one,Nat.one_mul,Nat.zero_mul,↓reduceIte,Nat.reduceEqDiff,Nat.reduceLT,Nat.reduceAdd,Nat.reduceLeDiff,reduceCtorEq,goInt,pairs,isConst,TI.isAgg,splice,boxS,Edp,dpv,Nat.beq_eq,ZV.val,List.any_cons,List.any_nil,Bool.false_and,gc9,dc,cd,res_cellc,resC_some]
   exact downS_le (Le.set (Le.new' (Le.new hd) hd)) (hbad k 129 q rfl (σ9.set c _) e z ⟨kd,0,emp,0⟩ ((k1.trans kA).setD hc) he1 he2)
 ·skip
  rw [h1] at hbad
  simp only at hbad
  have kA := k2
  obtain ⟨e,z,he1,he2,i9⟩ := i2
  simp (disch := first | assumption | simp) only [↓sbD,sbU,tyB,Nat.reduceMul,Nat.reduceSub,Int.reduceEq,Int.reduceLT,Int.reduceLE,Int.reduceNe,Nat.reduceBneDiff,Nat.reduceBEq,decide_false,gt_iff_lt,Bool.or_self,Bool.false_eq_true,Nat.mul_one,Nat.one_mul,Nat.zero_mul,↓reduceIte,Nat.reduceEqDiff,Nat.reduceLT,Nat.reduceAdd,Nat.reduceLeDiff,reduceCtorEq,goInt,pairs,isConst,TI.isAgg,splice,boxS,Edp,dpv,Nat.beq_eq,ZV.val,List.any_cons,List.any_nil,Bool.false_and]
  refine specRU8E i9 ?_
  simp (disch := first | assumption | simp) only [↓sbD,sbU,tyB,Nat.reduceMul,Nat.reduceSub,Int.reduceEq,Int.reduceLT,Int.reduceLE,Int.reduceNe,Nat.reduceBneDiff,Nat.reduceBEq,decide_false,gt_iff_lt,Bool.or_self,Bool.false_eq_true,Nat.mul_one,Nat.one_mul,Nat.zero_mul,↓reduceIte,Nat.reduceEqDiff,Nat.reduceLT,Nat.reduceAdd,Nat.reduceLeDiff,reduceCtorEq,goInt,pairs,isConst,TI.isAgg,splice,boxS,Edp,dpv,Nat.beq_eq,ZV.val,List.any_cons,List.any_nil,Bool.false_and]
  refine specRU32E i9 ?_
  simp (disch := first | assumption | simp) only [↓sbD,sbU,tyB,Nat.reduceMul,Nat.reduceSub,Int.reduceEq,Int.reduceLT,Int.reduceLE,Int.reduceNe,Nat.reduceBneDiff,Nat.reduceBEq,decide_false,gt_iff_lt,Bool.or_self,Bool.false_eq_true,Nat.mul_one,Nat.one_mul,Nat.zero_mul,↓reduceIte,Nat.reduceEqDiff,Nat.reduceLT,Nat.reduceAdd,Nat.reduceLeDiff,reduceCtorEq,goInt,pairs,isConst,TI.isAgg,splice,boxS,Edp,dpv,Nat.beq_eq,ZV.val,List.any_cons,List.any_nil,Bool.false_and]
  refine specRBinE i9 fun σ9 k9 i10 => ?_
  replace kA := kA.trans k9
  have gc9 := (kA.at gc1 (by simp) (by simpa using hcr)).1
  simp (disch := first | assumption | simp) only [↓sbD,sbU,tyB,Nat.reduceMul,Nat.reduceSub,Int.reduceEq,Int.reduceLT,Int.reduceLE,Int.reduceNe,Nat.reduceBneDiff,Nat.reduceBEq,decide_false,gt_iff_lt,Bool.or_self,Bool.false_eq_true,Nat.mul_one,Nat.one_mul,Nat.zero_mul,↓reduceIte,Nat.reduceEqDiff,Nat.reduceLT,Nat.reduceAdd,Nat.reduceLeDiff,reduceCtorEq,goInt,pairs,isConst,TI.isAgg,splice,boxS,Edp,dpv,Nat.beq_eq,ZV.val,List.any_cons,List.any_nil,Bool.false_and,AS_new,zeEv]
  intro d hd
  have hdc : d ≠ c := by rintro rfl; rw [gc9] at hd; cases hd
  have hdr : d ≠ r := by rintro rfl; rw [i10] at hd; cases hd
  have dc : ∀ (τ : AHeap) o,(AHeap.set τ d o).get c = τ.get c := fun τ o => AHeap.get_set_ne _ _ hdc
  have cd : ∀ (τ : AHeap) o,(AHeap.set τ c o).get d = τ.get d := fun τ o => AHeap.get_set_ne _ _ hdc.symm
  have hcd : Nat.beq c d = false := beq_ne hdc.symm
  have ir2 : ∀ o o',IsR ((σ9.set d o).set d o') r s _ _ := fun o o' => by unfold IsR; rw [AHeap.get_set_ne _ _ hdr,AHeap.get_set_ne _ _ hdr]; exact i10
  refine specRErr (ir2 _ _) ?_
  simp (disch := first | assumption | simp) only [↓sbD,sbU,tyB,Nat.reduceMul,Nat.reduceSub,Int.reduceEq,Int.reduceLT,Int.reduceLE,Int.reduceNe,Nat.reduceBneDiff,Nat.reduceBEq,decide_false,gt_iff_lt,Bool.or_self,Bool.false_eq_true,Nat.mul_one,Nat.one_mul,Nat.zero_mul,↓reduceIte,Nat.reduceEqDiff,Nat.reduceLT,Nat.reduceAdd,Nat.reduceLeDiff,reduceCtorEq,goInt,pairs,isConst,TI.isAgg,splice,boxS,Edp,dpv,Nat.beq_eq,ZV.val,List.any_cons,List.any_nil,Bool.false_and]
  refine specRErr (ir2 _ _) ?_
  simp (disch := first | assumption | simp) only [↓sbD,sbU,tyB,Nat.reduceMul,Nat.reduceSub,Int.reduceEq,Int.reduceLT,Int.reduceLE,Int.reduceNe,Nat.reduceBneDiff,Nat.reduceBEq,decide_false,gt_iff_lt,Bool.or_self,Bool.false_eq_true,Nat.mul_one,Nat.one_mul,Nat.zero_mul,↓reduceIte,Nat.reduceEqDiff,Nat.reduceLT,Nat.reduceAdd,Nat.reduceLeDiff,reduceCtorEq,goInt,pairs,isConst,TI.isAgg,splice,boxS,Edp,dpv,Nat.beq_eq,ZV.val,List.any_cons,List.any_nil,Bool.false_and,gc9,dc,cd]
  refine drawS_l (fl := [(0,2)]) (by kernel_rfl) ?_ ?_
  rotate_left; simp only [lastP_cc,lastP_one]; rotate_left
  ·simp only [List.all_cons,List.all_nil,floatS,List.getElem?_cons_succ,List.getElem?_cons_zero,List.getElem?_toArray,Region.wanted,Bool.not_true,Bool.not_false,Bool.false_or,Bool.true_or,Bool.or_true,Bool.true_and,reads,looksWeak,aev_tmp,aev_const,upd_at,↓reduceIte,Nat.reduceEqDiff,Nat.reduceLT,Nat.reduceAdd,ofL_zero,ofL_succ,blkOf,oeq_refl,oeq_of,dead_cells,dead_map,Bool.and_true,Bool.and_self,Bool.false_eq_true,Bool.not_false,gc9,dc,cd,hcd,AHeap.get_set_same]
  simp (disch := first | assumption | simp) only [↓sbD,sbU,tyB,Nat.reduceMul,Nat.reduceSub,Int.reduceEq,Int.reduceLT,Int.reduceLE,Int.reduceNe,Nat.reduceBneDiff,Nat.reduceBEq,decide_false,gt_iff_lt,Bool.or_self,Bool.false_eq_true,Nat.mul_one,Nat.one_mul,Nat.zero_mul,↓reduceIte,Nat.reduceEqDiff,Nat.reduceLT,Nat.reduceAdd,Nat.reduceLeDiff,reduceCtorEq,goInt,pairs,isConst,TI.isAgg,splice,boxS,Edp,dpv,Nat.beq_eq,ZV.val,List.any_cons,List.any_nil,Bool.false_and,gc9,dc,cd,res_cellc,resC_some]
  exact downS_le (Le.set (Le.new' (Le.new hd) hd)) (hbad k 129 q rfl (σ9.set c _) e z ⟨0,0,emp,0⟩ ((k1.trans kA).setD hc) he1 he2)
end
section
variable {σ : AHeap} {Q : Value → AHeap → Prop} {r p : Nat} {s : ByteArray}
theorem evC_bare (a : Ev) : bareL (evC a) = evC a := rfl
theorem evC_frz (a : Ev) : frzL E.ng E.nb (evC a) = true := by simp [evC,frzL,frz]
theorem evC_oc (a : Ev) : (evC a).all oneCell = true := rfl
theorem app_ev {K : Value → AHeap → Prop} {v y : Value} {l xs : List Ev} {fp : List Nat} (hv : DG evC 4 σ v l fp) (hx : DL evC 4 y xs) (hn : l.length + xs.length ≤ 1000000) (hq : ∀ σ' v' fp',Kept σ fp σ' fp' → DG evC 4 σ' v' (l ++ xs) fp' → K v' σ') :
  afterOpS E B (some (.any fun b => aappend E (σ.resize b) [24,24] [v,y])) σ K :=
 app_deep (by_ := 40) ty24 ty36 rfl (by decide) (by decide) ty24 rfl rfl evC_bare evC_frz evC_oc hv hx (by omega) hq
theorem specSEvents {n : Nat} (hn : n ≤ 16384) (hr : IsR σ r s p .nilIface) (hp : p ≤ s.size) (hs : s.size ≤ 100000000)
  (hok : ∀ l q,evsR s n p [] = .ok (l,q) → q = s.size → ∀ v σ',DL evC 4 v l → Kept σ [r] σ' [r] → Q (.tuple #[v,.nilIface]) σ')
  (hmore : ∀ l q,evsR s n p [] = .ok (l,q) → q < s.size → ∀ v σ',DL evC 4 v l → Kept σ [r] σ' [r] → Q (.tuple #[v,fv 129 (q : Int) (sent 2)]) σ')
  (hbad : ∀ k rr a : Nat,evsR s n p [] = .error (k,rr,a) → ∀ σ' d z,Kept σ [r] σ' [r] → d ≤ 2 → ErN d (fv rr a z) k → Q (.tuple #[.slice none 0 0,fv rr a z]) σ') :
  CallS E B 23 [.pointer (some ⟨r,0,none⟩),.int .i64 (n : Int)] σ Q := by
 refine call23 (by simp) ?_
 simp only [strip,bodyOf,Tryd.f23,getD_body,keepN,bareOp_mk,lessOp_mk,lapp_cons,lapp_nil,List.map_cons,List.map_nil,array_toList,↓reduceIte,Nat.reduceEqDiff,Bool.false_eq_true]
 simp (disch := first | assumption | simp) only [↓sbD,sbU,tyB,Nat.reduceMul,Nat.reduceSub,Int.reduceEq,Int.reduceLT,Int.reduceLE,Int.reduceNe,Nat.reduceBneDiff,Nat.reduceBEq,decide_false,gt_iff_lt,Bool.or_self,Bool.false_eq_true,Nat.mul_one,Nat.one_mul,Nat.zero_mul,↓reduceIte,Nat.reduceEqDiff,Nat.reduceLT,Nat.reduceAdd,Nat.reduceLeDiff,reduceCtorEq,goInt,pairs,isConst,TI.isAgg,splice,boxS,Edp,dpv,Nat.beq_eq,ZV.val,List.any_cons,List.any_nil,Bool.false_and]
 generalize hR : evsR s n p [] = R at hok hmore hbad
 refine S_loop (fun m f σ' => ∃ (i p' : Nat) (l : List Ev) (v : Value) (fp : List Nat),m + i = n ∧ f 10 = .int .i64 i ∧ f 6 = v ∧ DG evC 4 σ' v l fp ∧ r ∉ fp ∧ l.length = i ∧ IsR σ' r s p' .nilIface ∧ p' ≤ s.size ∧ Kept σ [r] σ' (r :: fp) ∧ evsR s (n - i) p' l = R) n (Le.refl _) ⟨0,p,[],_,[],rfl,by simp (disch := first | assumption | simp) only [↓sbD,sbU,tyB,Nat.reduceMul,Nat.reduceSub,Int.reduceEq,Int.reduceLT,Int.reduceLE,Int.reduceNe,Nat.reduceBneDiff,Nat.reduceBEq,decide_false,gt_iff_lt,Bool.or_self,Bool.false_eq_true,Nat.mul_one,Nat.one_mul,Nat.zero_mul,↓reduceIte,Nat.reduceEqDiff,Nat.reduceLT,Nat.reduceAdd,Nat.reduceLeDiff,reduceCtorEq,goInt,pairs,isConst,TI.isAgg,splice,boxS,Edp,dpv,Nat.beq_eq,ZV.val,List.any_cons,List.any_nil,Bool.false_and]; rfl,rfl,by simp (disch := first | assumption | simp) only [↓sbD,sbU,tyB,Nat.reduceMul,Nat.reduceSub,Int.reduceEq,Int.reduceLT,Int.reduceLE,Int.reduceNe,Nat.reduceBneDiff,Nat.reduceBEq,decide_false,gt_iff_lt,Bool.or_self,Bool.false_eq_true,Nat.mul_one,Nat.one_mul,Nat.zero_mul,↓reduceIte,Nat.reduceEqDiff,Nat.reduceLT,Nat.reduceAdd,Nat.reduceLeDiff,reduceCtorEq,goInt,pairs,isConst,TI.isAgg,splice,boxS,Edp,dpv,Nat.beq_eq,ZV.val,List.any_cons,List.any_nil,Bool.false_and]; exact DG.nil,by simp,rfl,hr,hp,Kept.refl _ _,hR⟩ ?_
 rintro m f σ2 ⟨i,p',l,v,fp,hm,f10,f6,hg,hrf,hli,ir,hp',hk,hev⟩ hf
 have f0 := hf 0 (by decide) (notMem_wr (by kernel_rfl))
 have f9 := hf 9 (by decide) (notMem_wr (by kernel_rfl))
 simp (disch := first | assumption | simp) only [↓sbD,sbU,tyB,Nat.reduceMul,Nat.reduceSub,Int.reduceEq,Int.reduceLT,Int.reduceLE,Int.reduceNe,Nat.reduceBneDiff,Nat.reduceBEq,decide_false,gt_iff_lt,Bool.or_self,Bool.false_eq_true,Nat.mul_one,Nat.one_mul,Nat.zero_mul,↓reduceIte,Nat.reduceEqDiff,Nat.reduceLT,Nat.reduceAdd,Nat.reduceLeDiff,reduceCtorEq,goInt,pairs,isConst,TI.isAgg,splice,boxS,Edp,dpv,Nat.beq_eq,ZV.val,List.any_cons,List.any_nil,Bool.false_and] at f0 f9
 clear hf
 by_cases hi : (i : Int) < (n : Int)
 ·have hw := wrap_suc (n := i) (by omega)
  have hni : n - i = (n - (i + 1)) + 1 := by omega
  rw [hni] at hev
  simp only [evsR] at hev
  simp (disch := first | assumption | simp) only [↓sbD,sbU,tyB,Nat.reduceMul,Nat.reduceSub,Int.reduceEq,Int.reduceLT,Int.reduceLE,Int.reduceNe,Nat.reduceBneDiff,Nat.reduceBEq,decide_false,gt_iff_lt,Bool.or_self,Bool.false_eq_true,Nat.mul_one,Nat.one_mul,Nat.zero_mul,↓reduceIte,Nat.reduceEqDiff,Nat.reduceLT,Nat.reduceAdd,Nat.reduceLeDiff,reduceCtorEq,goInt,pairs,isConst,TI.isAgg,splice,boxS,Edp,dpv,Nat.beq_eq,ZV.val,List.any_cons,List.any_nil,Bool.false_and,f0,f9,f10,hi]
  refine specSEvent ir hp' hs (fun e q he σ3 k3 i3 hq => ?_) fun k rr a he σ3 d z e k3 hd her => ?_
  ·rw [he] at hev
   simp only at hev
   have hg3 := hg.kept k3 (fun b hb hm => hrf (by obtain rfl := List.mem_singleton.1 hm; exact hb))
   have hac : evC e = [.int .i64 e.k,.int .i64 e.c,.string e.b,.int .i64 e.n] := rfl
   simp (disch := first | assumption | simp) only [↓sbD,sbU,tyB,Nat.reduceMul,Nat.reduceSub,Int.reduceEq,Int.reduceLT,Int.reduceLE,Int.reduceNe,Nat.reduceBneDiff,Nat.reduceBEq,decide_false,gt_iff_lt,Bool.or_self,Bool.false_eq_true,Nat.mul_one,Nat.one_mul,Nat.zero_mul,↓reduceIte,Nat.reduceEqDiff,Nat.reduceLT,Nat.reduceAdd,Nat.reduceLeDiff,reduceCtorEq,goInt,pairs,isConst,TI.isAgg,splice,boxS,Edp,dpv,Nat.beq_eq,ZV.val,List.any_cons,List.any_nil,Bool.false_and,AS_new,zeEv,hac,f6]
   intro b hb
   have kb : Kept σ3 [] _ [] := Kept.tmp (o := .cells [.int .i64 0,.int .i64 0,.string ⟨#[]⟩,.int .i64 0] true 0) (o' := .cells [.int .i64 e.k,.int .i64 e.c,.string e.b,.int .i64 e.n] true 0) hb
   have hg4 := hg3.kept kb (fun _ _ h => by cases h)
   have i4 := (kb.at i3 (by simp) (by simp)).1
   refine app_ev (xs := [e]) hg4 (.inr ⟨1,rfl⟩) (by simp only [List.length_cons,List.length_nil]; omega) fun σ5 v5 fp5 k5 g5 => ?_
   have i5 := k5.at i4 (by simp) hrf
   simp (disch := first | assumption | simp) only [↓sbD,sbU,tyB,Nat.reduceMul,Nat.reduceSub,Int.reduceEq,Int.reduceLT,Int.reduceLE,Int.reduceNe,Nat.reduceBneDiff,Nat.reduceBEq,decide_false,gt_iff_lt,Bool.or_self,Bool.false_eq_true,Nat.mul_one,Nat.one_mul,Nat.zero_mul,↓reduceIte,Nat.reduceEqDiff,Nat.reduceLT,Nat.reduceAdd,Nat.reduceLeDiff,reduceCtorEq,goInt,pairs,isConst,TI.isAgg,splice,boxS,Edp,dpv,Nat.beq_eq,ZV.val,List.any_cons,List.any_nil,Bool.false_and,f10,hw]
   refine ⟨_,m - 1,σ5,rfl,by omega,Le.refl _,i + 1,q,l ++ [e],v5,fp5,by omega,by simp (disch := first | assumption | simp) only [↓sbD,sbU,tyB,Nat.reduceMul,Nat.reduceSub,Int.reduceEq,Int.reduceLT,Int.reduceLE,Int.reduceNe,Nat.reduceBneDiff,Nat.reduceBEq,decide_false,gt_iff_lt,Bool.or_self,Bool.false_eq_true,Nat.mul_one,Nat.one_mul,Nat.zero_mul,↓reduceIte,Nat.reduceEqDiff,Nat.reduceLT,Nat.reduceAdd,Nat.reduceLeDiff,reduceCtorEq,goInt,pairs,isConst,TI.isAgg,splice,boxS,Edp,dpv,Nat.beq_eq,ZV.val,List.any_cons,List.any_nil,Bool.false_and],rfl,g5,i5.2,by rw [List.length_append,hli]; rfl,i5.1,hq,?_,hev⟩
   exact hk.trans ((k3.wid (gp := r :: fp) (gp' := r :: fp) (fun b hb => by simp at hb; simp [hb]) (fun b hb => .inr hb)).trans ((kb.wid (gp := r :: fp) (gp' := r :: fp) (fun _ h => by cases h) (fun _ h => .inr h)).trans (k5.wid (gp := r :: fp) (gp' := r :: fp5) (fun b hb => by simp [hb]) (fun b hb => by simp only [List.mem_cons] at hb ⊢; rcases hb with hb | hb <;> simp [hb]))))
  ·rw [he] at hev
   simp only at hev
   subst hev
   have hac : evC e = [.int .i64 e.k,.int .i64 e.c,.string e.b,.int .i64 e.n] := rfl
   simp (disch := first | assumption | simp) only [↓sbD,sbU,tyB,Nat.reduceMul,Nat.reduceSub,Int.reduceEq,Int.reduceLT,Int.reduceLE,Int.reduceNe,Nat.reduceBneDiff,Nat.reduceBEq,decide_false,gt_iff_lt,Bool.or_self,Bool.false_eq_true,Nat.mul_one,Nat.one_mul,Nat.zero_mul,↓reduceIte,Nat.reduceEqDiff,Nat.reduceLT,Nat.reduceAdd,Nat.reduceLeDiff,reduceCtorEq,goInt,pairs,isConst,TI.isAgg,splice,boxS,Edp,dpv,Nat.beq_eq,ZV.val,List.any_cons,List.any_nil,Bool.false_and,AS_new,zeEv,hac]
   intro b hb
   exact downS_le (Le.new' (Le.new hb) hb) (hbad k rr a rfl σ3 d z (hk.self.trans k3) hd her)
 ·obtain rfl : i = n := by omega
  rw [Nat.sub_self] at hev
  simp only [evsR] at hev
  subst hev
  simp (disch := first | assumption | simp) only [↓sbD,sbU,tyB,Nat.reduceMul,Nat.reduceSub,Int.reduceEq,Int.reduceLT,Int.reduceLE,Int.reduceNe,Nat.reduceBneDiff,Nat.reduceBEq,decide_false,gt_iff_lt,Bool.or_self,Bool.false_eq_true,Nat.mul_one,Nat.one_mul,Nat.zero_mul,↓reduceIte,Nat.reduceEqDiff,Nat.reduceLT,Nat.reduceAdd,Nat.reduceLeDiff,reduceCtorEq,goInt,pairs,isConst,TI.isAgg,splice,boxS,Edp,dpv,Nat.beq_eq,ZV.val,List.any_cons,List.any_nil,Bool.false_and,f0,f9,f10,hi,f6]
  refine specRDone ir hp' (by omega) (fun he => ?_) fun hlt => ?_
  ·simp (disch := first | assumption | simp) only [↓sbD,sbU,tyB,Nat.reduceMul,Nat.reduceSub,Int.reduceEq,Int.reduceLT,Int.reduceLE,Int.reduceNe,Nat.reduceBneDiff,Nat.reduceBEq,decide_false,gt_iff_lt,Bool.or_self,Bool.false_eq_true,Nat.mul_one,Nat.one_mul,Nat.zero_mul,↓reduceIte,Nat.reduceEqDiff,Nat.reduceLT,Nat.reduceAdd,Nat.reduceLeDiff,reduceCtorEq,goInt,pairs,isConst,TI.isAgg,splice,boxS,Edp,dpv,Nat.beq_eq,ZV.val,List.any_cons,List.any_nil,Bool.false_and]
   exact downS_here (hok l p' rfl he v _ hg.dl hk.self)
  ·simp (disch := first | assumption | simp) only [↓sbD,sbU,tyB,Nat.reduceMul,Nat.reduceSub,Int.reduceEq,Int.reduceLT,Int.reduceLE,Int.reduceNe,Nat.reduceBneDiff,Nat.reduceBEq,decide_false,gt_iff_lt,Bool.or_self,Bool.false_eq_true,Nat.mul_one,Nat.one_mul,Nat.zero_mul,↓reduceIte,Nat.reduceEqDiff,Nat.reduceLT,Nat.reduceAdd,Nat.reduceLeDiff,reduceCtorEq,goInt,pairs,isConst,TI.isAgg,splice,boxS,Edp,dpv,Nat.beq_eq,ZV.val,List.any_cons,List.any_nil,Bool.false_and]
   exact downS_here (hmore l p' rfl hlt v _ hg.dl hk.self)
theorem specSHead (hr : IsR σ r s 0 .nilIface) (hs : s.size ≤ 100000000)
  (hok : ∀ c n q,headR s = .ok (c,n,q) → c.length = 13 → n ≤ 16384 → ∀ σ',Kept σ [r] σ' [r] → IsR σ' r s q .nilIface → q ≤ s.size → Q (.tuple #[.agg ⟨cfgC c⟩,.int .i64 (n : Int),.nilIface]) σ')
  (hbad : ∀ k rr a : Nat,headR s = .error (k,rr,a) → ∀ σ' d z c m,Kept σ [r] σ' [r] → d ≤ 2 → ErN d (fv rr a z) k → c.length = 13 → Q (.tuple #[.agg ⟨cfgC c⟩,.int .i64 m,fv rr a z]) σ') :
  CallS E B 22 [.pointer (some ⟨r,0,none⟩)] σ Q := by
 have z13 : cfgC [0,0,0,0,0,0,0,0,0,0,0,0,0] = [.int .i64 0,.int .i64 0,.int .i64 0,.int .i64 0,.int .i64 0,.int .i64 0,.int .i64 0,.int .i64 0,.int .i64 0,.int .i64 0,.int .i64 0,.int .i64 0,.int .i64 0] := rfl
 unfold headR at hok hbad
 refine call22 (by simp) ?_
 simp only [strip,bodyOf,Tryd.f22,getD_body,keepN,bareOp_mk,lessOp_mk,lapp_cons,lapp_nil,List.map_cons,List.map_nil,array_toList,↓reduceIte,Nat.reduceEqDiff,Bool.false_eq_true]
 simp (disch := first | assumption | simp) only [↓sbD,sbU,tyB,Nat.reduceMul,Nat.reduceSub,Int.reduceEq,Int.reduceLT,Int.reduceLE,Int.reduceNe,Nat.reduceBneDiff,Nat.reduceBEq,decide_false,gt_iff_lt,Bool.or_self,Bool.false_eq_true,Nat.mul_one,Nat.one_mul,Nat.zero_mul,↓reduceIte,Nat.reduceEqDiff,Nat.reduceLT,Nat.reduceAdd,Nat.reduceLeDiff,reduceCtorEq,goInt,pairs,isConst,TI.isAgg,splice,boxS,Edp,dpv,Nat.beq_eq,ZV.val,List.any_cons,List.any_nil,Bool.false_and,AS_new,zeCfg,z13]
 intro c hc
 have hcr : c ≠ r := by rintro rfl; rw [hr] at hc; cases hc
 generalize hσ1 : AHeap.set σ c _ = σ1
 have k1 : Kept σ [r] σ1 [r] := by rw [← hσ1]; exact (Kept.refl σ [r]).setD hc
 have gc1 : σ1.get c = .cells [.int .i64 0,.int .i64 0,.int .i64 0,.int .i64 0,.int .i64 0,.int .i64 0,.int .i64 0,.int .i64 0,.int .i64 0,.int .i64 0,.int .i64 0,.int .i64 0,.int .i64 0] true 0 := by rw [← hσ1]; exact AHeap.get_set_same _ _ _
 have i1 : IsR σ1 r s 0 .nilIface := by rw [← hσ1]; unfold IsR; rw [AHeap.get_set_ne _ _ hcr]; exact hr
 clear hσ1
 have xr : ∀ (τ : AHeap) o,(AHeap.set τ c o).get r = τ.get r := fun τ o => AHeap.get_set_ne _ _ hcr
 refine specRRaw i1 (Nat.zero_le _) (by omega) (fun v q hv σ2 k2 i2 => ?_) fun k q hv σ2 k2 i2 => ?_
 rotate_left
 ·rw [hv] at hbad
  simp only at hbad
  have i3 := i2
  obtain ⟨e,z,he1,he2,i3⟩ := i3
  simp (disch := first | assumption | simp) only [↓sbD,sbU,tyB,Nat.reduceMul,Nat.reduceSub,Int.reduceEq,Int.reduceLT,Int.reduceLE,Int.reduceNe,Nat.reduceBneDiff,Nat.reduceBEq,decide_false,gt_iff_lt,Bool.or_self,Bool.false_eq_true,Nat.mul_one,Nat.one_mul,Nat.zero_mul,↓reduceIte,Nat.reduceEqDiff,Nat.reduceLT,Nat.reduceAdd,Nat.reduceLeDiff,reduceCtorEq,goInt,pairs,isConst,TI.isAgg,splice,boxS,Edp,dpv,Nat.beq_eq,ZV.val,List.any_cons,List.any_nil,Bool.false_and]
  refine specRErr i3 ?_
  simp (disch := first | assumption | simp) only [↓sbD,sbU,tyB,Nat.reduceMul,Nat.reduceSub,Int.reduceEq,Int.reduceLT,Int.reduceLE,Int.reduceNe,Nat.reduceBneDiff,Nat.reduceBEq,decide_false,gt_iff_lt,Bool.or_self,Bool.false_eq_true,Nat.mul_one,Nat.one_mul,Nat.zero_mul,↓reduceIte,Nat.reduceEqDiff,Nat.reduceLT,Nat.reduceAdd,Nat.reduceLeDiff,reduceCtorEq,goInt,pairs,isConst,TI.isAgg,splice,boxS,Edp,dpv,Nat.beq_eq,ZV.val,List.any_cons,List.any_nil,Bool.false_and]
  refine specSConfigG (p := 0) (R := .error (k,q)) (.inr ⟨k,q,0,i2,rfl⟩) hs (fun cf q' hcf => by cases hcf) fun k' rr a hcf σ3 d z' cf k3 _ hd her hcz => ?_
  simp only [cfgE,Except.error.injEq,Prod.mk.injEq] at hcf
  obtain ⟨rfl,rfl,rfl⟩ := hcf
  obtain ⟨x0,x1,x2,x3,x4,x5,x6,x7,x8,x9,x10,x11,x12,hce⟩ := len13 hcz
  have hcl : cfgC cf = [.int .i64 x0,.int .i64 x1,.int .i64 x2,.int .i64 x3,.int .i64 x4,.int .i64 x5,.int .i64 x6,.int .i64 x7,.int .i64 x8,.int .i64 x9,.int .i64 x10,.int .i64 x11,.int .i64 x12] := by rw [hce]; rfl
  have gcA := ((k2.trans k3).at gc1 (by simp) (by simpa using hcr)).1
  simp (disch := first | assumption | simp) only [↓sbD,sbU,tyB,Nat.reduceMul,Nat.reduceSub,Int.reduceEq,Int.reduceLT,Int.reduceLE,Int.reduceNe,Nat.reduceBneDiff,Nat.reduceBEq,decide_false,gt_iff_lt,Bool.or_self,Bool.false_eq_true,Nat.mul_one,Nat.one_mul,Nat.zero_mul,↓reduceIte,Nat.reduceEqDiff,Nat.reduceLT,Nat.reduceAdd,Nat.reduceLeDiff,reduceCtorEq,goInt,pairs,isConst,TI.isAgg,splice,boxS,Edp,dpv,Nat.beq_eq,ZV.val,List.any_cons,List.any_nil,Bool.false_and,AS_new,zeCfg,z13,hcl]
  intro b hb
  have hbc : b ≠ c := by rintro rfl; rw [gcA] at hb; cases hb
  have bc : ∀ (τ : AHeap) o,(AHeap.set τ b o).get c = τ.get c := fun τ o => AHeap.get_set_ne _ _ hbc
  have cb : ∀ (τ : AHeap) o,(AHeap.set τ c o).get b = τ.get b := fun τ o => AHeap.get_set_ne _ _ hbc.symm
  have hcb : Nat.beq c b = false := beq_ne hbc.symm
  have fin : ∀ o o' o'' : AObj,Le (σ3.set c o) (((σ3.set b o').set b o'').set c o) := fun o o' o'' => Le.set (Le.new' (Le.new hb) hb)
  simp (disch := first | assumption | simp) only [↓sbD,sbU,tyB,Nat.reduceMul,Nat.reduceSub,Int.reduceEq,Int.reduceLT,Int.reduceLE,Int.reduceNe,Nat.reduceBneDiff,Nat.reduceBEq,decide_false,gt_iff_lt,Bool.or_self,Bool.false_eq_true,Nat.mul_one,Nat.one_mul,Nat.zero_mul,↓reduceIte,Nat.reduceEqDiff,Nat.reduceLT,Nat.reduceAdd,Nat.reduceLeDiff,reduceCtorEq,goInt,pairs,isConst,TI.isAgg,splice,boxS,Edp,dpv,Nat.beq_eq,ZV.val,List.any_cons,List.any_nil,Bool.false_and,gcA,bc,cb,AHeap.get_set_same,res_cellc,resC_some]
  have hh := hbad k 129 q rfl (σ3.set c (.cells (cfgC cf) true 0)) d z' cf 0 (((k1.trans k2).trans k3).setD hc) hd her hcz
  rw [hcl] at hh
  exact downS_le (fin _ _ _) hh
 ·rw [hv] at hok hbad
  simp only at hok hbad
  have hq := rawR_ok' (by decide) hv
  simp (disch := first | assumption | simp) only [↓sbD,sbU,tyB,Nat.reduceMul,Nat.reduceSub,Int.reduceEq,Int.reduceLT,Int.reduceLE,Int.reduceNe,Nat.reduceBneDiff,Nat.reduceBEq,decide_false,gt_iff_lt,Bool.or_self,Bool.false_eq_true,Nat.mul_one,Nat.one_mul,Nat.zero_mul,↓reduceIte,Nat.reduceEqDiff,Nat.reduceLT,Nat.reduceAdd,Nat.reduceLeDiff,reduceCtorEq,goInt,pairs,isConst,TI.isAgg,splice,boxS,Edp,dpv,Nat.beq_eq,ZV.val,List.any_cons,List.any_nil,Bool.false_and]
  refine specRErr i2 ?_
  by_cases hn : v = nameB
  ·have hn' : v = ⟨#[67,82,73,69,82]⟩ := hn
   rw [if_pos hn] at hok hbad
   simp (disch := first | assumption | simp) only [↓sbD,sbU,tyB,Nat.reduceMul,Nat.reduceSub,Int.reduceEq,Int.reduceLT,Int.reduceLE,Int.reduceNe,Nat.reduceBneDiff,Nat.reduceBEq,decide_false,gt_iff_lt,Bool.or_self,Bool.false_eq_true,Nat.mul_one,Nat.one_mul,Nat.zero_mul,↓reduceIte,Nat.reduceEqDiff,Nat.reduceLT,Nat.reduceAdd,Nat.reduceLeDiff,reduceCtorEq,goInt,pairs,isConst,TI.isAgg,splice,boxS,Edp,dpv,Nat.beq_eq,ZV.val,List.any_cons,List.any_nil,Bool.false_and,hn',eq_self,decide_true]
   refine specSConfigG (.inl ⟨i2,hq.2.1,rfl⟩) hs (fun cf q' hcf hcz σ3 k3 i3 hq' => ?_) fun k' rr a hcf σ3 d z' cf k3 _ hd her hcz => ?_
   rotate_left
   ·have hcf' : cfgR s q = .error (k',rr,a) := hcf
    rw [hcf'] at hbad
    obtain ⟨x0,x1,x2,x3,x4,x5,x6,x7,x8,x9,x10,x11,x12,hce⟩ := len13 hcz
    have hcl : cfgC cf = [.int .i64 x0,.int .i64 x1,.int .i64 x2,.int .i64 x3,.int .i64 x4,.int .i64 x5,.int .i64 x6,.int .i64 x7,.int .i64 x8,.int .i64 x9,.int .i64 x10,.int .i64 x11,.int .i64 x12] := by rw [hce]; rfl
    have gcA := ((k2.trans k3).at gc1 (by simp) (by simpa using hcr)).1
    simp (disch := first | assumption | simp) only [↓sbD,sbU,tyB,Nat.reduceMul,Nat.reduceSub,Int.reduceEq,Int.reduceLT,Int.reduceLE,Int.reduceNe,Nat.reduceBneDiff,Nat.reduceBEq,decide_false,gt_iff_lt,Bool.or_self,Bool.false_eq_true,Nat.mul_one,Nat.one_mul,Nat.zero_mul,↓reduceIte,Nat.reduceEqDiff,Nat.reduceLT,Nat.reduceAdd,Nat.reduceLeDiff,reduceCtorEq,goInt,pairs,isConst,TI.isAgg,splice,boxS,Edp,dpv,Nat.beq_eq,ZV.val,List.any_cons,List.any_nil,Bool.false_and,AS_new,zeCfg,z13,hcl]
    intro b hb
    have hbc : b ≠ c := by rintro rfl; rw [gcA] at hb; cases hb
    have bc : ∀ (τ : AHeap) o,(AHeap.set τ b o).get c = τ.get c := fun τ o => AHeap.get_set_ne _ _ hbc
    have cb : ∀ (τ : AHeap) o,(AHeap.set τ c o).get b = τ.get b := fun τ o => AHeap.get_set_ne _ _ hbc.symm
    have hcb : Nat.beq c b = false := beq_ne hbc.symm
    have fin : ∀ o o' o'' : AObj,Le (σ3.set c o) (((σ3.set b o').set b o'').set c o) := fun o o' o'' => Le.set (Le.new' (Le.new hb) hb)
    simp (disch := first | assumption | simp) only [↓sbD,sbU,tyB,Nat.reduceMul,Nat.reduceSub,Int.reduceEq,Int.reduceLT,Int.reduceLE,Int.reduceNe,Nat.reduceBneDiff,Nat.reduceBEq,decide_false,gt_iff_lt,Bool.or_self,Bool.false_eq_true,Nat.mul_one,Nat.one_mul,Nat.zero_mul,↓reduceIte,Nat.reduceEqDiff,Nat.reduceLT,Nat.reduceAdd,Nat.reduceLeDiff,reduceCtorEq,goInt,pairs,isConst,TI.isAgg,splice,boxS,Edp,dpv,Nat.beq_eq,ZV.val,List.any_cons,List.any_nil,Bool.false_and,gcA,bc,cb,AHeap.get_set_same,res_cellc,resC_some]
    have hh := hbad k' rr a rfl (σ3.set c (.cells (cfgC cf) true 0)) d z' cf 0 (((k1.trans k2).trans k3).setD hc) hd her hcz
    rw [hcl] at hh
    exact downS_le (fin _ _ _) hh
   ·have hcf' : cfgR s q = .ok (cf,q') := hcf
    rw [hcf'] at hok hbad
    simp only at hok hbad
    obtain ⟨x0,x1,x2,x3,x4,x5,x6,x7,x8,x9,x10,x11,x12,hce⟩ := len13 hcz
    have hcl : cfgC cf = [.int .i64 x0,.int .i64 x1,.int .i64 x2,.int .i64 x3,.int .i64 x4,.int .i64 x5,.int .i64 x6,.int .i64 x7,.int .i64 x8,.int .i64 x9,.int .i64 x10,.int .i64 x11,.int .i64 x12] := by rw [hce]; rfl
    have gcA := ((k2.trans k3).at gc1 (by simp) (by simpa using hcr)).1
    simp (disch := first | assumption | simp) only [↓sbD,sbU,tyB,Nat.reduceMul,Nat.reduceSub,Int.reduceEq,Int.reduceLT,Int.reduceLE,Int.reduceNe,Nat.reduceBneDiff,Nat.reduceBEq,decide_false,gt_iff_lt,Bool.or_self,Bool.false_eq_true,Nat.mul_one,Nat.one_mul,Nat.zero_mul,↓reduceIte,Nat.reduceEqDiff,Nat.reduceLT,Nat.reduceAdd,Nat.reduceLeDiff,reduceCtorEq,goInt,pairs,isConst,TI.isAgg,splice,boxS,Edp,dpv,Nat.beq_eq,ZV.val,List.any_cons,List.any_nil,Bool.false_and,AS_new,zeCfg,z13,hcl]
    intro b hb
    have hbc : b ≠ c := by rintro rfl; rw [gcA] at hb; cases hb
    have bc : ∀ (τ : AHeap) o,(AHeap.set τ b o).get c = τ.get c := fun τ o => AHeap.get_set_ne _ _ hbc
    have cb : ∀ (τ : AHeap) o,(AHeap.set τ c o).get b = τ.get b := fun τ o => AHeap.get_set_ne _ _ hbc.symm
    have hcb : Nat.beq c b = false := beq_ne hbc.symm
    have fin : ∀ o o' o'' : AObj,Le (σ3.set c o) (((σ3.set b o').set b o'').set c o) := fun o o' o'' => Le.set (Le.new' (Le.new hb) hb)
    have hbr : b ≠ r := by rintro rfl; rw [i3] at hb; cases hb
    generalize hσ4 : AHeap.set (AHeap.set σ3 b _) b _ = σ4
    have g4 : σ4.get b = .cells [.int .i64 x0,.int .i64 x1,.int .i64 x2,.int .i64 x3,.int .i64 x4,.int .i64 x5,.int .i64 x6,.int .i64 x7,.int .i64 x8,.int .i64 x9,.int .i64 x10,.int .i64 x11,.int .i64 x12] true 0 := by rw [← hσ4]; exact AHeap.get_set_same _ _ _
    have gc4 : σ4.get c = .cells [.int .i64 0,.int .i64 0,.int .i64 0,.int .i64 0,.int .i64 0,.int .i64 0,.int .i64 0,.int .i64 0,.int .i64 0,.int .i64 0,.int .i64 0,.int .i64 0,.int .i64 0] true 0 := by rw [← hσ4,bc,bc]; exact gcA
    have i4 : IsR σ4 r s q' .nilIface := by rw [← hσ4]; unfold IsR; rw [AHeap.get_set_ne _ _ hbr,AHeap.get_set_ne _ _ hbr]; exact i3
    have k4 : Kept σ3 [] σ4 [] := by rw [← hσ4]; exact Kept.tmp hb
    clear hσ4 fin
    have kAll := ((k1.trans k2).trans k3).trans (k4.wid (gp := [r]) (gp' := [r]) (fun _ h => by cases h) (fun _ h => .inr h))
    refine specRAt i4 ?_
    simp (disch := first | assumption | simp) only [↓sbD,sbU,tyB,Nat.reduceMul,Nat.reduceSub,Int.reduceEq,Int.reduceLT,Int.reduceLE,Int.reduceNe,Nat.reduceBneDiff,Nat.reduceBEq,decide_false,gt_iff_lt,Bool.or_self,Bool.false_eq_true,Nat.mul_one,Nat.one_mul,Nat.zero_mul,↓reduceIte,Nat.reduceEqDiff,Nat.reduceLT,Nat.reduceAdd,Nat.reduceLeDiff,reduceCtorEq,goInt,pairs,isConst,TI.isAgg,splice,boxS,Edp,dpv,Nat.beq_eq,ZV.val,List.any_cons,List.any_nil,Bool.false_and]
    refine specRU16 i4 hq' (by omega) (fun n q2 hn2 σ5 k5 i5 => ?_) fun k q2 hn2 σ5 k5 i5 => ?_
    ·rw [hn2] at hok hbad
     simp only at hok hbad
     have hn2l := numR_le hn2
     have g5 := (k5.at g4 (by simp) (by simpa using hbr)).1
     have gc5 := (k5.at gc4 (by simp) (by simpa using hcr)).1
     by_cases hbig : (16384 : Int) < (n : Int)
     ·rw [if_pos (by omega)] at hbad
      simp (disch := first | assumption | simp) only [↓sbD,sbU,tyB,Nat.reduceMul,Nat.reduceSub,Int.reduceEq,Int.reduceLT,Int.reduceLE,Int.reduceNe,Nat.reduceBneDiff,Nat.reduceBEq,decide_false,gt_iff_lt,Bool.or_self,Bool.false_eq_true,Nat.mul_one,Nat.one_mul,Nat.zero_mul,↓reduceIte,Nat.reduceEqDiff,Nat.reduceLT,Nat.reduceAdd,Nat.reduceLeDiff,reduceCtorEq,goInt,pairs,isConst,TI.isAgg,splice,boxS,Edp,dpv,Nat.beq_eq,ZV.val,List.any_cons,List.any_nil,Bool.false_and,hbig,g5,gk4]
      refine specNew (n := 4) ⟨by omega,by omega⟩ ?_
      simp (disch := first | assumption | simp) only [↓sbD,sbU,tyB,Nat.reduceMul,Nat.reduceSub,Int.reduceEq,Int.reduceLT,Int.reduceLE,Int.reduceNe,Nat.reduceBneDiff,Nat.reduceBEq,decide_false,gt_iff_lt,Bool.or_self,Bool.false_eq_true,Nat.mul_one,Nat.one_mul,Nat.zero_mul,↓reduceIte,Nat.reduceEqDiff,Nat.reduceLT,Nat.reduceAdd,Nat.reduceLeDiff,reduceCtorEq,goInt,pairs,isConst,TI.isAgg,splice,boxS,Edp,dpv,Nat.beq_eq,ZV.val,List.any_cons,List.any_nil,Bool.false_and,g5,gc5,cb]
      refine drawS_l (fl := [(0,3)]) (by kernel_rfl) ?_ ?_
      rotate_left; simp only [lastP_cc,lastP_one]; rotate_left
      ·simp only [List.all_cons,List.all_nil,floatS,List.getElem?_cons_succ,List.getElem?_cons_zero,List.getElem?_toArray,Region.wanted,Bool.not_true,Bool.not_false,Bool.false_or,Bool.true_or,Bool.or_true,Bool.true_and,reads,looksWeak,aev_tmp,aev_const,upd_at,↓reduceIte,Nat.reduceEqDiff,Nat.reduceLT,Nat.reduceAdd,ofL_zero,ofL_succ,blkOf,oeq_refl,oeq_of,dead_cells,dead_map,Bool.and_true,Bool.and_self,Bool.false_eq_true,Bool.not_false,g5,gc5,bc,cb,hcb,AHeap.get_set_same]
      simp (disch := first | assumption | simp) only [↓sbD,sbU,tyB,Nat.reduceMul,Nat.reduceSub,Int.reduceEq,Int.reduceLT,Int.reduceLE,Int.reduceNe,Nat.reduceBneDiff,Nat.reduceBEq,decide_false,gt_iff_lt,Bool.or_self,Bool.false_eq_true,Nat.mul_one,Nat.one_mul,Nat.zero_mul,↓reduceIte,Nat.reduceEqDiff,Nat.reduceLT,Nat.reduceAdd,Nat.reduceLeDiff,reduceCtorEq,goInt,pairs,isConst,TI.isAgg,splice,boxS,Edp,dpv,Nat.beq_eq,ZV.val,List.any_cons,List.any_nil,Bool.false_and,g5,gc5,cb,res_cellc,resC_some]
      have hh := hbad 4 149 q' rfl (σ5.set c (.cells (cfgC cf) true 0)) 1 (sent 4) cf 0 ((kAll.trans k5).setD hc) (by omega) (ErN.new _ _ ⟨by omega,by omega⟩) hcz
      rw [hcl] at hh
      exact downS_here hh
     ·rw [if_neg (by omega)] at hok
      simp (disch := first | assumption | simp) only [↓sbD,sbU,tyB,Nat.reduceMul,Nat.reduceSub,Int.reduceEq,Int.reduceLT,Int.reduceLE,Int.reduceNe,Nat.reduceBneDiff,Nat.reduceBEq,decide_false,gt_iff_lt,Bool.or_self,Bool.false_eq_true,Nat.mul_one,Nat.one_mul,Nat.zero_mul,↓reduceIte,Nat.reduceEqDiff,Nat.reduceLT,Nat.reduceAdd,Nat.reduceLeDiff,reduceCtorEq,goInt,pairs,isConst,TI.isAgg,splice,boxS,Edp,dpv,Nat.beq_eq,ZV.val,List.any_cons,List.any_nil,Bool.false_and,hbig,g5]
      refine specRErr i5 ?_
      simp (disch := first | assumption | simp) only [↓sbD,sbU,tyB,Nat.reduceMul,Nat.reduceSub,Int.reduceEq,Int.reduceLT,Int.reduceLE,Int.reduceNe,Nat.reduceBneDiff,Nat.reduceBEq,decide_false,gt_iff_lt,Bool.or_self,Bool.false_eq_true,Nat.mul_one,Nat.one_mul,Nat.zero_mul,↓reduceIte,Nat.reduceEqDiff,Nat.reduceLT,Nat.reduceAdd,Nat.reduceLeDiff,reduceCtorEq,goInt,pairs,isConst,TI.isAgg,splice,boxS,Edp,dpv,Nat.beq_eq,ZV.val,List.any_cons,List.any_nil,Bool.false_and,g5,gc5,cb]
      refine drawS_l (fl := [(0,3)]) (by kernel_rfl) ?_ ?_
      rotate_left; simp only [lastP_cc,lastP_one]; rotate_left
      ·simp only [List.all_cons,List.all_nil,floatS,List.getElem?_cons_succ,List.getElem?_cons_zero,List.getElem?_toArray,Region.wanted,Bool.not_true,Bool.not_false,Bool.false_or,Bool.true_or,Bool.or_true,Bool.true_and,reads,looksWeak,aev_tmp,aev_const,upd_at,↓reduceIte,Nat.reduceEqDiff,Nat.reduceLT,Nat.reduceAdd,ofL_zero,ofL_succ,blkOf,oeq_refl,oeq_of,dead_cells,dead_map,Bool.and_true,Bool.and_self,Bool.false_eq_true,Bool.not_false,g5,gc5,bc,cb,hcb,AHeap.get_set_same]
      simp (disch := first | assumption | simp) only [↓sbD,sbU,tyB,Nat.reduceMul,Nat.reduceSub,Int.reduceEq,Int.reduceLT,Int.reduceLE,Int.reduceNe,Nat.reduceBneDiff,Nat.reduceBEq,decide_false,gt_iff_lt,Bool.or_self,Bool.false_eq_true,Nat.mul_one,Nat.one_mul,Nat.zero_mul,↓reduceIte,Nat.reduceEqDiff,Nat.reduceLT,Nat.reduceAdd,Nat.reduceLeDiff,reduceCtorEq,goInt,pairs,isConst,TI.isAgg,splice,boxS,Edp,dpv,Nat.beq_eq,ZV.val,List.any_cons,List.any_nil,Bool.false_and,g5,gc5,cb,res_cellc,resC_some]
      have hh := hok cf n q2 rfl hcz (by omega) (σ5.set c (.cells (cfgC cf) true 0)) ((kAll.trans k5).setD hc) (by unfold IsR; rw [xr]; exact i5) hn2l.2
      rw [hcl] at hh
      exact downS_here hh
    ·rw [hn2] at hbad
     simp only at hbad
     obtain ⟨e,z,he1,he2,i6⟩ := i5
     have g5 := (k5.at g4 (by simp) (by simpa using hbr)).1
     have gc5 := (k5.at gc4 (by simp) (by simpa using hcr)).1
     simp (disch := first | assumption | simp) only [↓sbD,sbU,tyB,Nat.reduceMul,Nat.reduceSub,Int.reduceEq,Int.reduceLT,Int.reduceLE,Int.reduceNe,Nat.reduceBneDiff,Nat.reduceBEq,decide_false,gt_iff_lt,Bool.or_self,Bool.false_eq_true,Nat.mul_one,Nat.one_mul,Nat.zero_mul,↓reduceIte,Nat.reduceEqDiff,Nat.reduceLT,Nat.reduceAdd,Nat.reduceLeDiff,reduceCtorEq,goInt,pairs,isConst,TI.isAgg,splice,boxS,Edp,dpv,Nat.beq_eq,ZV.val,List.any_cons,List.any_nil,Bool.false_and,g5]
     refine specRErr i6 ?_
     simp (disch := first | assumption | simp) only [↓sbD,sbU,tyB,Nat.reduceMul,Nat.reduceSub,Int.reduceEq,Int.reduceLT,Int.reduceLE,Int.reduceNe,Nat.reduceBneDiff,Nat.reduceBEq,decide_false,gt_iff_lt,Bool.or_self,Bool.false_eq_true,Nat.mul_one,Nat.one_mul,Nat.zero_mul,↓reduceIte,Nat.reduceEqDiff,Nat.reduceLT,Nat.reduceAdd,Nat.reduceLeDiff,reduceCtorEq,goInt,pairs,isConst,TI.isAgg,splice,boxS,Edp,dpv,Nat.beq_eq,ZV.val,List.any_cons,List.any_nil,Bool.false_and,g5,gc5,cb]
     refine drawS_l (fl := [(0,3)]) (by kernel_rfl) ?_ ?_
     rotate_left; simp only [lastP_cc,lastP_one]; rotate_left
     ·simp only [List.all_cons,List.all_nil,floatS,List.getElem?_cons_succ,List.getElem?_cons_zero,List.getElem?_toArray,Region.wanted,Bool.not_true,Bool.not_false,Bool.false_or,Bool.true_or,Bool.or_true,Bool.true_and,reads,looksWeak,aev_tmp,aev_const,upd_at,↓reduceIte,Nat.reduceEqDiff,Nat.reduceLT,Nat.reduceAdd,ofL_zero,ofL_succ,blkOf,oeq_refl,oeq_of,dead_cells,dead_map,Bool.and_true,Bool.and_self,Bool.false_eq_true,Bool.not_false,g5,gc5,bc,cb,hcb,AHeap.get_set_same]
     simp (disch := first | assumption | simp) only [↓sbD,sbU,tyB,Nat.reduceMul,Nat.reduceSub,Int.reduceEq,Int.reduceLT,Int.reduceLE,Int.reduceNe,Nat.reduceBneDiff,Nat.reduceBEq,decide_false,gt_iff_lt,Bool.or_self,Bool.false_eq_true,Nat.mul_one,Nat.one_mul,Nat.zero_mul,↓reduceIte,Nat.reduceEqDiff,Nat.reduceLT,Nat.reduceAdd,Nat.reduceLeDiff,reduceCtorEq,goInt,pairs,isConst,TI.isAgg,splice,boxS,Edp,dpv,Nat.beq_eq,ZV.val,List.any_cons,List.any_nil,Bool.false_and,g5,gc5,cb,res_cellc,resC_some]
     have hh := hbad k 129 q2 rfl (σ5.set c (.cells (cfgC cf) true 0)) e z cf 0 ((kAll.trans k5).setD hc) he1 he2 hcz
     rw [hcl] at hh
     exact downS_here hh
  ·have hn' : ¬ v = ⟨#[67,82,73,69,82]⟩ := hn
   rw [if_neg hn] at hbad
   have gc2 := (k2.at gc1 (by simp) (by simpa using hcr)).1
   simp (disch := first | assumption | simp) only [↓sbD,sbU,tyB,Nat.reduceMul,Nat.reduceSub,Int.reduceEq,Int.reduceLT,Int.reduceLE,Int.reduceNe,Nat.reduceBneDiff,Nat.reduceBEq,decide_false,gt_iff_lt,Bool.or_self,Bool.false_eq_true,Nat.mul_one,Nat.one_mul,Nat.zero_mul,↓reduceIte,Nat.reduceEqDiff,Nat.reduceLT,Nat.reduceAdd,Nat.reduceLeDiff,reduceCtorEq,goInt,pairs,isConst,TI.isAgg,splice,boxS,Edp,dpv,Nat.beq_eq,ZV.val,List.any_cons,List.any_nil,Bool.false_and,hn',decide_true,gk2]
   refine specNew (n := 2) ⟨by omega,by omega⟩ ?_
   simp (disch := first | assumption | simp) only [↓sbD,sbU,tyB,Nat.reduceMul,Nat.reduceSub,Int.reduceEq,Int.reduceLT,Int.reduceLE,Int.reduceNe,Nat.reduceBneDiff,Nat.reduceBEq,decide_false,gt_iff_lt,Bool.or_self,Bool.false_eq_true,Nat.mul_one,Nat.one_mul,Nat.zero_mul,↓reduceIte,Nat.reduceEqDiff,Nat.reduceLT,Nat.reduceAdd,Nat.reduceLeDiff,reduceCtorEq,goInt,pairs,isConst,TI.isAgg,splice,boxS,Edp,dpv,Nat.beq_eq,ZV.val,List.any_cons,List.any_nil,Bool.false_and,gc2,res_cellc,resC_some]
   have hh := hbad 2 129 0 rfl (σ2.set c (.cells (cfgC [0,0,0,0,0,0,0,0,0,0,0,0,0]) true 0)) 1 (sent 2) [0,0,0,0,0,0,0,0,0,0,0,0,0] 0 ((k1.trans k2).setD hc) (by omega) (ErN.new _ _ ⟨by omega,by omega⟩) rfl
   rw [z13] at hh
   exact downS_here hh
end
section
variable {σ : AHeap} {Q : Value → AHeap → Prop} {s : ByteArray}
def zero13 : List Int := [0,0,0,0,0,0,0,0,0,0,0,0,0]
theorem z13 : cfgC zero13 = [.int .i64 0,.int .i64 0,.int .i64 0,.int .i64 0,.int .i64 0,.int .i64 0,.int .i64 0,.int .i64 0,.int .i64 0,.int .i64 0,.int .i64 0,.int .i64 0,.int .i64 0] := rfl
theorem zeCfg' : azero E 23 = some [.int .i64 0,.int .i64 0,.int .i64 0,.int .i64 0,.int .i64 0,.int .i64 0,.int .i64 0,.int .i64 0,.int .i64 0,.int .i64 0,.int .i64 0,.int .i64 0,.int .i64 0] := rfl
theorem evsR_len : ∀ {n p : Nat} {acc l : List Ev} {q : Nat},evsR s n p acc = .ok (l,q) → l.length = acc.length + n
 | 0,p,acc,l,q,h => by
  simp only [evsR,Except.ok.injEq,Prod.mk.injEq] at h
  rw [h.1]; rfl
 | n + 1,p,acc,l,q,h => by
  simp only [evsR] at h
  cases he : evR s p with
  | error e => rw [he] at h; cases h
  | ok a =>
   obtain ⟨e,q'⟩ := a
   rw [he] at h
   have := evsR_len h
   rw [List.length_append] at this
   simp only [List.length_cons,List.length_nil] at this
   omega
theorem specSTake (hs : s.size ≤ 100000000)
  (hok : ∀ c l,takeR s = .ok (c,l) → c.length = 13 → l.length ≤ 16384 → ∀ v,DL evC 4 v l → Q (.tuple #[.agg ⟨cfgC c⟩,v,.nilIface]) σ)
  (hbad : ∀ k rr a : Nat,takeR s = .error (k,rr,a) → ∀ d z,d ≤ 2 → ErN d (fv rr a z) k → Q (.tuple #[.agg ⟨cfgC zero13⟩,.slice none 0 0,fv rr a z]) σ) :
  CallS E B 7 [.string s] σ Q := by
 unfold takeR at hok hbad
 refine call7 (by simp) ?_
 simp only [strip,bodyOf,Tryd.f7,getD_body,keepN,bareOp_mk,lessOp_mk,lapp_cons,lapp_nil,List.map_cons,List.map_nil,array_toList,↓reduceIte,Nat.reduceEqDiff,Bool.false_eq_true]
 simp (disch := first | assumption | simp) only [↓sbD,sbU,tyB,Nat.reduceMul,Nat.reduceSub,Int.reduceEq,Int.reduceLT,Int.reduceLE,Int.reduceNe,Nat.reduceBneDiff,Nat.reduceBEq,decide_false,gt_iff_lt,Bool.or_self,Bool.false_eq_true,Nat.mul_one,Nat.one_mul,Nat.zero_mul,↓reduceIte,Nat.reduceEqDiff,Nat.reduceLT,Nat.reduceAdd,Nat.reduceLeDiff,reduceCtorEq,goInt,pairs,isConst,TI.isAgg,splice,boxS,Edp,dpv,Nat.beq_eq,ZV.val,List.any_cons,List.any_nil,Bool.false_and,AS_new,zeCfg']
 intro c hc
 generalize hσ1 : AHeap.set σ c _ = σ1
 have k1 : Kept σ [] σ1 [] := by rw [← hσ1]; exact (Kept.refl σ []).setD hc
 have gc1 : σ1.get c = .cells [.int .i64 0,.int .i64 0,.int .i64 0,.int .i64 0,.int .i64 0,.int .i64 0,.int .i64 0,.int .i64 0,.int .i64 0,.int .i64 0,.int .i64 0,.int .i64 0,.int .i64 0] true 0 := by rw [← hσ1]; exact AHeap.get_set_same _ _ _
 clear hσ1
 refine specRNew fun r σ2 hr k2 i2 => ?_
 have hcr : c ≠ r := by rintro rfl; rw [gc1] at hr; cases hr
 have gc2 := (k2.at gc1 (by simp) (by simp)).1
 have kk : ∀ {σ3 : AHeap} {o : AObj},Kept σ2 [r] σ3 [r] → Le σ (AHeap.set σ3 c o) := fun {σ3 o} k3 => Kept.le (((k1.trans (k2.trans k3)).wid (gp := []) (gp' := []) (fun _ h => by cases h) (fun _ h => by cases h)).setD hc)
 simp (disch := first | assumption | simp) only [↓sbD,sbU,tyB,Nat.reduceMul,Nat.reduceSub,Int.reduceEq,Int.reduceLT,Int.reduceLE,Int.reduceNe,Nat.reduceBneDiff,Nat.reduceBEq,decide_false,gt_iff_lt,Bool.or_self,Bool.false_eq_true,Nat.mul_one,Nat.one_mul,Nat.zero_mul,↓reduceIte,Nat.reduceEqDiff,Nat.reduceLT,Nat.reduceAdd,Nat.reduceLeDiff,reduceCtorEq,goInt,pairs,isConst,TI.isAgg,splice,boxS,Edp,dpv,Nat.beq_eq,ZV.val,List.any_cons,List.any_nil,Bool.false_and]
 refine specSHead i2 hs (fun cf n q hh hcz hn σ3 k3 i3 hq => ?_) fun k rr a hh σ3 d z cf m k3 hd her hcz => ?_
 rotate_left
 ·rw [hh] at hbad
  obtain ⟨x0,x1,x2,x3,x4,x5,x6,x7,x8,x9,x10,x11,x12,hce⟩ := len13 hcz
  have hcl : cfgC cf = [.int .i64 x0,.int .i64 x1,.int .i64 x2,.int .i64 x3,.int .i64 x4,.int .i64 x5,.int .i64 x6,.int .i64 x7,.int .i64 x8,.int .i64 x9,.int .i64 x10,.int .i64 x11,.int .i64 x12] := by rw [hce]; rfl
  have gc3 := (k3.at gc2 (by simp) (by simpa using hcr)).1
  simp (disch := first | assumption | simp) only [↓sbD,sbU,tyB,Nat.reduceMul,Nat.reduceSub,Int.reduceEq,Int.reduceLT,Int.reduceLE,Int.reduceNe,Nat.reduceBneDiff,Nat.reduceBEq,decide_false,gt_iff_lt,Bool.or_self,Bool.false_eq_true,Nat.mul_one,Nat.one_mul,Nat.zero_mul,↓reduceIte,Nat.reduceEqDiff,Nat.reduceLT,Nat.reduceAdd,Nat.reduceLeDiff,reduceCtorEq,goInt,pairs,isConst,TI.isAgg,splice,boxS,Edp,dpv,Nat.beq_eq,ZV.val,List.any_cons,List.any_nil,Bool.false_and,AS_new,zeCfg',hcl]
  intro b hb
  have hbc : b ≠ c := by rintro rfl; rw [gc3] at hb; cases hb
  have bc : ∀ (τ : AHeap) o,(AHeap.set τ b o).get c = τ.get c := fun τ o => AHeap.get_set_ne _ _ hbc
  simp (disch := first | assumption | simp) only [↓sbD,sbU,tyB,Nat.reduceMul,Nat.reduceSub,Int.reduceEq,Int.reduceLT,Int.reduceLE,Int.reduceNe,Nat.reduceBneDiff,Nat.reduceBEq,decide_false,gt_iff_lt,Bool.or_self,Bool.false_eq_true,Nat.mul_one,Nat.one_mul,Nat.zero_mul,↓reduceIte,Nat.reduceEqDiff,Nat.reduceLT,Nat.reduceAdd,Nat.reduceLeDiff,reduceCtorEq,goInt,pairs,isConst,TI.isAgg,splice,boxS,Edp,dpv,Nat.beq_eq,ZV.val,List.any_cons,List.any_nil,Bool.false_and,gc3,bc,res_cellc,resC_some]
  have hx := hbad k rr a rfl d z hd her
  exact downS_le (Le.trans (kk k3) (Le.set (Le.new' (Le.new hb) hb))) hx
 ·rw [hh] at hok hbad
  simp only at hok hbad
  obtain ⟨x0,x1,x2,x3,x4,x5,x6,x7,x8,x9,x10,x11,x12,hce⟩ := len13 hcz
  have hcl : cfgC cf = [.int .i64 x0,.int .i64 x1,.int .i64 x2,.int .i64 x3,.int .i64 x4,.int .i64 x5,.int .i64 x6,.int .i64 x7,.int .i64 x8,.int .i64 x9,.int .i64 x10,.int .i64 x11,.int .i64 x12] := by rw [hce]; rfl
  have gc3 := (k3.at gc2 (by simp) (by simpa using hcr)).1
  simp (disch := first | assumption | simp) only [↓sbD,sbU,tyB,Nat.reduceMul,Nat.reduceSub,Int.reduceEq,Int.reduceLT,Int.reduceLE,Int.reduceNe,Nat.reduceBneDiff,Nat.reduceBEq,decide_false,gt_iff_lt,Bool.or_self,Bool.false_eq_true,Nat.mul_one,Nat.one_mul,Nat.zero_mul,↓reduceIte,Nat.reduceEqDiff,Nat.reduceLT,Nat.reduceAdd,Nat.reduceLeDiff,reduceCtorEq,goInt,pairs,isConst,TI.isAgg,splice,boxS,Edp,dpv,Nat.beq_eq,ZV.val,List.any_cons,List.any_nil,Bool.false_and,AS_new,zeCfg',hcl]
  intro b hb
  have hbc : b ≠ c := by rintro rfl; rw [gc3] at hb; cases hb
  have hbr : b ≠ r := by rintro rfl; rw [i3] at hb; cases hb
  have bc : ∀ (τ : AHeap) o,(AHeap.set τ b o).get c = τ.get c := fun τ o => AHeap.get_set_ne _ _ hbc
  generalize hσ4 : AHeap.set (AHeap.set σ3 b _) b _ = σ4
  have g4 : σ4.get b = .cells [.int .i64 x0,.int .i64 x1,.int .i64 x2,.int .i64 x3,.int .i64 x4,.int .i64 x5,.int .i64 x6,.int .i64 x7,.int .i64 x8,.int .i64 x9,.int .i64 x10,.int .i64 x11,.int .i64 x12] true 0 := by rw [← hσ4]; exact AHeap.get_set_same _ _ _
  have gc4 : σ4.get c = .cells [.int .i64 0,.int .i64 0,.int .i64 0,.int .i64 0,.int .i64 0,.int .i64 0,.int .i64 0,.int .i64 0,.int .i64 0,.int .i64 0,.int .i64 0,.int .i64 0,.int .i64 0] true 0 := by rw [← hσ4,bc,bc]; exact gc3
  have i4 : IsR σ4 r s q .nilIface := by rw [← hσ4]; unfold IsR; rw [AHeap.get_set_ne _ _ hbr,AHeap.get_set_ne _ _ hbr]; exact i3
  have k4 : Kept σ3 [] σ4 [] := by rw [← hσ4]; exact Kept.tmp hb
  clear hσ4
  have k34 : Kept σ2 [r] σ4 [r] := k3.trans (k4.wid (gp := [r]) (gp' := [r]) (fun _ h => by cases h) (fun _ h => .inr h))
  refine specSEvents hn i4 hq hs (fun l q2 he hqe v σ5 hv k5 => ?_) (fun l q2 he hqe v σ5 hv k5 => ?_) fun k rr a he σ5 d z k5 hd her => ?_
  ·rw [he] at hok
   simp only at hok
   rw [if_neg (by omega)] at hok
   have g5 := (k5.at g4 (by simp) (by simpa using hbr)).1
   have gc5 := (k5.at gc4 (by simp) (by simpa using hcr)).1
   simp (disch := first | assumption | simp) only [↓sbD,sbU,tyB,Nat.reduceMul,Nat.reduceSub,Int.reduceEq,Int.reduceLT,Int.reduceLE,Int.reduceNe,Nat.reduceBneDiff,Nat.reduceBEq,decide_false,gt_iff_lt,Bool.or_self,Bool.false_eq_true,Nat.mul_one,Nat.one_mul,Nat.zero_mul,↓reduceIte,Nat.reduceEqDiff,Nat.reduceLT,Nat.reduceAdd,Nat.reduceLeDiff,reduceCtorEq,goInt,pairs,isConst,TI.isAgg,splice,boxS,Edp,dpv,Nat.beq_eq,ZV.val,List.any_cons,List.any_nil,Bool.false_and,g5,gc5,res_cellc,resC_some]
   have hlz : l.length ≤ 16384 := by have := evsR_len he; simp only [List.length_nil] at this; omega
   have hx := hok cf l rfl hcz hlz v hv
   rw [hcl] at hx
   exact downS_le (kk (k34.trans k5)) hx
  ·rw [he] at hbad
   simp only at hbad
   rw [if_pos hqe] at hbad
   have gc5 := (k5.at gc4 (by simp) (by simpa using hcr)).1
   simp (disch := first | assumption | simp) only [↓sbD,sbU,tyB,Nat.reduceMul,Nat.reduceSub,Int.reduceEq,Int.reduceLT,Int.reduceLE,Int.reduceNe,Nat.reduceBneDiff,Nat.reduceBEq,decide_false,gt_iff_lt,Bool.or_self,Bool.false_eq_true,Nat.mul_one,Nat.one_mul,Nat.zero_mul,↓reduceIte,Nat.reduceEqDiff,Nat.reduceLT,Nat.reduceAdd,Nat.reduceLeDiff,reduceCtorEq,goInt,pairs,isConst,TI.isAgg,splice,boxS,Edp,dpv,Nat.beq_eq,ZV.val,List.any_cons,List.any_nil,Bool.false_and,gc5,res_cellc,resC_some]
   have hx := hbad 2 129 q2 rfl 1 (sent 2) (by omega) (ErN.new _ _ ⟨by omega,by omega⟩)
   exact downS_le (kk (k34.trans k5)) hx
  ·rw [he] at hbad
   simp only at hbad
   have gc5 := (k5.at gc4 (by simp) (by simpa using hcr)).1
   simp (disch := first | assumption | simp) only [↓sbD,sbU,tyB,Nat.reduceMul,Nat.reduceSub,Int.reduceEq,Int.reduceLT,Int.reduceLE,Int.reduceNe,Nat.reduceBneDiff,Nat.reduceBEq,decide_false,gt_iff_lt,Bool.or_self,Bool.false_eq_true,Nat.mul_one,Nat.one_mul,Nat.zero_mul,↓reduceIte,Nat.reduceEqDiff,Nat.reduceLT,Nat.reduceAdd,Nat.reduceLeDiff,reduceCtorEq,goInt,pairs,isConst,TI.isAgg,splice,boxS,Edp,dpv,Nat.beq_eq,ZV.val,List.any_cons,List.any_nil,Bool.false_and,gc5,res_cellc,resC_some]
   exact downS_le (kk (k34.trans k5)) (hbad k rr a rfl d z hd her)
end
end Go.Proofs.YtdiekikcnfjlnaaDoor.AbsA
namespace Go.Proofs.YtdiekikcnfjlnaaDoor.AbsA
open Go AbsYtdiekikcnfjlnaaDoor Abs
set_option maxRecDepth 100000
set_option maxHeartbeats 4000000
set_option linter.unusedSimpArgs false
set_option linter.unusedVariables false
def n4 : List Int → ByteArray
 | [] => emp
 | x :: l => numB x.toNat 4 ++ n4 l
def ev1 (e : Ev) : ByteArray := numB e.k.toNat 1 ++ (numB e.c.toNat 1 ++ (numB e.n.toNat 4 ++ (numB e.b.size 2 ++ e.b)))
def evsB : List Ev → ByteArray
 | [] => emp
 | x :: l => ev1 x ++ evsB l
def okI (x : Int) : Prop := 0 ≤ x ∧ x < 4294967296
def okE (e : Ev) : Prop := (1 ≤ e.k ∧ e.k ≤ 7) ∧ (0 ≤ e.c ∧ e.c < 256) ∧ okI e.n ∧ e.b.size ≤ 65535
def putOk (c : List Int) (l : List Ev) : Prop := cfgBad 0 c bndL = none ∧ l.length ≤ 16384 ∧ ∀ e ∈ l,okE e
def putB (c : List Int) (l : List Ev) : ByteArray := nameB ++ n4 c ++ numB l.length 2 ++ evsB l
theorem emp_appS (a : ByteArray) : emp ++ a = a := by apply ByteArray.ext; simp [emp,ByteArray.data_append]
theorem n4_app (l : List Int) (x : Int) : n4 (l ++ [x]) = n4 l ++ numB x.toNat 4 := by
 induction l with
 | nil => show numB x.toNat 4 ++ emp = emp ++ _; rw [emp_appS,app_emp']
 | cons y l ih => show numB y.toNat 4 ++ n4 (l ++ [x]) = _ ++ _; rw [ih]; show _ = (numB y.toNat 4 ++ n4 l) ++ _; rw [app_assoc]
theorem evsB_app (l : List Ev) (x : Ev) : evsB (l ++ [x]) = evsB l ++ ev1 x := by
 induction l with
 | nil => show ev1 x ++ emp = emp ++ _; rw [emp_appS,app_emp']
 | cons y l ih => show ev1 y ++ evsB (l ++ [x]) = _ ++ _; rw [ih]; show _ = (ev1 y ++ evsB l) ++ _; rw [app_assoc]
theorem n4_size (l : List Int) : (n4 l).size = 4 * l.length := by
 induction l with
 | nil => rfl
 | cons x l ih => show (numB x.toNat 4 ++ n4 l).size = _; rw [ByteArray.size_append,ih,numB_k (by simp),List.length_cons]; omega
theorem ev1_size (e : Ev) : (ev1 e).size = 8 + e.b.size := by
 simp only [ev1,ByteArray.size_append,numB_k (k := 1) (by simp),numB_k (k := 2) (by simp),numB_k (k := 4) (by simp)]; omega
def tot : List Ev → Nat
 | [] => 0
 | e :: l => 8 + e.b.size + tot l
theorem evsB_size (l : List Ev) : (evsB l).size = tot l := by
 induction l with
 | nil => rfl
 | cons x l ih => show (ev1 x ++ evsB l).size = _; rw [ByteArray.size_append,ih,ev1_size]; rfl
theorem cfg_ok : ∀ {l : List Int} {m : List (Int × Int)} {k : Nat},l.length = m.length → cfgBad k l m = none → ∀ i (h : i < l.length) (h' : i < m.length),(m[i]).1 ≤ l[i] ∧ l[i] ≤ (m[i]).2
 | [],_,_,_,_,i,h,_ => by simp at h
 | x :: l,[],_,hl,_,_,_,_ => by simp at hl
 | x :: l,y :: m,k,hl,hb,i,h,h' => by
  unfold cfgBad at hb
  split at hb
  ·cases hb
  ·rename_i hx
   cases i with
   | zero => simp only [List.getElem_cons_zero]; omega
   | succ i => simp only [List.getElem_cons_succ]; exact cfg_ok (by simpa using hl) hb i (by simpa using h) (by simpa using h')
theorem cfg_I {c : List Int} (hc : c.length = 13) (hb : cfgBad 0 c bndL = none) : ∀ x ∈ c,okI x := by
 intro x hx
 obtain ⟨i,hi,rfl⟩ := List.getElem_of_mem hx
 have hi' : i < bndL.length := by rw [hc] at hi; exact hi
 have h := cfg_ok (by rw [hc]; rfl) hb i hi hi'
 have hall : ∀ y ∈ bndL,0 ≤ y.1 ∧ y.2 < 4294967296 := by decide
 have hy := hall _ (List.getElem_mem hi')
 unfold okI; omega
theorem num_at (x y : ByteArray) {p n k : Nat} (hp : p = x.size) (hk : k = 1 ∨ k = 2 ∨ k = 4) (hn : n < 2 ^ (8 * k)) : numR (x ++ (numB n k ++ y)) p k = .ok (n,(x ++ numB n k).size) := by
 subst hp
 rw [← app_assoc,num_mid x y hk hn,ByteArray.size_append,numB_k hk]
theorem nums_mid (l : List Int) (h : ∀ x ∈ l,okI x) : ∀ (x y : ByteArray) (acc : List Nat),numsR (x ++ (n4 l ++ y)) x.size l.length acc = .ok (acc ++ l.map Int.toNat,(x ++ n4 l).size) := by
 induction l with
 | nil => intro x y acc; show Except.ok (acc,x.size) = .ok (acc ++ [],(x ++ emp).size); rw [app_emp',List.append_nil]
 | cons a l ih =>
  intro x y acc
  have ha : okI a := h a (by simp)
  have e : x ++ (n4 (a :: l) ++ y) = x ++ (numB a.toNat 4 ++ (n4 l ++ y)) := by show x ++ ((numB a.toNat 4 ++ n4 l) ++ y) = _; rw [app_assoc]
  rw [List.length_cons]
  unfold numsR
  rw [e,num_at x _ rfl (by simp) (by have := ha.1; have := ha.2; show a.toNat < 4294967296; omega)]
  simp only
  rw [← app_assoc]
  rw [ih (fun b hb => h b (by simp [hb])) (x ++ numB a.toNat 4) y (acc ++ [a.toNat])]
  rw [List.append_assoc,List.map_cons,app_assoc]
  rfl
theorem cast_toNat {l : List Int} (h : ∀ x ∈ l,okI x) : castL (l.map Int.toNat) = l := by
 induction l with
 | nil => rfl
 | cons a l ih =>
  show ((a.toNat : Nat) : Int) :: castL (l.map Int.toNat) = _
  rw [ih fun b hb => h b (by simp [hb]),Int.toNat_of_nonneg (h a (by simp)).1]
theorem ev_mid (e : Ev) (h : okE e) (x y : ByteArray) : evR (x ++ (ev1 e ++ y)) x.size = .ok (e,(x ++ ev1 e).size) := by
 obtain ⟨⟨k1,k2⟩,⟨c1,c2⟩,⟨n1,n2⟩,hb⟩ := h
 have e1 : x ++ (ev1 e ++ y) = x ++ (numB e.k.toNat 1 ++ (numB e.c.toNat 1 ++ (numB e.n.toNat 4 ++ (numB e.b.size 2 ++ e.b) ++ y))) := by
  unfold ev1; simp only [app_assoc]
 have e2 : x ++ (ev1 e ++ y) = (x ++ numB e.k.toNat 1) ++ (numB e.c.toNat 1 ++ (numB e.n.toNat 4 ++ (numB e.b.size 2 ++ e.b) ++ y)) := by
  unfold ev1; simp only [app_assoc]
 have e3 : x ++ (ev1 e ++ y) = ((x ++ numB e.k.toNat 1) ++ numB e.c.toNat 1) ++ (numB e.n.toNat 4 ++ ((numB e.b.size 2 ++ e.b) ++ y)) := by
  unfold ev1; simp only [app_assoc]
 have e4 : x ++ (ev1 e ++ y) = (((x ++ numB e.k.toNat 1) ++ numB e.c.toNat 1) ++ numB e.n.toNat 4) ++ (numB e.b.size 2 ++ e.b) ++ y := by
  unfold ev1; simp only [app_assoc]
 unfold evR
 have h1 := num_at x (numB e.c.toNat 1 ++ (numB e.n.toNat 4 ++ (numB e.b.size 2 ++ e.b) ++ y)) (n := e.k.toNat) (k := 1) rfl (by simp) (by show e.k.toNat < 256; omega)
 rw [← e1] at h1
 rw [h1]
 simp only
 have h2 := num_at (x ++ numB e.k.toNat 1) (numB e.n.toNat 4 ++ (numB e.b.size 2 ++ e.b) ++ y) (n := e.c.toNat) (k := 1) rfl (by simp) (by show e.c.toNat < 256; omega)
 rw [← e2] at h2
 rw [h2]
 simp only
 have h3 := num_at ((x ++ numB e.k.toNat 1) ++ numB e.c.toNat 1) ((numB e.b.size 2 ++ e.b) ++ y) (n := e.n.toNat) (k := 4) rfl (by simp) (by show e.n.toNat < 4294967296; omega)
 rw [← e3] at h3
 rw [h3]
 simp only
 have h4 := bin_mid (((x ++ numB e.k.toNat 1) ++ numB e.c.toNat 1) ++ numB e.n.toNat 4) e.b y hb
 rw [← e4] at h4
 rw [h4]
 simp only
 rw [if_pos (by omega)]
 have z1 : ((e.k.toNat : Nat) : Int) = e.k := by omega
 have z2 : ((e.c.toNat : Nat) : Int) = e.c := by omega
 have z3 : ((e.n.toNat : Nat) : Int) = e.n := by omega
 rw [z1,z2,z3]
 have z4 : (((x ++ numB e.k.toNat 1) ++ numB e.c.toNat 1) ++ numB e.n.toNat 4).size + (numB e.b.size 2 ++ e.b).size = (x ++ ev1 e).size := by
  rw [← ByteArray.size_append]; unfold ev1; simp only [app_assoc]
 rw [z4]
theorem evs_mid (l : List Ev) (h : ∀ e ∈ l,okE e) : ∀ (x y : ByteArray) (acc : List Ev),evsR (x ++ (evsB l ++ y)) l.length x.size acc = .ok (acc ++ l,(x ++ evsB l).size) := by
 induction l with
 | nil => intro x y acc; show Except.ok (acc,x.size) = .ok (acc ++ [],(x ++ emp).size); rw [app_emp',List.append_nil]
 | cons a l ih =>
  intro x y acc
  have e : x ++ (evsB (a :: l) ++ y) = x ++ (ev1 a ++ (evsB l ++ y)) := by show x ++ ((ev1 a ++ evsB l) ++ y) = _; rw [app_assoc]
  rw [List.length_cons]
  unfold evsR
  rw [e,ev_mid a (h a (by simp))]
  simp only
  rw [← app_assoc]
  rw [ih (fun b hb => h b (by simp [hb])) (x ++ ev1 a) y (acc ++ [a])]
  rw [List.append_assoc,app_assoc]
  rfl
theorem put_take {c : List Int} {l : List Ev} (hc : c.length = 13) (h : putOk c l) : takeR (putB c l) = .ok (c,l) := by
 obtain ⟨h1,h2,h3⟩ := h
 have hI := cfg_I hc h1
 have hn5 : nameB.size = 5 := rfl
 have e1 : putB c l = emp ++ nameB ++ (n4 c ++ numB l.length 2 ++ evsB l) := by unfold putB; rw [emp_appS]; simp only [app_assoc]
 have r1 : rawR (putB c l) 0 5 = .ok (nameB,5) := by
  have := raw_mid emp nameB (n4 c ++ numB l.length 2 ++ evsB l)
  rw [← e1] at this; exact this
 have e2 : putB c l = nameB ++ (n4 c ++ (numB l.length 2 ++ evsB l)) := by unfold putB; simp only [app_assoc]
 have r2 : numsR (putB c l) 5 13 [] = .ok (c.map Int.toNat,(nameB ++ n4 c).size) := by
  have := nums_mid c hI nameB (numB l.length 2 ++ evsB l) []
  rw [← e2,hc] at this; exact this
 have e3 : putB c l = (nameB ++ n4 c) ++ (numB l.length 2 ++ evsB l) := by unfold putB; simp only [app_assoc]
 have r3 : numR (putB c l) (nameB ++ n4 c).size 2 = .ok (l.length,(nameB ++ n4 c ++ numB l.length 2).size) := by
  rw [e3]; exact num_at _ _ rfl (by simp) (by show l.length < 65536; omega)
 have e4 : putB c l = (nameB ++ n4 c ++ numB l.length 2) ++ (evsB l ++ emp) := by unfold putB; rw [app_emp']
 have r4 : evsR (putB c l) l.length (nameB ++ n4 c ++ numB l.length 2).size [] = .ok (l,(putB c l).size) := by
  have := evs_mid l h3 (nameB ++ n4 c ++ numB l.length 2) emp []
  rw [← e4] at this; rw [this]; rfl
 unfold takeR headR
 rw [r1]
 simp only [if_true]
 unfold cfgR
 rw [r2]
 simp only
 rw [cast_toNat hI,h1]
 simp only
 rw [r3]
 simp only
 rw [if_neg (by omega)]
 simp only
 rw [r4]
 simp only
 rw [if_neg (Nat.lt_irrefl _)]
theorem ext_join {s : ByteArray} {p q : Nat} (h : p ≤ q) : s.extract 0 q = s.extract 0 p ++ s.extract p q := ByteArray.extract_eq_extract_append_extract p (by omega) h
theorem beF_inv (v : ByteArray) {k : Nat} (hk : k = 1 ∨ k = 2 ∨ k = 4) (hv : v.size = k) : numB (beF v v.size) k = v := by
 have b0 := bt_lt v 0; have b1 := bt_lt v 1; have b2 := bt_lt v 2; have b3 := bt_lt v 3
 rw [hv]
 have hd : ∀ l : List Nat,(∀ n ∈ l,n < 256) → l.length = k → (∀ j (h : j < l.length),l[j] = bt v j) → str l = v := fun l hl hlk hj => by
  apply ba_ext (by rw [str_size,hlk,hv])
  intro j hjs
  rw [str_size] at hjs
  rw [bt_strL hjs (hl _ (List.getElem_mem hjs)),hj j hjs]
 rcases hk with rfl | rfl | rfl
 ·refine hd [beF v 1 % 256] (by intro n hn; simp only [List.mem_singleton] at hn; omega) rfl fun j hj => ?_
  have : j = 0 := by simpa using hj
  subst this
  show (0 * 256 + bt v 0) % 256 = bt v 0
  omega
 ·refine hd [beF v 2 / 256 % 256,beF v 2 % 256] (by intro n hn; simp only [List.mem_cons,List.not_mem_nil,or_false] at hn; omega) rfl fun j hj => ?_
  have e : beF v 2 = (0 * 256 + bt v 0) * 256 + bt v 1 := rfl
  have : j = 0 ∨ j = 1 := by simp only [List.length_cons,List.length_nil] at hj; omega
  rcases this with rfl | rfl
  ·show beF v 2 / 256 % 256 = bt v 0; omega
  ·show beF v 2 % 256 = bt v 1; omega
 ·refine hd [beF v 4 / 16777216 % 256,beF v 4 / 65536 % 256,beF v 4 / 256 % 256,beF v 4 % 256] (by intro n hn; simp only [List.mem_cons,List.not_mem_nil,or_false] at hn; omega) rfl fun j hj => ?_
  have e : beF v 4 = (((0 * 256 + bt v 0) * 256 + bt v 1) * 256 + bt v 2) * 256 + bt v 3 := rfl
  have : j = 0 ∨ j = 1 ∨ j = 2 ∨ j = 3 := by simp only [List.length_cons,List.length_nil] at hj; omega
  rcases this with rfl | rfl | rfl | rfl
  ·show beF v 4 / 16777216 % 256 = bt v 0; omega
  ·show beF v 4 / 65536 % 256 = bt v 1; omega
  ·show beF v 4 / 256 % 256 = bt v 2; omega
  ·show beF v 4 % 256 = bt v 3; omega
theorem num_inv {s : ByteArray} {p k n q : Nat} (hk : k = 1 ∨ k = 2 ∨ k = 4) (h : numR s p k = .ok (n,q)) : p ≤ q ∧ q ≤ s.size ∧ s.extract 0 q = s.extract 0 p ++ numB n k ∧ n < 2 ^ (8 * k) := by
 unfold numR at h
 cases hr : rawR s p (k : Int) with
 | error e => rw [hr] at h; cases h
 | ok a =>
  obtain ⟨v,q'⟩ := a
  rw [hr] at h
  simp only [Except.ok.injEq,Prod.mk.injEq] at h
  obtain ⟨rfl,rfl⟩ := h
  obtain ⟨h0,hv,hq,hs,hz⟩ := rawR_ok hr
  have hz : v.size = k := by simpa using hz
  refine ⟨by omega,hs,?_,?_⟩
  ·rw [beF_inv v hk hz,hv,ext_join (p := p) (by omega)]
  ·have := beF_lt v v.size
   rw [hz] at this ⊢
   have e : (256 : Nat) ^ k = 2 ^ (8 * k) := by rw [Nat.pow_mul]
   omega
theorem nums_inv {s : ByteArray} : ∀ {m p : Nat} {acc l : List Nat} {q : Nat},p ≤ s.size → numsR s p m acc = .ok (l,q) → ∃ l',l = acc ++ l' ∧ q ≤ s.size ∧ s.extract 0 q = s.extract 0 p ++ n4 (castL l')
 | 0,p,acc,l,q,hp,h => by
  simp only [numsR,Except.ok.injEq,Prod.mk.injEq] at h
  obtain ⟨rfl,rfl⟩ := h
  exact ⟨[],(List.append_nil _).symm,hp,(app_emp' _).symm⟩
 | m + 1,p,acc,l,q,hp,h => by
  unfold numsR at h
  cases hn : numR s p 4 with
  | error e => rw [hn] at h; cases h
  | ok a =>
   obtain ⟨n,q'⟩ := a
   rw [hn] at h
   obtain ⟨h1,h2,h3,h4⟩ := num_inv (by simp) hn
   obtain ⟨l',rfl,h5,h6⟩ := nums_inv h2 h
   refine ⟨n :: l',by simp,h5,?_⟩
   rw [h6,h3,app_assoc]
   rfl
theorem raw_inv {s v : ByteArray} {p q : Nat} {n : Int} (h : rawR s p n = .ok (v,q)) : p ≤ q ∧ q ≤ s.size ∧ v.size = n.toNat ∧ s.extract 0 q = s.extract 0 p ++ v := by
 obtain ⟨h0,hv,hq,hs,hz⟩ := rawR_ok h
 exact ⟨by omega,hs,hz,by rw [hv,ext_join (p := p) (by omega)]⟩
theorem ev_inv {s : ByteArray} {p q : Nat} {e : Ev} (h : evR s p = .ok (e,q)) : q ≤ s.size ∧ okE e ∧ s.extract 0 q = s.extract 0 p ++ ev1 e := by
 unfold evR at h
 cases h1 : numR s p 1 with
 | error e => rw [h1] at h; cases h
 | ok a =>
 obtain ⟨kd,q1⟩ := a
 rw [h1] at h
 simp only at h
 cases h2 : numR s q1 1 with
 | error e => rw [h2] at h; cases h
 | ok a =>
 obtain ⟨cn,q2⟩ := a
 rw [h2] at h
 simp only at h
 cases h3 : numR s q2 4 with
 | error e => rw [h3] at h; cases h
 | ok a =>
 obtain ⟨n,q3⟩ := a
 rw [h3] at h
 simp only at h
 cases h4 : binR s q3 with
 | error e => rw [h4] at h; cases h
 | ok a =>
 obtain ⟨b,q4⟩ := a
 rw [h4] at h
 simp only at h
 split at h
 rotate_left
 ·cases h
 rename_i hk
 simp only [Except.ok.injEq,Prod.mk.injEq] at h
 obtain ⟨rfl,rfl⟩ := h
 obtain ⟨_,_,x1,y1⟩ := num_inv (by simp) h1
 obtain ⟨_,_,x2,y2⟩ := num_inv (by simp) h2
 obtain ⟨_,_,x3,y3⟩ := num_inv (by simp) h3
 unfold binR at h4
 cases h5 : numR s q3 2 with
 | error e => rw [h5] at h4; cases h4
 | ok a =>
 obtain ⟨m,q5⟩ := a
 rw [h5] at h4
 simp only at h4
 obtain ⟨_,_,x5,y5⟩ := num_inv (by simp) h5
 obtain ⟨_,hq,hz,x4⟩ := raw_inv h4
 have hz : b.size = m := by simpa using hz
 have y1 : kd < 256 := y1
 have y2 : cn < 256 := y2
 have y3 : n < 4294967296 := y3
 have y5 : m < 65536 := y5
 refine ⟨hq,⟨⟨by show (1 : Int) ≤ (kd : Int); omega,by show (kd : Int) ≤ 7; omega⟩,⟨by show (0 : Int) ≤ (cn : Int); omega,by show (cn : Int) < 256; omega⟩,⟨by show (0 : Int) ≤ (n : Int); omega,by show (n : Int) < 4294967296; omega⟩,by show b.size ≤ 65535; omega⟩,?_⟩
 rw [x4,x5,x3,x2,x1]
 unfold ev1
 simp only [Int.toNat_natCast,hz,app_assoc]
theorem evs_inv {s : ByteArray} : ∀ {m p : Nat} {acc l : List Ev} {q : Nat},p ≤ s.size → evsR s m p acc = .ok (l,q) → ∃ l',l = acc ++ l' ∧ l'.length = m ∧ q ≤ s.size ∧ (∀ e ∈ l',okE e) ∧ s.extract 0 q = s.extract 0 p ++ evsB l'
 | 0,p,acc,l,q,hp,h => by
  simp only [evsR,Except.ok.injEq,Prod.mk.injEq] at h
  obtain ⟨rfl,rfl⟩ := h
  exact ⟨[],(List.append_nil _).symm,rfl,hp,fun e he => by simp at he,(app_emp' _).symm⟩
 | m + 1,p,acc,l,q,hp,h => by
  unfold evsR at h
  cases hn : evR s p with
  | error e => rw [hn] at h; cases h
  | ok a =>
   obtain ⟨e,q'⟩ := a
   rw [hn] at h
   obtain ⟨h2,h4,h3⟩ := ev_inv hn
   obtain ⟨l',rfl,h5,h6,h7,h8⟩ := evs_inv h2 h
   refine ⟨e :: l',by simp,by simp [h5],h6,fun x hx => ?_,?_⟩
   ·rcases List.mem_cons.1 hx with rfl | hx
    ·exact h4
    ·exact h7 x hx
   ·rw [h8,h3,app_assoc]
    rfl
theorem take_put {s : ByteArray} {c : List Int} {l : List Ev} (h : takeR s = .ok (c,l)) : putOk c l ∧ putB c l = s := by
 unfold takeR at h
 cases h0 : headR s with
 | error e => rw [h0] at h; cases h
 | ok a =>
 obtain ⟨c0,n,q⟩ := a
 rw [h0] at h
 simp only at h
 unfold headR at h0
 cases h1 : rawR s 0 5 with
 | error e => rw [h1] at h0; cases h0
 | ok a =>
 obtain ⟨v,q1⟩ := a
 rw [h1] at h0
 simp only at h0
 split at h0
 rotate_left
 ·cases h0
 rename_i hv
 subst hv
 cases h2 : cfgR s q1 with
 | error e => rw [h2] at h0; cases h0
 | ok a =>
 obtain ⟨c1,q2⟩ := a
 rw [h2] at h0
 simp only at h0
 cases h3 : numR s q2 2 with
 | error e => rw [h3] at h0; cases h0
 | ok a =>
 obtain ⟨n1,q3⟩ := a
 rw [h3] at h0
 simp only at h0
 split at h0
 ·cases h0
 rename_i hn
 simp only [Except.ok.injEq,Prod.mk.injEq] at h0
 obtain ⟨rfl,rfl,rfl⟩ := h0
 cases h4 : evsR s n1 q3 [] with
 | error e => rw [h4] at h; cases h
 | ok a =>
 obtain ⟨l1,q4⟩ := a
 rw [h4] at h
 simp only at h
 split at h
 ·cases h
 rename_i hq
 simp only [Except.ok.injEq,Prod.mk.injEq] at h
 obtain ⟨rfl,rfl⟩ := h
 unfold cfgR at h2
 cases h5 : numsR s q1 13 [] with
 | error e => rw [h5] at h2; cases h2
 | ok a =>
 obtain ⟨ns,q5⟩ := a
 rw [h5] at h2
 simp only at h2
 split at h2
 ·cases h2
 rename_i hb
 simp only [Except.ok.injEq,Prod.mk.injEq] at h2
 obtain ⟨rfl,rfl⟩ := h2
 obtain ⟨_,x1,_,z1⟩ := raw_inv h1
 obtain ⟨ns',rfl,x2,z2⟩ := nums_inv x1 h5
 obtain ⟨_,x3,z3,_⟩ := num_inv (by simp) h3
 obtain ⟨l',rfl,x4,x5,x6,z4⟩ := evs_inv x3 h4
 have hq4 : q4 = s.size := by omega
 refine ⟨⟨hb,by show l1.length ≤ 16384; omega,x6⟩,?_⟩
 have hs : s.extract 0 q4 = s := by rw [hq4]; simp
 have h00 : s.extract 0 0 = emp := by apply ByteArray.ext; simp [emp]
 rw [← hs,z4,z3,z2,z1,h00,emp_appS]
 unfold putB
 rw [x4]
end Go.Proofs.YtdiekikcnfjlnaaDoor.AbsA
