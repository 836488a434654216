/-
  Parts of a law's proof.
-/
import Derived.Test.YtkhcbbpfchgemaaGreatDoorAYrqcJ
import Derived.Test.YtkhcbbpfchgemaaGreatDoorAPrqcJ
namespace Go.Proofs.YtkhcbbpfchgemaaGreatDoor.AbsA
open Go AbsYtkhcbbpfchgemaaGreatDoor Abs
set_option maxRecDepth 100000
set_option maxHeartbeats 4000000
set_option linter.unusedSimpArgs false
set_option linter.unusedVariables false
attribute [local irreducible] afterS afterOpS opSK OpsS TrS CodeS condS condW thenS thenQ guardS guardTS outS drawS trSK consS
section
variable {σ : AHeap} {Q : Value → AHeap → Prop} {r p : Nat} {s : ByteArray}
theorem dpRd : dp 117 = false := rfl
theorem nd {τ : AHeap} {b x : Nat} {o : AObj} (hb : τ.get b = .dead) (hx : τ.get x = o) (ho : o ≠ .dead) : b ≠ x := by rintro rfl; rw [hx] at hb; exact ho hb
theorem specYRead {pl : Int} (hr : IsY σ r s p 0 0) (hp : p ≤ s.size) (hs : s.size ≤ 100000000)
  (hok : ∀ l q,ReadP pl s p (.ok (l,q)) → ∀ v σ',DL propC 4 v l → Kept σ [r] σ' [r] → IsY σ' r s q 0 0 → q ≤ s.size → Q (.tuple #[v,flt 0 0 0]) σ')
  (hbad : ∀ k rr a : Nat,ReadP pl s p (.error (k,rr,a)) → ∀ σ',Kept σ [r] σ' [r] → Q (.tuple #[.slice none 0 0,flt k rr a]) σ') :
  CallS E B 71 [.pointer (some ⟨r,0,none⟩),.int .i64 pl] σ Q := by
 unfold ReadP at hok hbad
 refine call71 (by simp) ?_
 simp only [strip,bodyOf,Tryz.f71,getD_body,keepN,bareOp_mk,lessOp_mk,lapp_cons,lapp_nil,List.map_cons,List.map_nil,array_toList,↓reduceIte,Nat.reduceEqDiff,Bool.false_eq_true]
 simp (disch := first | assumption | simp) only [↓sbD,sbU,tyB,Nat.reduceMul,Nat.reduceSub,Int.reduceEq,Int.reduceLT,Int.reduceLE,Int.reduceNe,Nat.reduceBneDiff,Nat.reduceBEq,decide_false,gt_iff_lt,Bool.or_self,Bool.false_eq_true,Nat.mul_one,Nat.one_mul,Nat.zero_mul,↓reduceIte,Nat.reduceEqDiff,Nat.reduceLT,Nat.reduceAdd,Nat.reduceLeDiff,reduceCtorEq,goInt,pairs,isConst,TI.isAgg,splice,boxS,Edp,dpv,Nat.beq_eq,ZV.val,List.any_cons,List.any_nil,Bool.false_and,AS_new,zeFlt]
 intro c hc
 have hcr : c ≠ r := nd hc hr (by simp)
 generalize hσ1 : AHeap.set σ c _ = σ1
 have k1 : Kept σ [r] σ1 [r] := by rw [← hσ1]; exact (Kept.refl σ [r]).setD hc
 have gc1 : σ1.get c = .cells [.int .i64 0,.int .i64 0,.int .i64 0] true 0 := by rw [← hσ1]; exact AHeap.get_set_same _ _ _
 have i1 : IsY σ1 r s p 0 0 := by rw [← hσ1]; unfold IsY; rw [AHeap.get_set_ne _ _ hcr]; exact hr
 clear hσ1
 refine specYVar i1 hp hs (fun n q hn σ2 k2 i2 => ?_) fun k q hn σ2 k2 i2 => ?_
 rotate_left
 ·rw [hn] at hbad
  have hk0 : ¬ (k : Int) = 0 := by have := varR_k hn; omega
  have gc2 := (k2.at gc1 (by simp) (by simpa using hcr)).1
  have i2' := i2
  unfold IsY at i2'
  simp (disch := first | assumption | simp) only [↓sbD,sbU,tyB,Nat.reduceMul,Nat.reduceSub,Int.reduceEq,Int.reduceLT,Int.reduceLE,Int.reduceNe,Nat.reduceBneDiff,Nat.reduceBEq,decide_false,gt_iff_lt,Bool.or_self,Bool.false_eq_true,Nat.mul_one,Nat.one_mul,Nat.zero_mul,↓reduceIte,Nat.reduceEqDiff,Nat.reduceLT,Nat.reduceAdd,Nat.reduceLeDiff,reduceCtorEq,goInt,pairs,isConst,TI.isAgg,splice,boxS,Edp,dpv,Nat.beq_eq,ZV.val,List.any_cons,List.any_nil,Bool.false_and]
  refine specYRawE i2 hk0 ?_
  simp (disch := first | assumption | simp) only [↓sbD,sbU,tyB,Nat.reduceMul,Nat.reduceSub,Int.reduceEq,Int.reduceLT,Int.reduceLE,Int.reduceNe,Nat.reduceBneDiff,Nat.reduceBEq,decide_false,gt_iff_lt,Bool.or_self,Bool.false_eq_true,Nat.mul_one,Nat.one_mul,Nat.zero_mul,↓reduceIte,Nat.reduceEqDiff,Nat.reduceLT,Nat.reduceAdd,Nat.reduceLeDiff,reduceCtorEq,goInt,pairs,isConst,TI.isAgg,splice,boxS,Edp,dpv,Nat.beq_eq,ZV.val,List.any_cons,List.any_nil,Bool.false_and,i2',hk0,gc2,res_cellc,resC_some]
  exact downS_here (hbad k 129 q rfl _ ((k1.trans k2).setD hc))
 have hv := varR_le hp hn
 rw [hn] at hok hbad
 simp only at hok hbad
 simp (disch := first | assumption | simp) only [↓sbD,sbU,tyB,Nat.reduceMul,Nat.reduceSub,Int.reduceEq,Int.reduceLT,Int.reduceLE,Int.reduceNe,Nat.reduceBneDiff,Nat.reduceBEq,decide_false,gt_iff_lt,Bool.or_self,Bool.false_eq_true,Nat.mul_one,Nat.one_mul,Nat.zero_mul,↓reduceIte,Nat.reduceEqDiff,Nat.reduceLT,Nat.reduceAdd,Nat.reduceLeDiff,reduceCtorEq,goInt,pairs,isConst,TI.isAgg,splice,boxS,Edp,dpv,Nat.beq_eq,ZV.val,List.any_cons,List.any_nil,Bool.false_and]
 refine specYRaw i2 hv.2.1 (by omega) (fun all q2 ha σ3 k3 i3 => ?_) fun k q2 ha σ3 k3 i3 => ?_
 rotate_left
 ·rw [ha] at hbad
  have hk0 : ¬ (k : Int) = 0 := by have := rawR_k ha; omega
  have gc3 := ((k2.trans k3).at gc1 (by simp) (by simpa using hcr)).1
  have i3' := i3
  unfold IsY at i3'
  simp (disch := first | assumption | simp) only [↓sbD,sbU,tyB,Nat.reduceMul,Nat.reduceSub,Int.reduceEq,Int.reduceLT,Int.reduceLE,Int.reduceNe,Nat.reduceBneDiff,Nat.reduceBEq,decide_false,gt_iff_lt,Bool.or_self,Bool.false_eq_true,Nat.mul_one,Nat.one_mul,Nat.zero_mul,↓reduceIte,Nat.reduceEqDiff,Nat.reduceLT,Nat.reduceAdd,Nat.reduceLeDiff,reduceCtorEq,goInt,pairs,isConst,TI.isAgg,splice,boxS,Edp,dpv,Nat.beq_eq,ZV.val,List.any_cons,List.any_nil,Bool.false_and,i3',hk0,gc3,res_cellc,resC_some]
  exact downS_here (hbad k 129 q2 rfl _ (((k1.trans k2).trans k3).setD hc))
 have hq2 := rawR_ok' (by omega) ha
 rw [Int.toNat_natCast] at hq2
 rw [ha] at hok hbad
 simp only at hok hbad
 have gc3 := ((k2.trans k3).at gc1 (by simp) (by simpa using hcr)).1
 have i3' := i3
 unfold IsY at i3'
 have hwf : IntKind.i64.wrap ((q2 : Int) - (all.size : Int)) = ((q2 - all.size : Nat) : Int) := by rw [wrap64 ⟨by omega,by omega⟩]; omega
 simp (disch := first | assumption | simp) only [↓sbD,sbU,tyB,Nat.reduceMul,Nat.reduceSub,Int.reduceEq,Int.reduceLT,Int.reduceLE,Int.reduceNe,Nat.reduceBneDiff,Nat.reduceBEq,decide_false,gt_iff_lt,Bool.or_self,Bool.false_eq_true,Nat.mul_one,Nat.one_mul,Nat.zero_mul,↓reduceIte,Nat.reduceEqDiff,Nat.reduceLT,Nat.reduceAdd,Nat.reduceLeDiff,reduceCtorEq,goInt,pairs,isConst,TI.isAgg,splice,boxS,Edp,dpv,Nat.beq_eq,ZV.val,List.any_cons,List.any_nil,Bool.false_and,i3',hwf,AS_new,dpRd]
 intro x hx
 have hxr : x ≠ r := nd hx i3 (by simp)
 have hxc : x ≠ c := nd hx gc3 (by simp)
 generalize hσ4 : AHeap.set σ3 x _ = σ4
 have k4 : Kept σ3 [] σ4 [x] := by rw [← hσ4]; exact Kept.new' hx
 have i4 : IsY σ4 x all 0 0 0 := by rw [← hσ4]; exact AHeap.get_set_same _ _ _
 clear hσ4
 have K3 := (k1.trans k2).trans k3
 refine S_loop (fun m f σ' => ∃ (p' : Nat) (l : List Pr) (v : Value) (fp : List Nat),m + p' = all.size ∧ p' ≤ all.size ∧ f 9 = v ∧ DG propC 4 σ' v l fp ∧ x ∉ fp ∧ l.length ≤ 64 ∧ IsY σ' x all p' 0 0 ∧ Kept σ3 [] σ' (x :: fp) ∧ ∀ R,AllP pl all p' l R → AllP pl all 0 [] R) all.size (Le.refl _) ⟨0,[],_,[],rfl,Nat.zero_le _,rfl,by simp (disch := first | assumption | simp) only [↓sbD,sbU,tyB,Nat.reduceMul,Nat.reduceSub,Int.reduceEq,Int.reduceLT,Int.reduceLE,Int.reduceNe,Nat.reduceBneDiff,Nat.reduceBEq,decide_false,gt_iff_lt,Bool.or_self,Bool.false_eq_true,Nat.mul_one,Nat.one_mul,Nat.zero_mul,↓reduceIte,Nat.reduceEqDiff,Nat.reduceLT,Nat.reduceAdd,Nat.reduceLeDiff,reduceCtorEq,goInt,pairs,isConst,TI.isAgg,splice,boxS,Edp,dpv,Nat.beq_eq,ZV.val,List.any_cons,List.any_nil,Bool.false_and]; exact DG.nil,by simp,by simp,i4,k4,fun R h => h⟩ ?_
 clear k4 i4
 rintro m f σ5 ⟨p',l,v,fp,hm,hp',f9,hg,hxf,hl64,ix,hk,hback⟩ hf
 have f0 := hf 0 (by decide) (notMem_wr (by kernel_rfl))
 have f1 := hf 1 (by decide) (notMem_wr (by kernel_rfl))
 have f5 := hf 5 (by decide) (notMem_wr (by kernel_rfl))
 have f6 := hf 6 (by decide) (notMem_wr (by kernel_rfl))
 have f7 := hf 7 (by decide) (notMem_wr (by kernel_rfl))
 have f8 := hf 8 (by decide) (notMem_wr (by kernel_rfl))
 simp (disch := first | assumption | simp) only [↓sbD,sbU,tyB,Nat.reduceMul,Nat.reduceSub,Int.reduceEq,Int.reduceLT,Int.reduceLE,Int.reduceNe,Nat.reduceBneDiff,Nat.reduceBEq,decide_false,gt_iff_lt,Bool.or_self,Bool.false_eq_true,Nat.mul_one,Nat.one_mul,Nat.zero_mul,↓reduceIte,Nat.reduceEqDiff,Nat.reduceLT,Nat.reduceAdd,Nat.reduceLeDiff,reduceCtorEq,goInt,pairs,isConst,TI.isAgg,splice,boxS,Edp,dpv,Nat.beq_eq,ZV.val,List.any_cons,List.any_nil,Bool.false_and] at f0 f1 f5 f6 f7 f8
 clear hf
 have ir := (hk.at i3 (by simp) (by simp)).1
 have gc5 := (hk.at gc3 (by simp) (by simp)).1
 have ix' := ix
 unfold IsY at ix'
 have fin : ∀ {τ : AHeap} {o : AObj},Kept σ5 [x] τ [x] → Kept σ [r] (τ.set c o) [r] := fun {τ o} kt => by
  have h1 : Kept σ3 [] σ5 [] := hk.wid (fun _ h => by cases h) (fun _ h => by cases h)
  have h2 : Kept σ3 [] τ [] := (hk.wid (gp := []) (gp' := x :: fp) (fun _ h => by cases h) (fun _ h => .inl h)).trans (kt.wid (gp := x :: fp) (gp' := []) (fun b hb => by simp at hb; simp [hb]) (fun _ h => by cases h))
  exact (K3.trans h2.fst).setD hc
 by_cases hlt : p' < all.size
 ·have h0 : (p' : Int) < (all.size : Int) := by omega
  simp (disch := first | assumption | simp) only [↓sbD,sbU,tyB,Nat.reduceMul,Nat.reduceSub,Int.reduceEq,Int.reduceLT,Int.reduceLE,Int.reduceNe,Nat.reduceBneDiff,Nat.reduceBEq,decide_false,gt_iff_lt,Bool.or_self,Bool.false_eq_true,Nat.mul_one,Nat.one_mul,Nat.zero_mul,↓reduceIte,Nat.reduceEqDiff,Nat.reduceLT,Nat.reduceAdd,Nat.reduceLeDiff,reduceCtorEq,goInt,pairs,isConst,TI.isAgg,splice,boxS,Edp,dpv,Nat.beq_eq,ZV.val,List.any_cons,List.any_nil,Bool.false_and,f6,f8,ix',h0]
  refine specYVar ix hp' (by omega) (fun id q3 hid σ6 k6 i6 => ?_) fun k q3 hid σ6 k6 i6 => ?_
  rotate_left
  ·have hk0 : ¬ (k : Int) = 0 := by have := varR_k hid; omega
   have hqe := varR_er hp' hid
   have i6' := i6
   unfold IsY at i6'
   have gc6 := (k6.at gc5 (by simp) (by simpa using hxc.symm)).1
   have hwa : IntKind.i64.wrap (((q2 - all.size : Nat) : Int) + (q3 : Int)) = ((q2 - all.size + q3 : Nat) : Int) := by rw [wrap64 ⟨by omega,by omega⟩]; omega
   simp (disch := first | assumption | simp) only [↓sbD,sbU,tyB,Nat.reduceMul,Nat.reduceSub,Int.reduceEq,Int.reduceLT,Int.reduceLE,Int.reduceNe,Nat.reduceBneDiff,Nat.reduceBEq,decide_false,gt_iff_lt,Bool.or_self,Bool.false_eq_true,Nat.mul_one,Nat.one_mul,Nat.zero_mul,↓reduceIte,Nat.reduceEqDiff,Nat.reduceLT,Nat.reduceAdd,Nat.reduceLeDiff,reduceCtorEq,goInt,pairs,isConst,TI.isAgg,splice,boxS,Edp,dpv,Nat.beq_eq,ZV.val,List.any_cons,List.any_nil,Bool.false_and,AS_new,zeFlt,zePr]
   intro b hb d hd
   have hbx : b ≠ x := nd hb i6 (by simp)
   have hbc : b ≠ c := nd hb gc6 (by simp)
   have hdb : d ≠ b := by rintro rfl; rw [AHeap.get_set_same] at hd; cases hd
   have hd6 : σ6.get d = .dead := by rw [AHeap.get_set_ne _ _ hdb.symm,AHeap.get_set_ne _ _ hdb.symm] at hd; exact hd
   have hdx : d ≠ x := nd hd6 i6 (by simp)
   have hdc : d ≠ c := nd hd6 gc6 (by simp)
   have bx : ∀ (τ : AHeap) o,(AHeap.set τ b o).get x = τ.get x := fun τ o => AHeap.get_set_ne _ _ hbx
   have dx : ∀ (τ : AHeap) o,(AHeap.set τ d o).get x = τ.get x := fun τ o => AHeap.get_set_ne _ _ hdx
   have bc : ∀ (τ : AHeap) o,(AHeap.set τ b o).get c = τ.get c := fun τ o => AHeap.get_set_ne _ _ hbc
   have dc : ∀ (τ : AHeap) o,(AHeap.set τ d o).get c = τ.get c := fun τ o => AHeap.get_set_ne _ _ hdc
   simp (disch := first | assumption | simp) only [↓sbD,sbU,tyB,Nat.reduceMul,Nat.reduceSub,Int.reduceEq,Int.reduceLT,Int.reduceLE,Int.reduceNe,Nat.reduceBneDiff,Nat.reduceBEq,decide_false,gt_iff_lt,Bool.or_self,Bool.false_eq_true,Nat.mul_one,Nat.one_mul,Nat.zero_mul,↓reduceIte,Nat.reduceEqDiff,Nat.reduceLT,Nat.reduceAdd,Nat.reduceLeDiff,reduceCtorEq,goInt,pairs,isConst,TI.isAgg,splice,boxS,Edp,dpv,Nat.beq_eq,ZV.val,List.any_cons,List.any_nil,Bool.false_and,f5,f7,f8,bx,dx,i6',hk0,hwa,bc,dc,gc6,res_cellc,resC_some]
   have ho : oneR pl all p' l = .error (k,129,q3) := by unfold oneR; rw [hid]
   exact downS_le (Le.set (Le.new' (Le.new' (Le.new' (Le.new' (Le.refl _) hb) hb) hd6) hd6)) (hbad k 129 _ ⟨.error (k,129,q3),hback _ (.bad hlt ho),rfl⟩ _ (fin k6))
  ·have hv3 := varR_le hp' hid
   have gc6 := (k6.at gc5 (by simp) (by simpa using hxc.symm)).1
   have hg6 := hg.kept k6 (fun b hb hm => hxf (by obtain rfl := List.mem_singleton.1 hm; exact hb))
   simp (disch := first | assumption | simp) only [↓sbD,sbU,tyB,Nat.reduceMul,Nat.reduceSub,Int.reduceEq,Int.reduceLT,Int.reduceLE,Int.reduceNe,Nat.reduceBneDiff,Nat.reduceBEq,decide_false,gt_iff_lt,Bool.or_self,Bool.false_eq_true,Nat.mul_one,Nat.one_mul,Nat.zero_mul,↓reduceIte,Nat.reduceEqDiff,Nat.reduceLT,Nat.reduceAdd,Nat.reduceLeDiff,reduceCtorEq,goInt,pairs,isConst,TI.isAgg,splice,boxS,Edp,dpv,Nat.beq_eq,ZV.val,List.any_cons,List.any_nil,Bool.false_and,AS_new,zeFlt,zePr]
   intro b hb d hd
   have hbx : b ≠ x := nd hb i6 (by simp)
   have hbc : b ≠ c := nd hb gc6 (by simp)
   have hdb : d ≠ b := by rintro rfl; rw [AHeap.get_set_same] at hd; cases hd
   have hd6 : σ6.get d = .dead := by rw [AHeap.get_set_ne _ _ hdb.symm,AHeap.get_set_ne _ _ hdb.symm] at hd; exact hd
   have hdx : d ≠ x := nd hd6 i6 (by simp)
   have hdc : d ≠ c := nd hd6 gc6 (by simp)
   have hb5 : σ5.get b = .dead := by
    by_cases hh : σ5.get b = .dead
    ·exact hh
    ·rw [k6.get b hh (by simpa using hbx)] at hb; exact absurd hb hh
   have hd5 : σ5.get d = .dead := by
    by_cases hh : σ5.get d = .dead
    ·exact hh
    ·rw [k6.get d hh (by simpa using hdx)] at hd6; exact absurd hd6 hh
   have bc : ∀ (τ : AHeap) o,(AHeap.set τ b o).get c = τ.get c := fun τ o => AHeap.get_set_ne _ _ hbc
   have dc : ∀ (τ : AHeap) o,(AHeap.set τ d o).get c = τ.get c := fun τ o => AHeap.get_set_ne _ _ hdc
   have bx : ∀ (τ : AHeap) o,(AHeap.set τ b o).get x = τ.get x := fun τ o => AHeap.get_set_ne _ _ hbx
   have dx : ∀ (τ : AHeap) o,(AHeap.set τ d o).get x = τ.get x := fun τ o => AHeap.get_set_ne _ _ hdx
   have bd : ∀ (τ : AHeap) o,(AHeap.set τ b o).get d = τ.get d := fun τ o => AHeap.get_set_ne _ _ hdb.symm
   have db : ∀ (τ : AHeap) o,(AHeap.set τ d o).get b = τ.get b := fun τ o => AHeap.get_set_ne _ _ hdb
   generalize hσ7 : AHeap.set (AHeap.set (AHeap.set (AHeap.set σ6 b _) b _) d _) d _ = σ7
   have kb : Kept σ6 [] σ7 [] := by rw [← hσ7]; exact ((((Kept.refl σ6 []).setD hb).setD hb).setD hd6).setD hd6
   have K7 : Kept σ5 [x] σ7 [x] := k6.trans (kb.wid (gp := [x]) (gp' := [x]) (fun _ h => by cases h) (fun _ h => .inr h))
   have i7 : IsY σ7 x all q3 0 0 := i6.kept kb (by simp)
   have i7' := i7
   unfold IsY at i7'
   have gc7 := (kb.at gc6 (by simp) (by simp)).1
   have gb7 : σ7.get b = .cells [.int .i64 0,.int .i64 0,.int .i64 0] true 0 := by rw [← hσ7,db,db]; exact AHeap.get_set_same _ _ _
   have gd7 : σ7.get d = .cells [.int .i64 0,.int .i64 0,.string ⟨#[]⟩,.string ⟨#[]⟩] true 0 := by rw [← hσ7]; exact AHeap.get_set_same _ _ _
   have hg7 := hg6.kept kb (fun _ _ h => by cases h)
   clear hσ7 hd
   simp (disch := first | assumption | simp) only [↓sbD,sbU,tyB,Nat.reduceMul,Nat.reduceSub,Int.reduceEq,Int.reduceLT,Int.reduceLE,Int.reduceNe,Nat.reduceBneDiff,Nat.reduceBEq,decide_false,gt_iff_lt,Bool.or_self,Bool.false_eq_true,Nat.mul_one,Nat.one_mul,Nat.zero_mul,↓reduceIte,Nat.reduceEqDiff,Nat.reduceLT,Nat.reduceAdd,Nat.reduceLeDiff,reduceCtorEq,goInt,pairs,isConst,TI.isAgg,splice,boxS,Edp,dpv,Nat.beq_eq,ZV.val,List.any_cons,List.any_nil,Bool.false_and,f1,f8,f9,i7']
   refine specRGround hg.dl (by omega) ?_
   cases hgr : groundP pl l (id : Int) with
   | some e =>
    obtain ⟨k,rr⟩ := e
    have hk := groundP_k hgr
    have hk0 : ¬ (k : Int) = 0 := by omega
    have hwa : IntKind.i64.wrap (((q2 - all.size : Nat) : Int) + (p' : Int)) = ((q2 - all.size + p' : Nat) : Int) := by rw [wrap64 ⟨by omega,by omega⟩]; omega
    simp only [fltG]
    simp (disch := first | assumption | simp) only [↓sbD,sbU,tyB,Nat.reduceMul,Nat.reduceSub,Int.reduceEq,Int.reduceLT,Int.reduceLE,Int.reduceNe,Nat.reduceBneDiff,Nat.reduceBEq,decide_false,gt_iff_lt,Bool.or_self,Bool.false_eq_true,Nat.mul_one,Nat.one_mul,Nat.zero_mul,↓reduceIte,Nat.reduceEqDiff,Nat.reduceLT,Nat.reduceAdd,Nat.reduceLeDiff,reduceCtorEq,goInt,pairs,isConst,TI.isAgg,splice,boxS,Edp,dpv,Nat.beq_eq,ZV.val,List.any_cons,List.any_nil,Bool.false_and,f5,f7,f8,gb7,bx,i7',hk0,hwa,bc,gc7,res_cellc,resC_some]
    have ho : oneR pl all p' l = .error (k,rr,p') := by unfold oneR; rw [hid]; simp only [hgr]
    exact downS_here (hbad k rr _ ⟨.error (k,rr,p'),hback _ (.bad hlt ho),rfl⟩ _ (fin (K7.setD hb5)))
   | none =>
    have ht0 := (groundP_typ hgr).1
    simp only [fltG]
    simp (disch := first | assumption | simp) only [↓sbD,sbU,tyB,Nat.reduceMul,Nat.reduceSub,Int.reduceEq,Int.reduceLT,Int.reduceLE,Int.reduceNe,Nat.reduceBneDiff,Nat.reduceBEq,decide_false,gt_iff_lt,Bool.or_self,Bool.false_eq_true,Nat.mul_one,Nat.one_mul,Nat.zero_mul,↓reduceIte,Nat.reduceEqDiff,Nat.reduceLT,Nat.reduceAdd,Nat.reduceLeDiff,reduceCtorEq,goInt,pairs,isConst,TI.isAgg,splice,boxS,Edp,dpv,Nat.beq_eq,ZV.val,List.any_cons,List.any_nil,Bool.false_and,f8,gb7,bx,i7']
    refine specYValue ht0 (by unfold IsY; rw [bx]; exact i7') hv3.2.1 (by omega) (fun y q4 hy σ8 k8 i8 => ?_) fun k q4 hy hk0 σ8 p8 y k8 i8 => ?_
    ·have hac : propC y = [.int .i64 y.id,.int .i64 y.n,.string y.s,.string y.v] := rfl
     have i8' := i8
     unfold IsY at i8'
     have gd8 := (k8.at (show (AHeap.set σ7 b (.cells [.int .i64 0,.int .i64 0,.int .i64 0] true 0)).get d = _ from (bd _ _).trans gd7) (by simp) (by simpa using hdx)).1
     have gb8 := (k8.at (show (AHeap.set σ7 b (.cells [.int .i64 0,.int .i64 0,.int .i64 0] true 0)).get b = _ from AHeap.get_set_same _ _ _) (by simp) (by simpa using hbx)).1
     have gc8 := (k8.at (show (AHeap.set σ7 b (.cells [.int .i64 0,.int .i64 0,.int .i64 0] true 0)).get c = _ from (bc _ _).trans gc7) (by simp) (by simpa using hxc.symm)).1
     have K8 : Kept σ5 [x] σ8 [x] := (K7.setD hb5).trans k8
     simp (disch := first | assumption | simp) only [↓sbD,sbU,tyB,Nat.reduceMul,Nat.reduceSub,Int.reduceEq,Int.reduceLT,Int.reduceLE,Int.reduceNe,Nat.reduceBneDiff,Nat.reduceBEq,decide_false,gt_iff_lt,Bool.or_self,Bool.false_eq_true,Nat.mul_one,Nat.one_mul,Nat.zero_mul,↓reduceIte,Nat.reduceEqDiff,Nat.reduceLT,Nat.reduceAdd,Nat.reduceLeDiff,reduceCtorEq,goInt,pairs,isConst,TI.isAgg,splice,boxS,Edp,dpv,Nat.beq_eq,ZV.val,List.any_cons,List.any_nil,Bool.false_and,f8,hac,gd8,gb8,dx,db,i8',AHeap.get_set_same]
     rw [propC_ag]
     refine specRNumbered (p := y) ?_
     cases hnm : numOk y with
     | false =>
      have hwa : IntKind.i64.wrap (((q2 - all.size : Nat) : Int) + (p' : Int)) = ((q2 - all.size + p' : Nat) : Int) := by rw [wrap64 ⟨by omega,by omega⟩]; omega
      have ho : oneR pl all p' l = .error (3,130,p') := by unfold oneR; rw [hid]; simp only [hgr,hy,hnm]; rfl
      simp (disch := first | assumption | simp) only [↓sbD,sbU,tyB,Nat.reduceMul,Nat.reduceSub,Int.reduceEq,Int.reduceLT,Int.reduceLE,Int.reduceNe,Nat.reduceBneDiff,Nat.reduceBEq,decide_false,gt_iff_lt,Bool.or_self,Bool.false_eq_true,Nat.mul_one,Nat.one_mul,Nat.zero_mul,↓reduceIte,Nat.reduceEqDiff,Nat.reduceLT,Nat.reduceAdd,Nat.reduceLeDiff,reduceCtorEq,goInt,pairs,isConst,TI.isAgg,splice,boxS,Edp,dpv,Nat.beq_eq,ZV.val,List.any_cons,List.any_nil,Bool.false_and,not_bool,f5,f7,gb8,db,hwa,bc,dc,gc8,res_cellc,resC_some]
      exact downS_here (hbad 3 130 _ ⟨.error (3,130,p'),hback _ (.bad hlt ho),rfl⟩ _ (fin ((K8.setD hd5).setD hb5)))
     | true =>
      have ho : oneR pl all p' l = .ok (y,q4) := by unfold oneR; rw [hid]; simp only [hgr,hy,hnm,if_true]
      have hoq := oneR_ok hp' ho
      have hg9 : DG propC 4 (AHeap.set σ8 d (.cells [.int .i64 y.id,.int .i64 y.n,.string y.s,.string y.v] true 0)) v l fp := hg.kept (K8.setD hd5) (fun b hb hm => hxf (by obtain rfl := List.mem_singleton.1 hm; exact hb))
      simp (disch := first | assumption | simp) only [↓sbD,sbU,tyB,Nat.reduceMul,Nat.reduceSub,Int.reduceEq,Int.reduceLT,Int.reduceLE,Int.reduceNe,Nat.reduceBneDiff,Nat.reduceBEq,decide_false,gt_iff_lt,Bool.or_self,Bool.false_eq_true,Nat.mul_one,Nat.one_mul,Nat.zero_mul,↓reduceIte,Nat.reduceEqDiff,Nat.reduceLT,Nat.reduceAdd,Nat.reduceLeDiff,reduceCtorEq,goInt,pairs,isConst,TI.isAgg,splice,boxS,Edp,dpv,Nat.beq_eq,ZV.val,List.any_cons,List.any_nil,Bool.false_and,not_bool,f9,gb8,db,AHeap.get_set_same]
      refine app_pr (xs := [y]) hg9 (.inr ⟨1,rfl⟩) (by simp only [List.length_cons,List.length_nil]; omega) fun σA vA fpA kA gA => ?_
      have iA := kA.at (show (AHeap.set σ8 d (.cells [.int .i64 y.id,.int .i64 y.n,.string y.s,.string y.v] true 0)).get x = _ from (dx _ _).trans i8') (by simp) hxf
      simp (disch := first | assumption | simp) only [↓sbD,sbU,tyB,Nat.reduceMul,Nat.reduceSub,Int.reduceEq,Int.reduceLT,Int.reduceLE,Int.reduceNe,Nat.reduceBneDiff,Nat.reduceBEq,decide_false,gt_iff_lt,Bool.or_self,Bool.false_eq_true,Nat.mul_one,Nat.one_mul,Nat.zero_mul,↓reduceIte,Nat.reduceEqDiff,Nat.reduceLT,Nat.reduceAdd,Nat.reduceLeDiff,reduceCtorEq,goInt,pairs,isConst,TI.isAgg,splice,boxS,Edp,dpv,Nat.beq_eq,ZV.val,List.any_cons,List.any_nil,Bool.false_and]
      refine ⟨_,m - (q4 - p'),σA,rfl,by omega,Le.refl _,q4,l ++ [y],vA,fpA,by omega,by omega,rfl,gA,iA.2,by rw [List.length_append]; simp only [List.length_cons,List.length_nil]; omega,iA.1,?_,fun R h => hback R (.step hlt ho h)⟩
      exact hk.trans (((K8.setD hd5).wid (gp := x :: fp) (gp' := x :: fp) (fun b hb => by simp at hb; simp [hb]) (fun b hb => .inr hb)).trans (kA.wid (gp := x :: fp) (gp' := x :: fpA) (fun b hb => by simp [hb]) (fun b hb => by simp only [List.mem_cons] at hb ⊢; rcases hb with hb | hb <;> simp [hb])))
    ·have hac : propC y = [.int .i64 y.id,.int .i64 y.n,.string y.s,.string y.v] := rfl
     have i8' := i8
     unfold IsY at i8'
     have hk0' : ¬ (k : Int) = 0 := by omega
     have hqe := valueR_er hv3.2.1 hy
     have gd8 := (k8.at (show (AHeap.set σ7 b (.cells [.int .i64 0,.int .i64 0,.int .i64 0] true 0)).get d = _ from (bd _ _).trans gd7) (by simp) (by simpa using hdx)).1
     have gc8 := (k8.at (show (AHeap.set σ7 b (.cells [.int .i64 0,.int .i64 0,.int .i64 0] true 0)).get c = _ from (bc _ _).trans gc7) (by simp) (by simpa using hxc.symm)).1
     have K8 : Kept σ5 [x] σ8 [x] := (K7.setD hb5).trans k8
     have hwa : IntKind.i64.wrap (((q2 - all.size : Nat) : Int) + (q4 : Int)) = ((q2 - all.size + q4 : Nat) : Int) := by rw [wrap64 ⟨by omega,by omega⟩]; omega
     have ho : oneR pl all p' l = .error (k,129,q4) := by unfold oneR; rw [hid]; simp only [hgr,hy]
     simp (disch := first | assumption | simp) only [↓sbD,sbU,tyB,Nat.reduceMul,Nat.reduceSub,Int.reduceEq,Int.reduceLT,Int.reduceLE,Int.reduceNe,Nat.reduceBneDiff,Nat.reduceBEq,decide_false,gt_iff_lt,Bool.or_self,Bool.false_eq_true,Nat.mul_one,Nat.one_mul,Nat.zero_mul,↓reduceIte,Nat.reduceEqDiff,Nat.reduceLT,Nat.reduceAdd,Nat.reduceLeDiff,reduceCtorEq,goInt,pairs,isConst,TI.isAgg,splice,boxS,Edp,dpv,Nat.beq_eq,ZV.val,List.any_cons,List.any_nil,Bool.false_and,f5,f7,f8,hac,gd8,dx,i8',hk0',hwa,dc,gc8,res_cellc,resC_some]
     exact downS_here (hbad k 129 _ ⟨.error (k,129,q4),hback _ (.bad hlt ho),rfl⟩ _ (fin (K8.setD hd5)))
 ·have h0 : ¬ (p' : Int) < (all.size : Int) := by omega
  simp (disch := first | assumption | simp) only [↓sbD,sbU,tyB,Nat.reduceMul,Nat.reduceSub,Int.reduceEq,Int.reduceLT,Int.reduceLE,Int.reduceNe,Nat.reduceBneDiff,Nat.reduceBEq,decide_false,gt_iff_lt,Bool.or_self,Bool.false_eq_true,Nat.mul_one,Nat.one_mul,Nat.zero_mul,↓reduceIte,Nat.reduceEqDiff,Nat.reduceLT,Nat.reduceAdd,Nat.reduceLeDiff,reduceCtorEq,goInt,pairs,isConst,TI.isAgg,splice,boxS,Edp,dpv,Nat.beq_eq,ZV.val,List.any_cons,List.any_nil,Bool.false_and,f5,f6,f8,f9,ix',h0,gc5,res_cellc,resC_some]
  exact downS_here (hok l q2 ⟨.ok l,hback _ (.nil (by omega)),rfl⟩ v _ hg.dl (fin (Kept.refl _ _)) (by unfold IsY; rw [AHeap.get_set_ne _ _ hcr]; exact ir) hq2.2.1)
end
end Go.Proofs.YtkhcbbpfchgemaaGreatDoor.AbsA
namespace Go.Proofs.YtkhcbbpfchgemaaGreatDoor.AbsA
open Go AbsYtkhcbbpfchgemaaGreatDoor Abs
set_option maxRecDepth 100000
set_option maxHeartbeats 4000000
set_option linter.unusedSimpArgs false
set_option linter.unusedVariables false
theorem typed_s {H : AHeap} {d : Nat} {v : Value} (h : ArgTyped E H d 9 v) : ∃ n : ByteArray,v = .string n := by
 obtain ⟨xs,g1,rfl⟩ := h.one ty9 rfl
 obtain ⟨n,g2,_⟩ := typed_str g1
 subst g2
 exact ⟨n,rfl⟩
attribute [local irreducible] afterS afterOpS opSK OpsS TrS CodeS condS condW thenS thenQ guardS guardTS outS drawS trSK consS
section
variable {σ : AHeap} {Q : Value → AHeap → Prop}
theorem DL.fz {α : Type} {enc : α → List Value} {sz : Nat} {v : Value} {l : List α} (h : DL enc sz v l) (hm : ∀ m,v = dsl m sz l.length (l.flatMap enc) → m ≤ 1) : frz E.ng E.nb v = true := by
 rcases h with ⟨_,rfl⟩ | ⟨m,rfl⟩
 ·exact frz_nils
 ·rw [frz_dsl]; simp [hm m rfl]
end
set_option maxHeartbeats 8000000
section
variable {σ : AHeap} {Q : Value → AHeap → Prop}
theorem and_nat {n m : Nat} (hn : n < 2 ^ 62) (hm : m < 2 ^ 62) : aint .and .i64 (n : Int) (m : Int) = some (.int .i64 ((n &&& m : Nat) : Int)) := by
 have key : ((BitVec.ofInt 64 (n : Int)) &&& (BitVec.ofInt 64 (m : Int))).toNat = n &&& m := by
  rw [BitVec.toNat_and,BitVec.ofInt_natCast,BitVec.ofInt_natCast,BitVec.toNat_ofNat,BitVec.toNat_ofNat]
  rw [Nat.mod_eq_of_lt (by omega),Nat.mod_eq_of_lt (by omega)]
 have hle : n &&& m ≤ n := Nat.and_le_left
 show some (Value.int .i64 (IntKind.i64.wrap ((((BitVec.ofInt 64 (n : Int)) &&& (BitVec.ofInt 64 (m : Int))).toNat : Nat) : Int))) = _
 rw [key,wrap64 ⟨by omega,by omega⟩]
end
section
variable {σ : AHeap} {Q : Value → AHeap → Prop}
end
end Go.Proofs.YtkhcbbpfchgemaaGreatDoor.AbsA
