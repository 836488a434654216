/-
  Parts of a law's proof.
-/
import Derived.Test.YtkhcbbpfchgemaaDoorAPrqhJ
import Derived.Test.YtkhcbbpfchgemaaDoorAPrqcJ
namespace Go.Proofs.YtkhcbbpfchgemaaDoor.AbsB
open Go AbsYtkhcbbpfchgemaaDoor Abs
set_option maxRecDepth 100000
set_option maxHeartbeats 2000000
set_option linter.unusedSimpArgs false
set_option linter.unusedVariables false
attribute [local irreducible] afterS afterOpS opSK OpsS TrS CodeS condS condW thenS thenQ guardS guardTS outS drawS trSK consS
section
variable {σ : AHeap} {Q : Value → AHeap → Prop} {r p : Nat} {s : ByteArray}
theorem varR_k {k q : Nat} (h : varR s p = .error (k,q)) : k ≠ 0 := by
 unfold varR at h
 cases ht : takeF (s.extract p s.size) 4 0 0 with
 | inl a => obtain ⟨m,j⟩ := a; rw [ht] at h; cases h
 | inr e => obtain ⟨j,q'⟩ := e; rw [ht] at h; simp only [Except.error.injEq,Prod.mk.injEq] at h; omega
theorem textR_k {k q : Nat} (h : textR s p = .error (k,q)) : k ≠ 0 := by
 unfold textR at h
 cases hb : binR s p with
 | error e =>
  obtain ⟨j,q'⟩ := e
  rw [hb] at h
  simp only [Except.error.injEq,Prod.mk.injEq] at h
  unfold binR at hb
  cases hn : numR s p 2 with
  | ok a => obtain ⟨n,q2⟩ := a; rw [hn] at hb; have := rawR_k hb; omega
  | error e => obtain ⟨j2,q2⟩ := e; rw [hn] at hb; simp only [Except.error.injEq,Prod.mk.injEq] at hb; have := numR_k hn; omega
 | ok a =>
  obtain ⟨b,q'⟩ := a
  rw [hb] at h
  simp only at h
  cases ht : textF b with
  | inl m => rw [ht] at h; cases h
  | inr e => obtain ⟨j,i⟩ := e; rw [ht] at h; simp only [Except.error.injEq,Prod.mk.injEq] at h; omega
theorem rdA_k {T : Int} {k q : Nat} (h : rdA T s p = .error (k,q)) : k ≠ 0 := by
 unfold rdA at h
 have mN : ∀ r : Rd Nat,mapN r = .error (k,q) → r = .error (k,q) := by
  intro r hr
  unfold mapN at hr
  split at hr
  ·cases hr
  ·simp only [Except.error.injEq] at hr ⊢; exact hr
 have mS : ∀ r : Rd ByteArray,mapS r = .error (k,q) → r = .error (k,q) := by
  intro r hr
  unfold mapS at hr
  split at hr
  ·cases hr
  ·simp only [Except.error.injEq] at hr ⊢; exact hr
 split at h
 ·exact numR_k (mN _ h)
 split at h
 ·exact numR_k (mN _ h)
 split at h
 ·exact numR_k (mN _ h)
 split at h
 ·exact varR_k (mN _ h)
 split at h
 ·exact textR_k (mS _ h)
 ·have h := mS _ h
  unfold binR at h
  cases hn : numR s p 2 with
  | ok a => obtain ⟨n,q2⟩ := a; rw [hn] at h; exact rawR_k h
  | error e => obtain ⟨j2,q2⟩ := e; rw [hn] at h; simp only [Except.error.injEq,Prod.mk.injEq] at h; have := numR_k hn; omega
end
section
variable {σ : AHeap} {Q : Value → AHeap → Prop} {x : Nat} {r : ByteArray ⊕ (Nat × Nat)}
end
section
variable {σ : AHeap} {Q : Value → AHeap → Prop}
end
set_option maxHeartbeats 4000000
section
variable {σ : AHeap} {Q : Value → AHeap → Prop}
end
set_option maxHeartbeats 2000000
section
variable {σ : AHeap} {Q : Value → AHeap → Prop} {r : Nat} {s : ByteArray} {p : Nat}
theorem groundP_typ {pl id : Int} {l : List Pr} (h : groundP pl l id = none) : typI id ≠ 0 ∧ l.length < 64 := by
 unfold groundP at h
 split at h
 ·cases h
 split at h
 ·cases h
 ·rename_i h1 h2
  exact ⟨fun h3 => h2 (.inl h3),by omega⟩
theorem oneR_ok {pl : Int} {ahead : List Pr} {x : Pr} {q : Nat} (hp : p ≤ s.size) (h : oneR pl s p ahead = .ok (x,q)) : p < q ∧ q ≤ s.size ∧ ahead.length < 64 ∧ badP pl ahead x = none := by
 unfold oneR at h
 cases hv : varR s p with
 | error e => obtain ⟨k,q'⟩ := e; rw [hv] at h; cases h
 | ok a =>
  obtain ⟨id,q1⟩ := a
  rw [hv] at h
  have h1 := varR_le hp hv
  simp only at h
  cases hg : groundP pl ahead id with
  | some e => obtain ⟨k,rr⟩ := e; rw [hg] at h; cases h
  | none =>
   have h2 := groundP_typ hg
   rw [hg] at h
   simp only at h
   cases hw : valueR id s q1 with
   | error e => obtain ⟨k,q'⟩ := e; rw [hw] at h; cases h
   | ok b =>
    obtain ⟨y,q2⟩ := b
    have h3 := valueR_le h1.2.1 hw
    rw [hw] at h
    simp only at h
    cases hn : numOk y with
    | false => rw [hn] at h; simp at h
    | true =>
     rw [hn] at h
     simp only [if_true,Except.ok.injEq,Prod.mk.injEq] at h
     obtain ⟨rfl,rfl⟩ := h
     have hid : y.id = id := by
      unfold valueR at hw
      split at hw
      ·cases ht : textR s q1 with
       | error e => rw [ht] at hw; cases hw
       | ok a =>
        obtain ⟨a,q3⟩ := a
        rw [ht] at hw
        simp only at hw
        cases ht2 : textR s q3 with
        | error e => rw [ht2] at hw; cases hw
        | ok a => obtain ⟨b,q4⟩ := a; rw [ht2] at hw; simp only [Except.ok.injEq,Prod.mk.injEq] at hw; rw [← hw.1]
      ·cases ht : rdA (typI id) s q1 with
       | error e => rw [ht] at hw; cases hw
       | ok a => obtain ⟨⟨n,a⟩,q3⟩ := a; rw [ht] at hw; simp only [Except.ok.injEq,Prod.mk.injEq] at hw; rw [← hw.1]
     exact ⟨by omega,by omega,h2.2,by unfold badP; rw [hid,hg]; simp [hn]⟩
theorem specOne {pl : Int} {v : Value} {l : List Pr} (hl : DL propC 4 v l) (hll : l.length ≤ 100000) (hr : IsR σ r s p .nilIface) (hp : p ≤ s.size) (hs : s.size ≤ 100000000)
  (hok : ∀ x q,oneR pl s p l = .ok (x,q) → ∀ σ',Kept σ [r] σ' [r] → IsR σ' r s q .nilIface → Q (.tuple #[.agg ⟨propC x⟩,.nilIface]) σ')
  (hbad : ∀ k rr a : Nat,oneR pl s p l = .error (k,rr,a) → ∀ σ' d z y,Kept σ [r] σ' [r] → d ≤ 2 → ErN d (fv rr a z) k → a ≤ s.size + 65537 → Q (.tuple #[.agg ⟨propC y⟩,fv rr a z]) σ') :
  CallS E B 45 [.pointer (some ⟨r,0,none⟩),.int .i64 pl,v] σ Q := by
 unfold oneR at hok hbad
 refine call45 (by simp) ?_
 simp only [strip,bodyOf,Tryd.f45,getD_body,keepN,bareOp_mk,lessOp_mk,lapp_cons,lapp_nil,List.map_cons,List.map_nil,array_toList,↓reduceIte,Nat.reduceEqDiff,Bool.false_eq_true]
 simp (disch := first | assumption | simp) only [↓sbD,sbU,tyB,Nat.reduceMul,Nat.reduceSub,Int.reduceEq,Int.reduceLT,Int.reduceLE,Int.reduceNe,Nat.reduceBneDiff,Nat.reduceBEq,decide_false,gt_iff_lt,Bool.or_self,Bool.false_eq_true,Nat.mul_one,Nat.one_mul,Nat.zero_mul,↓reduceIte,Nat.reduceEqDiff,Nat.reduceLT,Nat.reduceAdd,Nat.reduceLeDiff,reduceCtorEq,goInt,pairs,isConst,TI.isAgg,splice,boxS,Edp,dpv,Nat.beq_eq,ZV.val,List.any_cons,List.any_nil,Bool.false_and,AS_new,zePr]
 intro c hc
 have hcr : c ≠ r := by rintro rfl; rw [hr] at hc; cases hc
 generalize hσ1 : AHeap.set σ c _ = σ1
 have k1 : Kept σ [r] σ1 [r] := by rw [← hσ1]; exact (Kept.refl σ [r]).setD hc
 have gc1 : σ1.get c = .cells [.int .i64 0,.int .i64 0,.string ⟨#[]⟩,.string ⟨#[]⟩] true 0 := by rw [← hσ1]; exact AHeap.get_set_same _ _ _
 have i1 : IsR σ1 r s p .nilIface := by rw [← hσ1]; unfold IsR; rw [AHeap.get_set_ne _ _ hcr]; exact hr
 clear hσ1
 refine specRAt i1 ?_
 simp (disch := first | assumption | simp) only [↓sbD,sbU,tyB,Nat.reduceMul,Nat.reduceSub,Int.reduceEq,Int.reduceLT,Int.reduceLE,Int.reduceNe,Nat.reduceBneDiff,Nat.reduceBEq,decide_false,gt_iff_lt,Bool.or_self,Bool.false_eq_true,Nat.mul_one,Nat.one_mul,Nat.zero_mul,↓reduceIte,Nat.reduceEqDiff,Nat.reduceLT,Nat.reduceAdd,Nat.reduceLeDiff,reduceCtorEq,goInt,pairs,isConst,TI.isAgg,splice,boxS,Edp,dpv,Nat.beq_eq,ZV.val,List.any_cons,List.any_nil,Bool.false_and]
 refine specRVar i1 hp hs (fun n q hn σ2 k2 i2 => ?_) fun k q hn σ2 k2 i2 => ?_
 rotate_left
 ·obtain ⟨d,z,hd,he,i3⟩ := i2
  rw [hn] at hbad
  have gc2 := (k2.at gc1 (by simp) (by simpa using hcr)).1
  have hq := varR_er hp hn
  simp (disch := first | assumption | simp) only [↓sbD,sbU,tyB,Nat.reduceMul,Nat.reduceSub,Int.reduceEq,Int.reduceLT,Int.reduceLE,Int.reduceNe,Nat.reduceBneDiff,Nat.reduceBEq,decide_false,gt_iff_lt,Bool.or_self,Bool.false_eq_true,Nat.mul_one,Nat.one_mul,Nat.zero_mul,↓reduceIte,Nat.reduceEqDiff,Nat.reduceLT,Nat.reduceAdd,Nat.reduceLeDiff,reduceCtorEq,goInt,pairs,isConst,TI.isAgg,splice,boxS,Edp,dpv,Nat.beq_eq,ZV.val,List.any_cons,List.any_nil,Bool.false_and]
  refine specRErr i3 ?_
  simp (disch := first | assumption | simp) only [↓sbD,sbU,tyB,Nat.reduceMul,Nat.reduceSub,Int.reduceEq,Int.reduceLT,Int.reduceLE,Int.reduceNe,Nat.reduceBneDiff,Nat.reduceBEq,decide_false,gt_iff_lt,Bool.or_self,Bool.false_eq_true,Nat.mul_one,Nat.one_mul,Nat.zero_mul,↓reduceIte,Nat.reduceEqDiff,Nat.reduceLT,Nat.reduceAdd,Nat.reduceLeDiff,reduceCtorEq,goInt,pairs,isConst,TI.isAgg,splice,boxS,Edp,dpv,Nat.beq_eq,ZV.val,List.any_cons,List.any_nil,Bool.false_and,gc2,res_cellc,resC_some]
  exact downS_here (hbad k 129 q rfl _ d z ⟨0,0,emp,emp⟩ ((k1.trans k2).setD hc) hd he (by omega))
 ·have hv := varR_le hp hn
  rw [hn] at hok hbad
  simp only at hok hbad
  have gc2 := (k2.at gc1 (by simp) (by simpa using hcr)).1
  simp (disch := first | assumption | simp) only [↓sbD,sbU,tyB,Nat.reduceMul,Nat.reduceSub,Int.reduceEq,Int.reduceLT,Int.reduceLE,Int.reduceNe,Nat.reduceBneDiff,Nat.reduceBEq,decide_false,gt_iff_lt,Bool.or_self,Bool.false_eq_true,Nat.mul_one,Nat.one_mul,Nat.zero_mul,↓reduceIte,Nat.reduceEqDiff,Nat.reduceLT,Nat.reduceAdd,Nat.reduceLeDiff,reduceCtorEq,goInt,pairs,isConst,TI.isAgg,splice,boxS,Edp,dpv,Nat.beq_eq,ZV.val,List.any_cons,List.any_nil,Bool.false_and]
  refine specRErr i2 ?_
  simp (disch := first | assumption | simp) only [↓sbD,sbU,tyB,Nat.reduceMul,Nat.reduceSub,Int.reduceEq,Int.reduceLT,Int.reduceLE,Int.reduceNe,Nat.reduceBneDiff,Nat.reduceBEq,decide_false,gt_iff_lt,Bool.or_self,Bool.false_eq_true,Nat.mul_one,Nat.one_mul,Nat.zero_mul,↓reduceIte,Nat.reduceEqDiff,Nat.reduceLT,Nat.reduceAdd,Nat.reduceLeDiff,reduceCtorEq,goInt,pairs,isConst,TI.isAgg,splice,boxS,Edp,dpv,Nat.beq_eq,ZV.val,List.any_cons,List.any_nil,Bool.false_and]
  refine specGround hl hll (fun hg => ?_) fun k rr hg hk => ?_
  rotate_left
  ·rw [hg] at hbad
   simp (disch := first | assumption | simp) only [↓sbD,sbU,tyB,Nat.reduceMul,Nat.reduceSub,Int.reduceEq,Int.reduceLT,Int.reduceLE,Int.reduceNe,Nat.reduceBneDiff,Nat.reduceBEq,decide_false,gt_iff_lt,Bool.or_self,Bool.false_eq_true,Nat.mul_one,Nat.one_mul,Nat.zero_mul,↓reduceIte,Nat.reduceEqDiff,Nat.reduceLT,Nat.reduceAdd,Nat.reduceLeDiff,reduceCtorEq,goInt,pairs,isConst,TI.isAgg,splice,boxS,Edp,dpv,Nat.beq_eq,ZV.val,List.any_cons,List.any_nil,Bool.false_and,gc2,res_cellc,resC_some]
   exact downS_here (hbad k rr p rfl _ 1 _ ⟨0,0,emp,emp⟩ ((k1.trans k2).setD hc) (by omega) (ErN.new _ _ hk) (by omega))
  ·rw [hg] at hok hbad
   simp only at hok hbad
   have ht0 := (groundP_typ hg).1
   simp (disch := first | assumption | simp) only [↓sbD,sbU,tyB,Nat.reduceMul,Nat.reduceSub,Int.reduceEq,Int.reduceLT,Int.reduceLE,Int.reduceNe,Nat.reduceBneDiff,Nat.reduceBEq,decide_false,gt_iff_lt,Bool.or_self,Bool.false_eq_true,Nat.mul_one,Nat.one_mul,Nat.zero_mul,↓reduceIte,Nat.reduceEqDiff,Nat.reduceLT,Nat.reduceAdd,Nat.reduceLeDiff,reduceCtorEq,goInt,pairs,isConst,TI.isAgg,splice,boxS,Edp,dpv,Nat.beq_eq,ZV.val,List.any_cons,List.any_nil,Bool.false_and]
   refine specPValue ht0 i2 hv.2.1 hs (fun x q2 hx σ3 k3 i3 => ?_) fun k q2 hx σ3 p' y k3 i3 => ?_
   rotate_left
   ·obtain ⟨d,z,hd,he,i4⟩ := i3
    rw [hx] at hbad
    have gc3 := (k3.at gc2 (by simp) (by simpa using hcr)).1
    have hq := valueR_er hv.2.1 hx
    have hac : propC y = [.int .i64 y.id,.int .i64 y.n,.string y.s,.string y.v] := rfl
    simp (disch := first | assumption | simp) only [↓sbD,sbU,tyB,Nat.reduceMul,Nat.reduceSub,Int.reduceEq,Int.reduceLT,Int.reduceLE,Int.reduceNe,Nat.reduceBneDiff,Nat.reduceBEq,decide_false,gt_iff_lt,Bool.or_self,Bool.false_eq_true,Nat.mul_one,Nat.one_mul,Nat.zero_mul,↓reduceIte,Nat.reduceEqDiff,Nat.reduceLT,Nat.reduceAdd,Nat.reduceLeDiff,reduceCtorEq,goInt,pairs,isConst,TI.isAgg,splice,boxS,Edp,dpv,Nat.beq_eq,ZV.val,List.any_cons,List.any_nil,Bool.false_and,AS_new,zePr,hac]
    intro b hb
    have hb0 : b ≠ c := by rintro rfl; rw [gc3] at hb; cases hb
    have hbr : b ≠ r := by rintro rfl; rw [i4] at hb; cases hb
    have bc : ∀ (τ : AHeap) o,(AHeap.set τ b o).get c = τ.get c := fun τ o => AHeap.get_set_ne _ _ hb0
    have i5 : ∀ o o',IsR (AHeap.set (AHeap.set σ3 b o) b o') r s p' (fv 129 (q2 : Int) z) := fun o o' => by unfold IsR; rw [AHeap.get_set_ne _ _ hbr,AHeap.get_set_ne _ _ hbr]; exact i4
    refine specRErr (i5 _ _) ?_
    simp (disch := first | assumption | simp) only [↓sbD,sbU,tyB,Nat.reduceMul,Nat.reduceSub,Int.reduceEq,Int.reduceLT,Int.reduceLE,Int.reduceNe,Nat.reduceBneDiff,Nat.reduceBEq,decide_false,gt_iff_lt,Bool.or_self,Bool.false_eq_true,Nat.mul_one,Nat.one_mul,Nat.zero_mul,↓reduceIte,Nat.reduceEqDiff,Nat.reduceLT,Nat.reduceAdd,Nat.reduceLeDiff,reduceCtorEq,goInt,pairs,isConst,TI.isAgg,splice,boxS,Edp,dpv,Nat.beq_eq,ZV.val,List.any_cons,List.any_nil,Bool.false_and,gc3,bc,res_cellc,resC_some]
    have hb1 : ∀ o,(AHeap.set σ3 c o).get b = .dead := fun o => by rw [AHeap.get_set_ne _ _ hb0.symm]; exact hb
    refine downS_le ?_ (hbad k 129 q2 rfl (σ3.set c (.cells [.int .i64 0,.int .i64 0,.string ⟨#[]⟩,.string ⟨#[]⟩] true 0)) d z ⟨0,0,emp,emp⟩ (((k1.trans k2).trans k3).setD hc) hd he hq)
    exact Le.set (Le.new' (Le.new hb) hb)
   ·rw [hx] at hok hbad
    simp only at hok hbad
    have gc3 := (k3.at gc2 (by simp) (by simpa using hcr)).1
    have hac : propC x = [.int .i64 x.id,.int .i64 x.n,.string x.s,.string x.v] := rfl
    simp (disch := first | assumption | simp) only [↓sbD,sbU,tyB,Nat.reduceMul,Nat.reduceSub,Int.reduceEq,Int.reduceLT,Int.reduceLE,Int.reduceNe,Nat.reduceBneDiff,Nat.reduceBEq,decide_false,gt_iff_lt,Bool.or_self,Bool.false_eq_true,Nat.mul_one,Nat.one_mul,Nat.zero_mul,↓reduceIte,Nat.reduceEqDiff,Nat.reduceLT,Nat.reduceAdd,Nat.reduceLeDiff,reduceCtorEq,goInt,pairs,isConst,TI.isAgg,splice,boxS,Edp,dpv,Nat.beq_eq,ZV.val,List.any_cons,List.any_nil,Bool.false_and,AS_new,zePr,hac]
    intro b hb
    have hb0 : b ≠ c := by rintro rfl; rw [gc3] at hb; cases hb
    have hbr : b ≠ r := by rintro rfl; rw [i3] at hb; cases hb
    have bc : ∀ (τ : AHeap) o,(AHeap.set τ b o).get c = τ.get c := fun τ o => AHeap.get_set_ne _ _ hb0
    have cb : ∀ (τ : AHeap) o,(AHeap.set τ c o).get b = τ.get b := fun τ o => AHeap.get_set_ne _ _ hb0.symm
    have i5 : ∀ o o',IsR (AHeap.set (AHeap.set σ3 b o) b o') r s q2 .nilIface := fun o o' => by unfold IsR; rw [AHeap.get_set_ne _ _ hbr,AHeap.get_set_ne _ _ hbr]; exact i3
    refine specRErr (i5 _ _) ?_
    simp (disch := first | assumption | simp) only [↓sbD,sbU,tyB,Nat.reduceMul,Nat.reduceSub,Int.reduceEq,Int.reduceLT,Int.reduceLE,Int.reduceNe,Nat.reduceBneDiff,Nat.reduceBEq,decide_false,gt_iff_lt,Bool.or_self,Bool.false_eq_true,Nat.mul_one,Nat.one_mul,Nat.zero_mul,↓reduceIte,Nat.reduceEqDiff,Nat.reduceLT,Nat.reduceAdd,Nat.reduceLeDiff,reduceCtorEq,goInt,pairs,isConst,TI.isAgg,splice,boxS,Edp,dpv,Nat.beq_eq,ZV.val,List.any_cons,List.any_nil,Bool.false_and]
    rw [propC_ag]
    have hcb : Nat.beq c b = false := beq_ne hb0.symm
    refine specBadP (fun hn => ?_) fun hn => ?_
    ·rw [hn] at hok
     simp (disch := first | assumption | simp) only [↓sbD,sbU,tyB,Nat.reduceMul,Nat.reduceSub,Int.reduceEq,Int.reduceLT,Int.reduceLE,Int.reduceNe,Nat.reduceBneDiff,Nat.reduceBEq,decide_false,gt_iff_lt,Bool.or_self,Bool.false_eq_true,Nat.mul_one,Nat.one_mul,Nat.zero_mul,↓reduceIte,Nat.reduceEqDiff,Nat.reduceLT,Nat.reduceAdd,Nat.reduceLeDiff,reduceCtorEq,goInt,pairs,isConst,TI.isAgg,splice,boxS,Edp,dpv,Nat.beq_eq,ZV.val,List.any_cons,List.any_nil,Bool.false_and,gc3,bc,cb,hac]
     refine drawS_l (fl := [(0,3)]) (by kernel_rfl) ?_ ?_
     rotate_left; simp only [lastP_cc,lastP_one]; rotate_left
     ·simp only [List.all_cons,List.all_nil,floatS,List.getElem?_cons_succ,List.getElem?_cons_zero,List.getElem?_toArray,Region.wanted,Bool.not_true,Bool.not_false,Bool.false_or,Bool.true_or,Bool.or_true,Bool.true_and,reads,looksWeak,aev_tmp,aev_const,upd_at,↓reduceIte,Nat.reduceEqDiff,Nat.reduceLT,Nat.reduceAdd,ofL_zero,ofL_succ,blkOf,oeq_refl,oeq_of,dead_cells,dead_map,Bool.and_true,Bool.and_self,Bool.false_eq_true,Bool.not_false,gc3,bc,cb,hcb,AHeap.get_set_same]
     simp (disch := first | assumption | simp) only [↓sbD,sbU,tyB,Nat.reduceMul,Nat.reduceSub,Int.reduceEq,Int.reduceLT,Int.reduceLE,Int.reduceNe,Nat.reduceBneDiff,Nat.reduceBEq,decide_false,gt_iff_lt,Bool.or_self,Bool.false_eq_true,Nat.mul_one,Nat.one_mul,Nat.zero_mul,↓reduceIte,Nat.reduceEqDiff,Nat.reduceLT,Nat.reduceAdd,Nat.reduceLeDiff,reduceCtorEq,goInt,pairs,isConst,TI.isAgg,splice,boxS,Edp,dpv,Nat.beq_eq,ZV.val,List.any_cons,List.any_nil,Bool.false_and,gc3,bc,cb,hac,res_cellc,resC_some]
     have hcr2 : ∀ (τ : AHeap) o,(AHeap.set τ c o).get r = τ.get r := fun τ o => AHeap.get_set_ne _ _ hcr
     refine downS_le ?_ (hok x q2 rfl (σ3.set c (.cells [.int .i64 x.id,.int .i64 x.n,.string x.s,.string x.v] true 0)) (((k1.trans k2).trans k3).setD hc) (by unfold IsR; rw [hcr2]; exact i3))
     exact Le.set (Le.new' (Le.new hb) hb)
    ·rw [hn] at hbad
     simp (disch := first | assumption | simp) only [↓sbD,sbU,tyB,Nat.reduceMul,Nat.reduceSub,Int.reduceEq,Int.reduceLT,Int.reduceLE,Int.reduceNe,Nat.reduceBneDiff,Nat.reduceBEq,decide_false,gt_iff_lt,Bool.or_self,Bool.false_eq_true,Nat.mul_one,Nat.one_mul,Nat.zero_mul,↓reduceIte,Nat.reduceEqDiff,Nat.reduceLT,Nat.reduceAdd,Nat.reduceLeDiff,reduceCtorEq,goInt,pairs,isConst,TI.isAgg,splice,boxS,Edp,dpv,Nat.beq_eq,ZV.val,List.any_cons,List.any_nil,Bool.false_and,gc3,bc,cb,hac]
     refine drawS_l (fl := [(0,3)]) (by kernel_rfl) ?_ ?_
     rotate_left; simp only [lastP_cc,lastP_one]; rotate_left
     ·simp only [List.all_cons,List.all_nil,floatS,List.getElem?_cons_succ,List.getElem?_cons_zero,List.getElem?_toArray,Region.wanted,Bool.not_true,Bool.not_false,Bool.false_or,Bool.true_or,Bool.or_true,Bool.true_and,reads,looksWeak,aev_tmp,aev_const,upd_at,↓reduceIte,Nat.reduceEqDiff,Nat.reduceLT,Nat.reduceAdd,ofL_zero,ofL_succ,blkOf,oeq_refl,oeq_of,dead_cells,dead_map,Bool.and_true,Bool.and_self,Bool.false_eq_true,Bool.not_false,gc3,bc,cb,hcb,AHeap.get_set_same]
     simp (disch := first | assumption | simp) only [↓sbD,sbU,tyB,Nat.reduceMul,Nat.reduceSub,Int.reduceEq,Int.reduceLT,Int.reduceLE,Int.reduceNe,Nat.reduceBneDiff,Nat.reduceBEq,decide_false,gt_iff_lt,Bool.or_self,Bool.false_eq_true,Nat.mul_one,Nat.one_mul,Nat.zero_mul,↓reduceIte,Nat.reduceEqDiff,Nat.reduceLT,Nat.reduceAdd,Nat.reduceLeDiff,reduceCtorEq,goInt,pairs,isConst,TI.isAgg,splice,boxS,Edp,dpv,Nat.beq_eq,ZV.val,List.any_cons,List.any_nil,Bool.false_and,gc3,bc,cb,hac,res_cellc,resC_some]
     refine downS_le ?_ (hbad 3 130 p rfl (σ3.set c (.cells [.int .i64 x.id,.int .i64 x.n,.string x.s,.string x.v] true 0)) 1 _ x (((k1.trans k2).trans k3).setD hc) (by omega) (ErN.new _ _ ⟨by omega,by omega⟩) (by omega))
     exact Le.set (Le.new' (Le.new hb) hb)
end
set_option maxHeartbeats 4000000
section
variable {σ : AHeap} {Q : Value → AHeap → Prop}
end
set_option maxHeartbeats 2000000
section
variable {σ : AHeap} {Q : Value → AHeap → Prop} {r p : Nat} {s : ByteArray}
end
end Go.Proofs.YtkhcbbpfchgemaaDoor.AbsB
