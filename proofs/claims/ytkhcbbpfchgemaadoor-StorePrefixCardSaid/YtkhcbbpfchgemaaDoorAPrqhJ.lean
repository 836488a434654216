/-
  Parts of a law's proof.
-/
import Derived.Test.YtkhcbbpfchgemaaDoorAPrqcJ
import Derived.Test.YtkhcbbpfchgemaaDoorARdqeJ
namespace Go.Proofs.YtkhcbbpfchgemaaDoor.AbsB
open Go AbsYtkhcbbpfchgemaaDoor Abs
set_option maxRecDepth 100000
set_option maxHeartbeats 2000000
set_option linter.unusedSimpArgs false
set_option linter.unusedVariables false
attribute [local irreducible] afterS afterOpS opSK OpsS TrS CodeS condS condW thenS thenQ guardS guardTS outS drawS trSK consS
theorem Kept.setD {σ σ' : AHeap} {fp fp' : List Nat} {c : Nat} {o : AObj} (k : Kept σ fp σ' fp') (hc : σ.get c = .dead) : Kept σ fp (σ'.set c o) fp' :=
 ⟨fun b hb hn => by rw [AHeap.get_set_ne _ _ (by rintro rfl; exact hb hc)]; exact k.get b hb hn,k.new⟩
theorem Kept.fst {σ σ' : AHeap} {fp : List Nat} {r : Nat} (k : Kept σ [] σ' fp) : Kept σ [r] σ' [r] := ⟨fun b hb hn => k.get b hb (by simp),fun _ h => .inl h⟩
theorem numR_le {s : ByteArray} {p k n q : Nat} (h : numR s p k = .ok (n,q)) : p ≤ q ∧ q ≤ s.size := by
 have := numR_ok h; omega
theorem varR_le {s : ByteArray} {p n q : Nat} (hp : p ≤ s.size) (h : varR s p = .ok (n,q)) : p < q ∧ q ≤ s.size ∧ n < 268435456 := by
 unfold varR at h
 have h1 := takeF_k (s.extract p s.size) 4 0 0 (by omega)
 have h2 := takeF_pos (s.extract p s.size) 4 0 0
 cases ht : takeF (s.extract p s.size) 4 0 0 with
 | inl a =>
  obtain ⟨m,j⟩ := a
  rw [ht] at h h1 h2
  have h1 : j ≤ (s.extract p s.size).size := h1
  have h2 : 0 < j := h2
  have h3 := takeF_n ht
  rw [ByteArray.size_extract] at h1
  simp only [Except.ok.injEq,Prod.mk.injEq] at h
  omega
 | inr e => obtain ⟨k,q'⟩ := e; rw [ht] at h; cases h
theorem textR_ok {s v : ByteArray} {p q : Nat} (h : textR s p = .ok (v,q)) : p ≤ q ∧ q ≤ s.size := by
 unfold textR at h
 cases hb : binR s p with
 | error e => rw [hb] at h; cases h
 | ok a =>
  obtain ⟨b,q'⟩ := a
  rw [hb] at h
  have := binR_ok hb
  simp only at h
  split at h
  ·simp only [Except.ok.injEq,Prod.mk.injEq] at h; omega
  ·cases h
section
variable {σ : AHeap} {Q : Value → AHeap → Prop} {r : Nat} {s : ByteArray} {p : Nat}
theorem valueR_le {id : Int} {x : Pr} {q : Nat} (hp : p ≤ s.size) (h : valueR id s p = .ok (x,q)) : p ≤ q ∧ q ≤ s.size := by
 unfold valueR at h
 split at h
 ·cases h1 : textR s p with
  | error e => rw [h1] at h; cases h
  | ok a =>
   obtain ⟨a,q1⟩ := a
   rw [h1] at h
   simp only at h
   cases h2 : textR s q1 with
   | error e => rw [h2] at h; cases h
   | ok b =>
    obtain ⟨b,q2⟩ := b
    rw [h2] at h
    have := textR_ok h1
    have := textR_ok h2
    simp only [Except.ok.injEq,Prod.mk.injEq] at h
    omega
 ·have key : ∀ n a q,rdA (typI id) s p = .ok ((n,a),q) → p ≤ q ∧ q ≤ s.size := by
   intro n a q h
   unfold rdA at h
   have mN : ∀ r : Rd Nat,mapN r = .ok ((n,a),q) → ∃ m,r = .ok (m,q) := by
    intro r hr
    unfold mapN at hr
    split at hr
    ·rename_i m q'; simp only [Except.ok.injEq,Prod.mk.injEq] at hr; exact ⟨m,by rw [hr.2]⟩
    ·cases hr
   have mS : ∀ r : Rd ByteArray,mapS r = .ok ((n,a),q) → ∃ m,r = .ok (m,q) := by
    intro r hr
    unfold mapS at hr
    split at hr
    ·rename_i m q'; simp only [Except.ok.injEq,Prod.mk.injEq] at hr; exact ⟨m,by rw [hr.2]⟩
    ·cases hr
   split at h
   ·obtain ⟨m,h⟩ := mN _ h; exact numR_le h
   split at h
   ·obtain ⟨m,h⟩ := mN _ h; exact numR_le h
   split at h
   ·obtain ⟨m,h⟩ := mN _ h; exact numR_le h
   split at h
   ·obtain ⟨m,h⟩ := mN _ h; have := varR_le hp h; omega
   split at h
   ·obtain ⟨m,h⟩ := mS _ h; exact textR_ok h
   ·obtain ⟨m,h⟩ := mS _ h; have := binR_ok h; omega
  cases h1 : rdA (typI id) s p with
  | error e => rw [h1] at h; cases h
  | ok a =>
   obtain ⟨⟨n,a⟩,q1⟩ := a
   rw [h1] at h
   simp only [Except.ok.injEq,Prod.mk.injEq] at h
   have := key _ _ _ h1
   omega
theorem specPValue {id : Int} (ht0 : typI id ≠ 0) (hr : IsR σ r s p .nilIface) (hp : p ≤ s.size) (hs : s.size ≤ 100000000)
  (hok : ∀ x q,valueR id s p = .ok (x,q) → ∀ σ',Kept σ [r] σ' [r] → IsR σ' r s q .nilIface → Q (.agg ⟨propC x⟩) σ')
  (hbad : ∀ k q,valueR id s p = .error (k,q) → ∀ σ' p' y,Kept σ [r] σ' [r] → RBad σ' r s p' k q → Q (.agg ⟨propC y⟩) σ') :
  CallS E B 54 [.pointer (some ⟨r,0,none⟩),.int .i64 id] σ Q := by
 unfold valueR at hok hbad
 refine call54 (by simp) ?_
 simp only [strip,bodyOf,Tryd.f54,getD_body,keepN,bareOp_mk,lessOp_mk,lapp_cons,lapp_nil,List.map_cons,List.map_nil,array_toList,↓reduceIte,Nat.reduceEqDiff,Bool.false_eq_true]
 simp (disch := first | assumption | simp) only [↓sbD,sbU,tyB,Nat.reduceMul,Nat.reduceSub,Int.reduceEq,Int.reduceLT,Int.reduceLE,Int.reduceNe,Nat.reduceBneDiff,Nat.reduceBEq,decide_false,gt_iff_lt,Bool.or_self,Bool.false_eq_true,Nat.mul_one,Nat.one_mul,Nat.zero_mul,↓reduceIte,Nat.reduceEqDiff,Nat.reduceLT,Nat.reduceAdd,Nat.reduceLeDiff,reduceCtorEq,goInt,pairs,isConst,TI.isAgg,splice,boxS,Edp,dpv,Nat.beq_eq,ZV.val,List.any_cons,List.any_nil,Bool.false_and,AS_new,zePr]
 intro c hc d hd
 have hcr : c ≠ r := by rintro rfl; rw [hr] at hc; cases hc
 have hdc : d ≠ c := by rintro rfl; rw [AHeap.get_set_same] at hd; cases hd
 have hd0 : σ.get d = .dead := by rw [AHeap.get_set_ne _ _ hdc.symm] at hd; exact hd
 have hdr : d ≠ r := by rintro rfl; rw [hr] at hd0; cases hd0
 generalize hσ1 : AHeap.set (AHeap.set (AHeap.set σ c _) d _) d _ = σ1
 have k1 : Kept σ [r] σ1 [r] := by rw [← hσ1]; exact (((Kept.refl σ [r]).setD hc).setD hd0).setD hd0
 have g1 : σ1.get d = .cells [.int .i64 id,.int .i64 0,.string ⟨#[]⟩,.string ⟨#[]⟩] true 0 := by rw [← hσ1]; exact AHeap.get_set_same _ _ _
 have gc1 : σ1.get c = .cells [.int .i64 0,.int .i64 0,.string ⟨#[]⟩,.string ⟨#[]⟩] true 0 := by rw [← hσ1,AHeap.get_set_ne _ _ hdc,AHeap.get_set_ne _ _ hdc]; exact AHeap.get_set_same _ _ _
 have i1 : IsR σ1 r s p .nilIface := by rw [← hσ1]; unfold IsR; rw [AHeap.get_set_ne _ _ hdr,AHeap.get_set_ne _ _ hdr,AHeap.get_set_ne _ _ hcr]; exact hr
 clear hσ1 hd
 have dc : ∀ (τ : AHeap) o,(AHeap.set τ d o).get c = τ.get c := fun τ o => AHeap.get_set_ne _ _ hdc
 have xr : ∀ (τ : AHeap) o o',(AHeap.set (AHeap.set τ d o) c o').get r = τ.get r := fun τ o o' => by rw [AHeap.get_set_ne _ _ hcr,AHeap.get_set_ne _ _ hdr]
 refine specType ?_
 rcases typ_cases id with ht | ht | ht | ht | ht | ht | ht | ht
 ·exact absurd ht ht0
 ·rw [ht,if_neg (by decide)] at hok hbad
  simp only [rdA,Int.reduceEq,if_true,if_false] at hok hbad
  simp (disch := first | assumption | simp) only [↓sbD,sbU,tyB,Nat.reduceMul,Nat.reduceSub,Int.reduceEq,Int.reduceLT,Int.reduceLE,Int.reduceNe,Nat.reduceBneDiff,Nat.reduceBEq,decide_false,gt_iff_lt,Bool.or_self,Bool.false_eq_true,Nat.mul_one,Nat.one_mul,Nat.zero_mul,↓reduceIte,Nat.reduceEqDiff,Nat.reduceLT,Nat.reduceAdd,Nat.reduceLeDiff,reduceCtorEq,goInt,pairs,isConst,TI.isAgg,splice,boxS,Edp,dpv,Nat.beq_eq,ZV.val,List.any_cons,List.any_nil,Bool.false_and,ht]
  refine specRU8 i1 hp (by omega) (fun n q hn σ2 k2 i2 => ?_) fun k q hn σ2 k2 i2 => ?_
  ·have g2 := (k2.at g1 (by simp) (by simpa using hdr)).1
   have gc2 := (k2.at gc1 (by simp) (by simpa using hcr)).1
   simp (disch := first | assumption | simp) only [↓sbD,sbU,tyB,Nat.reduceMul,Nat.reduceSub,Int.reduceEq,Int.reduceLT,Int.reduceLE,Int.reduceNe,Nat.reduceBneDiff,Nat.reduceBEq,decide_false,gt_iff_lt,Bool.or_self,Bool.false_eq_true,Nat.mul_one,Nat.one_mul,Nat.zero_mul,↓reduceIte,Nat.reduceEqDiff,Nat.reduceLT,Nat.reduceAdd,Nat.reduceLeDiff,reduceCtorEq,goInt,pairs,isConst,TI.isAgg,splice,boxS,Edp,dpv,Nat.beq_eq,ZV.val,List.any_cons,List.any_nil,Bool.false_and,g2,gc2,dc]
   have kk := (k1.trans k2).setD (o := .cells [.int .i64 id,.int .i64 (n : Int),.string ⟨#[]⟩,.string ⟨#[]⟩] true 0) hd0
   have kk2 := kk.setD (o := .cells [.int .i64 id,.int .i64 (n : Int),.string ⟨#[]⟩,.string ⟨#[]⟩] true 0) hc
   exact downS_here (hok ⟨id,n,emp,emp⟩ q (by rw [hn]; rfl) _ kk2 (by unfold IsR; rw [xr]; exact i2))
  ·obtain ⟨e,z,he1,he2,i3⟩ := i2
   have g2 := (k2.at g1 (by simp) (by simpa using hdr)).1
   have gc2 := (k2.at gc1 (by simp) (by simpa using hcr)).1
   simp (disch := first | assumption | simp) only [↓sbD,sbU,tyB,Nat.reduceMul,Nat.reduceSub,Int.reduceEq,Int.reduceLT,Int.reduceLE,Int.reduceNe,Nat.reduceBneDiff,Nat.reduceBEq,decide_false,gt_iff_lt,Bool.or_self,Bool.false_eq_true,Nat.mul_one,Nat.one_mul,Nat.zero_mul,↓reduceIte,Nat.reduceEqDiff,Nat.reduceLT,Nat.reduceAdd,Nat.reduceLeDiff,reduceCtorEq,goInt,pairs,isConst,TI.isAgg,splice,boxS,Edp,dpv,Nat.beq_eq,ZV.val,List.any_cons,List.any_nil,Bool.false_and,g2,gc2,dc]
   have kk := (k1.trans k2).setD (o := .cells [.int .i64 id,.int .i64 0,.string ⟨#[]⟩,.string ⟨#[]⟩] true 0) hd0
   have kk2 := kk.setD (o := .cells [.int .i64 id,.int .i64 0,.string ⟨#[]⟩,.string ⟨#[]⟩] true 0) hc
   exact downS_here (hbad k q (by rw [hn]; rfl) _ p ⟨id,0,emp,emp⟩ kk2 ⟨e,z,he1,he2,by unfold IsR; rw [xr]; exact i3⟩)
 ·rw [ht,if_neg (by decide)] at hok hbad
  simp only [rdA,Int.reduceEq,if_true,if_false] at hok hbad
  simp (disch := first | assumption | simp) only [↓sbD,sbU,tyB,Nat.reduceMul,Nat.reduceSub,Int.reduceEq,Int.reduceLT,Int.reduceLE,Int.reduceNe,Nat.reduceBneDiff,Nat.reduceBEq,decide_false,gt_iff_lt,Bool.or_self,Bool.false_eq_true,Nat.mul_one,Nat.one_mul,Nat.zero_mul,↓reduceIte,Nat.reduceEqDiff,Nat.reduceLT,Nat.reduceAdd,Nat.reduceLeDiff,reduceCtorEq,goInt,pairs,isConst,TI.isAgg,splice,boxS,Edp,dpv,Nat.beq_eq,ZV.val,List.any_cons,List.any_nil,Bool.false_and,ht]
  refine specRU16 i1 hp (by omega) (fun n q hn σ2 k2 i2 => ?_) fun k q hn σ2 k2 i2 => ?_
  ·have g2 := (k2.at g1 (by simp) (by simpa using hdr)).1
   have gc2 := (k2.at gc1 (by simp) (by simpa using hcr)).1
   simp (disch := first | assumption | simp) only [↓sbD,sbU,tyB,Nat.reduceMul,Nat.reduceSub,Int.reduceEq,Int.reduceLT,Int.reduceLE,Int.reduceNe,Nat.reduceBneDiff,Nat.reduceBEq,decide_false,gt_iff_lt,Bool.or_self,Bool.false_eq_true,Nat.mul_one,Nat.one_mul,Nat.zero_mul,↓reduceIte,Nat.reduceEqDiff,Nat.reduceLT,Nat.reduceAdd,Nat.reduceLeDiff,reduceCtorEq,goInt,pairs,isConst,TI.isAgg,splice,boxS,Edp,dpv,Nat.beq_eq,ZV.val,List.any_cons,List.any_nil,Bool.false_and,g2,gc2,dc]
   have kk := (k1.trans k2).setD (o := .cells [.int .i64 id,.int .i64 (n : Int),.string ⟨#[]⟩,.string ⟨#[]⟩] true 0) hd0
   have kk2 := kk.setD (o := .cells [.int .i64 id,.int .i64 (n : Int),.string ⟨#[]⟩,.string ⟨#[]⟩] true 0) hc
   exact downS_here (hok ⟨id,n,emp,emp⟩ q (by rw [hn]; rfl) _ kk2 (by unfold IsR; rw [xr]; exact i2))
  ·obtain ⟨e,z,he1,he2,i3⟩ := i2
   have g2 := (k2.at g1 (by simp) (by simpa using hdr)).1
   have gc2 := (k2.at gc1 (by simp) (by simpa using hcr)).1
   simp (disch := first | assumption | simp) only [↓sbD,sbU,tyB,Nat.reduceMul,Nat.reduceSub,Int.reduceEq,Int.reduceLT,Int.reduceLE,Int.reduceNe,Nat.reduceBneDiff,Nat.reduceBEq,decide_false,gt_iff_lt,Bool.or_self,Bool.false_eq_true,Nat.mul_one,Nat.one_mul,Nat.zero_mul,↓reduceIte,Nat.reduceEqDiff,Nat.reduceLT,Nat.reduceAdd,Nat.reduceLeDiff,reduceCtorEq,goInt,pairs,isConst,TI.isAgg,splice,boxS,Edp,dpv,Nat.beq_eq,ZV.val,List.any_cons,List.any_nil,Bool.false_and,g2,gc2,dc]
   have kk := (k1.trans k2).setD (o := .cells [.int .i64 id,.int .i64 0,.string ⟨#[]⟩,.string ⟨#[]⟩] true 0) hd0
   have kk2 := kk.setD (o := .cells [.int .i64 id,.int .i64 0,.string ⟨#[]⟩,.string ⟨#[]⟩] true 0) hc
   exact downS_here (hbad k q (by rw [hn]; rfl) _ p ⟨id,0,emp,emp⟩ kk2 ⟨e,z,he1,he2,by unfold IsR; rw [xr]; exact i3⟩)
 ·rw [ht,if_neg (by decide)] at hok hbad
  simp only [rdA,Int.reduceEq,if_true,if_false] at hok hbad
  simp (disch := first | assumption | simp) only [↓sbD,sbU,tyB,Nat.reduceMul,Nat.reduceSub,Int.reduceEq,Int.reduceLT,Int.reduceLE,Int.reduceNe,Nat.reduceBneDiff,Nat.reduceBEq,decide_false,gt_iff_lt,Bool.or_self,Bool.false_eq_true,Nat.mul_one,Nat.one_mul,Nat.zero_mul,↓reduceIte,Nat.reduceEqDiff,Nat.reduceLT,Nat.reduceAdd,Nat.reduceLeDiff,reduceCtorEq,goInt,pairs,isConst,TI.isAgg,splice,boxS,Edp,dpv,Nat.beq_eq,ZV.val,List.any_cons,List.any_nil,Bool.false_and,ht]
  refine specRU32 i1 hp (by omega) (fun n q hn σ2 k2 i2 => ?_) fun k q hn σ2 k2 i2 => ?_
  ·have g2 := (k2.at g1 (by simp) (by simpa using hdr)).1
   have gc2 := (k2.at gc1 (by simp) (by simpa using hcr)).1
   simp (disch := first | assumption | simp) only [↓sbD,sbU,tyB,Nat.reduceMul,Nat.reduceSub,Int.reduceEq,Int.reduceLT,Int.reduceLE,Int.reduceNe,Nat.reduceBneDiff,Nat.reduceBEq,decide_false,gt_iff_lt,Bool.or_self,Bool.false_eq_true,Nat.mul_one,Nat.one_mul,Nat.zero_mul,↓reduceIte,Nat.reduceEqDiff,Nat.reduceLT,Nat.reduceAdd,Nat.reduceLeDiff,reduceCtorEq,goInt,pairs,isConst,TI.isAgg,splice,boxS,Edp,dpv,Nat.beq_eq,ZV.val,List.any_cons,List.any_nil,Bool.false_and,g2,gc2,dc]
   have kk := (k1.trans k2).setD (o := .cells [.int .i64 id,.int .i64 (n : Int),.string ⟨#[]⟩,.string ⟨#[]⟩] true 0) hd0
   have kk2 := kk.setD (o := .cells [.int .i64 id,.int .i64 (n : Int),.string ⟨#[]⟩,.string ⟨#[]⟩] true 0) hc
   exact downS_here (hok ⟨id,n,emp,emp⟩ q (by rw [hn]; rfl) _ kk2 (by unfold IsR; rw [xr]; exact i2))
  ·obtain ⟨e,z,he1,he2,i3⟩ := i2
   have g2 := (k2.at g1 (by simp) (by simpa using hdr)).1
   have gc2 := (k2.at gc1 (by simp) (by simpa using hcr)).1
   simp (disch := first | assumption | simp) only [↓sbD,sbU,tyB,Nat.reduceMul,Nat.reduceSub,Int.reduceEq,Int.reduceLT,Int.reduceLE,Int.reduceNe,Nat.reduceBneDiff,Nat.reduceBEq,decide_false,gt_iff_lt,Bool.or_self,Bool.false_eq_true,Nat.mul_one,Nat.one_mul,Nat.zero_mul,↓reduceIte,Nat.reduceEqDiff,Nat.reduceLT,Nat.reduceAdd,Nat.reduceLeDiff,reduceCtorEq,goInt,pairs,isConst,TI.isAgg,splice,boxS,Edp,dpv,Nat.beq_eq,ZV.val,List.any_cons,List.any_nil,Bool.false_and,g2,gc2,dc]
   have kk := (k1.trans k2).setD (o := .cells [.int .i64 id,.int .i64 0,.string ⟨#[]⟩,.string ⟨#[]⟩] true 0) hd0
   have kk2 := kk.setD (o := .cells [.int .i64 id,.int .i64 0,.string ⟨#[]⟩,.string ⟨#[]⟩] true 0) hc
   exact downS_here (hbad k q (by rw [hn]; rfl) _ p ⟨id,0,emp,emp⟩ kk2 ⟨e,z,he1,he2,by unfold IsR; rw [xr]; exact i3⟩)
 ·rw [ht,if_neg (by decide)] at hok hbad
  simp only [rdA,Int.reduceEq,if_true,if_false] at hok hbad
  simp (disch := first | assumption | simp) only [↓sbD,sbU,tyB,Nat.reduceMul,Nat.reduceSub,Int.reduceEq,Int.reduceLT,Int.reduceLE,Int.reduceNe,Nat.reduceBneDiff,Nat.reduceBEq,decide_false,gt_iff_lt,Bool.or_self,Bool.false_eq_true,Nat.mul_one,Nat.one_mul,Nat.zero_mul,↓reduceIte,Nat.reduceEqDiff,Nat.reduceLT,Nat.reduceAdd,Nat.reduceLeDiff,reduceCtorEq,goInt,pairs,isConst,TI.isAgg,splice,boxS,Edp,dpv,Nat.beq_eq,ZV.val,List.any_cons,List.any_nil,Bool.false_and,ht]
  refine specRVar i1 hp (by omega) (fun n q hn σ2 k2 i2 => ?_) fun k q hn σ2 k2 i2 => ?_
  ·have g2 := (k2.at g1 (by simp) (by simpa using hdr)).1
   have gc2 := (k2.at gc1 (by simp) (by simpa using hcr)).1
   simp (disch := first | assumption | simp) only [↓sbD,sbU,tyB,Nat.reduceMul,Nat.reduceSub,Int.reduceEq,Int.reduceLT,Int.reduceLE,Int.reduceNe,Nat.reduceBneDiff,Nat.reduceBEq,decide_false,gt_iff_lt,Bool.or_self,Bool.false_eq_true,Nat.mul_one,Nat.one_mul,Nat.zero_mul,↓reduceIte,Nat.reduceEqDiff,Nat.reduceLT,Nat.reduceAdd,Nat.reduceLeDiff,reduceCtorEq,goInt,pairs,isConst,TI.isAgg,splice,boxS,Edp,dpv,Nat.beq_eq,ZV.val,List.any_cons,List.any_nil,Bool.false_and,g2,gc2,dc]
   have kk := (k1.trans k2).setD (o := .cells [.int .i64 id,.int .i64 (n : Int),.string ⟨#[]⟩,.string ⟨#[]⟩] true 0) hd0
   have kk2 := kk.setD (o := .cells [.int .i64 id,.int .i64 (n : Int),.string ⟨#[]⟩,.string ⟨#[]⟩] true 0) hc
   exact downS_here (hok ⟨id,n,emp,emp⟩ q (by rw [hn]; rfl) _ kk2 (by unfold IsR; rw [xr]; exact i2))
  ·obtain ⟨e,z,he1,he2,i3⟩ := i2
   have g2 := (k2.at g1 (by simp) (by simpa using hdr)).1
   have gc2 := (k2.at gc1 (by simp) (by simpa using hcr)).1
   simp (disch := first | assumption | simp) only [↓sbD,sbU,tyB,Nat.reduceMul,Nat.reduceSub,Int.reduceEq,Int.reduceLT,Int.reduceLE,Int.reduceNe,Nat.reduceBneDiff,Nat.reduceBEq,decide_false,gt_iff_lt,Bool.or_self,Bool.false_eq_true,Nat.mul_one,Nat.one_mul,Nat.zero_mul,↓reduceIte,Nat.reduceEqDiff,Nat.reduceLT,Nat.reduceAdd,Nat.reduceLeDiff,reduceCtorEq,goInt,pairs,isConst,TI.isAgg,splice,boxS,Edp,dpv,Nat.beq_eq,ZV.val,List.any_cons,List.any_nil,Bool.false_and,g2,gc2,dc]
   have kk := (k1.trans k2).setD (o := .cells [.int .i64 id,.int .i64 0,.string ⟨#[]⟩,.string ⟨#[]⟩] true 0) hd0
   have kk2 := kk.setD (o := .cells [.int .i64 id,.int .i64 0,.string ⟨#[]⟩,.string ⟨#[]⟩] true 0) hc
   exact downS_here (hbad k q (by rw [hn]; rfl) _ p ⟨id,0,emp,emp⟩ kk2 ⟨e,z,he1,he2,by unfold IsR; rw [xr]; exact i3⟩)
 ·rw [ht,if_neg (by decide)] at hok hbad
  simp only [rdA,Int.reduceEq,if_true,if_false] at hok hbad
  simp (disch := first | assumption | simp) only [↓sbD,sbU,tyB,Nat.reduceMul,Nat.reduceSub,Int.reduceEq,Int.reduceLT,Int.reduceLE,Int.reduceNe,Nat.reduceBneDiff,Nat.reduceBEq,decide_false,gt_iff_lt,Bool.or_self,Bool.false_eq_true,Nat.mul_one,Nat.one_mul,Nat.zero_mul,↓reduceIte,Nat.reduceEqDiff,Nat.reduceLT,Nat.reduceAdd,Nat.reduceLeDiff,reduceCtorEq,goInt,pairs,isConst,TI.isAgg,splice,boxS,Edp,dpv,Nat.beq_eq,ZV.val,List.any_cons,List.any_nil,Bool.false_and,ht]
  refine specDText i1 hp (by omega) (fun n q hn σ2 k2 i2 => ?_) fun k q hn σ2 k2 i2 => ?_
  ·have g2 := (k2.at g1 (by simp) (by simpa using hdr)).1
   have gc2 := (k2.at gc1 (by simp) (by simpa using hcr)).1
   simp (disch := first | assumption | simp) only [↓sbD,sbU,tyB,Nat.reduceMul,Nat.reduceSub,Int.reduceEq,Int.reduceLT,Int.reduceLE,Int.reduceNe,Nat.reduceBneDiff,Nat.reduceBEq,decide_false,gt_iff_lt,Bool.or_self,Bool.false_eq_true,Nat.mul_one,Nat.one_mul,Nat.zero_mul,↓reduceIte,Nat.reduceEqDiff,Nat.reduceLT,Nat.reduceAdd,Nat.reduceLeDiff,reduceCtorEq,goInt,pairs,isConst,TI.isAgg,splice,boxS,Edp,dpv,Nat.beq_eq,ZV.val,List.any_cons,List.any_nil,Bool.false_and,g2,gc2,dc]
   have kk := (k1.trans k2).setD (o := .cells [.int .i64 id,.int .i64 0,.string n,.string ⟨#[]⟩] true 0) hd0
   have kk2 := kk.setD (o := .cells [.int .i64 id,.int .i64 0,.string n,.string ⟨#[]⟩] true 0) hc
   exact downS_here (hok ⟨id,0,n,emp⟩ q (by rw [hn]; rfl) _ kk2 (by unfold IsR; rw [xr]; exact i2))
  ·obtain ⟨e,z,he1,he2,i3⟩ := i2
   have g2 := (k2.at g1 (by simp) (by simpa using hdr)).1
   have gc2 := (k2.at gc1 (by simp) (by simpa using hcr)).1
   simp (disch := first | assumption | simp) only [↓sbD,sbU,tyB,Nat.reduceMul,Nat.reduceSub,Int.reduceEq,Int.reduceLT,Int.reduceLE,Int.reduceNe,Nat.reduceBneDiff,Nat.reduceBEq,decide_false,gt_iff_lt,Bool.or_self,Bool.false_eq_true,Nat.mul_one,Nat.one_mul,Nat.zero_mul,↓reduceIte,Nat.reduceEqDiff,Nat.reduceLT,Nat.reduceAdd,Nat.reduceLeDiff,reduceCtorEq,goInt,pairs,isConst,TI.isAgg,splice,boxS,Edp,dpv,Nat.beq_eq,ZV.val,List.any_cons,List.any_nil,Bool.false_and,g2,gc2,dc]
   have kk := (k1.trans k2).setD (o := .cells [.int .i64 id,.int .i64 0,.string ⟨#[]⟩,.string ⟨#[]⟩] true 0) hd0
   have kk2 := kk.setD (o := .cells [.int .i64 id,.int .i64 0,.string ⟨#[]⟩,.string ⟨#[]⟩] true 0) hc
   exact downS_here (hbad k q (by rw [hn]; rfl) _ p ⟨id,0,emp,emp⟩ kk2 ⟨e,z,he1,he2,by unfold IsR; rw [xr]; exact i3⟩)
 ·rw [ht,if_neg (by decide)] at hok hbad
  simp only [rdA,Int.reduceEq,if_true,if_false] at hok hbad
  simp (disch := first | assumption | simp) only [↓sbD,sbU,tyB,Nat.reduceMul,Nat.reduceSub,Int.reduceEq,Int.reduceLT,Int.reduceLE,Int.reduceNe,Nat.reduceBneDiff,Nat.reduceBEq,decide_false,gt_iff_lt,Bool.or_self,Bool.false_eq_true,Nat.mul_one,Nat.one_mul,Nat.zero_mul,↓reduceIte,Nat.reduceEqDiff,Nat.reduceLT,Nat.reduceAdd,Nat.reduceLeDiff,reduceCtorEq,goInt,pairs,isConst,TI.isAgg,splice,boxS,Edp,dpv,Nat.beq_eq,ZV.val,List.any_cons,List.any_nil,Bool.false_and,ht]
  refine specRBin i1 hp (by omega) (fun n q hn σ2 k2 i2 => ?_) fun k q hn σ2 k2 i2 => ?_
  ·have g2 := (k2.at g1 (by simp) (by simpa using hdr)).1
   have gc2 := (k2.at gc1 (by simp) (by simpa using hcr)).1
   simp (disch := first | assumption | simp) only [↓sbD,sbU,tyB,Nat.reduceMul,Nat.reduceSub,Int.reduceEq,Int.reduceLT,Int.reduceLE,Int.reduceNe,Nat.reduceBneDiff,Nat.reduceBEq,decide_false,gt_iff_lt,Bool.or_self,Bool.false_eq_true,Nat.mul_one,Nat.one_mul,Nat.zero_mul,↓reduceIte,Nat.reduceEqDiff,Nat.reduceLT,Nat.reduceAdd,Nat.reduceLeDiff,reduceCtorEq,goInt,pairs,isConst,TI.isAgg,splice,boxS,Edp,dpv,Nat.beq_eq,ZV.val,List.any_cons,List.any_nil,Bool.false_and,g2,gc2,dc]
   have kk := (k1.trans k2).setD (o := .cells [.int .i64 id,.int .i64 0,.string n,.string ⟨#[]⟩] true 0) hd0
   have kk2 := kk.setD (o := .cells [.int .i64 id,.int .i64 0,.string n,.string ⟨#[]⟩] true 0) hc
   exact downS_here (hok ⟨id,0,n,emp⟩ q (by rw [hn]; rfl) _ kk2 (by unfold IsR; rw [xr]; exact i2))
  ·obtain ⟨e,z,he1,he2,i3⟩ := i2
   have g2 := (k2.at g1 (by simp) (by simpa using hdr)).1
   have gc2 := (k2.at gc1 (by simp) (by simpa using hcr)).1
   simp (disch := first | assumption | simp) only [↓sbD,sbU,tyB,Nat.reduceMul,Nat.reduceSub,Int.reduceEq,Int.reduceLT,Int.reduceLE,Int.reduceNe,Nat.reduceBneDiff,Nat.reduceBEq,decide_false,gt_iff_lt,Bool.or_self,Bool.false_eq_true,Nat.mul_one,Nat.one_mul,Nat.zero_mul,↓reduceIte,Nat.reduceEqDiff,Nat.reduceLT,Nat.reduceAdd,Nat.reduceLeDiff,reduceCtorEq,goInt,pairs,isConst,TI.isAgg,splice,boxS,Edp,dpv,Nat.beq_eq,ZV.val,List.any_cons,List.any_nil,Bool.false_and,g2,gc2,dc]
   have kk := (k1.trans k2).setD (o := .cells [.int .i64 id,.int .i64 0,.string ⟨#[]⟩,.string ⟨#[]⟩] true 0) hd0
   have kk2 := kk.setD (o := .cells [.int .i64 id,.int .i64 0,.string ⟨#[]⟩,.string ⟨#[]⟩] true 0) hc
   exact downS_here (hbad k q (by rw [hn]; rfl) _ p ⟨id,0,emp,emp⟩ kk2 ⟨e,z,he1,he2,by unfold IsR; rw [xr]; exact i3⟩)
 ·rw [ht,if_pos rfl] at hok hbad
  simp (disch := first | assumption | simp) only [↓sbD,sbU,tyB,Nat.reduceMul,Nat.reduceSub,Int.reduceEq,Int.reduceLT,Int.reduceLE,Int.reduceNe,Nat.reduceBneDiff,Nat.reduceBEq,decide_false,gt_iff_lt,Bool.or_self,Bool.false_eq_true,Nat.mul_one,Nat.one_mul,Nat.zero_mul,↓reduceIte,Nat.reduceEqDiff,Nat.reduceLT,Nat.reduceAdd,Nat.reduceLeDiff,reduceCtorEq,goInt,pairs,isConst,TI.isAgg,splice,boxS,Edp,dpv,Nat.beq_eq,ZV.val,List.any_cons,List.any_nil,Bool.false_and,ht]
  refine specDText i1 hp (by omega) (fun a q ha σ2 k2 i2 => ?_) fun k q ha σ2 k2 i2 => ?_
  ·have hq := textR_ok ha
   have g2 := (k2.at g1 (by simp) (by simpa using hdr)).1
   have gc2 := (k2.at gc1 (by simp) (by simpa using hcr)).1
   simp (disch := first | assumption | simp) only [↓sbD,sbU,tyB,Nat.reduceMul,Nat.reduceSub,Int.reduceEq,Int.reduceLT,Int.reduceLE,Int.reduceNe,Nat.reduceBneDiff,Nat.reduceBEq,decide_false,gt_iff_lt,Bool.or_self,Bool.false_eq_true,Nat.mul_one,Nat.one_mul,Nat.zero_mul,↓reduceIte,Nat.reduceEqDiff,Nat.reduceLT,Nat.reduceAdd,Nat.reduceLeDiff,reduceCtorEq,goInt,pairs,isConst,TI.isAgg,splice,boxS,Edp,dpv,Nat.beq_eq,ZV.val,List.any_cons,List.any_nil,Bool.false_and,g2,gc2,dc]
   generalize hσ3 : AHeap.set σ2 d _ = σ3
   have g3 : σ3.get d = .cells [.int .i64 id,.int .i64 0,.string a,.string ⟨#[]⟩] true 0 := by rw [← hσ3]; exact AHeap.get_set_same _ _ _
   have gc3 : σ3.get c = .cells [.int .i64 0,.int .i64 0,.string ⟨#[]⟩,.string ⟨#[]⟩] true 0 := by rw [← hσ3,dc]; exact gc2
   have k3 : Kept σ [r] σ3 [r] := by rw [← hσ3]; exact (k1.trans k2).setD hd0
   have i3 : IsR σ3 r s q .nilIface := by rw [← hσ3]; unfold IsR; rw [AHeap.get_set_ne _ _ hdr]; exact i2
   refine specDText i3 hq.2 (by omega) (fun b q2 hb σ4 k4 i4 => ?_) fun k q2 hb σ4 k4 i4 => ?_
   ·have g4 := (k4.at g3 (by simp) (by simpa using hdr)).1
    have gc4 := (k4.at gc3 (by simp) (by simpa using hcr)).1
    simp (disch := first | assumption | simp) only [↓sbD,sbU,tyB,Nat.reduceMul,Nat.reduceSub,Int.reduceEq,Int.reduceLT,Int.reduceLE,Int.reduceNe,Nat.reduceBneDiff,Nat.reduceBEq,decide_false,gt_iff_lt,Bool.or_self,Bool.false_eq_true,Nat.mul_one,Nat.one_mul,Nat.zero_mul,↓reduceIte,Nat.reduceEqDiff,Nat.reduceLT,Nat.reduceAdd,Nat.reduceLeDiff,reduceCtorEq,goInt,pairs,isConst,TI.isAgg,splice,boxS,Edp,dpv,Nat.beq_eq,ZV.val,List.any_cons,List.any_nil,Bool.false_and,g4,gc4,dc]
    have kk := (k3.trans k4).setD (o := .cells [.int .i64 id,.int .i64 0,.string a,.string b] true 0) hd0
    have kk2 := kk.setD (o := .cells [.int .i64 id,.int .i64 0,.string a,.string b] true 0) hc
    exact downS_here (hok ⟨id,0,a,b⟩ q2 (by rw [ha]; simp only [hb]) _ kk2 (by unfold IsR; rw [xr]; exact i4))
   ·obtain ⟨e,z,he1,he2,i5⟩ := i4
    have g4 := (k4.at g3 (by simp) (by simpa using hdr)).1
    have gc4 := (k4.at gc3 (by simp) (by simpa using hcr)).1
    simp (disch := first | assumption | simp) only [↓sbD,sbU,tyB,Nat.reduceMul,Nat.reduceSub,Int.reduceEq,Int.reduceLT,Int.reduceLE,Int.reduceNe,Nat.reduceBneDiff,Nat.reduceBEq,decide_false,gt_iff_lt,Bool.or_self,Bool.false_eq_true,Nat.mul_one,Nat.one_mul,Nat.zero_mul,↓reduceIte,Nat.reduceEqDiff,Nat.reduceLT,Nat.reduceAdd,Nat.reduceLeDiff,reduceCtorEq,goInt,pairs,isConst,TI.isAgg,splice,boxS,Edp,dpv,Nat.beq_eq,ZV.val,List.any_cons,List.any_nil,Bool.false_and,g4,gc4,dc]
    have kk := (k3.trans k4).setD (o := .cells [.int .i64 id,.int .i64 0,.string a,.string ⟨#[]⟩] true 0) hd0
    have kk2 := kk.setD (o := .cells [.int .i64 id,.int .i64 0,.string a,.string ⟨#[]⟩] true 0) hc
    exact downS_here (hbad k q2 (by rw [ha]; simp only [hb]) _ q ⟨id,0,a,emp⟩ kk2 ⟨e,z,he1,he2,by unfold IsR; rw [xr]; exact i5⟩)
  ·obtain ⟨e,z,he1,he2,i3⟩ := i2
   have g2 := (k2.at g1 (by simp) (by simpa using hdr)).1
   have gc2 := (k2.at gc1 (by simp) (by simpa using hcr)).1
   simp (disch := first | assumption | simp) only [↓sbD,sbU,tyB,Nat.reduceMul,Nat.reduceSub,Int.reduceEq,Int.reduceLT,Int.reduceLE,Int.reduceNe,Nat.reduceBneDiff,Nat.reduceBEq,decide_false,gt_iff_lt,Bool.or_self,Bool.false_eq_true,Nat.mul_one,Nat.one_mul,Nat.zero_mul,↓reduceIte,Nat.reduceEqDiff,Nat.reduceLT,Nat.reduceAdd,Nat.reduceLeDiff,reduceCtorEq,goInt,pairs,isConst,TI.isAgg,splice,boxS,Edp,dpv,Nat.beq_eq,ZV.val,List.any_cons,List.any_nil,Bool.false_and,g2,gc2,dc]
   generalize hσ3 : AHeap.set σ2 d _ = σ3
   have g3 : σ3.get d = .cells [.int .i64 id,.int .i64 0,.string ⟨#[]⟩,.string ⟨#[]⟩] true 0 := by rw [← hσ3]; exact AHeap.get_set_same _ _ _
   have gc3 : σ3.get c = .cells [.int .i64 0,.int .i64 0,.string ⟨#[]⟩,.string ⟨#[]⟩] true 0 := by rw [← hσ3,dc]; exact gc2
   have k3 : Kept σ [r] σ3 [r] := by rw [← hσ3]; exact (k1.trans k2).setD hd0
   have i4 : IsR σ3 r s p (fv 129 (q : Int) z) := by rw [← hσ3]; unfold IsR; rw [AHeap.get_set_ne _ _ hdr]; exact i3
   refine specDTextE i4 fun σ4 k4 i5 => ?_
   have g4 := (k4.at g3 (by simp) (by simpa using hdr)).1
   have gc4 := (k4.at gc3 (by simp) (by simpa using hcr)).1
   simp (disch := first | assumption | simp) only [↓sbD,sbU,tyB,Nat.reduceMul,Nat.reduceSub,Int.reduceEq,Int.reduceLT,Int.reduceLE,Int.reduceNe,Nat.reduceBneDiff,Nat.reduceBEq,decide_false,gt_iff_lt,Bool.or_self,Bool.false_eq_true,Nat.mul_one,Nat.one_mul,Nat.zero_mul,↓reduceIte,Nat.reduceEqDiff,Nat.reduceLT,Nat.reduceAdd,Nat.reduceLeDiff,reduceCtorEq,goInt,pairs,isConst,TI.isAgg,splice,boxS,Edp,dpv,Nat.beq_eq,ZV.val,List.any_cons,List.any_nil,Bool.false_and,g4,gc4,dc]
   have kk := (k3.trans k4).setD (o := .cells [.int .i64 id,.int .i64 0,.string ⟨#[]⟩,.string emp] true 0) hd0
   have kk2 := kk.setD (o := .cells [.int .i64 id,.int .i64 0,.string ⟨#[]⟩,.string emp] true 0) hc
   exact downS_here (hbad k q (by rw [ha]) _ p ⟨id,0,emp,emp⟩ kk2 ⟨e,z,he1,he2,by unfold IsR; rw [xr]; exact i5⟩)
theorem rawR_er {n : Int} {k q : Nat} (hp : p ≤ s.size) (h : rawR s p n = .error (k,q)) : q ≤ s.size := by
 unfold rawR at h
 split at h
 ·simp only [Except.error.injEq,Prod.mk.injEq] at h; omega
 split at h
 ·simp only [Except.error.injEq,Prod.mk.injEq] at h; omega
 ·cases h
theorem rawR_ok' {n : Int} {v : ByteArray} {q : Nat} (hn : 0 ≤ n) (h : rawR s p n = .ok (v,q)) : q = p + n.toNat ∧ q ≤ s.size ∧ v.size = n.toNat := by
 unfold rawR at h
 split at h
 ·cases h
 split at h
 ·cases h
 ·simp only [Except.ok.injEq,Prod.mk.injEq] at h
  obtain ⟨h1,h2⟩ := h
  subst h1
  rw [ByteArray.size_extract]
  omega
theorem numR_er {m k q : Nat} (hp : p ≤ s.size) (h : numR s p m = .error (k,q)) : q ≤ s.size := by
 unfold numR at h
 cases hb : rawR s p (m : Int) with
 | ok a => rw [hb] at h; cases h
 | error e => obtain ⟨j,q'⟩ := e; rw [hb] at h; simp only [Except.error.injEq,Prod.mk.injEq] at h; have := rawR_er hp hb; omega
theorem varR_er {k q : Nat} (hp : p ≤ s.size) (h : varR s p = .error (k,q)) : q ≤ s.size + 3 := by
 unfold varR at h
 have h1 := takeF_k (s.extract p s.size) 4 0 0 (by omega)
 cases ht : takeF (s.extract p s.size) 4 0 0 with
 | inl a => obtain ⟨m,j⟩ := a; rw [ht] at h; cases h
 | inr e =>
  obtain ⟨j,q'⟩ := e
  rw [ht] at h h1
  have h1 : q' ≤ (s.extract p s.size).size + 3 := h1
  rw [ByteArray.size_extract] at h1
  simp only [Except.error.injEq,Prod.mk.injEq] at h
  omega
theorem binR_er {k q : Nat} (hp : p ≤ s.size) (h : binR s p = .error (k,q)) : q ≤ s.size := by
 unfold binR at h
 cases hb : numR s p 2 with
 | ok a => obtain ⟨n,q'⟩ := a; rw [hb] at h; exact rawR_er (numR_le hb).2 h
 | error e => obtain ⟨j,q'⟩ := e; rw [hb] at h; simp only [Except.error.injEq,Prod.mk.injEq] at h; have := numR_er hp hb; omega
theorem textR_er {k q : Nat} (hp : p ≤ s.size) (h : textR s p = .error (k,q)) : q ≤ s.size + 65537 := by
 unfold textR at h
 cases hb : binR s p with
 | error e => obtain ⟨j,q'⟩ := e; rw [hb] at h; simp only [Except.error.injEq,Prod.mk.injEq] at h; have := binR_er hp hb; omega
 | ok a =>
  obtain ⟨b,q'⟩ := a
  rw [hb] at h
  have h1 := binR_ok hb
  simp only at h
  cases ht : textF b with
  | inl m => rw [ht] at h; cases h
  | inr e =>
   obtain ⟨j,i⟩ := e
   have h2 := textF_p ht
   rw [ht] at h
   simp only [Except.error.injEq,Prod.mk.injEq] at h
   omega
theorem valueR_er {id : Int} {k q : Nat} (hp : p ≤ s.size) (h : valueR id s p = .error (k,q)) : q ≤ s.size + 65537 := by
 unfold valueR at h
 split at h
 ·cases h1 : textR s p with
  | error e => obtain ⟨j,q'⟩ := e; rw [h1] at h; simp only [Except.error.injEq,Prod.mk.injEq] at h; have := textR_er hp h1; omega
  | ok a =>
   obtain ⟨a,q1⟩ := a
   rw [h1] at h
   simp only at h
   cases h2 : textR s q1 with
   | error e => obtain ⟨j,q'⟩ := e; rw [h2] at h; simp only [Except.error.injEq,Prod.mk.injEq] at h; have := textR_er (textR_ok h1).2 h2; omega
   | ok b => obtain ⟨b,q2⟩ := b; rw [h2] at h; cases h
 ·have key : ∀ k q,rdA (typI id) s p = .error (k,q) → q ≤ s.size + 65537 := by
   intro k q h
   unfold rdA at h
   have mN : ∀ r : Rd Nat,mapN r = .error (k,q) → r = .error (k,q) := by
    intro r hr
    unfold mapN at hr
    split at hr
    ·cases hr
    ·simp only [Except.error.injEq] at hr ⊢; exact hr
   have mS : ∀ r : Rd ByteArray,mapS r = .error (k,q) → r = .error (k,q) := by
    intro r hr
    unfold mapS at hr
    split at hr
    ·cases hr
    ·simp only [Except.error.injEq] at hr ⊢; exact hr
   split at h
   ·have := numR_er hp (mN _ h); omega
   split at h
   ·have := numR_er hp (mN _ h); omega
   split at h
   ·have := numR_er hp (mN _ h); omega
   split at h
   ·have := varR_er hp (mN _ h); omega
   split at h
   ·exact textR_er hp (mS _ h)
   ·have := binR_er hp (mS _ h); omega
  cases h1 : rdA (typI id) s p with
  | error e => obtain ⟨j,q'⟩ := e; rw [h1] at h; simp only [Except.error.injEq,Prod.mk.injEq] at h; have := key _ _ h1; omega
  | ok a => obtain ⟨⟨n,a⟩,q1⟩ := a; rw [h1] at h; cases h
end
end Go.Proofs.YtkhcbbpfchgemaaDoor.AbsB
namespace Go.Proofs.YtkhcbbpfchgemaaDoor.AbsB
open Go AbsYtkhcbbpfchgemaaDoor Abs
set_option maxRecDepth 100000
set_option maxHeartbeats 2000000
set_option linter.unusedSimpArgs false
set_option linter.unusedVariables false
attribute [local irreducible] afterS afterOpS opSK OpsS TrS CodeS condS condW thenS thenQ guardS guardTS outS drawS trSK consS
section
variable {σ : AHeap} {Q : Value → AHeap → Prop} {r p : Nat} {s : ByteArray}
theorem rawR_k {n : Int} {k q : Nat} (h : rawR s p n = .error (k,q)) : k ≠ 0 := by
 unfold rawR at h
 split at h
 ·simp only [Except.error.injEq,Prod.mk.injEq] at h; omega
 split at h
 ·simp only [Except.error.injEq,Prod.mk.injEq] at h; omega
 ·cases h
theorem numR_k {m k q : Nat} (h : numR s p m = .error (k,q)) : k ≠ 0 := by
 unfold numR at h
 cases hb : rawR s p (m : Int) with
 | ok a => rw [hb] at h; cases h
 | error e => obtain ⟨j,q'⟩ := e; rw [hb] at h; simp only [Except.error.injEq,Prod.mk.injEq] at h; have := rawR_k hb; omega
end
end Go.Proofs.YtkhcbbpfchgemaaDoor.AbsB
namespace Go.Proofs.YtkhcbbpfchgemaaDoor.AbsB
open Go AbsYtkhcbbpfchgemaaDoor Abs
set_option maxRecDepth 100000
set_option maxHeartbeats 4000000
set_option linter.unusedSimpArgs false
set_option linter.unusedVariables false
end Go.Proofs.YtkhcbbpfchgemaaDoor.AbsB
