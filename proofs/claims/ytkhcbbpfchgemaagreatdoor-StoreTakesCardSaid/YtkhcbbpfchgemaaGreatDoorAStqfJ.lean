/-
  Parts of a law's proof.
-/
import Derived.Test.YtkhcbbpfchgemaaGreatDoorABitsqcJ
import Derived.Test.YtkhcbbpfchgemaaGreatDoorAYrqeJ
namespace Go.Proofs.YtkhcbbpfchgemaaGreatDoor.AbsA
open Go AbsYtkhcbbpfchgemaaGreatDoor Abs
set_option maxRecDepth 100000
set_option maxHeartbeats 8000000
set_option linter.unusedSimpArgs false
set_option linter.unusedVariables false
attribute [local irreducible] afterS afterOpS opSK OpsS TrS CodeS condS condW thenS thenQ guardS guardTS outS drawS trSK consS
section
variable {σ : AHeap} {Q : Value → AHeap → Prop} {s : ByteArray}
theorem dpRd' : dp 117 = false := rfl
theorem setE {σ σ' : AHeap} {fp fp' : List Nat} {e : Nat} {o : AObj} (k : Kept σ fp σ' fp') (he : ∀ x,σ.get x ≠ .dead → x ∉ fp → x ≠ e) : Kept σ fp (σ'.set e o) fp' :=
 ⟨fun x hx hn => by rw [AHeap.get_set_ne _ _ (Ne.symm (he x hx hn))]; exact k.get x hx hn,k.new⟩
theorem wrap32 {h : Nat} {τ : AHeap} : abin E τ .mul 3 true (.int .i64 (h : Int)) (.int .i64 4294967296) = some (.int .i64 (IntKind.i64.wrap ((h : Int) * 4294967296))) := rfl
theorem specZDone {r : Nat} {st : RSt} (hr : IsYS σ r s st) (hok : endS s st = none → Q (.tuple #[.int .i64 0,.int .i64 0]) σ) (hbad : ∀ k q : Nat,endS s st = some (k,129,q) → k ≠ 0 → Q (.tuple #[.int .i64 (k : Int),.int .i64 (q : Int)]) σ) : CallS E B 72 [.pointer (some ⟨r,0,none⟩)] σ Q := by
 cases st with
 | ok p =>
  simp only [endS] at hok hbad
  refine specYDone hr.2 (fun _ he => ?_) (fun _ hm => ?_) (fun h => absurd rfl h) hr.1
  ·exact hok (if_pos he)
  ·exact hbad 2 p (if_neg (by omega)) (by omega)
 | error e =>
  obtain ⟨k,q⟩ := e
  obtain ⟨hk,p,hp,h0⟩ := hr
  refine specYDone h0 (fun h => by omega) (fun h => by omega) (fun _ => hbad k q rfl hk) hp
theorem specZTake (hs : s.size ≤ 100000000)
  (hok : ∀ o,DecO s (.ok o) → ∀ v σ',DL propC 4 v o.m.l → Kept σ [] σ' [] → Q (.tuple #[.agg ⟨opC o v⟩,flt 0 0 0]) σ')
  (hbad : ∀ k rr a : Nat,DecO s (.error (k,rr,a)) → k ≠ 0 → ∀ σ',Kept σ [] σ' [] → Q (.tuple #[.agg ⟨[.int .i64 0,.string emp,.int .i64 0,.string emp,.string emp,.int .i64 0,.bool false,.slice none 0 0,.string emp,.int .i64 0,.int .i64 0,.string emp]⟩,flt k rr a]) σ') :
  CallS E B 17 [.string s] σ Q := by
 unfold DecO O0 at hok hbad
 refine call17 (by simp) ?_
 simp only [strip,bodyOf,Tryz.f17,getD_body,keepN,bareOp_mk,lessOp_mk,lapp_cons,lapp_nil,List.map_cons,List.map_nil,array_toList,↓reduceIte,Nat.reduceEqDiff,Bool.false_eq_true]
 simp (disch := first | assumption | simp) only [↓sbD,sbU,tyB,Nat.reduceMul,Nat.reduceSub,Int.reduceEq,Int.reduceLT,Int.reduceLE,Int.reduceNe,Nat.reduceBneDiff,Nat.reduceBEq,decide_false,gt_iff_lt,Bool.or_self,Bool.false_eq_true,Nat.mul_one,Nat.one_mul,Nat.zero_mul,↓reduceIte,Nat.reduceEqDiff,Nat.reduceLT,Nat.reduceAdd,Nat.reduceLeDiff,reduceCtorEq,goInt,pairs,isConst,TI.isAgg,splice,boxS,Edp,dpv,Nat.beq_eq,ZV.val,List.any_cons,List.any_nil,Bool.false_and,AS_new,zeOp,zeFlt]
 intro a ha c hc
 have hca : c ≠ a := by rintro rfl; rw [AHeap.get_set_same] at hc; cases hc
 have hcd : σ.get c = .dead := by rw [AHeap.get_set_ne _ _ hca.symm] at hc; exact hc
 have ca : ∀ (τ : AHeap) o,(AHeap.set τ c o).get a = τ.get a := fun τ o => AHeap.get_set_ne _ _ hca
 have ac : ∀ (τ : AHeap) o,(AHeap.set τ a o).get c = τ.get c := fun τ o => AHeap.get_set_ne _ _ hca.symm
 clear hc
 generalize hσ1 : AHeap.set (AHeap.set σ a _) c _ = σ1
 have K1 : Kept σ [] σ1 [] := by rw [← hσ1]; exact ((Kept.refl σ []).setD ha).setD hcd
 have ga1 : σ1.get a = .cells opZ true 0 := by rw [← hσ1,ca]; exact AHeap.get_set_same _ _ _
 have gc1 : σ1.get c = .cells [.int .i64 0,.int .i64 0,.int .i64 0] true 0 := by rw [← hσ1]; exact AHeap.get_set_same _ _ _
 clear hσ1
 simp (disch := first | assumption | simp) only [↓sbD,sbU,tyB,Nat.reduceMul,Nat.reduceSub,Int.reduceEq,Int.reduceLT,Int.reduceLE,Int.reduceNe,Nat.reduceBneDiff,Nat.reduceBEq,decide_false,gt_iff_lt,Bool.or_self,Bool.false_eq_true,Nat.mul_one,Nat.one_mul,Nat.zero_mul,↓reduceIte,Nat.reduceEqDiff,Nat.reduceLT,Nat.reduceAdd,Nat.reduceLeDiff,reduceCtorEq,goInt,pairs,isConst,TI.isAgg,splice,boxS,Edp,dpv,Nat.beq_eq,ZV.val,List.any_cons,List.any_nil,Bool.false_and,AS_new,dpRd']
 intro r hr
 have har : a ≠ r := by rintro rfl; rw [ga1] at hr; cases hr
 have hcr : c ≠ r := by rintro rfl; rw [gc1] at hr; cases hr
 generalize hσ2 : AHeap.set σ1 r _ = σ2
 have k2 : Kept σ1 [] σ2 [r] := by rw [← hσ2]; exact Kept.new' hr
 have r2 : IsYS σ2 r s (.ok 0) := ⟨Nat.zero_le _,by rw [← hσ2]; exact AHeap.get_set_same _ _ _⟩
 have K2 := K1.trans k2
 have ga2 := (k2.at ga1 (by simp) (by simp)).1
 have gc2 := (k2.at gc1 (by simp) (by simp)).1
 clear hσ2
 try simp (disch := first | assumption | simp) only [↓sbD,sbU,tyB,Nat.reduceMul,Nat.reduceSub,Int.reduceEq,Int.reduceLT,Int.reduceLE,Int.reduceNe,Nat.reduceBneDiff,Nat.reduceBEq,decide_false,gt_iff_lt,Bool.or_self,Bool.false_eq_true,Nat.mul_one,Nat.one_mul,Nat.zero_mul,↓reduceIte,Nat.reduceEqDiff,Nat.reduceLT,Nat.reduceAdd,Nat.reduceLeDiff,reduceCtorEq,goInt,pairs,isConst,TI.isAgg,splice,boxS,Edp,dpv,Nat.beq_eq,ZV.val,List.any_cons,List.any_nil,Bool.false_and]
 refine specZU8 r2 hs fun σ3 k3 r3 => ?_
 obtain ⟨k,s3,hk⟩ : ∃ k s3,u8S s (.ok 0) = (k,s3) := ⟨_,_,rfl⟩
 simp only [hk,O1] at hok hbad r3 ⊢
 have K3 := K2.trans k3
 have ga3 := (k3.at ga2 (by simp) (by simp [har])).1
 have gc3 := (k3.at gc2 (by simp) (by simp [hcr])).1
 simp (disch := first | assumption | simp) only [↓sbD,sbU,tyB,Nat.reduceMul,Nat.reduceSub,Int.reduceEq,Int.reduceLT,Int.reduceLE,Int.reduceNe,Nat.reduceBneDiff,Nat.reduceBEq,decide_false,gt_iff_lt,Bool.or_self,Bool.false_eq_true,Nat.mul_one,Nat.one_mul,Nat.zero_mul,↓reduceIte,Nat.reduceEqDiff,Nat.reduceLT,Nat.reduceAdd,Nat.reduceLeDiff,reduceCtorEq,goInt,pairs,isConst,TI.isAgg,splice,boxS,Edp,dpv,Nat.beq_eq,ZV.val,List.any_cons,List.any_nil,Bool.false_and,AS_new,zeOp]
 intro e he
 have hae : a ≠ e := by rintro rfl; rw [ga3] at he; cases he
 have hce : c ≠ e := by rintro rfl; rw [gc3] at he; cases he
 have her : e ≠ r := by rintro rfl; exact r3.alive he
 have hee : ∀ x,σ.get x ≠ .dead → x ∉ ([] : List Nat) → x ≠ e := fun x hx hn => by
  rintro rfl
  have := K3.get x hx hn
  rw [he] at this; exact hx this.symm
 generalize hσ4 : AHeap.set (AHeap.set σ3 e _) e _ = σ4
 have k4 : Kept σ3 [e] σ4 [e] := by rw [← hσ4]; exact (Kept.set (by simp)).trans (Kept.set (by simp))
 have K4 : Kept σ [] σ4 [r] := by rw [← hσ4]; exact setE (setE K3 hee) hee
 have r4 := r3.kept k4 (by simp [her.symm])
 have ge4 : σ4.get e = .cells [.int .i64 (k : Int),.string emp,.int .i64 0,.string emp,.string emp,.int .i64 0,.bool false,.slice none 0 0,.string emp,.int .i64 0,.int .i64 0,.string emp] true 0 := by rw [← hσ4]; exact AHeap.get_set_same _ _ _
 have ga4 := (k4.at ga3 (by simp) (by simp [hae])).1
 have gc4 := (k4.at gc3 (by simp) (by simp [hce])).1
 clear hσ4
 try simp (disch := first | assumption | simp) only [↓sbD,sbU,tyB,Nat.reduceMul,Nat.reduceSub,Int.reduceEq,Int.reduceLT,Int.reduceLE,Int.reduceNe,Nat.reduceBneDiff,Nat.reduceBEq,decide_false,gt_iff_lt,Bool.or_self,Bool.false_eq_true,Nat.mul_one,Nat.one_mul,Nat.zero_mul,↓reduceIte,Nat.reduceEqDiff,Nat.reduceLT,Nat.reduceAdd,Nat.reduceLeDiff,reduceCtorEq,goInt,pairs,isConst,TI.isAgg,splice,boxS,Edp,dpv,Nat.beq_eq,ZV.val,List.any_cons,List.any_nil,Bool.false_and]
 refine specZBin r4 hs fun σ5 k5 r5 => ?_
 obtain ⟨g,s5,hg⟩ : ∃ g s5,binS s s3 = (g,s5) := ⟨_,_,rfl⟩
 simp only [hg,O2] at hok hbad r5 ⊢
 have K5 := K4.trans k5
 have ga5 := (k5.at ga4 (by simp) (by simp [har])).1
 have gc5 := (k5.at gc4 (by simp) (by simp [hcr])).1
 have ge5 := (k5.at ge4 (by simp) (by simp [her])).1
 simp (disch := first | assumption | simp) only [↓sbD,sbU,tyB,Nat.reduceMul,Nat.reduceSub,Int.reduceEq,Int.reduceLT,Int.reduceLE,Int.reduceNe,Nat.reduceBneDiff,Nat.reduceBEq,decide_false,gt_iff_lt,Bool.or_self,Bool.false_eq_true,Nat.mul_one,Nat.one_mul,Nat.zero_mul,↓reduceIte,Nat.reduceEqDiff,Nat.reduceLT,Nat.reduceAdd,Nat.reduceLeDiff,reduceCtorEq,goInt,pairs,isConst,TI.isAgg,splice,boxS,Edp,dpv,Nat.beq_eq,ZV.val,List.any_cons,List.any_nil,Bool.false_and,ge5,List.length_cons,List.length_nil,List.cons_append,List.nil_append,List.drop_succ_cons,List.drop_zero,List.set_cons_zero,List.set_cons_succ,decide_true]
 generalize hσ6 : AHeap.set σ5 e _ = σ6
 have k6 : Kept σ5 [e] σ6 [e] := by rw [← hσ6]; exact Kept.set (by simp)
 have K6 : Kept σ [] σ6 [r] := by rw [← hσ6]; exact setE K5 hee
 have r6 := r5.kept k6 (by simp [her.symm])
 have ge6 : σ6.get e = .cells [.int .i64 (k : Int),.string g,.int .i64 0,.string emp,.string emp,.int .i64 0,.bool false,.slice none 0 0,.string emp,.int .i64 0,.int .i64 0,.string emp] true 0 := by rw [← hσ6]; exact AHeap.get_set_same _ _ _
 have ga6 := (k6.at ga5 (by simp) (by simp [hae])).1
 have gc6 := (k6.at gc5 (by simp) (by simp [hce])).1
 clear hσ6
 try simp (disch := first | assumption | simp) only [↓sbD,sbU,tyB,Nat.reduceMul,Nat.reduceSub,Int.reduceEq,Int.reduceLT,Int.reduceLE,Int.reduceNe,Nat.reduceBneDiff,Nat.reduceBEq,decide_false,gt_iff_lt,Bool.or_self,Bool.false_eq_true,Nat.mul_one,Nat.one_mul,Nat.zero_mul,↓reduceIte,Nat.reduceEqDiff,Nat.reduceLT,Nat.reduceAdd,Nat.reduceLeDiff,reduceCtorEq,goInt,pairs,isConst,TI.isAgg,splice,boxS,Edp,dpv,Nat.beq_eq,ZV.val,List.any_cons,List.any_nil,Bool.false_and]
 refine specZU32 r6 hs fun σ7 k7 r7 => ?_
 obtain ⟨n,s7,hn⟩ : ∃ n s7,u32S s s5 = (n,s7) := ⟨_,_,rfl⟩
 simp only [hn] at hok hbad r7 ⊢
 have K7 := K6.trans k7
 have ga7 := (k7.at ga6 (by simp) (by simp [har])).1
 have gc7 := (k7.at gc6 (by simp) (by simp [hcr])).1
 have ge7 := (k7.at ge6 (by simp) (by simp [her])).1
 simp (disch := first | assumption | simp) only [↓sbD,sbU,tyB,Nat.reduceMul,Nat.reduceSub,Int.reduceEq,Int.reduceLT,Int.reduceLE,Int.reduceNe,Nat.reduceBneDiff,Nat.reduceBEq,decide_false,gt_iff_lt,Bool.or_self,Bool.false_eq_true,Nat.mul_one,Nat.one_mul,Nat.zero_mul,↓reduceIte,Nat.reduceEqDiff,Nat.reduceLT,Nat.reduceAdd,Nat.reduceLeDiff,reduceCtorEq,goInt,pairs,isConst,TI.isAgg,splice,boxS,Edp,dpv,Nat.beq_eq,ZV.val,List.any_cons,List.any_nil,Bool.false_and,ge7,List.length_cons,List.length_nil,List.cons_append,List.nil_append,List.drop_succ_cons,List.drop_zero,List.set_cons_zero,List.set_cons_succ,decide_true]
 generalize hσ8 : AHeap.set σ7 e _ = σ8
 have k8 : Kept σ7 [e] σ8 [e] := by rw [← hσ8]; exact Kept.set (by simp)
 have K8 : Kept σ [] σ8 [r] := by rw [← hσ8]; exact setE K7 hee
 have r8 := r7.kept k8 (by simp [her.symm])
 have ge8 : σ8.get e = .cells [.int .i64 (k : Int),.string g,.int .i64 (n : Int),.string emp,.string emp,.int .i64 0,.bool false,.slice none 0 0,.string emp,.int .i64 0,.int .i64 0,.string emp] true 0 := by rw [← hσ8]; exact AHeap.get_set_same _ _ _
 have ga8 := (k8.at ga7 (by simp) (by simp [hae])).1
 have gc8 := (k8.at gc7 (by simp) (by simp [hce])).1
 clear hσ8
 by_cases hk1 : k = 1
 focus
  subst hk1
  have h11 : ((1 : Nat) : Int) = 1 := rfl
  simp only [if_true] at hok hbad
  unfold RdM M3 M4 M5 M6 M7 M8 at hok hbad
  simp (disch := first | assumption | simp) only [↓sbD,sbU,tyB,Nat.reduceMul,Nat.reduceSub,Int.reduceEq,Int.reduceLT,Int.reduceLE,Int.reduceNe,Nat.reduceBneDiff,Nat.reduceBEq,decide_false,gt_iff_lt,Bool.or_self,Bool.false_eq_true,Nat.mul_one,Nat.one_mul,Nat.zero_mul,↓reduceIte,Nat.reduceEqDiff,Nat.reduceLT,Nat.reduceAdd,Nat.reduceLeDiff,reduceCtorEq,goInt,pairs,isConst,TI.isAgg,splice,boxS,Edp,dpv,Nat.beq_eq,ZV.val,List.any_cons,List.any_nil,Bool.false_and,ge8,h11,List.length_cons,List.length_nil,List.cons_append,List.nil_append,List.drop_succ_cons,List.drop_zero,List.set_cons_zero,List.set_cons_succ,decide_true]
  generalize hσ9 : AHeap.set σ8 e _ = σ9
  have k9 : Kept σ8 [e] σ9 [e] := by rw [← hσ9]; exact Kept.set (by simp)
  have K9 : Kept σ [] σ9 [r] := by rw [← hσ9]; exact setE K8 hee
  have r9 := r8.kept k9 (by simp [her.symm])
  have ge9 : σ9.get e = .cells [.int .i64 1,.string g,.int .i64 (n : Int),.string emp,.string emp,.int .i64 0,.bool false,.slice none 0 0,.string emp,.int .i64 0,.int .i64 (n : Int),.string g] true 0 := by rw [← hσ9]; exact AHeap.get_set_same _ _ _
  have ga9 := (k9.at ga8 (by simp) (by simp [hae])).1
  have gc9 := (k9.at gc8 (by simp) (by simp [hce])).1
  clear hσ9
  try simp (disch := first | assumption | simp) only [↓sbD,sbU,tyB,Nat.reduceMul,Nat.reduceSub,Int.reduceEq,Int.reduceLT,Int.reduceLE,Int.reduceNe,Nat.reduceBneDiff,Nat.reduceBEq,decide_false,gt_iff_lt,Bool.or_self,Bool.false_eq_true,Nat.mul_one,Nat.one_mul,Nat.zero_mul,↓reduceIte,Nat.reduceEqDiff,Nat.reduceLT,Nat.reduceAdd,Nat.reduceLeDiff,reduceCtorEq,goInt,pairs,isConst,TI.isAgg,splice,boxS,Edp,dpv,Nat.beq_eq,ZV.val,List.any_cons,List.any_nil,Bool.false_and]
  refine specZBin r9 hs fun σ10 k10 r10 => ?_
  obtain ⟨t,s10,ht⟩ : ∃ t s10,binS s s7 = (t,s10) := ⟨_,_,rfl⟩
  simp only [ht] at hok hbad r10 ⊢
  have K10 := K9.trans k10
  have ga10 := (k10.at ga9 (by simp) (by simp [har])).1
  have gc10 := (k10.at gc9 (by simp) (by simp [hcr])).1
  have ge10 := (k10.at ge9 (by simp) (by simp [her])).1
  simp (disch := first | assumption | simp) only [↓sbD,sbU,tyB,Nat.reduceMul,Nat.reduceSub,Int.reduceEq,Int.reduceLT,Int.reduceLE,Int.reduceNe,Nat.reduceBneDiff,Nat.reduceBEq,decide_false,gt_iff_lt,Bool.or_self,Bool.false_eq_true,Nat.mul_one,Nat.one_mul,Nat.zero_mul,↓reduceIte,Nat.reduceEqDiff,Nat.reduceLT,Nat.reduceAdd,Nat.reduceLeDiff,reduceCtorEq,goInt,pairs,isConst,TI.isAgg,splice,boxS,Edp,dpv,Nat.beq_eq,ZV.val,List.any_cons,List.any_nil,Bool.false_and,ge10,List.length_cons,List.length_nil,List.cons_append,List.nil_append,List.drop_succ_cons,List.drop_zero,List.set_cons_zero,List.set_cons_succ,decide_true]
  generalize hσ11 : AHeap.set σ10 e _ = σ11
  have k11 : Kept σ10 [e] σ11 [e] := by rw [← hσ11]; exact Kept.set (by simp)
  have K11 : Kept σ [] σ11 [r] := by rw [← hσ11]; exact setE K10 hee
  have r11 := r10.kept k11 (by simp [her.symm])
  have ge11 : σ11.get e = .cells [.int .i64 1,.string g,.int .i64 (n : Int),.string t,.string emp,.int .i64 0,.bool false,.slice none 0 0,.string emp,.int .i64 0,.int .i64 (n : Int),.string g] true 0 := by rw [← hσ11]; exact AHeap.get_set_same _ _ _
  have ga11 := (k11.at ga10 (by simp) (by simp [hae])).1
  have gc11 := (k11.at gc10 (by simp) (by simp [hce])).1
  clear hσ11
  try simp (disch := first | assumption | simp) only [↓sbD,sbU,tyB,Nat.reduceMul,Nat.reduceSub,Int.reduceEq,Int.reduceLT,Int.reduceLE,Int.reduceNe,Nat.reduceBneDiff,Nat.reduceBEq,decide_false,gt_iff_lt,Bool.or_self,Bool.false_eq_true,Nat.mul_one,Nat.one_mul,Nat.zero_mul,↓reduceIte,Nat.reduceEqDiff,Nat.reduceLT,Nat.reduceAdd,Nat.reduceLeDiff,reduceCtorEq,goInt,pairs,isConst,TI.isAgg,splice,boxS,Edp,dpv,Nat.beq_eq,ZV.val,List.any_cons,List.any_nil,Bool.false_and]
  refine specZBin r11 hs fun σ12 k12 r12 => ?_
  obtain ⟨p,s12,hp⟩ : ∃ p s12,binS s s10 = (p,s12) := ⟨_,_,rfl⟩
  simp only [hp] at hok hbad r12 ⊢
  have K12 := K11.trans k12
  have ga12 := (k12.at ga11 (by simp) (by simp [har])).1
  have gc12 := (k12.at gc11 (by simp) (by simp [hcr])).1
  have ge12 := (k12.at ge11 (by simp) (by simp [her])).1
  simp (disch := first | assumption | simp) only [↓sbD,sbU,tyB,Nat.reduceMul,Nat.reduceSub,Int.reduceEq,Int.reduceLT,Int.reduceLE,Int.reduceNe,Nat.reduceBneDiff,Nat.reduceBEq,decide_false,gt_iff_lt,Bool.or_self,Bool.false_eq_true,Nat.mul_one,Nat.one_mul,Nat.zero_mul,↓reduceIte,Nat.reduceEqDiff,Nat.reduceLT,Nat.reduceAdd,Nat.reduceLeDiff,reduceCtorEq,goInt,pairs,isConst,TI.isAgg,splice,boxS,Edp,dpv,Nat.beq_eq,ZV.val,List.any_cons,List.any_nil,Bool.false_and,ge12,List.length_cons,List.length_nil,List.cons_append,List.nil_append,List.drop_succ_cons,List.drop_zero,List.set_cons_zero,List.set_cons_succ,decide_true]
  generalize hσ13 : AHeap.set σ12 e _ = σ13
  have k13 : Kept σ12 [e] σ13 [e] := by rw [← hσ13]; exact Kept.set (by simp)
  have K13 : Kept σ [] σ13 [r] := by rw [← hσ13]; exact setE K12 hee
  have r13 := r12.kept k13 (by simp [her.symm])
  have ge13 : σ13.get e = .cells [.int .i64 1,.string g,.int .i64 (n : Int),.string t,.string p,.int .i64 0,.bool false,.slice none 0 0,.string emp,.int .i64 0,.int .i64 (n : Int),.string g] true 0 := by rw [← hσ13]; exact AHeap.get_set_same _ _ _
  have ga13 := (k13.at ga12 (by simp) (by simp [hae])).1
  have gc13 := (k13.at gc12 (by simp) (by simp [hce])).1
  clear hσ13
  try simp (disch := first | assumption | simp) only [↓sbD,sbU,tyB,Nat.reduceMul,Nat.reduceSub,Int.reduceEq,Int.reduceLT,Int.reduceLE,Int.reduceNe,Nat.reduceBneDiff,Nat.reduceBEq,decide_false,gt_iff_lt,Bool.or_self,Bool.false_eq_true,Nat.mul_one,Nat.one_mul,Nat.zero_mul,↓reduceIte,Nat.reduceEqDiff,Nat.reduceLT,Nat.reduceAdd,Nat.reduceLeDiff,reduceCtorEq,goInt,pairs,isConst,TI.isAgg,splice,boxS,Edp,dpv,Nat.beq_eq,ZV.val,List.any_cons,List.any_nil,Bool.false_and]
  refine specZU8 r13 hs fun σ14 k14 r14 => ?_
  obtain ⟨b,s14,hb⟩ : ∃ b s14,u8S s s12 = (b,s14) := ⟨_,_,rfl⟩
  simp only [hb] at hok hbad r14 ⊢
  have K14 := K13.trans k14
  have ga14 := (k14.at ga13 (by simp) (by simp [har])).1
  have gc14 := (k14.at gc13 (by simp) (by simp [hcr])).1
  have ge14 := (k14.at ge13 (by simp) (by simp [her])).1
  have hb256 : b < 256 := by have := u8S_lt (s := s) (st := s12); rw [hb] at this; exact this
  have hr4 : aint .rem .i64 (b : Int) 4 = some (.int .i64 ((b % 4 : Nat) : Int)) := by rw [rem_pos (by omega) (by omega)]; rfl
  have hq4 : aint .quo .i64 (b : Int) 4 = some (.int .i64 ((b / 4 : Nat) : Int)) := by rw [quo_pos (by omega) (by omega) (by omega)]; rfl
  have hr2 : aint .rem .i64 ((b / 4 : Nat) : Int) 2 = some (.int .i64 ((b / 4 % 2 : Nat) : Int)) := by rw [rem_pos (by omega) (by omega)]; rfl
  have C4 : (((b / 4 % 2 : Nat) : Int) = 1 ∧ decide (b / 4 % 2 = 1) = true) ∨ (((b / 4 % 2 : Nat) : Int) = 0 ∧ decide (b / 4 % 2 = 1) = false) := by
   rcases (by omega : b / 4 % 2 = 1 ∨ b / 4 % 2 = 0) with h | h
   ·exact .inl ⟨by rw [h]; rfl,decide_eq_true h⟩
   ·exact .inr ⟨by rw [h]; rfl,decide_eq_false (by omega)⟩
  simp (disch := first | assumption | simp) only [↓sbD,sbU,tyB,Nat.reduceMul,Nat.reduceSub,Int.reduceEq,Int.reduceLT,Int.reduceLE,Int.reduceNe,Nat.reduceBneDiff,Nat.reduceBEq,decide_false,gt_iff_lt,Bool.or_self,Bool.false_eq_true,Nat.mul_one,Nat.one_mul,Nat.zero_mul,↓reduceIte,Nat.reduceEqDiff,Nat.reduceLT,Nat.reduceAdd,Nat.reduceLeDiff,reduceCtorEq,goInt,pairs,isConst,TI.isAgg,splice,boxS,Edp,dpv,Nat.beq_eq,ZV.val,List.any_cons,List.any_nil,Bool.false_and,ge14,hr4,List.length_cons,List.length_nil,List.cons_append,List.nil_append,List.drop_succ_cons,List.drop_zero,List.set_cons_zero,List.set_cons_succ,decide_true]
  generalize hσ15 : AHeap.set σ14 e _ = σ15
  have k15 : Kept σ14 [e] σ15 [e] := by rw [← hσ15]; exact Kept.set (by simp)
  have K15 : Kept σ [] σ15 [r] := by rw [← hσ15]; exact setE K14 hee
  have r15 := r14.kept k15 (by simp [her.symm])
  have ge15 : σ15.get e = .cells [.int .i64 1,.string g,.int .i64 (n : Int),.string t,.string p,.int .i64 ((b % 4 : Nat) : Int),.bool false,.slice none 0 0,.string emp,.int .i64 0,.int .i64 (n : Int),.string g] true 0 := by rw [← hσ15]; exact AHeap.get_set_same _ _ _
  have ga15 := (k15.at ga14 (by simp) (by simp [hae])).1
  have gc15 := (k15.at gc14 (by simp) (by simp [hce])).1
  clear hσ15
  rcases C4 with ⟨ha4,d4⟩ | ⟨ha4,d4⟩
  all_goals
   simp (disch := first | assumption | simp) only [↓sbD,sbU,tyB,Nat.reduceMul,Nat.reduceSub,Int.reduceEq,Int.reduceLT,Int.reduceLE,Int.reduceNe,Nat.reduceBneDiff,Nat.reduceBEq,decide_false,gt_iff_lt,Bool.or_self,Bool.false_eq_true,Nat.mul_one,Nat.one_mul,Nat.zero_mul,↓reduceIte,Nat.reduceEqDiff,Nat.reduceLT,Nat.reduceAdd,Nat.reduceLeDiff,reduceCtorEq,goInt,pairs,isConst,TI.isAgg,splice,boxS,Edp,dpv,Nat.beq_eq,ZV.val,List.any_cons,List.any_nil,Bool.false_and,ge15,hq4,hr2,ha4,List.length_cons,List.length_nil,List.cons_append,List.nil_append,List.drop_succ_cons,List.drop_zero,List.set_cons_zero,List.set_cons_succ,decide_true]
   generalize hσ16 : AHeap.set σ15 e _ = σ16
   have k16 : Kept σ15 [e] σ16 [e] := by rw [← hσ16]; exact Kept.set (by simp)
   have K16 : Kept σ [] σ16 [r] := by rw [← hσ16]; exact setE K15 hee
   have r16 := r15.kept k16 (by simp [her.symm])
   have ge16 : σ16.get e = .cells [.int .i64 1,.string g,.int .i64 (n : Int),.string t,.string p,.int .i64 ((b % 4 : Nat) : Int),.bool (decide (b / 4 % 2 = 1)),.slice none 0 0,.string emp,.int .i64 0,.int .i64 (n : Int),.string g] true 0 := by rw [← hσ16,d4]; exact AHeap.get_set_same _ _ _
   have ga16 := (k16.at ga15 (by simp) (by simp [hae])).1
   have gc16 := (k16.at gc15 (by simp) (by simp [hce])).1
   clear hσ16
   try simp (disch := first | assumption | simp) only [↓sbD,sbU,tyB,Nat.reduceMul,Nat.reduceSub,Int.reduceEq,Int.reduceLT,Int.reduceLE,Int.reduceNe,Nat.reduceBneDiff,Nat.reduceBEq,decide_false,gt_iff_lt,Bool.or_self,Bool.false_eq_true,Nat.mul_one,Nat.one_mul,Nat.zero_mul,↓reduceIte,Nat.reduceEqDiff,Nat.reduceLT,Nat.reduceAdd,Nat.reduceLeDiff,reduceCtorEq,goInt,pairs,isConst,TI.isAgg,splice,boxS,Edp,dpv,Nat.beq_eq,ZV.val,List.any_cons,List.any_nil,Bool.false_and]
   refine specZBin r16 hs fun σ17 k17 r17 => ?_
   obtain ⟨f,s17,hf⟩ : ∃ f s17,binS s s14 = (f,s17) := ⟨_,_,rfl⟩
   simp only [hf] at hok hbad r17 ⊢
   have K17 := K16.trans k17
   have ga17 := (k17.at ga16 (by simp) (by simp [har])).1
   have gc17 := (k17.at gc16 (by simp) (by simp [hcr])).1
   have ge17 := (k17.at ge16 (by simp) (by simp [her])).1
   simp (disch := first | assumption | simp) only [↓sbD,sbU,tyB,Nat.reduceMul,Nat.reduceSub,Int.reduceEq,Int.reduceLT,Int.reduceLE,Int.reduceNe,Nat.reduceBneDiff,Nat.reduceBEq,decide_false,gt_iff_lt,Bool.or_self,Bool.false_eq_true,Nat.mul_one,Nat.one_mul,Nat.zero_mul,↓reduceIte,Nat.reduceEqDiff,Nat.reduceLT,Nat.reduceAdd,Nat.reduceLeDiff,reduceCtorEq,goInt,pairs,isConst,TI.isAgg,splice,boxS,Edp,dpv,Nat.beq_eq,ZV.val,List.any_cons,List.any_nil,Bool.false_and,ge17,List.length_cons,List.length_nil,List.cons_append,List.nil_append,List.drop_succ_cons,List.drop_zero,List.set_cons_zero,List.set_cons_succ,decide_true]
   generalize hσ18 : AHeap.set σ17 e _ = σ18
   have k18 : Kept σ17 [e] σ18 [e] := by rw [← hσ18]; exact Kept.set (by simp)
   have K18 : Kept σ [] σ18 [r] := by rw [← hσ18]; exact setE K17 hee
   have r18 := r17.kept k18 (by simp [her.symm])
   have ge18 : σ18.get e = .cells [.int .i64 1,.string g,.int .i64 (n : Int),.string t,.string p,.int .i64 ((b % 4 : Nat) : Int),.bool (decide (b / 4 % 2 = 1)),.slice none 0 0,.string f,.int .i64 0,.int .i64 (n : Int),.string g] true 0 := by rw [← hσ18]; exact AHeap.get_set_same _ _ _
   have ga18 := (k18.at ga17 (by simp) (by simp [hae])).1
   have gc18 := (k18.at gc17 (by simp) (by simp [hce])).1
   clear hσ18
   try simp (disch := first | assumption | simp) only [↓sbD,sbU,tyB,Nat.reduceMul,Nat.reduceSub,Int.reduceEq,Int.reduceLT,Int.reduceLE,Int.reduceNe,Nat.reduceBneDiff,Nat.reduceBEq,decide_false,gt_iff_lt,Bool.or_self,Bool.false_eq_true,Nat.mul_one,Nat.one_mul,Nat.zero_mul,↓reduceIte,Nat.reduceEqDiff,Nat.reduceLT,Nat.reduceAdd,Nat.reduceLeDiff,reduceCtorEq,goInt,pairs,isConst,TI.isAgg,splice,boxS,Edp,dpv,Nat.beq_eq,ZV.val,List.any_cons,List.any_nil,Bool.false_and]
   refine specZU32 r18 hs fun σ19 k19 r19 => ?_
   obtain ⟨h,s19,hh⟩ : ∃ h s19,u32S s s17 = (h,s19) := ⟨_,_,rfl⟩
   simp only [hh] at hok hbad r19 ⊢
   have K19 := K18.trans k19
   have ga19 := (k19.at ga18 (by simp) (by simp [har])).1
   have gc19 := (k19.at gc18 (by simp) (by simp [hcr])).1
   have ge19 := (k19.at ge18 (by simp) (by simp [her])).1
   simp (disch := first | assumption | simp) only [↓sbD,sbU,tyB,Nat.reduceMul,Nat.reduceSub,Int.reduceEq,Int.reduceLT,Int.reduceLE,Int.reduceNe,Nat.reduceBneDiff,Nat.reduceBEq,decide_false,gt_iff_lt,Bool.or_self,Bool.false_eq_true,Nat.mul_one,Nat.one_mul,Nat.zero_mul,↓reduceIte,Nat.reduceEqDiff,Nat.reduceLT,Nat.reduceAdd,Nat.reduceLeDiff,reduceCtorEq,goInt,pairs,isConst,TI.isAgg,splice,boxS,Edp,dpv,Nat.beq_eq,ZV.val,List.any_cons,List.any_nil,Bool.false_and,wrap32]
   refine specZU32 r19 hs fun σ20 k20 r20 => ?_
   obtain ⟨w,s20,hw⟩ : ∃ w s20,u32S s s19 = (w,s20) := ⟨_,_,rfl⟩
   simp only [hw] at hok hbad r20 ⊢
   have K20 := K19.trans k20
   have ga20 := (k20.at ga19 (by simp) (by simp [har])).1
   have gc20 := (k20.at gc19 (by simp) (by simp [hcr])).1
   have ge20 := (k20.at ge19 (by simp) (by simp [her])).1
   have hw32 : w < 4294967296 := by have := u32S_lt (s := s) (st := s19); rw [hw] at this; exact this
   have hadd : aint .add .i64 (IntKind.i64.wrap ((h : Int) * 4294967296)) (w : Int) = some (.int .i64 (IntKind.i64.wrap ((h : Int) * 4294967296 + (w : Int)))) := by rw [← add_hi]; rfl
   simp (disch := first | assumption | simp) only [↓sbD,sbU,tyB,Nat.reduceMul,Nat.reduceSub,Int.reduceEq,Int.reduceLT,Int.reduceLE,Int.reduceNe,Nat.reduceBneDiff,Nat.reduceBEq,decide_false,gt_iff_lt,Bool.or_self,Bool.false_eq_true,Nat.mul_one,Nat.one_mul,Nat.zero_mul,↓reduceIte,Nat.reduceEqDiff,Nat.reduceLT,Nat.reduceAdd,Nat.reduceLeDiff,reduceCtorEq,goInt,pairs,isConst,TI.isAgg,splice,boxS,Edp,dpv,Nat.beq_eq,ZV.val,List.any_cons,List.any_nil,Bool.false_and,ge20,wrap32,hadd,List.length_cons,List.length_nil,List.cons_append,List.nil_append,List.drop_succ_cons,List.drop_zero,List.set_cons_zero,List.set_cons_succ,decide_true]
   generalize hσ21 : AHeap.set σ20 e _ = σ21
   have k21 : Kept σ20 [e] σ21 [e] := by rw [← hσ21]; exact Kept.set (by simp)
   have K21 : Kept σ [] σ21 [r] := by rw [← hσ21]; exact setE K20 hee
   have r21 := r20.kept k21 (by simp [her.symm])
   have ge21 : σ21.get e = .cells [.int .i64 1,.string g,.int .i64 (n : Int),.string t,.string p,.int .i64 ((b % 4 : Nat) : Int),.bool (decide (b / 4 % 2 = 1)),.slice none 0 0,.string f,.int .i64 (IntKind.i64.wrap ((h : Int) * 4294967296 + (w : Int))),.int .i64 (n : Int),.string g] true 0 := by rw [← hσ21]; exact AHeap.get_set_same _ _ _
   have ga21 := (k21.at ga20 (by simp) (by simp [hae])).1
   have gc21 := (k21.at gc20 (by simp) (by simp [hce])).1
   clear hσ21
   try simp (disch := first | assumption | simp) only [↓sbD,sbU,tyB,Nat.reduceMul,Nat.reduceSub,Int.reduceEq,Int.reduceLT,Int.reduceLE,Int.reduceNe,Nat.reduceBneDiff,Nat.reduceBEq,decide_false,gt_iff_lt,Bool.or_self,Bool.false_eq_true,Nat.mul_one,Nat.one_mul,Nat.zero_mul,↓reduceIte,Nat.reduceEqDiff,Nat.reduceLT,Nat.reduceAdd,Nat.reduceLeDiff,reduceCtorEq,goInt,pairs,isConst,TI.isAgg,splice,boxS,Edp,dpv,Nat.beq_eq,ZV.val,List.any_cons,List.any_nil,Bool.false_and]
   refine specZRead r21 hs (fun l q hrd v σ22 hv k22 r22 => ?_) fun kk rr aa hrd hkk σ22 k22 => ?_
   rotate_left
   ·have hk0 : ¬ (kk : Int) = 0 := by omega
    have K22 := K21.trans k22
    have ga22 := (k22.at ga21 (by simp) (by simp [har])).1
    have gc22 := (k22.at gc21 (by simp) (by simp [hcr])).1
    simp (disch := first | assumption | simp) only [↓sbD,sbU,tyB,Nat.reduceMul,Nat.reduceSub,Int.reduceEq,Int.reduceLT,Int.reduceLE,Int.reduceNe,Nat.reduceBneDiff,Nat.reduceBEq,decide_false,gt_iff_lt,Bool.or_self,Bool.false_eq_true,Nat.mul_one,Nat.one_mul,Nat.zero_mul,↓reduceIte,Nat.reduceEqDiff,Nat.reduceLT,Nat.reduceAdd,Nat.reduceLeDiff,reduceCtorEq,goInt,pairs,isConst,TI.isAgg,splice,boxS,Edp,dpv,Nat.beq_eq,ZV.val,List.any_cons,List.any_nil,Bool.false_and,AS_new,zeFlt,zeOp]
    intro i hi
    have hia : a ≠ i := by rintro rfl; rw [ga22] at hi; cases hi
    have hic : c ≠ i := by rintro rfl; rw [gc22] at hi; cases hi
    have ia : ∀ (τ : AHeap) o,(AHeap.set τ i o).get a = τ.get a := fun τ o => AHeap.get_set_ne _ _ hia.symm
    have ic : ∀ (τ : AHeap) o,(AHeap.set τ i o).get c = τ.get c := fun τ o => AHeap.get_set_ne _ _ hic.symm
    have ai : ∀ (τ : AHeap) o,(AHeap.set τ a o).get i = τ.get i := fun τ o => AHeap.get_set_ne _ _ hia
    simp (disch := first | assumption | simp) only [↓sbD,sbU,tyB,Nat.reduceMul,Nat.reduceSub,Int.reduceEq,Int.reduceLT,Int.reduceLE,Int.reduceNe,Nat.reduceBneDiff,Nat.reduceBEq,decide_false,gt_iff_lt,Bool.or_self,Bool.false_eq_true,Nat.mul_one,Nat.one_mul,Nat.zero_mul,↓reduceIte,Nat.reduceEqDiff,Nat.reduceLT,Nat.reduceAdd,Nat.reduceLeDiff,reduceCtorEq,goInt,pairs,isConst,TI.isAgg,splice,boxS,Edp,dpv,Nat.beq_eq,ZV.val,List.any_cons,List.any_nil,Bool.false_and,AHeap.get_set_same,ia,ic,ai,ac,ca,ga22,gc22,hk0,res_cellc,resC_some]
    refine drawS_l (fl := [(1,2)]) (by kernel_rfl) ?_ ?_
    rotate_left; simp only [lastP_cc,lastP_one]; rotate_left
    ·simp only [List.all_cons,List.all_nil,floatS,List.getElem?_cons_succ,List.getElem?_cons_zero,List.getElem?_toArray,Region.wanted,Bool.not_true,Bool.not_false,Bool.false_or,Bool.true_or,Bool.or_true,Bool.true_and,reads,looksWeak,aev_tmp,aev_const,upd_at,↓reduceIte,Nat.reduceEqDiff,Nat.reduceLT,Nat.reduceAdd,ofL_zero,ofL_succ,blkOf,oeq_refl,oeq_of,dead_cells,dead_map,Bool.and_true,Bool.and_self,Bool.false_eq_true,Bool.not_false,ia,ic,ai,ac,ca,ga22,gc22,AHeap.get_set_same]
     try rfl
    simp (disch := first | assumption | simp) only [↓sbD,sbU,tyB,Nat.reduceMul,Nat.reduceSub,Int.reduceEq,Int.reduceLT,Int.reduceLE,Int.reduceNe,Nat.reduceBneDiff,Nat.reduceBEq,decide_false,gt_iff_lt,Bool.or_self,Bool.false_eq_true,Nat.mul_one,Nat.one_mul,Nat.zero_mul,↓reduceIte,Nat.reduceEqDiff,Nat.reduceLT,Nat.reduceAdd,Nat.reduceLeDiff,reduceCtorEq,goInt,pairs,isConst,TI.isAgg,splice,boxS,Edp,dpv,Nat.beq_eq,ZV.val,List.any_cons,List.any_nil,Bool.false_and,AHeap.get_set_same,ia,ic,ai,ac,ca,ga22,gc22,hk0,res_cellc,resC_some]
    exact downS_here (hbad kk rr aa ⟨_,⟨_,hrd,rfl⟩,rfl⟩ hkk _ (((K22.trans (((Kept.refl σ22 [r]).setD hi).setD hi)).none.setD ha).setD hcd))
   have K22 := K21.trans k22
   have ga22 := (k22.at ga21 (by simp) (by simp [har])).1
   have gc22 := (k22.at gc21 (by simp) (by simp [hcr])).1
   have ge22 := (k22.at ge21 (by simp) (by simp [her])).1
   have hvc := dl_vc hv
   simp (disch := first | assumption | simp) only [↓sbD,sbU,tyB,Nat.reduceMul,Nat.reduceSub,Int.reduceEq,Int.reduceLT,Int.reduceLE,Int.reduceNe,Nat.reduceBneDiff,Nat.reduceBEq,decide_false,gt_iff_lt,Bool.or_self,Bool.false_eq_true,Nat.mul_one,Nat.one_mul,Nat.zero_mul,↓reduceIte,Nat.reduceEqDiff,Nat.reduceLT,Nat.reduceAdd,Nat.reduceLeDiff,reduceCtorEq,goInt,pairs,isConst,TI.isAgg,splice,boxS,Edp,dpv,Nat.beq_eq,ZV.val,List.any_cons,List.any_nil,Bool.false_and,AS_new,zeFlt]
   intro i hi
   have hia : a ≠ i := by rintro rfl; rw [ga22] at hi; cases hi
   have hic : c ≠ i := by rintro rfl; rw [gc22] at hi; cases hi
   have hie : e ≠ i := by rintro rfl; rw [ge22] at hi; cases hi
   have ie : ∀ (τ : AHeap) o,(AHeap.set τ i o).get e = τ.get e := fun τ o => AHeap.get_set_ne _ _ hie.symm
   generalize hσ23 : AHeap.set (AHeap.set σ22 i _) i _ = σ23
   have k23 : Kept σ22 [] σ23 [] := by rw [← hσ23]; exact ((Kept.refl _ []).setD hi).setD hi
   have K23 : Kept σ [] σ23 [r] := K22.trans (k23.wid (fun _ h => by cases h) (fun _ h => .inr h))
   have gi23 : σ23.get i = .cells [.int .i64 0,.int .i64 0,.int .i64 0] true 0 := by rw [← hσ23]; exact AHeap.get_set_same _ _ _
   have ga23 := (k23.at ga22 (by simp) (by simp)).1
   have gc23 := (k23.at gc22 (by simp) (by simp)).1
   have ge23 := (k23.at ge22 (by simp) (by simp)).1
   have r23 := r22.kept k23 (by simp)
   clear hσ23
   simp (disch := first | assumption | simp) only [↓sbD,sbU,tyB,Nat.reduceMul,Nat.reduceSub,Int.reduceEq,Int.reduceLT,Int.reduceLE,Int.reduceNe,Nat.reduceBneDiff,Nat.reduceBEq,decide_false,gt_iff_lt,Bool.or_self,Bool.false_eq_true,Nat.mul_one,Nat.one_mul,Nat.zero_mul,↓reduceIte,Nat.reduceEqDiff,Nat.reduceLT,Nat.reduceAdd,Nat.reduceLeDiff,reduceCtorEq,goInt,pairs,isConst,TI.isAgg,splice,boxS,Edp,dpv,Nat.beq_eq,ZV.val,List.any_cons,List.any_nil,Bool.false_and,gi23,ge23,hvc.1,hvc.2,List.length_cons,List.length_nil,List.cons_append,List.nil_append,List.drop_succ_cons,List.drop_zero,List.set_cons_zero,List.set_cons_succ,decide_true]
   generalize hσ24 : AHeap.set σ23 e _ = σ24
   have k24 : Kept σ23 [e] σ24 [e] := by rw [← hσ24]; exact Kept.set (by simp)
   have K24 : Kept σ [] σ24 [r] := by rw [← hσ24]; exact setE K23 hee
   have r24 := r23.kept k24 (by simp [her.symm])
   have ge24 : σ24.get e = .cells [.int .i64 1,.string g,.int .i64 (n : Int),.string t,.string p,.int .i64 ((b % 4 : Nat) : Int),.bool (decide (b / 4 % 2 = 1)),v,.string f,.int .i64 (IntKind.i64.wrap ((h : Int) * 4294967296 + (w : Int))),.int .i64 (n : Int),.string g] true 0 := by rw [← hσ24]; exact AHeap.get_set_same _ _ _
   have ga24 := (k24.at ga23 (by simp) (by simp [hae])).1
   have gc24 := (k24.at gc23 (by simp) (by simp [hce])).1
   obtain ⟨o,ho⟩ : ∃ o : Op1,o = ⟨1,g,n,mOf g n t p b f h w l⟩ := ⟨_,rfl⟩
   have hvo : DL propC 4 v o.m.l := by rw [ho]; exact hv
   have geN : σ24.get e = .cells (opC o v) true 0 := by rw [ge24,ho]; rfl
   have hok' : ∀ o',finO s o b (.ok q) = .ok o' → ∀ v σ',DL propC 4 v o'.m.l → Kept σ [] σ' [] → Q (.tuple #[.agg ⟨opC o' v⟩,flt 0 0 0]) σ' := fun o' h => hok o' ⟨_,⟨_,hrd,rfl⟩,by rw [← h,ho]; rfl⟩
   have hbad' : ∀ k rr a : Nat,finO s o b (.ok q) = .error (k,rr,a) → k ≠ 0 → ∀ σ',Kept σ [] σ' [] → Q (.tuple #[.agg ⟨[.int .i64 0,.string emp,.int .i64 0,.string emp,.string emp,.int .i64 0,.bool false,.slice none 0 0,.string emp,.int .i64 0,.int .i64 0,.string emp]⟩,flt k rr a]) σ' := fun k rr a h => hbad k rr a ⟨_,⟨_,hrd,rfl⟩,by rw [← h,ho]; rfl⟩
   generalize (Except.ok q : RSt) = stt at r24 hok' hbad'
   generalize hfl : b = fl at hok' hbad'
   clear hσ24
   have rN := r24
   have KN := K24
   have gaN := ga24
   have gcN := gc24
   try simp (disch := first | assumption | simp) only [↓sbD,sbU,tyB,Nat.reduceMul,Nat.reduceSub,Int.reduceEq,Int.reduceLT,Int.reduceLE,Int.reduceNe,Nat.reduceBneDiff,Nat.reduceBEq,decide_false,gt_iff_lt,Bool.or_self,Bool.false_eq_true,Nat.mul_one,Nat.one_mul,Nat.zero_mul,↓reduceIte,Nat.reduceEqDiff,Nat.reduceLT,Nat.reduceAdd,Nat.reduceLeDiff,reduceCtorEq,goInt,pairs,isConst,TI.isAgg,splice,boxS,Edp,dpv,Nat.beq_eq,ZV.val,List.any_cons,List.any_nil,Bool.false_and,hfl]
 rotate_left
 rotate_left
 focus
  have hk1' : ¬ (k : Int) = 1 := by omega
  simp only [if_neg hk1] at hok hbad
  simp (disch := first | assumption | simp) only [↓sbD,sbU,tyB,Nat.reduceMul,Nat.reduceSub,Int.reduceEq,Int.reduceLT,Int.reduceLE,Int.reduceNe,Nat.reduceBneDiff,Nat.reduceBEq,decide_false,gt_iff_lt,Bool.or_self,Bool.false_eq_true,Nat.mul_one,Nat.one_mul,Nat.zero_mul,↓reduceIte,Nat.reduceEqDiff,Nat.reduceLT,Nat.reduceAdd,Nat.reduceLeDiff,reduceCtorEq,goInt,pairs,isConst,TI.isAgg,splice,boxS,Edp,dpv,Nat.beq_eq,ZV.val,List.any_cons,List.any_nil,Bool.false_and,ge8,hk1',List.length_cons,List.length_nil,List.cons_append,List.nil_append,List.drop_succ_cons,List.drop_zero,List.set_cons_zero,List.set_cons_succ,decide_true]
  obtain ⟨o,ho⟩ : ∃ o : Op1,o = ⟨k,g,n,mz⟩ := ⟨_,rfl⟩
  obtain ⟨v,hve⟩ : ∃ v : Value,v = .slice none 0 0 := ⟨_,rfl⟩
  have hvo : DL propC 4 v o.m.l := by rw [ho,hve]; exact .inl ⟨rfl,rfl⟩
  have geN : σ8.get e = .cells (opC o v) true 0 := by rw [ge8,ho,hve]; rfl
  obtain ⟨fl,hfl⟩ : ∃ fl : Nat,fl = 0 := ⟨_,rfl⟩
  have hok' : ∀ o',finO s o fl s7 = .ok o' → ∀ v σ',DL propC 4 v o'.m.l → Kept σ [] σ' [] → Q (.tuple #[.agg ⟨opC o' v⟩,flt 0 0 0]) σ' := fun o' h => hok o' (by rw [← h,ho,hfl])
  have hbad' : ∀ k rr a : Nat,finO s o fl s7 = .error (k,rr,a) → k ≠ 0 → ∀ σ',Kept σ [] σ' [] → Q (.tuple #[.agg ⟨[.int .i64 0,.string emp,.int .i64 0,.string emp,.string emp,.int .i64 0,.bool false,.slice none 0 0,.string emp,.int .i64 0,.int .i64 0,.string emp]⟩,flt k rr a]) σ' := fun k rr a h => hbad k rr a (by rw [← h,ho,hfl])
  have rN := r8
  have KN := K8
  have gaN := ga8
  have gcN := gc8
 all_goals
  unfold finO at hok' hbad'
  have hvoc := dl_vc hvo
  have geN' := geN
  simp only [opC] at geN'
  refine specZDone rN (fun hend => ?_) fun k q hend hk => ?_
  rotate_left
  ·rw [hend] at hbad'
   have hk0 : ¬ (k : Int) = 0 := by omega
   simp (disch := first | assumption | simp) only [↓sbD,sbU,tyB,Nat.reduceMul,Nat.reduceSub,Int.reduceEq,Int.reduceLT,Int.reduceLE,Int.reduceNe,Nat.reduceBneDiff,Nat.reduceBEq,decide_false,gt_iff_lt,Bool.or_self,Bool.false_eq_true,Nat.mul_one,Nat.one_mul,Nat.zero_mul,↓reduceIte,Nat.reduceEqDiff,Nat.reduceLT,Nat.reduceAdd,Nat.reduceLeDiff,reduceCtorEq,goInt,pairs,isConst,TI.isAgg,splice,boxS,Edp,dpv,Nat.beq_eq,ZV.val,List.any_cons,List.any_nil,Bool.false_and,gaN,gcN,ca,ac,hk0,zeOp,zeFlt,AHeap.get_set_same,res_cellc,resC_some]
   exact downS_here (hbad' k 129 q rfl hk _ ((KN.none.setD ha).setD hcd))
  rw [hend] at hok' hbad'
  simp only at hok' hbad'
  simp (disch := first | assumption | simp) only [↓sbD,sbU,tyB,Nat.reduceMul,Nat.reduceSub,Int.reduceEq,Int.reduceLT,Int.reduceLE,Int.reduceNe,Nat.reduceBneDiff,Nat.reduceBEq,decide_false,gt_iff_lt,Bool.or_self,Bool.false_eq_true,Nat.mul_one,Nat.one_mul,Nat.zero_mul,↓reduceIte,Nat.reduceEqDiff,Nat.reduceLT,Nat.reduceAdd,Nat.reduceLeDiff,reduceCtorEq,goInt,pairs,isConst,TI.isAgg,splice,boxS,Edp,dpv,Nat.beq_eq,ZV.val,List.any_cons,List.any_nil,Bool.false_and,geN']
  refine specZMay hvo fun σM kM => ?_
  have gaM := (kM.at gaN (by simp) (by simp)).1
  have gcM := (kM.at gcN (by simp) (by simp)).1
  have geM := (kM.at geN' (by simp) (by simp)).1
  have KM : Kept σ [] σM [] := KN.none.trans kM
  by_cases hm : mayO o
  ·by_cases hf : fl ≤ 7
   ·have hf' : ¬ (7 : Int) < (fl : Int) := by omega
    rw [if_pos ⟨hm,hf⟩] at hok'
    simp (disch := first | assumption | simp) only [↓sbD,sbU,tyB,Nat.reduceMul,Nat.reduceSub,Int.reduceEq,Int.reduceLT,Int.reduceLE,Int.reduceNe,Nat.reduceBneDiff,Nat.reduceBEq,decide_false,gt_iff_lt,Bool.or_self,Bool.false_eq_true,Nat.mul_one,Nat.one_mul,Nat.zero_mul,↓reduceIte,Nat.reduceEqDiff,Nat.reduceLT,Nat.reduceAdd,Nat.reduceLeDiff,reduceCtorEq,goInt,pairs,isConst,TI.isAgg,splice,boxS,Edp,dpv,Nat.beq_eq,ZV.val,List.any_cons,List.any_nil,Bool.false_and,eq_true hm,decide_true,not_bool,Bool.not_true,hfl,hf',geM,gaM,gcM,ca,ac,zeFlt,hvoc.1,hvoc.2,AHeap.get_set_same,res_cellc,resC_some]
    exact downS_here (hok' o rfl v _ hvo ((KM.setD ha).setD hcd))
   ·first
     | (exfalso; omega)
     | (have hf' : (7 : Int) < (fl : Int) := by omega
        rw [if_neg (fun h => hf h.2)] at hbad'
        simp (disch := first | assumption | simp) only [↓sbD,sbU,tyB,Nat.reduceMul,Nat.reduceSub,Int.reduceEq,Int.reduceLT,Int.reduceLE,Int.reduceNe,Nat.reduceBneDiff,Nat.reduceBEq,decide_false,gt_iff_lt,Bool.or_self,Bool.false_eq_true,Nat.mul_one,Nat.one_mul,Nat.zero_mul,↓reduceIte,Nat.reduceEqDiff,Nat.reduceLT,Nat.reduceAdd,Nat.reduceLeDiff,reduceCtorEq,goInt,pairs,isConst,TI.isAgg,splice,boxS,Edp,dpv,Nat.beq_eq,ZV.val,List.any_cons,List.any_nil,Bool.false_and,eq_true hm,decide_true,not_bool,Bool.not_true,hfl,hf',gaM,gcM,ca,ac,zeOp,zeFlt,AHeap.get_set_same,res_cellc,resC_some]
        exact downS_here (hbad' 2 129 0 rfl (by omega) _ ((KM.setD ha).setD hcd)))
  ·rw [if_neg (fun h => hm h.1)] at hbad'
   simp (disch := first | assumption | simp) only [↓sbD,sbU,tyB,Nat.reduceMul,Nat.reduceSub,Int.reduceEq,Int.reduceLT,Int.reduceLE,Int.reduceNe,Nat.reduceBneDiff,Nat.reduceBEq,decide_false,gt_iff_lt,Bool.or_self,Bool.false_eq_true,Nat.mul_one,Nat.one_mul,Nat.zero_mul,↓reduceIte,Nat.reduceEqDiff,Nat.reduceLT,Nat.reduceAdd,Nat.reduceLeDiff,reduceCtorEq,goInt,pairs,isConst,TI.isAgg,splice,boxS,Edp,dpv,Nat.beq_eq,ZV.val,List.any_cons,List.any_nil,Bool.false_and,hm,decide_false,not_bool,Bool.not_false,gaM,gcM,ca,ac,zeOp,zeFlt,AHeap.get_set_same,res_cellc,resC_some]
   exact downS_here (hbad' 2 129 0 rfl (by omega) _ ((KM.setD ha).setD hcd))
end
set_option maxHeartbeats 4000000
theorem AllP.len {pl : Int} {s : ByteArray} {p : Nat} {l : List Pr} {r : Except (Nat × Nat × Nat) (List Pr)} (h : AllP pl s p l r) : p ≤ s.size → l.length ≤ 64 → ∀ m,r = .ok m → m.length ≤ 64 := by
 induction h with
 | nil h => intro _ hl m hm; injection hm with hm; subst hm; exact hl
 | bad h ho => intro _ _ m hm; cases hm
 | step h ho hr ih =>
  intro hp hl m hm
  obtain ⟨h1,h2,h3,_⟩ := oneR_ok hp ho
  exact ih h2 (by rw [List.length_append]; simp only [List.length_cons,List.length_nil]; omega) m hm
theorem ReadPS.len {pl : Int} {s : ByteArray} {st : RSt} {l : List Pr} {q : Nat} (h : ReadPS pl s st (.ok (l,q))) : l.length ≤ 64 := by
 cases st with
 | error e => obtain ⟨k,q⟩ := e; cases h
 | ok p =>
  have h' : ReadP pl s p (.ok (l,q)) := h
  unfold ReadP at h'
  split at h'
  ·cases h'
  ·split at h'
   ·cases h'
   ·obtain ⟨r',h1,h2⟩ := h'
    cases r' with
    | error e => obtain ⟨k,rr,a⟩ := e; cases h2
    | ok l' =>
     simp only [Except.ok.injEq,Prod.mk.injEq] at h2
     obtain ⟨rfl,_⟩ := h2
     exact h1.len (Nat.zero_le _) (by simp) _ rfl
theorem finO_ok {s : ByteArray} {o o' : Op1} {fl : Nat} {st : RSt} (h : finO s o fl st = .ok o') : o' = o ∧ mayO o := by
 unfold finO at h
 split at h
 ·cases h
 ·split at h
  ·rename_i h1
   injection h with h
   exact ⟨h.symm,h1.1⟩
  ·cases h
theorem DecO.len {s : ByteArray} {o : Op1} (h : DecO s (.ok o)) : o.m.l.length ≤ 64 ∧ mayO o := by
 unfold DecO O0 O1 O2 at h
 split at h
 ·obtain ⟨y,h1,h2⟩ := h
  cases y with
  | error e => cases h2
  | ok t =>
   obtain ⟨m,b,q⟩ := t
   unfold RdM M3 M4 M5 M6 M7 M8 at h1
   obtain ⟨x,h3,h4⟩ := h1
   cases x with
   | error e => cases h4
   | ok lq =>
    obtain ⟨l,q'⟩ := lq
    simp only [restY,Except.ok.injEq,Prod.mk.injEq] at h4
    obtain ⟨rfl,-,-⟩ := h4
    obtain ⟨rfl,hm⟩ := finO_ok h2.symm
    exact ⟨h3.len,hm⟩
 ·obtain ⟨rfl,hm⟩ := finO_ok h.symm
  exact ⟨by simp [mz],hm⟩
section
variable {σ : AHeap} {Q : Value → AHeap → Prop}
theorem boEq {cs b : Bool} : abin E σ .eql 4 cs (.bool b) (.bool b) = some (.bool true) := by cases cs <;> cases b <;> rfl
theorem specMSame {m : Ms} {v u : Value} (hv : DL propC 4 v m.l) (hu : DL propC 4 u m.l) (hl : m.l.length ≤ 100000) (h : Q (.bool true) σ) : CallS E B 53 [.agg ⟨msC m v⟩,.agg ⟨msC m u⟩] σ Q := by
 obtain ⟨v',hv',b1⟩ := boxMs hv
 obtain ⟨u',hu',b2⟩ := boxMs hu
 simp only [msC] at b1 b2 ⊢
 refine call53 (by simp) ?_
 simp only [strip,bodyOf,Tryz.f53,getD_body,keepN,bareOp_mk,lessOp_mk,lapp_cons,lapp_nil,List.map_cons,List.map_nil,array_toList,↓reduceIte,Nat.reduceEqDiff,Bool.false_eq_true]
 simp (disch := first | assumption | simp) only [↓sbD,sbU,tyB,Nat.reduceMul,Nat.reduceSub,Int.reduceEq,Int.reduceLT,Int.reduceLE,Int.reduceNe,Nat.reduceBneDiff,Nat.reduceBEq,decide_false,gt_iff_lt,Bool.or_self,Bool.false_eq_true,Nat.mul_one,Nat.one_mul,Nat.zero_mul,↓reduceIte,Nat.reduceEqDiff,Nat.reduceLT,Nat.reduceAdd,Nat.reduceLeDiff,reduceCtorEq,goInt,pairs,isConst,TI.isAgg,splice,Edp,dpv,Nat.beq_eq,ZV.val,List.any_cons,List.any_nil,Bool.false_and,b1,b2,boEq,bytes_dec,eq_self,decide_true,beq_self_eq_true]
 refine specPSame hv' hu' hl ?_
 simp (disch := first | assumption | simp) only [↓sbD,sbU,tyB,Nat.reduceMul,Nat.reduceSub,Int.reduceEq,Int.reduceLT,Int.reduceLE,Int.reduceNe,Nat.reduceBneDiff,Nat.reduceBEq,decide_false,gt_iff_lt,Bool.or_self,Bool.false_eq_true,Nat.mul_one,Nat.one_mul,Nat.zero_mul,↓reduceIte,Nat.reduceEqDiff,Nat.reduceLT,Nat.reduceAdd,Nat.reduceLeDiff,reduceCtorEq,goInt,pairs,isConst,TI.isAgg,splice,boxS,Edp,dpv,Nat.beq_eq,ZV.val,List.any_cons,List.any_nil,Bool.false_and]
 exact downS_here h
theorem specOSame {o : Op1} {v u : Value} (hv : DL propC 4 v o.m.l) (hu : DL propC 4 u o.m.l) (hl : o.m.l.length ≤ 100000) (h : Q (.bool true) σ) : CallS E B 18 [.agg ⟨opC o v⟩,.agg ⟨opC o u⟩] σ Q := by
 obtain ⟨v',hv',b1⟩ := boxOp hv
 obtain ⟨u',hu',b2⟩ := boxOp hu
 simp only [opC] at b1 b2 ⊢
 refine call18 (by simp) ?_
 simp only [strip,bodyOf,Tryz.f18,getD_body,keepN,bareOp_mk,lessOp_mk,lapp_cons,lapp_nil,List.map_cons,List.map_nil,array_toList,↓reduceIte,Nat.reduceEqDiff,Bool.false_eq_true]
 simp (disch := first | assumption | simp) only [↓sbD,sbU,tyB,Nat.reduceMul,Nat.reduceSub,Int.reduceEq,Int.reduceLT,Int.reduceLE,Int.reduceNe,Nat.reduceBneDiff,Nat.reduceBEq,decide_false,gt_iff_lt,Bool.or_self,Bool.false_eq_true,Nat.mul_one,Nat.one_mul,Nat.zero_mul,↓reduceIte,Nat.reduceEqDiff,Nat.reduceLT,Nat.reduceAdd,Nat.reduceLeDiff,reduceCtorEq,goInt,pairs,isConst,TI.isAgg,splice,Edp,dpv,Nat.beq_eq,ZV.val,List.any_cons,List.any_nil,Bool.false_and,b1,b2,boEq,bytes_dec,eq_self,decide_true,beq_self_eq_true]
 refine specMSame (m := o.m) hv' hu' hl ?_
 simp (disch := first | assumption | simp) only [↓sbD,sbU,tyB,Nat.reduceMul,Nat.reduceSub,Int.reduceEq,Int.reduceLT,Int.reduceLE,Int.reduceNe,Nat.reduceBneDiff,Nat.reduceBEq,decide_false,gt_iff_lt,Bool.or_self,Bool.false_eq_true,Nat.mul_one,Nat.one_mul,Nat.zero_mul,↓reduceIte,Nat.reduceEqDiff,Nat.reduceLT,Nat.reduceAdd,Nat.reduceLeDiff,reduceCtorEq,goInt,pairs,isConst,TI.isAgg,splice,boxS,Edp,dpv,Nat.beq_eq,ZV.val,List.any_cons,List.any_nil,Bool.false_and]
 exact downS_here h
theorem specTsameNil (h : Q (.bool true) σ) : CallS E B 19 [.nilIface,flt 0 0 0] σ Q := by
 refine call19 (by simp) ?_
 simp only [strip,bodyOf,Tryz.f19,getD_body,keepN,bareOp_mk,lessOp_mk,lapp_cons,lapp_nil,List.map_cons,List.map_nil,array_toList,↓reduceIte,Nat.reduceEqDiff,Bool.false_eq_true]
 simp (disch := first | assumption | simp) only [↓sbD,sbU,tyB,Nat.reduceMul,Nat.reduceSub,Int.reduceEq,Int.reduceLT,Int.reduceLE,Int.reduceNe,Nat.reduceBneDiff,Nat.reduceBEq,decide_false,gt_iff_lt,Bool.or_self,Bool.false_eq_true,Nat.mul_one,Nat.one_mul,Nat.zero_mul,↓reduceIte,Nat.reduceEqDiff,Nat.reduceLT,Nat.reduceAdd,Nat.reduceLeDiff,reduceCtorEq,goInt,pairs,isConst,TI.isAgg,splice,boxS,Edp,dpv,Nat.beq_eq,ZV.val,List.any_cons,List.any_nil,Bool.false_and]
 refine specNumberNil ?_
 simp (disch := first | assumption | simp) only [↓sbD,sbU,tyB,Nat.reduceMul,Nat.reduceSub,Int.reduceEq,Int.reduceLT,Int.reduceLE,Int.reduceNe,Nat.reduceBneDiff,Nat.reduceBEq,decide_false,gt_iff_lt,Bool.or_self,Bool.false_eq_true,Nat.mul_one,Nat.one_mul,Nat.zero_mul,↓reduceIte,Nat.reduceEqDiff,Nat.reduceLT,Nat.reduceAdd,Nat.reduceLeDiff,reduceCtorEq,goInt,pairs,isConst,TI.isAgg,splice,boxS,Edp,dpv,Nat.beq_eq,ZV.val,List.any_cons,List.any_nil,Bool.false_and,eq_self]
 refine drawS_l (fl := [(3,1),(13,11),(19,17)]) (by kernel_rfl) ?_ ?_
 rotate_left; simp only [lastP_cc,lastP_one]; rotate_left
 ·simp only [List.all_cons,List.all_nil,floatS,List.getElem?_cons_succ,List.getElem?_cons_zero,List.getElem?_toArray,Region.wanted,Bool.not_true,Bool.not_false,Bool.false_or,Bool.true_or,Bool.or_true,Bool.true_and,reads,looksWeak,aev_tmp,aev_const,upd_at,↓reduceIte,Nat.reduceEqDiff,Nat.reduceLT,Nat.reduceAdd,ofL_zero,ofL_succ,blkOf,oeq_refl,oeq_of,dead_cells,dead_map,Bool.and_true,Bool.and_self,Bool.false_eq_true,Bool.not_false,yield_list,yield_here,yield_next,truth_bool]
  try rfl
 simp (disch := first | assumption | simp) only [↓sbD,sbU,tyB,Nat.reduceMul,Nat.reduceSub,Int.reduceEq,Int.reduceLT,Int.reduceLE,Int.reduceNe,Nat.reduceBneDiff,Nat.reduceBEq,decide_false,gt_iff_lt,Bool.or_self,Bool.false_eq_true,Nat.mul_one,Nat.one_mul,Nat.zero_mul,↓reduceIte,Nat.reduceEqDiff,Nat.reduceLT,Nat.reduceAdd,Nat.reduceLeDiff,reduceCtorEq,goInt,pairs,isConst,TI.isAgg,splice,boxS,Edp,dpv,Nat.beq_eq,ZV.val,List.any_cons,List.any_nil,Bool.false_and]
 exact downS_here h
theorem specTsameE {d k r a : Nat} {z : Value} (he : ErN d (fv r a z) k) (hd : d ≤ 4) (h : Q (.bool true) σ) : CallS E B 19 [fv r a z,flt k r a] σ Q := by
 have hk := he.val
 have hk0 : ¬ (k : Int) = 0 := by omega
 refine call19 (by simp) ?_
 simp only [strip,bodyOf,Tryz.f19,getD_body,keepN,bareOp_mk,lessOp_mk,lapp_cons,lapp_nil,List.map_cons,List.map_nil,array_toList,↓reduceIte,Nat.reduceEqDiff,Bool.false_eq_true]
 simp (disch := first | assumption | simp) only [↓sbD,sbU,tyB,Nat.reduceMul,Nat.reduceSub,Int.reduceEq,Int.reduceLT,Int.reduceLE,Int.reduceNe,Nat.reduceBneDiff,Nat.reduceBEq,decide_false,gt_iff_lt,Bool.or_self,Bool.false_eq_true,Nat.mul_one,Nat.one_mul,Nat.zero_mul,↓reduceIte,Nat.reduceEqDiff,Nat.reduceLT,Nat.reduceAdd,Nat.reduceLeDiff,reduceCtorEq,goInt,pairs,isConst,TI.isAgg,splice,boxS,Edp,dpv,Nat.beq_eq,ZV.val,List.any_cons,List.any_nil,Bool.false_and]
 refine specNumber he hd ?_
 simp (disch := first | assumption | simp) only [↓sbD,sbU,tyB,Nat.reduceMul,Nat.reduceSub,Int.reduceEq,Int.reduceLT,Int.reduceLE,Int.reduceNe,Nat.reduceBneDiff,Nat.reduceBEq,decide_false,gt_iff_lt,Bool.or_self,Bool.false_eq_true,Nat.mul_one,Nat.one_mul,Nat.zero_mul,↓reduceIte,Nat.reduceEqDiff,Nat.reduceLT,Nat.reduceAdd,Nat.reduceLeDiff,reduceCtorEq,goInt,pairs,isConst,TI.isAgg,splice,boxS,Edp,dpv,Nat.beq_eq,ZV.val,List.any_cons,List.any_nil,Bool.false_and,eq_self,hk0]
 refine specReason ?_
 simp (disch := first | assumption | simp) only [↓sbD,sbU,tyB,Nat.reduceMul,Nat.reduceSub,Int.reduceEq,Int.reduceLT,Int.reduceLE,Int.reduceNe,Nat.reduceBneDiff,Nat.reduceBEq,decide_false,gt_iff_lt,Bool.or_self,Bool.false_eq_true,Nat.mul_one,Nat.one_mul,Nat.zero_mul,↓reduceIte,Nat.reduceEqDiff,Nat.reduceLT,Nat.reduceAdd,Nat.reduceLeDiff,reduceCtorEq,goInt,pairs,isConst,TI.isAgg,splice,boxS,Edp,dpv,Nat.beq_eq,ZV.val,List.any_cons,List.any_nil,Bool.false_and,eq_self]
 refine specAt ?_
 simp (disch := first | assumption | simp) only [↓sbD,sbU,tyB,Nat.reduceMul,Nat.reduceSub,Int.reduceEq,Int.reduceLT,Int.reduceLE,Int.reduceNe,Nat.reduceBneDiff,Nat.reduceBEq,decide_false,gt_iff_lt,Bool.or_self,Bool.false_eq_true,Nat.mul_one,Nat.one_mul,Nat.zero_mul,↓reduceIte,Nat.reduceEqDiff,Nat.reduceLT,Nat.reduceAdd,Nat.reduceLeDiff,reduceCtorEq,goInt,pairs,isConst,TI.isAgg,splice,boxS,Edp,dpv,Nat.beq_eq,ZV.val,List.any_cons,List.any_nil,Bool.false_and,eq_self]
 refine drawS_l (fl := [(3,1),(13,11),(19,17)]) (by kernel_rfl) ?_ ?_
 rotate_left; simp only [lastP_cc,lastP_one]; rotate_left
 ·simp only [List.all_cons,List.all_nil,floatS,List.getElem?_cons_succ,List.getElem?_cons_zero,List.getElem?_toArray,Region.wanted,Bool.not_true,Bool.not_false,Bool.false_or,Bool.true_or,Bool.or_true,Bool.true_and,reads,looksWeak,aev_tmp,aev_const,upd_at,↓reduceIte,Nat.reduceEqDiff,Nat.reduceLT,Nat.reduceAdd,ofL_zero,ofL_succ,blkOf,oeq_refl,oeq_of,dead_cells,dead_map,Bool.and_true,Bool.and_self,Bool.false_eq_true,Bool.not_false,yield_list,yield_here,yield_next,truth_bool]
  try rfl
 simp (disch := first | assumption | simp) only [↓sbD,sbU,tyB,Nat.reduceMul,Nat.reduceSub,Int.reduceEq,Int.reduceLT,Int.reduceLE,Int.reduceNe,Nat.reduceBneDiff,Nat.reduceBEq,decide_false,gt_iff_lt,Bool.or_self,Bool.false_eq_true,Nat.mul_one,Nat.one_mul,Nat.zero_mul,↓reduceIte,Nat.reduceEqDiff,Nat.reduceLT,Nat.reduceAdd,Nat.reduceLeDiff,reduceCtorEq,goInt,pairs,isConst,TI.isAgg,splice,boxS,Edp,dpv,Nat.beq_eq,ZV.val,List.any_cons,List.any_nil,Bool.false_and]
 exact downS_here h
end
theorem law13 {H : AHeap} {vs : List Value} (hB0 : Ext B H) (h : ArgsTyped E H 8 [9] vs) : CallW E 4 vs H fun r _ => r = .bool true := by
 obtain ⟨u,vs1,rfl,t1,e1⟩ := h.cons'
 obtain rfl := e1.nil'
 obtain ⟨s,rfl⟩ := typed_s t1
 clear t1 e1 h
 have key : CallS E B 4 [.string s] .empty fun r _ => r = .bool true := by
  refine call4 (by simp) ?_
  simp only [strip,bodyOf,Tryz.f4,getD_body,keepN,bareOp_mk,lessOp_mk,lapp_cons,lapp_nil,List.map_cons,List.map_nil,array_toList,↓reduceIte,Nat.reduceEqDiff,Bool.false_eq_true]
  by_cases hz : (2048 : Int) < (s.size : Int)
  ·simp (disch := first | assumption | simp) only [↓sbD,sbU,tyB,Nat.reduceMul,Nat.reduceSub,Int.reduceEq,Int.reduceLT,Int.reduceLE,Int.reduceNe,Nat.reduceBneDiff,Nat.reduceBEq,decide_false,gt_iff_lt,Bool.or_self,Bool.false_eq_true,Nat.mul_one,Nat.one_mul,Nat.zero_mul,↓reduceIte,Nat.reduceEqDiff,Nat.reduceLT,Nat.reduceAdd,Nat.reduceLeDiff,reduceCtorEq,goInt,pairs,isConst,TI.isAgg,splice,boxS,Edp,dpv,Nat.beq_eq,ZV.val,List.any_cons,List.any_nil,Bool.false_and,hz]
   refine specS8 ?_
   simp (disch := first | assumption | simp) only [↓sbD,sbU,tyB,Nat.reduceMul,Nat.reduceSub,Int.reduceEq,Int.reduceLT,Int.reduceLE,Int.reduceNe,Nat.reduceBneDiff,Nat.reduceBEq,decide_false,gt_iff_lt,Bool.or_self,Bool.false_eq_true,Nat.mul_one,Nat.one_mul,Nat.zero_mul,↓reduceIte,Nat.reduceEqDiff,Nat.reduceLT,Nat.reduceAdd,Nat.reduceLeDiff,reduceCtorEq,goInt,pairs,isConst,TI.isAgg,splice,boxS,Edp,dpv,Nat.beq_eq,ZV.val,List.any_cons,List.any_nil,Bool.false_and]
   exact downS_here rfl
  simp (disch := first | assumption | simp) only [↓sbD,sbU,tyB,Nat.reduceMul,Nat.reduceSub,Int.reduceEq,Int.reduceLT,Int.reduceLE,Int.reduceNe,Nat.reduceBneDiff,Nat.reduceBEq,decide_false,gt_iff_lt,Bool.or_self,Bool.false_eq_true,Nat.mul_one,Nat.one_mul,Nat.zero_mul,↓reduceIte,Nat.reduceEqDiff,Nat.reduceLT,Nat.reduceAdd,Nat.reduceLeDiff,reduceCtorEq,goInt,pairs,isConst,TI.isAgg,splice,boxS,Edp,dpv,Nat.beq_eq,ZV.val,List.any_cons,List.any_nil,Bool.false_and,hz]
  have hs : s.size ≤ 100000000 := by omega
  refine specTTake hs (fun o ho v σ1 hv k1 => ?_) fun k rr a ho σ1 d z k1 hd her => ?_
  ·have hl := ho.len.1
   have hvc := dl_vc hv
   simp only [opC]
   simp (disch := first | assumption | simp) only [↓sbD,sbU,tyB,Nat.reduceMul,Nat.reduceSub,Int.reduceEq,Int.reduceLT,Int.reduceLE,Int.reduceNe,Nat.reduceBneDiff,Nat.reduceBEq,decide_false,gt_iff_lt,Bool.or_self,Bool.false_eq_true,Nat.mul_one,Nat.one_mul,Nat.zero_mul,↓reduceIte,Nat.reduceEqDiff,Nat.reduceLT,Nat.reduceAdd,Nat.reduceLeDiff,reduceCtorEq,goInt,pairs,isConst,TI.isAgg,splice,boxS,Edp,dpv,Nat.beq_eq,ZV.val,List.any_cons,List.any_nil,Bool.false_and,AS_new,zeOp,hvc.1,hvc.2]
   intro x hx
   try simp (disch := first | assumption | simp) only [↓sbD,sbU,tyB,Nat.reduceMul,Nat.reduceSub,Int.reduceEq,Int.reduceLT,Int.reduceLE,Int.reduceNe,Nat.reduceBneDiff,Nat.reduceBEq,decide_false,gt_iff_lt,Bool.or_self,Bool.false_eq_true,Nat.mul_one,Nat.one_mul,Nat.zero_mul,↓reduceIte,Nat.reduceEqDiff,Nat.reduceLT,Nat.reduceAdd,Nat.reduceLeDiff,reduceCtorEq,goInt,pairs,isConst,TI.isAgg,splice,boxS,Edp,dpv,Nat.beq_eq,ZV.val,List.any_cons,List.any_nil,Bool.false_and,AHeap.get_set_same]
   generalize hσ2 : AHeap.set (AHeap.set σ1 x _) x _ = σ2
   have gx2 : σ2.get x = .cells (opC o v) true 0 := by rw [← hσ2]; exact AHeap.get_set_same _ _ _
   clear hσ2
   try simp (disch := first | assumption | simp) only [↓sbD,sbU,tyB,Nat.reduceMul,Nat.reduceSub,Int.reduceEq,Int.reduceLT,Int.reduceLE,Int.reduceNe,Nat.reduceBneDiff,Nat.reduceBEq,decide_false,gt_iff_lt,Bool.or_self,Bool.false_eq_true,Nat.mul_one,Nat.one_mul,Nat.zero_mul,↓reduceIte,Nat.reduceEqDiff,Nat.reduceLT,Nat.reduceAdd,Nat.reduceLeDiff,reduceCtorEq,goInt,pairs,isConst,TI.isAgg,splice,boxS,Edp,dpv,Nat.beq_eq,ZV.val,List.any_cons,List.any_nil,Bool.false_and]
   refine specZTake hs (fun o2 ho2 v2 σ3 hv2 k3 => ?_) fun k rr a ho2 => by cases DecO.det ho ho2
   obtain rfl : o = o2 := by have := DecO.det ho ho2; injection this
   have gx3 := (k3.at gx2 (by simp) (by simp)).1
   have hvc2 := dl_vc hv2
   simp only [opC] at gx3 ⊢
   simp (disch := first | assumption | simp) only [↓sbD,sbU,tyB,Nat.reduceMul,Nat.reduceSub,Int.reduceEq,Int.reduceLT,Int.reduceLE,Int.reduceNe,Nat.reduceBneDiff,Nat.reduceBEq,decide_false,gt_iff_lt,Bool.or_self,Bool.false_eq_true,Nat.mul_one,Nat.one_mul,Nat.zero_mul,↓reduceIte,Nat.reduceEqDiff,Nat.reduceLT,Nat.reduceAdd,Nat.reduceLeDiff,reduceCtorEq,goInt,pairs,isConst,TI.isAgg,splice,boxS,Edp,dpv,Nat.beq_eq,ZV.val,List.any_cons,List.any_nil,Bool.false_and,AS_new,zeOp,zeFlt,hvc2.1,hvc2.2]
   intro y hy w hw
   have hwy : w ≠ y := by rintro rfl; rw [AHeap.get_set_same] at hw; cases hw
   replace hw : σ3.get w = .dead := by rw [AHeap.get_set_ne _ _ hwy.symm] at hw; exact hw
   have hyx : y ≠ x := nd hy gx3 (by simp)
   have hwx : w ≠ x := nd hw gx3 (by simp)
   have yx : ∀ (τ : AHeap) o,(AHeap.set τ y o).get x = τ.get x := fun τ o => AHeap.get_set_ne _ _ hyx
   have wx : ∀ (τ : AHeap) o,(AHeap.set τ w o).get x = τ.get x := fun τ o => AHeap.get_set_ne _ _ hwx
   have wy : ∀ (τ : AHeap) o,(AHeap.set τ w o).get y = τ.get y := fun τ o => AHeap.get_set_ne _ _ hwy
   have yw : ∀ (τ : AHeap) o,(AHeap.set τ y o).get w = τ.get w := fun τ o => AHeap.get_set_ne _ _ hwy.symm
   try simp (disch := first | assumption | simp) only [↓sbD,sbU,tyB,Nat.reduceMul,Nat.reduceSub,Int.reduceEq,Int.reduceLT,Int.reduceLE,Int.reduceNe,Nat.reduceBneDiff,Nat.reduceBEq,decide_false,gt_iff_lt,Bool.or_self,Bool.false_eq_true,Nat.mul_one,Nat.one_mul,Nat.zero_mul,↓reduceIte,Nat.reduceEqDiff,Nat.reduceLT,Nat.reduceAdd,Nat.reduceLeDiff,reduceCtorEq,goInt,pairs,isConst,TI.isAgg,splice,boxS,Edp,dpv,Nat.beq_eq,ZV.val,List.any_cons,List.any_nil,Bool.false_and,gx3,yx,wx,wy,yw,hvc2.1,hvc2.2,AHeap.get_set_same]
   refine specOSame hv hv2 (by omega) ?_
   simp (disch := first | assumption | simp) only [↓sbD,sbU,tyB,Nat.reduceMul,Nat.reduceSub,Int.reduceEq,Int.reduceLT,Int.reduceLE,Int.reduceNe,Nat.reduceBneDiff,Nat.reduceBEq,decide_false,gt_iff_lt,Bool.or_self,Bool.false_eq_true,Nat.mul_one,Nat.one_mul,Nat.zero_mul,↓reduceIte,Nat.reduceEqDiff,Nat.reduceLT,Nat.reduceAdd,Nat.reduceLeDiff,reduceCtorEq,goInt,pairs,isConst,TI.isAgg,splice,boxS,Edp,dpv,Nat.beq_eq,ZV.val,List.any_cons,List.any_nil,Bool.false_and,yx,wx,wy,yw,AHeap.get_set_same]
   refine specTsameNil ?_
   simp (disch := first | assumption | simp) only [↓sbD,sbU,tyB,Nat.reduceMul,Nat.reduceSub,Int.reduceEq,Int.reduceLT,Int.reduceLE,Int.reduceNe,Nat.reduceBneDiff,Nat.reduceBEq,decide_false,gt_iff_lt,Bool.or_self,Bool.false_eq_true,Nat.mul_one,Nat.one_mul,Nat.zero_mul,↓reduceIte,Nat.reduceEqDiff,Nat.reduceLT,Nat.reduceAdd,Nat.reduceLeDiff,reduceCtorEq,goInt,pairs,isConst,TI.isAgg,splice,boxS,Edp,dpv,Nat.beq_eq,ZV.val,List.any_cons,List.any_nil,Bool.false_and]
   refine specS8 ?_
   simp (disch := first | assumption | simp) only [↓sbD,sbU,tyB,Nat.reduceMul,Nat.reduceSub,Int.reduceEq,Int.reduceLT,Int.reduceLE,Int.reduceNe,Nat.reduceBneDiff,Nat.reduceBEq,decide_false,gt_iff_lt,Bool.or_self,Bool.false_eq_true,Nat.mul_one,Nat.one_mul,Nat.zero_mul,↓reduceIte,Nat.reduceEqDiff,Nat.reduceLT,Nat.reduceAdd,Nat.reduceLeDiff,reduceCtorEq,goInt,pairs,isConst,TI.isAgg,splice,boxS,Edp,dpv,Nat.beq_eq,ZV.val,List.any_cons,List.any_nil,Bool.false_and]
   exact downS_here rfl
  ·simp (disch := first | assumption | simp) only [↓sbD,sbU,tyB,Nat.reduceMul,Nat.reduceSub,Int.reduceEq,Int.reduceLT,Int.reduceLE,Int.reduceNe,Nat.reduceBneDiff,Nat.reduceBEq,decide_false,gt_iff_lt,Bool.or_self,Bool.false_eq_true,Nat.mul_one,Nat.one_mul,Nat.zero_mul,↓reduceIte,Nat.reduceEqDiff,Nat.reduceLT,Nat.reduceAdd,Nat.reduceLeDiff,reduceCtorEq,goInt,pairs,isConst,TI.isAgg,splice,boxS,Edp,dpv,Nat.beq_eq,ZV.val,List.any_cons,List.any_nil,Bool.false_and,AS_new,zeOp]
   intro x hx
   try simp (disch := first | assumption | simp) only [↓sbD,sbU,tyB,Nat.reduceMul,Nat.reduceSub,Int.reduceEq,Int.reduceLT,Int.reduceLE,Int.reduceNe,Nat.reduceBneDiff,Nat.reduceBEq,decide_false,gt_iff_lt,Bool.or_self,Bool.false_eq_true,Nat.mul_one,Nat.one_mul,Nat.zero_mul,↓reduceIte,Nat.reduceEqDiff,Nat.reduceLT,Nat.reduceAdd,Nat.reduceLeDiff,reduceCtorEq,goInt,pairs,isConst,TI.isAgg,splice,boxS,Edp,dpv,Nat.beq_eq,ZV.val,List.any_cons,List.any_nil,Bool.false_and,AHeap.get_set_same]
   generalize hσ2 : AHeap.set (AHeap.set σ1 x _) x _ = σ2
   have gx2 : σ2.get x = .cells opZ true 0 := by rw [← hσ2]; exact AHeap.get_set_same _ _ _
   clear hσ2
   try simp (disch := first | assumption | simp) only [↓sbD,sbU,tyB,Nat.reduceMul,Nat.reduceSub,Int.reduceEq,Int.reduceLT,Int.reduceLE,Int.reduceNe,Nat.reduceBneDiff,Nat.reduceBEq,decide_false,gt_iff_lt,Bool.or_self,Bool.false_eq_true,Nat.mul_one,Nat.one_mul,Nat.zero_mul,↓reduceIte,Nat.reduceEqDiff,Nat.reduceLT,Nat.reduceAdd,Nat.reduceLeDiff,reduceCtorEq,goInt,pairs,isConst,TI.isAgg,splice,boxS,Edp,dpv,Nat.beq_eq,ZV.val,List.any_cons,List.any_nil,Bool.false_and]
   refine specZTake hs (fun o2 ho2 v2 σ3 hv2 k3 => by cases DecO.det ho ho2) fun k2 rr2 a2 ho2 hk2 σ3 k3 => ?_
   have := DecO.det ho ho2
   simp only [Except.error.injEq,Prod.mk.injEq] at this
   obtain ⟨rfl,rfl,rfl⟩ := this
   have gx3 := (k3.at gx2 (by simp) (by simp)).1
   simp (disch := first | assumption | simp) only [↓sbD,sbU,tyB,Nat.reduceMul,Nat.reduceSub,Int.reduceEq,Int.reduceLT,Int.reduceLE,Int.reduceNe,Nat.reduceBneDiff,Nat.reduceBEq,decide_false,gt_iff_lt,Bool.or_self,Bool.false_eq_true,Nat.mul_one,Nat.one_mul,Nat.zero_mul,↓reduceIte,Nat.reduceEqDiff,Nat.reduceLT,Nat.reduceAdd,Nat.reduceLeDiff,reduceCtorEq,goInt,pairs,isConst,TI.isAgg,splice,boxS,Edp,dpv,Nat.beq_eq,ZV.val,List.any_cons,List.any_nil,Bool.false_and,AS_new,zeOp,zeFlt]
   intro y hy w hw
   have hwy : w ≠ y := by rintro rfl; rw [AHeap.get_set_same] at hw; cases hw
   replace hw : σ3.get w = .dead := by rw [AHeap.get_set_ne _ _ hwy.symm] at hw; exact hw
   have hyx : y ≠ x := nd hy gx3 (by simp)
   have hwx : w ≠ x := nd hw gx3 (by simp)
   have yx : ∀ (τ : AHeap) o,(AHeap.set τ y o).get x = τ.get x := fun τ o => AHeap.get_set_ne _ _ hyx
   have wx : ∀ (τ : AHeap) o,(AHeap.set τ w o).get x = τ.get x := fun τ o => AHeap.get_set_ne _ _ hwx
   have wy : ∀ (τ : AHeap) o,(AHeap.set τ w o).get y = τ.get y := fun τ o => AHeap.get_set_ne _ _ hwy
   have yw : ∀ (τ : AHeap) o,(AHeap.set τ y o).get w = τ.get w := fun τ o => AHeap.get_set_ne _ _ hwy.symm
   try simp (disch := first | assumption | simp) only [↓sbD,sbU,tyB,Nat.reduceMul,Nat.reduceSub,Int.reduceEq,Int.reduceLT,Int.reduceLE,Int.reduceNe,Nat.reduceBneDiff,Nat.reduceBEq,decide_false,gt_iff_lt,Bool.or_self,Bool.false_eq_true,Nat.mul_one,Nat.one_mul,Nat.zero_mul,↓reduceIte,Nat.reduceEqDiff,Nat.reduceLT,Nat.reduceAdd,Nat.reduceLeDiff,reduceCtorEq,goInt,pairs,isConst,TI.isAgg,splice,boxS,Edp,dpv,Nat.beq_eq,ZV.val,List.any_cons,List.any_nil,Bool.false_and,gx3,yx,wx,wy,yw,AHeap.get_set_same]
   refine specOSame (o := ⟨0,emp,0,mz⟩) (.inl ⟨rfl,rfl⟩) (.inl ⟨rfl,rfl⟩) (by simp [mz]) ?_
   simp (disch := first | assumption | simp) only [↓sbD,sbU,tyB,Nat.reduceMul,Nat.reduceSub,Int.reduceEq,Int.reduceLT,Int.reduceLE,Int.reduceNe,Nat.reduceBneDiff,Nat.reduceBEq,decide_false,gt_iff_lt,Bool.or_self,Bool.false_eq_true,Nat.mul_one,Nat.one_mul,Nat.zero_mul,↓reduceIte,Nat.reduceEqDiff,Nat.reduceLT,Nat.reduceAdd,Nat.reduceLeDiff,reduceCtorEq,goInt,pairs,isConst,TI.isAgg,splice,boxS,Edp,dpv,Nat.beq_eq,ZV.val,List.any_cons,List.any_nil,Bool.false_and,yx,wx,wy,yw,AHeap.get_set_same]
   refine specTsameE her (by omega) ?_
   simp (disch := first | assumption | simp) only [↓sbD,sbU,tyB,Nat.reduceMul,Nat.reduceSub,Int.reduceEq,Int.reduceLT,Int.reduceLE,Int.reduceNe,Nat.reduceBneDiff,Nat.reduceBEq,decide_false,gt_iff_lt,Bool.or_self,Bool.false_eq_true,Nat.mul_one,Nat.one_mul,Nat.zero_mul,↓reduceIte,Nat.reduceEqDiff,Nat.reduceLT,Nat.reduceAdd,Nat.reduceLeDiff,reduceCtorEq,goInt,pairs,isConst,TI.isAgg,splice,boxS,Edp,dpv,Nat.beq_eq,ZV.val,List.any_cons,List.any_nil,Bool.false_and]
   refine specS8 ?_
   simp (disch := first | assumption | simp) only [↓sbD,sbU,tyB,Nat.reduceMul,Nat.reduceSub,Int.reduceEq,Int.reduceLT,Int.reduceLE,Int.reduceNe,Nat.reduceBneDiff,Nat.reduceBEq,decide_false,gt_iff_lt,Bool.or_self,Bool.false_eq_true,Nat.mul_one,Nat.one_mul,Nat.zero_mul,↓reduceIte,Nat.reduceEqDiff,Nat.reduceLT,Nat.reduceAdd,Nat.reduceLeDiff,reduceCtorEq,goInt,pairs,isConst,TI.isAgg,splice,boxS,Edp,dpv,Nat.beq_eq,ZV.val,List.any_cons,List.any_nil,Bool.false_and]
   exact downS_here rfl
 exact (key H (ext_holds hB0)).mono fun r H' ⟨σ',_,h⟩ => h
end Go.Proofs.YtkhcbbpfchgemaaGreatDoor.AbsA
