/-
  Parts of a law's proof.
-/
import Derived.Test.YtkhcbbpfchgemaaDoorAYrqcJ
import Derived.Test.YtkhcbbpfchgemaaDoorAYrqeJ
namespace Go.Proofs.YtkhcbbpfchgemaaDoor.AbsB
open Go AbsYtkhcbbpfchgemaaDoor Abs
set_option maxRecDepth 100000
set_option maxHeartbeats 2000000
set_option linter.unusedSimpArgs false
set_option linter.unusedVariables false
attribute [local irreducible] afterS afterOpS opSK OpsS TrS CodeS condS condW thenS thenQ guardS guardTS outS drawS trSK consS
section
variable {σ : AHeap} {Q : Value → AHeap → Prop} {r : Nat} {s : ByteArray} {p : Nat}
theorem specPRead {pl : Int} (hr : IsR σ r s p .nilIface) (hp : p ≤ s.size) (hs : s.size ≤ 100000000)
  (hok : ∀ l q,ReadP pl s p (.ok (l,q)) → ∀ v σ',DL propC 4 v l → Kept σ [r] σ' [r] → IsR σ' r s q .nilIface → q ≤ s.size → Q (.tuple #[v,.nilIface]) σ')
  (hbad : ∀ k rr a : Nat,ReadP pl s p (.error (k,rr,a)) → ∀ σ' d z,Kept σ [r] σ' [r] → d ≤ 3 → ErN d (fv rr a z) k → Q (.tuple #[.slice none 0 0,fv rr a z]) σ') :
  CallS E B 35 [.pointer (some ⟨r,0,none⟩),.int .i64 pl] σ Q := by
 unfold ReadP at hok hbad
 refine call35 (by simp) ?_
 simp only [strip,bodyOf,Tryd.f35,getD_body,keepN,bareOp_mk,lessOp_mk,lapp_cons,lapp_nil,List.map_cons,List.map_nil,array_toList,↓reduceIte,Nat.reduceEqDiff,Bool.false_eq_true]
 simp (disch := first | assumption | simp) only [↓sbD,sbU,tyB,Nat.reduceMul,Nat.reduceSub,Int.reduceEq,Int.reduceLT,Int.reduceLE,Int.reduceNe,Nat.reduceBneDiff,Nat.reduceBEq,decide_false,gt_iff_lt,Bool.or_self,Bool.false_eq_true,Nat.mul_one,Nat.one_mul,Nat.zero_mul,↓reduceIte,Nat.reduceEqDiff,Nat.reduceLT,Nat.reduceAdd,Nat.reduceLeDiff,reduceCtorEq,goInt,pairs,isConst,TI.isAgg,splice,boxS,Edp,dpv,Nat.beq_eq,ZV.val,List.any_cons,List.any_nil,Bool.false_and]
 refine specRVar hr hp hs (fun n q hn σ2 k2 i2 => ?_) fun k q hn σ2 k2 i2 => ?_
 rotate_left
 ·rw [hn] at hbad
  obtain ⟨d,z,hd,he,i3⟩ := i2
  simp (disch := first | assumption | simp) only [↓sbD,sbU,tyB,Nat.reduceMul,Nat.reduceSub,Int.reduceEq,Int.reduceLT,Int.reduceLE,Int.reduceNe,Nat.reduceBneDiff,Nat.reduceBEq,decide_false,gt_iff_lt,Bool.or_self,Bool.false_eq_true,Nat.mul_one,Nat.one_mul,Nat.zero_mul,↓reduceIte,Nat.reduceEqDiff,Nat.reduceLT,Nat.reduceAdd,Nat.reduceLeDiff,reduceCtorEq,goInt,pairs,isConst,TI.isAgg,splice,boxS,Edp,dpv,Nat.beq_eq,ZV.val,List.any_cons,List.any_nil,Bool.false_and]
  refine specRRawE i3 ?_
  simp (disch := first | assumption | simp) only [↓sbD,sbU,tyB,Nat.reduceMul,Nat.reduceSub,Int.reduceEq,Int.reduceLT,Int.reduceLE,Int.reduceNe,Nat.reduceBneDiff,Nat.reduceBEq,decide_false,gt_iff_lt,Bool.or_self,Bool.false_eq_true,Nat.mul_one,Nat.one_mul,Nat.zero_mul,↓reduceIte,Nat.reduceEqDiff,Nat.reduceLT,Nat.reduceAdd,Nat.reduceLeDiff,reduceCtorEq,goInt,pairs,isConst,TI.isAgg,splice,boxS,Edp,dpv,Nat.beq_eq,ZV.val,List.any_cons,List.any_nil,Bool.false_and]
  refine specRErr i3 ?_
  simp (disch := first | assumption | simp) only [↓sbD,sbU,tyB,Nat.reduceMul,Nat.reduceSub,Int.reduceEq,Int.reduceLT,Int.reduceLE,Int.reduceNe,Nat.reduceBneDiff,Nat.reduceBEq,decide_false,gt_iff_lt,Bool.or_self,Bool.false_eq_true,Nat.mul_one,Nat.one_mul,Nat.zero_mul,↓reduceIte,Nat.reduceEqDiff,Nat.reduceLT,Nat.reduceAdd,Nat.reduceLeDiff,reduceCtorEq,goInt,pairs,isConst,TI.isAgg,splice,boxS,Edp,dpv,Nat.beq_eq,ZV.val,List.any_cons,List.any_nil,Bool.false_and]
  exact downS_here (hbad k 129 q rfl _ d z k2 (by omega) he)
 have hv := varR_le hp hn
 rw [hn] at hok hbad
 simp only at hok hbad
 simp (disch := first | assumption | simp) only [↓sbD,sbU,tyB,Nat.reduceMul,Nat.reduceSub,Int.reduceEq,Int.reduceLT,Int.reduceLE,Int.reduceNe,Nat.reduceBneDiff,Nat.reduceBEq,decide_false,gt_iff_lt,Bool.or_self,Bool.false_eq_true,Nat.mul_one,Nat.one_mul,Nat.zero_mul,↓reduceIte,Nat.reduceEqDiff,Nat.reduceLT,Nat.reduceAdd,Nat.reduceLeDiff,reduceCtorEq,goInt,pairs,isConst,TI.isAgg,splice,boxS,Edp,dpv,Nat.beq_eq,ZV.val,List.any_cons,List.any_nil,Bool.false_and]
 refine specRRaw i2 hv.2.1 (by omega) (fun all q2 ha σ3 k3 i3 => ?_) fun k q2 ha σ3 k3 i3 => ?_
 rotate_left
 ·rw [ha] at hbad
  obtain ⟨d,z,hd,he,i4⟩ := i3
  simp (disch := first | assumption | simp) only [↓sbD,sbU,tyB,Nat.reduceMul,Nat.reduceSub,Int.reduceEq,Int.reduceLT,Int.reduceLE,Int.reduceNe,Nat.reduceBneDiff,Nat.reduceBEq,decide_false,gt_iff_lt,Bool.or_self,Bool.false_eq_true,Nat.mul_one,Nat.one_mul,Nat.zero_mul,↓reduceIte,Nat.reduceEqDiff,Nat.reduceLT,Nat.reduceAdd,Nat.reduceLeDiff,reduceCtorEq,goInt,pairs,isConst,TI.isAgg,splice,boxS,Edp,dpv,Nat.beq_eq,ZV.val,List.any_cons,List.any_nil,Bool.false_and]
  refine specRErr i4 ?_
  simp (disch := first | assumption | simp) only [↓sbD,sbU,tyB,Nat.reduceMul,Nat.reduceSub,Int.reduceEq,Int.reduceLT,Int.reduceLE,Int.reduceNe,Nat.reduceBneDiff,Nat.reduceBEq,decide_false,gt_iff_lt,Bool.or_self,Bool.false_eq_true,Nat.mul_one,Nat.one_mul,Nat.zero_mul,↓reduceIte,Nat.reduceEqDiff,Nat.reduceLT,Nat.reduceAdd,Nat.reduceLeDiff,reduceCtorEq,goInt,pairs,isConst,TI.isAgg,splice,boxS,Edp,dpv,Nat.beq_eq,ZV.val,List.any_cons,List.any_nil,Bool.false_and]
  exact downS_here (hbad k 129 q2 rfl _ d z (k2.trans k3) (by omega) he)
 have hq2 := rawR_ok' (by omega) ha
 rw [Int.toNat_natCast] at hq2
 rw [ha] at hok hbad
 simp only at hok hbad
 simp (disch := first | assumption | simp) only [↓sbD,sbU,tyB,Nat.reduceMul,Nat.reduceSub,Int.reduceEq,Int.reduceLT,Int.reduceLE,Int.reduceNe,Nat.reduceBneDiff,Nat.reduceBEq,decide_false,gt_iff_lt,Bool.or_self,Bool.false_eq_true,Nat.mul_one,Nat.one_mul,Nat.zero_mul,↓reduceIte,Nat.reduceEqDiff,Nat.reduceLT,Nat.reduceAdd,Nat.reduceLeDiff,reduceCtorEq,goInt,pairs,isConst,TI.isAgg,splice,boxS,Edp,dpv,Nat.beq_eq,ZV.val,List.any_cons,List.any_nil,Bool.false_and]
 refine specRErr i3 ?_
 simp (disch := first | assumption | simp) only [↓sbD,sbU,tyB,Nat.reduceMul,Nat.reduceSub,Int.reduceEq,Int.reduceLT,Int.reduceLE,Int.reduceNe,Nat.reduceBneDiff,Nat.reduceBEq,decide_false,gt_iff_lt,Bool.or_self,Bool.false_eq_true,Nat.mul_one,Nat.one_mul,Nat.zero_mul,↓reduceIte,Nat.reduceEqDiff,Nat.reduceLT,Nat.reduceAdd,Nat.reduceLeDiff,reduceCtorEq,goInt,pairs,isConst,TI.isAgg,splice,boxS,Edp,dpv,Nat.beq_eq,ZV.val,List.any_cons,List.any_nil,Bool.false_and]
 refine specRAt i3 ?_
 have hwf : IntKind.i64.wrap ((q2 : Int) - (all.size : Int)) = ((q2 - all.size : Nat) : Int) := by rw [wrap64 ⟨by omega,by omega⟩]; omega
 simp (disch := first | assumption | simp) only [↓sbD,sbU,tyB,Nat.reduceMul,Nat.reduceSub,Int.reduceEq,Int.reduceLT,Int.reduceLE,Int.reduceNe,Nat.reduceBneDiff,Nat.reduceBEq,decide_false,gt_iff_lt,Bool.or_self,Bool.false_eq_true,Nat.mul_one,Nat.one_mul,Nat.zero_mul,↓reduceIte,Nat.reduceEqDiff,Nat.reduceLT,Nat.reduceAdd,Nat.reduceLeDiff,reduceCtorEq,goInt,pairs,isConst,TI.isAgg,splice,boxS,Edp,dpv,Nat.beq_eq,ZV.val,List.any_cons,List.any_nil,Bool.false_and,hwf]
 refine specRNew fun x σ4 hx k4 i4 => ?_
 have hrx : r ∉ [x] := by
  intro hm
  obtain rfl := List.mem_singleton.1 hm
  rw [i3] at hx; cases hx
 simp (disch := first | assumption | simp) only [↓sbD,sbU,tyB,Nat.reduceMul,Nat.reduceSub,Int.reduceEq,Int.reduceLT,Int.reduceLE,Int.reduceNe,Nat.reduceBneDiff,Nat.reduceBEq,decide_false,gt_iff_lt,Bool.or_self,Bool.false_eq_true,Nat.mul_one,Nat.one_mul,Nat.zero_mul,↓reduceIte,Nat.reduceEqDiff,Nat.reduceLT,Nat.reduceAdd,Nat.reduceLeDiff,reduceCtorEq,goInt,pairs,isConst,TI.isAgg,splice,boxS,Edp,dpv,Nat.beq_eq,ZV.val,List.any_cons,List.any_nil,Bool.false_and]
 refine S_loop (fun m f σ' => ∃ (p' : Nat) (l : List Pr) (v : Value) (fp : List Nat),m + p' = all.size ∧ p' ≤ all.size ∧ f 10 = v ∧ DG propC 4 σ' v l fp ∧ x ∉ fp ∧ l.length ≤ 64 ∧ IsR σ' x all p' .nilIface ∧ Kept σ3 [] σ' (x :: fp) ∧ ∀ R,AllP pl all p' l R → AllP pl all 0 [] R) all.size (Le.refl _) ⟨0,[],_,[],rfl,Nat.zero_le _,rfl,by simp (disch := first | assumption | simp) only [↓sbD,sbU,tyB,Nat.reduceMul,Nat.reduceSub,Int.reduceEq,Int.reduceLT,Int.reduceLE,Int.reduceNe,Nat.reduceBneDiff,Nat.reduceBEq,decide_false,gt_iff_lt,Bool.or_self,Bool.false_eq_true,Nat.mul_one,Nat.one_mul,Nat.zero_mul,↓reduceIte,Nat.reduceEqDiff,Nat.reduceLT,Nat.reduceAdd,Nat.reduceLeDiff,reduceCtorEq,goInt,pairs,isConst,TI.isAgg,splice,boxS,Edp,dpv,Nat.beq_eq,ZV.val,List.any_cons,List.any_nil,Bool.false_and]; exact DG.nil,by simp,by simp,i4,k4,fun R h => h⟩ ?_
 clear k4 i4
 rintro m f σ5 ⟨p',l,v,fp,hm,hp',f10,hg,hxf,hl64,ix,hk,hback⟩ hf
 have f0 := hf 0 (by decide) (notMem_wr (by kernel_rfl))
 have f1 := hf 1 (by decide) (notMem_wr (by kernel_rfl))
 have f8 := hf 8 (by decide) (notMem_wr (by kernel_rfl))
 have f9 := hf 9 (by decide) (notMem_wr (by kernel_rfl))
 simp (disch := first | assumption | simp) only [↓sbD,sbU,tyB,Nat.reduceMul,Nat.reduceSub,Int.reduceEq,Int.reduceLT,Int.reduceLE,Int.reduceNe,Nat.reduceBneDiff,Nat.reduceBEq,decide_false,gt_iff_lt,Bool.or_self,Bool.false_eq_true,Nat.mul_one,Nat.one_mul,Nat.zero_mul,↓reduceIte,Nat.reduceEqDiff,Nat.reduceLT,Nat.reduceAdd,Nat.reduceLeDiff,reduceCtorEq,goInt,pairs,isConst,TI.isAgg,splice,boxS,Edp,dpv,Nat.beq_eq,ZV.val,List.any_cons,List.any_nil,Bool.false_and] at f0 f1 f8 f9
 clear hf
 have ir := (hk.at i3 (by simp) (by simp)).1
 simp (disch := first | assumption | simp) only [↓sbD,sbU,tyB,Nat.reduceMul,Nat.reduceSub,Int.reduceEq,Int.reduceLT,Int.reduceLE,Int.reduceNe,Nat.reduceBneDiff,Nat.reduceBEq,decide_false,gt_iff_lt,Bool.or_self,Bool.false_eq_true,Nat.mul_one,Nat.one_mul,Nat.zero_mul,↓reduceIte,Nat.reduceEqDiff,Nat.reduceLT,Nat.reduceAdd,Nat.reduceLeDiff,reduceCtorEq,goInt,pairs,isConst,TI.isAgg,splice,boxS,Edp,dpv,Nat.beq_eq,ZV.val,List.any_cons,List.any_nil,Bool.false_and,f9]
 refine specRLeft ix hp' (by omega) ?_
 by_cases hlt : p' < all.size
 ·have h0 : (0 : Int) < ((all.size - p' : Nat) : Int) := by omega
  simp (disch := first | assumption | simp) only [↓sbD,sbU,tyB,Nat.reduceMul,Nat.reduceSub,Int.reduceEq,Int.reduceLT,Int.reduceLE,Int.reduceNe,Nat.reduceBneDiff,Nat.reduceBEq,decide_false,gt_iff_lt,Bool.or_self,Bool.false_eq_true,Nat.mul_one,Nat.one_mul,Nat.zero_mul,↓reduceIte,Nat.reduceEqDiff,Nat.reduceLT,Nat.reduceAdd,Nat.reduceLeDiff,reduceCtorEq,goInt,pairs,isConst,TI.isAgg,splice,boxS,Edp,dpv,Nat.beq_eq,ZV.val,List.any_cons,List.any_nil,Bool.false_and,h0,f9,f1,f10]
  refine specOne hg.dl (by omega) ix hp' (by omega) (fun y q3 ho σ6 k6 i6 => ?_) fun k rr a ho σ6 d z y k6 hd he hab => ?_
  ·have hoq := oneR_ok hp' ho
   have hg6 := hg.kept k6 (fun b hb hm => hxf (by obtain rfl := List.mem_singleton.1 hm; exact hb))
   have hac : propC y = [.int .i64 y.id,.int .i64 y.n,.string y.s,.string y.v] := rfl
   simp (disch := first | assumption | simp) only [↓sbD,sbU,tyB,Nat.reduceMul,Nat.reduceSub,Int.reduceEq,Int.reduceLT,Int.reduceLE,Int.reduceNe,Nat.reduceBneDiff,Nat.reduceBEq,decide_false,gt_iff_lt,Bool.or_self,Bool.false_eq_true,Nat.mul_one,Nat.one_mul,Nat.zero_mul,↓reduceIte,Nat.reduceEqDiff,Nat.reduceLT,Nat.reduceAdd,Nat.reduceLeDiff,reduceCtorEq,goInt,pairs,isConst,TI.isAgg,splice,boxS,Edp,dpv,Nat.beq_eq,ZV.val,List.any_cons,List.any_nil,Bool.false_and,AS_new,zePr,hac,f10]
   intro b hb
   have kb : Kept σ6 [] _ [] := Kept.tmp (o := .cells [.int .i64 0,.int .i64 0,.string ⟨#[]⟩,.string ⟨#[]⟩] true 0) (o' := .cells [.int .i64 y.id,.int .i64 y.n,.string y.s,.string y.v] true 0) hb
   have hg7 := hg6.kept kb (fun _ _ h => by cases h)
   have i7 := (kb.at i6 (by simp) (by simp)).1
   refine app_pr (xs := [y]) hg7 (.inr ⟨1,rfl⟩) (by simp only [List.length_cons,List.length_nil]; omega) fun σ8 v8 fp8 k8 g8 => ?_
   have i8 := k8.at i7 (by simp) hxf
   simp (disch := first | assumption | simp) only [↓sbD,sbU,tyB,Nat.reduceMul,Nat.reduceSub,Int.reduceEq,Int.reduceLT,Int.reduceLE,Int.reduceNe,Nat.reduceBneDiff,Nat.reduceBEq,decide_false,gt_iff_lt,Bool.or_self,Bool.false_eq_true,Nat.mul_one,Nat.one_mul,Nat.zero_mul,↓reduceIte,Nat.reduceEqDiff,Nat.reduceLT,Nat.reduceAdd,Nat.reduceLeDiff,reduceCtorEq,goInt,pairs,isConst,TI.isAgg,splice,boxS,Edp,dpv,Nat.beq_eq,ZV.val,List.any_cons,List.any_nil,Bool.false_and]
   refine ⟨_,m - (q3 - p'),σ8,rfl,by omega,Le.refl _,q3,l ++ [y],v8,fp8,by omega,by omega,rfl,g8,i8.2,by rw [List.length_append]; simp only [List.length_cons,List.length_nil]; omega,i8.1,?_,fun R h => hback R (.step hlt ho h)⟩
   exact hk.trans ((k6.wid (gp := x :: fp) (gp' := x :: fp) (fun b hb => by simp at hb; simp [hb]) (fun b hb => .inr hb)).trans ((kb.wid (gp := x :: fp) (gp' := x :: fp) (fun _ h => by cases h) (fun _ h => .inr h)).trans (k8.wid (gp := x :: fp) (gp' := x :: fp8) (fun b hb => by simp [hb]) (fun b hb => by simp only [List.mem_cons] at hb ⊢; rcases hb with hb | hb <;> simp [hb]))))
  ·have hac : propC y = [.int .i64 y.id,.int .i64 y.n,.string y.s,.string y.v] := rfl
   simp (disch := first | assumption | simp) only [↓sbD,sbU,tyB,Nat.reduceMul,Nat.reduceSub,Int.reduceEq,Int.reduceLT,Int.reduceLE,Int.reduceNe,Nat.reduceBneDiff,Nat.reduceBEq,decide_false,gt_iff_lt,Bool.or_self,Bool.false_eq_true,Nat.mul_one,Nat.one_mul,Nat.zero_mul,↓reduceIte,Nat.reduceEqDiff,Nat.reduceLT,Nat.reduceAdd,Nat.reduceLeDiff,reduceCtorEq,goInt,pairs,isConst,TI.isAgg,splice,boxS,Edp,dpv,Nat.beq_eq,ZV.val,List.any_cons,List.any_nil,Bool.false_and,AS_new,zePr,hac,f8]
   intro b hb
   refine specDeeper (n := a) (m := q2 - all.size) (by omega) (by omega) ?_
   simp (disch := first | assumption | simp) only [↓sbD,sbU,tyB,Nat.reduceMul,Nat.reduceSub,Int.reduceEq,Int.reduceLT,Int.reduceLE,Int.reduceNe,Nat.reduceBneDiff,Nat.reduceBEq,decide_false,gt_iff_lt,Bool.or_self,Bool.false_eq_true,Nat.mul_one,Nat.one_mul,Nat.zero_mul,↓reduceIte,Nat.reduceEqDiff,Nat.reduceLT,Nat.reduceAdd,Nat.reduceLeDiff,reduceCtorEq,goInt,pairs,isConst,TI.isAgg,splice,boxS,Edp,dpv,Nat.beq_eq,ZV.val,List.any_cons,List.any_nil,Bool.false_and]
   have kk : Kept σ3 [] σ6 [] := (hk.wid (gp := []) (gp' := x :: fp) (fun _ h => by cases h) (fun _ h => .inl h)).trans (k6.wid (gp := x :: fp) (gp' := []) (fun b hb => by simp at hb; simp [hb]) (fun _ h => by cases h))
   exact downS_le (Le.new' (Le.new hb) hb) (hbad k rr _ ⟨.error (k,rr,a),hback _ (.bad hlt ho),rfl⟩ σ6 (d + 1) _ ((k2.trans k3).trans kk.fst) (by omega) (ErN.deeper _ _ he))
 ·have h0 : ¬ (0 : Int) < ((all.size - p' : Nat) : Int) := by omega
  simp (disch := first | assumption | simp) only [↓sbD,sbU,tyB,Nat.reduceMul,Nat.reduceSub,Int.reduceEq,Int.reduceLT,Int.reduceLE,Int.reduceNe,Nat.reduceBneDiff,Nat.reduceBEq,decide_false,gt_iff_lt,Bool.or_self,Bool.false_eq_true,Nat.mul_one,Nat.one_mul,Nat.zero_mul,↓reduceIte,Nat.reduceEqDiff,Nat.reduceLT,Nat.reduceAdd,Nat.reduceLeDiff,reduceCtorEq,goInt,pairs,isConst,TI.isAgg,splice,boxS,Edp,dpv,Nat.beq_eq,ZV.val,List.any_cons,List.any_nil,Bool.false_and,h0,f10]
  exact downS_here (hok l q2 ⟨.ok l,hback _ (.nil (by omega)),rfl⟩ v _ hg.dl ((k2.trans k3).trans hk.fst) ir hq2.2.1)
end
theorem AllP.det {pl : Int} {s : ByteArray} {p : Nat} {l : List Pr} {r : Except (Nat × Nat × Nat) (List Pr)} (h : AllP pl s p l r) : ∀ {r'},AllP pl s p l r' → r = r' := by
 induction h with
 | nil h =>
  intro r' h'
  cases h' with
  | nil _ => rfl
  | bad h1 _ => omega
  | step h1 _ _ => omega
 | bad h ho =>
  intro r' h'
  cases h' with
  | nil h1 => omega
  | bad _ h1 => rw [ho] at h1; injection h1 with h1; rw [h1]
  | step _ h1 _ => rw [ho] at h1; cases h1
 | step h ho hr ih =>
  intro r' h'
  cases h' with
  | nil h1 => omega
  | bad _ h1 => rw [ho] at h1; cases h1
  | step _ h1 h2 =>
   rw [ho] at h1
   simp only [Except.ok.injEq,Prod.mk.injEq] at h1
   obtain ⟨rfl,rfl⟩ := h1
   exact ih h2
set_option maxHeartbeats 8000000
abbrev E3 := Nat × Nat × Nat
theorem dl_vc {α : Type} {enc : α → List Value} {sz : Nat} {v : Value} {l : List α} (h : DL enc sz v l) : vcells v = [v] ∧ oneCell v = true := by
 rcases h with ⟨_,rfl⟩ | ⟨m,rfl⟩ <;> exact ⟨rfl,rfl⟩
section
variable {σ : AHeap} {Q : Value → AHeap → Prop} {r q : Nat} {s : ByteArray}
end
theorem DL.bareF {α : Type} {enc : α → List Value} {sz : Nat} {v : Value} {l : List α} (h : DL enc sz v l) : DL enc sz (bare v) l ∧ frz E.ng E.nb (bare v) = true := by
 rcases h with ⟨h1,rfl⟩ | ⟨m,rfl⟩
 ·exact ⟨.inl ⟨h1,rfl⟩,frz_nils⟩
 ·refine ⟨.inr ⟨_,rfl⟩,?_⟩
  show frz E.ng E.nb (dsl (if m ≤ 1 then m else 0) sz l.length (l.flatMap enc)) = true
  rw [frz_dsl]
  split <;> simp_all
section
variable {σ : AHeap} {Q : Value → AHeap → Prop}
end
section
variable {σ : AHeap} {Q : Value → AHeap → Prop} {r q p : Nat} {s : ByteArray}
end
set_option maxHeartbeats 4000000
theorem ReadP.det {pl : Int} {s : ByteArray} {p : Nat} {r r' : Except (Nat × Nat × Nat) (List Pr × Nat)} (h : ReadP pl s p r) (h' : ReadP pl s p r') : r = r' := by
 unfold ReadP at h h'
 cases hv : varR s p with
 | error e => obtain ⟨k,q⟩ := e; rw [hv] at h h'; exact h.trans h'.symm
 | ok a =>
  obtain ⟨n,q⟩ := a
  rw [hv] at h h'
  simp only at h h'
  cases hw : rawR s q n with
  | error e => obtain ⟨k,q'⟩ := e; rw [hw] at h h'; exact h.trans h'.symm
  | ok b =>
   obtain ⟨all,q'⟩ := b
   rw [hw] at h h'
   simp only at h h'
   obtain ⟨x,h1,h2⟩ := h
   obtain ⟨y,h3,h4⟩ := h'
   obtain rfl := h1.det h3
   cases x with
   | error e => obtain ⟨k,rr,a⟩ := e; exact h2.trans h4.symm
   | ok l => exact h2.trans h4.symm
theorem valueR_k {id : Int} {s : ByteArray} {p k q : Nat} (h : valueR id s p = .error (k,q)) : k ≠ 0 := by
 unfold valueR at h
 split at h
 ·cases h1 : textR s p with
  | error e =>
   obtain ⟨k',q'⟩ := e
   rw [h1] at h
   simp only [Except.error.injEq,Prod.mk.injEq] at h
   have := textR_k h1; omega
  | ok a =>
   obtain ⟨a,q1⟩ := a
   rw [h1] at h
   simp only at h
   cases h2 : textR s q1 with
   | error e =>
    obtain ⟨k',q'⟩ := e
    rw [h2] at h
    simp only [Except.error.injEq,Prod.mk.injEq] at h
    have := textR_k h2; omega
   | ok b => rw [h2] at h; cases h
 ·cases h1 : rdA (typI id) s p with
  | error e =>
   obtain ⟨k',q'⟩ := e
   rw [h1] at h
   simp only [Except.error.injEq,Prod.mk.injEq] at h
   have := rdA_k h1; omega
  | ok a => rw [h1] at h; cases h
theorem oneR_k {pl : Int} {s : ByteArray} {p k r a : Nat} {ahead : List Pr} (h : oneR pl s p ahead = .error (k,r,a)) : k ≠ 0 := by
 unfold oneR at h
 cases hv : varR s p with
 | error e =>
  obtain ⟨k',q'⟩ := e
  rw [hv] at h
  simp only [Except.error.injEq,Prod.mk.injEq] at h
  have := varR_k hv; omega
 | ok b =>
  obtain ⟨id,q1⟩ := b
  rw [hv] at h
  simp only at h
  cases hg : groundP pl ahead (id : Int) with
  | some e =>
   obtain ⟨k',r'⟩ := e
   rw [hg] at h
   simp only [Except.error.injEq,Prod.mk.injEq] at h
   have := groundP_k hg; omega
  | none =>
   rw [hg] at h
   simp only at h
   cases hw : valueR id s q1 with
   | error e =>
    obtain ⟨k',q'⟩ := e
    rw [hw] at h
    simp only [Except.error.injEq,Prod.mk.injEq] at h
    have := valueR_k hw; omega
   | ok b =>
    obtain ⟨y,q2⟩ := b
    rw [hw] at h
    simp only at h
    split at h
    ·cases h
    ·simp only [Except.error.injEq,Prod.mk.injEq] at h; omega
theorem AllP.k {pl : Int} {s : ByteArray} {p : Nat} {l : List Pr} {r : Except (Nat × Nat × Nat) (List Pr)} (h : AllP pl s p l r) : ∀ k rr a,r = .error (k,rr,a) → k ≠ 0 := by
 induction h with
 | nil h => intro k rr a hm; cases hm
 | bad h ho => intro k rr a hm; injection hm with hm; subst hm; exact oneR_k ho
 | step h ho hr ih => exact ih
end Go.Proofs.YtkhcbbpfchgemaaDoor.AbsB
