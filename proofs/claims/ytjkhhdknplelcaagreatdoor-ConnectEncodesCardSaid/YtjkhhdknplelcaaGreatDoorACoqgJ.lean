/-
  Parts of a law's proof.
-/
import Derived.Test.YtjkhhdknplelcaaGreatDoorACoqdJ
namespace Go.Proofs.YtjkhhdknplelcaaGreatDoor.AbsA
open Go AbsYtjkhhdknplelcaaGreatDoor Abs
set_option maxRecDepth 100000
set_option maxHeartbeats 8000000
set_option linter.unusedSimpArgs false
set_option linter.unusedVariables false
attribute [local irreducible] afterS afterOpS opSK OpsS TrS CodeS condS condW thenS thenQ guardS guardTS outS drawS trSK consS
section
variable {σ : AHeap} {Q : Value → AHeap → Prop} {s : ByteArray}
theorem specBit {b : Bool} {n : Int} (h : Q (.int .i64 (bI b n)) σ) : CallS E B 117 [.bool b,.int .i64 n] σ Q := by
 unfold bI at h
 refine call117 (by simp) ?_
 simp only [strip,bodyOf,Tryz.f117,getD_body,keepN,bareOp_mk,List.map_cons,List.map_nil,↓reduceIte,Bool.false_eq_true]
 cases b with
 | true =>
  simp only [↓sbD,sbU,↓reduceIte,Nat.reduceEqDiff,Nat.reduceLT,reduceCtorEq]
  exact downS_here h
 | false =>
  simp only [↓sbD,sbU,↓reduceIte,Nat.reduceLT,reduceCtorEq]
  exact downS_here h
theorem lastP_i1 {K : List Value → AHeap → Prop} {a b : List Value × AHeap} {l : List (List Value × AHeap)} (h : lastP K (b :: l)) : lastP K (a :: b :: l) := h
theorem lastP_i2 {K : List Value → AHeap → Prop} {A : List Value} {H : AHeap} (h : K A H) : lastP K [(A,H)] := h
theorem bI_le (b : Bool) (n : Int) (h : 0 ≤ n) : 0 ≤ bI b n ∧ bI b n ≤ n := by unfold bI; cases b <;> simp <;> omega
theorem add_flags {p : Pk} (hq : p.will.has = true → ¬ (p.will.qos < 0 ∨ 3 < p.will.qos)) : ∃ F0 F1 F2 F3 : Int,IntKind.i64.wrap (bI p.clean 2 + bI p.hasU 128) = F0 ∧ IntKind.i64.wrap (F0 + bI p.hasP 64) = F1 ∧
  (p.will.has = true → IntKind.i64.wrap (F1 + 4) = F2 ∧ IntKind.i64.wrap (8 * p.will.qos) = 8 * p.will.qos ∧ IntKind.i64.wrap (F2 + 8 * p.will.qos) = F3 ∧ IntKind.i64.wrap (F3 + bI p.will.ret 32) = flagsI p) ∧ (p.will.has = false → flagsI p = F1) := by
 have b1 := bI_le p.clean 2 (by omega)
 have b2 := bI_le p.hasU 128 (by omega)
 have b3 := bI_le p.hasP 64 (by omega)
 have b4 := bI_le p.will.ret 32 (by omega)
 refine ⟨bI p.clean 2 + bI p.hasU 128,bI p.clean 2 + bI p.hasU 128 + bI p.hasP 64,bI p.clean 2 + bI p.hasU 128 + bI p.hasP 64 + 4,bI p.clean 2 + bI p.hasU 128 + bI p.hasP 64 + 4 + 8 * p.will.qos,wrap64 ⟨by omega,by omega⟩,wrap64 ⟨by omega,by omega⟩,fun hw => ?_,fun hw => ?_⟩
 ·have hq' := hq hw
  refine ⟨wrap64 ⟨by omega,by omega⟩,wrap64 ⟨by omega,by omega⟩,wrap64 ⟨by omega,by omega⟩,?_⟩
  rw [wrap64 ⟨by omega,by omega⟩]
  unfold flagsI
  rw [hw]
  simp only [if_true]
  omega
 ·unfold flagsI
  rw [hw]
  simp
theorem specDFlags {p : Pk} {v : Value} (hp : PkV p v) (hq : p.will.has = true → ¬ (p.will.qos < 0 ∨ 3 < p.will.qos)) (h : Q (.int .i64 (flagsI p)) σ) : CallS E B 72 [v] σ Q := by
 obtain ⟨vp,vw,vs,vf,vc,d1,d2,d3,d4,d5,rfl⟩ := hp
 obtain ⟨up,uw,us,uf,uc,d1,d2,d3,d4,d5,-,hbx⟩ := boxPk d1 d2 d3 d4 d5
 obtain ⟨F0,F1,F2,F3,o1,o2,o3,o4⟩ := add_flags hq
 simp only [pkC] at hbx ⊢
 have hc : p.will.has = false ∨ p.will.has = true := by cases p.will.has <;> simp
 rcases hc with hw | hw <;> simp only [hw] at hbx ⊢
 ·rw [← o4 hw] at o2
  refine call72 (by simp) ?_
  simp only [strip,bodyOf,Tryz.f72,getD_body,keepN,bareOp_mk,lessOp_mk,List.map_cons,List.map_nil,↓reduceIte,Nat.reduceEqDiff,Bool.false_eq_true]
  simp (disch := first | assumption | simp) only [↓sbD,sbU,tyB,↓reduceIte,Nat.reduceEqDiff,Nat.reduceLT,reduceCtorEq,hbx]
  refine specBit ?_
  simp (disch := first | assumption | simp) only [↓sbD,sbU,tyB,↓reduceIte,Nat.reduceEqDiff,Nat.reduceLT,reduceCtorEq]
  refine specBit ?_
  simp (disch := first | assumption | simp) only [↓sbD,sbU,tyB,Bool.or_self,↓reduceIte,Nat.reduceEqDiff,Nat.reduceLT,reduceCtorEq,isConst,o1]
  refine specBit ?_
  simp (disch := first | assumption | simp) only [↓sbD,sbU,Bool.or_self,↓reduceIte,Nat.reduceEqDiff,Nat.reduceLT,isConst,o2]
  refine drawS_l (fl := [(4,2),(8,2),(8,5)]) (by kernel_rfl) ?_ ?_
  rotate_left; simp only [lastP_cc,lastP_one]; rotate_left
  ·simp only [List.all_cons,List.all_nil,floatS,List.getElem?_cons_succ,List.getElem?_cons_zero,List.getElem?_toArray,Region.wanted,Bool.not_true,Bool.or_true,reads,looksWeak,aev_tmp,upd_at,↓reduceIte,Nat.reduceLT,Nat.reduceAdd,blkOf,oeq_refl,Bool.and_true,Bool.and_self,Bool.false_eq_true]
   try rfl
  simp (disch := first | assumption | simp) only [↓sbD,sbU,tyB,↓reduceIte,Nat.reduceEqDiff,Nat.reduceLT,reduceCtorEq]
  exact downS_here h
 ·obtain ⟨e1,e2,e3,e4⟩ := o3 hw
  refine call72 (by simp) ?_
  simp only [strip,bodyOf,Tryz.f72,getD_body,keepN,bareOp_mk,lessOp_mk,List.map_cons,List.map_nil,↓reduceIte,Nat.reduceEqDiff,Bool.false_eq_true]
  simp (disch := first | assumption | simp) only [↓sbD,sbU,tyB,↓reduceIte,Nat.reduceEqDiff,Nat.reduceLT,reduceCtorEq,hbx]
  refine specBit ?_
  simp (disch := first | assumption | simp) only [↓sbD,sbU,tyB,↓reduceIte,Nat.reduceEqDiff,Nat.reduceLT,reduceCtorEq]
  refine specBit ?_
  simp (disch := first | assumption | simp) only [↓sbD,sbU,tyB,Bool.or_self,↓reduceIte,Nat.reduceEqDiff,Nat.reduceLT,reduceCtorEq,isConst,o1]
  refine specBit ?_
  simp (disch := first | assumption | simp) only [↓sbD,sbU,Bool.or_self,↓reduceIte,Nat.reduceEqDiff,Nat.reduceLT,isConst,o2]
  refine drawS_l (fl := [(4,2),(8,2),(8,5)]) (by kernel_rfl) ?_ ?_
  rotate_left; simp only [lastP_cc,lastP_one]; rotate_left
  ·simp only [List.all_cons,List.all_nil,floatS,List.getElem?_cons_succ,List.getElem?_cons_zero,List.getElem?_toArray,Region.wanted,Bool.not_true,Bool.or_true,reads,looksWeak,aev_tmp,upd_at,↓reduceIte,Nat.reduceLT,Nat.reduceAdd,blkOf,oeq_refl,Bool.and_true,Bool.and_self,Bool.false_eq_true]
   try rfl
  simp (disch := first | assumption | simp) only [↓sbD,sbU,tyB,Bool.or_self,↓reduceIte,Nat.reduceEqDiff,Nat.reduceLT,reduceCtorEq,isConst,e1,e2,e3]
  refine specBit ?_
  simp (disch := first | assumption | simp) only [↓sbD,sbU,Bool.or_self,↓reduceIte,Nat.reduceEqDiff,Nat.reduceLT,isConst,e4]
  refine drawS_l (fl := [(4,10)]) (by kernel_rfl) ?_ ?_
  rotate_left; simp only [lastP_cc,lastP_one]; rotate_left
  ·simp only [List.all_cons,List.all_nil,floatS,List.getElem?_cons_succ,List.getElem?_cons_zero,List.getElem?_toArray,Region.wanted,Bool.not_true,Bool.or_true,reads,looksWeak,aev_tmp,upd_at,↓reduceIte,Nat.reduceLT,Nat.reduceAdd,blkOf,oeq_refl,Bool.and_true,Bool.and_self,Bool.false_eq_true]
   try rfl
  simp (disch := first | assumption | simp) only [↓sbD,sbU,↓reduceIte,Nat.reduceLT]
  exact downS_here h
def hdrK : ByteArray := ⟨#[0,4,77,81,84,84,5]⟩
theorem hdr_run : runW emp [⟨8,0,hdrK⟩] = runW emp [⟨6,0,mqtt⟩,⟨1,5,emp⟩] := by decide +kernel
theorem actsK_runD {p : Pk} {a b : ByteArray} : stepW (stepW (stepW (stepW (stepW (stepW (stepW (stepW (runW emp []) [⟨8,0,hdrK⟩]) [⟨1,flagsI p,emp⟩]) [⟨2,p.keep,emp⟩]) [⟨8,0,a⟩]) [⟨6,0,p.client⟩]) (wlL p b)) (usL p)) (paL p) = runW emp (actsK p (a,b)) := by
 rw [← actsK_run,show stepW (runW emp []) [⟨8,0,hdrK⟩] = stepW (runW emp []) [⟨6,0,mqtt⟩,⟨1,5,emp⟩] from hdr_run]
 simp only [stepW_app]
 rfl
theorem specDKoEnc {p : Pk} {v : Value} (hp : PkV p v) (hf : fewPk p)
  (hok : ∀ fb,EncK p (.ok fb) → ∀ σ',Kept σ [] σ' [] → Q (.tuple #[.agg ⟨[.int .i64 fb.1,.string fb.2]⟩,flt 0 0 0]) σ')
  (hbad : ∀ k rr a : Nat,EncK p (.error (k,rr,a)) → k ≠ 0 → ∀ σ',Kept σ [] σ' [] → Q (.tuple #[.agg ⟨[.int .i64 0,.string emp]⟩,flt k rr a]) σ') :
  CallS E B 23 [v] σ Q := by
 obtain ⟨vp,vw,vs,vf,vc,d1,d2,d3,d4,d5,rfl⟩ := hp
 obtain ⟨up,uw,us,uf,uc,d1,d2,d3,d4,d5,-,hbx⟩ := boxPk d1 d2 d3 d4 d5
 simp only [pkC] at hbx ⊢
 have hm := hf.big
 have eml : (emp).size = 0 := rfl
 unfold EncK EncG at hok hbad
 have h5 := hm.client
 have h6 := hm.user
 have h7 := hm.pass
 have h8 := hm.wtopic
 have h9 := hm.wpay
 have hpv : PkV p (.agg ⟨pkC p up uw us uf uc⟩) := ⟨_,_,_,_,_,d1,d2,d3,d4,d5,rfl⟩
 simp only [pkC] at hpv
 by_cases hq : p.will.has = true ∧ (p.will.qos < 0 ∨ 3 < p.will.qos)
 ·have hpre : preK p = some (2,129,0) := if_pos hq
  have hwa := hq.1
  simp only [hpre] at hbad
  have OUT : ∀ {P : Prop},(p.will.qos < 0 → P) → (¬ p.will.qos < 0 → 3 < p.will.qos → P) → P := fun a b => by
   by_cases h : p.will.qos < 0
   ·exact a h
   ·exact b h (hq.2.resolve_left h)
  simp only [hwa] at hbx ⊢
  refine call23 (by simp) ?_
  simp only [strip,bodyOf,Tryz.f23,getD_body,keepN,bareOp_mk,lessOp_mk,lapp_cons,lapp_nil,List.map_cons,List.map_nil,↓reduceIte,Nat.reduceEqDiff,Bool.false_eq_true]
  refine OUT (fun q1 => ?_) fun q1 q2 => ?_
  focus simp only [↓sbD,sbU,tyB,↓reduceIte,Nat.reduceEqDiff,Nat.reduceLT,reduceCtorEq,pairs,isConst,ZV.val,hbx,AS_new,zeFra,zeFlt,q1]
  rotate_left
  focus simp only [↓sbD,sbU,tyB,decide_false,↓reduceIte,Nat.reduceEqDiff,Nat.reduceLT,reduceCtorEq,pairs,isConst,ZV.val,hbx,AS_new,zeFra,zeFlt,q1,q2]
  all_goals
   intro b hb c hc
   have hcb : c ≠ b := by rintro rfl; rw [AHeap.get_set_same] at hc; cases hc
   have hcd : σ.get c = .dead := by rw [AHeap.get_set_ne _ _ hcb.symm] at hc; exact hc
   have cb : ∀ (τ : AHeap) o,(AHeap.set τ c o).get b = τ.get b := fun τ o => AHeap.get_set_ne _ _ hcb
   have bc : ∀ (τ : AHeap) o,(AHeap.set τ b o).get c = τ.get c := fun τ o => AHeap.get_set_ne _ _ hcb.symm
   clear hc
   refine specKBad (n := 0) ?_
   simp only [↓sbD,sbU,tyB,↓reduceIte,Nat.reduceEqDiff,Nat.reduceLT,Nat.reduceAdd,Nat.reduceLeDiff,splice,bc,cb,res_cellc,resC_some]
   exact downS_here (hbad 2 129 0 rfl (by omega) _ (((((Kept.refl σ []).setD hb).setD hcd).setD hb).setD hcd))
 have hpre : preK p = none := if_neg hq
 simp only [hpre] at hok hbad
 have hqq : p.will.has = true → ¬ (p.will.qos < 0 ∨ 3 < p.will.qos) := fun h1 h2 => hq ⟨h1,h2⟩
 have ALT : ∀ {P : Prop},(p.will.has = false → P) → (p.will.has = true → ¬ p.will.qos < 0 → ¬ 3 < p.will.qos → P) → P := fun a b => by
  cases hw : p.will.has with
  | false => exact a hw
  | true => exact b hw (fun h => hqq hw (.inl h)) (fun h => hqq hw (.inr h))
 unfold propsK at hok hbad
 refine ALT (fun hwa => ?_) fun hwa q1 q2 => ?_
 focus
  simp only [hwa] at hbx hpv ⊢
  refine call23 (by simp) ?_
  simp only [strip,bodyOf,Tryz.f23,getD_body,keepN,bareOp_mk,lessOp_mk,lapp_cons,lapp_nil,List.map_cons,List.map_nil,↓reduceIte,Nat.reduceEqDiff,Bool.false_eq_true]
  simp only [↓sbD,sbU,tyB,↓reduceIte,Nat.reduceEqDiff,Nat.reduceLT,reduceCtorEq,hbx,AS_new,zeFra,zeFlt]
 rotate_left
 focus
  simp only [hwa] at hbx hpv ⊢
  refine call23 (by simp) ?_
  simp only [strip,bodyOf,Tryz.f23,getD_body,keepN,bareOp_mk,lessOp_mk,lapp_cons,lapp_nil,List.map_cons,List.map_nil,↓reduceIte,Nat.reduceEqDiff,Bool.false_eq_true]
  simp only [↓sbD,sbU,tyB,decide_false,↓reduceIte,Nat.reduceEqDiff,Nat.reduceLT,reduceCtorEq,isConst,hbx,AS_new,zeFra,zeFlt,q1,q2]
 rotate_left
 all_goals
  intro b hb c hc
  have hcb : c ≠ b := by rintro rfl; rw [AHeap.get_set_same] at hc; cases hc
  have hcd : σ.get c = .dead := by rw [AHeap.get_set_ne _ _ hcb.symm] at hc; exact hc
  have cb : ∀ (τ : AHeap) o,(AHeap.set τ c o).get b = τ.get b := fun τ o => AHeap.get_set_ne _ _ hcb
  have bc : ∀ (τ : AHeap) o,(AHeap.set τ b o).get c = τ.get c := fun τ o => AHeap.get_set_ne _ _ hcb.symm
  clear hc
  generalize hσ1 : AHeap.set (AHeap.set σ b _) c _ = σ1
  have k1 : Kept σ [] σ1 [] := by rw [← hσ1]; exact ((Kept.refl σ []).setD hb).setD hcd
  have gb1 : σ1.get b = .cells [.int .i64 0,.string emp] true 0 := by rw [← hσ1,cb]; exact AHeap.get_set_same _ _ _
  have gc1 : σ1.get c = .cells [.int .i64 0,.int .i64 0,.int .i64 0] true 0 := by rw [← hσ1]; exact AHeap.get_set_same _ _ _
  clear hσ1
  have FIN : ∀ {τ : AHeap} {o o' : AObj},Kept σ1 [] τ [] → Kept σ [] ((τ.set b o).set c o') [] := fun kt => ((k1.trans kt).setD hb).setD hcd
  refine specREncode d1 hm.props (fun cc hce => ?_) fun k r a hce => ?_
  rotate_left
  ·rw [hce] at hok hbad
   simp only at hok hbad
   have hk := encP_k hce
   have T1 : Kept σ1 [] σ1 [] := Kept.refl _ _
   have hk0 : ¬ (k : Int) = 0 := by omega
   simp only [↓sbD,sbU,tyB,↓reduceIte,Nat.reduceEqDiff,Nat.reduceLT,Nat.reduceAdd,Nat.reduceLeDiff,reduceCtorEq,isConst,splice,AS_new,zeFlt]
   intro g hg
   have hgb : b ≠ g := (nd hg gb1 (by simp)).symm
   have hgc : c ≠ g := (nd hg gc1 (by simp)).symm
   have gb : ∀ (τ : AHeap) o,(AHeap.set τ g o).get b = τ.get b := fun τ o => AHeap.get_set_ne _ _ hgb.symm
   have gc : ∀ (τ : AHeap) o,(AHeap.set τ g o).get c = τ.get c := fun τ o => AHeap.get_set_ne _ _ hgc.symm
   have bg : ∀ (τ : AHeap) o,(AHeap.set τ b o).get g = τ.get g := fun τ o => AHeap.get_set_ne _ _ hgb
   simp only [↓sbD,sbU,tyB,↓reduceIte,Nat.reduceEqDiff,Nat.reduceLT,Nat.reduceAdd,Nat.reduceLeDiff,pairs,splice,ZV.val,gb,gc,bc,gb1,gc1,hk0]
   refine drawS_l (fl := [(1,2)]) (by kernel_rfl) ?_ ?_
   rotate_left; simp only [lastP_cc,lastP_one]; rotate_left
   ·simp only [List.all_cons,List.all_nil,floatS,List.getElem?_cons_succ,List.getElem?_cons_zero,List.getElem?_toArray,Region.wanted,Bool.not_true,Bool.not_false,Bool.or_true,reads,looksWeak,aev_tmp,upd_at,↓reduceIte,Nat.reduceEqDiff,Nat.reduceLT,Nat.reduceAdd,blkOf,oeq_refl,dead_cells,Bool.and_self,Bool.false_eq_true,Bool.not_false,bg,AHeap.get_set_same]
    try rfl
   simp only [↓sbD,sbU,tyB,↓reduceIte,Nat.reduceEqDiff,Nat.reduceLT,Nat.reduceAdd,Nat.reduceLeDiff,cb,res_cellc,resC_some]
   exact downS_here (hbad k r a rfl hk _ (FIN (T1.trans (((Kept.refl _ []).setD hg).setD hg))))
  rw [hce] at hok hbad
  simp only at hok hbad
  have hcz := encP_size hf.props hce
  simp only [↓sbD,sbU,tyB,decide_false,↓reduceIte,Nat.reduceEqDiff,Nat.reduceLT,Nat.reduceAdd,Nat.reduceLeDiff,reduceCtorEq,pairs,isConst,splice,boxS,Edp,ZV.val,AS_new,zeFlt]
  intro g hg
  have hgb : b ≠ g := (nd hg gb1 (by simp)).symm
  have hgc : c ≠ g := (nd hg gc1 (by simp)).symm
  have gb : ∀ (τ : AHeap) o,(AHeap.set τ g o).get b = τ.get b := fun τ o => AHeap.get_set_ne _ _ hgb.symm
  have gc : ∀ (τ : AHeap) o,(AHeap.set τ g o).get c = τ.get c := fun τ o => AHeap.get_set_ne _ _ hgc.symm
  have bg : ∀ (τ : AHeap) o,(AHeap.set τ b o).get g = τ.get g := fun τ o => AHeap.get_set_ne _ _ hgb
  generalize hσ2 : AHeap.set (AHeap.set σ1 g _) g _ = σ2
  have k2 : Kept σ1 [] σ2 [] := by rw [← hσ2]; exact ((Kept.refl _ []).setD hg).setD hg
  have gg2 : σ2.get g = .cells [.int .i64 0,.int .i64 0,.int .i64 0] true 0 := by rw [← hσ2]; exact AHeap.get_set_same _ _ _
  clear hσ2
  have gb2 := (k2.at gb1 (by simp) (by simp)).1
  have gc2 := (k2.at gc1 (by simp) (by simp)).1
 focus
  simp only [hwa,Bool.false_eq_true,if_false] at hok hbad
  have hR2 : ∀ b,wlL p b = [] := fun b => by unfold wlL; rw [hwa]; rfl
  obtain ⟨b',hb'⟩ : ∃ b',emp = b' := ⟨_,rfl⟩
  have hA : actsK p (cc,emp) = actsK p (cc,b') := by rw [← hb']
  rw [hA] at hok hbad
  obtain ⟨σW0,rfl⟩ : ∃ τ,τ = σ2 := ⟨_,rfl⟩
  have kW0 := k2
  simp only [↓sbD,sbU,tyB,Bool.false_eq_true,↓reduceIte,Nat.reduceEqDiff,Nat.reduceLT,Nat.reduceAdd,Nat.reduceLeDiff,pairs,splice,ZV.val,Bool.false_and,AS_new,dpX]
  clear hb' hA
  intro x hx
  generalize hσ11 : AHeap.set σW0 x _ = σ11
  have x11 : XRun σ11 x (runW emp []) := by rw [← hσ11]; exact AHeap.get_set_same _ _ _
  have k11 : Kept σ1 [] σ11 [x] := kW0.trans (by rw [← hσ11]; exact Kept.new' hx)
  have z11 : leW (runW emp []) 0 := fun b hb => by injection hb with hb; subst hb; exact Nat.le_refl _
  clear hσ11
  refine specDoR (a := ⟨8,0,hdrK⟩) x11 (fun b hb => by have := z11 b hb; omega) (by decide) fun σ12 k12 x12 => ?_
  have z12 := leW_step (a := ⟨8,0,hdrK⟩) z11
  have e12 : hdrK.size = 7 := rfl
  simp only [e12] at z12
  try simp only [↓sbD,sbU,tyB,↓reduceIte,Nat.reduceEqDiff,Nat.reduceLT,Nat.reduceAdd,Nat.reduceLeDiff]
  refine specDFlags hpv hqq ?_
  try simp only [↓sbD,sbU,tyB,↓reduceIte,Nat.reduceEqDiff,Nat.reduceLT,Nat.reduceAdd,Nat.reduceLeDiff,pairs,splice,ZV.val]
  refine specDoR (a := ⟨1,flagsI p,emp⟩) x12 (fun b hb => by have := z12 b hb; omega) (by simp only [eml]; omega) fun σ13 k13 x13 => ?_
  have z13 := leW_step (a := ⟨1,flagsI p,emp⟩) z12
  simp only [eml] at z13
  try simp only [↓sbD,sbU,tyB,↓reduceIte,Nat.reduceEqDiff,Nat.reduceLT,Nat.reduceAdd,Nat.reduceLeDiff,reduceCtorEq,pairs,splice,ZV.val]
  refine specDoR (a := ⟨2,p.keep,emp⟩) x13 (fun b hb => by have := z13 b hb; omega) (by simp only [eml]; omega) fun σ14 k14 x14 => ?_
  have z14 := leW_step (a := ⟨2,p.keep,emp⟩) z13
  simp only [eml] at z14
  try simp only [↓sbD,sbU,tyB,↓reduceIte,Nat.reduceEqDiff,Nat.reduceLT,Nat.reduceAdd,Nat.reduceLeDiff,pairs,splice,ZV.val]
  refine specDoR (a := ⟨8,0,cc⟩) x14 (fun b hb => by have := z14 b hb; omega) (by simp only; omega) fun σ15 k15 x15 => ?_
  have z15 := leW_step (a := ⟨8,0,cc⟩) z14
  simp only at z15
  try simp only [↓sbD,sbU,tyB,↓reduceIte,Nat.reduceEqDiff,Nat.reduceLT,Nat.reduceAdd,Nat.reduceLeDiff,reduceCtorEq,pairs,splice,ZV.val]
  refine specDoR (a := ⟨6,0,p.client⟩) x15 (fun b hb => by have := z15 b hb; omega) (by simp only; omega) fun σ16 k16 x16 => ?_
  have z16 := leW_step (a := ⟨6,0,p.client⟩) z15
  simp only at z16
  have hRR := actsK_runD (p := p) (a := cc) (b := b')
  have hz16 : leW (stepW (stepW (stepW (stepW (stepW (runW emp []) [⟨8,0,hdrK⟩]) [⟨1,flagsI p,emp⟩]) [⟨2,p.keep,emp⟩]) [⟨8,0,cc⟩]) [⟨6,0,p.client⟩]) 40000 := fun b hb => by have := z16 b hb; omega
  have KA := k11.trans (k12.trans (k13.trans (k14.trans (k15.trans k16))))
  generalize stepW (stepW (stepW (stepW (stepW (runW emp []) [⟨8,0,hdrK⟩]) [⟨1,flagsI p,emp⟩]) [⟨2,p.keep,emp⟩]) [⟨8,0,cc⟩]) [⟨6,0,p.client⟩] = R16 at x16 hz16 hRR
  clear z16 z15 z14 z13 z12 x15 x14 x13 x12 k11 k12 k13 k14 k15 k16
  try simp only [↓sbD,sbU,tyB,↓reduceIte,Nat.reduceEqDiff,Nat.reduceLT,reduceCtorEq]
  rw [hR2,stepW_nil] at hRR
  obtain ⟨σ17,rfl⟩ : ∃ τ,τ = σ16 := ⟨_,rfl⟩
  have x17 := x16
  have K17 := KA
  have z17 : leW R16 80000 := fun b hb => by have := hz16 b hb; omega
  generalize R16 = R17 at x17 z17 hRR
 rotate_left
 focus
  simp only [hwa,if_true] at hok hbad
  try simp only [↓sbD,sbU,tyB,Nat.reduceMul,Nat.reduceSub,Int.reduceEq,Int.reduceLT,Int.reduceLE,Int.reduceNe,Nat.reduceBneDiff,Nat.reduceBEq,decide_false,gt_iff_lt,Bool.or_self,Bool.false_eq_true,Nat.mul_one,Nat.one_mul,Nat.zero_mul,↓reduceIte,Nat.reduceEqDiff,Nat.reduceLT,Nat.reduceAdd,Nat.reduceLeDiff,reduceCtorEq,goInt,pairs,isConst,TI.isAgg,splice,boxS,Edp,dpv,Nat.beq_eq,ZV.val,List.any_cons,List.any_nil,Bool.false_and,gg2]
  refine specREncode d2 hm.wprops (fun b' hce2 => ?_) fun k r a hce2 => ?_
  rotate_left
  ·rw [hce2] at hok hbad
   simp only at hok hbad
   have hk := encP_k hce2
   have T2 : Kept σ1 [] σ2 [] := k2
   have hk0 : ¬ (k : Int) = 0 := by omega
   simp only [↓sbD,sbU,tyB,↓reduceIte,Nat.reduceEqDiff,Nat.reduceLT,Nat.reduceAdd,Nat.reduceLeDiff,reduceCtorEq,isConst,splice,AS_new,zeFlt]
   intro g hg
   have hgb : b ≠ g := (nd hg gb2 (by simp)).symm
   have hgc : c ≠ g := (nd hg gc2 (by simp)).symm
   have gb : ∀ (τ : AHeap) o,(AHeap.set τ g o).get b = τ.get b := fun τ o => AHeap.get_set_ne _ _ hgb.symm
   have gc : ∀ (τ : AHeap) o,(AHeap.set τ g o).get c = τ.get c := fun τ o => AHeap.get_set_ne _ _ hgc.symm
   have bg : ∀ (τ : AHeap) o,(AHeap.set τ b o).get g = τ.get g := fun τ o => AHeap.get_set_ne _ _ hgb
   simp only [↓sbD,sbU,tyB,↓reduceIte,Nat.reduceEqDiff,Nat.reduceLT,Nat.reduceAdd,Nat.reduceLeDiff,pairs,splice,ZV.val,gb,gc,bc,gb2,gc2,hk0]
   refine drawS_l (fl := [(1,2)]) (by kernel_rfl) ?_ ?_
   rotate_left
   refine lastP_i1 (lastP_i1 (lastP_i1 (lastP_i1 (lastP_i2 ?_))))
   rotate_left
   ·simp only [List.all_cons,List.all_nil,floatS,List.getElem?_cons_succ,List.getElem?_cons_zero,List.getElem?_toArray,Region.wanted,Bool.not_true,Bool.not_false,Bool.or_true,reads,looksWeak,aev_tmp,upd_at,↓reduceIte,Nat.reduceEqDiff,Nat.reduceLT,Nat.reduceAdd,blkOf,oeq_refl,dead_cells,Bool.and_self,Bool.false_eq_true,Bool.not_false,bg,AHeap.get_set_same]
    try rfl
   simp only [↓sbD,sbU,tyB,↓reduceIte,Nat.reduceEqDiff,Nat.reduceLT,Nat.reduceAdd,Nat.reduceLeDiff,cb,res_cellc,resC_some]
   exact downS_here (hbad k r a rfl hk _ (FIN (T2.trans (((Kept.refl _ []).setD hg).setD hg))))
  rw [hce2] at hok hbad
  simp only at hok hbad
  have hcz2 := encP_size hf.wprops hce2
  simp only [↓sbD,sbU,tyB,decide_false,↓reduceIte,Nat.reduceEqDiff,Nat.reduceLT,Nat.reduceAdd,Nat.reduceLeDiff,reduceCtorEq,pairs,isConst,splice,boxS,Edp,ZV.val,AS_new,zeFlt]
  intro g hg
  have hgb : b ≠ g := (nd hg gb2 (by simp)).symm
  have hgc : c ≠ g := (nd hg gc2 (by simp)).symm
  have gb : ∀ (τ : AHeap) o,(AHeap.set τ g o).get b = τ.get b := fun τ o => AHeap.get_set_ne _ _ hgb.symm
  have gc : ∀ (τ : AHeap) o,(AHeap.set τ g o).get c = τ.get c := fun τ o => AHeap.get_set_ne _ _ hgc.symm
  have bg : ∀ (τ : AHeap) o,(AHeap.set τ b o).get g = τ.get g := fun τ o => AHeap.get_set_ne _ _ hgb
  generalize hσ3 : AHeap.set (AHeap.set σ2 g _) g _ = σ3
  have k3 : Kept σ2 [] σ3 [] := by rw [← hσ3]; exact ((Kept.refl _ []).setD hg).setD hg
  have gg3 : σ3.get g = .cells [.int .i64 0,.int .i64 0,.int .i64 0] true 0 := by rw [← hσ3]; exact AHeap.get_set_same _ _ _
  clear hσ3
  have gb3 := (k3.at gb2 (by simp) (by simp)).1
  have gc3 := (k3.at gc2 (by simp) (by simp)).1
  obtain ⟨σW0,rfl⟩ : ∃ τ,τ = σ3 := ⟨_,rfl⟩
  have kW0 := k2.trans k3
  simp only [↓sbD,sbU,tyB,Bool.false_eq_true,↓reduceIte,Nat.reduceEqDiff,Nat.reduceLT,Nat.reduceAdd,Nat.reduceLeDiff,pairs,splice,ZV.val,Bool.false_and,AS_new,dpX]
  intro x hx
  generalize hσ11 : AHeap.set σW0 x _ = σ11
  have x11 : XRun σ11 x (runW emp []) := by rw [← hσ11]; exact AHeap.get_set_same _ _ _
  have k11 : Kept σ1 [] σ11 [x] := kW0.trans (by rw [← hσ11]; exact Kept.new' hx)
  have z11 : leW (runW emp []) 0 := fun b hb => by injection hb with hb; subst hb; exact Nat.le_refl _
  clear hσ11
  refine specDoR (a := ⟨8,0,hdrK⟩) x11 (fun b hb => by have := z11 b hb; omega) (by decide) fun σ12 k12 x12 => ?_
  have z12 := leW_step (a := ⟨8,0,hdrK⟩) z11
  have e12 : hdrK.size = 7 := rfl
  simp only [e12] at z12
  try simp only [↓sbD,sbU,tyB,↓reduceIte,Nat.reduceEqDiff,Nat.reduceLT,Nat.reduceAdd,Nat.reduceLeDiff]
  refine specDFlags hpv hqq ?_
  try simp only [↓sbD,sbU,tyB,↓reduceIte,Nat.reduceEqDiff,Nat.reduceLT,Nat.reduceAdd,Nat.reduceLeDiff,pairs,splice,ZV.val]
  refine specDoR (a := ⟨1,flagsI p,emp⟩) x12 (fun b hb => by have := z12 b hb; omega) (by simp only [eml]; omega) fun σ13 k13 x13 => ?_
  have z13 := leW_step (a := ⟨1,flagsI p,emp⟩) z12
  simp only [eml] at z13
  try simp only [↓sbD,sbU,tyB,↓reduceIte,Nat.reduceEqDiff,Nat.reduceLT,Nat.reduceAdd,Nat.reduceLeDiff,reduceCtorEq,pairs,splice,ZV.val]
  refine specDoR (a := ⟨2,p.keep,emp⟩) x13 (fun b hb => by have := z13 b hb; omega) (by simp only [eml]; omega) fun σ14 k14 x14 => ?_
  have z14 := leW_step (a := ⟨2,p.keep,emp⟩) z13
  simp only [eml] at z14
  try simp only [↓sbD,sbU,tyB,↓reduceIte,Nat.reduceEqDiff,Nat.reduceLT,Nat.reduceAdd,Nat.reduceLeDiff,pairs,splice,ZV.val]
  refine specDoR (a := ⟨8,0,cc⟩) x14 (fun b hb => by have := z14 b hb; omega) (by simp only; omega) fun σ15 k15 x15 => ?_
  have z15 := leW_step (a := ⟨8,0,cc⟩) z14
  simp only at z15
  try simp only [↓sbD,sbU,tyB,↓reduceIte,Nat.reduceEqDiff,Nat.reduceLT,Nat.reduceAdd,Nat.reduceLeDiff,reduceCtorEq,pairs,splice,ZV.val]
  refine specDoR (a := ⟨6,0,p.client⟩) x15 (fun b hb => by have := z15 b hb; omega) (by simp only; omega) fun σ16 k16 x16 => ?_
  have z16 := leW_step (a := ⟨6,0,p.client⟩) z15
  simp only at z16
  have hRR := actsK_runD (p := p) (a := cc) (b := b')
  have hz16 : leW (stepW (stepW (stepW (stepW (stepW (runW emp []) [⟨8,0,hdrK⟩]) [⟨1,flagsI p,emp⟩]) [⟨2,p.keep,emp⟩]) [⟨8,0,cc⟩]) [⟨6,0,p.client⟩]) 40000 := fun b hb => by have := z16 b hb; omega
  have KA := k11.trans (k12.trans (k13.trans (k14.trans (k15.trans k16))))
  generalize stepW (stepW (stepW (stepW (stepW (runW emp []) [⟨8,0,hdrK⟩]) [⟨1,flagsI p,emp⟩]) [⟨2,p.keep,emp⟩]) [⟨8,0,cc⟩]) [⟨6,0,p.client⟩] = R16 at x16 hz16 hRR
  clear z16 z15 z14 z13 z12 x15 x14 x13 x12 k11 k12 k13 k14 k15 k16
  try simp only [↓sbD,sbU,tyB,↓reduceIte,Nat.reduceEqDiff,Nat.reduceLT,Nat.reduceAdd,Nat.reduceLeDiff,reduceCtorEq,pairs,splice,ZV.val]
  refine specDoR (a := ⟨8,0,b'⟩) x16 (fun b hb => by have := hz16 b hb; omega) (by simp only; omega) fun σ31 k31 x31 => ?_
  have z31 := leW_step (a := ⟨8,0,b'⟩) hz16
  simp only at z31
  try simp only [↓sbD,sbU,tyB,↓reduceIte,Nat.reduceEqDiff,Nat.reduceLT,Nat.reduceAdd,Nat.reduceLeDiff,reduceCtorEq,pairs,splice,ZV.val]
  refine specDoR (a := ⟨6,0,p.will.topic⟩) x31 (fun b hb => by have := z31 b hb; omega) (by simp only; omega) fun σ32 k32 x32 => ?_
  have z32 := leW_step (a := ⟨6,0,p.will.topic⟩) z31
  simp only at z32
  try simp only [↓sbD,sbU,tyB,↓reduceIte,Nat.reduceEqDiff,Nat.reduceLT,Nat.reduceAdd,Nat.reduceLeDiff,reduceCtorEq,pairs,splice,ZV.val]
  refine specDoR (a := ⟨7,0,p.will.pay⟩) x32 (fun b hb => by have := z32 b hb; omega) (by simp only; omega) fun σ17 k17 x17 => ?_
  have z17a := leW_step (a := ⟨7,0,p.will.pay⟩) z32
  simp only at z17a
  have hL : stepW (stepW (stepW R16 [⟨8,0,b'⟩]) [⟨6,0,p.will.topic⟩]) [⟨7,0,p.will.pay⟩] = stepW R16 (wlL p b') := by rw [stepW_app,stepW_app]; unfold wlL; rw [hwa]; rfl
  rw [hL] at x17 z17a
  have z17 : leW (stepW R16 (wlL p b')) 80000 := fun b hb => by have := z17a b hb; omega
  have K17 := KA.trans (k31.trans (k32.trans k17))
  generalize stepW R16 (wlL p b') = R17 at x17 z17 hRR
  try simp only [↓sbD,sbU,tyB,↓reduceIte,Nat.reduceEqDiff,Nat.reduceLT,reduceCtorEq]
 rotate_left
 all_goals
  have huc : p.hasU = false ∨ p.hasU = true := by cases p.hasU <;> simp
  rcases huc with hu | hu
  focus
   simp only [↓sbD,sbU,tyB,↓reduceIte,Nat.reduceEqDiff,Nat.reduceLT,reduceCtorEq,hu]
   have hL : usL p = [] := by unfold usL; rw [hu]; rfl
   rw [hL,stepW_nil] at hRR
   obtain ⟨σ18,rfl⟩ : ∃ τ,τ = σ17 := ⟨_,rfl⟩
   have x18 := x17
   have K18 := K17
   have z18 : leW R17 90000 := fun b hb => by have := z17 b hb; omega
   generalize R17 = R18 at x18 z18 hRR
  rotate_left
  focus
   simp only [↓sbD,sbU,tyB,↓reduceIte,Nat.reduceEqDiff,Nat.reduceLT,Nat.reduceAdd,Nat.reduceLeDiff,reduceCtorEq,pairs,splice,ZV.val,hu]
   refine specDoR (a := ⟨6,0,p.user⟩) x17 (fun b hb => by have := z17 b hb; omega) (by simp only; omega) fun σ18 k18 x18 => ?_
   have z18' := leW_step (a := ⟨6,0,p.user⟩) z17
   simp only at z18'
   have hL : usL p = [⟨6,0,p.user⟩] := by unfold usL; rw [hu]; rfl
   rw [hL] at hRR
   have z18 : leW (stepW R17 [⟨6,0,p.user⟩]) 90000 := fun b hb => by have := z18' b hb; omega
   have K18 := K17.trans k18
   generalize stepW R17 [⟨6,0,p.user⟩] = R18 at x18 z18 hRR
   try simp only [↓sbD,sbU,tyB,↓reduceIte,Nat.reduceEqDiff,Nat.reduceLT,reduceCtorEq]
  rotate_left
  all_goals
   have hpc : p.hasP = false ∨ p.hasP = true := by cases p.hasP <;> simp
   rcases hpc with hp' | hp'
   focus
    simp only [↓sbD,sbU,↓reduceIte,Nat.reduceEqDiff,Nat.reduceLT,hp']
    have hL : paL p = [] := by unfold paL; rw [hp']; rfl
    rw [hL,stepW_nil] at hRR
    obtain ⟨σ6,rfl⟩ : ∃ τ,τ = σ18 := ⟨_,rfl⟩
    have x6 := x18
    have K6 := K18
    have z6 : leW R18 100000 := fun b hb => by have := z18 b hb; omega
    rw [hRR] at x6 z6
   rotate_left
   focus
    simp only [↓sbD,sbU,tyB,↓reduceIte,Nat.reduceEqDiff,Nat.reduceLT,Nat.reduceAdd,Nat.reduceLeDiff,reduceCtorEq,pairs,splice,ZV.val,hp']
    refine specDoR (a := ⟨7,0,p.pass⟩) x18 (fun b hb => by have := z18 b hb; omega) (by simp only; omega) fun σ6 k6 x6 => ?_
    have z6' := leW_step (a := ⟨7,0,p.pass⟩) z18
    simp only at z6'
    have hL : paL p = [⟨7,0,p.pass⟩] := by unfold paL; rw [hp']; rfl
    rw [hL] at hRR
    rw [hRR] at x6 z6'
    have z6 : leW (runW emp (actsK p (cc,b'))) 100000 := fun b hb => by have := z6' b hb; omega
    have K6 := K18.trans k6
    try simp only [↓sbD,sbU,↓reduceIte,Nat.reduceEqDiff,Nat.reduceLT]
   rotate_left
   all_goals
    have gb6 := (K6.at gb1 (by simp) (by simp)).1
    have gc6 := (K6.at gc1 (by simp) (by simp)).1
    refine specKMade x6 (fun bb hbb => ?_) fun k q hr hk => ?_
    ·have hle := z6 bb hbb
     simp only [↓sbD,sbU,tyB,↓reduceIte,Nat.reduceEqDiff,Nat.reduceLT,AS_new,zeFra,zeFlt]
     intro d hd e he
     have hed : e ≠ d := by rintro rfl; rw [AHeap.get_set_same] at he; cases he
     replace he : (σ6).get e = .dead := by rw [AHeap.get_set_ne _ _ hed.symm] at he; exact he
     have ed : ∀ (τ : AHeap) o,(AHeap.set τ e o).get d = τ.get d := fun τ o => AHeap.get_set_ne _ _ hed
     have de : ∀ (τ : AHeap) o,(AHeap.set τ d o).get e = τ.get e := fun τ o => AHeap.get_set_ne _ _ hed.symm
     simp only [↓sbD,sbU,tyB,decide_false,↓reduceIte,Nat.reduceEqDiff,Nat.reduceLT,Nat.reduceAdd,Nat.reduceLeDiff,reduceCtorEq,isConst,splice,ed,de]
     generalize hσ7 : AHeap.set (AHeap.set (AHeap.set (AHeap.set σ6 d _) e _) d _) e _ = σ7
     have k7 : Kept σ6 [x] σ7 [x] := by rw [← hσ7]; exact ((((Kept.refl _ _).setD hd).setD he).setD hd).setD he
     have gd7 : σ7.get d = .cells [.int .i64 (16),.string bb] true 0 := by rw [← hσ7,ed]; exact AHeap.get_set_same _ _ _
     have ge7 : σ7.get e = .cells [.int .i64 0,.int .i64 0,.int .i64 0] true 0 := by rw [← hσ7]; exact AHeap.get_set_same _ _ _
     have K7 := (K6.trans k7).wid (gp := []) (gp' := []) (fun _ h => by cases h) (fun _ h => by cases h)
     clear hσ7
     refine specDKoDec (by omega) (fun y hy v2 σ8 hv2 k8 => ?_) fun k rr a hy hk σ8 k8 => ?_
     ·obtain ⟨up,uw,us,uf,uc,e1,e2,e3,e4,e5,rfl⟩ := hv2
      have K8 := K7.trans k8
      have gb8 := (K8.at gb1 (by simp) (by simp)).1
      have gc8 := (K8.at gc1 (by simp) (by simp)).1
      have gd8 := (k8.at gd7 (by simp) (by simp)).1
      simp only [pkC]
      have c1 := dl_vc e1
      have c2 := dl_vc e2
      have c3 := dl_vc e3
      have c4 := dl_vc e4
      have c5 := dl_vc e5
      simp only [↓sbD,sbU,tyB,↓reduceIte,Nat.reduceEqDiff,Nat.reduceLT,AS_new,zePk,zeFlt]
      intro i hi j hj
      have hji : j ≠ i := by rintro rfl; rw [AHeap.get_set_same] at hj; cases hj
      replace hj : (σ8).get j = .dead := by rw [AHeap.get_set_ne _ _ hji.symm] at hj; exact hj
      have ji : ∀ (τ : AHeap) o,(AHeap.set τ j o).get i = τ.get i := fun τ o => AHeap.get_set_ne _ _ hji
      have ij : ∀ (τ : AHeap) o,(AHeap.set τ i o).get j = τ.get j := fun τ o => AHeap.get_set_ne _ _ hji.symm
      simp only [↓sbD,sbU,tyB,decide_false,↓reduceIte,Nat.reduceEqDiff,Nat.reduceLT,Nat.reduceAdd,Nat.reduceLeDiff,reduceCtorEq,isConst,splice,ji,ij,c1.2,c2.2,c3.2,c4.2,c5.2]
      have hib : b ≠ i := (nd hi gb8 (by simp)).symm
      have hic : c ≠ i := (nd hi gc8 (by simp)).symm
      have hjb : b ≠ j := (nd hj gb8 (by simp)).symm
      have hjc : c ≠ j := (nd hj gc8 (by simp)).symm
      have hid : d ≠ i := (nd hi gd8 (by simp)).symm
      have hjd : d ≠ j := (nd hj gd8 (by simp)).symm
      generalize hσ9 : AHeap.set (AHeap.set (AHeap.set (AHeap.set σ8 i _) j _) i _) j _ = σ9
      have k9 : Kept σ8 [] σ9 [] := by rw [← hσ9]; exact ((((Kept.refl _ _).setD hi).setD hj).setD hi).setD hj
      have gj9 : σ9.get j = .cells [.int .i64 0,.int .i64 0,.int .i64 0] true 0 := by rw [← hσ9]; exact AHeap.get_set_same _ _ _
      have gd9 := (k9.at gd8 (by simp) (by simp)).1
      have K9 := K8.trans k9
      have gb9 := (K9.at gb1 (by simp) (by simp)).1
      have gc9 := (K9.at gc1 (by simp) (by simp)).1
      clear hσ9
      simp only [↓sbD,sbU,tyB,↓reduceIte,Nat.reduceEqDiff,Nat.reduceLT,Nat.reduceAdd,Nat.reduceLeDiff,pairs,splice,ZV.val,gd9,bc,cb,gb9,gc9,res_cellc,resC_some]
      exact downS_here (hok (16,bb) (by unfold MadeR; rw [hbb]; exact ⟨_,hy,rfl⟩) _ (FIN K9))
     ·have hk0 : ¬ (k : Int) = 0 := by omega
      have K8 := K7.trans k8
      have gb8 := (K8.at gb1 (by simp) (by simp)).1
      have gc8 := (K8.at gc1 (by simp) (by simp)).1
      simp only [zeL,pkC,pkz]
      simp only [↓sbD,sbU,tyB,↓reduceIte,Nat.reduceEqDiff,Nat.reduceLT,AS_new,zePk,zeFlt]
      intro i hi j hj
      have hji : j ≠ i := by rintro rfl; rw [AHeap.get_set_same] at hj; cases hj
      replace hj : (σ8).get j = .dead := by rw [AHeap.get_set_ne _ _ hji.symm] at hj; exact hj
      have ji : ∀ (τ : AHeap) o,(AHeap.set τ j o).get i = τ.get i := fun τ o => AHeap.get_set_ne _ _ hji
      have ij : ∀ (τ : AHeap) o,(AHeap.set τ i o).get j = τ.get j := fun τ o => AHeap.get_set_ne _ _ hji.symm
      simp only [↓sbD,sbU,tyB,↓reduceIte,Nat.reduceEqDiff,Nat.reduceLT,Nat.reduceAdd,Nat.reduceLeDiff,reduceCtorEq,pairs,isConst,splice,ZV.val,ji,ij,hk0]
      generalize hσ9 : AHeap.set (AHeap.set (AHeap.set (AHeap.set σ8 i _) j _) i _) j _ = σ9
      have k9 : Kept σ8 [] σ9 [] := by rw [← hσ9]; exact ((((Kept.refl _ _).setD hi).setD hj).setD hi).setD hj
      have gj9 : σ9.get j = .cells [.int .i64 (k : Int),.int .i64 (rr : Int),.int .i64 (a : Int)] true 0 := by rw [← hσ9]; exact AHeap.get_set_same _ _ _
      have K9 := K8.trans k9
      have gb9 := (K9.at gb1 (by simp) (by simp)).1
      have gc9 := (K9.at gc1 (by simp) (by simp)).1
      have hjb : b ≠ j := by rintro rfl; rw [gb9] at gj9; cases gj9
      clear hσ9
      have bj : ∀ (τ : AHeap) o,(AHeap.set τ b o).get j = τ.get j := fun τ o => AHeap.get_set_ne _ _ hjb
      simp only [↓sbD,sbU,tyB,↓reduceIte,Nat.reduceEqDiff,Nat.reduceLT,Nat.reduceAdd,Nat.reduceLeDiff,splice,bc,gb9,gc9]
      refine drawS_l (fl := [(1,2)]) (by kernel_rfl) ?_ ?_
      rotate_left; simp only [lastP_cc,lastP_one]; rotate_left
      ·simp only [List.all_cons,List.all_nil,floatS,List.getElem?_cons_succ,List.getElem?_cons_zero,List.getElem?_toArray,Region.wanted,Bool.not_true,Bool.not_false,Bool.or_true,reads,looksWeak,aev_tmp,upd_at,↓reduceIte,Nat.reduceEqDiff,Nat.reduceLT,Nat.reduceAdd,blkOf,oeq_refl,dead_cells,Bool.and_self,Bool.false_eq_true,Bool.not_false,gj9,bj]
       try rfl
      simp only [↓sbD,sbU,tyB,↓reduceIte,Nat.reduceEqDiff,Nat.reduceLT,Nat.reduceAdd,Nat.reduceLeDiff,cb,res_cellc,resC_some]
      exact downS_here (hbad k rr a (by unfold MadeR; rw [hbb]; exact ⟨_,hy,rfl⟩) hk _ (FIN K9))
    ·have hk0 : ¬ (k : Int) = 0 := by omega
     simp only [↓sbD,sbU,tyB,↓reduceIte,Nat.reduceEqDiff,Nat.reduceLT,AS_new,zeFra,zeFlt]
     intro d hd e he
     have hed : e ≠ d := by rintro rfl; rw [AHeap.get_set_same] at he; cases he
     replace he : (σ6).get e = .dead := by rw [AHeap.get_set_ne _ _ hed.symm] at he; exact he
     have ed : ∀ (τ : AHeap) o,(AHeap.set τ e o).get d = τ.get d := fun τ o => AHeap.get_set_ne _ _ hed
     have de : ∀ (τ : AHeap) o,(AHeap.set τ d o).get e = τ.get e := fun τ o => AHeap.get_set_ne _ _ hed.symm
     simp only [↓sbD,sbU,tyB,↓reduceIte,Nat.reduceEqDiff,Nat.reduceLT,Nat.reduceAdd,Nat.reduceLeDiff,reduceCtorEq,isConst,splice,ed,de,hk0]
     generalize hσ7 : AHeap.set (AHeap.set (AHeap.set (AHeap.set σ6 d _) e _) d _) e _ = σ7
     have k7 : Kept σ6 [x] σ7 [x] := by rw [← hσ7]; exact ((((Kept.refl _ _).setD hd).setD he).setD hd).setD he
     have gd7 : σ7.get d = .cells [.int .i64 0,.string emp] true 0 := by rw [← hσ7,ed]; exact AHeap.get_set_same _ _ _
     have ge7 : σ7.get e = .cells [.int .i64 (k : Int),.int .i64 129,.int .i64 (q : Int)] true 0 := by rw [← hσ7]; exact AHeap.get_set_same _ _ _
     have K7 := (K6.trans k7).wid (gp := []) (gp' := []) (fun _ h => by cases h) (fun _ h => by cases h)
     clear hσ7
     have gb7 := (K7.at gb1 (by simp) (by simp)).1
     have gc7 := (K7.at gc1 (by simp) (by simp)).1
     have heb : b ≠ e := by rintro rfl; rw [gb7] at ge7; cases ge7
     have be : ∀ (τ : AHeap) o,(AHeap.set τ b o).get e = τ.get e := fun τ o => AHeap.get_set_ne _ _ heb
     simp only [↓sbD,sbU,tyB,↓reduceIte,Nat.reduceEqDiff,Nat.reduceLT,Nat.reduceAdd,Nat.reduceLeDiff,splice,bc,gb7,gc7]
     refine drawS_l (fl := [(1,2)]) (by kernel_rfl) ?_ ?_
     rotate_left; simp only [lastP_cc,lastP_one]; rotate_left
     ·simp only [List.all_cons,List.all_nil,floatS,List.getElem?_cons_succ,List.getElem?_cons_zero,List.getElem?_toArray,Region.wanted,Bool.not_true,Bool.not_false,Bool.or_true,reads,looksWeak,aev_tmp,upd_at,↓reduceIte,Nat.reduceEqDiff,Nat.reduceLT,Nat.reduceAdd,blkOf,oeq_refl,dead_cells,Bool.and_self,Bool.false_eq_true,Bool.not_false,ge7,be]
      try rfl
     simp only [↓sbD,sbU,tyB,↓reduceIte,Nat.reduceEqDiff,Nat.reduceLT,Nat.reduceAdd,Nat.reduceLeDiff,cb,res_cellc,resC_some]
     exact downS_here (hbad k 129 q (by unfold MadeR; rw [hr]) hk _ (FIN K7))
end
set_option maxHeartbeats 4000000
section
variable {σ : AHeap} {Q : Value → AHeap → Prop}
theorem fraEq {cs : Bool} {f : Int} {a : ByteArray} : abin E σ .eql 33 cs (.agg ⟨[.int .i64 f,.string a]⟩) (.agg ⟨[.int .i64 f,.string a]⟩) = some (.bool true) := by
 simp only [abin,nonNum,eqAsk,aeq,aeqs,apart,ty33,ty3,ty9,TI.isAgg,Bool.and_self,Bool.false_eq_true,List.getElem?_cons_zero,List.getElem?_cons_succ,↓reduceIte,beq_self_eq_true]
 have e1 : (a == a) = true := by rw [bytes_dec]; simp
 rw [e1]
 rfl
theorem specLsameNil (h : Q (.bool true) σ) : CallS E B 24 [.nilIface,flt 0 0 0] σ Q := by
 refine call24 (by simp) ?_
 simp only [strip,bodyOf,Tryz.f24,getD_body,keepN,bareOp_mk,lessOp_mk,List.map_cons,List.map_nil,↓reduceIte,Nat.reduceEqDiff,Bool.false_eq_true]
 simp only [↓sbD,sbU,↓reduceIte,Nat.reduceLT,reduceCtorEq,boxS,Edp,dpv]
 refine specNumberNil ?_
 simp only [↓sbD,sbU,tyB,Bool.or_self,↓reduceIte,Nat.reduceEqDiff,Nat.reduceLT,reduceCtorEq,isConst,eq_self]
 refine drawS_l (fl := [(3,1),(13,11),(19,17)]) (by kernel_rfl) ?_ ?_
 rotate_left; simp only [lastP_cc,lastP_one]; rotate_left
 ·simp only [List.all_cons,List.all_nil,floatS,List.getElem?_cons_succ,List.getElem?_cons_zero,List.getElem?_toArray,Region.wanted,Bool.not_true,Bool.or_true,Bool.true_and,reads,looksWeak,aev_tmp,upd_at,↓reduceIte,Nat.reduceEqDiff,Nat.reduceLT,Nat.reduceAdd,blkOf,oeq_refl,Bool.and_true,Bool.and_self,Bool.false_eq_true,yield_list,yield_here,yield_next,truth_bool]
  try rfl
 simp only [↓sbD,sbU,↓reduceIte,Nat.reduceLT]
 exact downS_here h
theorem specLsameE {d k r a : Nat} {z : Value} (he : ErN d (fv r a z) k) (hd : d ≤ 4) (h : Q (.bool true) σ) : CallS E B 24 [fv r a z,flt k r a] σ Q := by
 have hk := he.val
 have hk0 : ¬ (k : Int) = 0 := by omega
 refine call24 (by simp) ?_
 simp only [strip,bodyOf,Tryz.f24,getD_body,keepN,bareOp_mk,lessOp_mk,List.map_cons,List.map_nil,↓reduceIte,Nat.reduceEqDiff,Bool.false_eq_true]
 simp only [↓sbD,sbU,↓reduceIte,Nat.reduceLT,reduceCtorEq,boxS,Edp,dpv]
 refine specNumber he hd ?_
 simp only [↓sbD,sbU,tyB,decide_false,Bool.or_self,↓reduceIte,Nat.reduceEqDiff,Nat.reduceLT,reduceCtorEq,isConst,eq_self,hk0]
 refine specReason ?_
 simp only [↓sbD,sbU,tyB,Bool.or_self,↓reduceIte,Nat.reduceEqDiff,Nat.reduceLT,reduceCtorEq,isConst,eq_self]
 refine specAt ?_
 simp only [↓sbD,sbU,tyB,Bool.or_self,↓reduceIte,Nat.reduceEqDiff,Nat.reduceLT,reduceCtorEq,isConst,eq_self]
 refine drawS_l (fl := [(3,1),(13,11),(19,17)]) (by kernel_rfl) ?_ ?_
 rotate_left; simp only [lastP_cc,lastP_one]; rotate_left
 ·simp only [List.all_cons,List.all_nil,floatS,List.getElem?_cons_succ,List.getElem?_cons_zero,List.getElem?_toArray,Region.wanted,Bool.not_true,Bool.or_true,reads,looksWeak,aev_tmp,upd_at,↓reduceIte,Nat.reduceEqDiff,Nat.reduceLT,Nat.reduceAdd,blkOf,oeq_refl,Bool.and_true,Bool.and_self,Bool.false_eq_true,yield_list,yield_here,yield_next,truth_bool]
  try rfl
 simp only [↓sbD,sbU,↓reduceIte,Nat.reduceLT]
 exact downS_here h
end
theorem law10 {H : AHeap} {vs : List Value} (hB0 : Ext B H) (h : ArgsTyped E H 8 [29] vs) : CallW E 6 vs H fun r _ => r = .bool true := by
 obtain ⟨u,vs1,rfl,t1,e1⟩ := h.cons'
 obtain rfl := e1.nil'
 obtain ⟨p,hp,hfz⟩ := typed_pk t1
 clear t1 e1 h
 have key : CallS E B 6 [u] .empty fun r _ => r = .bool true := by
  have hp' := hp
  obtain ⟨vp,vw,vs,vf,vc,d1,d2,d3,d4,d5,rfl⟩ := hp'
  have hz := hfz _ rfl
  simp only [pkC] at hz hp hfz ⊢
  refine call6 (by simp) ?_
  simp only [strip,bodyOf,Tryz.f6,getD_body,keepN,bareOp_mk,List.map_cons,List.map_nil,↓reduceIte,Bool.false_eq_true]
  simp only [↓sbD,sbU,tyB,↓reduceIte,Nat.reduceEqDiff,Nat.reduceLT,Nat.reduceAdd,Nat.reduceLeDiff,boxS,Edp,dpv,hz]
  refine specKFew hp hfz fun few hfew => ?_
  cases few with
  | false =>
   simp only [↓sbD,sbU,↓reduceIte,Nat.reduceLT,not_bool]
   refine specS19 ?_
   simp only [↓sbD,sbU,↓reduceIte,Nat.reduceLT]
   exact downS_here rfl
  | true =>
   have hf := hfew rfl
   simp only [↓sbD,sbU,tyB,↓reduceIte,Nat.reduceEqDiff,Nat.reduceLT,Nat.reduceAdd,Nat.reduceLeDiff,not_bool]
   refine specKoEnc hp hf.big (fun fb he σ1 k1 => ?_) fun k rr a he σ1 d z k1 hd hn => ?_
   ·simp only [↓sbD,sbU,tyB,↓reduceIte,Nat.reduceEqDiff,Nat.reduceLT,Nat.reduceAdd,Nat.reduceLeDiff,splice,AS_new,zeFra]
    intro b hb
    generalize hσ2 : AHeap.set (AHeap.set σ1 b _) b _ = σ2
    have gb : σ2.get b = .cells [.int .i64 fb.1,.string fb.2] true 0 := by rw [← hσ2]; exact AHeap.get_set_same _ _ _
    clear hσ2
    refine specDKoEnc hp hf (fun fc he' σ3 k3 => ?_) fun k rr a he' hk σ3 k3 => by cases he.det he'
    have hfc := he.det he'
    simp only [Except.ok.injEq] at hfc
    subst hfc
    have gb3 := (k3.at gb (by simp) (by simp)).1
    simp only [↓sbD,sbU,tyB,↓reduceIte,Nat.reduceEqDiff,Nat.reduceLT,AS_new,zeFra,zeFlt]
    intro c hc e he2
    have hbc : b ≠ c := (nd hc gb3 (by simp)).symm
    have hec : e ≠ c := by rintro rfl; rw [AHeap.get_set_same] at he2; cases he2
    replace he2 : σ3.get e = .dead := by rw [AHeap.get_set_ne _ _ hec.symm] at he2; exact he2
    have hbe : b ≠ e := (nd he2 gb3 (by simp)).symm
    have ec : ∀ (τ : AHeap) o,(AHeap.set τ e o).get c = τ.get c := fun τ o => AHeap.get_set_ne _ _ hec
    have ce : ∀ (τ : AHeap) o,(AHeap.set τ c o).get e = τ.get e := fun τ o => AHeap.get_set_ne _ _ hec.symm
    have cb : ∀ (τ : AHeap) o,(AHeap.set τ c o).get b = τ.get b := fun τ o => AHeap.get_set_ne _ _ hbc.symm
    have eb : ∀ (τ : AHeap) o,(AHeap.set τ e o).get b = τ.get b := fun τ o => AHeap.get_set_ne _ _ hbe.symm
    simp only [↓sbD,sbU,tyB,Bool.or_self,↓reduceIte,Nat.reduceEqDiff,Nat.reduceLT,Nat.reduceAdd,Nat.reduceLeDiff,isConst,splice,ec,ce,cb,eb,gb3,eq_self,fraEq]
    refine specLsameNil ?_
    simp only [↓sbD,sbU,↓reduceIte,Nat.reduceEqDiff,Nat.reduceLT]
    refine specS19 ?_
    simp only [↓sbD,sbU,↓reduceIte,Nat.reduceEqDiff,Nat.reduceLT]
    exact downS_here rfl
   ·simp only [↓sbD,sbU,tyB,↓reduceIte,Nat.reduceEqDiff,Nat.reduceLT,Nat.reduceAdd,Nat.reduceLeDiff,splice,AS_new,zeFra]
    intro b hb
    generalize hσ2 : AHeap.set (AHeap.set σ1 b _) b _ = σ2
    have gb : σ2.get b = .cells [.int .i64 0,.string emp] true 0 := by rw [← hσ2]; exact AHeap.get_set_same _ _ _
    clear hσ2
    refine specDKoEnc hp hf (fun fc he' σ3 k3 => by cases he.det he') fun k' rr' a' he' hk σ3 k3 => ?_
    have hfc := he.det he'
    simp only [Except.error.injEq,Prod.mk.injEq] at hfc
    obtain ⟨rfl,rfl,rfl⟩ := hfc
    have gb3 := (k3.at gb (by simp) (by simp)).1
    simp only [↓sbD,sbU,tyB,↓reduceIte,Nat.reduceEqDiff,Nat.reduceLT,AS_new,zeFra,zeFlt]
    intro c hc e he2
    have hbc : b ≠ c := (nd hc gb3 (by simp)).symm
    have hec : e ≠ c := by rintro rfl; rw [AHeap.get_set_same] at he2; cases he2
    replace he2 : σ3.get e = .dead := by rw [AHeap.get_set_ne _ _ hec.symm] at he2; exact he2
    have hbe : b ≠ e := (nd he2 gb3 (by simp)).symm
    have ec : ∀ (τ : AHeap) o,(AHeap.set τ e o).get c = τ.get c := fun τ o => AHeap.get_set_ne _ _ hec
    have ce : ∀ (τ : AHeap) o,(AHeap.set τ c o).get e = τ.get e := fun τ o => AHeap.get_set_ne _ _ hec.symm
    have cb : ∀ (τ : AHeap) o,(AHeap.set τ c o).get b = τ.get b := fun τ o => AHeap.get_set_ne _ _ hbc.symm
    have eb : ∀ (τ : AHeap) o,(AHeap.set τ e o).get b = τ.get b := fun τ o => AHeap.get_set_ne _ _ hbe.symm
    simp only [↓sbD,sbU,tyB,Bool.or_self,↓reduceIte,Nat.reduceEqDiff,Nat.reduceLT,Nat.reduceAdd,Nat.reduceLeDiff,isConst,splice,ec,ce,cb,eb,gb3,eq_self,fraEq]
    refine specLsameE hn (by omega) ?_
    simp only [↓sbD,sbU,↓reduceIte,Nat.reduceEqDiff,Nat.reduceLT]
    refine specS19 ?_
    simp only [↓sbD,sbU,↓reduceIte,Nat.reduceEqDiff,Nat.reduceLT]
    exact downS_here rfl
 exact (key H (ext_holds hB0)).mono fun r H' ⟨σ',_,h⟩ => h
end Go.Proofs.YtjkhhdknplelcaaGreatDoor.AbsA
