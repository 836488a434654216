/-
  Parts of a law's proof.
-/
import Derived.Test.YtjkhhdknplelcaaGreatDoorAApqbJ
import Derived.Test.YtjkhhdknplelcaaGreatDoorABxqbJ
namespace Go.Proofs.YtjkhhdknplelcaaGreatDoor.AbsA
open Go AbsYtjkhhdknplelcaaGreatDoor Abs
set_option maxRecDepth 100000
set_option maxHeartbeats 4000000
set_option linter.unusedSimpArgs false
set_option linter.unusedVariables false
def cnP (n c : Nat) (l : List Pr) : Pk := { pkz with kind := 2,present := decide ((n : Int) = 1),rea := c,props := l }
def endM (s : ByteArray) (g : List Pr → Pk) : Except E3 (List Pr × Nat) → Except E3 Pk
 | .error e => .error e
 | .ok (l,q) => match endS s (.ok q) with
  | some e => .error e
  | none => .ok (g l)
def cnBad (n c : Nat) : Option E3 := if 1 < n then some (2,129,0) else if alw 2 (c : Int) = false then some (2,129,1) else if n = 1 ∧ c ≠ 0 then some (3,130,0) else none
def DecC (f : Int) (s : ByteArray) (r : Except E3 Pk) : Prop :=
 if f ≠ 32 then r = .error (2,129,0) else match (u8S s (u8S s (.ok 0)).2).2 with
 | .error (k,q) => r = .error (k,129,q)
 | .ok p => match cnBad (u8S s (.ok 0)).1 (u8S s (u8S s (.ok 0)).2).1 with
  | some e => r = .error e
  | none => ∃ x,ReadPS 2 s (.ok p) x ∧ r = endM s (cnP (u8S s (.ok 0)).1 (u8S s (u8S s (.ok 0)).2).1) x
theorem DecC.det {f : Int} {s : ByteArray} {r r' : Except E3 Pk} (h : DecC f s r) (h' : DecC f s r') : r = r' := by
 unfold DecC at h h'
 split at h
 ·rename_i h1
  rw [if_pos h1] at h'
  exact h.trans h'.symm
 ·rename_i h1
  rw [if_neg h1] at h'
  cases hn : (u8S s (u8S s (.ok 0)).2).2 with
  | error e => obtain ⟨k,q⟩ := e; rw [hn] at h h'; exact h.trans h'.symm
  | ok p =>
   rw [hn] at h h'
   simp only at h h'
   cases hb : cnBad (u8S s (.ok 0)).1 (u8S s (u8S s (.ok 0)).2).1 with
   | some e => rw [hb] at h h'; exact h.trans h'.symm
   | none =>
    rw [hb] at h h'
    obtain ⟨x,h3,rfl⟩ := h
    obtain ⟨y,h4,rfl⟩ := h'
    rw [h3.det h4]
def actsC (p : Pk) (s : ByteArray) : List Act := [⟨1,if p.present then 1 else 0,emp⟩,⟨1,p.rea,emp⟩,⟨8,0,s⟩]
abbrev EncC (p : Pk) (r : Except E3 (Int × ByteArray)) : Prop := EncG none (encP 2 p.props) 32 (DecC 32) (actsC p) r
theorem EncC.det {p : Pk} {r r' : Except E3 (Int × ByteArray)} (h : EncC p r) (h' : EncC p r') : r = r' := EncG.det (D := DecC 32) (fun _ _ _ h1 h2 => h1.det h2) h h'
set_option maxHeartbeats 8000000
attribute [local irreducible] afterS afterOpS opSK OpsS TrS CodeS condS condW thenS thenQ guardS guardTS outS drawS trSK consS
section
variable {σ : AHeap} {Q : Value → AHeap → Prop} {s : ByteArray}
theorem specCBad {n c : Nat} (hok : cnBad n c = none → Q .nilIface σ) (hbad : ∀ k rr a : Nat,cnBad n c = some (k,rr,a) → ∀ d z,d ≤ 2 → ErN d (fv rr a z) k → Q (fv rr a z) σ) : CallS E B 76 [.int .i64 (n : Int),.int .i64 (c : Int)] σ Q := by
 unfold cnBad at hok hbad
 refine call76 (by simp) ?_
 simp only [strip,bodyOf,Tryz.f76,getD_body,keepN,bareOp_mk,List.map_cons,List.map_nil,↓reduceIte,Bool.false_eq_true]
 by_cases h1 : 1 < n
 ·have h1' : (1 : Int) < (n : Int) := by omega
  simp only [h1,if_true] at hbad
  simp only [↓sbD,sbU,tyB,↓reduceIte,Nat.reduceLT,reduceCtorEq,isConst,h1',gk2]
  refine specNew (n := 2) ⟨by omega,by omega⟩ ?_
  simp only [↓sbD,sbU,↓reduceIte,Nat.reduceLT]
  exact downS_here (hbad 2 129 0 rfl 1 _ (by omega) (ErN.new _ _ ⟨by omega,by omega⟩))
 have h1' : ¬ (1 : Int) < (n : Int) := by omega
 simp only [h1,if_false] at hok hbad
 simp only [↓sbD,sbU,decide_false,↓reduceIte,Nat.reduceEqDiff,Nat.reduceLT,reduceCtorEq,isConst,h1']
 refine specAlwR ?_
 cases ha : alw 2 (c : Int) with
 | false =>
  simp only [ha,if_true] at hbad
  simp only [↓sbD,sbU,tyB,↓reduceIte,Nat.reduceLT,not_bool,gk2]
  refine specNew (n := 2) ⟨by omega,by omega⟩ ?_
  simp only [↓sbD,sbU,↓reduceIte,Nat.reduceLT]
  exact downS_here (hbad 2 129 1 rfl 1 _ (by omega) (ErN.new _ _ ⟨by omega,by omega⟩))
 | true =>
  simp only [ha,Bool.true_eq_false,if_false] at hok hbad
  by_cases h2 : n = 1 ∧ c ≠ 0
  ·have h3 : (n : Int) = 1 := by omega
   have h4 : ¬ (c : Int) = 0 := by omega
   simp only [if_pos h2] at hbad
   simp only [↓sbD,sbU,tyB,↓reduceIte,Nat.reduceEqDiff,Nat.reduceLT,reduceCtorEq,isConst,not_bool,h3,h4,gk3]
   refine specNew (n := 3) ⟨by omega,by omega⟩ ?_
   simp only [↓sbD,sbU,↓reduceIte,Nat.reduceLT]
   exact downS_here (hbad 3 130 0 rfl 1 _ (by omega) (ErN.new _ _ ⟨by omega,by omega⟩))
  ·simp only [if_neg h2] at hok
   by_cases h3 : (n : Int) = 1
   ·have h4 : (c : Int) = 0 := by omega
    simp only [↓sbD,sbU,decide_false,↓reduceIte,Nat.reduceEqDiff,Nat.reduceLT,reduceCtorEq,isConst,not_bool,h3,h4]
    exact downS_here (hok (by first | trivial | rfl))
   ·simp only [↓sbD,sbU,decide_false,↓reduceIte,Nat.reduceEqDiff,Nat.reduceLT,reduceCtorEq,isConst,not_bool,h3]
    exact downS_here (hok (by first | trivial | rfl))
theorem specCDec {f : Int} (hs : s.size ≤ 100000000)
  (hok : ∀ p,DecC f s (.ok p) → ∀ v σ',PkV p v → Kept σ [] σ' [] → Q (.tuple #[v,.nilIface]) σ')
  (hbad : ∀ k rr a : Nat,DecC f s (.error (k,rr,a)) → ∀ σ' d z,Kept σ [] σ' [] → d ≤ 3 → ErN d (fv rr a z) k → Q (.tuple #[.agg ⟨zeL⟩,fv rr a z]) σ') :
  CallS E B 29 [.agg ⟨[.int .i64 f,.string s]⟩] σ Q := by
 unfold DecC at hok hbad
 refine call29 (by simp) ?_
 simp only [strip,bodyOf,Tryz.f29,getD_body,keepN,bareOp_mk,List.map_cons,List.map_nil,↓reduceIte,Bool.false_eq_true]
 by_cases h1 : f = 32
 rotate_left
 ·simp only [if_pos (show f ≠ 32 from h1)] at hbad
  simp (disch := first | assumption | simp) only [↓sbD,sbU,tyB,↓reduceIte,Nat.reduceEqDiff,Nat.reduceLT,reduceCtorEq,pairs,isConst,boxS,Edp,dpv,ZV.val,AS_new,zePk,h1,gk2]
  intro b hb
  refine specNew (n := 2) ⟨by omega,by omega⟩ ?_
  simp (disch := first | assumption | simp) only [↓sbD,sbU,tyB,↓reduceIte,Nat.reduceEqDiff,Nat.reduceLT,Nat.reduceAdd,Nat.reduceLeDiff,splice,res_cellc,resC_some]
  exact downS_here (hbad 2 129 0 rfl _ 1 _ (((Kept.refl σ []).setD hb).setD hb) (by omega) (ErN.new _ _ ⟨by omega,by omega⟩))
 simp only [if_neg (show ¬ f ≠ 32 from fun h => h h1)] at hok hbad
 simp (disch := first | assumption | simp) only [↓sbD,sbU,tyB,decide_false,↓reduceIte,Nat.reduceEqDiff,Nat.reduceLT,reduceCtorEq,isConst,boxS,Edp,dpv,AS_new,zePk,h1]
 intro b hb
 generalize hσ1 : AHeap.set σ b _ = σ1
 have k1 : Kept σ [] σ1 [] := by rw [← hσ1]; exact (Kept.refl σ []).setD hb
 have gb1 : σ1.get b = .cells zeL true 0 := by rw [← hσ1]; exact AHeap.get_set_same _ _ _
 clear hσ1
 refine specRNew fun x σ2 hx k2 i2 => ?_
 have r2 : IsRS σ2 x s (.ok 0) := ⟨Nat.zero_le _,i2⟩
 simp (disch := first | assumption | simp) only [↓sbD,sbU,↓reduceIte,Nat.reduceLT]
 refine specSU8 r2 hs fun σ3 k3 r3 => ?_
 generalize (u8S s (.ok 0)).1 = n at hok hbad ⊢
 generalize (u8S s (.ok 0)).2 = st1 at hok hbad r3 ⊢
 simp (disch := first | assumption | simp) only [↓sbD,sbU,↓reduceIte,Nat.reduceEqDiff,Nat.reduceLT]
 refine specSU8 r3 hs fun σ4 k4 r4 => ?_
 generalize (u8S s st1).1 = c at hok hbad ⊢
 generalize (u8S s st1).2 = st2 at hok hbad r4 ⊢
 have K4 := k2.trans (k3.trans k4)
 have gb4 := (K4.at gb1 (by simp) (by simp)).1
 simp only [zeL,pkC,pkz] at gb4
 have T4 := k1.trans (K4.wid (gp := []) (gp' := []) (fun _ h => by cases h) (fun _ h => by cases h))
 simp (disch := first | assumption | simp) only [↓sbD,sbU,↓reduceIte,Nat.reduceEqDiff,Nat.reduceLT]
 refine specSErr r4 (fun p hp => ?_) fun k q d z hp hd he => ?_
 rotate_left
 ·subst hp
  simp only at hbad
  simp (disch := first | assumption | simp) only [↓sbD,sbU,tyB,↓reduceIte,Nat.reduceEqDiff,Nat.reduceLT,Nat.reduceAdd,Nat.reduceLeDiff,pairs,isConst,splice,ZV.val,gb4,res_cellc,resC_some]
  exact downS_here (hbad k 129 q rfl _ d z (T4.setD hb) (by omega) he)
 subst hp
 simp only at hok hbad
 simp (disch := first | assumption | simp) only [↓sbD,sbU,tyB,↓reduceIte,Nat.reduceEqDiff,Nat.reduceLT,isConst]
 refine specCBad (fun hcb => ?_) fun k rr a hcb d z hd he => ?_
 rotate_left
 ·rw [hcb] at hbad
  simp (disch := first | assumption | simp) only [↓sbD,sbU,tyB,↓reduceIte,Nat.reduceEqDiff,Nat.reduceLT,Nat.reduceAdd,Nat.reduceLeDiff,pairs,isConst,splice,ZV.val,gb4,res_cellc,resC_some]
  exact downS_here (hbad k rr a rfl _ d z (T4.setD hb) (by omega) he)
 rw [hcb] at hok hbad
 simp only at hok hbad
 simp (disch := first | assumption | simp) only [↓sbD,sbU,tyB,↓reduceIte,Nat.reduceEqDiff,Nat.reduceLT,isConst]
 refine specSRead r4 hs (fun l q hrd v σ5 hv k5 r5 => ?_) fun k rr a hrd σ5 d z k5 hd he => ?_
 all_goals
  have K5 := K4.trans k5
  have gb5 := (K5.at gb1 (by simp) (by simp)).1
  simp only [zeL,pkC,pkz] at gb5
  have T5 := k1.trans (K5.wid (gp := []) (gp' := []) (fun _ h => by cases h) (fun _ h => by cases h))
 rotate_left
 ·simp (disch := first | assumption | simp) only [↓sbD,sbU,tyB,↓reduceIte,Nat.reduceEqDiff,Nat.reduceLT,Nat.reduceAdd,Nat.reduceLeDiff,pairs,isConst,splice,ZV.val,gb5,res_cellc,resC_some]
  exact downS_here (hbad k rr a ⟨_,hrd,rfl⟩ _ d z (T5.setD hb) hd he)
 simp (disch := first | assumption | simp) only [↓sbD,sbU,tyB,↓reduceIte,Nat.reduceEqDiff,Nat.reduceLT,isConst]
 refine specSDone r5 hs (fun hend => ?_) fun k q' d z hend hd he => ?_
 rotate_left
 ·simp (disch := first | assumption | simp) only [↓sbD,sbU,tyB,↓reduceIte,Nat.reduceEqDiff,Nat.reduceLT,Nat.reduceAdd,Nat.reduceLeDiff,pairs,isConst,splice,ZV.val,gb5,res_cellc,resC_some]
  exact downS_here (hbad k 129 q' ⟨_,hrd,by simp only [endM,hend]⟩ _ d z (T5.setD hb) (by omega) he)
 have hvc := dl_vc hv
 simp (disch := first | assumption | simp) only [↓sbD,sbU,tyB,↓reduceIte,Nat.reduceEqDiff,Nat.reduceLT,Nat.reduceAdd,Nat.reduceLeDiff,pairs,isConst,splice,ZV.val,gb5,res_cellc,resC_some,hvc.1,hvc.2]
 exact downS_here (hok _ ⟨_,hrd,by simp only [endM,hend]; rfl⟩ _ _ ⟨_,_,_,_,_,hv,.inl ⟨rfl,rfl⟩,.inl ⟨rfl,rfl⟩,.inl ⟨rfl,rfl⟩,.inl ⟨rfl,rfl⟩,rfl⟩ (T5.setD hb))
theorem specCEnc {p : Pk} {v : Value} (hp : PkV p v) (hm : bigPk p)
  (hok : ∀ fb,EncC p (.ok fb) → ∀ σ',Kept σ [] σ' [] → Q (.tuple #[.agg ⟨[.int .i64 fb.1,.string fb.2]⟩,.nilIface]) σ')
  (hbad : ∀ k rr a : Nat,EncC p (.error (k,rr,a)) → ∀ σ' d z,Kept σ [] σ' [] → d ≤ 3 → ErN d (fv rr a z) k → Q (.tuple #[.agg ⟨[.int .i64 0,.string emp]⟩,fv rr a z]) σ') :
  CallS E B 26 [v] σ Q := by
 obtain ⟨vp,vw,vs,vf,vc,d1,d2,d3,d4,d5,rfl⟩ := hp
 obtain ⟨up,uw,us,uf,uc,d1,d2,d3,d4,d5,-,hbx⟩ := boxPk d1 d2 d3 d4 d5
 simp only [pkC] at hbx ⊢
 have eml : (emp).size = 0 := rfl
 unfold EncC EncG at hok hbad
 simp only at hok hbad
 refine call26 (by simp) ?_
 simp only [strip,bodyOf,Tryz.f26,getD_body,keepN,bareOp_mk,List.map_cons,List.map_nil,↓reduceIte,Bool.false_eq_true]
 simp only [↓sbD,sbU,tyB,↓reduceIte,Nat.reduceEqDiff,Nat.reduceLT,reduceCtorEq,hbx,AS_new,zeFra]
 intro b hb
 generalize hσ1 : AHeap.set σ b _ = σ1
 have k1 : Kept σ [] σ1 [] := by rw [← hσ1]; exact (Kept.refl σ []).setD hb
 have gb1 : σ1.get b = .cells [.int .i64 0,.string emp] true 0 := by rw [← hσ1]; exact AHeap.get_set_same _ _ _
 clear hσ1
 refine specPEncode d1 hm.props (fun c hce hcz => ?_) fun k r a d z hce hd he => ?_
 rotate_left
 ·rw [hce] at hbad
  simp only at hbad
  simp only [↓sbD,sbU,tyB,↓reduceIte,Nat.reduceEqDiff,Nat.reduceLT,Nat.reduceAdd,Nat.reduceLeDiff,pairs,isConst,splice,ZV.val,gb1,res_cellc,resC_some]
  exact downS_here (hbad k r a rfl _ d z (k1.setD hb) (by omega) he)
 rw [hce] at hok hbad
 simp only at hok hbad
 simp only [↓sbD,sbU,tyB,Bool.false_eq_true,↓reduceIte,Nat.reduceEqDiff,Nat.reduceLT,reduceCtorEq,pairs,isConst,boxS,Edp,ZV.val,Bool.false_and,AS_new,dpW]
 intro w hw
 have hwb : w ≠ b := nd hw gb1 (by simp)
 generalize hσ2 : AHeap.set σ1 w _ = σ2
 have gw : σ2.get w = .cells [.slice none 0 0,.nilIface] true 0 := by rw [← hσ2]; exact AHeap.get_set_same _ _ _
 have k2 : Kept σ1 [] σ2 [w] := by rw [← hσ2]; exact Kept.new' hw
 have w2 : WRun σ2 w (runW emp []) [w] := ⟨_,[],gw,.inl ⟨rfl,rfl,rfl⟩,rfl,by simp⟩
 have z2 : leW (runW emp []) 0 := fun b hb => by injection hb with hb; subst hb; exact Nat.le_refl _
 clear gw hσ2
 have hacts : ∀ n : Int,(if p.present then 1 else 0) = n → stepW (stepW (stepW (runW emp []) [⟨1,n,emp⟩]) [⟨1,p.rea,emp⟩]) [⟨8,0,c⟩] = runW emp (actsC p c) := fun n hn => by rw [stepW_app,stepW_app]; unfold actsC; rw [hn]; rfl
 cases hpr : p.present
 all_goals
  have hact := hacts _ (by rw [hpr])
  simp only [Bool.false_eq_true,if_false,if_true] at hact
  simp only [↓sbD,sbU,↓reduceIte,Nat.reduceEqDiff,Nat.reduceLT]
  refine specU8R (s := emp) w2 (fun b hb => by have := z2 b hb; omega) fun σ3 fp3 k3 w3 => ?_
  have z3 := leW_step (a := ⟨1,0,emp⟩) z2
  have z3' := leW_step (a := ⟨1,1,emp⟩) z2
  simp only [eml] at z3 z3'
  simp only [↓sbD,sbU,tyB,↓reduceIte,Nat.reduceEqDiff,Nat.reduceLT,reduceCtorEq]
  refine specU8R (s := emp) w3 (fun b hb => by first | (have := z3 b hb; omega) | (have := z3' b hb; omega)) fun σ4 fp4 k4 w4 => ?_
  have z4 := leW_step (a := ⟨1,p.rea,emp⟩) z3
  have z4' := leW_step (a := ⟨1,p.rea,emp⟩) z3'
  simp only [eml] at z4 z4'
  simp only [↓sbD,sbU,↓reduceIte,Nat.reduceEqDiff,Nat.reduceLT]
  refine specRawR (n := 0) w4 (fun b hb => by first | (have := z4 b hb; omega) | (have := z4' b hb; omega)) (by omega) fun σ5 fp5 k5 w5 => ?_
  have z5 : leW (runW emp (actsC p c)) (700000 + 20) := fun b hb => by
   rw [← hact] at hb
   first
    | (have := leW_step (a := ⟨8,0,c⟩) z4 b hb; simp only at this; omega)
    | (have := leW_step (a := ⟨8,0,c⟩) z4' b hb; simp only at this; omega)
  rw [hact] at w5
  have K5 := k2.trans (k3.trans (k4.trans k5))
  simp only [↓sbD,sbU,↓reduceIte,Nat.reduceEqDiff,Nat.reduceLT]
  refine specBytesR w5 (fun bb hbb => ?_) fun k q d z hr hd he => ?_
  ·have gbn := (K5.at gb1 (by simp) (by simp)).1
   have hle := z5 bb hbb
   simp only [↓sbD,sbU,tyB,↓reduceIte,Nat.reduceEqDiff,Nat.reduceLT,Nat.reduceAdd,Nat.reduceLeDiff,pairs,isConst,splice,ZV.val,AS_new,zeFra]
   intro c hc
   have hcb : c ≠ b := nd hc gbn (by simp)
   generalize hσc : AHeap.set _ c _ = σc
   have kc : Kept σ5 [] σc [] := by rw [← hσc]; exact ((Kept.refl _ []).setD hc).setD hc
   have gc : σc.get c = .cells [.int .i64 (32),.string bb] true 0 := by rw [← hσc]; exact AHeap.get_set_same _ _ _
   clear hσc
   try simp only [↓sbD,sbU,tyB,Nat.reduceMul,Nat.reduceSub,Int.reduceEq,Int.reduceLT,Int.reduceLE,Int.reduceNe,Nat.reduceBneDiff,Nat.reduceBEq,decide_false,gt_iff_lt,Bool.or_self,Bool.false_eq_true,Nat.mul_one,Nat.one_mul,Nat.zero_mul,↓reduceIte,Nat.reduceEqDiff,Nat.reduceLT,Nat.reduceAdd,Nat.reduceLeDiff,reduceCtorEq,goInt,pairs,isConst,TI.isAgg,splice,boxS,Edp,dpv,Nat.beq_eq,ZV.val,List.any_cons,List.any_nil,Bool.false_and,gc]
   refine specCDec (by omega) (fun y hy v2 σd hv2 kd => ?_) fun k rr a hy σd d z kd hd he => ?_
   ·have gbd := ((kc.trans kd).at gbn (by simp) (by simp)).1
    have gcd := (kd.at gc (by simp) (by simp)).1
    simp only [↓sbD,sbU,tyB,↓reduceIte,Nat.reduceEqDiff,Nat.reduceLT,Nat.reduceAdd,Nat.reduceLeDiff,isConst,splice,gcd,gbd,res_cellc,resC_some]
    exact downS_here (hok (32,bb) (by unfold MadeR; rw [hbb]; exact ⟨_,hy,rfl⟩) _ ((k1.trans ((K5.wid (gp := []) (gp' := []) (fun _ h => by cases h) (fun _ h => by cases h)).trans (kc.trans kd))).setD hb))
   ·have gbd := ((kc.trans kd).at gbn (by simp) (by simp)).1
    simp only [↓sbD,sbU,tyB,↓reduceIte,Nat.reduceEqDiff,Nat.reduceLT,Nat.reduceAdd,Nat.reduceLeDiff,pairs,isConst,splice,ZV.val,gbd,res_cellc,resC_some]
    exact downS_here (hbad k rr a (by unfold MadeR; rw [hbb]; exact ⟨_,hy,rfl⟩) _ d z ((k1.trans ((K5.wid (gp := []) (gp' := []) (fun _ h => by cases h) (fun _ h => by cases h)).trans (kc.trans kd))).setD hb) hd he)
  ·have gbn := (K5.at gb1 (by simp) (by simp)).1
   simp only [↓sbD,sbU,tyB,↓reduceIte,Nat.reduceEqDiff,Nat.reduceLT,Nat.reduceAdd,Nat.reduceLeDiff,pairs,isConst,splice,ZV.val,AS_new,zeFra]
   intro c hc
   have hcb : c ≠ b := nd hc gbn (by simp)
   have bc : ∀ (τ : AHeap) o,(AHeap.set τ c o).get b = τ.get b := fun τ o => AHeap.get_set_ne _ _ hcb
   simp only [↓sbD,sbU,tyB,↓reduceIte,Nat.reduceEqDiff,Nat.reduceLT,Nat.reduceAdd,Nat.reduceLeDiff,splice,bc,gbn,res_cellc,resC_some]
   exact downS_here (hbad k 129 q (by unfold MadeR; rw [hr]) _ d z ((k1.trans ((K5.wid (gp := []) (gp' := []) (fun _ h => by cases h) (fun _ h => by cases h)).trans (((Kept.refl _ []).setD hc).setD hc))).setD hb) (by omega) he)
end
section
variable {σ : AHeap} {Q : Value → AHeap → Prop} {s : ByteArray}
theorem specDCDec {f : Int} (hs : s.size ≤ 100000000)
  (hok : ∀ p,DecC f s (.ok p) → ∀ v σ',PkV p v → Kept σ [] σ' [] → Q (.tuple #[v,flt 0 0 0]) σ')
  (hbad : ∀ k rr a : Nat,DecC f s (.error (k,rr,a)) → k ≠ 0 → ∀ σ',Kept σ [] σ' [] → Q (.tuple #[.agg ⟨zeL⟩,flt k rr a]) σ') :
  CallS E B 74 [.agg ⟨[.int .i64 f,.string s]⟩] σ Q := by
 unfold DecC at hok hbad
 refine call74 (by simp) ?_
 simp only [strip,bodyOf,Tryz.f74,getD_body,keepN,bareOp_mk,lessOp_mk,lapp_cons,lapp_nil,List.map_cons,List.map_nil,↓reduceIte,Nat.reduceEqDiff,Bool.false_eq_true]
 by_cases h1 : f = 32
 rotate_left
 ·simp only [if_pos (show f ≠ 32 from h1)] at hbad
  simp (disch := first | assumption | simp) only [↓sbD,sbU,tyB,↓reduceIte,Nat.reduceEqDiff,Nat.reduceLT,reduceCtorEq,pairs,isConst,boxS,Edp,dpv,ZV.val,AS_new,zePk,zeFlt,h1]
  intro b hb c hc
  have hcb : c ≠ b := by rintro rfl; rw [AHeap.get_set_same] at hc; cases hc
  have hcd : σ.get c = .dead := by rw [AHeap.get_set_ne _ _ hcb.symm] at hc; exact hc
  have cb : ∀ (τ : AHeap) o,(AHeap.set τ c o).get b = τ.get b := fun τ o => AHeap.get_set_ne _ _ hcb
  have bc : ∀ (τ : AHeap) o,(AHeap.set τ b o).get c = τ.get c := fun τ o => AHeap.get_set_ne _ _ hcb.symm
  clear hc
  refine specKBad (n := 0) ?_
  simp (disch := first | assumption | simp) only [↓sbD,sbU,tyB,↓reduceIte,Nat.reduceEqDiff,Nat.reduceLT,Nat.reduceAdd,Nat.reduceLeDiff,splice,bc,cb,res_cellc,resC_some]
  exact downS_here (hbad 2 129 0 rfl (by omega) _ (((((Kept.refl σ []).setD hb).setD hcd).setD hb).setD hcd))
 simp only [if_neg (show ¬ f ≠ 32 from fun h => h h1)] at hok hbad
 simp (disch := first | assumption | simp) only [↓sbD,sbU,tyB,decide_false,↓reduceIte,Nat.reduceEqDiff,Nat.reduceLT,Nat.reduceAdd,Nat.reduceLeDiff,reduceCtorEq,pairs,isConst,splice,boxS,Edp,dpv,ZV.val,AS_new,zePk,zeFlt,h1]
 intro b hb c hc
 have hcb : c ≠ b := by rintro rfl; rw [AHeap.get_set_same] at hc; cases hc
 have hcd : σ.get c = .dead := by rw [AHeap.get_set_ne _ _ hcb.symm] at hc; exact hc
 have cb : ∀ (τ : AHeap) o,(AHeap.set τ c o).get b = τ.get b := fun τ o => AHeap.get_set_ne _ _ hcb
 have bc : ∀ (τ : AHeap) o,(AHeap.set τ b o).get c = τ.get c := fun τ o => AHeap.get_set_ne _ _ hcb.symm
 clear hc
 generalize hσ1 : AHeap.set (AHeap.set σ b _) c _ = σ1
 have k1 : Kept σ [] σ1 [] := by rw [← hσ1]; exact ((Kept.refl σ []).setD hb).setD hcd
 have gb1 : σ1.get b = .cells zeL true 0 := by rw [← hσ1,cb]; exact AHeap.get_set_same _ _ _
 have gc1 : σ1.get c = .cells [.int .i64 0,.int .i64 0,.int .i64 0] true 0 := by rw [← hσ1]; exact AHeap.get_set_same _ _ _
 clear hσ1
 have FIN : ∀ {τ : AHeap} {o o' : AObj},Kept σ1 [] τ [] → Kept σ [] ((τ.set b o).set c o') [] := fun kt => ((k1.trans kt).setD hb).setD hcd
 simp (disch := first | assumption | simp) only [↓sbD,sbU,Bool.false_eq_true,↓reduceIte,Nat.reduceLT,Bool.false_and,AS_new,dpRd]
 intro x hx
 have hbx : b ≠ x := (nd hx gb1 (by simp)).symm
 have hcx : c ≠ x := (nd hx gc1 (by simp)).symm
 generalize hσ2 : AHeap.set σ1 x _ = σ2
 have k2 : Kept σ1 [] σ2 [x] := by rw [← hσ2]; exact Kept.new' hx
 have r2 : IsYS σ2 x s (.ok 0) := ⟨Nat.zero_le _,by rw [← hσ2]; exact AHeap.get_set_same _ _ _⟩
 clear hσ2
 refine specZU8 r2 hs fun σ3 k3 r3 => ?_
 generalize (u8S s (.ok 0)).1 = n at hok hbad ⊢
 generalize (u8S s (.ok 0)).2 = st1 at hok hbad r3 ⊢
 simp (disch := first | assumption | simp) only [↓sbD,sbU,↓reduceIte,Nat.reduceEqDiff,Nat.reduceLT]
 refine specZU8 r3 hs fun σ4 k4 r4 => ?_
 generalize (u8S s st1).1 = m at hok hbad ⊢
 generalize (u8S s st1).2 = st2 at hok hbad r4 ⊢
 have K4 := k2.trans (k3.trans k4)
 have gb4 := (K4.at gb1 (by simp) (by simp)).1
 have gc4 := (K4.at gc1 (by simp) (by simp)).1
 simp only [zeL,pkC,pkz] at gb4
 have T4 := K4.wid (gp := []) (gp' := []) (fun _ h => by cases h) (fun _ h => by cases h)
 cases st2 with
 | error e =>
  obtain ⟨k,q⟩ := e
  obtain ⟨hk,p,hp,i4⟩ := r4
  simp only at hbad
  have hk0 : ¬ (k : Int) = 0 := by omega
  have i4' := i4
  unfold IsY at i4'
  simp (disch := first | assumption | simp) only [↓sbD,sbU,tyB,↓reduceIte,Nat.reduceEqDiff,Nat.reduceLT,reduceCtorEq,pairs,isConst,ZV.val,i4',hk0]
  refine specKOfE hk i4 hp ?_
  simp (disch := first | assumption | simp) only [↓sbD,sbU,tyB,↓reduceIte,Nat.reduceEqDiff,Nat.reduceLT,Nat.reduceAdd,Nat.reduceLeDiff,splice,gb4,gc4,bc,cb,res_cellc,resC_some]
  exact downS_here (hbad k 129 q rfl hk _ (FIN T4))
 | ok p =>
  simp only at hok hbad
  have i4' := r4.2
  unfold IsY at i4'
  unfold cnBad at hok hbad
  by_cases h1 : 1 < n
  ·have h1' : (1 : Int) < (n : Int) := by omega
   simp only [h1,if_true] at hbad
   simp (disch := first | assumption | simp) only [↓sbD,sbU,tyB,decide_false,↓reduceIte,Nat.reduceEqDiff,Nat.reduceLT,reduceCtorEq,pairs,isConst,ZV.val,i4',h1']
   refine specKBad (n := 0) ?_
   simp (disch := first | assumption | simp) only [↓sbD,sbU,tyB,↓reduceIte,Nat.reduceEqDiff,Nat.reduceLT,Nat.reduceAdd,Nat.reduceLeDiff,splice,gb4,gc4,bc,cb,res_cellc,resC_some]
   exact downS_here (hbad 2 129 0 rfl (by omega) _ (FIN T4))
  have h1' : ¬ (1 : Int) < (n : Int) := by omega
  simp only [h1,if_false] at hok hbad
  simp (disch := first | assumption | simp) only [↓sbD,sbU,tyB,decide_false,↓reduceIte,Nat.reduceEqDiff,Nat.reduceLT,reduceCtorEq,isConst,i4',h1']
  refine specAlwC ?_
  cases ha : alw 2 (m : Int) with
  | false =>
   simp only [ha,if_true] at hbad
   simp (disch := first | assumption | simp) only [↓sbD,sbU,tyB,↓reduceIte,Nat.reduceLT,pairs,ZV.val,not_bool]
   refine specKBad (n := 1) ?_
   simp (disch := first | assumption | simp) only [↓sbD,sbU,tyB,↓reduceIte,Nat.reduceEqDiff,Nat.reduceLT,Nat.reduceAdd,Nat.reduceLeDiff,splice,gb4,gc4,bc,cb,res_cellc,resC_some]
   exact downS_here (hbad 2 129 1 rfl (by omega) _ (FIN T4))
  | true =>
   simp only [ha,Bool.true_eq_false,if_false] at hok hbad
   by_cases h2 : n = 1 ∧ m ≠ 0
   ·have h3 : (n : Int) = 1 := by omega
    have h4 : ¬ (m : Int) = 0 := by omega
    simp only [if_pos h2] at hbad
    simp (disch := first | assumption | simp) only [↓sbD,sbU,tyB,↓reduceIte,Nat.reduceEqDiff,Nat.reduceLT,pairs,isConst,ZV.val,not_bool,h3,h4]
    refine specKAgainst (n := 0) ?_
    simp (disch := first | assumption | simp) only [↓sbD,sbU,tyB,↓reduceIte,Nat.reduceEqDiff,Nat.reduceLT,Nat.reduceAdd,Nat.reduceLeDiff,splice,gb4,gc4,bc,cb,res_cellc,resC_some]
    exact downS_here (hbad 3 130 0 rfl (by omega) _ (FIN T4))
   simp only [if_neg h2] at hok hbad
   have ALT : ∀ {P : Prop},((n : Int) = 1 → (m : Int) = 0 → P) → (¬ (n : Int) = 1 → P) → P := fun a b => by
    by_cases h3 : (n : Int) = 1
    ·exact a h3 (by omega)
    ·exact b h3
   refine ALT (fun h3 h4 => ?_) fun h3 => ?_
   rotate_left
   focus simp (disch := first | assumption | simp) only [↓sbD,sbU,decide_false,↓reduceIte,Nat.reduceEqDiff,Nat.reduceLT,isConst,not_bool,h3]
   rotate_left
   focus simp (disch := first | assumption | simp) only [↓sbD,sbU,decide_false,↓reduceIte,Nat.reduceEqDiff,Nat.reduceLT,isConst,not_bool,h3,h4]
   all_goals
    refine specZRead r4 hs (fun l q hrd v σ5 hv k5 r5 => ?_) fun k rr a hrd hk σ5 k5 => ?_
    rotate_left
    ·have K5 := K4.trans k5
     have gb5 := (K5.at gb1 (by simp) (by simp)).1
     have gc5 := (K5.at gc1 (by simp) (by simp)).1
     simp only [zeL,pkC,pkz] at gb5
     have T5 := K5.wid (gp := []) (gp' := []) (fun _ h => by cases h) (fun _ h => by cases h)
     have hk0 : ¬ (k : Int) = 0 := by omega
     simp (disch := first | assumption | simp) only [↓sbD,sbU,tyB,↓reduceIte,Nat.reduceEqDiff,Nat.reduceLT,Nat.reduceAdd,Nat.reduceLeDiff,reduceCtorEq,isConst,splice,AS_new,zeFlt]
     intro g hg
     have hgb : b ≠ g := (nd hg gb5 (by simp)).symm
     have hgc : c ≠ g := (nd hg gc5 (by simp)).symm
     have gb : ∀ (τ : AHeap) o,(AHeap.set τ g o).get b = τ.get b := fun τ o => AHeap.get_set_ne _ _ hgb.symm
     have gc : ∀ (τ : AHeap) o,(AHeap.set τ g o).get c = τ.get c := fun τ o => AHeap.get_set_ne _ _ hgc.symm
     have bg : ∀ (τ : AHeap) o,(AHeap.set τ b o).get g = τ.get g := fun τ o => AHeap.get_set_ne _ _ hgb
     simp (disch := first | assumption | simp) only [↓sbD,sbU,tyB,↓reduceIte,Nat.reduceEqDiff,Nat.reduceLT,Nat.reduceAdd,Nat.reduceLeDiff,pairs,splice,ZV.val,gb,gc,bc,gb5,gc5,hk0]
     refine drawS_l (fl := [(1,2)]) (by kernel_rfl) ?_ ?_
     rotate_left; simp only [lastP_cc,lastP_one]; rotate_left
     ·simp only [List.all_cons,List.all_nil,floatS,List.getElem?_cons_succ,List.getElem?_cons_zero,List.getElem?_toArray,Region.wanted,Bool.not_true,Bool.not_false,Bool.or_true,reads,looksWeak,aev_tmp,upd_at,↓reduceIte,Nat.reduceEqDiff,Nat.reduceLT,Nat.reduceAdd,blkOf,oeq_refl,dead_cells,Bool.and_self,Bool.false_eq_true,Bool.not_false,bg,AHeap.get_set_same]
      try rfl
     simp (disch := first | assumption | simp) only [↓sbD,sbU,tyB,↓reduceIte,Nat.reduceEqDiff,Nat.reduceLT,Nat.reduceAdd,Nat.reduceLeDiff,cb,res_cellc,resC_some]
     exact downS_here (hbad k rr a ⟨_,hrd,rfl⟩ hk _ (FIN (T5.trans (((Kept.refl _ []).setD hg).setD hg))))
    focus
     have K5 := K4.trans k5
     have gb5 := (K5.at gb1 (by simp) (by simp)).1
     have gc5 := (K5.at gc1 (by simp) (by simp)).1
     simp only [zeL,pkC,pkz] at gb5
     have T5 := K5.wid (gp := []) (gp' := []) (fun _ h => by cases h) (fun _ h => by cases h)
     simp (disch := first | assumption | simp) only [↓sbD,sbU,tyB,decide_false,↓reduceIte,Nat.reduceEqDiff,Nat.reduceLT,Nat.reduceAdd,Nat.reduceLeDiff,reduceCtorEq,isConst,splice,AS_new,zeFlt]
     intro g hg
     have hgb : b ≠ g := (nd hg gb5 (by simp)).symm
     have hgc : c ≠ g := (nd hg gc5 (by simp)).symm
     have gb : ∀ (τ : AHeap) o,(AHeap.set τ g o).get b = τ.get b := fun τ o => AHeap.get_set_ne _ _ hgb.symm
     have gc : ∀ (τ : AHeap) o,(AHeap.set τ g o).get c = τ.get c := fun τ o => AHeap.get_set_ne _ _ hgc.symm
     have bg : ∀ (τ : AHeap) o,(AHeap.set τ b o).get g = τ.get g := fun τ o => AHeap.get_set_ne _ _ hgb
     generalize hσ6 : AHeap.set (AHeap.set σ5 g _) g _ = σ6
     have k6 : Kept σ5 [] σ6 [] := by rw [← hσ6]; exact ((Kept.refl _ []).setD hg).setD hg
     have gg6 : σ6.get g = .cells [.int .i64 0,.int .i64 0,.int .i64 0] true 0 := by rw [← hσ6]; exact AHeap.get_set_same _ _ _
     clear hσ6
     have K6 := K5.trans (k6.wid (gp := [x]) (gp' := [x]) (fun _ h => by cases h) (fun _ h => .inr h))
     have gb6 := (K6.at gb1 (by simp) (by simp)).1
     have gc6 := (K6.at gc1 (by simp) (by simp)).1
     simp only [zeL,pkC,pkz] at gb6
     have T6 := K6.wid (gp := []) (gp' := []) (fun _ h => by cases h) (fun _ h => by cases h)
     have r6 := r5.kept k6 (by simp)
     try simp (disch := first | assumption | simp) only [↓sbD,sbU,tyB,Nat.reduceMul,Nat.reduceSub,Int.reduceEq,Int.reduceLT,Int.reduceLE,Int.reduceNe,Nat.reduceBneDiff,Nat.reduceBEq,decide_false,gt_iff_lt,Bool.or_self,Bool.false_eq_true,Nat.mul_one,Nat.one_mul,Nat.zero_mul,↓reduceIte,Nat.reduceEqDiff,Nat.reduceLT,Nat.reduceAdd,Nat.reduceLeDiff,reduceCtorEq,goInt,pairs,isConst,TI.isAgg,splice,boxS,Edp,dpv,Nat.beq_eq,ZV.val,List.any_cons,List.any_nil,Bool.false_and,gg6]
     refine specZOf r6 (fun hend => ?_) fun k q' hend hk => ?_
     rotate_left
     ·have hk0 : ¬ (k : Int) = 0 := by omega
      simp (disch := first | assumption | simp) only [↓sbD,sbU,tyB,↓reduceIte,Nat.reduceEqDiff,Nat.reduceLT,Nat.reduceAdd,Nat.reduceLeDiff,reduceCtorEq,isConst,splice,AS_new,zeFlt]
      intro g hg
      have hgb : b ≠ g := (nd hg gb6 (by simp)).symm
      have hgc : c ≠ g := (nd hg gc6 (by simp)).symm
      have gb : ∀ (τ : AHeap) o,(AHeap.set τ g o).get b = τ.get b := fun τ o => AHeap.get_set_ne _ _ hgb.symm
      have gc : ∀ (τ : AHeap) o,(AHeap.set τ g o).get c = τ.get c := fun τ o => AHeap.get_set_ne _ _ hgc.symm
      have bg : ∀ (τ : AHeap) o,(AHeap.set τ b o).get g = τ.get g := fun τ o => AHeap.get_set_ne _ _ hgb
      simp (disch := first | assumption | simp) only [↓sbD,sbU,tyB,↓reduceIte,Nat.reduceEqDiff,Nat.reduceLT,Nat.reduceAdd,Nat.reduceLeDiff,pairs,splice,ZV.val,gb,gc,bc,gb6,gc6,hk0]
      refine drawS_l (fl := [(1,2)]) (by kernel_rfl) ?_ ?_
      rotate_left; simp only [lastP_cc,lastP_one]; rotate_left
      ·simp only [List.all_cons,List.all_nil,floatS,List.getElem?_cons_succ,List.getElem?_cons_zero,List.getElem?_toArray,Region.wanted,Bool.not_true,Bool.not_false,Bool.or_true,reads,looksWeak,aev_tmp,upd_at,↓reduceIte,Nat.reduceEqDiff,Nat.reduceLT,Nat.reduceAdd,blkOf,oeq_refl,dead_cells,Bool.and_self,Bool.false_eq_true,Bool.not_false,bg,AHeap.get_set_same]
       try rfl
      simp (disch := first | assumption | simp) only [↓sbD,sbU,tyB,↓reduceIte,Nat.reduceEqDiff,Nat.reduceLT,Nat.reduceAdd,Nat.reduceLeDiff,cb,res_cellc,resC_some]
      exact downS_here (hbad k 129 q' ⟨_,hrd,by simp only [endM,hend]⟩ hk _ (FIN (T6.trans (((Kept.refl _ []).setD hg).setD hg))))
     simp (disch := first | assumption | simp) only [↓sbD,sbU,tyB,decide_false,↓reduceIte,Nat.reduceEqDiff,Nat.reduceLT,Nat.reduceAdd,Nat.reduceLeDiff,reduceCtorEq,pairs,isConst,splice,ZV.val,AS_new,zeFlt]
     intro g hg
     have hgb : b ≠ g := (nd hg gb6 (by simp)).symm
     have hgc : c ≠ g := (nd hg gc6 (by simp)).symm
     have gb : ∀ (τ : AHeap) o,(AHeap.set τ g o).get b = τ.get b := fun τ o => AHeap.get_set_ne _ _ hgb.symm
     have gc : ∀ (τ : AHeap) o,(AHeap.set τ g o).get c = τ.get c := fun τ o => AHeap.get_set_ne _ _ hgc.symm
     have bg : ∀ (τ : AHeap) o,(AHeap.set τ b o).get g = τ.get g := fun τ o => AHeap.get_set_ne _ _ hgb
     generalize hσ7 : AHeap.set (AHeap.set σ6 g _) g _ = σ7
     have k7 : Kept σ6 [] σ7 [] := by rw [← hσ7]; exact ((Kept.refl _ []).setD hg).setD hg
     have gg7 : σ7.get g = .cells [.int .i64 0,.int .i64 0,.int .i64 0] true 0 := by rw [← hσ7]; exact AHeap.get_set_same _ _ _
     clear hσ7
     have K7 := K6.trans (k7.wid (gp := [x]) (gp' := [x]) (fun _ h => by cases h) (fun _ h => .inr h))
     have gb7 := (K7.at gb1 (by simp) (by simp)).1
     have gc7 := (K7.at gc1 (by simp) (by simp)).1
     simp only [zeL,pkC,pkz] at gb7
     have T7 := K7.wid (gp := []) (gp' := []) (fun _ h => by cases h) (fun _ h => by cases h)
     have hvc := dl_vc hv
     simp (disch := first | assumption | simp) only [↓sbD,sbU,tyB,decide_false,↓reduceIte,Nat.reduceEqDiff,Nat.reduceLT,Nat.reduceAdd,Nat.reduceLeDiff,pairs,splice,ZV.val,gb7,gc7,bc,cb,res_cellc,resC_some,h3,hvc.1,hvc.2]
     exact downS_here (hok _ ⟨_,hrd,by simp only [endM,hend]; rfl⟩ _ _ ⟨_,_,_,_,_,hv,.inl ⟨rfl,rfl⟩,.inl ⟨rfl,rfl⟩,.inl ⟨rfl,rfl⟩,.inl ⟨rfl,rfl⟩,by first | (simp only [pkC,cnP,pkz,h3,h4,decide_true]; try rfl; done) | (simp only [pkC,cnP,pkz,h3,decide_false]; try rfl; done)⟩ (FIN T7))
theorem specDCEnc {p : Pk} {v : Value} (hp : PkV p v) (hf : fewPk p)
  (hok : ∀ fb,EncC p (.ok fb) → ∀ σ',Kept σ [] σ' [] → Q (.tuple #[.agg ⟨[.int .i64 fb.1,.string fb.2]⟩,flt 0 0 0]) σ')
  (hbad : ∀ k rr a : Nat,EncC p (.error (k,rr,a)) → k ≠ 0 → ∀ σ',Kept σ [] σ' [] → Q (.tuple #[.agg ⟨[.int .i64 0,.string emp]⟩,flt k rr a]) σ') :
  CallS E B 27 [v] σ Q := by
 obtain ⟨vp,vw,vs,vf,vc,d1,d2,d3,d4,d5,rfl⟩ := hp
 obtain ⟨up,uw,us,uf,uc,d1,d2,d3,d4,d5,-,hbx⟩ := boxPk d1 d2 d3 d4 d5
 simp only [pkC] at hbx ⊢
 have hm := hf.big
 have eml : (emp).size = 0 := rfl
 unfold EncC EncG at hok hbad
 simp only at hok hbad
 refine call27 (by simp) ?_
 simp only [strip,bodyOf,Tryz.f27,getD_body,keepN,bareOp_mk,lessOp_mk,List.map_cons,List.map_nil,↓reduceIte,Nat.reduceEqDiff,Bool.false_eq_true]
 simp only [↓sbD,sbU,tyB,↓reduceIte,Nat.reduceEqDiff,Nat.reduceLT,reduceCtorEq,hbx,AS_new,zeFra,zeFlt]
 intro b hb c hc
 have hcb : c ≠ b := by rintro rfl; rw [AHeap.get_set_same] at hc; cases hc
 have hcd : σ.get c = .dead := by rw [AHeap.get_set_ne _ _ hcb.symm] at hc; exact hc
 have cb : ∀ (τ : AHeap) o,(AHeap.set τ c o).get b = τ.get b := fun τ o => AHeap.get_set_ne _ _ hcb
 have bc : ∀ (τ : AHeap) o,(AHeap.set τ b o).get c = τ.get c := fun τ o => AHeap.get_set_ne _ _ hcb.symm
 clear hc
 generalize hσ1 : AHeap.set (AHeap.set σ b _) c _ = σ1
 have k1 : Kept σ [] σ1 [] := by rw [← hσ1]; exact ((Kept.refl σ []).setD hb).setD hcd
 have gb1 : σ1.get b = .cells [.int .i64 0,.string emp] true 0 := by rw [← hσ1,cb]; exact AHeap.get_set_same _ _ _
 have gc1 : σ1.get c = .cells [.int .i64 0,.int .i64 0,.int .i64 0] true 0 := by rw [← hσ1]; exact AHeap.get_set_same _ _ _
 clear hσ1
 have FIN : ∀ {τ : AHeap} {o o' : AObj},Kept σ1 [] τ [] → Kept σ [] ((τ.set b o).set c o') [] := fun kt => ((k1.trans kt).setD hb).setD hcd
 refine specREncode d1 hm.props (fun cc hce => ?_) fun k r a hce => ?_
 rotate_left
 ·rw [hce] at hok hbad
  simp only at hok hbad
  have hk := encP_k hce
  have T1 : Kept σ1 [] σ1 [] := Kept.refl _ _
  have hk0 : ¬ (k : Int) = 0 := by omega
  simp only [↓sbD,sbU,tyB,↓reduceIte,Nat.reduceEqDiff,Nat.reduceLT,Nat.reduceAdd,Nat.reduceLeDiff,reduceCtorEq,isConst,splice,AS_new,zeFlt]
  intro g hg
  have hgb : b ≠ g := (nd hg gb1 (by simp)).symm
  have hgc : c ≠ g := (nd hg gc1 (by simp)).symm
  have gb : ∀ (τ : AHeap) o,(AHeap.set τ g o).get b = τ.get b := fun τ o => AHeap.get_set_ne _ _ hgb.symm
  have gc : ∀ (τ : AHeap) o,(AHeap.set τ g o).get c = τ.get c := fun τ o => AHeap.get_set_ne _ _ hgc.symm
  have bg : ∀ (τ : AHeap) o,(AHeap.set τ b o).get g = τ.get g := fun τ o => AHeap.get_set_ne _ _ hgb
  simp only [↓sbD,sbU,tyB,↓reduceIte,Nat.reduceEqDiff,Nat.reduceLT,Nat.reduceAdd,Nat.reduceLeDiff,pairs,splice,ZV.val,gb,gc,bc,gb1,gc1,hk0]
  refine drawS_l (fl := [(1,2)]) (by kernel_rfl) ?_ ?_
  rotate_left; simp only [lastP_cc,lastP_one]; rotate_left
  ·simp only [List.all_cons,List.all_nil,floatS,List.getElem?_cons_succ,List.getElem?_cons_zero,List.getElem?_toArray,Region.wanted,Bool.not_true,Bool.not_false,Bool.or_true,reads,looksWeak,aev_tmp,upd_at,↓reduceIte,Nat.reduceEqDiff,Nat.reduceLT,Nat.reduceAdd,blkOf,oeq_refl,dead_cells,Bool.and_self,Bool.false_eq_true,Bool.not_false,bg,AHeap.get_set_same]
   try rfl
  simp only [↓sbD,sbU,tyB,↓reduceIte,Nat.reduceEqDiff,Nat.reduceLT,Nat.reduceAdd,Nat.reduceLeDiff,cb,res_cellc,resC_some]
  exact downS_here (hbad k r a rfl hk _ (FIN (T1.trans (((Kept.refl _ []).setD hg).setD hg))))
 rw [hce] at hok hbad
 simp only at hok hbad
 have hcz := encP_size hf.props hce
 simp only [↓sbD,sbU,tyB,decide_false,↓reduceIte,Nat.reduceEqDiff,Nat.reduceLT,Nat.reduceAdd,Nat.reduceLeDiff,reduceCtorEq,pairs,isConst,splice,boxS,Edp,ZV.val,AS_new,zeFlt]
 intro g hg
 have hgb : b ≠ g := (nd hg gb1 (by simp)).symm
 have hgc : c ≠ g := (nd hg gc1 (by simp)).symm
 have gb : ∀ (τ : AHeap) o,(AHeap.set τ g o).get b = τ.get b := fun τ o => AHeap.get_set_ne _ _ hgb.symm
 have gc : ∀ (τ : AHeap) o,(AHeap.set τ g o).get c = τ.get c := fun τ o => AHeap.get_set_ne _ _ hgc.symm
 have bg : ∀ (τ : AHeap) o,(AHeap.set τ b o).get g = τ.get g := fun τ o => AHeap.get_set_ne _ _ hgb
 generalize hσ2 : AHeap.set (AHeap.set σ1 g _) g _ = σ2
 have k2 : Kept σ1 [] σ2 [] := by rw [← hσ2]; exact ((Kept.refl _ []).setD hg).setD hg
 have gg2 : σ2.get g = .cells [.int .i64 0,.int .i64 0,.int .i64 0] true 0 := by rw [← hσ2]; exact AHeap.get_set_same _ _ _
 clear hσ2
 have gb2 := (k2.at gb1 (by simp) (by simp)).1
 have gc2 := (k2.at gc1 (by simp) (by simp)).1
 simp only [↓sbD,sbU,tyB,Bool.false_eq_true,↓reduceIte,Nat.reduceEqDiff,Nat.reduceLT,reduceCtorEq,Bool.false_and,AS_new,dpX]
 intro x hx
 generalize hσ3 : AHeap.set σ2 x _ = σ3
 have x3 : XRun σ3 x (runW emp []) := by rw [← hσ3]; exact AHeap.get_set_same _ _ _
 have k3 : Kept σ1 [] σ3 [x] := k2.trans (by rw [← hσ3]; exact Kept.new' hx)
 have z3 : leW (runW emp []) 0 := fun b hb => by injection hb with hb; subst hb; exact Nat.le_refl _
 clear hσ3
 have hacts : ∀ n : Int,(if p.present then 1 else 0) = n → stepW (stepW (stepW (runW emp []) [⟨1,n,emp⟩]) [⟨1,p.rea,emp⟩]) [⟨8,0,cc⟩] = runW emp (actsC p cc) := fun n hn => by rw [stepW_app,stepW_app]; unfold actsC; rw [hn]; rfl
 have hpv : (p.present = true ∧ (if p.present then 1 else 0) = (1 : Int)) ∨ (p.present = false ∧ (if p.present then 1 else 0) = (0 : Int)) := by cases p.present <;> simp
 rcases hpv with ⟨hpr,hn1⟩ | ⟨hpr,hn1⟩
 focus
  simp only [↓sbD,sbU,tyB,↓reduceIte,Nat.reduceEqDiff,Nat.reduceLT,Nat.reduceAdd,Nat.reduceLeDiff,pairs,splice,ZV.val,hpr]
  refine specDoR (a := ⟨1,1,emp⟩) x3 (fun b hb => by have := z3 b hb; omega) (by simp only [eml]; omega) fun σ4 k4 x4 => ?_
 rotate_left
 focus
  simp only [↓sbD,sbU,tyB,↓reduceIte,Nat.reduceEqDiff,Nat.reduceLT,Nat.reduceAdd,Nat.reduceLeDiff,pairs,splice,ZV.val,hpr]
  refine specDoR (a := ⟨1,0,emp⟩) x3 (fun b hb => by have := z3 b hb; omega) (by simp only [eml]; omega) fun σ4 k4 x4 => ?_
 all_goals
  have hact := hacts _ hn1
  have z4 := leW_step (a := ⟨1,0,emp⟩) z3
  have z4' := leW_step (a := ⟨1,1,emp⟩) z3
  simp only [eml] at z4 z4'
  simp only [↓sbD,sbU,tyB,↓reduceIte,Nat.reduceEqDiff,Nat.reduceLT,Nat.reduceAdd,Nat.reduceLeDiff,reduceCtorEq,pairs,splice,ZV.val]
  refine specDoR (a := ⟨1,p.rea,emp⟩) x4 (fun b hb => by first | (have := z4 b hb; omega) | (have := z4' b hb; omega)) (by simp only [eml]; omega) fun σ5 k5 x5 => ?_
  have z5 := leW_step (a := ⟨1,p.rea,emp⟩) z4
  have z5' := leW_step (a := ⟨1,p.rea,emp⟩) z4'
  simp only [eml] at z5 z5'
  simp only [↓sbD,sbU,tyB,↓reduceIte,Nat.reduceEqDiff,Nat.reduceLT,Nat.reduceAdd,Nat.reduceLeDiff,pairs,splice,ZV.val]
  refine specDoR (a := ⟨8,0,cc⟩) x5 (fun b hb => by first | (have := z5 b hb; omega) | (have := z5' b hb; omega)) (by simp only; omega) fun σ6 k6 x6 => ?_
  have z6 : leW (runW emp (actsC p cc)) (28844 + 20) := fun b hb => by
   rw [← hact] at hb
   first
    | (have := leW_step (a := ⟨8,0,cc⟩) z5 b hb; simp only at this; omega)
    | (have := leW_step (a := ⟨8,0,cc⟩) z5' b hb; simp only at this; omega)
  rw [hact] at x6
  have K6 := k3.trans (k4.trans (k5.trans k6))
  simp only [↓sbD,sbU,↓reduceIte,Nat.reduceEqDiff,Nat.reduceLT]
  have gb6 := (K6.at gb1 (by simp) (by simp)).1
  have gc6 := (K6.at gc1 (by simp) (by simp)).1
  refine specKMade x6 (fun bb hbb => ?_) fun k q hr hk => ?_
  ·have hle := z6 bb hbb
   simp only [↓sbD,sbU,tyB,↓reduceIte,Nat.reduceEqDiff,Nat.reduceLT,AS_new,zeFra,zeFlt]
   intro d hd e he
   have hed : e ≠ d := by rintro rfl; rw [AHeap.get_set_same] at he; cases he
   replace he : (σ6).get e = .dead := by rw [AHeap.get_set_ne _ _ hed.symm] at he; exact he
   have ed : ∀ (τ : AHeap) o,(AHeap.set τ e o).get d = τ.get d := fun τ o => AHeap.get_set_ne _ _ hed
   have de : ∀ (τ : AHeap) o,(AHeap.set τ d o).get e = τ.get e := fun τ o => AHeap.get_set_ne _ _ hed.symm
   simp only [↓sbD,sbU,tyB,decide_false,↓reduceIte,Nat.reduceEqDiff,Nat.reduceLT,Nat.reduceAdd,Nat.reduceLeDiff,reduceCtorEq,isConst,splice,ed,de]
   generalize hσ7 : AHeap.set (AHeap.set (AHeap.set (AHeap.set σ6 d _) e _) d _) e _ = σ7
   have k7 : Kept σ6 [x] σ7 [x] := by rw [← hσ7]; exact ((((Kept.refl _ _).setD hd).setD he).setD hd).setD he
   have gd7 : σ7.get d = .cells [.int .i64 (32),.string bb] true 0 := by rw [← hσ7,ed]; exact AHeap.get_set_same _ _ _
   have ge7 : σ7.get e = .cells [.int .i64 0,.int .i64 0,.int .i64 0] true 0 := by rw [← hσ7]; exact AHeap.get_set_same _ _ _
   have K7 := (K6.trans k7).wid (gp := []) (gp' := []) (fun _ h => by cases h) (fun _ h => by cases h)
   clear hσ7
   refine specDCDec (by omega) (fun y hy v2 σ8 hv2 k8 => ?_) fun k rr a hy hk σ8 k8 => ?_
   ·obtain ⟨up,uw,us,uf,uc,e1,e2,e3,e4,e5,rfl⟩ := hv2
    have K8 := K7.trans k8
    have gb8 := (K8.at gb1 (by simp) (by simp)).1
    have gc8 := (K8.at gc1 (by simp) (by simp)).1
    have gd8 := (k8.at gd7 (by simp) (by simp)).1
    simp only [pkC]
    have c1 := dl_vc e1
    have c2 := dl_vc e2
    have c3 := dl_vc e3
    have c4 := dl_vc e4
    have c5 := dl_vc e5
    simp only [↓sbD,sbU,tyB,↓reduceIte,Nat.reduceEqDiff,Nat.reduceLT,AS_new,zePk,zeFlt]
    intro i hi j hj
    have hji : j ≠ i := by rintro rfl; rw [AHeap.get_set_same] at hj; cases hj
    replace hj : (σ8).get j = .dead := by rw [AHeap.get_set_ne _ _ hji.symm] at hj; exact hj
    have ji : ∀ (τ : AHeap) o,(AHeap.set τ j o).get i = τ.get i := fun τ o => AHeap.get_set_ne _ _ hji
    have ij : ∀ (τ : AHeap) o,(AHeap.set τ i o).get j = τ.get j := fun τ o => AHeap.get_set_ne _ _ hji.symm
    simp only [↓sbD,sbU,tyB,decide_false,↓reduceIte,Nat.reduceEqDiff,Nat.reduceLT,Nat.reduceAdd,Nat.reduceLeDiff,reduceCtorEq,isConst,splice,ji,ij,c1.2,c2.2,c3.2,c4.2,c5.2]
    have hib : b ≠ i := (nd hi gb8 (by simp)).symm
    have hic : c ≠ i := (nd hi gc8 (by simp)).symm
    have hjb : b ≠ j := (nd hj gb8 (by simp)).symm
    have hjc : c ≠ j := (nd hj gc8 (by simp)).symm
    have hid : d ≠ i := (nd hi gd8 (by simp)).symm
    have hjd : d ≠ j := (nd hj gd8 (by simp)).symm
    generalize hσ9 : AHeap.set (AHeap.set (AHeap.set (AHeap.set σ8 i _) j _) i _) j _ = σ9
    have k9 : Kept σ8 [] σ9 [] := by rw [← hσ9]; exact ((((Kept.refl _ _).setD hi).setD hj).setD hi).setD hj
    have gj9 : σ9.get j = .cells [.int .i64 0,.int .i64 0,.int .i64 0] true 0 := by rw [← hσ9]; exact AHeap.get_set_same _ _ _
    have gd9 := (k9.at gd8 (by simp) (by simp)).1
    have K9 := K8.trans k9
    have gb9 := (K9.at gb1 (by simp) (by simp)).1
    have gc9 := (K9.at gc1 (by simp) (by simp)).1
    clear hσ9
    simp only [↓sbD,sbU,tyB,↓reduceIte,Nat.reduceEqDiff,Nat.reduceLT,Nat.reduceAdd,Nat.reduceLeDiff,pairs,splice,ZV.val,gd9,bc,cb,gb9,gc9,res_cellc,resC_some]
    exact downS_here (hok (32,bb) (by unfold MadeR; rw [hbb]; exact ⟨_,hy,rfl⟩) _ (FIN K9))
   ·have hk0 : ¬ (k : Int) = 0 := by omega
    have K8 := K7.trans k8
    have gb8 := (K8.at gb1 (by simp) (by simp)).1
    have gc8 := (K8.at gc1 (by simp) (by simp)).1
    simp only [zeL,pkC,pkz]
    simp only [↓sbD,sbU,tyB,↓reduceIte,Nat.reduceEqDiff,Nat.reduceLT,AS_new,zePk,zeFlt]
    intro i hi j hj
    have hji : j ≠ i := by rintro rfl; rw [AHeap.get_set_same] at hj; cases hj
    replace hj : (σ8).get j = .dead := by rw [AHeap.get_set_ne _ _ hji.symm] at hj; exact hj
    have ji : ∀ (τ : AHeap) o,(AHeap.set τ j o).get i = τ.get i := fun τ o => AHeap.get_set_ne _ _ hji
    have ij : ∀ (τ : AHeap) o,(AHeap.set τ i o).get j = τ.get j := fun τ o => AHeap.get_set_ne _ _ hji.symm
    simp only [↓sbD,sbU,tyB,↓reduceIte,Nat.reduceEqDiff,Nat.reduceLT,Nat.reduceAdd,Nat.reduceLeDiff,reduceCtorEq,pairs,isConst,splice,ZV.val,ji,ij,hk0]
    generalize hσ9 : AHeap.set (AHeap.set (AHeap.set (AHeap.set σ8 i _) j _) i _) j _ = σ9
    have k9 : Kept σ8 [] σ9 [] := by rw [← hσ9]; exact ((((Kept.refl _ _).setD hi).setD hj).setD hi).setD hj
    have gj9 : σ9.get j = .cells [.int .i64 (k : Int),.int .i64 (rr : Int),.int .i64 (a : Int)] true 0 := by rw [← hσ9]; exact AHeap.get_set_same _ _ _
    have K9 := K8.trans k9
    have gb9 := (K9.at gb1 (by simp) (by simp)).1
    have gc9 := (K9.at gc1 (by simp) (by simp)).1
    have hjb : b ≠ j := by rintro rfl; rw [gb9] at gj9; cases gj9
    clear hσ9
    have bj : ∀ (τ : AHeap) o,(AHeap.set τ b o).get j = τ.get j := fun τ o => AHeap.get_set_ne _ _ hjb
    simp only [↓sbD,sbU,tyB,↓reduceIte,Nat.reduceEqDiff,Nat.reduceLT,Nat.reduceAdd,Nat.reduceLeDiff,splice,bc,gb9,gc9]
    refine drawS_l (fl := [(1,2)]) (by kernel_rfl) ?_ ?_
    rotate_left; simp only [lastP_cc,lastP_one]; rotate_left
    ·simp only [List.all_cons,List.all_nil,floatS,List.getElem?_cons_succ,List.getElem?_cons_zero,List.getElem?_toArray,Region.wanted,Bool.not_true,Bool.not_false,Bool.or_true,reads,looksWeak,aev_tmp,upd_at,↓reduceIte,Nat.reduceEqDiff,Nat.reduceLT,Nat.reduceAdd,blkOf,oeq_refl,dead_cells,Bool.and_self,Bool.false_eq_true,Bool.not_false,gj9,bj]
     try rfl
    simp only [↓sbD,sbU,tyB,↓reduceIte,Nat.reduceEqDiff,Nat.reduceLT,Nat.reduceAdd,Nat.reduceLeDiff,cb,res_cellc,resC_some]
    exact downS_here (hbad k rr a (by unfold MadeR; rw [hbb]; exact ⟨_,hy,rfl⟩) hk _ (FIN K9))
  ·have hk0 : ¬ (k : Int) = 0 := by omega
   simp only [↓sbD,sbU,tyB,↓reduceIte,Nat.reduceEqDiff,Nat.reduceLT,AS_new,zeFra,zeFlt]
   intro d hd e he
   have hed : e ≠ d := by rintro rfl; rw [AHeap.get_set_same] at he; cases he
   replace he : (σ6).get e = .dead := by rw [AHeap.get_set_ne _ _ hed.symm] at he; exact he
   have ed : ∀ (τ : AHeap) o,(AHeap.set τ e o).get d = τ.get d := fun τ o => AHeap.get_set_ne _ _ hed
   have de : ∀ (τ : AHeap) o,(AHeap.set τ d o).get e = τ.get e := fun τ o => AHeap.get_set_ne _ _ hed.symm
   simp only [↓sbD,sbU,tyB,↓reduceIte,Nat.reduceEqDiff,Nat.reduceLT,Nat.reduceAdd,Nat.reduceLeDiff,reduceCtorEq,isConst,splice,ed,de,hk0]
   generalize hσ7 : AHeap.set (AHeap.set (AHeap.set (AHeap.set σ6 d _) e _) d _) e _ = σ7
   have k7 : Kept σ6 [x] σ7 [x] := by rw [← hσ7]; exact ((((Kept.refl _ _).setD hd).setD he).setD hd).setD he
   have gd7 : σ7.get d = .cells [.int .i64 0,.string emp] true 0 := by rw [← hσ7,ed]; exact AHeap.get_set_same _ _ _
   have ge7 : σ7.get e = .cells [.int .i64 (k : Int),.int .i64 129,.int .i64 (q : Int)] true 0 := by rw [← hσ7]; exact AHeap.get_set_same _ _ _
   have K7 := (K6.trans k7).wid (gp := []) (gp' := []) (fun _ h => by cases h) (fun _ h => by cases h)
   clear hσ7
   have gb7 := (K7.at gb1 (by simp) (by simp)).1
   have gc7 := (K7.at gc1 (by simp) (by simp)).1
   have heb : b ≠ e := by rintro rfl; rw [gb7] at ge7; cases ge7
   have be : ∀ (τ : AHeap) o,(AHeap.set τ b o).get e = τ.get e := fun τ o => AHeap.get_set_ne _ _ heb
   simp only [↓sbD,sbU,tyB,↓reduceIte,Nat.reduceEqDiff,Nat.reduceLT,Nat.reduceAdd,Nat.reduceLeDiff,splice,bc,gb7,gc7]
   refine drawS_l (fl := [(1,2)]) (by kernel_rfl) ?_ ?_
   rotate_left; simp only [lastP_cc,lastP_one]; rotate_left
   ·simp only [List.all_cons,List.all_nil,floatS,List.getElem?_cons_succ,List.getElem?_cons_zero,List.getElem?_toArray,Region.wanted,Bool.not_true,Bool.not_false,Bool.or_true,reads,looksWeak,aev_tmp,upd_at,↓reduceIte,Nat.reduceEqDiff,Nat.reduceLT,Nat.reduceAdd,blkOf,oeq_refl,dead_cells,Bool.and_self,Bool.false_eq_true,Bool.not_false,ge7,be]
    try rfl
   simp only [↓sbD,sbU,tyB,↓reduceIte,Nat.reduceEqDiff,Nat.reduceLT,Nat.reduceAdd,Nat.reduceLeDiff,cb,res_cellc,resC_some]
   exact downS_here (hbad k 129 q (by unfold MadeR; rw [hr]) hk _ (FIN K7))
end
set_option maxHeartbeats 4000000
section
variable {σ : AHeap} {Q : Value → AHeap → Prop}
theorem fraEq {cs : Bool} {f : Int} {a : ByteArray} : abin E σ .eql 33 cs (.agg ⟨[.int .i64 f,.string a]⟩) (.agg ⟨[.int .i64 f,.string a]⟩) = some (.bool true) := by
 simp only [abin,nonNum,eqAsk,aeq,aeqs,apart,ty33,ty3,ty9,TI.isAgg,Bool.and_self,Bool.false_eq_true,List.getElem?_cons_zero,List.getElem?_cons_succ,↓reduceIte,beq_self_eq_true]
 have e1 : (a == a) = true := by rw [bytes_dec]; simp
 rw [e1]
 rfl
theorem specLsameNil (h : Q (.bool true) σ) : CallS E B 28 [.nilIface,flt 0 0 0] σ Q := by
 refine call28 (by simp) ?_
 simp only [strip,bodyOf,Tryz.f28,getD_body,keepN,bareOp_mk,lessOp_mk,List.map_cons,List.map_nil,↓reduceIte,Nat.reduceEqDiff,Bool.false_eq_true]
 simp only [↓sbD,sbU,↓reduceIte,Nat.reduceLT,reduceCtorEq,boxS,Edp,dpv]
 refine specNumberNil ?_
 simp only [↓sbD,sbU,tyB,Bool.or_self,↓reduceIte,Nat.reduceEqDiff,Nat.reduceLT,reduceCtorEq,isConst,eq_self]
 refine drawS_l (fl := [(3,1),(13,11),(19,17)]) (by kernel_rfl) ?_ ?_
 rotate_left; simp only [lastP_cc,lastP_one]; rotate_left
 ·simp only [List.all_cons,List.all_nil,floatS,List.getElem?_cons_succ,List.getElem?_cons_zero,List.getElem?_toArray,Region.wanted,Bool.not_true,Bool.or_true,Bool.true_and,reads,looksWeak,aev_tmp,upd_at,↓reduceIte,Nat.reduceEqDiff,Nat.reduceLT,Nat.reduceAdd,blkOf,oeq_refl,Bool.and_true,Bool.and_self,Bool.false_eq_true,yield_list,yield_here,yield_next,truth_bool]
  try rfl
 simp only [↓sbD,sbU,↓reduceIte,Nat.reduceLT]
 exact downS_here h
theorem specLsameE {d k r a : Nat} {z : Value} (he : ErN d (fv r a z) k) (hd : d ≤ 4) (h : Q (.bool true) σ) : CallS E B 28 [fv r a z,flt k r a] σ Q := by
 have hk := he.val
 have hk0 : ¬ (k : Int) = 0 := by omega
 refine call28 (by simp) ?_
 simp only [strip,bodyOf,Tryz.f28,getD_body,keepN,bareOp_mk,lessOp_mk,List.map_cons,List.map_nil,↓reduceIte,Nat.reduceEqDiff,Bool.false_eq_true]
 simp only [↓sbD,sbU,↓reduceIte,Nat.reduceLT,reduceCtorEq,boxS,Edp,dpv]
 refine specNumber he hd ?_
 simp only [↓sbD,sbU,tyB,decide_false,Bool.or_self,↓reduceIte,Nat.reduceEqDiff,Nat.reduceLT,reduceCtorEq,isConst,eq_self,hk0]
 refine specReason ?_
 simp only [↓sbD,sbU,tyB,Bool.or_self,↓reduceIte,Nat.reduceEqDiff,Nat.reduceLT,reduceCtorEq,isConst,eq_self]
 refine specAt ?_
 simp only [↓sbD,sbU,tyB,Bool.or_self,↓reduceIte,Nat.reduceEqDiff,Nat.reduceLT,reduceCtorEq,isConst,eq_self]
 refine drawS_l (fl := [(3,1),(13,11),(19,17)]) (by kernel_rfl) ?_ ?_
 rotate_left; simp only [lastP_cc,lastP_one]; rotate_left
 ·simp only [List.all_cons,List.all_nil,floatS,List.getElem?_cons_succ,List.getElem?_cons_zero,List.getElem?_toArray,Region.wanted,Bool.not_true,Bool.or_true,reads,looksWeak,aev_tmp,upd_at,↓reduceIte,Nat.reduceEqDiff,Nat.reduceLT,Nat.reduceAdd,blkOf,oeq_refl,Bool.and_true,Bool.and_self,Bool.false_eq_true,yield_list,yield_here,yield_next,truth_bool]
  try rfl
 simp only [↓sbD,sbU,↓reduceIte,Nat.reduceLT]
 exact downS_here h
end
theorem law4 {H : AHeap} {vs : List Value} (hB0 : Ext B H) (h : ArgsTyped E H 8 [29] vs) : CallW E 7 vs H fun r _ => r = .bool true := by
 obtain ⟨u,vs1,rfl,t1,e1⟩ := h.cons'
 obtain rfl := e1.nil'
 obtain ⟨p,hp,hfz⟩ := typed_pk t1
 clear t1 e1 h
 have key : CallS E B 7 [u] .empty fun r _ => r = .bool true := by
  have hp' := hp
  obtain ⟨vp,vw,vs,vf,vc,d1,d2,d3,d4,d5,rfl⟩ := hp'
  have hz := hfz _ rfl
  simp only [pkC] at hz hp hfz ⊢
  refine call7 (by simp) ?_
  simp only [strip,bodyOf,Tryz.f7,getD_body,keepN,bareOp_mk,List.map_cons,List.map_nil,↓reduceIte,Bool.false_eq_true]
  simp only [↓sbD,sbU,tyB,↓reduceIte,Nat.reduceEqDiff,Nat.reduceLT,Nat.reduceAdd,Nat.reduceLeDiff,boxS,Edp,dpv,hz]
  refine specKFew hp hfz fun few hfew => ?_
  cases few with
  | false =>
   simp only [↓sbD,sbU,↓reduceIte,Nat.reduceLT,not_bool]
   refine specS25 ?_
   simp only [↓sbD,sbU,↓reduceIte,Nat.reduceLT]
   exact downS_here rfl
  | true =>
   have hf := hfew rfl
   simp only [↓sbD,sbU,tyB,↓reduceIte,Nat.reduceEqDiff,Nat.reduceLT,Nat.reduceAdd,Nat.reduceLeDiff,not_bool]
   refine specCEnc hp hf.big (fun fb he σ1 k1 => ?_) fun k rr a he σ1 d z k1 hd hn => ?_
   ·simp only [↓sbD,sbU,tyB,↓reduceIte,Nat.reduceEqDiff,Nat.reduceLT,Nat.reduceAdd,Nat.reduceLeDiff,splice,AS_new,zeFra]
    intro b hb
    generalize hσ2 : AHeap.set (AHeap.set σ1 b _) b _ = σ2
    have gb : σ2.get b = .cells [.int .i64 fb.1,.string fb.2] true 0 := by rw [← hσ2]; exact AHeap.get_set_same _ _ _
    clear hσ2
    refine specDCEnc hp hf (fun fc he' σ3 k3 => ?_) fun k rr a he' hk σ3 k3 => by cases he.det he'
    have hfc := he.det he'
    simp only [Except.ok.injEq] at hfc
    subst hfc
    have gb3 := (k3.at gb (by simp) (by simp)).1
    simp only [↓sbD,sbU,tyB,↓reduceIte,Nat.reduceEqDiff,Nat.reduceLT,AS_new,zeFra,zeFlt]
    intro c hc e he2
    have hbc : b ≠ c := (nd hc gb3 (by simp)).symm
    have hec : e ≠ c := by rintro rfl; rw [AHeap.get_set_same] at he2; cases he2
    replace he2 : σ3.get e = .dead := by rw [AHeap.get_set_ne _ _ hec.symm] at he2; exact he2
    have hbe : b ≠ e := (nd he2 gb3 (by simp)).symm
    have ec : ∀ (τ : AHeap) o,(AHeap.set τ e o).get c = τ.get c := fun τ o => AHeap.get_set_ne _ _ hec
    have ce : ∀ (τ : AHeap) o,(AHeap.set τ c o).get e = τ.get e := fun τ o => AHeap.get_set_ne _ _ hec.symm
    have cb : ∀ (τ : AHeap) o,(AHeap.set τ c o).get b = τ.get b := fun τ o => AHeap.get_set_ne _ _ hbc.symm
    have eb : ∀ (τ : AHeap) o,(AHeap.set τ e o).get b = τ.get b := fun τ o => AHeap.get_set_ne _ _ hbe.symm
    simp only [↓sbD,sbU,tyB,Bool.or_self,↓reduceIte,Nat.reduceEqDiff,Nat.reduceLT,Nat.reduceAdd,Nat.reduceLeDiff,isConst,splice,ec,ce,cb,eb,gb3,eq_self,fraEq]
    refine specLsameNil ?_
    simp only [↓sbD,sbU,↓reduceIte,Nat.reduceEqDiff,Nat.reduceLT]
    refine specS25 ?_
    simp only [↓sbD,sbU,↓reduceIte,Nat.reduceEqDiff,Nat.reduceLT]
    exact downS_here rfl
   ·simp only [↓sbD,sbU,tyB,↓reduceIte,Nat.reduceEqDiff,Nat.reduceLT,Nat.reduceAdd,Nat.reduceLeDiff,splice,AS_new,zeFra]
    intro b hb
    generalize hσ2 : AHeap.set (AHeap.set σ1 b _) b _ = σ2
    have gb : σ2.get b = .cells [.int .i64 0,.string emp] true 0 := by rw [← hσ2]; exact AHeap.get_set_same _ _ _
    clear hσ2
    refine specDCEnc hp hf (fun fc he' σ3 k3 => by cases he.det he') fun k' rr' a' he' hk σ3 k3 => ?_
    have hfc := he.det he'
    simp only [Except.error.injEq,Prod.mk.injEq] at hfc
    obtain ⟨rfl,rfl,rfl⟩ := hfc
    have gb3 := (k3.at gb (by simp) (by simp)).1
    simp only [↓sbD,sbU,tyB,↓reduceIte,Nat.reduceEqDiff,Nat.reduceLT,AS_new,zeFra,zeFlt]
    intro c hc e he2
    have hbc : b ≠ c := (nd hc gb3 (by simp)).symm
    have hec : e ≠ c := by rintro rfl; rw [AHeap.get_set_same] at he2; cases he2
    replace he2 : σ3.get e = .dead := by rw [AHeap.get_set_ne _ _ hec.symm] at he2; exact he2
    have hbe : b ≠ e := (nd he2 gb3 (by simp)).symm
    have ec : ∀ (τ : AHeap) o,(AHeap.set τ e o).get c = τ.get c := fun τ o => AHeap.get_set_ne _ _ hec
    have ce : ∀ (τ : AHeap) o,(AHeap.set τ c o).get e = τ.get e := fun τ o => AHeap.get_set_ne _ _ hec.symm
    have cb : ∀ (τ : AHeap) o,(AHeap.set τ c o).get b = τ.get b := fun τ o => AHeap.get_set_ne _ _ hbc.symm
    have eb : ∀ (τ : AHeap) o,(AHeap.set τ e o).get b = τ.get b := fun τ o => AHeap.get_set_ne _ _ hbe.symm
    simp only [↓sbD,sbU,tyB,Bool.or_self,↓reduceIte,Nat.reduceEqDiff,Nat.reduceLT,Nat.reduceAdd,Nat.reduceLeDiff,isConst,splice,ec,ce,cb,eb,gb3,eq_self,fraEq]
    refine specLsameE hn (by omega) ?_
    simp only [↓sbD,sbU,↓reduceIte,Nat.reduceEqDiff,Nat.reduceLT]
    refine specS25 ?_
    simp only [↓sbD,sbU,↓reduceIte,Nat.reduceEqDiff,Nat.reduceLT]
    exact downS_here rfl
 exact (key H (ext_holds hB0)).mono fun r H' ⟨σ',_,h⟩ => h
end Go.Proofs.YtjkhhdknplelcaaGreatDoor.AbsA
