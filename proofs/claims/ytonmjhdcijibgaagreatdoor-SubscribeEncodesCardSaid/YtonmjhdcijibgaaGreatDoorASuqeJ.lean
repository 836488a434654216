/-
  Parts of a law's proof.
-/
import Derived.Test.YtonmjhdcijibgaaGreatDoorAUnqeJ
import Derived.Test.YtonmjhdcijibgaaGreatDoorAAkqhJ
namespace Go.Proofs.YtonmjhdcijibgaaGreatDoor.AbsA
open Go AbsYtonmjhdcijibgaaGreatDoor Abs
set_option maxRecDepth 100000
set_option maxHeartbeats 8000000
set_option linter.unusedSimpArgs false
set_option linter.unusedVariables false
attribute [local irreducible] afterS afterOpS opSK OpsS TrS CodeS condS condW thenS thenQ guardS guardTS outS drawS trSK consS
theorem WRun.live {σ : AHeap} {w : Nat} {r : ByteArray ⊕ (Nat × Nat)} {fp : List Nat} (h : WRun σ w r fp) {b : Nat} (hb : b ∈ fp) : σ.get b ≠ .dead := by
 have key : ∀ a e,IsW σ w a e fp → σ.get b ≠ .dead := by
  rintro a e ⟨v,gp,g1,g2,rfl,g3⟩
  rcases List.mem_cons.1 hb with rfl | hb
  ·rw [g1]; simp
  ·obtain ⟨cs,hc⟩ := g2.live hb; rw [hc]; simp
 cases r with
 | inl b' => exact key _ _ h
 | inr e =>
  obtain ⟨k,q⟩ := e
  obtain ⟨b',d,z,_,_,h⟩ := h
  exact key _ _ h
section
variable {σ : AHeap} {Q : Value → AHeap → Prop}
theorem specSEnc {p : Pk} {v : Value} (hp : PkV p v) (hfz : ∀ cs,v = .agg ⟨cs⟩ → frzL E.ng E.nb cs = true) (hf : fewPk p)
  (hok : ∀ fb,EncS p (.ok fb) → ∀ σ',Kept σ [] σ' [] → Q (.tuple #[.agg ⟨[.int .i64 fb.1,.string fb.2]⟩,.nilIface]) σ')
  (hbad : ∀ k rr a : Nat,EncS p (.error (k,rr,a)) → ∀ σ' d z,Kept σ [] σ' [] → d ≤ 3 → ErN d (fv rr a z) k → Q (.tuple #[.agg ⟨[.int .i64 0,.string emp]⟩,fv rr a z]) σ') :
  CallS E B 42 [v] σ Q := by
 obtain ⟨vp,vw,vs,vf,vc,d1,d2,d3,d4,d5,rfl⟩ := hp
 have hz := hfz _ rfl
 clear hfz
 simp only [pkC] at hz ⊢
 have hlen := DLp.len d1
 have hsm : smallP p.props := ⟨by have := hf.props.1; omega,fun x hx => by have := hf.props.2 x hx; omega⟩
 have eml : (emp).size = 0 := rfl
 unfold EncS at hok hbad
 refine call42 (by simp) ?_
 simp only [strip,bodyOf,Tryz.f42,getD_body,keepN,bareOp_mk,lapp_cons,lapp_nil,List.map_cons,List.map_nil,↓reduceIte,Bool.false_eq_true]
 simp (disch := first | assumption | simp) only [↓sbD,sbU,tyB,↓reduceIte,Nat.reduceEqDiff,Nat.reduceLT,reduceCtorEq,boxS,Edp,dpv,AS_new,zeFra,hz]
 intro b hb
 refine specSFirst ?_
 by_cases h0 : firstS p.kind = 0
 ·simp only [h0,if_true] at hok hbad
  simp (disch := first | assumption | simp) only [↓sbD,sbU,tyB,↓reduceIte,Nat.reduceLT,pairs,isConst,ZV.val,h0,gk7]
  refine specNew (n := 7) ⟨by omega,by omega⟩ ?_
  simp (disch := first | assumption | simp) only [↓sbD,sbU,tyB,↓reduceIte,Nat.reduceEqDiff,Nat.reduceLT,Nat.reduceAdd,Nat.reduceLeDiff,splice,res_cellc,resC_some]
  exact downS_here (hbad 7 128 0 rfl _ 1 _ (((Kept.refl σ []).setD hb).setD hb) (by omega) (ErN.new _ _ ⟨by omega,by omega⟩))
 simp only [h0,if_false] at hok hbad
 simp (disch := first | assumption | simp) only [↓sbD,sbU,tyB,decide_false,↓reduceIte,Nat.reduceEqDiff,Nat.reduceLT,reduceCtorEq,isConst,h0]
 generalize hσ1 : AHeap.set σ b _ = σ1
 have k1 : Kept σ [] σ1 [] := by rw [← hσ1]; exact (Kept.refl σ []).setD hb
 have gb1 : σ1.get b = .cells [.int .i64 0,.string emp] true 0 := by rw [← hσ1]; exact AHeap.get_set_same _ _ _
 clear hσ1
 refine specPEncode d1 hsm (fun c hce hcz => ?_) fun k r a d z hce hd he => ?_
 rotate_left
 ·rw [hce] at hok hbad
  simp only at hok hbad
  simp (disch := first | assumption | simp) only [↓sbD,sbU,tyB,↓reduceIte,Nat.reduceEqDiff,Nat.reduceLT,Nat.reduceAdd,Nat.reduceLeDiff,pairs,isConst,splice,ZV.val,gb1,res_cellc,resC_some]
  exact downS_here (hbad k r a rfl _ d z (k1.setD hb) (by omega) he)
 rw [hce] at hok hbad
 simp only at hok hbad
 have hcz2 := encP_size hf.props hce
 simp (disch := first | assumption | simp) only [↓sbD,sbU,tyB,Bool.false_eq_true,↓reduceIte,Nat.reduceEqDiff,Nat.reduceLT,reduceCtorEq,pairs,isConst,boxS,Edp,ZV.val,AS_new,dpW]
 intro w hw
 have hwb : w ≠ b := nd hw gb1 (by simp)
 generalize hσ2 : AHeap.set σ1 w _ = σ2
 have gw : σ2.get w = .cells [.slice none 0 0,.nilIface] true 0 := by rw [← hσ2]; exact AHeap.get_set_same _ _ _
 have k2 : Kept σ1 [] σ2 [w] := by rw [← hσ2]; exact Kept.new' hw
 have w2 : WRun σ2 w (runW emp []) [w] := ⟨_,[],gw,.inl ⟨rfl,rfl,rfl⟩,rfl,by simp⟩
 have z2 : leW (runW emp []) 0 := fun b hb => by injection hb with hb; subst hb; exact Nat.le_refl _
 clear gw hσ2
 refine specU16R (s := emp) w2 (fun b hb => by have := z2 b hb; omega) fun σ3 fp3 k3 w3 => ?_
 have z3 := leW_step (a := ⟨2,p.id,emp⟩) z2
 simp (disch := first | assumption | simp) only [↓sbD,sbU,↓reduceIte,Nat.reduceEqDiff,Nat.reduceLT]
 refine specRawR (n := 0) w3 (fun b hb => by have := z3 b hb; simp only [eml] at this; omega) (by omega) fun σ4 fp4 k4 w4 => ?_
 have z4 := leW_step (a := ⟨8,0,c⟩) z3
 have hs4 : stepW (stepW (runW emp []) [⟨2,p.id,emp⟩]) [⟨8,0,c⟩] = runW emp [⟨2,p.id,emp⟩,⟨8,0,c⟩] := by rw [stepW_app]; rfl
 rw [hs4] at w4 z4
 simp only [eml] at z4
 have K4 := k2.trans (k3.trans k4)
 generalize hR0 : runW emp [⟨2,p.id,emp⟩,⟨8,0,c⟩] = R0 at w4 z4
 by_cases hkk : p.kind = 8
 ·have hkT := eq_true hkk
  have hlenL := DLsb.len d3
  have hfew := (And.intro hf.subs hf.sub)
  simp (disch := first | assumption | simp) only [↓sbD,sbU,tyB,↓reduceIte,Nat.reduceEqDiff,Nat.reduceLT,reduceCtorEq,isConst,hkT,hlenL]
  refine S_loop (fun m f σ' => ∃ (i : Nat) (fp : List Nat),m + i = p.subs.length ∧ f 47 = .int .i64 i ∧ WRun σ' w (stepW R0 ((p.subs.take i).flatMap subA)) fp ∧ leW (stepW R0 ((p.subs.take i).flatMap subA)) (29000 + 300 * i) ∧ Kept σ4 fp4 σ' fp) p.subs.length (Le.refl _) ⟨0,fp4,by omega,by simp (disch := first | assumption | simp) only [sbU,↓reduceIte]; rfl,by rw [List.take_zero]; simp only [List.flatMap_nil,stepW_nil]; exact w4,by rw [List.take_zero]; simp only [List.flatMap_nil,stepW_nil]; exact fun b hb => by have := z4 b hb; omega,Kept.refl _ _⟩ ?_
  rintro m f σ5 ⟨i,fp5,hm,fi,w5,z5,k5⟩ hf
  have f1 := hf 1 (by decide) (notMem_wr (by kernel_rfl))
  have f2 := hf 2 (by decide) (notMem_wr (by kernel_rfl))
  have f6 := hf 6 (by decide) (notMem_wr (by kernel_rfl))
  have f45 := hf 45 (by decide) (notMem_wr (by kernel_rfl))
  have f46 := hf 46 (by decide) (notMem_wr (by kernel_rfl))
  simp (disch := first | assumption | simp) only [sbU,↓reduceIte,Nat.reduceEqDiff] at f1 f2 f6 f45 f46
  clear hf
  by_cases hi : (i : Int) < (p.subs.length : Int)
  ·have hi' : i < p.subs.length := by omega
   have hia := DLsb.at d3 hi'
   have hsz := hf.sub _ (List.getElem_mem hi')
   have hwi := wrap_suc (n := i) (by omega)
   have htk : p.subs.take (i + 1) = p.subs.take i ++ [p.subs[i]] := List.take_succ_eq_append_getElem hi'
   generalize p.subs[i] = y at hia htk hsz
   have hac : subC y = [.string y.f,.int .i64 y.q,.bool y.nl,.bool y.ai,.int .i64 y.rt] := rfl
   have hst : stepW R0 ((p.subs.take (i + 1)).flatMap subA) = stepW (stepW R0 ((p.subs.take i).flatMap subA)) (subA y) := by
    rw [htk,List.flatMap_append,stepW_app]
    simp only [List.flatMap_cons,List.flatMap_nil,List.append_nil]
   simp (disch := first | assumption | simp) only [↓sbD,sbU,tyB,Bool.or_self,↓reduceIte,Nat.reduceEqDiff,Nat.reduceLT,Nat.reduceLeDiff,isConst,f45,f46,fi,hi,hia,hac]
   simp (disch := first | assumption | simp) only [↓sbD,sbU,tyB,↓reduceIte,Nat.reduceEqDiff,Nat.reduceLT,Nat.reduceAdd,Nat.reduceLeDiff,reduceCtorEq,splice,AS_new,zeSb]
   intro g hg
   generalize hσg : AHeap.set (AHeap.set σ5 g _) g _ = σg
   have kg : Kept σ5 [] σg [] := by rw [← hσg]; exact ((Kept.refl _ []).setD hg).setD hg
   have gg : σg.get g = .cells [.string y.f,.int .i64 y.q,.bool y.nl,.bool y.ai,.int .i64 y.rt] true 0 := by rw [← hσg]; exact AHeap.get_set_same _ _ _
   have wg := w5.kept kg (fun _ _ h => by cases h)
   have hgf : g ∉ fp5 := fun h => w5.live h hg
   clear hσg
   simp (disch := first | assumption | simp) only [f6]
   refine specTextR (n := 0) (s := y.f) wg (fun b hb => by have := z5 b hb; omega) (by omega) fun σ6 fp6 k6 w6 => ?_
   have z6 := leW_step (a := ⟨6,0,y.f⟩) z5
   simp only at z6
   have gg6 := (k6.at gg (by simp) hgf).1
   simp (disch := first | assumption | simp) only [↓sbD,sbU,tyB,↓reduceIte,Nat.reduceEqDiff,Nat.reduceLT,Nat.reduceAdd,Nat.reduceLeDiff,gg6]
   rw [show Value.agg ⟨[.string y.f,.int .i64 y.q,.bool y.nl,.bool y.ai,.int .i64 y.rt]⟩ = .agg ⟨subC y⟩ from rfl]
   refine specSOpt ?_
   simp (disch := first | assumption | simp) only [↓sbD,sbU,↓reduceIte,Nat.reduceEqDiff,Nat.reduceLT,f6]
   refine specU8R (s := emp) w6 (fun b hb => by have := z6 b hb; omega) fun σ7 fp7 k7 w7 => ?_
   have z7 := leW_step (a := ⟨1,optI y,emp⟩) z6
   simp only [eml] at z7
   have hs7 : ∀ R,stepW (stepW R [⟨6,0,y.f⟩]) [⟨1,optI y,emp⟩] = stepW R (subA y) := fun R => by rw [stepW_app]; rfl
   rw [hs7] at w7 z7
   simp (disch := first | assumption | simp) only [↓sbD,sbU,↓reduceIte,Nat.reduceEqDiff,Nat.reduceLT,isConst,fi,hwi]
   exact ⟨_,m - 1,_,rfl,by omega,Le.refl _,i + 1,_,by omega,by simp (disch := first | assumption | simp) only [sbU,↓reduceIte],by rw [hst]; exact w7,by rw [hst]; exact fun b hb => by have := z7 b hb; omega,k5.trans ((kg.wid (gp := fp5) (gp' := fp5) (fun _ h => by cases h) (fun _ h => .inr h)).trans (k6.trans k7))⟩
  ·obtain rfl : i = p.subs.length := by omega
   rw [List.take_length] at w5 z5
   have hR : stepW R0 (p.subs.flatMap subA) = runW emp (actsS p c) := by
    rw [← hR0,show runW emp [⟨2,p.id,emp⟩,⟨8,0,c⟩] = stepW (runW emp []) [⟨2,p.id,emp⟩,⟨8,0,c⟩] from rfl,stepW_app]
    unfold actsS
    rw [if_pos hkk]
    rfl
   rw [hR] at w5 z5
   have K5 := K4.trans k5
   have hl40 : p.subs.length ≤ 40 := hfew.1
   simp (disch := first | assumption | simp) only [↓sbD,sbU,decide_false,Bool.or_self,↓reduceIte,Nat.reduceEqDiff,Nat.reduceLT,isConst,f6,f46,fi,hi]
   refine specBytesR w5 (fun bb hbb => ?_) fun k q d z hr hd he => ?_
   ·have gbn := (K5.at gb1 (by simp) (by simp)).1
    have hle := z5 bb hbb
    simp (disch := first | assumption | simp) only [↓sbD,sbU,tyB,↓reduceIte,Nat.reduceEqDiff,Nat.reduceLT,reduceCtorEq,f1]
    refine specSFirst ?_
    simp (disch := first | assumption | simp) only [↓sbD,sbU,tyB,↓reduceIte,Nat.reduceEqDiff,Nat.reduceLT,Nat.reduceAdd,Nat.reduceLeDiff,pairs,isConst,splice,ZV.val,AS_new,zeFra]
    intro c hc
    have hcb : c ≠ b := nd hc gbn (by simp)
    generalize hσc : AHeap.set _ c _ = σc
    have kc : Kept σ5 [] σc [] := by rw [← hσc]; exact ((Kept.refl _ []).setD hc).setD hc
    have gc : σc.get c = .cells [.int .i64 (firstS p.kind),.string bb] true 0 := by rw [← hσc]; exact AHeap.get_set_same _ _ _
    clear hσc
    refine specSDec (by omega) (fun y hy v2 σd hv2 kd => ?_) fun k rr a hy σd d z kd hd he => ?_
    ·have gbd := ((kc.trans kd).at gbn (by simp) (by simp)).1
     have gcd := (kd.at gc (by simp) (by simp)).1
     simp (disch := first | assumption | simp) only [↓sbD,sbU,tyB,↓reduceIte,Nat.reduceEqDiff,Nat.reduceLT,Nat.reduceAdd,Nat.reduceLeDiff,isConst,splice,f2,gcd,gbd,res_cellc,resC_some]
     exact downS_here (hok (firstS p.kind,bb) (by unfold MadeR; rw [hbb]; exact ⟨_,hy,rfl⟩) _ ((k1.trans ((K5.wid (gp := []) (gp' := []) (fun _ h => by cases h) (fun _ h => by cases h)).trans (kc.trans kd))).setD hb))
    ·have gbd := ((kc.trans kd).at gbn (by simp) (by simp)).1
     simp (disch := first | assumption | simp) only [↓sbD,sbU,tyB,↓reduceIte,Nat.reduceEqDiff,Nat.reduceLT,Nat.reduceAdd,Nat.reduceLeDiff,pairs,isConst,splice,ZV.val,f2,gbd,res_cellc,resC_some]
     exact downS_here (hbad k rr a (by unfold MadeR; rw [hbb]; exact ⟨_,hy,rfl⟩) _ d z ((k1.trans ((K5.wid (gp := []) (gp' := []) (fun _ h => by cases h) (fun _ h => by cases h)).trans (kc.trans kd))).setD hb) hd he)
   ·have gbn := (K5.at gb1 (by simp) (by simp)).1
    simp (disch := first | assumption | simp) only [↓sbD,sbU,tyB,↓reduceIte,Nat.reduceEqDiff,Nat.reduceLT,reduceCtorEq,f1]
    refine specSFirst ?_
    simp (disch := first | assumption | simp) only [↓sbD,sbU,tyB,↓reduceIte,Nat.reduceEqDiff,Nat.reduceLT,Nat.reduceAdd,Nat.reduceLeDiff,pairs,isConst,splice,ZV.val,AS_new,zeFra]
    intro c hc
    have hcb : c ≠ b := nd hc gbn (by simp)
    have bc : ∀ (τ : AHeap) o,(AHeap.set τ c o).get b = τ.get b := fun τ o => AHeap.get_set_ne _ _ hcb
    simp (disch := first | assumption | simp) only [↓sbD,sbU,tyB,↓reduceIte,Nat.reduceEqDiff,Nat.reduceLT,Nat.reduceAdd,Nat.reduceLeDiff,splice,f2,bc,gbn,res_cellc,resC_some]
    exact downS_here (hbad k 129 q (by unfold MadeR; rw [hr]) _ d z ((k1.trans ((K5.wid (gp := []) (gp' := []) (fun _ h => by cases h) (fun _ h => by cases h)).trans (((Kept.refl _ []).setD hc).setD hc))).setD hb) (by omega) he)
 ·have hkT := eq_false hkk
  have hlenL := DLi.len d5
  have hfew := (And.intro hf.codes trivial : p.codes.length ≤ 40 ∧ True)
  simp (disch := first | assumption | simp) only [↓sbD,sbU,tyB,decide_false,↓reduceIte,Nat.reduceEqDiff,Nat.reduceLT,reduceCtorEq,isConst,hkT,hlenL]
  refine S_loop (fun m f σ' => ∃ (i : Nat) (fp : List Nat),m + i = p.codes.length ∧ f 63 = .int .i64 i ∧ WRun σ' w (stepW R0 ((p.codes.take i).flatMap codA)) fp ∧ leW (stepW R0 ((p.codes.take i).flatMap codA)) (29000 + 300 * i) ∧ Kept σ4 fp4 σ' fp) p.codes.length (Le.refl _) ⟨0,fp4,by omega,by simp (disch := first | assumption | simp) only [sbU,↓reduceIte]; rfl,by rw [List.take_zero]; simp only [List.flatMap_nil,stepW_nil]; exact w4,by rw [List.take_zero]; simp only [List.flatMap_nil,stepW_nil]; exact fun b hb => by have := z4 b hb; omega,Kept.refl _ _⟩ ?_
  rintro m f σ5 ⟨i,fp5,hm,fi,w5,z5,k5⟩ hf
  have f1 := hf 1 (by decide) (notMem_wr (by kernel_rfl))
  have f2 := hf 2 (by decide) (notMem_wr (by kernel_rfl))
  have f6 := hf 6 (by decide) (notMem_wr (by kernel_rfl))
  have f61 := hf 61 (by decide) (notMem_wr (by kernel_rfl))
  have f62 := hf 62 (by decide) (notMem_wr (by kernel_rfl))
  simp (disch := first | assumption | simp) only [sbU,↓reduceIte,Nat.reduceEqDiff] at f1 f2 f6 f61 f62
  clear hf
  by_cases hi : (i : Int) < (p.codes.length : Int)
  ·have hi' : i < p.codes.length := by omega
   have hia := DLi.at d5 hi'
   skip
   have hwi := wrap_suc (n := i) (by omega)
   have htk : p.codes.take (i + 1) = p.codes.take i ++ [p.codes[i]] := List.take_succ_eq_append_getElem hi'
   generalize p.codes[i] = y at hia htk
   have hac : intC y = [.int .i64 y] := rfl
   have hst : stepW R0 ((p.codes.take (i + 1)).flatMap codA) = stepW (stepW R0 ((p.codes.take i).flatMap codA)) (codA y) := by
    rw [htk,List.flatMap_append,stepW_app]
    simp only [List.flatMap_cons,List.flatMap_nil,List.append_nil]
   simp (disch := first | assumption | simp) only [↓sbD,sbU,tyB,Bool.or_self,↓reduceIte,Nat.reduceEqDiff,Nat.reduceLT,isConst,f6,f61,f62,fi,hi,hia,hac]
   refine specU8R (s := emp) w5 (fun b hb => by have := z5 b hb; omega) fun σ6 fp6 k6 w6 => ?_
   have z6 := leW_step (a := ⟨1,y,emp⟩) z5
   simp only [eml] at z6
   simp (disch := first | assumption | simp) only [↓sbD,sbU,↓reduceIte,Nat.reduceEqDiff,Nat.reduceLT,isConst,fi,hwi]
   exact ⟨_,m - 1,_,rfl,by omega,Le.refl _,i + 1,_,by omega,by simp (disch := first | assumption | simp) only [sbU,↓reduceIte],by rw [hst]; exact w6,by rw [hst]; exact fun b hb => by have := z6 b hb; omega,k5.trans k6⟩
  ·obtain rfl : i = p.codes.length := by omega
   rw [List.take_length] at w5 z5
   have hR : stepW R0 (p.codes.flatMap codA) = runW emp (actsS p c) := by
    rw [← hR0,show runW emp [⟨2,p.id,emp⟩,⟨8,0,c⟩] = stepW (runW emp []) [⟨2,p.id,emp⟩,⟨8,0,c⟩] from rfl,stepW_app]
    unfold actsS
    rw [if_neg hkk]
    rfl
   rw [hR] at w5 z5
   have K5 := K4.trans k5
   have hl40 : p.codes.length ≤ 40 := hfew.1
   simp (disch := first | assumption | simp) only [↓sbD,sbU,decide_false,Bool.or_self,↓reduceIte,Nat.reduceEqDiff,Nat.reduceLT,isConst,f6,f62,fi,hi]
   refine specBytesR w5 (fun bb hbb => ?_) fun k q d z hr hd he => ?_
   ·have gbn := (K5.at gb1 (by simp) (by simp)).1
    have hle := z5 bb hbb
    simp (disch := first | assumption | simp) only [↓sbD,sbU,tyB,↓reduceIte,Nat.reduceEqDiff,Nat.reduceLT,reduceCtorEq,f1]
    refine specSFirst ?_
    simp (disch := first | assumption | simp) only [↓sbD,sbU,tyB,↓reduceIte,Nat.reduceEqDiff,Nat.reduceLT,Nat.reduceAdd,Nat.reduceLeDiff,pairs,isConst,splice,ZV.val,AS_new,zeFra]
    intro c hc
    have hcb : c ≠ b := nd hc gbn (by simp)
    generalize hσc : AHeap.set _ c _ = σc
    have kc : Kept σ5 [] σc [] := by rw [← hσc]; exact ((Kept.refl _ []).setD hc).setD hc
    have gc : σc.get c = .cells [.int .i64 (firstS p.kind),.string bb] true 0 := by rw [← hσc]; exact AHeap.get_set_same _ _ _
    clear hσc
    refine specSDec (by omega) (fun y hy v2 σd hv2 kd => ?_) fun k rr a hy σd d z kd hd he => ?_
    ·have gbd := ((kc.trans kd).at gbn (by simp) (by simp)).1
     have gcd := (kd.at gc (by simp) (by simp)).1
     simp (disch := first | assumption | simp) only [↓sbD,sbU,tyB,↓reduceIte,Nat.reduceEqDiff,Nat.reduceLT,Nat.reduceAdd,Nat.reduceLeDiff,isConst,splice,f2,gcd,gbd,res_cellc,resC_some]
     exact downS_here (hok (firstS p.kind,bb) (by unfold MadeR; rw [hbb]; exact ⟨_,hy,rfl⟩) _ ((k1.trans ((K5.wid (gp := []) (gp' := []) (fun _ h => by cases h) (fun _ h => by cases h)).trans (kc.trans kd))).setD hb))
    ·have gbd := ((kc.trans kd).at gbn (by simp) (by simp)).1
     simp (disch := first | assumption | simp) only [↓sbD,sbU,tyB,↓reduceIte,Nat.reduceEqDiff,Nat.reduceLT,Nat.reduceAdd,Nat.reduceLeDiff,pairs,isConst,splice,ZV.val,f2,gbd,res_cellc,resC_some]
     exact downS_here (hbad k rr a (by unfold MadeR; rw [hbb]; exact ⟨_,hy,rfl⟩) _ d z ((k1.trans ((K5.wid (gp := []) (gp' := []) (fun _ h => by cases h) (fun _ h => by cases h)).trans (kc.trans kd))).setD hb) hd he)
   ·have gbn := (K5.at gb1 (by simp) (by simp)).1
    simp (disch := first | assumption | simp) only [↓sbD,sbU,tyB,↓reduceIte,Nat.reduceEqDiff,Nat.reduceLT,reduceCtorEq,f1]
    refine specSFirst ?_
    simp (disch := first | assumption | simp) only [↓sbD,sbU,tyB,↓reduceIte,Nat.reduceEqDiff,Nat.reduceLT,Nat.reduceAdd,Nat.reduceLeDiff,pairs,isConst,splice,ZV.val,AS_new,zeFra]
    intro c hc
    have hcb : c ≠ b := nd hc gbn (by simp)
    have bc : ∀ (τ : AHeap) o,(AHeap.set τ c o).get b = τ.get b := fun τ o => AHeap.get_set_ne _ _ hcb
    simp (disch := first | assumption | simp) only [↓sbD,sbU,tyB,↓reduceIte,Nat.reduceEqDiff,Nat.reduceLT,Nat.reduceAdd,Nat.reduceLeDiff,splice,f2,bc,gbn,res_cellc,resC_some]
    exact downS_here (hbad k 129 q (by unfold MadeR; rw [hr]) _ d z ((k1.trans ((K5.wid (gp := []) (gp' := []) (fun _ h => by cases h) (fun _ h => by cases h)).trans (((Kept.refl _ []).setD hc).setD hc))).setD hb) (by omega) he)
end
section
variable {σ : AHeap} {Q : Value → AHeap → Prop} {r q p : Nat} {s : ByteArray}
theorem quoM {n m : Nat} (h : n ≤ 1000000) (hm : 0 < m) : aint .quo .i64 (n : Int) (m : Int) = some (.int .i64 ((n / m : Nat) : Int)) := by
 show (if (m : Int) = 0 then none else some (Value.int .i64 (IntKind.i64.wrap ((n : Int).tdiv (m : Int))))) = _
 have hd : n / m ≤ n := Nat.div_le_self _ _
 have e : (n : Int).tdiv (m : Int) = ((n / m : Nat) : Int) := by rw [Int.tdiv_eq_ediv_of_nonneg (by omega)]; rfl
 rw [if_neg (by omega),e]
 generalize n / m = k at hd ⊢
 rw [wrap64 ⟨by omega,by omega⟩]
theorem remM {n m : Nat} (h : n ≤ 1000000) (hm : 0 < m) : aint .rem .i64 (n : Int) (m : Int) = some (.int .i64 ((n % m : Nat) : Int)) := by
 show (if (m : Int) = 0 then none else some (Value.int .i64 ((n : Int).tmod (m : Int)))) = _
 have hd : n % m ≤ n := Nat.mod_le _ _
 rw [if_neg (by omega),Int.tmod_eq_emod_of_nonneg (by omega),show (n : Int) % (m : Int) = ((n % m : Nat) : Int) from rfl]
theorem specDSubs  (hr : IsY σ r s p 0 0) (hp : p ≤ s.size) (hs : s.size ≤ 100000000)
  (hok : ∀ l,Parts s.size (subO s) p [] (.ok l) → ∀ v σ',DL subC 5 v l → Kept σ [r] σ' [r] → Q (.tuple #[v,flt 0 0 0]) σ')
  (hbad : ∀ k rr a : Nat,Parts s.size (subO s) p [] (.error (k,rr,a)) → k ≠ 0 → ∀ σ',Kept σ [r] σ' [r] → Q (.tuple #[.slice none 0 0,flt k rr a]) σ') :
  CallS E B 145 [.pointer (some ⟨r,0,none⟩)] σ Q := by
 refine call145 (by simp) ?_
 simp only [strip,bodyOf,Tryz.f145,getD_body,keepN,bareOp_mk,lapp_cons,lapp_nil,List.map_cons,List.map_nil,↓reduceIte,Bool.false_eq_true]
 simp only [↓sbD,sbU,AS_new,zeFlt]
 intro c hc
 have hcr : c ≠ r := nd hc hr (by simp)
 generalize hσ1 : AHeap.set σ c _ = σ1
 have k1 : Kept σ [r] σ1 [r] := by rw [← hσ1]; exact (Kept.refl σ [r]).setD hc
 have gc1 : σ1.get c = .cells [.int .i64 0,.int .i64 0,.int .i64 0] true 0 := by rw [← hσ1]; exact AHeap.get_set_same _ _ _
 have i1 : IsY σ1 r s p 0 0 := by rw [← hσ1]; unfold IsY; rw [AHeap.get_set_ne _ _ hcr]; exact hr
 clear hσ1
 refine S_loop (fun m f σ' => ∃ (p' : Nat) (l : List Sb) (v : Value) (fp : List Nat),m + l.length = 32 ∧ p' ≤ s.size ∧ f 4 = v ∧ DG subC 5 σ' v l fp ∧ IsY σ' r s p' 0 0 ∧ Kept σ1 [r] σ' (r :: fp) ∧ ∀ R,Parts s.size (subO s) p' l R → Parts s.size (subO s) p [] R) 32 (Le.refl _) ⟨p,[],_,[],rfl,hp,rfl,by simp only [sbU,↓reduceIte]; exact DG.nil,i1,Kept.refl _ _,fun R h => h⟩ ?_
 rintro m f σ2 ⟨p',l,v,fp,hm,hp',fl,hg,i2,k2,hback⟩ hf
 have f0 := hf 0 (by decide) (notMem_wr (by kernel_rfl))
 have f3 := hf 3 (by decide) (notMem_wr (by kernel_rfl))
 simp only [sbU,↓reduceIte,Nat.reduceEqDiff,reduceCtorEq] at f0 f3
 clear hf
 have hlen := DLsb.len hg.dl
 have gc2 := (k2.at gc1 (by simp) (by simpa using hcr)).1
 have hrf := hg.nin i2
 have hcf := hg.nin gc2
 have K2 : Kept σ [r] σ2 [r] := k1.trans (k2.wid (fun _ h => h) (fun b h => by simp only [List.mem_cons,List.not_mem_nil,or_false] at h; exact .inr (by simp [h])))
 have i2' := i2
 unfold IsY at i2'
 by_cases hlt : p' < s.size
 ·have h0 : (p' : Int) < (s.size : Int) := by omega
  by_cases h32 : l.length = 32
  ·have h32' : (l.length : Int) = 32 := by omega
   simp only [↓sbD,sbU,tyB,Bool.or_self,↓reduceIte,Nat.reduceEqDiff,Nat.reduceLT,Nat.reduceAdd,Nat.reduceLeDiff,reduceCtorEq,goInt,pairs,isConst,splice,ZV.val,f0,f3,fl,i2',h0,hlen,h32',gc2,res_cellc,resC_some]
   exact downS_here (hbad 4 149 p' (hback _ (.many hlt h32)) (by omega) _ (K2.setD hc))
  ·have h32' : ¬ (l.length : Int) = 32 := by omega
   simp only [↓sbD,sbU,tyB,decide_false,Bool.or_self,↓reduceIte,Nat.reduceEqDiff,Nat.reduceLT,reduceCtorEq,goInt,isConst,f0,fl,i2',h0,hlen,h32']
   refine specYText i2 hp' (by omega) (fun t q ht σ3 k3 i3 => ?_) fun k q ht σ3 k3 i3 => ?_
   rotate_left
   ·have hk := textR_k ht
    have hk0 : ¬ (k : Int) = 0 := by omega
    have i3' := i3
    unfold IsY at i3'
    have gc3 := (k3.at gc2 (by simp) (by simpa using hcr)).1
    simp only [↓sbD,sbU,tyB,↓reduceIte,Nat.reduceLT,reduceCtorEq,f0,i3']
    refine specYU8E i3 hk0 ?_
    simp only [↓sbD,sbU,tyB,↓reduceIte,Nat.reduceLT,reduceCtorEq,isConst,f0,i3',hk0]
    refine specKOfE hk i3 hp' ?_
    simp only [↓sbD,sbU,tyB,↓reduceIte,Nat.reduceEqDiff,Nat.reduceLT,Nat.reduceAdd,Nat.reduceLeDiff,splice,f3,gc3,res_cellc,resC_some]
    exact downS_here (hbad k 129 q (hback _ (.bad hlt h32 (by unfold subO; rw [ht]))) hk _ ((K2.trans k3).setD hc))
   have hq := textR_ok ht
   have i3' := i3
   unfold IsY at i3'
   have gc3 := (k3.at gc2 (by simp) (by simpa using hcr)).1
   have hg3 := hg.kept k3 (fun b hb hm => hrf (by obtain rfl := List.mem_singleton.1 hm; exact hb))
   simp only [↓sbD,sbU,tyB,↓reduceIte,Nat.reduceLT,reduceCtorEq,f0,i3']
   refine specYU8 i3 hq.2 (by omega) (fun n q2 hn σ4 k4 i4 => ?_) fun k q2 hn σ4 k4 i4 => ?_
   rotate_left
   ·have hk := numR_k hn
    have hk0 : ¬ (k : Int) = 0 := by omega
    have i4' := i4
    unfold IsY at i4'
    have gc4 := (k4.at gc3 (by simp) (by simpa using hcr)).1
    simp only [↓sbD,sbU,tyB,↓reduceIte,Nat.reduceLT,reduceCtorEq,isConst,f0,i4',hk0]
    refine specKOfE hk i4 hq.2 ?_
    simp only [↓sbD,sbU,tyB,↓reduceIte,Nat.reduceEqDiff,Nat.reduceLT,Nat.reduceAdd,Nat.reduceLeDiff,splice,f3,gc4,res_cellc,resC_some]
    exact downS_here (hbad k 129 q2 (hback _ (.bad hlt h32 (by unfold subO; rw [ht]; simp only [hn]))) hk _ (((K2.trans k3).trans k4).setD hc))
   have hnz := numR_lt hn
   have hq2 := numR_ok hn
   have i4' := i4
   unfold IsY at i4'
   have gc4 := (k4.at gc3 (by simp) (by simpa using hcr)).1
   have hg4 := hg3.kept k4 (fun b hb hm => hrf (by obtain rfl := List.mem_singleton.1 hm; exact hb))
   have K4 := (K2.trans k3).trans k4
   by_cases h63 : 63 < n
   ·have h63' : (63 : Int) < (n : Int) := by omega
    simp only [↓sbD,sbU,tyB,decide_false,↓reduceIte,Nat.reduceEqDiff,Nat.reduceLT,reduceCtorEq,isConst,f0,i4',h63']
    refine specKBad (n := q) ?_
    simp only [↓sbD,sbU,tyB,↓reduceIte,Nat.reduceEqDiff,Nat.reduceLT,Nat.reduceAdd,Nat.reduceLeDiff,splice,f3,gc4,res_cellc,resC_some]
    exact downS_here (hbad 2 129 q (hback _ (.bad hlt h32 (by unfold subO; rw [ht]; simp only [hn,h63,if_true]))) (by omega) _ (K4.setD hc))
   have h63' : ¬ (63 : Int) < (n : Int) := by omega
   have r4 : aint .rem .i64 (n : Int) 4 = _ := remM (n := n) (m := 4) (by omega) (by omega)
   have q16 : aint .quo .i64 (n : Int) 16 = _ := quoM (n := n) (m := 16) (by omega) (by omega)
   by_cases hm3 : n % 4 = 3
   ·have hm' : ((n % 4 : Nat) : Int) = 3 := by omega
    rw [hm'] at r4
    simp only [↓sbD,sbU,tyB,decide_false,↓reduceIte,Nat.reduceEqDiff,Nat.reduceLT,reduceCtorEq,isConst,f0,i4',h63',r4]
    refine specKAgainst (n := q) ?_
    simp only [↓sbD,sbU,tyB,↓reduceIte,Nat.reduceEqDiff,Nat.reduceLT,Nat.reduceAdd,Nat.reduceLeDiff,splice,f3,gc4,res_cellc,resC_some]
    exact downS_here (hbad 3 130 q (hback _ (.bad hlt h32 (by unfold subO; rw [ht]; simp only [hn,h63,hm3,true_or,if_true,if_false]))) (by omega) _ (K4.setD hc))
   have hm' : ¬ ((n % 4 : Nat) : Int) = 3 := by omega
   by_cases hd3 : n / 16 = 3
   ·have hd' : ((n / 16 : Nat) : Int) = 3 := by omega
    rw [hd'] at q16
    simp only [↓sbD,sbU,tyB,decide_false,↓reduceIte,Nat.reduceEqDiff,Nat.reduceLT,reduceCtorEq,isConst,f0,i4',h63',r4,hm',q16]
    refine specKAgainst (n := q) ?_
    simp only [↓sbD,sbU,tyB,↓reduceIte,Nat.reduceEqDiff,Nat.reduceLT,Nat.reduceAdd,Nat.reduceLeDiff,splice,f3,gc4,res_cellc,resC_some]
    exact downS_here (hbad 3 130 q (hback _ (.bad hlt h32 (by unfold subO; rw [ht]; simp only [hn,h63,hd3,or_true,if_true,if_false]))) (by omega) _ (K4.setD hc))
   have hd' : ¬ ((n / 16 : Nat) : Int) = 3 := by omega
   have hso : subO s p' = .ok (subN t n,q2) := by unfold subO; rw [ht]; simp only [hn,h63,hm3,hd3,or_self,if_false]
   have q4 : aint .quo .i64 (n : Int) 4 = _ := quoM (n := n) (m := 4) (by omega) (by omega)
   have q8 : aint .quo .i64 (n : Int) 8 = _ := quoM (n := n) (m := 8) (by omega) (by omega)
   have r42 : aint .rem .i64 ((n / 4 : Nat) : Int) 2 = _ := remM (n := n / 4) (m := 2) (by omega) (by omega)
   have r82 : aint .rem .i64 ((n / 8 : Nat) : Int) 2 = _ := remM (n := n / 8) (m := 2) (by omega) (by omega)
   have e4 : (((n / 4 % 2 : Nat) : Int) = 1) = (n / 4 % 2 = 1) := propext ⟨fun h => by omega,fun h => by omega⟩
   have e8 : (((n / 8 % 2 : Nat) : Int) = 1) = (n / 8 % 2 = 1) := propext ⟨fun h => by omega,fun h => by omega⟩
   have hsub : ∀ B4 B8 : Bool,(n / 4 % 2 = 1 ↔ B4 = true) → (n / 8 % 2 = 1 ↔ B8 = true) → subN t n = ⟨t,((n % 4 : Nat) : Int),B4,B8,((n / 16 : Nat) : Int)⟩ := fun B4 B8 h1 h2 => by
    unfold subN
    congr 1
    ·cases B4 <;> simp_all
    ·cases B8 <;> simp_all
   rcases Classical.em (n / 4 % 2 = 1) with h4 | h4 <;> rcases Classical.em (n / 8 % 2 = 1) with h8 | h8
   all_goals
    rw [show (n / 4 % 2 = 1) = _ from by first | exact eq_true h4 | exact eq_false h4] at e4
    rw [show (n / 8 % 2 = 1) = _ from by first | exact eq_true h8 | exact eq_false h8] at e8
    have hsb := hsub _ _ (by first | exact iff_of_true h4 rfl | exact iff_of_false h4 Bool.false_ne_true) (by first | exact iff_of_true h8 rfl | exact iff_of_false h8 Bool.false_ne_true)
    simp only [↓sbD,sbU,tyB,Nat.reduceBneDiff,decide_false,gt_iff_lt,Bool.or_self,Bool.false_eq_true,Nat.one_mul,Nat.zero_mul,↓reduceIte,Nat.reduceEqDiff,Nat.reduceLT,Nat.reduceAdd,Nat.reduceLeDiff,reduceCtorEq,pairs,isConst,splice,Edp,dpv,ZV.val,f0,fl,i4',h63',r4,hm',q16,hd',q4,q8,r42,r82,e4,e8]
    refine app_sb (xs := [subN t n]) hg4 (by rw [hsb]; exact .inr ⟨1,rfl⟩) (by simp only [List.length_cons,List.length_nil]; omega) fun σ5 v5 fp5 k5 g5 => ?_
    have i5 := (k5.at i4 (by simp) hrf).1
    simp only [↓sbD,sbU,↓reduceIte,Nat.reduceLT]
    refine ⟨_,m - 1,σ5,rfl,by omega,Le.refl _,q2,l ++ [subN t n],v5,fp5,by rw [List.length_append]; simp only [List.length_cons,List.length_nil]; omega,by omega,rfl,g5,i5,?_,fun R h => hback R (.step hlt h32 hso h)⟩
    exact (k2.trans ((k3.trans k4).wid (gp := r :: fp) (gp' := r :: fp) (fun b hb => by simp at hb; simp [hb]) (fun b hb => .inr hb))).trans (k5.wid (gp := r :: fp) (gp' := r :: fp5) (fun b hb => by simp [hb]) (fun b hb => by simp only [List.mem_cons] at hb ⊢; rcases hb with hb | hb <;> simp [hb]))
 ·have h0 : ¬ (p' : Int) < (s.size : Int) := by omega
  by_cases hn : l = []
  ·subst hn
   simp only [↓sbD,sbU,tyB,decide_false,Bool.or_self,↓reduceIte,Nat.reduceEqDiff,Nat.reduceLT,reduceCtorEq,goInt,isConst,f0,fl,i2',h0,hlen,show ((0 : Nat) : Int) = 0 from rfl]
   refine specKAgainst (n := p') ?_
   simp only [↓sbD,sbU,tyB,↓reduceIte,Nat.reduceEqDiff,Nat.reduceLT,Nat.reduceAdd,Nat.reduceLeDiff,splice,f3,gc2,res_cellc,resC_some]
   exact downS_here (hbad 3 130 p' (hback _ (.none (by omega))) (by omega) _ (K2.setD hc))
  ·have hn' : ¬ (l.length : Int) = 0 := fun h => hn (List.length_eq_zero_iff.1 (by omega))
   simp only [↓sbD,sbU,tyB,decide_false,Bool.or_self,↓reduceIte,Nat.reduceEqDiff,Nat.reduceLT,Nat.reduceAdd,Nat.reduceLeDiff,reduceCtorEq,goInt,pairs,isConst,splice,ZV.val,f0,f3,fl,i2',h0,hlen,hn',gc2,res_cellc,resC_some]
   exact downS_here (hok l (hback _ (.done (by omega) hn)) v _ hg.dl (K2.setD hc))
end
section
variable {σ : AHeap} {Q : Value → AHeap → Prop} {r q p : Nat} {s : ByteArray}
theorem specDSDec {f : Int} (hs : s.size ≤ 100000000)
  (hok : ∀ p,DecS f s (.ok p) → ∀ v σ',PkV p v → Kept σ [] σ' [] → Q (.tuple #[v,flt 0 0 0]) σ')
  (hbad : ∀ k rr a : Nat,DecS f s (.error (k,rr,a)) → k ≠ 0 → ∀ σ',Kept σ [] σ' [] → Q (.tuple #[.agg ⟨zeL⟩,flt k rr a]) σ') :
  CallS E B 98 [.agg ⟨[.int .i64 f,.string s]⟩] σ Q := by
 unfold DecS at hok hbad
 refine call98 (by simp) ?_
 simp only [strip,bodyOf,Tryz.f98,getD_body,keepN,bareOp_mk,lessOp_mk,lapp_cons,lapp_nil,List.map_cons,List.map_nil,↓reduceIte,Nat.reduceEqDiff,Bool.false_eq_true]
 have ALT : (f = 130 ∧ f ≠ 144 ∧ f / 16 = 8 ∧ f / 16 ≠ 9) ∨ (f ≠ 130 ∧ f = 144 ∧ f / 16 ≠ 8 ∧ f / 16 = 9) ∨ (f ≠ 130 ∧ f ≠ 144) := by omega
 rcases ALT with ⟨n1,n2,n3,n4⟩ | ⟨n1,n2,n3,n4⟩ | ⟨n1,n2⟩
 rotate_left; rotate_left
 ·simp only [if_pos (And.intro n1 n2)] at hok hbad
  simp only [↓sbD,sbU,tyB,↓reduceIte,Nat.reduceEqDiff,Nat.reduceLT,reduceCtorEq,pairs,isConst,boxS,Edp,dpv,ZV.val,AS_new,zePk,zeFlt,n1,n2]
  intro b hb c hc
  have hcb : c ≠ b := by rintro rfl; rw [AHeap.get_set_same] at hc; cases hc
  have hcd : σ.get c = .dead := by rw [AHeap.get_set_ne _ _ hcb.symm] at hc; exact hc
  have cb : ∀ (τ : AHeap) o,(AHeap.set τ c o).get b = τ.get b := fun τ o => AHeap.get_set_ne _ _ hcb
  have bc : ∀ (τ : AHeap) o,(AHeap.set τ b o).get c = τ.get c := fun τ o => AHeap.get_set_ne _ _ hcb.symm
  refine specKBad (n := 0) ?_
  simp only [↓sbD,sbU,tyB,↓reduceIte,Nat.reduceEqDiff,Nat.reduceLT,Nat.reduceAdd,Nat.reduceLeDiff,splice,bc,cb,res_cellc,resC_some]
  exact downS_here (hbad 2 129 0 rfl (by omega) _ (((((Kept.refl σ []).setD hb).setD hcd).setD hb).setD hcd))
 all_goals
  have hf : ¬ (f ≠ 130 ∧ f ≠ 144) := by omega
  have quo : ∀ (σ : AHeap) (t : Nat) (cs : Bool),abin E σ .quo t cs (.int .i64 f) (.int .i64 16) = some (.int .i64 (f / 16)) := fun σ t cs => quo16 (by omega) (by omega)
  simp only [if_neg hf] at hok hbad
  first | (have e1 := eq_false n1) | (have e1 := eq_true n1)
  first | (have e2 := eq_false n2) | (have e2 := eq_true n2)
  simp only [↓sbD,sbU,tyB,decide_false,↓reduceIte,Nat.reduceEqDiff,Nat.reduceLT,Nat.reduceAdd,Nat.reduceLeDiff,reduceCtorEq,pairs,isConst,splice,boxS,Edp,dpv,ZV.val,AS_new,zePk,zeFlt,e1,e2]
  intro b hb c hc
  have hcb : c ≠ b := by rintro rfl; rw [AHeap.get_set_same] at hc; cases hc
  have hcd : σ.get c = .dead := by rw [AHeap.get_set_ne _ _ hcb.symm] at hc; exact hc
  have cb : ∀ (τ : AHeap) o,(AHeap.set τ c o).get b = τ.get b := fun τ o => AHeap.get_set_ne _ _ hcb
  have bc : ∀ (τ : AHeap) o,(AHeap.set τ b o).get c = τ.get c := fun τ o => AHeap.get_set_ne _ _ hcb.symm
  clear hc
  generalize hσ1 : AHeap.set (AHeap.set σ b _) c _ = σ1
  have k1 : Kept σ [] σ1 [] := by rw [← hσ1]; exact ((Kept.refl σ []).setD hb).setD hcd
  have gb1 : σ1.get b = .cells zeL true 0 := by rw [← hσ1,cb]; exact AHeap.get_set_same _ _ _
  have gc1 : σ1.get c = .cells [.int .i64 0,.int .i64 0,.int .i64 0] true 0 := by rw [← hσ1]; exact AHeap.get_set_same _ _ _
  simp only [zeL,pkC,pkz] at gb1
  clear hσ1
  have FIN : ∀ {τ : AHeap} {o o' : AObj},Kept σ1 [] τ [] → Kept σ [] ((τ.set b o).set c o') [] := fun kt => ((k1.trans kt).setD hb).setD hcd
  simp only [↓sbD,sbU,tyB,Bool.false_eq_true,↓reduceIte,Nat.reduceEqDiff,Nat.reduceLT,Nat.reduceAdd,Nat.reduceLeDiff,reduceCtorEq,pairs,isConst,splice,ZV.val,AS_new,dpRd,quo]
  intro x hx
  have hbx : b ≠ x := (nd hx gb1 (by simp)).symm
  have hcx : c ≠ x := (nd hx gc1 (by simp)).symm
  generalize hσ2 : AHeap.set σ1 x _ = σ2
  have k2 : Kept σ1 [] σ2 [x] := by rw [← hσ2]; exact Kept.new' hx
  have i2 : IsY σ2 x s 0 0 0 := by rw [← hσ2]; exact AHeap.get_set_same _ _ _
  have gb2 := (k2.at gb1 (by simp) (by simp)).1
  have gc2 := (k2.at gc1 (by simp) (by simp)).1
  clear hσ2
  try simp only [↓sbD,sbU,tyB,↓reduceIte,Nat.reduceEqDiff,Nat.reduceLT,Nat.reduceAdd,Nat.reduceLeDiff,splice,AS_new,zePk]
  intro y hy
  have hby : b ≠ y := (nd hy gb2 (by simp)).symm
  have hcy : c ≠ y := (nd hy gc2 (by simp)).symm
  have hxy : x ≠ y := (nd hy i2 (by simp)).symm
  have yb : ∀ (τ : AHeap) o,(AHeap.set τ y o).get b = τ.get b := fun τ o => AHeap.get_set_ne _ _ hby.symm
  have yc : ∀ (τ : AHeap) o,(AHeap.set τ y o).get c = τ.get c := fun τ o => AHeap.get_set_ne _ _ hcy.symm
  generalize hσ3 : AHeap.set (AHeap.set σ2 y _) y _ = σ3
  have M3 : Kept σ2 [x] σ3 [x] := by rw [← hσ3]; exact ((Kept.refl _ _).setD hy).setD hy
  have i3 : IsY σ3 x s 0 0 0 := i2.kept (by rw [← hσ3]; exact ((Kept.refl _ []).setD hy).setD hy) (by simp)
  have gy3 : σ3.get y = .cells (sbsC (f / 16) 0 (.slice none 0 0) (.slice none 0 0) (.slice none 0 0)) true 0 := by rw [← hσ3]; exact AHeap.get_set_same _ _ _
  simp only [sbsC] at gy3
  clear hσ3
  refine specDId i3 hs (fun id q hid h0 σ4 k4 i4 => ?_) (fun q hid σ4 k4 => ?_) fun k q hid hk σ4 k4 => ?_
  rotate_left
  ·have M4 := M3.trans k4
   have gy4 := (k4.at gy3 (by simp) (by simp; exact hxy.symm)).1
   have K4 := k2.trans M4
   have gb4 := (K4.at gb1 (by simp) (by simp)).1
   have gc4 := (K4.at gc1 (by simp) (by simp)).1
   simp only [↓sbD,sbU,tyB,Int.reduceEq,↓reduceIte,Nat.reduceEqDiff,Nat.reduceLT,Nat.reduceAdd,Nat.reduceLeDiff,reduceCtorEq,pairs,isConst,splice,ZV.val,AS_new,zeFlt]
   intro d hd
   have hdb : b ≠ d := (nd hd gb4 (by simp)).symm
   have hdc : c ≠ d := (nd hd gc4 (by simp)).symm
   have db : ∀ (τ : AHeap) o,(AHeap.set τ d o).get b = τ.get b := fun τ o => AHeap.get_set_ne _ _ hdb.symm
   have dc : ∀ (τ : AHeap) o,(AHeap.set τ d o).get c = τ.get c := fun τ o => AHeap.get_set_ne _ _ hdc.symm
   have bd : ∀ (τ : AHeap) o,(AHeap.set τ b o).get d = τ.get d := fun τ o => AHeap.get_set_ne _ _ hdb
   have hdy : y ≠ d := (nd hd gy4 (by simp)).symm
   have dy : ∀ (τ : AHeap) o,(AHeap.set τ d o).get y = τ.get y := fun τ o => AHeap.get_set_ne _ _ hdy.symm
   have yd : ∀ (τ : AHeap) o,(AHeap.set τ y o).get d = τ.get d := fun τ o => AHeap.get_set_ne _ _ hdy
   simp only [↓sbD,sbU,tyB,↓reduceIte,Nat.reduceEqDiff,Nat.reduceLT,Nat.reduceAdd,Nat.reduceLeDiff,splice,db,dc,gb4,gc4,bc]
   refine drawS_l (fl := [(1,2)]) (by kernel_rfl) ?_ ?_
   rotate_left; simp only [lastP_cc,lastP_one]; rotate_left
   ·simp only [List.all_cons,List.all_nil,floatS,List.getElem?_cons_succ,List.getElem?_cons_zero,List.getElem?_toArray,Region.wanted,Bool.not_true,Bool.not_false,Bool.or_true,reads,looksWeak,aev_tmp,upd_at,↓reduceIte,Nat.reduceEqDiff,Nat.reduceLT,Nat.reduceAdd,blkOf,oeq_refl,dead_cells,Bool.and_self,Bool.false_eq_true,Bool.not_false,AHeap.get_set_same,bd]
    try rfl
   simp only [↓sbD,sbU,tyB,↓reduceIte,Nat.reduceEqDiff,Nat.reduceLT,Nat.reduceAdd,Nat.reduceLeDiff,cb,res_cellc,resC_some]
   exact downS_here (hbad 3 130 0 ⟨.error (3,130,0),by unfold HeadP; rw [hid]; simp only [if_true],rfl⟩ (by omega) _ (FIN ((K4.trans (((Kept.refl _ [x]).setD hd).setD hd)).wid (fun _ h => by cases h) (fun _ h => by cases h))))
  ·have hk0 : ¬ (k : Int) = 0 := by omega
   have M4 := M3.trans k4
   have gy4 := (k4.at gy3 (by simp) (by simp; exact hxy.symm)).1
   have K4 := k2.trans M4
   have gb4 := (K4.at gb1 (by simp) (by simp)).1
   have gc4 := (K4.at gc1 (by simp) (by simp)).1
   simp only [↓sbD,sbU,tyB,↓reduceIte,Nat.reduceEqDiff,Nat.reduceLT,Nat.reduceAdd,Nat.reduceLeDiff,reduceCtorEq,isConst,splice,AS_new,zeFlt]
   intro d hd
   have hdb : b ≠ d := (nd hd gb4 (by simp)).symm
   have hdc : c ≠ d := (nd hd gc4 (by simp)).symm
   have db : ∀ (τ : AHeap) o,(AHeap.set τ d o).get b = τ.get b := fun τ o => AHeap.get_set_ne _ _ hdb.symm
   have dc : ∀ (τ : AHeap) o,(AHeap.set τ d o).get c = τ.get c := fun τ o => AHeap.get_set_ne _ _ hdc.symm
   have bd : ∀ (τ : AHeap) o,(AHeap.set τ b o).get d = τ.get d := fun τ o => AHeap.get_set_ne _ _ hdb
   have hdy : y ≠ d := (nd hd gy4 (by simp)).symm
   have dy : ∀ (τ : AHeap) o,(AHeap.set τ d o).get y = τ.get y := fun τ o => AHeap.get_set_ne _ _ hdy.symm
   have yd : ∀ (τ : AHeap) o,(AHeap.set τ y o).get d = τ.get d := fun τ o => AHeap.get_set_ne _ _ hdy
   simp only [↓sbD,sbU,tyB,↓reduceIte,Nat.reduceEqDiff,Nat.reduceLT,Nat.reduceAdd,Nat.reduceLeDiff,pairs,splice,ZV.val,db,dc,bc,gb4,gc4,hk0]
   refine drawS_l (fl := [(1,2)]) (by kernel_rfl) ?_ ?_
   rotate_left; simp only [lastP_cc,lastP_one]; rotate_left
   ·simp only [List.all_cons,List.all_nil,floatS,List.getElem?_cons_succ,List.getElem?_cons_zero,List.getElem?_toArray,Region.wanted,Bool.not_true,Bool.not_false,Bool.or_true,reads,looksWeak,aev_tmp,upd_at,↓reduceIte,Nat.reduceEqDiff,Nat.reduceLT,Nat.reduceAdd,blkOf,oeq_refl,dead_cells,Bool.and_self,Bool.false_eq_true,Bool.not_false,AHeap.get_set_same,bd]
    try rfl
   simp only [↓sbD,sbU,tyB,↓reduceIte,Nat.reduceEqDiff,Nat.reduceLT,Nat.reduceAdd,Nat.reduceLeDiff,cb,res_cellc,resC_some]
   exact downS_here (hbad k 129 q ⟨_,by unfold HeadP; rw [hid],rfl⟩ hk _ (FIN ((K4.trans (((Kept.refl _ [x]).setD hd).setD hd)).wid (fun _ h => by cases h) (fun _ h => by cases h))))
  have hq := numR_ok hid
  have M4 := M3.trans k4
  have gy4 := (k4.at gy3 (by simp) (by simp; exact hxy.symm)).1
  have K4 := k2.trans M4
  have gb4 := (K4.at gb1 (by simp) (by simp)).1
  have gc4 := (K4.at gc1 (by simp) (by simp)).1
  simp only [↓sbD,sbU,tyB,decide_false,↓reduceIte,Nat.reduceEqDiff,Nat.reduceLT,Nat.reduceAdd,Nat.reduceLeDiff,reduceCtorEq,isConst,splice,AS_new,zeFlt]
  intro d hd
  have hdb : b ≠ d := (nd hd gb4 (by simp)).symm
  have hdc : c ≠ d := (nd hd gc4 (by simp)).symm
  have db : ∀ (τ : AHeap) o,(AHeap.set τ d o).get b = τ.get b := fun τ o => AHeap.get_set_ne _ _ hdb.symm
  have dc : ∀ (τ : AHeap) o,(AHeap.set τ d o).get c = τ.get c := fun τ o => AHeap.get_set_ne _ _ hdc.symm
  have bd : ∀ (τ : AHeap) o,(AHeap.set τ b o).get d = τ.get d := fun τ o => AHeap.get_set_ne _ _ hdb
  have hdy : y ≠ d := (nd hd gy4 (by simp)).symm
  have dy : ∀ (τ : AHeap) o,(AHeap.set τ d o).get y = τ.get y := fun τ o => AHeap.get_set_ne _ _ hdy.symm
  have yd : ∀ (τ : AHeap) o,(AHeap.set τ y o).get d = τ.get d := fun τ o => AHeap.get_set_ne _ _ hdy
  have hdx : d ≠ x := nd hd i4 (by simp)
  generalize hσ5 : AHeap.set (AHeap.set σ4 d _) d _ = σ5
  have k5 : Kept σ4 [] σ5 [] := by rw [← hσ5]; exact ((Kept.refl _ []).setD hd).setD hd
  have gd5 : σ5.get d = .cells [.int .i64 0,.int .i64 0,.int .i64 0] true 0 := by rw [← hσ5]; exact AHeap.get_set_same _ _ _
  have gy5 := (k5.at gy4 (by simp) (by simp)).1
  have i5 := i4.kept k5 (by simp)
  have M5 := M4.trans (k5.wid (gp := [x]) (gp' := [x]) (fun _ h => by cases h) (fun _ h => .inr h))
  clear hσ5
  simp only [↓sbD,sbU,tyB,↓reduceIte,Nat.reduceEqDiff,Nat.reduceLT,Nat.reduceAdd,Nat.reduceLeDiff,reduceCtorEq,splice,gy5]
  generalize hσ6 : AHeap.set σ5 y _ = σ6
  have M6 : Kept σ2 [x] σ6 [x] := by rw [← hσ6]; exact M5.setD hy
  have gy6 : σ6.get y = .cells (sbsC (f / 16) id (.slice none 0 0) (.slice none 0 0) (.slice none 0 0)) true 0 := by rw [← hσ6]; exact AHeap.get_set_same _ _ _
  have i6 : IsY σ6 x s q 0 0 := by rw [← hσ6]; unfold IsY; rw [AHeap.get_set_ne _ _ hxy.symm]; exact i5
  clear hσ6
  simp only [sbsC] at gy6
  have K6 := k2.trans M6
  have gb6 := (K6.at gb1 (by simp) (by simp)).1
  have gc6 := (K6.at gc1 (by simp) (by simp)).1
  try simp only [↓sbD,sbU,tyB,Nat.reduceMul,Nat.reduceSub,Int.reduceEq,Int.reduceLT,Int.reduceLE,Int.reduceNe,Nat.reduceBneDiff,Nat.reduceBEq,decide_false,gt_iff_lt,Bool.or_self,Bool.false_eq_true,Nat.mul_one,Nat.one_mul,Nat.zero_mul,↓reduceIte,Nat.reduceEqDiff,Nat.reduceLT,Nat.reduceAdd,Nat.reduceLeDiff,reduceCtorEq,goInt,pairs,isConst,TI.isAgg,splice,boxS,Edp,dpv,Nat.beq_eq,ZV.val,List.any_cons,List.any_nil,gy6]
  refine specYRead i6 hq.2 hs (fun l q2 hrd v σ7 hv k7 i7 hq7 => ?_) fun k rr a hrd σ7 k7 => ?_
  rotate_left
  ·have hk := ReadP_k hrd
   have hk0 : ¬ (k : Int) = 0 := by omega
   have M7 := M6.trans k7
   have gy7 := (k7.at gy6 (by simp) (by simp; exact hxy.symm)).1
   have K7 := k2.trans M7
   have gb7 := (K7.at gb1 (by simp) (by simp)).1
   have gc7 := (K7.at gc1 (by simp) (by simp)).1
   simp only [↓sbD,sbU,tyB,↓reduceIte,Nat.reduceEqDiff,Nat.reduceLT,Nat.reduceAdd,Nat.reduceLeDiff,reduceCtorEq,isConst,splice,AS_new,zeFlt]
   intro e he
   have heb : b ≠ e := (nd he gb7 (by simp)).symm
   have hec : c ≠ e := (nd he gc7 (by simp)).symm
   have eb : ∀ (τ : AHeap) o,(AHeap.set τ e o).get b = τ.get b := fun τ o => AHeap.get_set_ne _ _ heb.symm
   have ec : ∀ (τ : AHeap) o,(AHeap.set τ e o).get c = τ.get c := fun τ o => AHeap.get_set_ne _ _ hec.symm
   have be : ∀ (τ : AHeap) o,(AHeap.set τ b o).get e = τ.get e := fun τ o => AHeap.get_set_ne _ _ heb
   have hey : y ≠ e := (nd he gy7 (by simp)).symm
   have ey : ∀ (τ : AHeap) o,(AHeap.set τ e o).get y = τ.get y := fun τ o => AHeap.get_set_ne _ _ hey.symm
   have ye : ∀ (τ : AHeap) o,(AHeap.set τ y o).get e = τ.get e := fun τ o => AHeap.get_set_ne _ _ hey
   simp only [↓sbD,sbU,tyB,↓reduceIte,Nat.reduceEqDiff,Nat.reduceLT,Nat.reduceAdd,Nat.reduceLeDiff,pairs,splice,ZV.val,eb,ec,bc,gb7,gc7,hk0]
   refine drawS_l (fl := [(1,2)]) (by kernel_rfl) ?_ ?_
   rotate_left; simp only [lastP_cc,lastP_one]; rotate_left
   ·simp only [List.all_cons,List.all_nil,floatS,List.getElem?_cons_succ,List.getElem?_cons_zero,List.getElem?_toArray,Region.wanted,Bool.not_true,Bool.not_false,Bool.or_true,reads,looksWeak,aev_tmp,upd_at,↓reduceIte,Nat.reduceEqDiff,Nat.reduceLT,Nat.reduceAdd,blkOf,oeq_refl,dead_cells,Bool.and_self,Bool.false_eq_true,Bool.not_false,AHeap.get_set_same,be]
    try rfl
   simp only [↓sbD,sbU,tyB,↓reduceIte,Nat.reduceEqDiff,Nat.reduceLT,Nat.reduceAdd,Nat.reduceLeDiff,cb,res_cellc,resC_some]
   exact downS_here (hbad k rr a ⟨_,by unfold HeadP; rw [hid]; simp only [h0,if_false]; exact ⟨_,hrd,rfl⟩,rfl⟩ hk _ (FIN ((K7.trans (((Kept.refl _ [x]).setD he).setD he)).wid (fun _ h => by cases h) (fun _ h => by cases h))))
  have hhead : HeadP (f / 16) s (.ok (id,l,q2)) := by unfold HeadP; rw [hid]; simp only [h0,if_false]; exact ⟨_,hrd,rfl⟩
  have hvc := dl_vc hv
  have M7 := M6.trans k7
  have gy7 := (k7.at gy6 (by simp) (by simp; exact hxy.symm)).1
  have K7 := k2.trans M7
  have gb7 := (K7.at gb1 (by simp) (by simp)).1
  have gc7 := (K7.at gc1 (by simp) (by simp)).1
  simp only [↓sbD,sbU,tyB,decide_false,↓reduceIte,Nat.reduceEqDiff,Nat.reduceLT,Nat.reduceAdd,Nat.reduceLeDiff,reduceCtorEq,isConst,splice,AS_new,zeFlt]
  intro e he
  have heb : b ≠ e := (nd he gb7 (by simp)).symm
  have hec : c ≠ e := (nd he gc7 (by simp)).symm
  have eb : ∀ (τ : AHeap) o,(AHeap.set τ e o).get b = τ.get b := fun τ o => AHeap.get_set_ne _ _ heb.symm
  have ec : ∀ (τ : AHeap) o,(AHeap.set τ e o).get c = τ.get c := fun τ o => AHeap.get_set_ne _ _ hec.symm
  have be : ∀ (τ : AHeap) o,(AHeap.set τ b o).get e = τ.get e := fun τ o => AHeap.get_set_ne _ _ heb
  have hey : y ≠ e := (nd he gy7 (by simp)).symm
  have ey : ∀ (τ : AHeap) o,(AHeap.set τ e o).get y = τ.get y := fun τ o => AHeap.get_set_ne _ _ hey.symm
  have ye : ∀ (τ : AHeap) o,(AHeap.set τ y o).get e = τ.get e := fun τ o => AHeap.get_set_ne _ _ hey
  have hex : e ≠ x := nd he i7 (by simp)
  generalize hσ8 : AHeap.set (AHeap.set σ7 e _) e _ = σ8
  have k8 : Kept σ7 [] σ8 [] := by rw [← hσ8]; exact ((Kept.refl _ []).setD he).setD he
  have ge8 : σ8.get e = .cells [.int .i64 0,.int .i64 0,.int .i64 0] true 0 := by rw [← hσ8]; exact AHeap.get_set_same _ _ _
  have gy8 := (k8.at gy7 (by simp) (by simp)).1
  have i8 := i7.kept k8 (by simp)
  have M8 := M7.trans (k8.wid (gp := [x]) (gp' := [x]) (fun _ h => by cases h) (fun _ h => .inr h))
  clear hσ8
  simp only [↓sbD,sbU,tyB,↓reduceIte,Nat.reduceEqDiff,Nat.reduceLT,Nat.reduceAdd,Nat.reduceLeDiff,reduceCtorEq,isConst,splice,hvc.1,hvc.2,gy8]
  generalize hσ9 : AHeap.set σ8 y _ = σ9
  have M9 : Kept σ2 [x] σ9 [x] := by rw [← hσ9]; exact M8.setD hy
  have gy9 : σ9.get y = .cells (sbsC (f / 16) id v (.slice none 0 0) (.slice none 0 0)) true 0 := by rw [← hσ9]; exact AHeap.get_set_same _ _ _
  have i9 : IsY σ9 x s q2 0 0 := by rw [← hσ9]; unfold IsY; rw [AHeap.get_set_ne _ _ hxy.symm]; exact i8
  clear hσ9
  simp only [sbsC] at gy9
  have K9 := k2.trans M9
  have gb9 := (K9.at gb1 (by simp) (by simp)).1
  have gc9 := (K9.at gc1 (by simp) (by simp)).1
  first | (have e3 := eq_false n4) | (have e3 := eq_true n4)
  simp only [↓sbD,sbU,decide_false,↓reduceIte,Nat.reduceEqDiff,Nat.reduceLT,e3]
 ·refine specDSubs i9 hq7 hs (fun fl hP u σ10 hu k10 => ?_) fun k rr a hP hk σ10 k10 => ?_
  ·have huc := dl_vc hu
   have M10 := M9.trans k10
   have gy10 := (k10.at gy9 (by simp) (by simp; exact hxy.symm)).1
   have K10 := k2.trans M10
   have gb10 := (K10.at gb1 (by simp) (by simp)).1
   have gc10 := (K10.at gc1 (by simp) (by simp)).1
   simp only [↓sbD,sbU,tyB,↓reduceIte,Nat.reduceEqDiff,Nat.reduceLT,Nat.reduceAdd,Nat.reduceLeDiff,reduceCtorEq,splice,AS_new,zeFlt]
   intro g hg
   have hgb : b ≠ g := (nd hg gb10 (by simp)).symm
   have hgc : c ≠ g := (nd hg gc10 (by simp)).symm
   have gb : ∀ (τ : AHeap) o,(AHeap.set τ g o).get b = τ.get b := fun τ o => AHeap.get_set_ne _ _ hgb.symm
   have gc : ∀ (τ : AHeap) o,(AHeap.set τ g o).get c = τ.get c := fun τ o => AHeap.get_set_ne _ _ hgc.symm
   have bg : ∀ (τ : AHeap) o,(AHeap.set τ b o).get g = τ.get g := fun τ o => AHeap.get_set_ne _ _ hgb
   have hgy : y ≠ g := (nd hg gy10 (by simp)).symm
   have gy : ∀ (τ : AHeap) o,(AHeap.set τ g o).get y = τ.get y := fun τ o => AHeap.get_set_ne _ _ hgy.symm
   have yg : ∀ (τ : AHeap) o,(AHeap.set τ y o).get g = τ.get g := fun τ o => AHeap.get_set_ne _ _ hgy
   simp only [↓sbD,sbU,tyB,decide_false,↓reduceIte,Nat.reduceEqDiff,Nat.reduceLT,Nat.reduceAdd,Nat.reduceLeDiff,reduceCtorEq,pairs,isConst,splice,ZV.val,hvc.2,huc.1,huc.2,gb,gc,gy,yg,yb,yc,bc,cb,gb10,gc10,gy10,res_cellc,resC_some]
   exact downS_here (hok _ ⟨_,hhead,by simp only [e2,if_false]; exact ⟨_,hP,rfl⟩⟩ _ _ (by rw [n3]; exact sbsC_pk hv hu (.inl ⟨rfl,rfl⟩)) (FIN ((k2.trans ((M10.trans (((Kept.refl _ [x]).setD hg).setD hg)).setD hy)).wid (fun _ h => by cases h) (fun _ h => by cases h))))
  ·have hk0 : ¬ (k : Int) = 0 := by omega
   have M10 := M9.trans k10
   have gy10 := (k10.at gy9 (by simp) (by simp; exact hxy.symm)).1
   have K10 := k2.trans M10
   have gb10 := (K10.at gb1 (by simp) (by simp)).1
   have gc10 := (K10.at gc1 (by simp) (by simp)).1
   simp only [↓sbD,sbU,tyB,↓reduceIte,Nat.reduceEqDiff,Nat.reduceLT,Nat.reduceAdd,Nat.reduceLeDiff,reduceCtorEq,splice,AS_new,zeFlt]
   intro g hg
   have hgb : b ≠ g := (nd hg gb10 (by simp)).symm
   have hgc : c ≠ g := (nd hg gc10 (by simp)).symm
   have gb : ∀ (τ : AHeap) o,(AHeap.set τ g o).get b = τ.get b := fun τ o => AHeap.get_set_ne _ _ hgb.symm
   have gc : ∀ (τ : AHeap) o,(AHeap.set τ g o).get c = τ.get c := fun τ o => AHeap.get_set_ne _ _ hgc.symm
   have bg : ∀ (τ : AHeap) o,(AHeap.set τ b o).get g = τ.get g := fun τ o => AHeap.get_set_ne _ _ hgb
   have hgy : y ≠ g := (nd hg gy10 (by simp)).symm
   have gy : ∀ (τ : AHeap) o,(AHeap.set τ g o).get y = τ.get y := fun τ o => AHeap.get_set_ne _ _ hgy.symm
   have yg : ∀ (τ : AHeap) o,(AHeap.set τ y o).get g = τ.get g := fun τ o => AHeap.get_set_ne _ _ hgy
   simp only [↓sbD,sbU,tyB,↓reduceIte,Nat.reduceEqDiff,Nat.reduceLT,Nat.reduceAdd,Nat.reduceLeDiff,reduceCtorEq,pairs,isConst,splice,ZV.val,gb,gc,gy,yg,yb,yc,bc,gb10,gc10,gy10,hk0]
   refine drawS_l (fl := [(1,2)]) (by kernel_rfl) ?_ ?_
   rotate_left; simp only [lastP_cc,lastP_one]; rotate_left
   ·simp only [List.all_cons,List.all_nil,floatS,List.getElem?_cons_succ,List.getElem?_cons_zero,List.getElem?_toArray,Region.wanted,Bool.not_true,Bool.not_false,Bool.or_true,reads,looksWeak,aev_tmp,upd_at,↓reduceIte,Nat.reduceEqDiff,Nat.reduceLT,Nat.reduceAdd,blkOf,oeq_refl,dead_cells,Bool.and_self,Bool.false_eq_true,Bool.not_false,AHeap.get_set_same,bg,yg]
    try rfl
   simp only [↓sbD,sbU,tyB,↓reduceIte,Nat.reduceEqDiff,Nat.reduceLT,Nat.reduceAdd,Nat.reduceLeDiff,cb,res_cellc,resC_some]
   exact downS_here (hbad k rr a ⟨_,hhead,by simp only [e2,if_false]; exact ⟨_,hP,rfl⟩⟩ hk _ (FIN ((k2.trans ((M10.trans (((Kept.refl _ [x]).setD hg).setD hg)).setD hy)).wid (fun _ h => by cases h) (fun _ h => by cases h))))
 ·refine specDCodes i9 hq7 hs (fun fl hP u σ10 hu k10 => ?_) fun k rr a hP hk σ10 k10 => ?_
  ·have huc := dl_vc hu
   have M10 := M9.trans k10
   have gy10 := (k10.at gy9 (by simp) (by simp; exact hxy.symm)).1
   have K10 := k2.trans M10
   have gb10 := (K10.at gb1 (by simp) (by simp)).1
   have gc10 := (K10.at gc1 (by simp) (by simp)).1
   simp only [↓sbD,sbU,tyB,↓reduceIte,Nat.reduceEqDiff,Nat.reduceLT,Nat.reduceAdd,Nat.reduceLeDiff,reduceCtorEq,splice,AS_new,zeFlt]
   intro g hg
   have hgb : b ≠ g := (nd hg gb10 (by simp)).symm
   have hgc : c ≠ g := (nd hg gc10 (by simp)).symm
   have gb : ∀ (τ : AHeap) o,(AHeap.set τ g o).get b = τ.get b := fun τ o => AHeap.get_set_ne _ _ hgb.symm
   have gc : ∀ (τ : AHeap) o,(AHeap.set τ g o).get c = τ.get c := fun τ o => AHeap.get_set_ne _ _ hgc.symm
   have bg : ∀ (τ : AHeap) o,(AHeap.set τ b o).get g = τ.get g := fun τ o => AHeap.get_set_ne _ _ hgb
   have hgy : y ≠ g := (nd hg gy10 (by simp)).symm
   have gy : ∀ (τ : AHeap) o,(AHeap.set τ g o).get y = τ.get y := fun τ o => AHeap.get_set_ne _ _ hgy.symm
   have yg : ∀ (τ : AHeap) o,(AHeap.set τ y o).get g = τ.get g := fun τ o => AHeap.get_set_ne _ _ hgy
   simp only [↓sbD,sbU,tyB,decide_false,↓reduceIte,Nat.reduceEqDiff,Nat.reduceLT,Nat.reduceAdd,Nat.reduceLeDiff,reduceCtorEq,pairs,isConst,splice,ZV.val,hvc.2,huc.1,huc.2,gb,gc,gy,yg,yb,yc,bc,cb,gb10,gc10,gy10,res_cellc,resC_some]
   exact downS_here (hok _ ⟨_,hhead,by simp only [e2,if_true]; exact ⟨_,hP,rfl⟩⟩ _ _ (by rw [n4]; exact sbsC_pk hv (.inl ⟨rfl,rfl⟩) hu) (FIN ((k2.trans ((M10.trans (((Kept.refl _ [x]).setD hg).setD hg)).setD hy)).wid (fun _ h => by cases h) (fun _ h => by cases h))))
  ·have hk0 : ¬ (k : Int) = 0 := by omega
   have M10 := M9.trans k10
   have gy10 := (k10.at gy9 (by simp) (by simp; exact hxy.symm)).1
   have K10 := k2.trans M10
   have gb10 := (K10.at gb1 (by simp) (by simp)).1
   have gc10 := (K10.at gc1 (by simp) (by simp)).1
   simp only [↓sbD,sbU,tyB,↓reduceIte,Nat.reduceEqDiff,Nat.reduceLT,Nat.reduceAdd,Nat.reduceLeDiff,reduceCtorEq,splice,AS_new,zeFlt]
   intro g hg
   have hgb : b ≠ g := (nd hg gb10 (by simp)).symm
   have hgc : c ≠ g := (nd hg gc10 (by simp)).symm
   have gb : ∀ (τ : AHeap) o,(AHeap.set τ g o).get b = τ.get b := fun τ o => AHeap.get_set_ne _ _ hgb.symm
   have gc : ∀ (τ : AHeap) o,(AHeap.set τ g o).get c = τ.get c := fun τ o => AHeap.get_set_ne _ _ hgc.symm
   have bg : ∀ (τ : AHeap) o,(AHeap.set τ b o).get g = τ.get g := fun τ o => AHeap.get_set_ne _ _ hgb
   have hgy : y ≠ g := (nd hg gy10 (by simp)).symm
   have gy : ∀ (τ : AHeap) o,(AHeap.set τ g o).get y = τ.get y := fun τ o => AHeap.get_set_ne _ _ hgy.symm
   have yg : ∀ (τ : AHeap) o,(AHeap.set τ y o).get g = τ.get g := fun τ o => AHeap.get_set_ne _ _ hgy
   simp only [↓sbD,sbU,tyB,↓reduceIte,Nat.reduceEqDiff,Nat.reduceLT,Nat.reduceAdd,Nat.reduceLeDiff,reduceCtorEq,pairs,isConst,splice,ZV.val,gb,gc,gy,yg,yb,yc,bc,gb10,gc10,gy10,hk0]
   refine drawS_l (fl := [(1,2)]) (by kernel_rfl) ?_ ?_
   rotate_left; simp only [lastP_cc,lastP_one]; rotate_left
   ·simp only [List.all_cons,List.all_nil,floatS,List.getElem?_cons_succ,List.getElem?_cons_zero,List.getElem?_toArray,Region.wanted,Bool.not_true,Bool.not_false,Bool.or_true,reads,looksWeak,aev_tmp,upd_at,↓reduceIte,Nat.reduceEqDiff,Nat.reduceLT,Nat.reduceAdd,blkOf,oeq_refl,dead_cells,Bool.and_self,Bool.false_eq_true,Bool.not_false,AHeap.get_set_same,bg,yg]
    try rfl
   simp only [↓sbD,sbU,tyB,↓reduceIte,Nat.reduceEqDiff,Nat.reduceLT,Nat.reduceAdd,Nat.reduceLeDiff,cb,res_cellc,resC_some]
   exact downS_here (hbad k rr a ⟨_,hhead,by simp only [e2,if_true]; exact ⟨_,hP,rfl⟩⟩ hk _ (FIN ((k2.trans ((M10.trans (((Kept.refl _ [x]).setD hg).setD hg)).setD hy)).wid (fun _ h => by cases h) (fun _ h => by cases h))))
end
section
variable {σ : AHeap} {Q : Value → AHeap → Prop}
theorem specDSEnc {p : Pk} {v : Value} (hp : PkV p v) (hfz : ∀ cs,v = .agg ⟨cs⟩ → frzL E.ng E.nb cs = true) (hf : fewPk p)
  (hok : ∀ fb,EncS p (.ok fb) → ∀ σ',Kept σ [] σ' [] → Q (.tuple #[.agg ⟨[.int .i64 fb.1,.string fb.2]⟩,flt 0 0 0]) σ')
  (hbad : ∀ k rr a : Nat,EncS p (.error (k,rr,a)) → k ≠ 0 → ∀ σ',Kept σ [] σ' [] → Q (.tuple #[.agg ⟨[.int .i64 0,.string emp]⟩,flt k rr a]) σ') :
  CallS E B 47 [v] σ Q := by
 obtain ⟨vp,vw,vs,vf,vc,d1,d2,d3,d4,d5,rfl⟩ := hp
 have hz := hfz _ rfl
 clear hfz
 simp only [pkC] at hz ⊢
 have hlen := DLp.len d1
 have hsm : smallP p.props := ⟨by have := hf.props.1; omega,fun x hx => by have := hf.props.2 x hx; omega⟩
 have eml : (emp).size = 0 := rfl
 unfold EncS at hok hbad
 refine call47 (by simp) ?_
 simp only [strip,bodyOf,Tryz.f47,getD_body,keepN,bareOp_mk,lessOp_mk,lapp_cons,lapp_nil,List.map_cons,List.map_nil,↓reduceIte,Nat.reduceEqDiff,Bool.false_eq_true]
 simp (disch := first | assumption | simp) only [↓sbD,sbU,tyB,↓reduceIte,Nat.reduceEqDiff,Nat.reduceLT,reduceCtorEq,isConst,boxS,Edp,dpv,AS_new,zeFra,zeFlt,hz]
 intro b hb c hc
 have hcb : c ≠ b := by rintro rfl; rw [AHeap.get_set_same] at hc; cases hc
 have hcd : σ.get c = .dead := by rw [AHeap.get_set_ne _ _ hcb.symm] at hc; exact hc
 have cb : ∀ (τ : AHeap) o,(AHeap.set τ c o).get b = τ.get b := fun τ o => AHeap.get_set_ne _ _ hcb
 have bc : ∀ (τ : AHeap) o,(AHeap.set τ b o).get c = τ.get c := fun τ o => AHeap.get_set_ne _ _ hcb.symm
 clear hc
 have ALT : ∀ {P : Prop},(p.kind = 8 → P) → (p.kind = 9 → P) → (p.kind ≠ 8 → p.kind ≠ 9 → P) → P := fun a b c => by
  by_cases h1 : p.kind = 8
  ·exact a h1
  ·by_cases h2 : p.kind = 9
   ·exact b h2
   ·exact c h1 h2
 refine ALT (fun hkk => ?_) (fun hkk => ?_) fun n1 n2 => ?_
 rotate_left; rotate_left
 ·have h0 : firstS p.kind = 0 := by unfold firstS; rw [if_neg n1,if_neg n2]
  simp only [h0,if_true] at hok hbad
  simp (disch := first | assumption | simp) only [↓sbD,sbU,tyB,decide_false,↓reduceIte,Nat.reduceEqDiff,Nat.reduceLT,Nat.reduceAdd,Nat.reduceLeDiff,pairs,isConst,splice,ZV.val,n1,n2,bc,cb,res_cellc,resC_some]
  exact downS_here (hbad 7 128 0 rfl (by omega) _ (((((Kept.refl σ []).setD hb).setD hcd).setD hb).setD hcd))
 ·have hkT := eq_true hkk
  have hkF : (p.kind = 9) = False := eq_false (by omega)
  have hfk : firstS p.kind = 130 := by unfold firstS; rw [if_pos hkk]
  have hn0 : ¬ (130 : Int) = 0 := by decide
  simp only [hfk,if_neg hn0] at hok hbad
  simp (disch := first | assumption | simp) only [↓sbD,sbU,tyB,↓reduceIte,Nat.reduceEqDiff,Nat.reduceLT,reduceCtorEq,hkT]
  generalize hσ1 : AHeap.set (AHeap.set σ b _) c _ = σ1
  have k1 : Kept σ [] σ1 [] := by rw [← hσ1]; exact ((Kept.refl σ []).setD hb).setD hcd
  have gb1 : σ1.get b = .cells [.int .i64 0,.string emp] true 0 := by rw [← hσ1,cb]; exact AHeap.get_set_same _ _ _
  have gc1 : σ1.get c = .cells [.int .i64 0,.int .i64 0,.int .i64 0] true 0 := by rw [← hσ1]; exact AHeap.get_set_same _ _ _
  clear hσ1
  have FIN : ∀ {τ : AHeap} {o o' : AObj},Kept σ1 [] τ [] → Kept σ [] ((τ.set b o).set c o') [] := fun kt => ((k1.trans kt).setD hb).setD hcd
  refine specREncode d1 hsm (fun cc hce => ?_) fun k r a hce => ?_
  rotate_left
  ·rw [hce] at hok hbad
   simp only at hok hbad
   have hk := encP_k hce
   have hk0 : ¬ (k : Int) = 0 := by omega
   simp (disch := first | assumption | simp) only [↓sbD,sbU,tyB,↓reduceIte,Nat.reduceEqDiff,Nat.reduceLT,Nat.reduceAdd,Nat.reduceLeDiff,reduceCtorEq,isConst,splice,AS_new,zeFlt]
   intro g hg
   have hgb : b ≠ g := (nd hg gb1 (by simp)).symm
   have hgc : c ≠ g := (nd hg gc1 (by simp)).symm
   have gb : ∀ (τ : AHeap) o,(AHeap.set τ g o).get b = τ.get b := fun τ o => AHeap.get_set_ne _ _ hgb.symm
   have gc : ∀ (τ : AHeap) o,(AHeap.set τ g o).get c = τ.get c := fun τ o => AHeap.get_set_ne _ _ hgc.symm
   have bg : ∀ (τ : AHeap) o,(AHeap.set τ b o).get g = τ.get g := fun τ o => AHeap.get_set_ne _ _ hgb
   simp (disch := first | assumption | simp) only [↓sbD,sbU,tyB,↓reduceIte,Nat.reduceEqDiff,Nat.reduceLT,Nat.reduceAdd,Nat.reduceLeDiff,pairs,splice,ZV.val,gb,gc,bc,gb1,gc1,hk0]
   refine drawS_l (fl := [(1,2)]) (by kernel_rfl) ?_ ?_
   rotate_left; simp only [lastP_cc,lastP_one]; rotate_left
   ·simp only [List.all_cons,List.all_nil,floatS,List.getElem?_cons_succ,List.getElem?_cons_zero,List.getElem?_toArray,Region.wanted,Bool.not_true,Bool.not_false,Bool.or_true,reads,looksWeak,aev_tmp,upd_at,↓reduceIte,Nat.reduceEqDiff,Nat.reduceLT,Nat.reduceAdd,blkOf,oeq_refl,dead_cells,Bool.and_self,Bool.false_eq_true,Bool.not_false,bg,AHeap.get_set_same]
    try rfl
   simp (disch := first | assumption | simp) only [↓sbD,sbU,tyB,↓reduceIte,Nat.reduceEqDiff,Nat.reduceLT,Nat.reduceAdd,Nat.reduceLeDiff,cb,res_cellc,resC_some]
   exact downS_here (hbad k r a rfl hk _ (FIN (((Kept.refl _ []).setD hg).setD hg)))
  rw [hce] at hok hbad
  simp only at hok hbad
  have hcz := encP_size hf.props hce
  simp (disch := first | assumption | simp) only [↓sbD,sbU,tyB,decide_false,↓reduceIte,Nat.reduceEqDiff,Nat.reduceLT,Nat.reduceAdd,Nat.reduceLeDiff,reduceCtorEq,pairs,isConst,splice,boxS,Edp,ZV.val,AS_new,zeFlt]
  intro g hg
  have hgb : b ≠ g := (nd hg gb1 (by simp)).symm
  have hgc : c ≠ g := (nd hg gc1 (by simp)).symm
  have gb : ∀ (τ : AHeap) o,(AHeap.set τ g o).get b = τ.get b := fun τ o => AHeap.get_set_ne _ _ hgb.symm
  have gc : ∀ (τ : AHeap) o,(AHeap.set τ g o).get c = τ.get c := fun τ o => AHeap.get_set_ne _ _ hgc.symm
  have bg : ∀ (τ : AHeap) o,(AHeap.set τ b o).get g = τ.get g := fun τ o => AHeap.get_set_ne _ _ hgb
  generalize hσa : AHeap.set (AHeap.set σ1 g _) g _ = σa
  have ka : Kept σ1 [] σa [] := by rw [← hσa]; exact ((Kept.refl _ []).setD hg).setD hg
  have gga : σa.get g = .cells [.int .i64 0,.int .i64 0,.int .i64 0] true 0 := by rw [← hσa]; exact AHeap.get_set_same _ _ _
  clear hσa
  simp (disch := first | assumption | simp) only [↓sbD,sbU,tyB,Bool.false_eq_true,↓reduceIte,Nat.reduceEqDiff,Nat.reduceLT,Nat.reduceAdd,Nat.reduceLeDiff,reduceCtorEq,pairs,splice,ZV.val,AS_new,dpX]
  intro x hx
  generalize hσ2 : AHeap.set σa x _ = σ2
  have x2 : XRun σ2 x (runW emp []) := by rw [← hσ2]; exact AHeap.get_set_same _ _ _
  have k2 : Kept σ1 [] σ2 [x] := ka.trans (by rw [← hσ2]; exact Kept.new' hx)
  have z2 : leW (runW emp []) 0 := fun b hb => by injection hb with hb; subst hb; exact Nat.le_refl _
  clear hσ2
  refine specDoR (a := ⟨2,p.id,emp⟩) x2 (fun b hb => by have := z2 b hb; omega) (by rw [eml]; omega) fun σ3 k3 x3 => ?_
  have z3 := leW_step (a := ⟨2,p.id,emp⟩) z2
  simp (disch := first | assumption | simp) only [↓sbD,sbU,tyB,↓reduceIte,Nat.reduceEqDiff,Nat.reduceLT,Nat.reduceAdd,Nat.reduceLeDiff,pairs,splice,ZV.val]
  refine specDoR (a := ⟨8,0,cc⟩) x3 (fun b hb => by have := z3 b hb; simp only [eml] at this; omega) (by simp only; omega) fun σ4 k4 x4 => ?_
  have z4 := leW_step (a := ⟨8,0,cc⟩) z3
  have hs4 : stepW (stepW (runW emp []) [⟨2,p.id,emp⟩]) [⟨8,0,cc⟩] = runW emp [⟨2,p.id,emp⟩,⟨8,0,cc⟩] := by rw [stepW_app]; rfl
  rw [hs4] at x4 z4
  simp only [eml] at z4
  have K4 := k2.trans (k3.trans k4)
  generalize hR0 : runW emp [⟨2,p.id,emp⟩,⟨8,0,cc⟩] = R0 at x4 z4
  have hlenL := DLsb.len d3
  have hlenO := DLi.len d5
  have hfew := hf.subs
  simp (disch := first | assumption | simp) only [↓sbD,sbU]
  refine S_loop (fun m f σ' => ∃ i : Nat,m + i = p.subs.length ∧ f 8 = .int .i64 i ∧ XRun σ' x (stepW R0 ((p.subs.take i).flatMap subA)) ∧ leW (stepW R0 ((p.subs.take i).flatMap subA)) (29000 + 300 * i) ∧ Kept σ4 [x] σ' [x]) p.subs.length (Le.refl _) ⟨0,by omega,by simp (disch := first | assumption | simp) only [sbU,↓reduceIte]; rfl,by rw [List.take_zero]; simp only [List.flatMap_nil,stepW_nil]; exact x4,by rw [List.take_zero]; simp only [List.flatMap_nil,stepW_nil]; exact fun b hb => by have := z4 b hb; omega,Kept.refl _ _⟩ ?_
  rintro m f σ5 ⟨i,hm,fi,x5,z5,k5⟩ hf
  have f1 := hf 1 (by decide) (notMem_wr (by kernel_rfl))
  have f2 := hf 2 (by decide) (notMem_wr (by kernel_rfl))
  have f3 := hf 3 (by decide) (notMem_wr (by kernel_rfl))
  have f4 := hf 4 (by decide) (notMem_wr (by kernel_rfl))
  have f7 := hf 7 (by decide) (notMem_wr (by kernel_rfl))
  simp (disch := first | assumption | simp) only [sbU,↓reduceIte,Nat.reduceEqDiff] at f1 f2 f3 f4 f7
  clear hf
  by_cases hi : (i : Int) < (p.subs.length : Int)
  ·have hi' : i < p.subs.length := by omega
   have hia := DLsb.at d3 hi'
   have hsz := hf.sub _ (List.getElem_mem hi')
   have hwi := wrap_suc (n := i) (by omega)
   have htk : p.subs.take (i + 1) = p.subs.take i ++ [p.subs[i]] := List.take_succ_eq_append_getElem hi'
   generalize p.subs[i] = y at hia htk hsz
   have hac : subC y = [.string y.f,.int .i64 y.q,.bool y.nl,.bool y.ai,.int .i64 y.rt] := rfl
   have hst : stepW R0 ((p.subs.take (i + 1)).flatMap subA) = stepW (stepW R0 ((p.subs.take i).flatMap subA)) (subA y) := by
    rw [htk,List.flatMap_append,stepW_app]
    simp only [List.flatMap_cons,List.flatMap_nil,List.append_nil]
   simp (disch := first | assumption | simp) only [↓sbD,sbU,tyB,Bool.or_self,↓reduceIte,Nat.reduceEqDiff,Nat.reduceLT,Nat.reduceAdd,Nat.reduceLeDiff,reduceCtorEq,pairs,isConst,splice,ZV.val,f1,f7,fi,hlenL,hi,hkT,hia,hac]
   refine specDoR (a := ⟨6,0,y.f⟩) x5 (fun b hb => by have := z5 b hb; omega) (by simp only; omega) fun σ6 k6 x6 => ?_
   have z6 := leW_step (a := ⟨6,0,y.f⟩) z5
   simp only at z6
   simp (disch := first | assumption | simp) only [↓sbD,sbU,tyB,↓reduceIte,Nat.reduceEqDiff,Nat.reduceLT,Nat.reduceLeDiff,reduceCtorEq,f1,f7,fi,hia,hac]
   rw [show Value.agg ⟨[.string y.f,.int .i64 y.q,.bool y.nl,.bool y.ai,.int .i64 y.rt]⟩ = .agg ⟨subC y⟩ from rfl]
   refine specDOpt ?_
   simp (disch := first | assumption | simp) only [↓sbD,sbU,tyB,↓reduceIte,Nat.reduceEqDiff,Nat.reduceLT,Nat.reduceAdd,Nat.reduceLeDiff,pairs,splice,ZV.val]
   refine specDoR (a := ⟨1,optI y,emp⟩) x6 (fun b hb => by have := z6 b hb; omega) (by rw [eml]; omega) fun σ7 k7 x7 => ?_
   have z7 := leW_step (a := ⟨1,optI y,emp⟩) z6
   simp only [eml] at z7
   have hs7 : ∀ R,stepW (stepW R [⟨6,0,y.f⟩]) [⟨1,optI y,emp⟩] = stepW R (subA y) := fun R => by rw [stepW_app]; rfl
   rw [hs7] at x7 z7
   simp (disch := first | assumption | simp) only [↓sbD,sbU,↓reduceIte,Nat.reduceEqDiff,Nat.reduceLT,isConst,fi,hwi]
   exact ⟨_,m - 1,_,rfl,by omega,Le.refl _,i + 1,by omega,by simp (disch := first | assumption | simp) only [sbU,↓reduceIte],by rw [hst]; exact x7,by rw [hst]; exact fun b hb => by have := z7 b hb; omega,k5.trans (k6.trans k7)⟩
  ·obtain rfl : i = p.subs.length := by omega
   rw [List.take_length] at x5 z5
   have hR : stepW R0 (p.subs.flatMap subA) = runW emp (actsS p cc) := by
    rw [← hR0,show runW emp [⟨2,p.id,emp⟩,⟨8,0,cc⟩] = stepW (runW emp []) [⟨2,p.id,emp⟩,⟨8,0,cc⟩] from rfl,stepW_app]
    unfold actsS
    rw [if_pos hkk]
    rfl
   rw [hR] at x5 z5
   have K5 := K4.trans k5
   have hl40 : p.subs.length ≤ 40 := hfew
   simp (disch := first | assumption | simp) only [↓sbD,sbU,tyB,decide_false,Bool.or_self,↓reduceIte,Nat.reduceEqDiff,Nat.reduceLT,reduceCtorEq,isConst,f1,fi,hlenL,hi]
   refine S_loop (fun m f σ' => σ' = σ5 ∧ f 9 = .int .i64 0) 1 (Le.refl _) ⟨rfl,by simp (disch := first | assumption | simp) only [sbU,↓reduceIte]⟩ ?_
   have F1 := f1; clear f1
   have F2 := f2; clear f2
   have F3 := f3; clear f3
   have F4 := f4; clear f4
   have F7 := f7; clear f7
   rintro m f σ' ⟨rfl,fj⟩ hf
   have f1 := hf 1 (by decide) (notMem_wr (by kernel_rfl))
   have f2 := hf 2 (by decide) (notMem_wr (by kernel_rfl))
   have f3 := hf 3 (by decide) (notMem_wr (by kernel_rfl))
   have f4 := hf 4 (by decide) (notMem_wr (by kernel_rfl))
   have f7 := hf 7 (by decide) (notMem_wr (by kernel_rfl))
   simp (disch := first | assumption | simp) only [sbU,↓reduceIte,Nat.reduceEqDiff,F1,F2,F3,F4,F7] at f1 f2 f3 f4 f7
   clear hf
   by_cases hj : (0 : Int) < (p.codes.length : Int)
   all_goals
    simp (disch := first | assumption | simp) only [↓sbD,sbU,tyB,decide_false,Bool.or_self,↓reduceIte,Nat.reduceEqDiff,Nat.reduceLT,reduceCtorEq,isConst,f1,f4,f7,fj,hlenO,hj,hkF]
    have gb5 := (K5.at gb1 (by simp) (by simp)).1
    have gc5 := (K5.at gc1 (by simp) (by simp)).1
    refine specKMade x5 (fun bb hbb => ?_) fun k q hr hk => ?_
    ·have hle := z5 bb hbb
     simp (disch := first | assumption | simp) only [↓sbD,sbU,tyB,↓reduceIte,Nat.reduceEqDiff,Nat.reduceLT,AS_new,zeFra,zeFlt]
     intro d hd e he
     have hed : e ≠ d := by rintro rfl; rw [AHeap.get_set_same] at he; cases he
     replace he : (σ').get e = .dead := by rw [AHeap.get_set_ne _ _ hed.symm] at he; exact he
     have ed : ∀ (τ : AHeap) o,(AHeap.set τ e o).get d = τ.get d := fun τ o => AHeap.get_set_ne _ _ hed
     have de : ∀ (τ : AHeap) o,(AHeap.set τ d o).get e = τ.get e := fun τ o => AHeap.get_set_ne _ _ hed.symm
     simp (disch := first | assumption | simp) only [↓sbD,sbU,tyB,decide_false,↓reduceIte,Nat.reduceEqDiff,Nat.reduceLT,Nat.reduceAdd,Nat.reduceLeDiff,reduceCtorEq,isConst,splice,ed,de]
     generalize hσ7 : AHeap.set (AHeap.set (AHeap.set (AHeap.set σ' d _) e _) d _) e _ = σ7
     have k7 : Kept σ' [x] σ7 [x] := by rw [← hσ7]; exact ((((Kept.refl _ _).setD hd).setD he).setD hd).setD he
     have gd7 : σ7.get d = .cells [.int .i64 (130),.string bb] true 0 := by rw [← hσ7,ed]; exact AHeap.get_set_same _ _ _
     have ge7 : σ7.get e = .cells [.int .i64 0,.int .i64 0,.int .i64 0] true 0 := by rw [← hσ7]; exact AHeap.get_set_same _ _ _
     have K7 := (K5.trans k7).wid (gp := []) (gp' := []) (fun _ h => by cases h) (fun _ h => by cases h)
     clear hσ7
     refine specDSDec (by omega) (fun y hy v2 σ8 hv2 k8 => ?_) fun k rr a hy hk σ8 k8 => ?_
     ·obtain ⟨up,uw,us,uf,uc,e1,e2,e3,e4,e5,rfl⟩ := hv2
      have K8 := K7.trans k8
      have gb8 := (K8.at gb1 (by simp) (by simp)).1
      have gc8 := (K8.at gc1 (by simp) (by simp)).1
      have gd8 := (k8.at gd7 (by simp) (by simp)).1
      simp only [pkC]
      have c1 := dl_vc e1
      have c2 := dl_vc e2
      have c3 := dl_vc e3
      have c4 := dl_vc e4
      have c5 := dl_vc e5
      simp (disch := first | assumption | simp) only [↓sbD,sbU,tyB,↓reduceIte,Nat.reduceEqDiff,Nat.reduceLT,AS_new,zePk,zeFlt]
      intro i hi j hj
      have hji : j ≠ i := by rintro rfl; rw [AHeap.get_set_same] at hj; cases hj
      replace hj : (σ8).get j = .dead := by rw [AHeap.get_set_ne _ _ hji.symm] at hj; exact hj
      have ji : ∀ (τ : AHeap) o,(AHeap.set τ j o).get i = τ.get i := fun τ o => AHeap.get_set_ne _ _ hji
      have ij : ∀ (τ : AHeap) o,(AHeap.set τ i o).get j = τ.get j := fun τ o => AHeap.get_set_ne _ _ hji.symm
      simp (disch := first | assumption | simp) only [↓sbD,sbU,tyB,decide_false,↓reduceIte,Nat.reduceEqDiff,Nat.reduceLT,Nat.reduceAdd,Nat.reduceLeDiff,reduceCtorEq,isConst,splice,ji,ij,c1.2,c2.2,c3.2,c4.2,c5.2]
      have hib : b ≠ i := (nd hi gb8 (by simp)).symm
      have hic : c ≠ i := (nd hi gc8 (by simp)).symm
      have hjb : b ≠ j := (nd hj gb8 (by simp)).symm
      have hjc : c ≠ j := (nd hj gc8 (by simp)).symm
      have hid : d ≠ i := (nd hi gd8 (by simp)).symm
      have hjd : d ≠ j := (nd hj gd8 (by simp)).symm
      generalize hσ9 : AHeap.set (AHeap.set (AHeap.set (AHeap.set σ8 i _) j _) i _) j _ = σ9
      have k9 : Kept σ8 [] σ9 [] := by rw [← hσ9]; exact ((((Kept.refl _ _).setD hi).setD hj).setD hi).setD hj
      have gj9 : σ9.get j = .cells [.int .i64 0,.int .i64 0,.int .i64 0] true 0 := by rw [← hσ9]; exact AHeap.get_set_same _ _ _
      have gd9 := (k9.at gd8 (by simp) (by simp)).1
      have K9 := K8.trans k9
      have gb9 := (K9.at gb1 (by simp) (by simp)).1
      have gc9 := (K9.at gc1 (by simp) (by simp)).1
      clear hσ9
      simp (disch := first | assumption | simp) only [↓sbD,sbU,tyB,↓reduceIte,Nat.reduceEqDiff,Nat.reduceLT,Nat.reduceAdd,Nat.reduceLeDiff,pairs,splice,ZV.val,f2,f3,gd9,bc,cb,gb9,gc9,res_cellc,resC_some]
      exact downS_here (hok (130,bb) (by unfold MadeR; rw [hbb]; exact ⟨_,hy,rfl⟩) _ (FIN K9))
     ·have hk0 : ¬ (k : Int) = 0 := by omega
      have K8 := K7.trans k8
      have gb8 := (K8.at gb1 (by simp) (by simp)).1
      have gc8 := (K8.at gc1 (by simp) (by simp)).1
      simp only [zeL,pkC,pkz]
      simp (disch := first | assumption | simp) only [↓sbD,sbU,tyB,↓reduceIte,Nat.reduceEqDiff,Nat.reduceLT,AS_new,zePk,zeFlt]
      intro i hi j hj
      have hji : j ≠ i := by rintro rfl; rw [AHeap.get_set_same] at hj; cases hj
      replace hj : (σ8).get j = .dead := by rw [AHeap.get_set_ne _ _ hji.symm] at hj; exact hj
      have ji : ∀ (τ : AHeap) o,(AHeap.set τ j o).get i = τ.get i := fun τ o => AHeap.get_set_ne _ _ hji
      have ij : ∀ (τ : AHeap) o,(AHeap.set τ i o).get j = τ.get j := fun τ o => AHeap.get_set_ne _ _ hji.symm
      simp (disch := first | assumption | simp) only [↓sbD,sbU,tyB,↓reduceIte,Nat.reduceEqDiff,Nat.reduceLT,Nat.reduceAdd,Nat.reduceLeDiff,reduceCtorEq,pairs,isConst,splice,ZV.val,f2,ji,ij,hk0]
      generalize hσ9 : AHeap.set (AHeap.set (AHeap.set (AHeap.set σ8 i _) j _) i _) j _ = σ9
      have k9 : Kept σ8 [] σ9 [] := by rw [← hσ9]; exact ((((Kept.refl _ _).setD hi).setD hj).setD hi).setD hj
      have gj9 : σ9.get j = .cells [.int .i64 (k : Int),.int .i64 (rr : Int),.int .i64 (a : Int)] true 0 := by rw [← hσ9]; exact AHeap.get_set_same _ _ _
      have K9 := K8.trans k9
      have gb9 := (K9.at gb1 (by simp) (by simp)).1
      have gc9 := (K9.at gc1 (by simp) (by simp)).1
      have hjb : b ≠ j := by rintro rfl; rw [gb9] at gj9; cases gj9
      clear hσ9
      have bj : ∀ (τ : AHeap) o,(AHeap.set τ b o).get j = τ.get j := fun τ o => AHeap.get_set_ne _ _ hjb
      simp (disch := first | assumption | simp) only [↓sbD,sbU,tyB,↓reduceIte,Nat.reduceEqDiff,Nat.reduceLT,Nat.reduceAdd,Nat.reduceLeDiff,splice,f3,bc,gb9,gc9]
      refine drawS_l (fl := [(1,2)]) (by kernel_rfl) ?_ ?_
      rotate_left; simp only [lastP_cc,lastP_one]; rotate_left
      ·simp only [List.all_cons,List.all_nil,floatS,List.getElem?_cons_succ,List.getElem?_cons_zero,List.getElem?_toArray,Region.wanted,Bool.not_true,Bool.not_false,Bool.or_true,reads,looksWeak,aev_tmp,upd_at,↓reduceIte,Nat.reduceEqDiff,Nat.reduceLT,Nat.reduceAdd,blkOf,oeq_refl,dead_cells,Bool.and_self,Bool.false_eq_true,Bool.not_false,gj9,bj]
       try rfl
      simp (disch := first | assumption | simp) only [↓sbD,sbU,tyB,↓reduceIte,Nat.reduceEqDiff,Nat.reduceLT,Nat.reduceAdd,Nat.reduceLeDiff,f2,f3,cb,res_cellc,resC_some]
      exact downS_here (hbad k rr a (by unfold MadeR; rw [hbb]; exact ⟨_,hy,rfl⟩) hk _ (FIN K9))
    ·have hk0 : ¬ (k : Int) = 0 := by omega
     simp (disch := first | assumption | simp) only [↓sbD,sbU,tyB,↓reduceIte,Nat.reduceEqDiff,Nat.reduceLT,AS_new,zeFra,zeFlt]
     intro d hd e he
     have hed : e ≠ d := by rintro rfl; rw [AHeap.get_set_same] at he; cases he
     replace he : (σ').get e = .dead := by rw [AHeap.get_set_ne _ _ hed.symm] at he; exact he
     have ed : ∀ (τ : AHeap) o,(AHeap.set τ e o).get d = τ.get d := fun τ o => AHeap.get_set_ne _ _ hed
     have de : ∀ (τ : AHeap) o,(AHeap.set τ d o).get e = τ.get e := fun τ o => AHeap.get_set_ne _ _ hed.symm
     simp (disch := first | assumption | simp) only [↓sbD,sbU,tyB,↓reduceIte,Nat.reduceEqDiff,Nat.reduceLT,Nat.reduceAdd,Nat.reduceLeDiff,reduceCtorEq,isConst,splice,f2,ed,de,hk0]
     generalize hσ7 : AHeap.set (AHeap.set (AHeap.set (AHeap.set σ' d _) e _) d _) e _ = σ7
     have k7 : Kept σ' [x] σ7 [x] := by rw [← hσ7]; exact ((((Kept.refl _ _).setD hd).setD he).setD hd).setD he
     have gd7 : σ7.get d = .cells [.int .i64 0,.string emp] true 0 := by rw [← hσ7,ed]; exact AHeap.get_set_same _ _ _
     have ge7 : σ7.get e = .cells [.int .i64 (k : Int),.int .i64 129,.int .i64 (q : Int)] true 0 := by rw [← hσ7]; exact AHeap.get_set_same _ _ _
     have K7 := (K5.trans k7).wid (gp := []) (gp' := []) (fun _ h => by cases h) (fun _ h => by cases h)
     clear hσ7
     have gb7 := (K7.at gb1 (by simp) (by simp)).1
     have gc7 := (K7.at gc1 (by simp) (by simp)).1
     have heb : b ≠ e := by rintro rfl; rw [gb7] at ge7; cases ge7
     have be : ∀ (τ : AHeap) o,(AHeap.set τ b o).get e = τ.get e := fun τ o => AHeap.get_set_ne _ _ heb
     simp (disch := first | assumption | simp) only [↓sbD,sbU,tyB,↓reduceIte,Nat.reduceEqDiff,Nat.reduceLT,Nat.reduceAdd,Nat.reduceLeDiff,splice,f3,bc,gb7,gc7]
     refine drawS_l (fl := [(1,2)]) (by kernel_rfl) ?_ ?_
     rotate_left; simp only [lastP_cc,lastP_one]; rotate_left
     ·simp only [List.all_cons,List.all_nil,floatS,List.getElem?_cons_succ,List.getElem?_cons_zero,List.getElem?_toArray,Region.wanted,Bool.not_true,Bool.not_false,Bool.or_true,reads,looksWeak,aev_tmp,upd_at,↓reduceIte,Nat.reduceEqDiff,Nat.reduceLT,Nat.reduceAdd,blkOf,oeq_refl,dead_cells,Bool.and_self,Bool.false_eq_true,Bool.not_false,ge7,be]
      try rfl
     simp (disch := first | assumption | simp) only [↓sbD,sbU,tyB,↓reduceIte,Nat.reduceEqDiff,Nat.reduceLT,Nat.reduceAdd,Nat.reduceLeDiff,f2,f3,cb,res_cellc,resC_some]
     exact downS_here (hbad k 129 q (by unfold MadeR; rw [hr]) hk _ (FIN K7))
 ·have hkT := eq_true hkk
  have hkF : (p.kind = 8) = False := eq_false (by omega)
  have hfk : firstS p.kind = 144 := by unfold firstS; rw [if_neg (by omega),if_pos hkk]
  have hn0 : ¬ (144 : Int) = 0 := by decide
  simp only [hfk,if_neg hn0] at hok hbad
  simp (disch := first | assumption | simp) only [↓sbD,sbU,tyB,decide_false,↓reduceIte,Nat.reduceEqDiff,Nat.reduceLT,reduceCtorEq,isConst,hkT,hkF]
  generalize hσ1 : AHeap.set (AHeap.set σ b _) c _ = σ1
  have k1 : Kept σ [] σ1 [] := by rw [← hσ1]; exact ((Kept.refl σ []).setD hb).setD hcd
  have gb1 : σ1.get b = .cells [.int .i64 0,.string emp] true 0 := by rw [← hσ1,cb]; exact AHeap.get_set_same _ _ _
  have gc1 : σ1.get c = .cells [.int .i64 0,.int .i64 0,.int .i64 0] true 0 := by rw [← hσ1]; exact AHeap.get_set_same _ _ _
  clear hσ1
  have FIN : ∀ {τ : AHeap} {o o' : AObj},Kept σ1 [] τ [] → Kept σ [] ((τ.set b o).set c o') [] := fun kt => ((k1.trans kt).setD hb).setD hcd
  refine specREncode d1 hsm (fun cc hce => ?_) fun k r a hce => ?_
  rotate_left
  ·rw [hce] at hok hbad
   simp only at hok hbad
   have hk := encP_k hce
   have hk0 : ¬ (k : Int) = 0 := by omega
   simp (disch := first | assumption | simp) only [↓sbD,sbU,tyB,↓reduceIte,Nat.reduceEqDiff,Nat.reduceLT,Nat.reduceAdd,Nat.reduceLeDiff,reduceCtorEq,isConst,splice,AS_new,zeFlt]
   intro g hg
   have hgb : b ≠ g := (nd hg gb1 (by simp)).symm
   have hgc : c ≠ g := (nd hg gc1 (by simp)).symm
   have gb : ∀ (τ : AHeap) o,(AHeap.set τ g o).get b = τ.get b := fun τ o => AHeap.get_set_ne _ _ hgb.symm
   have gc : ∀ (τ : AHeap) o,(AHeap.set τ g o).get c = τ.get c := fun τ o => AHeap.get_set_ne _ _ hgc.symm
   have bg : ∀ (τ : AHeap) o,(AHeap.set τ b o).get g = τ.get g := fun τ o => AHeap.get_set_ne _ _ hgb
   simp (disch := first | assumption | simp) only [↓sbD,sbU,tyB,↓reduceIte,Nat.reduceEqDiff,Nat.reduceLT,Nat.reduceAdd,Nat.reduceLeDiff,pairs,splice,ZV.val,gb,gc,bc,gb1,gc1,hk0]
   refine drawS_l (fl := [(1,2)]) (by kernel_rfl) ?_ ?_
   rotate_left; simp only [lastP_cc,lastP_one]; rotate_left
   ·simp only [List.all_cons,List.all_nil,floatS,List.getElem?_cons_succ,List.getElem?_cons_zero,List.getElem?_toArray,Region.wanted,Bool.not_true,Bool.not_false,Bool.or_true,reads,looksWeak,aev_tmp,upd_at,↓reduceIte,Nat.reduceEqDiff,Nat.reduceLT,Nat.reduceAdd,blkOf,oeq_refl,dead_cells,Bool.and_self,Bool.false_eq_true,Bool.not_false,bg,AHeap.get_set_same]
    try rfl
   simp (disch := first | assumption | simp) only [↓sbD,sbU,tyB,↓reduceIte,Nat.reduceEqDiff,Nat.reduceLT,Nat.reduceAdd,Nat.reduceLeDiff,cb,res_cellc,resC_some]
   exact downS_here (hbad k r a rfl hk _ (FIN (((Kept.refl _ []).setD hg).setD hg)))
  rw [hce] at hok hbad
  simp only at hok hbad
  have hcz := encP_size hf.props hce
  simp (disch := first | assumption | simp) only [↓sbD,sbU,tyB,decide_false,↓reduceIte,Nat.reduceEqDiff,Nat.reduceLT,Nat.reduceAdd,Nat.reduceLeDiff,reduceCtorEq,pairs,isConst,splice,boxS,Edp,ZV.val,AS_new,zeFlt]
  intro g hg
  have hgb : b ≠ g := (nd hg gb1 (by simp)).symm
  have hgc : c ≠ g := (nd hg gc1 (by simp)).symm
  have gb : ∀ (τ : AHeap) o,(AHeap.set τ g o).get b = τ.get b := fun τ o => AHeap.get_set_ne _ _ hgb.symm
  have gc : ∀ (τ : AHeap) o,(AHeap.set τ g o).get c = τ.get c := fun τ o => AHeap.get_set_ne _ _ hgc.symm
  have bg : ∀ (τ : AHeap) o,(AHeap.set τ b o).get g = τ.get g := fun τ o => AHeap.get_set_ne _ _ hgb
  generalize hσa : AHeap.set (AHeap.set σ1 g _) g _ = σa
  have ka : Kept σ1 [] σa [] := by rw [← hσa]; exact ((Kept.refl _ []).setD hg).setD hg
  have gga : σa.get g = .cells [.int .i64 0,.int .i64 0,.int .i64 0] true 0 := by rw [← hσa]; exact AHeap.get_set_same _ _ _
  clear hσa
  simp (disch := first | assumption | simp) only [↓sbD,sbU,tyB,Bool.false_eq_true,↓reduceIte,Nat.reduceEqDiff,Nat.reduceLT,Nat.reduceAdd,Nat.reduceLeDiff,reduceCtorEq,pairs,splice,ZV.val,AS_new,dpX]
  intro x hx
  generalize hσ2 : AHeap.set σa x _ = σ2
  have x2 : XRun σ2 x (runW emp []) := by rw [← hσ2]; exact AHeap.get_set_same _ _ _
  have k2 : Kept σ1 [] σ2 [x] := ka.trans (by rw [← hσ2]; exact Kept.new' hx)
  have z2 : leW (runW emp []) 0 := fun b hb => by injection hb with hb; subst hb; exact Nat.le_refl _
  clear hσ2
  refine specDoR (a := ⟨2,p.id,emp⟩) x2 (fun b hb => by have := z2 b hb; omega) (by rw [eml]; omega) fun σ3 k3 x3 => ?_
  have z3 := leW_step (a := ⟨2,p.id,emp⟩) z2
  simp (disch := first | assumption | simp) only [↓sbD,sbU,tyB,↓reduceIte,Nat.reduceEqDiff,Nat.reduceLT,Nat.reduceAdd,Nat.reduceLeDiff,pairs,splice,ZV.val]
  refine specDoR (a := ⟨8,0,cc⟩) x3 (fun b hb => by have := z3 b hb; simp only [eml] at this; omega) (by simp only; omega) fun σ4 k4 x4 => ?_
  have z4 := leW_step (a := ⟨8,0,cc⟩) z3
  have hs4 : stepW (stepW (runW emp []) [⟨2,p.id,emp⟩]) [⟨8,0,cc⟩] = runW emp [⟨2,p.id,emp⟩,⟨8,0,cc⟩] := by rw [stepW_app]; rfl
  rw [hs4] at x4 z4
  simp only [eml] at z4
  have K4 := k2.trans (k3.trans k4)
  generalize hR0 : runW emp [⟨2,p.id,emp⟩,⟨8,0,cc⟩] = R0 at x4 z4
  have hlenL := DLi.len d5
  have hlenO := DLsb.len d3
  have hfew := hf.codes
  simp (disch := first | assumption | simp) only [↓sbD,sbU]
  refine S_loop (fun m f σ' => σ' = σ4 ∧ f 8 = .int .i64 0) 1 (Le.refl _) ⟨rfl,by simp (disch := first | assumption | simp) only [sbU,↓reduceIte]⟩ ?_
  rintro m f σ' ⟨rfl,fj⟩ hf
  have f1 := hf 1 (by decide) (notMem_wr (by kernel_rfl))
  have f2 := hf 2 (by decide) (notMem_wr (by kernel_rfl))
  have f3 := hf 3 (by decide) (notMem_wr (by kernel_rfl))
  have f4 := hf 4 (by decide) (notMem_wr (by kernel_rfl))
  have f7 := hf 7 (by decide) (notMem_wr (by kernel_rfl))
  simp (disch := first | assumption | simp) only [sbU,↓reduceIte,Nat.reduceEqDiff] at f1 f2 f3 f4 f7
  clear hf
  by_cases hj : (0 : Int) < (p.subs.length : Int)
  all_goals
   simp (disch := first | assumption | simp) only [↓sbD,sbU,tyB,decide_false,Bool.or_self,↓reduceIte,Nat.reduceEqDiff,Nat.reduceLT,reduceCtorEq,isConst,f1,fj,hlenO,hj,hkF]
   refine S_loop (fun m f σ'' => ∃ i : Nat,m + i = p.codes.length ∧ f 9 = .int .i64 i ∧ XRun σ'' x (stepW R0 ((p.codes.take i).flatMap codA)) ∧ leW (stepW R0 ((p.codes.take i).flatMap codA)) (29000 + 300 * i) ∧ Kept σ' [x] σ'' [x]) p.codes.length (Le.refl _) ⟨0,by omega,by simp (disch := first | assumption | simp) only [sbU,↓reduceIte]; rfl,by rw [List.take_zero]; simp only [List.flatMap_nil,stepW_nil]; exact x4,by rw [List.take_zero]; simp only [List.flatMap_nil,stepW_nil]; exact fun b hb => by have := z4 b hb; omega,Kept.refl _ _⟩ ?_
   have F1 := f1; clear f1
   have F2 := f2; clear f2
   have F3 := f3; clear f3
   have F4 := f4; clear f4
   have F7 := f7; clear f7
   rintro m f σ5 ⟨i,hm,fi,x5,z5,k5⟩ hf
   have f1 := hf 1 (by decide) (notMem_wr (by kernel_rfl))
   have f2 := hf 2 (by decide) (notMem_wr (by kernel_rfl))
   have f3 := hf 3 (by decide) (notMem_wr (by kernel_rfl))
   have f4 := hf 4 (by decide) (notMem_wr (by kernel_rfl))
   have f7 := hf 7 (by decide) (notMem_wr (by kernel_rfl))
   simp (disch := first | assumption | simp) only [sbU,↓reduceIte,Nat.reduceEqDiff,F1,F2,F3,F4,F7] at f1 f2 f3 f4 f7
   clear hf
   by_cases hi : (i : Int) < (p.codes.length : Int)
   ·have hi' : i < p.codes.length := by omega
    have hia := DLi.at d5 hi'
    skip
    have hwi := wrap_suc (n := i) (by omega)
    have htk : p.codes.take (i + 1) = p.codes.take i ++ [p.codes[i]] := List.take_succ_eq_append_getElem hi'
    generalize p.codes[i] = y at hia htk
    have hac : intC y = [.int .i64 y] := rfl
    have hst : stepW R0 ((p.codes.take (i + 1)).flatMap codA) = stepW (stepW R0 ((p.codes.take i).flatMap codA)) (codA y) := by
     rw [htk,List.flatMap_append,stepW_app]
     simp only [List.flatMap_cons,List.flatMap_nil,List.append_nil]
    simp (disch := first | assumption | simp) only [↓sbD,sbU,tyB,Bool.or_self,↓reduceIte,Nat.reduceEqDiff,Nat.reduceLT,Nat.reduceAdd,Nat.reduceLeDiff,reduceCtorEq,pairs,isConst,splice,ZV.val,f1,f7,fi,hlenL,hi,hkT,hia,hac]
    refine specDoR (a := ⟨1,y,emp⟩) x5 (fun b hb => by have := z5 b hb; omega) (by rw [eml]; omega) fun σ6 k6 x6 => ?_
    have z6 := leW_step (a := ⟨1,y,emp⟩) z5
    simp only [eml] at z6
    simp (disch := first | assumption | simp) only [↓sbD,sbU,↓reduceIte,Nat.reduceEqDiff,Nat.reduceLT,isConst,fi,hwi]
    exact ⟨_,m - 1,_,rfl,by omega,Le.refl _,i + 1,by omega,by simp (disch := first | assumption | simp) only [sbU,↓reduceIte],by rw [hst]; exact x6,by rw [hst]; exact fun b hb => by have := z6 b hb; omega,k5.trans k6⟩
   ·obtain rfl : i = p.codes.length := by omega
    rw [List.take_length] at x5 z5
    have hR : stepW R0 (p.codes.flatMap codA) = runW emp (actsS p cc) := by
     rw [← hR0,show runW emp [⟨2,p.id,emp⟩,⟨8,0,cc⟩] = stepW (runW emp []) [⟨2,p.id,emp⟩,⟨8,0,cc⟩] from rfl,stepW_app]
     unfold actsS
     rw [if_neg (by omega)]
     rfl
    rw [hR] at x5 z5
    have K5 := K4.trans k5
    have hl40 : p.codes.length ≤ 40 := hfew
    simp (disch := first | assumption | simp) only [↓sbD,sbU,tyB,decide_false,Bool.or_self,↓reduceIte,Nat.reduceEqDiff,Nat.reduceLT,reduceCtorEq,isConst,f1,f4,f7,fi,hlenL,hi]
    have gb5 := (K5.at gb1 (by simp) (by simp)).1
    have gc5 := (K5.at gc1 (by simp) (by simp)).1
    refine specKMade x5 (fun bb hbb => ?_) fun k q hr hk => ?_
    ·have hle := z5 bb hbb
     simp (disch := first | assumption | simp) only [↓sbD,sbU,tyB,↓reduceIte,Nat.reduceEqDiff,Nat.reduceLT,AS_new,zeFra,zeFlt]
     intro d hd e he
     have hed : e ≠ d := by rintro rfl; rw [AHeap.get_set_same] at he; cases he
     replace he : (σ5).get e = .dead := by rw [AHeap.get_set_ne _ _ hed.symm] at he; exact he
     have ed : ∀ (τ : AHeap) o,(AHeap.set τ e o).get d = τ.get d := fun τ o => AHeap.get_set_ne _ _ hed
     have de : ∀ (τ : AHeap) o,(AHeap.set τ d o).get e = τ.get e := fun τ o => AHeap.get_set_ne _ _ hed.symm
     simp (disch := first | assumption | simp) only [↓sbD,sbU,tyB,decide_false,↓reduceIte,Nat.reduceEqDiff,Nat.reduceLT,Nat.reduceAdd,Nat.reduceLeDiff,reduceCtorEq,isConst,splice,ed,de]
     generalize hσ7 : AHeap.set (AHeap.set (AHeap.set (AHeap.set σ5 d _) e _) d _) e _ = σ7
     have k7 : Kept σ5 [x] σ7 [x] := by rw [← hσ7]; exact ((((Kept.refl _ _).setD hd).setD he).setD hd).setD he
     have gd7 : σ7.get d = .cells [.int .i64 (144),.string bb] true 0 := by rw [← hσ7,ed]; exact AHeap.get_set_same _ _ _
     have ge7 : σ7.get e = .cells [.int .i64 0,.int .i64 0,.int .i64 0] true 0 := by rw [← hσ7]; exact AHeap.get_set_same _ _ _
     have K7 := (K5.trans k7).wid (gp := []) (gp' := []) (fun _ h => by cases h) (fun _ h => by cases h)
     clear hσ7
     refine specDSDec (by omega) (fun y hy v2 σ8 hv2 k8 => ?_) fun k rr a hy hk σ8 k8 => ?_
     ·obtain ⟨up,uw,us,uf,uc,e1,e2,e3,e4,e5,rfl⟩ := hv2
      have K8 := K7.trans k8
      have gb8 := (K8.at gb1 (by simp) (by simp)).1
      have gc8 := (K8.at gc1 (by simp) (by simp)).1
      have gd8 := (k8.at gd7 (by simp) (by simp)).1
      simp only [pkC]
      have c1 := dl_vc e1
      have c2 := dl_vc e2
      have c3 := dl_vc e3
      have c4 := dl_vc e4
      have c5 := dl_vc e5
      simp (disch := first | assumption | simp) only [↓sbD,sbU,tyB,↓reduceIte,Nat.reduceEqDiff,Nat.reduceLT,AS_new,zePk,zeFlt]
      intro i hi j hj
      have hji : j ≠ i := by rintro rfl; rw [AHeap.get_set_same] at hj; cases hj
      replace hj : (σ8).get j = .dead := by rw [AHeap.get_set_ne _ _ hji.symm] at hj; exact hj
      have ji : ∀ (τ : AHeap) o,(AHeap.set τ j o).get i = τ.get i := fun τ o => AHeap.get_set_ne _ _ hji
      have ij : ∀ (τ : AHeap) o,(AHeap.set τ i o).get j = τ.get j := fun τ o => AHeap.get_set_ne _ _ hji.symm
      simp (disch := first | assumption | simp) only [↓sbD,sbU,tyB,decide_false,↓reduceIte,Nat.reduceEqDiff,Nat.reduceLT,Nat.reduceAdd,Nat.reduceLeDiff,reduceCtorEq,isConst,splice,ji,ij,c1.2,c2.2,c3.2,c4.2,c5.2]
      have hib : b ≠ i := (nd hi gb8 (by simp)).symm
      have hic : c ≠ i := (nd hi gc8 (by simp)).symm
      have hjb : b ≠ j := (nd hj gb8 (by simp)).symm
      have hjc : c ≠ j := (nd hj gc8 (by simp)).symm
      have hid : d ≠ i := (nd hi gd8 (by simp)).symm
      have hjd : d ≠ j := (nd hj gd8 (by simp)).symm
      generalize hσ9 : AHeap.set (AHeap.set (AHeap.set (AHeap.set σ8 i _) j _) i _) j _ = σ9
      have k9 : Kept σ8 [] σ9 [] := by rw [← hσ9]; exact ((((Kept.refl _ _).setD hi).setD hj).setD hi).setD hj
      have gj9 : σ9.get j = .cells [.int .i64 0,.int .i64 0,.int .i64 0] true 0 := by rw [← hσ9]; exact AHeap.get_set_same _ _ _
      have gd9 := (k9.at gd8 (by simp) (by simp)).1
      have K9 := K8.trans k9
      have gb9 := (K9.at gb1 (by simp) (by simp)).1
      have gc9 := (K9.at gc1 (by simp) (by simp)).1
      clear hσ9
      simp (disch := first | assumption | simp) only [↓sbD,sbU,tyB,↓reduceIte,Nat.reduceEqDiff,Nat.reduceLT,Nat.reduceAdd,Nat.reduceLeDiff,pairs,splice,ZV.val,f2,f3,gd9,bc,cb,gb9,gc9,res_cellc,resC_some]
      exact downS_here (hok (144,bb) (by unfold MadeR; rw [hbb]; exact ⟨_,hy,rfl⟩) _ (FIN K9))
     ·have hk0 : ¬ (k : Int) = 0 := by omega
      have K8 := K7.trans k8
      have gb8 := (K8.at gb1 (by simp) (by simp)).1
      have gc8 := (K8.at gc1 (by simp) (by simp)).1
      simp only [zeL,pkC,pkz]
      simp (disch := first | assumption | simp) only [↓sbD,sbU,tyB,↓reduceIte,Nat.reduceEqDiff,Nat.reduceLT,AS_new,zePk,zeFlt]
      intro i hi j hj
      have hji : j ≠ i := by rintro rfl; rw [AHeap.get_set_same] at hj; cases hj
      replace hj : (σ8).get j = .dead := by rw [AHeap.get_set_ne _ _ hji.symm] at hj; exact hj
      have ji : ∀ (τ : AHeap) o,(AHeap.set τ j o).get i = τ.get i := fun τ o => AHeap.get_set_ne _ _ hji
      have ij : ∀ (τ : AHeap) o,(AHeap.set τ i o).get j = τ.get j := fun τ o => AHeap.get_set_ne _ _ hji.symm
      simp (disch := first | assumption | simp) only [↓sbD,sbU,tyB,↓reduceIte,Nat.reduceEqDiff,Nat.reduceLT,Nat.reduceAdd,Nat.reduceLeDiff,reduceCtorEq,pairs,isConst,splice,ZV.val,f2,ji,ij,hk0]
      generalize hσ9 : AHeap.set (AHeap.set (AHeap.set (AHeap.set σ8 i _) j _) i _) j _ = σ9
      have k9 : Kept σ8 [] σ9 [] := by rw [← hσ9]; exact ((((Kept.refl _ _).setD hi).setD hj).setD hi).setD hj
      have gj9 : σ9.get j = .cells [.int .i64 (k : Int),.int .i64 (rr : Int),.int .i64 (a : Int)] true 0 := by rw [← hσ9]; exact AHeap.get_set_same _ _ _
      have K9 := K8.trans k9
      have gb9 := (K9.at gb1 (by simp) (by simp)).1
      have gc9 := (K9.at gc1 (by simp) (by simp)).1
      have hjb : b ≠ j := by rintro rfl; rw [gb9] at gj9; cases gj9
      clear hσ9
      have bj : ∀ (τ : AHeap) o,(AHeap.set τ b o).get j = τ.get j := fun τ o => AHeap.get_set_ne _ _ hjb
      simp (disch := first | assumption | simp) only [↓sbD,sbU,tyB,↓reduceIte,Nat.reduceEqDiff,Nat.reduceLT,Nat.reduceAdd,Nat.reduceLeDiff,splice,f3,bc,gb9,gc9]
      refine drawS_l (fl := [(1,2)]) (by kernel_rfl) ?_ ?_
      rotate_left; simp only [lastP_cc,lastP_one]; rotate_left
      ·simp only [List.all_cons,List.all_nil,floatS,List.getElem?_cons_succ,List.getElem?_cons_zero,List.getElem?_toArray,Region.wanted,Bool.not_true,Bool.not_false,Bool.or_true,reads,looksWeak,aev_tmp,upd_at,↓reduceIte,Nat.reduceEqDiff,Nat.reduceLT,Nat.reduceAdd,blkOf,oeq_refl,dead_cells,Bool.and_self,Bool.false_eq_true,Bool.not_false,gj9,bj]
       try rfl
      simp (disch := first | assumption | simp) only [↓sbD,sbU,tyB,↓reduceIte,Nat.reduceEqDiff,Nat.reduceLT,Nat.reduceAdd,Nat.reduceLeDiff,f2,f3,cb,res_cellc,resC_some]
      exact downS_here (hbad k rr a (by unfold MadeR; rw [hbb]; exact ⟨_,hy,rfl⟩) hk _ (FIN K9))
    ·have hk0 : ¬ (k : Int) = 0 := by omega
     simp (disch := first | assumption | simp) only [↓sbD,sbU,tyB,↓reduceIte,Nat.reduceEqDiff,Nat.reduceLT,AS_new,zeFra,zeFlt]
     intro d hd e he
     have hed : e ≠ d := by rintro rfl; rw [AHeap.get_set_same] at he; cases he
     replace he : (σ5).get e = .dead := by rw [AHeap.get_set_ne _ _ hed.symm] at he; exact he
     have ed : ∀ (τ : AHeap) o,(AHeap.set τ e o).get d = τ.get d := fun τ o => AHeap.get_set_ne _ _ hed
     have de : ∀ (τ : AHeap) o,(AHeap.set τ d o).get e = τ.get e := fun τ o => AHeap.get_set_ne _ _ hed.symm
     simp (disch := first | assumption | simp) only [↓sbD,sbU,tyB,↓reduceIte,Nat.reduceEqDiff,Nat.reduceLT,Nat.reduceAdd,Nat.reduceLeDiff,reduceCtorEq,isConst,splice,f2,ed,de,hk0]
     generalize hσ7 : AHeap.set (AHeap.set (AHeap.set (AHeap.set σ5 d _) e _) d _) e _ = σ7
     have k7 : Kept σ5 [x] σ7 [x] := by rw [← hσ7]; exact ((((Kept.refl _ _).setD hd).setD he).setD hd).setD he
     have gd7 : σ7.get d = .cells [.int .i64 0,.string emp] true 0 := by rw [← hσ7,ed]; exact AHeap.get_set_same _ _ _
     have ge7 : σ7.get e = .cells [.int .i64 (k : Int),.int .i64 129,.int .i64 (q : Int)] true 0 := by rw [← hσ7]; exact AHeap.get_set_same _ _ _
     have K7 := (K5.trans k7).wid (gp := []) (gp' := []) (fun _ h => by cases h) (fun _ h => by cases h)
     clear hσ7
     have gb7 := (K7.at gb1 (by simp) (by simp)).1
     have gc7 := (K7.at gc1 (by simp) (by simp)).1
     have heb : b ≠ e := by rintro rfl; rw [gb7] at ge7; cases ge7
     have be : ∀ (τ : AHeap) o,(AHeap.set τ b o).get e = τ.get e := fun τ o => AHeap.get_set_ne _ _ heb
     simp (disch := first | assumption | simp) only [↓sbD,sbU,tyB,↓reduceIte,Nat.reduceEqDiff,Nat.reduceLT,Nat.reduceAdd,Nat.reduceLeDiff,splice,f3,bc,gb7,gc7]
     refine drawS_l (fl := [(1,2)]) (by kernel_rfl) ?_ ?_
     rotate_left; simp only [lastP_cc,lastP_one]; rotate_left
     ·simp only [List.all_cons,List.all_nil,floatS,List.getElem?_cons_succ,List.getElem?_cons_zero,List.getElem?_toArray,Region.wanted,Bool.not_true,Bool.not_false,Bool.or_true,reads,looksWeak,aev_tmp,upd_at,↓reduceIte,Nat.reduceEqDiff,Nat.reduceLT,Nat.reduceAdd,blkOf,oeq_refl,dead_cells,Bool.and_self,Bool.false_eq_true,Bool.not_false,ge7,be]
      try rfl
     simp (disch := first | assumption | simp) only [↓sbD,sbU,tyB,↓reduceIte,Nat.reduceEqDiff,Nat.reduceLT,Nat.reduceAdd,Nat.reduceLeDiff,f2,f3,cb,res_cellc,resC_some]
     exact downS_here (hbad k 129 q (by unfold MadeR; rw [hr]) hk _ (FIN K7))
end
set_option maxHeartbeats 4000000
section
variable {σ : AHeap} {Q : Value → AHeap → Prop}
theorem fraEq {cs : Bool} {f : Int} {a : ByteArray} : abin E σ .eql 57 cs (.agg ⟨[.int .i64 f,.string a]⟩) (.agg ⟨[.int .i64 f,.string a]⟩) = some (.bool true) := by
 simp only [abin,nonNum,eqAsk,aeq,aeqs,apart,ty57,ty3,ty9,TI.isAgg,Bool.and_self,Bool.false_eq_true,List.getElem?_cons_zero,List.getElem?_cons_succ,↓reduceIte,beq_self_eq_true]
 have e1 : (a == a) = true := by rw [bytes_dec]; simp
 rw [e1]
 rfl
theorem specLsameNil (h : Q (.bool true) σ) : CallS E B 48 [.nilIface,flt 0 0 0] σ Q := by
 refine call48 (by simp) ?_
 simp only [strip,bodyOf,Tryz.f48,getD_body,keepN,bareOp_mk,lessOp_mk,List.map_cons,List.map_nil,↓reduceIte,Nat.reduceEqDiff,Bool.false_eq_true]
 simp only [↓sbD,sbU,↓reduceIte,Nat.reduceLT,reduceCtorEq,boxS,Edp,dpv]
 refine specNumberNil ?_
 simp only [↓sbD,sbU,tyB,Bool.or_self,↓reduceIte,Nat.reduceEqDiff,Nat.reduceLT,reduceCtorEq,isConst,eq_self]
 refine drawS_l (fl := [(3,1),(13,11),(19,17)]) (by kernel_rfl) ?_ ?_
 rotate_left; simp only [lastP_cc,lastP_one]; rotate_left
 ·simp only [List.all_cons,List.all_nil,floatS,List.getElem?_cons_succ,List.getElem?_cons_zero,List.getElem?_toArray,Region.wanted,Bool.not_true,Bool.or_true,Bool.true_and,reads,looksWeak,aev_tmp,upd_at,↓reduceIte,Nat.reduceEqDiff,Nat.reduceLT,Nat.reduceAdd,blkOf,oeq_refl,Bool.and_true,Bool.and_self,Bool.false_eq_true,yield_list,yield_here,yield_next,truth_bool]
  try rfl
 simp only [↓sbD,sbU,↓reduceIte,Nat.reduceLT]
 exact downS_here h
theorem specLsameE {d k r a : Nat} {z : Value} (he : ErN d (fv r a z) k) (hd : d ≤ 4) (h : Q (.bool true) σ) : CallS E B 48 [fv r a z,flt k r a] σ Q := by
 have hk := he.val
 have hk0 : ¬ (k : Int) = 0 := by omega
 refine call48 (by simp) ?_
 simp only [strip,bodyOf,Tryz.f48,getD_body,keepN,bareOp_mk,lessOp_mk,List.map_cons,List.map_nil,↓reduceIte,Nat.reduceEqDiff,Bool.false_eq_true]
 simp only [↓sbD,sbU,↓reduceIte,Nat.reduceLT,reduceCtorEq,boxS,Edp,dpv]
 refine specNumber he hd ?_
 simp only [↓sbD,sbU,tyB,decide_false,Bool.or_self,↓reduceIte,Nat.reduceEqDiff,Nat.reduceLT,reduceCtorEq,isConst,eq_self,hk0]
 refine specReason ?_
 simp only [↓sbD,sbU,tyB,Bool.or_self,↓reduceIte,Nat.reduceEqDiff,Nat.reduceLT,reduceCtorEq,isConst,eq_self]
 refine specAt ?_
 simp only [↓sbD,sbU,tyB,Bool.or_self,↓reduceIte,Nat.reduceEqDiff,Nat.reduceLT,reduceCtorEq,isConst,eq_self]
 refine drawS_l (fl := [(3,1),(13,11),(19,17)]) (by kernel_rfl) ?_ ?_
 rotate_left; simp only [lastP_cc,lastP_one]; rotate_left
 ·simp only [List.all_cons,List.all_nil,floatS,List.getElem?_cons_succ,List.getElem?_cons_zero,List.getElem?_toArray,Region.wanted,Bool.not_true,Bool.or_true,reads,looksWeak,aev_tmp,upd_at,↓reduceIte,Nat.reduceEqDiff,Nat.reduceLT,Nat.reduceAdd,blkOf,oeq_refl,Bool.and_true,Bool.and_self,Bool.false_eq_true,yield_list,yield_here,yield_next,truth_bool]
  try rfl
 simp only [↓sbD,sbU,↓reduceIte,Nat.reduceLT]
 exact downS_here h
end
theorem law10 {H : AHeap} {vs : List Value} (hB0 : Ext B H) (h : ArgsTyped E H 8 [54] vs) : CallW E 10 vs H fun r _ => r = .bool true := by
 obtain ⟨u,vs1,rfl,t1,e1⟩ := h.cons'
 obtain rfl := e1.nil'
 obtain ⟨p,hp,hfz⟩ := typed_pk t1
 clear t1 e1 h
 have key : CallS E B 10 [u] .empty fun r _ => r = .bool true := by
  have hp' := hp
  obtain ⟨vp,vw,vs,vf,vc,d1,d2,d3,d4,d5,rfl⟩ := hp'
  have hz := hfz _ rfl
  simp only [pkC] at hz hp hfz ⊢
  refine call10 (by simp) ?_
  simp only [strip,bodyOf,Tryz.f10,getD_body,keepN,bareOp_mk,List.map_cons,List.map_nil,↓reduceIte,Bool.false_eq_true]
  simp only [↓sbD,sbU,tyB,↓reduceIte,Nat.reduceEqDiff,Nat.reduceLT,Nat.reduceAdd,Nat.reduceLeDiff,boxS,Edp,dpv,hz]
  refine specKFew hp hfz fun few hfew => ?_
  cases few with
  | false =>
   simp only [↓sbD,sbU,↓reduceIte,Nat.reduceLT,not_bool]
   refine specS41 ?_
   simp only [↓sbD,sbU,↓reduceIte,Nat.reduceLT]
   exact downS_here rfl
  | true =>
   have hf := hfew rfl
   have hsm : smallP p.props := ⟨by have := hf.props.1; omega,fun x hx => by have := hf.props.2 x hx; omega⟩
   simp only [↓sbD,sbU,tyB,↓reduceIte,Nat.reduceEqDiff,Nat.reduceLT,Nat.reduceAdd,Nat.reduceLeDiff,not_bool]
   refine specSEnc hp hfz hf (fun fb he σ1 k1 => ?_) fun k rr a he σ1 d z k1 hd hn => ?_
   ·simp only [↓sbD,sbU,tyB,↓reduceIte,Nat.reduceEqDiff,Nat.reduceLT,Nat.reduceAdd,Nat.reduceLeDiff,splice,AS_new,zeFra]
    intro b hb
    generalize hσ2 : AHeap.set (AHeap.set σ1 b _) b _ = σ2
    have gb : σ2.get b = .cells [.int .i64 fb.1,.string fb.2] true 0 := by rw [← hσ2]; exact AHeap.get_set_same _ _ _
    clear hσ2
    refine specDSEnc hp hfz hf (fun fc he' σ3 k3 => ?_) fun k rr a he' hk σ3 k3 => by cases he.det he'
    have hfc := he.det he'
    simp only [Except.ok.injEq] at hfc
    subst hfc
    have gb3 := (k3.at gb (by simp) (by simp)).1
    simp only [↓sbD,sbU,tyB,↓reduceIte,Nat.reduceEqDiff,Nat.reduceLT,AS_new,zeFra,zeFlt]
    intro c hc e he2
    have hbc : b ≠ c := (nd hc gb3 (by simp)).symm
    have hec : e ≠ c := by rintro rfl; rw [AHeap.get_set_same] at he2; cases he2
    replace he2 : σ3.get e = .dead := by rw [AHeap.get_set_ne _ _ hec.symm] at he2; exact he2
    have hbe : b ≠ e := (nd he2 gb3 (by simp)).symm
    have ec : ∀ (τ : AHeap) o,(AHeap.set τ e o).get c = τ.get c := fun τ o => AHeap.get_set_ne _ _ hec
    have ce : ∀ (τ : AHeap) o,(AHeap.set τ c o).get e = τ.get e := fun τ o => AHeap.get_set_ne _ _ hec.symm
    have cb : ∀ (τ : AHeap) o,(AHeap.set τ c o).get b = τ.get b := fun τ o => AHeap.get_set_ne _ _ hbc.symm
    have eb : ∀ (τ : AHeap) o,(AHeap.set τ e o).get b = τ.get b := fun τ o => AHeap.get_set_ne _ _ hbe.symm
    simp only [↓sbD,sbU,tyB,Bool.or_self,↓reduceIte,Nat.reduceEqDiff,Nat.reduceLT,Nat.reduceAdd,Nat.reduceLeDiff,isConst,splice,ec,ce,cb,eb,gb3,eq_self,fraEq]
    refine specLsameNil ?_
    simp only [↓sbD,sbU,↓reduceIte,Nat.reduceEqDiff,Nat.reduceLT]
    refine specS41 ?_
    simp only [↓sbD,sbU,↓reduceIte,Nat.reduceEqDiff,Nat.reduceLT]
    exact downS_here rfl
   ·simp only [↓sbD,sbU,tyB,↓reduceIte,Nat.reduceEqDiff,Nat.reduceLT,Nat.reduceAdd,Nat.reduceLeDiff,splice,AS_new,zeFra]
    intro b hb
    generalize hσ2 : AHeap.set (AHeap.set σ1 b _) b _ = σ2
    have gb : σ2.get b = .cells [.int .i64 0,.string emp] true 0 := by rw [← hσ2]; exact AHeap.get_set_same _ _ _
    clear hσ2
    refine specDSEnc hp hfz hf (fun fc he' σ3 k3 => by cases he.det he') fun k' rr' a' he' hk σ3 k3 => ?_
    have hfc := he.det he'
    simp only [Except.error.injEq,Prod.mk.injEq] at hfc
    obtain ⟨rfl,rfl,rfl⟩ := hfc
    have gb3 := (k3.at gb (by simp) (by simp)).1
    simp only [↓sbD,sbU,tyB,↓reduceIte,Nat.reduceEqDiff,Nat.reduceLT,AS_new,zeFra,zeFlt]
    intro c hc e he2
    have hbc : b ≠ c := (nd hc gb3 (by simp)).symm
    have hec : e ≠ c := by rintro rfl; rw [AHeap.get_set_same] at he2; cases he2
    replace he2 : σ3.get e = .dead := by rw [AHeap.get_set_ne _ _ hec.symm] at he2; exact he2
    have hbe : b ≠ e := (nd he2 gb3 (by simp)).symm
    have ec : ∀ (τ : AHeap) o,(AHeap.set τ e o).get c = τ.get c := fun τ o => AHeap.get_set_ne _ _ hec
    have ce : ∀ (τ : AHeap) o,(AHeap.set τ c o).get e = τ.get e := fun τ o => AHeap.get_set_ne _ _ hec.symm
    have cb : ∀ (τ : AHeap) o,(AHeap.set τ c o).get b = τ.get b := fun τ o => AHeap.get_set_ne _ _ hbc.symm
    have eb : ∀ (τ : AHeap) o,(AHeap.set τ e o).get b = τ.get b := fun τ o => AHeap.get_set_ne _ _ hbe.symm
    simp only [↓sbD,sbU,tyB,Bool.or_self,↓reduceIte,Nat.reduceEqDiff,Nat.reduceLT,Nat.reduceAdd,Nat.reduceLeDiff,isConst,splice,ec,ce,cb,eb,gb3,eq_self,fraEq]
    refine specLsameE hn (by omega) ?_
    simp only [↓sbD,sbU,↓reduceIte,Nat.reduceEqDiff,Nat.reduceLT]
    refine specS41 ?_
    simp only [↓sbD,sbU,↓reduceIte,Nat.reduceEqDiff,Nat.reduceLT]
    exact downS_here rfl
 exact (key H (ext_holds hB0)).mono fun r H' ⟨σ',_,h⟩ => h
end Go.Proofs.YtonmjhdcijibgaaGreatDoor.AbsA
