/-
  Parts of a law's proof.
-/
import Derived.Test.YtonmjhdcijibgaaGreatDoorAApqbJ
namespace Go.Proofs.YtonmjhdcijibgaaGreatDoor.AbsB
open Go AbsYtonmjhdcijibgaaGreatDoor Abs
set_option maxRecDepth 100000
set_option maxHeartbeats 8000000
set_option linter.unusedSimpArgs false
set_option linter.unusedVariables false
attribute [local irreducible] afterS afterOpS opSK OpsS TrS CodeS condS condW thenS thenQ guardS guardTS outS drawS trSK consS
def unsC (kind id : Int) (vp vf vc : Value) : List Value := [.int .i64 kind,.int .i64 id,.int .i64 0,vp,.bool false,.int .i64 0,.string emp,.bool false,.string emp,.string emp,.int .i64 0,.bool false,.slice none 0 0,.bool false,.string emp,.bool false,.string emp,.bool false,.string emp,.string emp,.int .i64 0,.bool false,.bool false,.slice none 0 0,vf,vc]
theorem unsC_pk {kind id : Int} {l : List Pr} {f : List ByteArray} {c : List Int} {vp vf vc : Value} (h1 : DL propC 4 vp l) (h2 : DL strC1 1 vf f) (h3 : DL intC 1 vc c) : PkV (unsP kind id l f c) (.agg ⟨unsC kind id vp vf vc⟩) := ⟨vp,.slice none 0 0,.slice none 0 0,vf,vc,h1,.inl ⟨rfl,rfl⟩,.inl ⟨rfl,rfl⟩,h2,h3,rfl⟩
theorem IsR.kept {σ σ' : AHeap} {r p : Nat} {s : ByteArray} {e : Value} {gp gp' : List Nat} (h : IsR σ r s p e) (k : Kept σ gp σ' gp') (hd : r ∉ gp) : IsR σ' r s p e := (k.at h (by simp) hd).1
theorem DG.nin {α : Type} {enc : α → List Value} {sz : Nat} {σ : AHeap} {v : Value} {l : List α} {fp : List Nat} {b z : Nat} {x : Value} {cs : List Value} {w : Bool} (h : DG enc sz σ v l fp) (hg : σ.get b = .cells (x :: cs) w z) : b ∉ fp := by
 rcases h with ⟨_,_,rfl⟩ | ⟨m,_,⟨_,rfl⟩ | ⟨t,_,h4,rfl⟩⟩
 ·simp
 ·simp
 ·intro hb
  obtain rfl := List.mem_singleton.1 hb
  rw [h4] at hg; cases hg
section
variable {σ : AHeap} {Q : Value → AHeap → Prop} {r q p : Nat} {s : ByteArray}
theorem specUFirst {k : Int} (h : Q (.int .i64 (firstU k)) σ) : CallS E B 83 [.int .i64 k] σ Q := by
 refine call83 (by simp) ?_
 simp only [strip,bodyOf,Tryz.f83,getD_body,keepN,bareOp_mk,List.map_cons,List.map_nil,↓reduceIte,Bool.false_eq_true]
 by_cases hm : k = 10 ∨ k = 11
 ·rcases hm with rfl | rfl <;>
   (simp (disch := first | assumption | simp) only [↓sbD,sbU,Int.reduceEq,decide_false,↓reduceIte,Nat.reduceEqDiff,Nat.reduceLT,reduceCtorEq,isConst]
    exact downS_here h)
 ·simp only [not_or] at hm
  have e : firstU k = 0 := by simp [firstU,hm]
  rw [e] at h
  obtain ⟨n1,n2⟩ := hm
  simp (disch := first | assumption | simp) only [↓sbD,sbU,decide_false,↓reduceIte,Nat.reduceEqDiff,Nat.reduceLT,reduceCtorEq,isConst,n1,n2]
  exact downS_here h
theorem specUHead {kind : Int} (hr : IsR σ r s 0 .nilIface) (hs : s.size ≤ 100000000)
  (hok : ∀ id l q,HeadP kind s (.ok (id,l,q)) → ∀ v σ',DL propC 4 v l → Kept σ [r] σ' [r] → IsR σ' r s q .nilIface → q ≤ s.size → Q (.tuple #[.agg ⟨unsC kind id v (.slice none 0 0) (.slice none 0 0)⟩,.nilIface]) σ')
  (hbad : ∀ k rr a : Nat,HeadP kind s (.error (k,rr,a)) → ∀ y w σ' d z,PkV y w → Kept σ [r] σ' [r] → d ≤ 3 → ErN d (fv rr a z) k → Q (.tuple #[w,fv rr a z]) σ') :
  CallS E B 85 [.pointer (some ⟨r,0,none⟩),.int .i64 kind] σ Q := by
 unfold HeadP at hok hbad
 refine call85 (by simp) ?_
 simp only [strip,bodyOf,Tryz.f85,getD_body,keepN,bareOp_mk,lessOp_mk,List.map_cons,List.map_nil,↓reduceIte,Nat.reduceEqDiff,Bool.false_eq_true]
 simp (disch := first | assumption | simp) only [↓sbD,sbU,↓reduceIte,Nat.reduceEqDiff,Nat.reduceLT,reduceCtorEq,AS_new,zePk]
 intro b hb
 have hbr : b ≠ r := nd hb hr (by simp)
 generalize hσ1 : AHeap.set σ b _ = σ1
 have k1 : Kept σ [r] σ1 [r] := by rw [← hσ1]; exact (Kept.refl σ [r]).setD hb
 have gb1 : σ1.get b = .cells zeL true 0 := by rw [← hσ1]; exact AHeap.get_set_same _ _ _
 have i1 : IsR σ1 r s 0 .nilIface := by rw [← hσ1]; unfold IsR; rw [AHeap.get_set_ne _ _ hbr]; exact hr
 clear hσ1
 refine specRU16 i1 (Nat.zero_le _) (by omega) (fun id q hid σ2 k2 i2 => ?_) fun k q hid σ2 k2 i2 => ?_
 rotate_left
 ·simp only [hid] at hok hbad
  obtain ⟨d,z,hd,he,i3⟩ := i2
  have gb2 := (k2.at gb1 (by simp) (by simpa using hbr)).1
  simp only [zeL,pkC,pkz] at gb2
  have K2 := k1.trans k2
  simp (disch := first | assumption | simp) only [↓sbD,sbU,tyB,↓reduceIte,Nat.reduceEqDiff,Nat.reduceLT,Nat.reduceAdd,Nat.reduceLeDiff,reduceCtorEq,pairs,splice,ZV.val,AS_new,zePk]
  intro y hy
  have hyb : b ≠ y := (nd hy gb2 (by simp)).symm
  have hyr : y ≠ r := nd hy i3 (by simp)
  generalize hσ3 : AHeap.set (AHeap.set σ2 y _) y _ = σ3
  have k3 : Kept σ2 [] σ3 [] := by rw [← hσ3]; exact ((Kept.refl _ []).setD hy).setD hy
  have i4 := i3.kept k3 (by simp)
  have gy3 : σ3.get y = .cells (unsC kind 0 (.slice none 0 0) (.slice none 0 0) (.slice none 0 0)) true 0 := by rw [← hσ3]; exact AHeap.get_set_same _ _ _
  have gb3 := (k3.at gb2 (by simp) (by simp)).1
  clear hσ3
  simp only [unsC] at gy3
  refine specRErr i4 ?_
  simp (disch := first | assumption | simp) only [↓sbD,sbU,tyB,↓reduceIte,Nat.reduceEqDiff,Nat.reduceLT,Nat.reduceAdd,Nat.reduceLeDiff,isConst,splice,gy3,gb3,res_cellc,resC_some]
  exact downS_here (hbad k 129 q rfl (unsP kind 0 [] [] []) _ _ d z (unsC_pk (.inl ⟨rfl,rfl⟩) (.inl ⟨rfl,rfl⟩) (.inl ⟨rfl,rfl⟩)) ((K2.trans (k3.wid (gp := [r]) (gp' := [r]) (fun _ h => by cases h) (fun _ h => .inr h))).setD hb) (by omega) he)
 have hq := numR_ok hid
 simp only [hid] at hok hbad
 have gb2 := (k2.at gb1 (by simp) (by simpa using hbr)).1
 simp only [zeL,pkC,pkz] at gb2
 have K2 := k1.trans k2
 simp (disch := first | assumption | simp) only [↓sbD,sbU,tyB,↓reduceIte,Nat.reduceEqDiff,Nat.reduceLT,Nat.reduceAdd,Nat.reduceLeDiff,reduceCtorEq,pairs,splice,ZV.val,AS_new,zePk]
 intro y hy
 have hyb : b ≠ y := (nd hy gb2 (by simp)).symm
 have hyr : y ≠ r := nd hy i2 (by simp)
 generalize hσ3 : AHeap.set (AHeap.set σ2 y _) y _ = σ3
 have k3 : Kept σ2 [] σ3 [] := by rw [← hσ3]; exact ((Kept.refl _ []).setD hy).setD hy
 have i3 := i2.kept k3 (by simp)
 have gy3 : σ3.get y = .cells (unsC kind id (.slice none 0 0) (.slice none 0 0) (.slice none 0 0)) true 0 := by rw [← hσ3]; exact AHeap.get_set_same _ _ _
 have gb3 := (k3.at gb2 (by simp) (by simp)).1
 have K3 := K2.trans (k3.wid (gp := [r]) (gp' := [r]) (fun _ h => by cases h) (fun _ h => .inr h))
 have M3 : Kept σ2 [r] σ3 [r] := k3.wid (fun _ h => by cases h) (fun _ h => .inr h)
 clear hσ3
 simp only [unsC] at gy3
 have yb : ∀ (τ : AHeap) o,(AHeap.set τ y o).get b = τ.get b := fun τ o => AHeap.get_set_ne _ _ hyb.symm
 refine specRErr i3 ?_
 by_cases h0 : id = 0
 ·have h0' : (id : Int) = 0 := by omega
  simp only [h0,if_true] at hok hbad
  simp (disch := first | assumption | simp) only [↓sbD,sbU,tyB,↓reduceIte,Nat.reduceEqDiff,Nat.reduceLT,Nat.reduceAdd,Nat.reduceLeDiff,reduceCtorEq,isConst,gy3,h0',gk3]
  refine specNew (n := 3) ⟨by omega,by omega⟩ ?_
  simp (disch := first | assumption | simp) only [↓sbD,sbU,tyB,↓reduceIte,Nat.reduceEqDiff,Nat.reduceLT,Nat.reduceAdd,Nat.reduceLeDiff,splice,gb3]
  refine drawS_l (fl := [(0,2)]) (by kernel_rfl) ?_ ?_
  rotate_left; simp only [lastP_cc,lastP_one]; rotate_left
  ·simp only [List.all_cons,List.all_nil,floatS,List.getElem?_cons_succ,List.getElem?_cons_zero,List.getElem?_toArray,Region.wanted,Bool.not_true,Bool.not_false,Bool.or_true,reads,looksWeak,aev_tmp,upd_at,↓reduceIte,Nat.reduceEqDiff,Nat.reduceLT,Nat.reduceAdd,blkOf,oeq_refl,dead_cells,Bool.and_true,Bool.and_self,Bool.false_eq_true,Bool.not_false,gy3]
   try rfl
  simp (disch := first | assumption | simp) only [↓sbD,sbU,tyB,↓reduceIte,Nat.reduceEqDiff,Nat.reduceLT,Nat.reduceAdd,Nat.reduceLeDiff,res_cellc,resC_some]
  exact downS_here (hbad 3 130 0 rfl (unsP kind 0 [] [] []) _ _ 1 _ (unsC_pk (.inl ⟨rfl,rfl⟩) (.inl ⟨rfl,rfl⟩) (.inl ⟨rfl,rfl⟩)) (K3.setD hb) (by omega) (ErN.new _ _ ⟨by omega,by omega⟩))
 have h0' : ¬ (id : Int) = 0 := by omega
 simp only [h0,if_false] at hok hbad
 simp (disch := first | assumption | simp) only [↓sbD,sbU,tyB,decide_false,↓reduceIte,Nat.reduceEqDiff,Nat.reduceLT,reduceCtorEq,isConst,gy3,h0']
 refine specPRead i3 hq.2 hs (fun l q2 hrd v σ4 hv k4 i4 hq4 => ?_) fun k rr a hrd σ4 d z k4 hd he => ?_
 ·have hvc := dl_vc hv
  have gy4 := (k4.at gy3 (by simp) (by simpa using hyr)).1
  have gb4 := (k4.at gb3 (by simp) (by simpa using hbr)).1
  simp (disch := first | assumption | simp) only [↓sbD,sbU,tyB,↓reduceIte,Nat.reduceEqDiff,Nat.reduceLT,Nat.reduceAdd,Nat.reduceLeDiff,reduceCtorEq,splice,gy4,gb4,yb,hvc.1,hvc.2,res_cellc,resC_some]
  exact downS_here (hok id l q2 ⟨_,hrd,rfl⟩ v _ hv (((K2.trans (M3.trans k4)).trans ((Kept.refl _ _).self)).self.trans (Kept.refl _ _) |> fun K => (k1.trans ((k2.trans ((M3.trans k4).setD hy)))).setD hb) (by unfold IsR; rw [AHeap.get_set_ne _ _ hbr,AHeap.get_set_ne _ _ hyr]; exact i4) hq4)
 ·have gy4 := (k4.at gy3 (by simp) (by simpa using hyr)).1
  have gb4 := (k4.at gb3 (by simp) (by simpa using hbr)).1
  simp (disch := first | assumption | simp) only [↓sbD,sbU,tyB,↓reduceIte,Nat.reduceEqDiff,Nat.reduceLT,Nat.reduceAdd,Nat.reduceLeDiff,reduceCtorEq,splice,gy4,gb4,yb,res_cellc,resC_some]
  exact downS_here (hbad k rr a ⟨_,hrd,rfl⟩ (unsP kind id [] [] []) _ _ d z (unsC_pk (.inl ⟨rfl,rfl⟩) (.inl ⟨rfl,rfl⟩) (.inl ⟨rfl,rfl⟩)) ((k1.trans (k2.trans ((M3.trans k4).setD hy))).setD hb) (by omega) he)
theorem specUCode (hr : IsR σ r s p .nilIface) (hp : p < s.size) (hs : s.size ≤ 100000000)
  (hok : ∀ c q,codeO 11 s p = .ok (c,q) → ∀ σ',Kept σ [r] σ' [r] → IsR σ' r s q .nilIface → p < q → q ≤ s.size → Q (.tuple #[.int .i64 c,.nilIface]) σ')
  (hbad : ∀ k rr a : Nat,codeO 11 s p = .error (k,rr,a) → ∀ σ' d z q',Kept σ [r] σ' [r] → IsR σ' r s q' .nilIface → d ≤ 3 → ErN d (fv rr a z) k → Q (.tuple #[.int .i64 0,fv rr a z]) σ') :
  CallS E B 88 [.pointer (some ⟨r,0,none⟩)] σ Q := by
 obtain ⟨n,hn⟩ := numR_one hp
 unfold codeO at hok hbad
 simp only [hn] at hok hbad
 refine call88 (by simp) ?_
 simp only [strip,bodyOf,Tryz.f88,getD_body,keepN,bareOp_mk,List.map_cons,List.map_nil,↓reduceIte,Bool.false_eq_true]
 simp (disch := first | assumption | simp) only [↓sbD,sbU,↓reduceIte,Nat.reduceLT,reduceCtorEq]
 refine specRAt hr ?_
 simp (disch := first | assumption | simp) only [↓sbD,sbU,↓reduceIte,Nat.reduceLT,reduceCtorEq]
 refine specRU8 hr (by omega) (by omega) (fun n' q' hn' σ1 k1 i1 => ?_) fun k q' hn' σ1 k1 i1 => by rw [hn] at hn'; cases hn'
 rw [hn] at hn'
 simp only [Except.ok.injEq,Prod.mk.injEq] at hn'
 obtain ⟨rfl,rfl⟩ := hn'
 simp (disch := first | assumption | simp) only [↓sbD,sbU,↓reduceIte,Nat.reduceLT]
 refine specAlwR ?_
 cases ha : alw 11 (n : Int) with
 | false =>
  simp only [ha,Bool.false_eq_true,if_false] at hbad
  simp (disch := first | assumption | simp) only [↓sbD,sbU,tyB,↓reduceIte,Nat.reduceEqDiff,Nat.reduceLT,not_bool,gk2]
  refine specNew (n := 2) ⟨by omega,by omega⟩ ?_
  simp (disch := first | assumption | simp) only [↓sbD,sbU,↓reduceIte,Nat.reduceEqDiff,Nat.reduceLT]
  exact downS_here (hbad 2 129 p rfl _ 1 _ _ k1 i1 (by omega) (ErN.new _ _ ⟨by omega,by omega⟩))
 | true =>
  simp only [ha,if_true] at hok
  simp (disch := first | assumption | simp) only [↓sbD,sbU,↓reduceIte,Nat.reduceEqDiff,Nat.reduceLT,not_bool]
  exact downS_here (hok _ _ rfl _ k1 i1 (by omega) (by omega))
theorem specU87c {y c : Nat} {id : Int} {vp v : Value} {l : List Int} {fp : List Nat} (gy : σ.get y = .cells (unsC 11 id vp (.slice none 0 0) v) true 0) (gc : σ.get c = .cells [.pointer (some ⟨r,0,none⟩)] true 0)
  (hr : IsR σ r s p .nilIface) (hg : DG intC 1 σ v l fp) (hl : l.length ≤ 100) (hp : p < s.size) (hs : s.size ≤ 100000000)
  (hok : ∀ x q,codeO 11 s p = .ok (x,q) → ∀ σ' v' fp',Kept σ (r :: y :: fp) σ' (r :: y :: fp') → σ'.get y = .cells (unsC 11 id vp (.slice none 0 0) v') true 0 → IsR σ' r s q .nilIface → DG intC 1 σ' v' (l ++ [x]) fp' → p ≤ q → q ≤ s.size → Q .nilIface σ')
  (hbad : ∀ k rr a : Nat,codeO 11 s p = .error (k,rr,a) → ∀ σ' fp' d z,Kept σ (r :: y :: fp) σ' (r :: y :: fp') → d ≤ 3 → ErN d (fv rr a z) k → Q (fv rr a z) σ') :
  CallS E B 87 [.pointer (some ⟨y,0,none⟩),.pointer (some ⟨c,0,none⟩)] σ Q := by
 have hry : r ≠ y := by
  rintro rfl
  unfold IsR at hr
  rw [hr] at gy
  simp only [unsC] at gy
  injection gy with h _ _
  cases h
 have hrc : c ≠ r := by
  rintro rfl
  unfold IsR at hr
  rw [hr] at gc
  cases gc
 have hcy : c ≠ y := by
  rintro rfl
  rw [gc] at gy
  simp only [unsC] at gy
  injection gy with h _ _
  cases h
 have yc : ∀ (τ : AHeap) o,(AHeap.set τ y o).get c = τ.get c := fun τ o => AHeap.get_set_ne _ _ hcy.symm
 simp only [unsC] at gy
 have hyf := hg.nin gy
 have hrf := hg.nin hr
 have hgv := dl_vc hg.dl
 have tail : ∀ (x : Int) (σ1 : AHeap) (p1 : Nat) (e1 : Value),Kept σ [r] σ1 [r] → IsR σ1 r s p1 e1 → ∀ {K : Value → AHeap → Prop},(∀ σ2 v' fp',Kept σ (r :: y :: fp) σ2 (r :: y :: fp') → σ2.get y = σ.get y → IsR σ2 r s p1 e1 → DG intC 1 σ2 v' (l ++ [x]) fp' → y ∉ fp' → K v' σ2) →
   afterOpS E B (some (.any fun b => aappend E (σ1.resize b) [52,52] [v,dsl 1 1 1 [.int .i64 x]])) σ1 K := by
  intro x σ1 p1 e1 k1 i1 K hK
  have gy1 := (k1.at gy (by simp) (by simpa using hry.symm)).1
  refine app_in (xs := [x]) (hg.kept k1 (fun b hb hm => hrf (by obtain rfl := List.mem_singleton.1 hm; exact hb))) (.inr ⟨1,rfl⟩) (by simp only [List.length_cons,List.length_nil]; omega) fun σ2 v' fp' k2 g2 => ?_
  have gy2 := (k2.at gy1 (by simp) hyf)
  refine hK σ2 v' fp' ?_ (by rw [gy]; exact gy2.1) (k2.at i1 (by simp) hrf).1 g2 gy2.2
  exact (k1.wid (gp := r :: y :: fp) (gp' := r :: y :: fp) (fun b hb => by simp at hb; simp [hb]) (fun b hb => .inr hb)).trans (k2.wid (gp := r :: y :: fp) (gp' := r :: y :: fp') (fun b hb => by simp [hb]) (fun b hb => by simp only [List.mem_cons] at hb ⊢; rcases hb with hb | hb | hb <;> simp [hb]))
 have fin : ∀ {σ2 : AHeap} {v' : Value} {fp' : List Nat} {o : AObj},Kept σ (r :: y :: fp) σ2 (r :: y :: fp') → Kept σ (r :: y :: fp) (σ2.set y o) (r :: y :: fp') := fun k => k.trans (Kept.set (by simp))
 have setr : ∀ {σ2 : AHeap} {o : AObj} {p1 : Nat} {e1 : Value},IsR σ2 r s p1 e1 → IsR (σ2.set y o) r s p1 e1 := fun h => by unfold IsR; rw [AHeap.get_set_ne _ _ hry.symm]; exact h
 have setg : ∀ {σ2 : AHeap} {o : AObj} {v' : Value} {l' : List Int} {fp' : List Nat},DG intC 1 σ2 v' l' fp' → y ∉ fp' → DG intC 1 (σ2.set y o) v' l' fp' := fun h hy => h.kept (Kept.set (fp := [y]) (by simp)) (fun b hb hm => hy (by obtain rfl := List.mem_singleton.1 hm; exact hb))
 refine call87 (by simp) ?_
 simp only [strip,bodyOf,Tryz.f87,getD_body,keepN,bareOp_mk,lessOp_mk,List.map_cons,List.map_nil,↓reduceIte,Nat.reduceEqDiff,Bool.false_eq_true]
 simp (disch := first | assumption | simp) only [↓sbD,sbU,tyB,↓reduceIte,Nat.reduceEqDiff,Nat.reduceLT,reduceCtorEq,isConst,gy,gc]
 refine specUCode hr hp hs (fun x q hx σ1 k1 i1 hpq hq => ?_) fun k rr a hx σ1 d z _ k1 i1 hd he => ?_
 ·have gy1 := (k1.at gy (by simp) (by simpa using hry.symm)).1
  simp (disch := first | assumption | simp) only [↓sbD,sbU,tyB,Nat.reduceBneDiff,decide_false,gt_iff_lt,Bool.or_self,Bool.false_eq_true,Nat.mul_one,↓reduceIte,Nat.reduceEqDiff,Nat.reduceLT,Nat.reduceLeDiff,reduceCtorEq,pairs,splice,Edp,dpv,ZV.val,gy1]
  refine tail x σ1 q _ k1 i1 fun σ2 v' fp' K2 gy2 i2 g2 hyp => ?_
  rw [gy] at gy2
  have hvc := dl_vc g2.dl
  simp (disch := first | assumption | simp) only [↓sbD,sbU,tyB,↓reduceIte,Nat.reduceEqDiff,Nat.reduceLT,Nat.reduceAdd,Nat.reduceLeDiff,reduceCtorEq,splice,gy2,hvc.1,hvc.2]
  exact downS_here (hok x q hx _ v' fp' (fin (v' := v') K2) (AHeap.get_set_same _ _ _) (setr i2) (setg g2 hyp) (by omega) hq)
 ·have gy1 := (k1.at gy (by simp) (by simpa using hry.symm)).1
  simp (disch := first | assumption | simp) only [↓sbD,sbU,tyB,Nat.reduceBneDiff,decide_false,gt_iff_lt,Bool.or_self,Bool.false_eq_true,Nat.mul_one,↓reduceIte,Nat.reduceEqDiff,Nat.reduceLT,Nat.reduceLeDiff,reduceCtorEq,pairs,splice,Edp,dpv,ZV.val,gy1]
  refine tail 0 σ1 _ _ k1 i1 fun σ2 v' fp' K2 gy2 i2 g2 hyp => ?_
  rw [gy] at gy2
  have hvc := dl_vc g2.dl
  simp (disch := first | assumption | simp) only [↓sbD,sbU,tyB,↓reduceIte,Nat.reduceEqDiff,Nat.reduceLT,Nat.reduceAdd,Nat.reduceLeDiff,reduceCtorEq,splice,gy2,hvc.1,hvc.2]
  exact downS_here (hbad k rr a hx _ fp' d z (fin (v' := v') K2) hd he)
theorem specU87f {y c : Nat} {id : Int} {vp v : Value} {l : List ByteArray} {fp : List Nat} (gy : σ.get y = .cells (unsC 10 id vp v (.slice none 0 0)) true 0) (gc : σ.get c = .cells [.pointer (some ⟨r,0,none⟩)] true 0)
  (hr : IsR σ r s p .nilIface) (hg : DG strC1 1 σ v l fp) (hl : l.length ≤ 100) (hp : p < s.size) (hs : s.size ≤ 100000000)
  (hok : ∀ x q,filO s p = .ok (x,q) → ∀ σ' v' fp',Kept σ (r :: y :: fp) σ' (r :: y :: fp') → σ'.get y = .cells (unsC 10 id vp v' (.slice none 0 0)) true 0 → IsR σ' r s q .nilIface → DG strC1 1 σ' v' (l ++ [x]) fp' → p ≤ q → q ≤ s.size → Q .nilIface σ')
  (hbad : ∀ k rr a : Nat,filO s p = .error (k,rr,a) → ∀ σ' fp' d z,Kept σ (r :: y :: fp) σ' (r :: y :: fp') → d ≤ 3 → ErN d (fv rr a z) k → Q (fv rr a z) σ') :
  CallS E B 87 [.pointer (some ⟨y,0,none⟩),.pointer (some ⟨c,0,none⟩)] σ Q := by
 have hry : r ≠ y := by
  rintro rfl
  unfold IsR at hr
  rw [hr] at gy
  simp only [unsC] at gy
  injection gy with h _ _
  cases h
 have hrc : c ≠ r := by
  rintro rfl
  unfold IsR at hr
  rw [hr] at gc
  cases gc
 have hcy : c ≠ y := by
  rintro rfl
  rw [gc] at gy
  simp only [unsC] at gy
  injection gy with h _ _
  cases h
 have yc : ∀ (τ : AHeap) o,(AHeap.set τ y o).get c = τ.get c := fun τ o => AHeap.get_set_ne _ _ hcy.symm
 simp only [unsC] at gy
 have hyf := hg.nin gy
 have hrf := hg.nin hr
 have hgv := dl_vc hg.dl
 have tail : ∀ (x : ByteArray) (σ1 : AHeap) (p1 : Nat) (e1 : Value),Kept σ [r] σ1 [r] → IsR σ1 r s p1 e1 → ∀ {K : Value → AHeap → Prop},(∀ σ2 v' fp',Kept σ (r :: y :: fp) σ2 (r :: y :: fp') → σ2.get y = σ.get y → IsR σ2 r s p1 e1 → DG strC1 1 σ2 v' (l ++ [x]) fp' → y ∉ fp' → K v' σ2) →
   afterOpS E B (some (.any fun b => aappend E (σ1.resize b) [51,51] [v,dsl 1 1 1 [.string x]])) σ1 K := by
  intro x σ1 p1 e1 k1 i1 K hK
  have gy1 := (k1.at gy (by simp) (by simpa using hry.symm)).1
  refine app_st (xs := [x]) (hg.kept k1 (fun b hb hm => hrf (by obtain rfl := List.mem_singleton.1 hm; exact hb))) (.inr ⟨1,rfl⟩) (by simp only [List.length_cons,List.length_nil]; omega) fun σ2 v' fp' k2 g2 => ?_
  have gy2 := (k2.at gy1 (by simp) hyf)
  refine hK σ2 v' fp' ?_ (by rw [gy]; exact gy2.1) (k2.at i1 (by simp) hrf).1 g2 gy2.2
  exact (k1.wid (gp := r :: y :: fp) (gp' := r :: y :: fp) (fun b hb => by simp at hb; simp [hb]) (fun b hb => .inr hb)).trans (k2.wid (gp := r :: y :: fp) (gp' := r :: y :: fp') (fun b hb => by simp [hb]) (fun b hb => by simp only [List.mem_cons] at hb ⊢; rcases hb with hb | hb | hb <;> simp [hb]))
 have fin : ∀ {σ2 : AHeap} {v' : Value} {fp' : List Nat} {o : AObj},Kept σ (r :: y :: fp) σ2 (r :: y :: fp') → Kept σ (r :: y :: fp) (σ2.set y o) (r :: y :: fp') := fun k => k.trans (Kept.set (by simp))
 have setr : ∀ {σ2 : AHeap} {o : AObj} {p1 : Nat} {e1 : Value},IsR σ2 r s p1 e1 → IsR (σ2.set y o) r s p1 e1 := fun h => by unfold IsR; rw [AHeap.get_set_ne _ _ hry.symm]; exact h
 have setg : ∀ {σ2 : AHeap} {o : AObj} {v' : Value} {l' : List ByteArray} {fp' : List Nat},DG strC1 1 σ2 v' l' fp' → y ∉ fp' → DG strC1 1 (σ2.set y o) v' l' fp' := fun h hy => h.kept (Kept.set (fp := [y]) (by simp)) (fun b hb hm => hy (by obtain rfl := List.mem_singleton.1 hm; exact hb))
 refine call87 (by simp) ?_
 simp only [strip,bodyOf,Tryz.f87,getD_body,keepN,bareOp_mk,lessOp_mk,List.map_cons,List.map_nil,↓reduceIte,Nat.reduceEqDiff,Bool.false_eq_true]
 simp (disch := first | assumption | simp) only [↓sbD,sbU,tyB,Int.reduceEq,decide_false,↓reduceIte,Nat.reduceEqDiff,Nat.reduceLT,reduceCtorEq,isConst,gy,gc]
 refine specDText hr (by omega) (by omega) (fun x q hx σ1 k1 i1 => ?_) fun k q hx σ1 k1 i1 => ?_
 ·have gy1 := (k1.at gy (by simp) (by simpa using hry.symm)).1
  have hq := textR_ok hx
  simp (disch := first | assumption | simp) only [↓sbD,sbU,tyB,Nat.reduceBneDiff,decide_false,gt_iff_lt,Bool.or_self,Bool.false_eq_true,Nat.mul_one,↓reduceIte,Nat.reduceEqDiff,Nat.reduceLT,Nat.reduceLeDiff,reduceCtorEq,pairs,splice,Edp,dpv,ZV.val]
  refine tail x σ1 q _ k1 i1 fun σ2 v' fp' K2 gy2 i2 g2 hyp => ?_
  rw [gy] at gy2
  have gc2 := (K2.at gc (by simp) (by simp [hrc,hcy,hg.nin gc])).1
  have hvc := dl_vc g2.dl
  simp (disch := first | assumption | simp) only [↓sbD,sbU,tyB,↓reduceIte,Nat.reduceEqDiff,Nat.reduceLT,Nat.reduceAdd,Nat.reduceLeDiff,reduceCtorEq,splice,gy2,hvc.1,hvc.2]
  refine drawS_l (fl := [(1,3)]) (by kernel_rfl) ?_ ?_
  rotate_left; simp only [lastP_cc,lastP_one]; rotate_left
  ·simp only [List.all_cons,List.all_nil,floatS,List.getElem?_cons_succ,List.getElem?_cons_zero,List.getElem?_toArray,Region.wanted,Bool.not_true,Bool.not_false,Bool.or_true,reads,looksWeak,aev_tmp,upd_at,↓reduceIte,Nat.reduceLT,Nat.reduceAdd,blkOf,oeq_refl,dead_cells,Bool.and_self,Bool.false_eq_true,Bool.not_false,gy,gy1]
   try rfl
  simp (disch := first | assumption | simp) only [↓sbD,sbU,tyB,↓reduceIte,Nat.reduceEqDiff,Nat.reduceLT,gc2,yc]
  refine specRErr (setr i2) ?_
  simp (disch := first | assumption | simp) only [↓sbD,sbU,↓reduceIte,Nat.reduceLT]
  exact downS_here (hok x q (by unfold filO; rw [hx]) _ v' fp' (fin (v' := v') K2) (AHeap.get_set_same _ _ _) (setr i2) (setg g2 hyp) (by omega) hq.2)
 ·obtain ⟨d,z,hd,he,i1⟩ := i1
  have gy1 := (k1.at gy (by simp) (by simpa using hry.symm)).1
  simp (disch := first | assumption | simp) only [↓sbD,sbU,tyB,Nat.reduceBneDiff,decide_false,gt_iff_lt,Bool.or_self,Bool.false_eq_true,Nat.mul_one,↓reduceIte,Nat.reduceEqDiff,Nat.reduceLT,Nat.reduceLeDiff,reduceCtorEq,pairs,splice,Edp,dpv,ZV.val]
  refine tail emp σ1 _ _ k1 i1 fun σ2 v' fp' K2 gy2 i2 g2 hyp => ?_
  rw [gy] at gy2
  have gc2 := (K2.at gc (by simp) (by simp [hrc,hcy,hg.nin gc])).1
  have hvc := dl_vc g2.dl
  simp (disch := first | assumption | simp) only [↓sbD,sbU,tyB,↓reduceIte,Nat.reduceEqDiff,Nat.reduceLT,Nat.reduceAdd,Nat.reduceLeDiff,reduceCtorEq,splice,gy2,hvc.1,hvc.2]
  refine drawS_l (fl := [(1,3)]) (by kernel_rfl) ?_ ?_
  rotate_left; simp only [lastP_cc,lastP_one]; rotate_left
  ·simp only [List.all_cons,List.all_nil,floatS,List.getElem?_cons_succ,List.getElem?_cons_zero,List.getElem?_toArray,Region.wanted,Bool.not_true,Bool.not_false,Bool.or_true,reads,looksWeak,aev_tmp,upd_at,↓reduceIte,Nat.reduceLT,Nat.reduceAdd,blkOf,oeq_refl,dead_cells,Bool.and_self,Bool.false_eq_true,Bool.not_false,gy,gy1]
   try rfl
  simp (disch := first | assumption | simp) only [↓sbD,sbU,tyB,↓reduceIte,Nat.reduceEqDiff,Nat.reduceLT,gc2,yc]
  refine specRErr (setr i2) ?_
  simp (disch := first | assumption | simp) only [↓sbD,sbU,↓reduceIte,Nat.reduceLT]
  exact downS_here (hbad k 129 q (by unfold filO; rw [hx]) _ fp' d z (fin (v' := v') K2) (by omega) he)
end
theorem Kept.add {σ σ' : AHeap} {fp fp' : List Nat} {y : Nat} {o : AObj} (k : Kept σ fp σ' fp') (hy : σ'.get y = .dead) : Kept σ fp (σ'.set y o) (y :: fp') where
 get b hb hn := by
  by_cases h : b = y
  ·subst h
   have := k.get b hb hn
   rw [hy] at this
   exact absurd this.symm hb
  ·rw [AHeap.get_set_ne _ _ (Ne.symm h)]; exact k.get b hb hn
 new b hb := by
  rcases List.mem_cons.1 hb with rfl | hb
  ·by_cases h1 : σ.get b = .dead
   ·exact .inr h1
   ·by_cases h2 : b ∈ fp
    ·exact .inl h2
    ·have := k.get b h1 h2
     rw [hy] at this
     exact absurd this.symm h1
  ·exact k.new b hb
theorem zePR : azero E 67 = some [.pointer none] := rfl
section
variable {σ : AHeap} {Q : Value → AHeap → Prop} {r q p : Nat} {s : ByteArray}
theorem specUEach {α : Type} {one : Nat → Except E3 (α × Nat)} {y c p0 : Nat} (INV : AHeap → Nat → List α → Prop) (BAD : AHeap → Prop)
  (hR : ∀ σ p l,INV σ p l → IsR σ r s p .nilIface) (hB : ∀ σ p l,INV σ p l → BAD σ) (hs : s.size ≤ 100000000)
  (hstep : ∀ σ p l,INV σ p l → p < s.size → l.length ≤ 40 → ∀ {Q : Value → AHeap → Prop},(∀ x q,one p = .ok (x,q) → ∀ σ',INV σ' q (l ++ [x]) → q ≤ s.size → Q .nilIface σ') →
    (∀ k rr a : Nat,one p = .error (k,rr,a) → ∀ σ' d z,BAD σ' → d ≤ 3 → ErN d (fv rr a z) k → Q (fv rr a z) σ') → CallS E B 87 [.pointer (some ⟨y,0,none⟩),.pointer (some ⟨c,0,none⟩)] σ Q)
  (h0 : INV σ p0 []) (hp0 : p0 ≤ s.size)
  (hok : ∀ l σ' p,Parts s.size one p0 [] (.ok l) → INV σ' p l → Q .nilIface σ')
  (hbad : ∀ k rr a : Nat,Parts s.size one p0 [] (.error (k,rr,a)) → ∀ σ' d z,BAD σ' → d ≤ 3 → ErN d (fv rr a z) k → Q (fv rr a z) σ') :
  CallS E B 86 [.pointer (some ⟨r,0,none⟩),.func (.func 87) ⟨[]⟩ ⟨[.pointer (some ⟨y,0,none⟩),.pointer (some ⟨c,0,none⟩)]⟩] σ Q := by
 refine call86 (by simp) ?_
 simp only [strip,bodyOf,Tryz.f86,getD_body,keepN,bareOp_mk,lessOp_mk,List.map_cons,List.map_nil,↓reduceIte,Nat.reduceEqDiff,Bool.false_eq_true]
 simp (disch := first | assumption | simp) only [↓sbD,sbU]
 refine S_loop (fun m f σ' => ∃ (p : Nat) (l : List α),m + l.length = 32 ∧ p ≤ s.size ∧ INV σ' p l ∧ f 5 = .int .i64 (l.length : Int) ∧ ∀ R,Parts s.size one p l R → Parts s.size one p0 [] R) 32 (Le.refl _) ⟨p0,[],rfl,hp0,h0,by simp (disch := first | assumption | simp) only [sbU,↓reduceIte]; rfl,fun R h => h⟩ ?_
 rintro m f σ1 ⟨p,l,hm,hp,hi,f5,hback⟩ hf
 have f0 := hf 0 (by decide) (notMem_wr (by kernel_rfl))
 have f1 := hf 1 (by decide) (notMem_wr (by kernel_rfl))
 simp (disch := first | assumption | simp) only [sbU,↓reduceIte,Nat.reduceEqDiff,reduceCtorEq] at f0 f1
 clear hf
 have hr := hR _ _ _ hi
 simp (disch := first | assumption | simp) only [↓sbD,sbU,↓reduceIte,Nat.reduceLT,f0]
 refine specRLeft hr hp (by omega) ?_
 by_cases hlt : p < s.size
 ·have hl0 : (0 : Int) < ((s.size - p : Nat) : Int) := by omega
  by_cases h32 : l.length = 32
  ·have h32' : (l.length : Int) = 32 := by omega
   simp (disch := first | assumption | simp) only [↓sbD,sbU,↓reduceIte,Nat.reduceEqDiff,Nat.reduceLT,reduceCtorEq,isConst,f0,f5,hl0,h32']
   refine specRAt hr ?_
   simp (disch := first | assumption | simp) only [↓sbD,sbU,tyB,↓reduceIte,Nat.reduceEqDiff,Nat.reduceLT,gk4]
   refine specNew (n := 4) ⟨by omega,by omega⟩ ?_
   simp (disch := first | assumption | simp) only [↓sbD,sbU,↓reduceIte,Nat.reduceLT]
   refine drawS_l (fl := [(2,1)]) (by kernel_rfl) ?_ ?_
   rotate_left; simp only [lastP_cc,lastP_one]; rotate_left
   ·simp only [List.all_cons,List.all_nil,floatS,List.getElem?_cons_succ,List.getElem?_cons_zero,List.getElem?_toArray,Region.wanted,Bool.not_true,Bool.false_or,reads,looksWeak,↓reduceIte,Nat.reduceAdd,blkOf,oeq_refl,Bool.and_true,Bool.and_self,Bool.false_eq_true]
    try rfl
   simp (disch := first | assumption | simp) only [↓sbD,sbU,↓reduceIte,Nat.reduceLT]
   exact downS_here (hbad 4 149 p (hback _ (.many hlt h32)) _ 1 _ (hB _ _ _ hi) (by omega) (ErN.new _ _ ⟨by omega,by omega⟩))
  ·have h32' : ¬ (l.length : Int) = 32 := by omega
   have hw := wrap_suc (n := l.length) (by omega)
   simp (disch := first | assumption | simp) only [↓sbD,sbU,decide_false,↓reduceIte,Nat.reduceEqDiff,Nat.reduceLT,isConst,f1,f5,hl0,h32']
   refine hstep σ1 p l hi hlt (by omega) (fun x q hx σ2 hi2 hq => ?_) fun k rr a hx σ2 d z hb hd he => ?_
   ·simp (disch := first | assumption | simp) only [↓sbD,sbU,tyB,↓reduceIte,Nat.reduceEqDiff,Nat.reduceLT,isConst,f5,hw]
    exact ⟨_,m - 1,σ2,rfl,by omega,Le.refl _,q,l ++ [x],by rw [List.length_append]; simp only [List.length_cons,List.length_nil]; omega,hq,hi2,by rw [List.length_append]; rfl,fun R h => hback R (.step hlt h32 hx h)⟩
   ·simp (disch := first | assumption | simp) only [↓sbD,sbU,tyB,↓reduceIte,Nat.reduceEqDiff,Nat.reduceLT,isConst]
    exact downS_here (hbad k rr a (hback _ (.bad hlt h32 hx)) _ d z hb hd he)
 ·have hl0 : ¬ (0 : Int) < ((s.size - p : Nat) : Int) := by omega
  by_cases hn : l = []
  ·subst hn
   simp (disch := first | assumption | simp) only [↓sbD,sbU,decide_false,↓reduceIte,Nat.reduceEqDiff,Nat.reduceLT,reduceCtorEq,isConst,f0,f5,hl0,show ((0 : Nat) : Int) = 0 from rfl]
   refine specRAt hr ?_
   simp (disch := first | assumption | simp) only [↓sbD,sbU,tyB,↓reduceIte,Nat.reduceEqDiff,Nat.reduceLT,gk3]
   refine specNew (n := 3) ⟨by omega,by omega⟩ ?_
   simp (disch := first | assumption | simp) only [↓sbD,sbU,↓reduceIte,Nat.reduceLT]
   refine drawS_l (fl := [(2,1)]) (by kernel_rfl) ?_ ?_
   rotate_left; simp only [lastP_cc,lastP_one]; rotate_left
   ·simp only [List.all_cons,List.all_nil,floatS,List.getElem?_cons_succ,List.getElem?_cons_zero,List.getElem?_toArray,Region.wanted,Bool.not_true,Bool.false_or,reads,looksWeak,↓reduceIte,Nat.reduceAdd,blkOf,oeq_refl,Bool.and_true,Bool.and_self,Bool.false_eq_true]
    try rfl
   simp (disch := first | assumption | simp) only [↓sbD,sbU,↓reduceIte,Nat.reduceLT]
   exact downS_here (hbad 3 130 p (hback _ (.none (by omega))) _ 1 _ (hB _ _ _ hi) (by omega) (ErN.new _ _ ⟨by omega,by omega⟩))
  ·have hn' : ¬ (l.length : Int) = 0 := fun h => hn (List.length_eq_zero_iff.1 (by omega))
   simp (disch := first | assumption | simp) only [↓sbD,sbU,decide_false,↓reduceIte,Nat.reduceEqDiff,Nat.reduceLT,isConst,f5,hl0,hn']
   exact downS_here (hok l σ1 p (hback _ (.done (by omega) hn)) hi)
theorem specUDec {f : Int} (hs : s.size ≤ 100000000)
  (hok : ∀ p,DecU f s (.ok p) → ∀ v σ',PkV p v → Kept σ [] σ' [] → Q (.tuple #[v,.nilIface]) σ')
  (hbad : ∀ k rr a : Nat,DecU f s (.error (k,rr,a)) → ∀ σ' d z,Kept σ [] σ' [] → d ≤ 3 → ErN d (fv rr a z) k → Q (.tuple #[.agg ⟨zeL⟩,fv rr a z]) σ') :
  CallS E B 37 [.agg ⟨[.int .i64 f,.string s]⟩] σ Q := by
 unfold DecU at hok hbad
 refine call37 (by simp) ?_
 simp only [strip,bodyOf,Tryz.f37,getD_body,keepN,bareOp_mk,List.map_cons,List.map_nil,↓reduceIte,Bool.false_eq_true]
 have ALT : ∀ {P : Prop},(f = 162 → P) → (f = 176 → P) → (f ≠ 162 → f ≠ 176 → P) → P := fun a b c => by
  by_cases h1 : f = 162
  ·exact a h1
  ·by_cases h2 : f = 176
   ·exact b h2
   ·exact c h1 h2
 refine ALT (fun hf => ?_) (fun hf => ?_) fun n1 n2 => ?_
 rotate_left; rotate_left
 ·simp only [if_pos (And.intro n1 n2)] at hok hbad
  simp (disch := first | assumption | simp) only [↓sbD,sbU,tyB,↓reduceIte,Nat.reduceEqDiff,Nat.reduceLT,reduceCtorEq,pairs,isConst,boxS,Edp,dpv,ZV.val,AS_new,zePk,n1,n2]
  intro b hb
  simp (disch := first | assumption | simp) only [↓sbD,sbU,↓reduceIte,Nat.reduceLT,gk2]
  refine specNew (n := 2) ⟨by omega,by omega⟩ ?_
  simp (disch := first | assumption | simp) only [↓sbD,sbU,tyB,↓reduceIte,Nat.reduceEqDiff,Nat.reduceLT,Nat.reduceAdd,Nat.reduceLeDiff,splice,res_cellc,resC_some]
  exact downS_here (hbad 2 129 0 rfl _ 1 _ (((Kept.refl σ []).setD hb).setD hb) (by omega) (ErN.new _ _ ⟨by omega,by omega⟩))
 ·subst hf
  have shr : ∀ (σ : AHeap) (t : Nat) (cs : Bool),abin E σ .shr t cs (.int .i64 162) (.int .u64 4) = some (.int .i64 10) := fun σ t cs => rfl
  have hk : (162 : Int) / 16 = 10 := by decide
  have hf : ¬ ((162 : Int) ≠ 162 ∧ (162 : Int) ≠ 176) := by decide
  simp only [if_neg hf,hk] at hok hbad
  simp (disch := first | assumption | simp) only [↓sbD,sbU,tyB,decide_false,↓reduceIte,Nat.reduceEqDiff,Nat.reduceLT,reduceCtorEq,isConst,boxS,Edp,dpv,AS_new,zePk]
  intro b hb
  generalize hσ1 : AHeap.set σ b _ = σ1
  have k1 : Kept σ [] σ1 [] := by rw [← hσ1]; exact (Kept.refl σ []).setD hb
  have gb1 : σ1.get b = .cells zeL true 0 := by rw [← hσ1]; exact AHeap.get_set_same _ _ _
  simp only [zeL,pkC,pkz] at gb1
  clear hσ1
  have FIN : ∀ {τ : AHeap} {o : AObj},Kept σ1 [] τ [] → Kept σ [] (τ.set b o) [] := fun kt => (k1.trans kt).setD hb
  refine specRNew fun r σ2 hr k2 i2 => ?_
  simp (disch := first | assumption | simp) only [↓sbD,sbU,tyB,↓reduceIte,Nat.reduceEqDiff,Nat.reduceLT,Nat.reduceLeDiff,reduceCtorEq,isConst,splice,AS_new,zePR]
  intro c hc
  have hcr : c ≠ r := nd hc i2 (by simp)
  generalize hσ3 : AHeap.set (AHeap.set σ2 c _) c _ = σ3
  have k3 : Kept σ2 [] σ3 [] := by rw [← hσ3]; exact ((Kept.refl _ []).setD hc).setD hc
  have gc3 : σ3.get c = .cells [.pointer (some ⟨r,0,none⟩)] true 0 := by rw [← hσ3]; exact AHeap.get_set_same _ _ _
  have i3 := i2.kept k3 (by simp)
  have K3 : Kept σ1 [] σ3 [r] := k2.trans (k3.wid (fun _ h => by cases h) (fun _ h => .inr h))
  clear hσ3
  simp (disch := first | assumption | simp) only [↓sbD,sbU,↓reduceIte,Nat.reduceEqDiff,Nat.reduceLT,shr]
  refine specUHead i3 hs (fun id l q hh v σ4 hv k4 i4 hq4 => ?_) fun k rr a hh y w σ4 d z hw k4 hd he => ?_
  ·have gc4 := (k4.at gc3 (by simp) (by simpa using hcr)).1
   have K4 := K3.trans k4
   have hvc := dl_vc hv
   simp only [unsC]
   simp (disch := first | assumption | simp) only [↓sbD,sbU,tyB,↓reduceIte,Nat.reduceEqDiff,Nat.reduceLT,Nat.reduceAdd,Nat.reduceLeDiff,isConst,splice,AS_new,zePk,hvc.2]
   intro y hy
   generalize hσ5 : AHeap.set (AHeap.set σ4 y _) y _ = σ5
   have gy5 : σ5.get y = .cells (unsC 10 id v (.slice none 0 0) (.slice none 0 0)) true 0 := by rw [← hσ5]; exact AHeap.get_set_same _ _ _
   have hyr : y ≠ r := nd hy i4 (by simp)
   have hyc : y ≠ c := nd hy gc4 (by simp)
   have k5 : Kept σ4 [] σ5 [] := by rw [← hσ5]; exact ((Kept.refl _ []).setD hy).setD hy
   have i5 := i4.kept k5 (by simp)
   have gc5 := (k5.at gc4 (by simp) (by simp)).1
   have K5 : Kept σ1 [] σ5 [r,y] := by
    rw [← hσ5]
    exact (((K4.add (o := _) hy).wid (gp := []) (gp' := [r,y]) (fun _ h => h) (fun b h => by simp only [List.mem_cons,List.not_mem_nil,or_false] at h; rcases h with h | h <;> simp [h]))).trans (Kept.set (by simp))
   clear hσ5
   simp (disch := first | assumption | simp) only [↓sbD,sbU,↓reduceIte,Nat.reduceEqDiff,Nat.reduceLT,gc5,List.map_toArray]
   refine specUEach (one := filO s) (y := y) (c := c) (p0 := q) (fun τ p l => ∃ v' fp,τ.get y = .cells (unsC 10 id v v' (.slice none 0 0)) true 0 ∧ τ.get c = .cells [.pointer (some ⟨r,0,none⟩)] true 0 ∧ IsR τ r s p .nilIface ∧ DG strC1 1 τ v' l fp ∧ Kept σ5 [r,y] τ (r :: y :: fp))
    (fun τ => Kept σ5 [r,y] τ [])
    (fun τ p l h => by obtain ⟨_,_,_,_,h,_⟩ := h; exact h) (fun τ p l h => by obtain ⟨_,_,_,_,_,_,h⟩ := h; exact h.none) hs
    (fun τ p l hI hlt hl Q hok' hbad' => ?_) ⟨_,[],gy5,gc5,i5,DG.nil,Kept.refl _ _⟩ hq4 (fun fl τ p hP hI => ?_) fun k rr a hP τ d z hb' hd he => ?_
   ·obtain ⟨v',fp,g1,g2,g3,g4,g5⟩ := hI
    refine specU87f g1 g2 g3 g4 (by omega) hlt hs (fun x q' hx τ' v2 fp' kk gg ii dd _ hq' => ?_) fun k rr a hx τ' fp' d z kk hd he => ?_
    ·have hcn : c ∉ r :: y :: fp := by simp [hcr,Ne.symm hyc,g4.nin g2]
     exact hok' x q' hx τ' ⟨v2,fp',gg,(kk.at g2 (by simp) hcn).1,ii,dd,g5.trans kk⟩ hq'
    ·exact hbad' k rr a hx τ' d z (g5.trans kk).none hd he
   ·obtain ⟨v',fp,g1,g2,g3,g4,g5⟩ := hI
    have K6 := (K5.trans g5).none
    have gb6 := (K6.at gb1 (by simp) (by simp)).1
    have hvc2 := dl_vc g4.dl
    have hg := g4
    have g1' := g1
    simp only [unsC] at g1'
    simp (disch := first | assumption | simp) only [↓sbD,sbU,tyB,↓reduceIte,Nat.reduceEqDiff,Nat.reduceLT,Nat.reduceAdd,Nat.reduceLeDiff,isConst,splice,g1',gb6,hvc.2,hvc2.2,res_cellc,resC_some]
    exact downS_here (hok _ ⟨_,hh,by simp only; rw [if_neg (by decide)]; exact ⟨_,hP,rfl⟩⟩ _ _ (unsC_pk hv hg.dl (.inl ⟨rfl,rfl⟩)) (FIN K6))
   ·have K6 := (K5.trans hb')
    have gb6 := (K6.at gb1 (by simp) (by simp)).1
    simp (disch := first | assumption | simp) only [↓sbD,sbU,tyB,↓reduceIte,Nat.reduceEqDiff,Nat.reduceLT,Nat.reduceAdd,Nat.reduceLeDiff,pairs,isConst,splice,ZV.val,gb6,res_cellc,resC_some]
    exact downS_here (hbad k rr a ⟨_,hh,by simp only; rw [if_neg (by decide)]; exact ⟨_,hP,rfl⟩⟩ _ d z (FIN K6) hd he)
  ·obtain ⟨up,uw,us,uf,uc,e1,e2,e3,e4,e5,rfl⟩ := hw
   have K4 := K3.trans k4
   have gb4 := (K4.at gb1 (by simp) (by simp)).1
   have c1 := dl_vc e1
   have c2 := dl_vc e2
   have c3 := dl_vc e3
   have c4 := dl_vc e4
   have c5 := dl_vc e5
   simp only [pkC]
   simp (disch := first | assumption | simp) only [↓sbD,sbU,tyB,↓reduceIte,Nat.reduceEqDiff,Nat.reduceLT,Nat.reduceAdd,Nat.reduceLeDiff,pairs,isConst,splice,ZV.val,AS_new,zePk,c1.2,c2.2,c3.2,c4.2,c5.2]
   intro y' hy
   have hyb : y' ≠ b := nd hy gb4 (by simp)
   have yb : ∀ (τ : AHeap) o,(AHeap.set τ y' o).get b = τ.get b := fun τ o => AHeap.get_set_ne _ _ hyb
   simp (disch := first | assumption | simp) only [↓sbD,sbU,tyB,↓reduceIte,Nat.reduceEqDiff,Nat.reduceLT,Nat.reduceAdd,Nat.reduceLeDiff,splice,yb,gb4,res_cellc,resC_some]
   exact downS_here (hbad k rr a ⟨_,hh,rfl⟩ _ d z (FIN (((K4.trans (((Kept.refl _ [r]).setD hy).setD hy))).none)) hd he)
 ·subst hf
  have shr : ∀ (σ : AHeap) (t : Nat) (cs : Bool),abin E σ .shr t cs (.int .i64 176) (.int .u64 4) = some (.int .i64 11) := fun σ t cs => rfl
  have hk : (176 : Int) / 16 = 11 := by decide
  have hf : ¬ ((176 : Int) ≠ 162 ∧ (176 : Int) ≠ 176) := by decide
  simp only [if_neg hf,hk] at hok hbad
  simp (disch := first | assumption | simp) only [↓sbD,sbU,tyB,Int.reduceEq,decide_false,↓reduceIte,Nat.reduceEqDiff,Nat.reduceLT,reduceCtorEq,isConst,boxS,Edp,dpv,AS_new,zePk]
  intro b hb
  generalize hσ1 : AHeap.set σ b _ = σ1
  have k1 : Kept σ [] σ1 [] := by rw [← hσ1]; exact (Kept.refl σ []).setD hb
  have gb1 : σ1.get b = .cells zeL true 0 := by rw [← hσ1]; exact AHeap.get_set_same _ _ _
  simp only [zeL,pkC,pkz] at gb1
  clear hσ1
  have FIN : ∀ {τ : AHeap} {o : AObj},Kept σ1 [] τ [] → Kept σ [] (τ.set b o) [] := fun kt => (k1.trans kt).setD hb
  refine specRNew fun r σ2 hr k2 i2 => ?_
  simp (disch := first | assumption | simp) only [↓sbD,sbU,tyB,↓reduceIte,Nat.reduceEqDiff,Nat.reduceLT,Nat.reduceLeDiff,reduceCtorEq,isConst,splice,AS_new,zePR]
  intro c hc
  have hcr : c ≠ r := nd hc i2 (by simp)
  generalize hσ3 : AHeap.set (AHeap.set σ2 c _) c _ = σ3
  have k3 : Kept σ2 [] σ3 [] := by rw [← hσ3]; exact ((Kept.refl _ []).setD hc).setD hc
  have gc3 : σ3.get c = .cells [.pointer (some ⟨r,0,none⟩)] true 0 := by rw [← hσ3]; exact AHeap.get_set_same _ _ _
  have i3 := i2.kept k3 (by simp)
  have K3 : Kept σ1 [] σ3 [r] := k2.trans (k3.wid (fun _ h => by cases h) (fun _ h => .inr h))
  clear hσ3
  simp (disch := first | assumption | simp) only [↓sbD,sbU,↓reduceIte,Nat.reduceEqDiff,Nat.reduceLT,shr]
  refine specUHead i3 hs (fun id l q hh v σ4 hv k4 i4 hq4 => ?_) fun k rr a hh y w σ4 d z hw k4 hd he => ?_
  ·have gc4 := (k4.at gc3 (by simp) (by simpa using hcr)).1
   have K4 := K3.trans k4
   have hvc := dl_vc hv
   simp only [unsC]
   simp (disch := first | assumption | simp) only [↓sbD,sbU,tyB,↓reduceIte,Nat.reduceEqDiff,Nat.reduceLT,Nat.reduceAdd,Nat.reduceLeDiff,isConst,splice,AS_new,zePk,hvc.2]
   intro y hy
   generalize hσ5 : AHeap.set (AHeap.set σ4 y _) y _ = σ5
   have gy5 : σ5.get y = .cells (unsC 11 id v (.slice none 0 0) (.slice none 0 0)) true 0 := by rw [← hσ5]; exact AHeap.get_set_same _ _ _
   have hyr : y ≠ r := nd hy i4 (by simp)
   have hyc : y ≠ c := nd hy gc4 (by simp)
   have k5 : Kept σ4 [] σ5 [] := by rw [← hσ5]; exact ((Kept.refl _ []).setD hy).setD hy
   have i5 := i4.kept k5 (by simp)
   have gc5 := (k5.at gc4 (by simp) (by simp)).1
   have K5 : Kept σ1 [] σ5 [r,y] := by
    rw [← hσ5]
    exact (((K4.add (o := _) hy).wid (gp := []) (gp' := [r,y]) (fun _ h => h) (fun b h => by simp only [List.mem_cons,List.not_mem_nil,or_false] at h; rcases h with h | h <;> simp [h]))).trans (Kept.set (by simp))
   clear hσ5
   simp (disch := first | assumption | simp) only [↓sbD,sbU,↓reduceIte,Nat.reduceEqDiff,Nat.reduceLT,gc5,List.map_toArray]
   refine specUEach (one := codeO 11 s) (y := y) (c := c) (p0 := q) (fun τ p l => ∃ v' fp,τ.get y = .cells (unsC 11 id v (.slice none 0 0) v') true 0 ∧ τ.get c = .cells [.pointer (some ⟨r,0,none⟩)] true 0 ∧ IsR τ r s p .nilIface ∧ DG intC 1 τ v' l fp ∧ Kept σ5 [r,y] τ (r :: y :: fp))
    (fun τ => Kept σ5 [r,y] τ [])
    (fun τ p l h => by obtain ⟨_,_,_,_,h,_⟩ := h; exact h) (fun τ p l h => by obtain ⟨_,_,_,_,_,_,h⟩ := h; exact h.none) hs
    (fun τ p l hI hlt hl Q hok' hbad' => ?_) ⟨_,[],gy5,gc5,i5,DG.nil,Kept.refl _ _⟩ hq4 (fun fl τ p hP hI => ?_) fun k rr a hP τ d z hb' hd he => ?_
   ·obtain ⟨v',fp,g1,g2,g3,g4,g5⟩ := hI
    refine specU87c g1 g2 g3 g4 (by omega) hlt hs (fun x q' hx τ' v2 fp' kk gg ii dd _ hq' => ?_) fun k rr a hx τ' fp' d z kk hd he => ?_
    ·have hcn : c ∉ r :: y :: fp := by simp [hcr,Ne.symm hyc,g4.nin g2]
     exact hok' x q' hx τ' ⟨v2,fp',gg,(kk.at g2 (by simp) hcn).1,ii,dd,g5.trans kk⟩ hq'
    ·exact hbad' k rr a hx τ' d z (g5.trans kk).none hd he
   ·obtain ⟨v',fp,g1,g2,g3,g4,g5⟩ := hI
    have K6 := (K5.trans g5).none
    have gb6 := (K6.at gb1 (by simp) (by simp)).1
    have hvc2 := dl_vc g4.dl
    have hg := g4
    have g1' := g1
    simp only [unsC] at g1'
    simp (disch := first | assumption | simp) only [↓sbD,sbU,tyB,↓reduceIte,Nat.reduceEqDiff,Nat.reduceLT,Nat.reduceAdd,Nat.reduceLeDiff,isConst,splice,g1',gb6,hvc.2,hvc2.2,res_cellc,resC_some]
    exact downS_here (hok _ ⟨_,hh,by simp only [if_true]; exact ⟨_,hP,rfl⟩⟩ _ _ (unsC_pk hv (.inl ⟨rfl,rfl⟩) hg.dl) (FIN K6))
   ·have K6 := (K5.trans hb')
    have gb6 := (K6.at gb1 (by simp) (by simp)).1
    simp (disch := first | assumption | simp) only [↓sbD,sbU,tyB,↓reduceIte,Nat.reduceEqDiff,Nat.reduceLT,Nat.reduceAdd,Nat.reduceLeDiff,pairs,isConst,splice,ZV.val,gb6,res_cellc,resC_some]
    exact downS_here (hbad k rr a ⟨_,hh,by simp only [if_true]; exact ⟨_,hP,rfl⟩⟩ _ d z (FIN K6) hd he)
  ·obtain ⟨up,uw,us,uf,uc,e1,e2,e3,e4,e5,rfl⟩ := hw
   have K4 := K3.trans k4
   have gb4 := (K4.at gb1 (by simp) (by simp)).1
   have c1 := dl_vc e1
   have c2 := dl_vc e2
   have c3 := dl_vc e3
   have c4 := dl_vc e4
   have c5 := dl_vc e5
   simp only [pkC]
   simp (disch := first | assumption | simp) only [↓sbD,sbU,tyB,↓reduceIte,Nat.reduceEqDiff,Nat.reduceLT,Nat.reduceAdd,Nat.reduceLeDiff,pairs,isConst,splice,ZV.val,AS_new,zePk,c1.2,c2.2,c3.2,c4.2,c5.2]
   intro y' hy
   have hyb : y' ≠ b := nd hy gb4 (by simp)
   have yb : ∀ (τ : AHeap) o,(AHeap.set τ y' o).get b = τ.get b := fun τ o => AHeap.get_set_ne _ _ hyb
   simp (disch := first | assumption | simp) only [↓sbD,sbU,tyB,↓reduceIte,Nat.reduceEqDiff,Nat.reduceLT,Nat.reduceAdd,Nat.reduceLeDiff,splice,yb,gb4,res_cellc,resC_some]
   exact downS_here (hbad k rr a ⟨_,hh,rfl⟩ _ d z (FIN (((K4.trans (((Kept.refl _ [r]).setD hy).setD hy))).none)) hd he)
end
section
variable {σ : AHeap} {Q : Value → AHeap → Prop}
theorem specUEnc {p : Pk} {v : Value} (hp : PkV p v) (hf : midPk p)
  (hok : ∀ fb,EncU p (.ok fb) → ∀ σ',Kept σ [] σ' [] → Q (.tuple #[.agg ⟨[.int .i64 fb.1,.string fb.2]⟩,.nilIface]) σ')
  (hbad : ∀ k rr a : Nat,EncU p (.error (k,rr,a)) → ∀ σ' d z,Kept σ [] σ' [] → d ≤ 3 → ErN d (fv rr a z) k → Q (.tuple #[.agg ⟨[.int .i64 0,.string emp]⟩,fv rr a z]) σ') :
  CallS E B 36 [v] σ Q := by
 obtain ⟨vp,vw,vs,vf,vc,d1,d2,d3,d4,d5,rfl⟩ := hp
 obtain ⟨up,uw,us,uf,uc,d1,d2,d3,d4,d5,_,hbx⟩ := boxPk d1 d2 d3 d4 d5
 simp only [pkC] at hbx ⊢
 have hlen := DLp.len d1
 have hsm : smallP p.props := hf.props
 have eml : (emp).size = 0 := rfl
 unfold EncU at hok hbad
 refine call36 (by simp) ?_
 simp only [strip,bodyOf,Tryz.f36,getD_body,keepN,bareOp_mk,lapp_cons,lapp_nil,List.map_cons,List.map_nil,↓reduceIte,Bool.false_eq_true]
 simp (disch := first | assumption | simp) only [↓sbD,sbU,tyB,↓reduceIte,Nat.reduceEqDiff,Nat.reduceLT,reduceCtorEq,AS_new,zeFra,hbx]
 intro b hb
 refine specUFirst ?_
 by_cases h0 : firstU p.kind = 0
 ·simp only [h0,if_true] at hok hbad
  simp (disch := first | assumption | simp) only [↓sbD,sbU,tyB,↓reduceIte,Nat.reduceLT,pairs,isConst,ZV.val,h0,gk7]
  refine specNew (n := 7) ⟨by omega,by omega⟩ ?_
  simp (disch := first | assumption | simp) only [↓sbD,sbU,tyB,↓reduceIte,Nat.reduceEqDiff,Nat.reduceLT,Nat.reduceAdd,Nat.reduceLeDiff,splice,res_cellc,resC_some]
  exact downS_here (hbad 7 128 0 rfl _ 1 _ (((Kept.refl σ []).setD hb).setD hb) (by omega) (ErN.new _ _ ⟨by omega,by omega⟩))
 simp only [h0,if_false] at hok hbad
 simp (disch := first | assumption | simp) only [↓sbD,sbU,tyB,decide_false,↓reduceIte,Nat.reduceEqDiff,Nat.reduceLT,reduceCtorEq,isConst,h0]
 generalize hσ1 : AHeap.set σ b _ = σ1
 have k1 : Kept σ [] σ1 [] := by rw [← hσ1]; exact (Kept.refl σ []).setD hb
 have gb1 : σ1.get b = .cells [.int .i64 0,.string emp] true 0 := by rw [← hσ1]; exact AHeap.get_set_same _ _ _
 clear hσ1
 refine specPEncode d1 hsm (fun c hce hcz => ?_) fun k r a d z hce hd he => ?_
 rotate_left
 ·rw [hce] at hok hbad
  simp only at hok hbad
  simp (disch := first | assumption | simp) only [↓sbD,sbU,tyB,↓reduceIte,Nat.reduceEqDiff,Nat.reduceLT,Nat.reduceAdd,Nat.reduceLeDiff,pairs,isConst,splice,ZV.val,gb1,res_cellc,resC_some]
  exact downS_here (hbad k r a rfl _ d z (k1.setD hb) (by omega) he)
 rw [hce] at hok hbad
 simp only at hok hbad
 have hcz2 := hcz
 simp (disch := first | assumption | simp) only [↓sbD,sbU,tyB,Bool.false_eq_true,↓reduceIte,Nat.reduceEqDiff,Nat.reduceLT,reduceCtorEq,pairs,isConst,boxS,Edp,ZV.val,Bool.false_and,AS_new,dpW]
 intro w hw
 have hwb : w ≠ b := nd hw gb1 (by simp)
 generalize hσ2 : AHeap.set σ1 w _ = σ2
 have gw : σ2.get w = .cells [.slice none 0 0,.nilIface] true 0 := by rw [← hσ2]; exact AHeap.get_set_same _ _ _
 have k2 : Kept σ1 [] σ2 [w] := by rw [← hσ2]; exact Kept.new' hw
 have w2 : WRun σ2 w (runW emp []) [w] := ⟨_,[],gw,.inl ⟨rfl,rfl,rfl⟩,rfl,by simp⟩
 have z2 : leW (runW emp []) 0 := fun b hb => by injection hb with hb; subst hb; exact Nat.le_refl _
 clear gw hσ2
 refine specU16R (s := emp) w2 (fun b hb => by have := z2 b hb; omega) fun σ3 fp3 k3 w3 => ?_
 have z3 := leW_step (a := ⟨2,p.id,emp⟩) z2
 simp (disch := first | assumption | simp) only [↓sbD,sbU,↓reduceIte,Nat.reduceEqDiff,Nat.reduceLT]
 refine specRawR (n := 0) w3 (fun b hb => by have := z3 b hb; simp only [eml] at this; omega) (by omega) fun σ4 fp4 k4 w4 => ?_
 have z4 := leW_step (a := ⟨8,0,c⟩) z3
 have hs4 : stepW (stepW (runW emp []) [⟨2,p.id,emp⟩]) [⟨8,0,c⟩] = runW emp [⟨2,p.id,emp⟩,⟨8,0,c⟩] := by rw [stepW_app]; rfl
 rw [hs4] at w4 z4
 simp only [eml] at z4
 have K4 := k2.trans (k3.trans k4)
 generalize hR0 : runW emp [⟨2,p.id,emp⟩,⟨8,0,c⟩] = R0 at w4 z4
 by_cases hkk : p.kind = 10
 ·have hkT := eq_true hkk
  have hlenL := DLst.len d4
  have hfew := (And.intro hf.filts hf.filt)
  simp (disch := first | assumption | simp) only [↓sbD,sbU,tyB,↓reduceIte,Nat.reduceEqDiff,Nat.reduceLT,reduceCtorEq,isConst,hkT,hlenL]
  refine S_loop (fun m f σ' => ∃ (i : Nat) (fp : List Nat),m + i = p.filts.length ∧ f 47 = .int .i64 i ∧ WRun σ' w (stepW R0 ((p.filts.take i).flatMap filA)) fp ∧ leW (stepW R0 ((p.filts.take i).flatMap filA)) (710000 + 2200 * i) ∧ Kept σ4 fp4 σ' fp) p.filts.length (Le.refl _) ⟨0,fp4,by omega,by simp (disch := first | assumption | simp) only [sbU,↓reduceIte]; rfl,by rw [List.take_zero]; simp only [List.flatMap_nil,stepW_nil]; exact w4,by rw [List.take_zero]; simp only [List.flatMap_nil,stepW_nil]; exact fun b hb => by have := z4 b hb; omega,Kept.refl _ _⟩ ?_
  rintro m f σ5 ⟨i,fp5,hm,fi,w5,z5,k5⟩ hf
  have f1 := hf 1 (by decide) (notMem_wr (by kernel_rfl))
  have f2 := hf 2 (by decide) (notMem_wr (by kernel_rfl))
  have f6 := hf 6 (by decide) (notMem_wr (by kernel_rfl))
  have f45 := hf 45 (by decide) (notMem_wr (by kernel_rfl))
  have f46 := hf 46 (by decide) (notMem_wr (by kernel_rfl))
  simp (disch := first | assumption | simp) only [sbU,↓reduceIte,Nat.reduceEqDiff] at f1 f2 f6 f45 f46
  clear hf
  by_cases hi : (i : Int) < (p.filts.length : Int)
  ·have hi' : i < p.filts.length := by omega
   have hia := DLst.at d4 hi'
   have hsz := hf.filt _ (List.getElem_mem hi')
   have hwi := wrap_suc (n := i) (by omega)
   have htk : p.filts.take (i + 1) = p.filts.take i ++ [p.filts[i]] := List.take_succ_eq_append_getElem hi'
   generalize p.filts[i] = y at hia htk hsz
   have hac : strC1 y = [.string y] := rfl
   have hst : stepW R0 ((p.filts.take (i + 1)).flatMap filA) = stepW (stepW R0 ((p.filts.take i).flatMap filA)) (filA y) := by
    rw [htk,List.flatMap_append,stepW_app]
    simp only [List.flatMap_cons,List.flatMap_nil,List.append_nil]
   simp (disch := first | assumption | simp) only [↓sbD,sbU,tyB,Bool.or_self,↓reduceIte,Nat.reduceEqDiff,Nat.reduceLT,isConst,f6,f45,f46,fi,hi,hia,hac]
   refine specTextR (n := 0) w5 (fun b hb => by have := z5 b hb; omega) (by omega) fun σ6 fp6 k6 w6 => ?_
   have z6 := leW_step (a := ⟨6,0,y⟩) z5
   simp only at z6
   simp (disch := first | assumption | simp) only [↓sbD,sbU,↓reduceIte,Nat.reduceEqDiff,Nat.reduceLT,isConst,fi,hwi]
   exact ⟨_,m - 1,_,rfl,by omega,Le.refl _,i + 1,_,by omega,by simp (disch := first | assumption | simp) only [sbU,↓reduceIte],by rw [hst]; exact w6,by rw [hst]; exact fun b hb => by have := z6 b hb; omega,k5.trans k6⟩
  ·obtain rfl : i = p.filts.length := by omega
   rw [List.take_length] at w5 z5
   have hR : stepW R0 (p.filts.flatMap filA) = runW emp (actsU p c) := by
    rw [← hR0,show runW emp [⟨2,p.id,emp⟩,⟨8,0,c⟩] = stepW (runW emp []) [⟨2,p.id,emp⟩,⟨8,0,c⟩] from rfl,stepW_app]
    unfold actsU
    rw [if_pos hkk]
    rfl
   rw [hR] at w5 z5
   have K5 := K4.trans k5
   have hl40 : p.filts.length ≤ 40 := hfew.1
   simp (disch := first | assumption | simp) only [↓sbD,sbU,decide_false,Bool.or_self,↓reduceIte,Nat.reduceEqDiff,Nat.reduceLT,isConst,f6,f46,fi,hi]
   refine specBytesR w5 (fun bb hbb => ?_) fun k q d z hr hd he => ?_
   ·have gbn := (K5.at gb1 (by simp) (by simp)).1
    have hle := z5 bb hbb
    simp (disch := first | assumption | simp) only [↓sbD,sbU,tyB,↓reduceIte,Nat.reduceEqDiff,Nat.reduceLT,reduceCtorEq,f1]
    refine specUFirst ?_
    simp (disch := first | assumption | simp) only [↓sbD,sbU,tyB,↓reduceIte,Nat.reduceEqDiff,Nat.reduceLT,Nat.reduceAdd,Nat.reduceLeDiff,pairs,isConst,splice,ZV.val,AS_new,zeFra]
    intro c hc
    have hcb : c ≠ b := nd hc gbn (by simp)
    generalize hσc : AHeap.set _ c _ = σc
    have kc : Kept σ5 [] σc [] := by rw [← hσc]; exact ((Kept.refl _ []).setD hc).setD hc
    have gc : σc.get c = .cells [.int .i64 (firstU p.kind),.string bb] true 0 := by rw [← hσc]; exact AHeap.get_set_same _ _ _
    clear hσc
    refine specUDec (by omega) (fun y hy v2 σd hv2 kd => ?_) fun k rr a hy σd d z kd hd he => ?_
    ·have gbd := ((kc.trans kd).at gbn (by simp) (by simp)).1
     have gcd := (kd.at gc (by simp) (by simp)).1
     simp (disch := first | assumption | simp) only [↓sbD,sbU,tyB,↓reduceIte,Nat.reduceEqDiff,Nat.reduceLT,Nat.reduceAdd,Nat.reduceLeDiff,isConst,splice,f2,gcd,gbd,res_cellc,resC_some]
     exact downS_here (hok (firstU p.kind,bb) (by unfold MadeR; rw [hbb]; exact ⟨_,hy,rfl⟩) _ ((k1.trans ((K5.wid (gp := []) (gp' := []) (fun _ h => by cases h) (fun _ h => by cases h)).trans (kc.trans kd))).setD hb))
    ·have gbd := ((kc.trans kd).at gbn (by simp) (by simp)).1
     simp (disch := first | assumption | simp) only [↓sbD,sbU,tyB,↓reduceIte,Nat.reduceEqDiff,Nat.reduceLT,Nat.reduceAdd,Nat.reduceLeDiff,pairs,isConst,splice,ZV.val,f2,gbd,res_cellc,resC_some]
     exact downS_here (hbad k rr a (by unfold MadeR; rw [hbb]; exact ⟨_,hy,rfl⟩) _ d z ((k1.trans ((K5.wid (gp := []) (gp' := []) (fun _ h => by cases h) (fun _ h => by cases h)).trans (kc.trans kd))).setD hb) hd he)
   ·have gbn := (K5.at gb1 (by simp) (by simp)).1
    simp (disch := first | assumption | simp) only [↓sbD,sbU,tyB,↓reduceIte,Nat.reduceEqDiff,Nat.reduceLT,reduceCtorEq,f1]
    refine specUFirst ?_
    simp (disch := first | assumption | simp) only [↓sbD,sbU,tyB,↓reduceIte,Nat.reduceEqDiff,Nat.reduceLT,Nat.reduceAdd,Nat.reduceLeDiff,pairs,isConst,splice,ZV.val,AS_new,zeFra]
    intro c hc
    have hcb : c ≠ b := nd hc gbn (by simp)
    have bc : ∀ (τ : AHeap) o,(AHeap.set τ c o).get b = τ.get b := fun τ o => AHeap.get_set_ne _ _ hcb
    simp (disch := first | assumption | simp) only [↓sbD,sbU,tyB,↓reduceIte,Nat.reduceEqDiff,Nat.reduceLT,Nat.reduceAdd,Nat.reduceLeDiff,splice,f2,bc,gbn,res_cellc,resC_some]
    exact downS_here (hbad k 129 q (by unfold MadeR; rw [hr]) _ d z ((k1.trans ((K5.wid (gp := []) (gp' := []) (fun _ h => by cases h) (fun _ h => by cases h)).trans (((Kept.refl _ []).setD hc).setD hc))).setD hb) (by omega) he)
 ·have hkT := eq_false hkk
  have hlenL := DLi.len d5
  have hfew := (And.intro hf.codes trivial : p.codes.length ≤ 40 ∧ True)
  simp (disch := first | assumption | simp) only [↓sbD,sbU,tyB,decide_false,↓reduceIte,Nat.reduceEqDiff,Nat.reduceLT,reduceCtorEq,isConst,hkT,hlenL]
  refine S_loop (fun m f σ' => ∃ (i : Nat) (fp : List Nat),m + i = p.codes.length ∧ f 58 = .int .i64 i ∧ WRun σ' w (stepW R0 ((p.codes.take i).flatMap codA)) fp ∧ leW (stepW R0 ((p.codes.take i).flatMap codA)) (710000 + 2200 * i) ∧ Kept σ4 fp4 σ' fp) p.codes.length (Le.refl _) ⟨0,fp4,by omega,by simp (disch := first | assumption | simp) only [sbU,↓reduceIte]; rfl,by rw [List.take_zero]; simp only [List.flatMap_nil,stepW_nil]; exact w4,by rw [List.take_zero]; simp only [List.flatMap_nil,stepW_nil]; exact fun b hb => by have := z4 b hb; omega,Kept.refl _ _⟩ ?_
  rintro m f σ5 ⟨i,fp5,hm,fi,w5,z5,k5⟩ hf
  have f1 := hf 1 (by decide) (notMem_wr (by kernel_rfl))
  have f2 := hf 2 (by decide) (notMem_wr (by kernel_rfl))
  have f6 := hf 6 (by decide) (notMem_wr (by kernel_rfl))
  have f56 := hf 56 (by decide) (notMem_wr (by kernel_rfl))
  have f57 := hf 57 (by decide) (notMem_wr (by kernel_rfl))
  simp (disch := first | assumption | simp) only [sbU,↓reduceIte,Nat.reduceEqDiff] at f1 f2 f6 f56 f57
  clear hf
  by_cases hi : (i : Int) < (p.codes.length : Int)
  ·have hi' : i < p.codes.length := by omega
   have hia := DLi.at d5 hi'
   skip
   have hwi := wrap_suc (n := i) (by omega)
   have htk : p.codes.take (i + 1) = p.codes.take i ++ [p.codes[i]] := List.take_succ_eq_append_getElem hi'
   generalize p.codes[i] = y at hia htk
   have hac : intC y = [.int .i64 y] := rfl
   have hst : stepW R0 ((p.codes.take (i + 1)).flatMap codA) = stepW (stepW R0 ((p.codes.take i).flatMap codA)) (codA y) := by
    rw [htk,List.flatMap_append,stepW_app]
    simp only [List.flatMap_cons,List.flatMap_nil,List.append_nil]
   simp (disch := first | assumption | simp) only [↓sbD,sbU,tyB,Bool.or_self,↓reduceIte,Nat.reduceEqDiff,Nat.reduceLT,isConst,f6,f56,f57,fi,hi,hia,hac]
   refine specU8R (s := emp) w5 (fun b hb => by have := z5 b hb; omega) fun σ6 fp6 k6 w6 => ?_
   have z6 := leW_step (a := ⟨1,y,emp⟩) z5
   simp only [eml] at z6
   simp (disch := first | assumption | simp) only [↓sbD,sbU,↓reduceIte,Nat.reduceEqDiff,Nat.reduceLT,isConst,fi,hwi]
   exact ⟨_,m - 1,_,rfl,by omega,Le.refl _,i + 1,_,by omega,by simp (disch := first | assumption | simp) only [sbU,↓reduceIte],by rw [hst]; exact w6,by rw [hst]; exact fun b hb => by have := z6 b hb; omega,k5.trans k6⟩
  ·obtain rfl : i = p.codes.length := by omega
   rw [List.take_length] at w5 z5
   have hR : stepW R0 (p.codes.flatMap codA) = runW emp (actsU p c) := by
    rw [← hR0,show runW emp [⟨2,p.id,emp⟩,⟨8,0,c⟩] = stepW (runW emp []) [⟨2,p.id,emp⟩,⟨8,0,c⟩] from rfl,stepW_app]
    unfold actsU
    rw [if_neg hkk]
    rfl
   rw [hR] at w5 z5
   have K5 := K4.trans k5
   have hl40 : p.codes.length ≤ 40 := hfew.1
   simp (disch := first | assumption | simp) only [↓sbD,sbU,decide_false,Bool.or_self,↓reduceIte,Nat.reduceEqDiff,Nat.reduceLT,isConst,f6,f57,fi,hi]
   refine specBytesR w5 (fun bb hbb => ?_) fun k q d z hr hd he => ?_
   ·have gbn := (K5.at gb1 (by simp) (by simp)).1
    have hle := z5 bb hbb
    simp (disch := first | assumption | simp) only [↓sbD,sbU,tyB,↓reduceIte,Nat.reduceEqDiff,Nat.reduceLT,reduceCtorEq,f1]
    refine specUFirst ?_
    simp (disch := first | assumption | simp) only [↓sbD,sbU,tyB,↓reduceIte,Nat.reduceEqDiff,Nat.reduceLT,Nat.reduceAdd,Nat.reduceLeDiff,pairs,isConst,splice,ZV.val,AS_new,zeFra]
    intro c hc
    have hcb : c ≠ b := nd hc gbn (by simp)
    generalize hσc : AHeap.set _ c _ = σc
    have kc : Kept σ5 [] σc [] := by rw [← hσc]; exact ((Kept.refl _ []).setD hc).setD hc
    have gc : σc.get c = .cells [.int .i64 (firstU p.kind),.string bb] true 0 := by rw [← hσc]; exact AHeap.get_set_same _ _ _
    clear hσc
    refine specUDec (by omega) (fun y hy v2 σd hv2 kd => ?_) fun k rr a hy σd d z kd hd he => ?_
    ·have gbd := ((kc.trans kd).at gbn (by simp) (by simp)).1
     have gcd := (kd.at gc (by simp) (by simp)).1
     simp (disch := first | assumption | simp) only [↓sbD,sbU,tyB,↓reduceIte,Nat.reduceEqDiff,Nat.reduceLT,Nat.reduceAdd,Nat.reduceLeDiff,isConst,splice,f2,gcd,gbd,res_cellc,resC_some]
     exact downS_here (hok (firstU p.kind,bb) (by unfold MadeR; rw [hbb]; exact ⟨_,hy,rfl⟩) _ ((k1.trans ((K5.wid (gp := []) (gp' := []) (fun _ h => by cases h) (fun _ h => by cases h)).trans (kc.trans kd))).setD hb))
    ·have gbd := ((kc.trans kd).at gbn (by simp) (by simp)).1
     simp (disch := first | assumption | simp) only [↓sbD,sbU,tyB,↓reduceIte,Nat.reduceEqDiff,Nat.reduceLT,Nat.reduceAdd,Nat.reduceLeDiff,pairs,isConst,splice,ZV.val,f2,gbd,res_cellc,resC_some]
     exact downS_here (hbad k rr a (by unfold MadeR; rw [hbb]; exact ⟨_,hy,rfl⟩) _ d z ((k1.trans ((K5.wid (gp := []) (gp' := []) (fun _ h => by cases h) (fun _ h => by cases h)).trans (kc.trans kd))).setD hb) hd he)
   ·have gbn := (K5.at gb1 (by simp) (by simp)).1
    simp (disch := first | assumption | simp) only [↓sbD,sbU,tyB,↓reduceIte,Nat.reduceEqDiff,Nat.reduceLT,reduceCtorEq,f1]
    refine specUFirst ?_
    simp (disch := first | assumption | simp) only [↓sbD,sbU,tyB,↓reduceIte,Nat.reduceEqDiff,Nat.reduceLT,Nat.reduceAdd,Nat.reduceLeDiff,pairs,isConst,splice,ZV.val,AS_new,zeFra]
    intro c hc
    have hcb : c ≠ b := nd hc gbn (by simp)
    have bc : ∀ (τ : AHeap) o,(AHeap.set τ c o).get b = τ.get b := fun τ o => AHeap.get_set_ne _ _ hcb
    simp (disch := first | assumption | simp) only [↓sbD,sbU,tyB,↓reduceIte,Nat.reduceEqDiff,Nat.reduceLT,Nat.reduceAdd,Nat.reduceLeDiff,splice,f2,bc,gbn,res_cellc,resC_some]
    exact downS_here (hbad k 129 q (by unfold MadeR; rw [hr]) _ d z ((k1.trans ((K5.wid (gp := []) (gp' := []) (fun _ h => by cases h) (fun _ h => by cases h)).trans (((Kept.refl _ []).setD hc).setD hc))).setD hb) (by omega) he)
end
end Go.Proofs.YtonmjhdcijibgaaGreatDoor.AbsB
namespace Go.Proofs.YtonmjhdcijibgaaGreatDoor.AbsB
open Go AbsYtonmjhdcijibgaaGreatDoor Abs
set_option maxRecDepth 100000
set_option maxHeartbeats 4000000
set_option linter.unusedSimpArgs false
set_option linter.unusedVariables false
theorem partsBack {α : Type} {sz : Nat} {one : Nat → Except E3 (α × Nat)} {l : List α} {pos : Nat → Nat} (h0 : pos l.length = sz) (hlt : ∀ i,i < l.length → pos i < sz)
  (hone : ∀ i (hi : i < l.length),one (pos i) = .ok (l[i],pos (i + 1)) ∨ ∃ e,one (pos i) = .error e) : ∀ k i,i + k = l.length → ∀ r,Parts sz one (pos i) (l.take i) r → ∀ c,r = .ok c → c = l
 | 0,i,hi,r,h,c,hr => by
  obtain rfl : i = l.length := by omega
  rw [List.take_length,h0] at h
  subst hr
  cases h with
  | done _ _ => rfl
  | step h1 _ _ _ => omega
 | k + 1,i,hi,r,h,c,hr => by
  have hi' : i < l.length := by omega
  have hl := hlt i hi'
  subst hr
  generalize hp : pos i = p at h hl
  generalize hk : l.take i = t at h
  cases h with
  | done h1 _ => omega
  | step h1 h2 h3 h4 =>
   subst hp hk
   rcases hone i hi' with g | ⟨e,g⟩
   ·rw [g] at h3
    simp only [Except.ok.injEq,Prod.mk.injEq] at h3
    obtain ⟨rfl,rfl⟩ := h3
    rw [← List.take_succ_eq_append_getElem hi'] at h4
    exact partsBack h0 hlt hone k (i + 1) (by omega) _ h4 c rfl
   ·rw [g] at h3; cases h3
theorem partsFwd {α : Type} {sz : Nat} {one : Nat → Except E3 (α × Nat)} {l : List α} {pos : Nat → Nat} (h0 : pos l.length = sz) (hlt : ∀ i,i < l.length → pos i < sz) (hn : l ≠ []) (h32 : l.length ≤ 32)
  (hone : ∀ i (hi : i < l.length),one (pos i) = .ok (l[i],pos (i + 1))) : ∀ k i,i + k = l.length → Parts sz one (pos i) (l.take i) (.ok l)
 | 0,i,hi => by
  obtain rfl : i = l.length := by omega
  rw [List.take_length,h0]
  exact .done (Nat.le_refl _) hn
 | k + 1,i,hi => by
  have hi' : i < l.length := by omega
  refine .step (hlt i hi') (by rw [List.length_take]; omega) (hone i hi') ?_
  rw [← List.take_succ_eq_append_getElem hi']
  exact partsFwd h0 hlt hn h32 hone k (i + 1) (by omega)
theorem Parts.inv {α : Type} {sz : Nat} {one : Nat → Except E3 (α × Nat)} (P : α → Prop) (hP : ∀ p x q,one p = .ok (x,q) → P x) {p : Nat} {l : List α} {r : Except E3 (List α)} (h : Parts sz one p l r) : l.length ≤ 32 → (∀ x ∈ l,P x) → ∀ c,r = .ok c → c ≠ [] ∧ c.length ≤ 32 ∧ ∀ x ∈ c,P x := by
 induction h with
 | done h hl => intro h1 h2 c hc; injection hc with hc; subst hc; exact ⟨hl,h1,h2⟩
 | none h => intro h1 h2 c hc; cases hc
 | many h hl => intro h1 h2 c hc; cases hc
 | bad h hl ho => intro h1 h2 c hc; cases hc
 | step h hl ho hr ih =>
  intro h1 h2
  refine ih (by rw [List.length_append]; simp only [List.length_cons,List.length_nil]; omega) fun y hy => ?_
  rcases List.mem_append.1 hy with hy | hy
  ·exact h2 y hy
  ·simp only [List.mem_cons,List.not_mem_nil,or_false] at hy
   subst hy
   exact hP _ _ _ ho
def catB (l : List Act) : ByteArray := (catW l).getD emp
theorem catB_some {l : List Act} {C : ByteArray} (h : catW l = some C) : catB l = C := by unfold catB; rw [h]; rfl
theorem part_at {α : Type} {A : α → List Act} {l : List α} {C : ByteArray} (h : catW (l.flatMap A) = some C) {i : Nat} (hi : i < l.length) :
  ∃ m R,catW (A l[i]) = some m ∧ C = catB ((l.take i).flatMap A) ++ m ++ R ∧ catB ((l.take (i + 1)).flatMap A) = catB ((l.take i).flatMap A) ++ m := by
 have e : l = l.take i ++ (l[i] :: l.drop (i + 1)) := by rw [← List.drop_eq_getElem_cons hi,List.take_append_drop]
 have h2 := h
 rw [e,List.flatMap_append,List.flatMap_cons] at h2
 obtain ⟨X,Y,h3,h4,h5⟩ := catW_split h2
 obtain ⟨m,R,h6,h7,rfl⟩ := catW_split h4
 refine ⟨m,R,h6,by rw [catB_some h3,h5,app_assoc],?_⟩
 have h8 : catW ((l.take (i + 1)).flatMap A) = some (X ++ m) := by
  rw [List.take_succ_eq_append_getElem hi,List.flatMap_append]
  simp only [List.flatMap_cons,List.flatMap_nil,List.append_nil]
  exact catW_app h3 h6
 rw [catB_some h8,catB_some h3]
theorem catB_all {α : Type} {A : α → List Act} {l : List α} {C : ByteArray} (h : catW (l.flatMap A) = some C) : catB ((l.take l.length).flatMap A) = C := by rw [List.take_length]; exact catB_some h
theorem catB_none {α : Type} {A : α → List Act} {l : List α} : catB ((l.take 0).flatMap A) = emp := by rw [List.take_zero]; rfl
theorem text_at {t m : ByteArray} {n : Int} (X Y : ByteArray) (h : actW ⟨6,n,t⟩ = .inl m) : textR (X ++ m ++ Y) X.size = .ok (t,X.size + m.size) := by
 have r := rdA_mid X Y (a := ⟨6,n,t⟩) (by unfold kindOk; simp) h
 simp only [rdA,Int.reduceEq,Int.reduceLT,if_true,if_false] at r
 cases hv : textR (X ++ m ++ Y) X.size with
 | error e => rw [hv] at r; cases r
 | ok a =>
  obtain ⟨b,q⟩ := a
  rw [hv] at r
  simp only [mapS,Except.ok.injEq,Prod.mk.injEq] at r
  rw [r.1.2,r.2]
theorem cat_one {a : Act} {m : ByteArray} (h : catW [a] = some m) : actW a = .inl m := by
 obtain ⟨m',c,h1,h2,rfl⟩ := catW_cons h
 simp only [catW,Option.some.injEq] at h2
 subst h2
 rw [h1,app_emp']
theorem text_pos {t m : ByteArray} {n : Int} (h : actW ⟨6,n,t⟩ = .inl m) : 2 ≤ m.size := by
 have h1 : textW t = .inl m := h
 unfold textW at h1
 cases ht : textF t with
 | inr e => obtain ⟨k,p⟩ := e; rw [ht] at h1; cases h1
 | inl c =>
  rw [ht] at h1
  simp only at h1
  rw [binW_inl (textF_inl ht)] at h1
  injection h1 with h1
  rw [← h1,size_app,numB_z (by omega)]
  omega
theorem filO_at {l : List ByteArray} {C X Y : ByteArray} (h : catW (l.flatMap filA) = some C) {i : Nat} (hi : i < l.length) :
  filO (X ++ C ++ Y) (X.size + (catB ((l.take i).flatMap filA)).size) = .ok (l[i],X.size + (catB ((l.take (i + 1)).flatMap filA)).size) ∧ (catB ((l.take i).flatMap filA)).size < C.size := by
 obtain ⟨m,R,h1,h2,h3⟩ := part_at h hi
 have h4 := cat_one h1
 have hp := text_pos h4
 have hr := text_at (X ++ catB ((l.take i).flatMap filA)) (R ++ Y) h4
 have e : X ++ catB ((l.take i).flatMap filA) ++ m ++ (R ++ Y) = X ++ C ++ Y := by rw [h2]; simp only [app_assoc]
 rw [e,size_app] at hr
 refine ⟨?_,by rw [h2,size_app,size_app]; omega⟩
 unfold filO
 rw [hr,h3,size_app,Nat.add_assoc]
theorem codeO_at {kind : Int} {l : List Int} {C X Y : ByteArray} (h : catW (l.flatMap codA) = some C) {i : Nat} (hi : i < l.length) :
  ((alw kind l[i] = true → codeO kind (X ++ C ++ Y) (X.size + (catB ((l.take i).flatMap codA)).size) = .ok (l[i],X.size + (catB ((l.take (i + 1)).flatMap codA)).size)) ∧
   (alw kind l[i] = false → ∃ e,codeO kind (X ++ C ++ Y) (X.size + (catB ((l.take i).flatMap codA)).size) = .error e)) ∧ (catB ((l.take i).flatMap codA)).size < C.size := by
 obtain ⟨m,R,h1,h2,h3⟩ := part_at h hi
 have h4 := cat_one h1
 obtain ⟨n1,n2,rfl⟩ := numW_inl (show numW l[i] 1 = .inl m from h4)
 have hz : (numB l[i].toNat 1).size = 1 := numB_z (by omega)
 have hr := num_at (X ++ catB ((l.take i).flatMap codA)) (R ++ Y) (n := l[i].toNat) (k := 1) (by omega) (by omega) rfl
 have e : X ++ catB ((l.take i).flatMap codA) ++ (numB l[i].toNat 1 ++ (R ++ Y)) = X ++ C ++ Y := by rw [h2]; simp only [app_assoc]
 rw [e,size_app] at hr
 have hi2 : ((l[i].toNat : Nat) : Int) = l[i] := by omega
 refine ⟨⟨fun ha => ?_,fun ha => ?_⟩,by rw [h2,size_app,size_app]; omega⟩
 ·unfold codeO
  rw [hr]
  simp only [hi2]
  rw [if_pos ha,h3,size_app,hz,Nat.add_assoc]
 ·unfold codeO
  rw [hr]
  simp only [hi2]
  rw [if_neg (by rw [ha]; decide)]
  exact ⟨_,rfl⟩
theorem headP_val {kind id : Int} {l : List Pr} {c t m1 : ByteArray} (he : encP kind l = .ok c) (hz : c.size ≤ 700000) (h1 : actW ⟨2,id,emp⟩ = .inl m1) :
  HeadP kind (m1 ++ c ++ t) (if id = 0 then .error (3,130,0) else .ok (id.toNat,l.map plainP,2 + c.size)) := by
 obtain ⟨n1,n2,rfl⟩ := numW_inl (show numW id 2 = .inl m1 from h1)
 have hnum := num_at emp (c ++ t) (n := id.toNat) (k := 2) (q := 0) (by omega) (by omega) rfl
 rw [emp_app',← app_assoc] at hnum
 have hz2 : (numB id.toNat 2).size = 2 := numB_z (by omega)
 unfold HeadP
 rw [hnum]
 simp only
 by_cases h0 : id = 0
 ·rw [if_pos h0,if_pos (by omega)]
 ·rw [if_neg h0,if_neg (by omega)]
  have hr := read_encP (A := numB id.toNat 2) (t := t) he hz
  rw [hz2] at hr
  exact ⟨_,hr,rfl⟩
def unsB (p : Pk) : Pk := unsP p.kind p.id (p.props.map plainP) (if p.kind = 10 then p.filts else []) (if p.kind = 10 then [] else p.codes)
theorem actsU_split {p : Pk} {c b : ByteArray} (h : catW (actsU p c) = some b) : ∃ m1 C,actW ⟨2,p.id,emp⟩ = .inl m1 ∧ catW (if p.kind = 10 then p.filts.flatMap filA else p.codes.flatMap codA) = some C ∧ b = m1 ++ c ++ C ∧ m1.size = 2 := by
 unfold actsU at h
 obtain ⟨m1,x,g1,g2,rfl⟩ := catW_cons h
 obtain ⟨m2,C,g3,g4,rfl⟩ := catW_cons g2
 have hs : m2 = c := by
  have g5 : (Sum.inl c : ByteArray ⊕ (Nat × Nat)) = Sum.inl m2 := g3
  injection g5 with g5
  exact g5.symm
 subst hs
 obtain ⟨n1,n2,e⟩ := numW_inl (show numW p.id 2 = .inl m1 from g1)
 exact ⟨m1,C,g1,g4,by simp only [app_assoc],by rw [e]; exact numB_z (by omega)⟩
theorem unsBack {p : Pk} {fb : Int × ByteArray} {r : Except E3 Pk} (h : EncU p (.ok fb)) (hf : fewPk p) (hd : DecU fb.1 fb.2 r) : r = .ok (unsB p) := by
 unfold EncU at h
 split at h
 ·cases h
 ·rename_i hk
  cases hb : encP p.kind p.props with
  | error e => rw [hb] at h; cases h
  | ok c =>
   rw [hb] at h
   simp only at h
   have hz : c.size ≤ 700000 := by have := encP_size hf.props hb; omega
   unfold MadeR at h
   cases hw : runW emp (actsU p c) with
   | inr e => obtain ⟨k,q⟩ := e; rw [hw] at h; cases h
   | inl b =>
    rw [hw] at h
    simp only at h
    obtain ⟨d,h1,h2⟩ := h
    cases d with
    | error e => cases h2
    | ok y =>
     simp only [Except.ok.injEq] at h2
     subst h2
     rw [hd.det h1]
     obtain ⟨D,hD,rfl⟩ := runW_cat hw
     rw [emp_app'] at *
     obtain ⟨m1,C,g1,g2,rfl,hm⟩ := actsU_split hD
     have hv := headP_val (t := C) hb hz g1
     have hz2 : (m1 ++ c).size = 2 + c.size := by rw [size_app,hm]
     unfold firstU at hk h1
     have e0 : m1 ++ c ++ C = m1 ++ c ++ C ++ emp := (app_emp' _).symm
     have hsz : (m1 ++ c ++ C).size = 2 + c.size + C.size := by rw [size_app,hz2]
     by_cases k10 : p.kind = 10
     ·rw [if_pos k10] at h1 g2
      rw [k10] at hv
      unfold DecU at h1
      rw [if_neg (by decide)] at h1
      obtain ⟨x,h3,h4⟩ := h1
      have hx := h3.det hv
      subst hx
      split at h4
      ·rename_i e1; split at e1 <;> cases h4
      ·rename_i id l q e1
       split at e1
       ·cases e1
       ·rename_i h0
        simp only [Except.ok.injEq,Prod.mk.injEq] at e1
        obtain ⟨rfl,rfl,rfl⟩ := e1
        rw [if_neg (by decide)] at h4
        obtain ⟨cl,h5,h6⟩ := h4
        cases cl with
        | error e => cases h6
        | ok l' =>
         have hp0 : (m1 ++ c).size + (catB ((p.filts.take 0).flatMap filA)).size = 2 + c.size := by rw [catB_none,hz2]; rfl
         have hl := partsBack (l := p.filts) (sz := (m1 ++ c ++ C).size) (one := filO (m1 ++ c ++ C)) (pos := fun i => (m1 ++ c).size + (catB ((p.filts.take i).flatMap filA)).size) (by rw [catB_all g2,hz2,hsz])
          (fun i hi => by have := (filO_at (X := m1 ++ c) (Y := emp) g2 hi).2; rw [hz2,hsz]; omega)
          (fun i hi => .inl (by have := (filO_at (X := m1 ++ c) (Y := emp) g2 hi).1; rw [← e0] at this; exact this)) p.filts.length 0 (by omega) _ (by rw [hp0,List.take_zero]; exact h5) l' rfl
         subst hl
         simp only [mapE,Except.ok.injEq] at h6
         rw [h6]
         obtain ⟨n1,_,_⟩ := numW_inl (show numW p.id 2 = .inl m1 from g1)
         unfold unsB
         rw [if_pos k10,if_pos k10,k10,show ((p.id.toNat : Nat) : Int) = p.id by omega]
     ·have k11 : p.kind = 11 := by
       by_cases g : p.kind = 11
       ·exact g
       ·rw [if_neg k10,if_neg g] at hk; exact absurd rfl hk
      rw [if_neg k10] at h1 g2
      rw [if_pos k11] at h1
      rw [k11] at hv
      unfold DecU at h1
      rw [if_neg (by decide)] at h1
      obtain ⟨x,h3,h4⟩ := h1
      have hx := h3.det hv
      subst hx
      split at h4
      ·rename_i e1; split at e1 <;> cases h4
      ·rename_i id l q e1
       split at e1
       ·cases e1
       ·rename_i h0
        simp only [Except.ok.injEq,Prod.mk.injEq] at e1
        obtain ⟨rfl,rfl,rfl⟩ := e1
        rw [if_pos rfl] at h4
        obtain ⟨cl,h5,h6⟩ := h4
        cases cl with
        | error e => cases h6
        | ok l' =>
         have hp0 : (m1 ++ c).size + (catB ((p.codes.take 0).flatMap codA)).size = 2 + c.size := by rw [catB_none,hz2]; rfl
         have hl := partsBack (l := p.codes) (sz := (m1 ++ c ++ C).size) (one := codeO 11 (m1 ++ c ++ C)) (pos := fun i => (m1 ++ c).size + (catB ((p.codes.take i).flatMap codA)).size) (by rw [catB_all g2,hz2,hsz])
          (fun i hi => by have := (codeO_at (kind := 11) (X := m1 ++ c) (Y := emp) g2 hi).2; rw [hz2,hsz]; omega)
          (fun i hi => by
            have := (codeO_at (kind := 11) (X := m1 ++ c) (Y := emp) g2 hi).1
            rw [← e0] at this
            cases ha : alw 11 p.codes[i] with
            | true => exact .inl (this.1 ha)
            | false => exact .inr (this.2 ha)) p.codes.length 0 (by omega) _ (by rw [hp0,List.take_zero]; exact h5) l' rfl
         subst hl
         simp only [mapE,Except.ok.injEq] at h6
         rw [h6]
         obtain ⟨n1,_,_⟩ := numW_inl (show numW p.id 2 = .inl m1 from g1)
         unfold unsB
         rw [if_neg k10,if_neg k10,k11,show ((p.id.toNat : Nat) : Int) = p.id by omega]
theorem flatW {α : Type} {A : α → List Act} {K : Nat} : ∀ {l : List α},(∀ x ∈ l,∃ m,catW (A x) = some m ∧ m.size ≤ K) → ∃ C,catW (l.flatMap A) = some C ∧ C.size ≤ K * l.length
 | [],_ => ⟨emp,rfl,Nat.zero_le _⟩
 | x :: l,h => by
  obtain ⟨m,h1,h2⟩ := h x (by simp)
  obtain ⟨C,h3,h4⟩ := flatW (l := l) fun y hy => h y (by simp [hy])
  refine ⟨m ++ C,by rw [List.flatMap_cons]; exact catW_app h1 h3,?_⟩
  rw [size_app,List.length_cons,Nat.mul_succ]
  omega
theorem headP_w {kind : Int} {s : ByteArray} {id q : Nat} {l : List Pr} (hs : s.size ≤ 2048) (h : HeadP kind s (.ok (id,l,q))) : id ≠ 0 ∧ id < 65536 ∧ ∃ c,encP kind l = .ok c ∧ c.size ≤ 700000 ∧ (∀ x ∈ l,plain x) ∧ smallP l := by
 unfold HeadP at h
 cases hn : numR s 0 2 with
 | error e => obtain ⟨k,q'⟩ := e; rw [hn] at h; cases h
 | ok a =>
  obtain ⟨i,q'⟩ := a
  have hlt := numR_lt hn
  have hq := numR_ok hn
  rw [hn] at h
  simp only at h
  split at h
  ·cases h
  ·rename_i h0
   obtain ⟨x,h1,h2⟩ := h
   cases x with
   | error e => cases h2
   | ok lq =>
    obtain ⟨l',q2⟩ := lq
    simp only [headM,Except.ok.injEq,Prod.mk.injEq] at h2
    obtain ⟨rfl,rfl,rfl⟩ := h2
    obtain ⟨c,w1,w2,_,w4,w5⟩ := ReadP_w hs hq.2 h1
    exact ⟨h0,by omega,c,w1,w2,w4,w5⟩
theorem filO_w {s : ByteArray} {p q : Nat} {x : ByteArray} (h : filO s p = .ok (x,q)) : textW x = .inl (numB x.size 2 ++ x) ∧ x.size ≤ s.size := by
 unfold filO at h
 cases ht : textR s p with
 | error e => obtain ⟨k,q'⟩ := e; rw [ht] at h; cases h
 | ok a =>
  rw [ht] at h
  simp only [Except.ok.injEq] at h
  subst h
  exact textR_w ht
theorem codeO_w {kind : Int} {s : ByteArray} {p q : Nat} {x : Int} (h : codeO kind s p = .ok (x,q)) : alw kind x = true ∧ ∃ n : Nat,x = n ∧ n < 256 := by
 unfold codeO at h
 cases hn : numR s p 1 with
 | error e => obtain ⟨k,q'⟩ := e; rw [hn] at h; cases h
 | ok a =>
  obtain ⟨n,q'⟩ := a
  have := numR_lt hn
  rw [hn] at h
  simp only at h
  split at h
  ·rename_i ha
   simp only [Except.ok.injEq,Prod.mk.injEq] at h
   obtain ⟨rfl,rfl⟩ := h
   exact ⟨ha,n,rfl,by omega⟩
  ·cases h
theorem encU_made {p : Pk} {c C m1 : ByteArray} (hk : firstU p.kind ≠ 0) (hb : encP p.kind p.props = .ok c) (h1 : actW ⟨2,p.id,emp⟩ = .inl m1) (hC : catW (if p.kind = 10 then p.filts.flatMap filA else p.codes.flatMap codA) = some C)
  (hD : DecU (firstU p.kind) (m1 ++ c ++ C) (.ok p)) : EncU p (.ok (firstU p.kind,m1 ++ c ++ C)) := by
 unfold EncU
 rw [if_neg hk,hb]
 simp only
 unfold MadeR
 have hc : catW (actsU p c) = some (m1 ++ (c ++ C)) := by
  unfold actsU
  exact catW_1 h1 (catW_1 rfl hC)
 rw [catW_run emp hc,emp_app',← app_assoc]
 exact ⟨.ok p,hD,rfl⟩
theorem unsAgain {f : Int} {s : ByteArray} {p : Pk} (h : DecU f s (.ok p)) (hs : s.size ≤ 2048) : ∃ b,EncU p (.ok (f,b)) ∧ DecU f b (.ok p) ∧ midPk p ∧ b.size ≤ 900000 ∧ ∃ i l fl cl,p = unsP (f / 16) i l fl cl := by
 have h' := h
 unfold DecU at h
 split at h
 ·cases h
 ·rename_i hf
  obtain ⟨x,h1,h2⟩ := h
  cases x with
  | error e => cases h2
  | ok a =>
   obtain ⟨id,l,q⟩ := a
   obtain ⟨i1,i2,c,e1,e2,e3,e4⟩ := headP_w hs h1
   simp only at h2
   have w2 : actW ⟨2,(id : Int),emp⟩ = .inl (numB id 2) := numW_ok (by omega)
   have hz1 : (numB id 2).size = 2 := numB_z (by omega)
   split at h2
   ·rename_i h176
    subst h176
    obtain ⟨r,h3,h4⟩ := h2
    cases r with
    | error e => cases h4
    | ok cl =>
     simp only [mapE,Except.ok.injEq] at h4
     obtain ⟨n1,n2,n3⟩ := Parts.inv (fun x => alw 11 x = true ∧ ∃ n : Nat,x = n ∧ n < 256) (fun _ _ _ h => codeO_w h) h3 (by simp) (by simp) cl rfl
     obtain ⟨C,hC,hCz⟩ := flatW (A := codA) (K := 4) (l := cl) fun x hx => by
      obtain ⟨_,n,rfl,hn⟩ := n3 x hx
      exact ⟨numB n 1 ++ emp,catW_1 (numW_ok (by omega)) rfl,by rw [app_emp']; exact numB_size _ _⟩
     have hv := headP_val (kind := 11) (t := C) (id := id) e1 e2 w2
     rw [if_neg (by omega),map_plain e3,Int.toNat_natCast] at hv
     have hz2 : (numB id 2 ++ c).size = 2 + c.size := by rw [size_app,hz1]
     have hsz : (numB id 2 ++ c ++ C).size = 2 + c.size + C.size := by rw [size_app,hz2]
     have e0 : numB id 2 ++ c ++ C = numB id 2 ++ c ++ C ++ emp := (app_emp' _).symm
     have hp0 : (numB id 2 ++ c).size + (catB ((cl.take 0).flatMap codA)).size = 2 + c.size := by rw [catB_none,hz2]; rfl
     have hP := partsFwd (l := cl) (sz := (numB id 2 ++ c ++ C).size) (one := codeO 11 (numB id 2 ++ c ++ C)) (pos := fun i => (numB id 2 ++ c).size + (catB ((cl.take i).flatMap codA)).size) (by rw [catB_all hC,hz2,hsz])
      (fun i hi => by have := (codeO_at (kind := 11) (X := numB id 2 ++ c) (Y := emp) hC hi).2; rw [hz2,hsz]; omega) n1 n2
      (fun i hi => by
        have := (codeO_at (kind := 11) (X := numB id 2 ++ c) (Y := emp) hC hi).1.1 (n3 _ (List.getElem_mem hi)).1
        rw [← e0] at this; exact this) cl.length 0 (by omega)
     rw [hp0,List.take_zero] at hP
     have hD : DecU 176 (numB id 2 ++ c ++ C) (.ok p) := by
      unfold DecU
      rw [if_neg (by decide)]
      refine ⟨_,hv,?_⟩
      simp only [if_true]
      exact ⟨_,hP,by rw [h4]; rfl⟩
     refine ⟨numB id 2 ++ c ++ C,?_,hD,?_,?_,id,l,[],cl,h4⟩
     ·have := encU_made (p := p) (c := c) (C := C) (m1 := numB id 2) (by rw [h4]; show firstU 11 ≠ 0; decide) (by rw [h4]; exact e1) (by rw [h4]; exact w2) (by rw [h4]; exact hC) (by rw [h4]; rw [h4] at hD; exact hD)
      rw [h4] at this ⊢
      exact this
     ·rw [h4]
      exact ⟨e4,Nat.zero_le _,fun x hx => absurd hx (by simp [unsP,pkz]),Nat.zero_le _,fun x hx => absurd hx (by simp [unsP,pkz]),by show cl.length ≤ 40; omega⟩
     ·rw [hsz]
      have : 4 * cl.length ≤ 4 * 32 := Nat.mul_le_mul_left _ n2
      omega
   ·rename_i h176
    have h162 : f = 162 := by omega
    subst h162
    obtain ⟨r,h3,h4⟩ := h2
    cases r with
    | error e => cases h4
    | ok cl =>
     simp only [mapE,Except.ok.injEq] at h4
     obtain ⟨n1,n2,n3⟩ := Parts.inv (fun x : ByteArray => textW x = .inl (numB x.size 2 ++ x) ∧ x.size ≤ 2048) (fun _ _ _ h => ⟨(filO_w h).1,by have := (filO_w h).2; omega⟩) h3 (by simp) (by simp) cl rfl
     obtain ⟨C,hC,hCz⟩ := flatW (A := filA) (K := 2060) (l := cl) fun x hx => by
      have g := n3 x hx
      have := numB_size x.size 2
      exact ⟨(numB x.size 2 ++ x) ++ emp,catW_1 g.1 rfl,by rw [app_emp',size_app]; omega⟩
     have hv := headP_val (kind := 10) (t := C) (id := id) e1 e2 w2
     rw [if_neg (by omega),map_plain e3,Int.toNat_natCast] at hv
     have hz2 : (numB id 2 ++ c).size = 2 + c.size := by rw [size_app,hz1]
     have hsz : (numB id 2 ++ c ++ C).size = 2 + c.size + C.size := by rw [size_app,hz2]
     have e0 : numB id 2 ++ c ++ C = numB id 2 ++ c ++ C ++ emp := (app_emp' _).symm
     have hp0 : (numB id 2 ++ c).size + (catB ((cl.take 0).flatMap filA)).size = 2 + c.size := by rw [catB_none,hz2]; rfl
     have hP := partsFwd (l := cl) (sz := (numB id 2 ++ c ++ C).size) (one := filO (numB id 2 ++ c ++ C)) (pos := fun i => (numB id 2 ++ c).size + (catB ((cl.take i).flatMap filA)).size) (by rw [catB_all hC,hz2,hsz])
      (fun i hi => by have := (filO_at (X := numB id 2 ++ c) (Y := emp) hC hi).2; rw [hz2,hsz]; omega) n1 n2
      (fun i hi => by
        have := (filO_at (X := numB id 2 ++ c) (Y := emp) hC hi).1
        rw [← e0] at this; exact this) cl.length 0 (by omega)
     rw [hp0,List.take_zero] at hP
     have hD : DecU 162 (numB id 2 ++ c ++ C) (.ok p) := by
      unfold DecU
      rw [if_neg (by decide)]
      refine ⟨_,hv,?_⟩
      simp only
      rw [if_neg (by decide)]
      exact ⟨_,hP,by rw [h4]; rfl⟩
     refine ⟨numB id 2 ++ c ++ C,?_,hD,?_,?_,id,l,cl,[],h4⟩
     ·have := encU_made (p := p) (c := c) (C := C) (m1 := numB id 2) (by rw [h4]; show firstU 10 ≠ 0; decide) (by rw [h4]; exact e1) (by rw [h4]; exact w2) (by rw [h4]; exact hC) (by rw [h4]; rw [h4] at hD; exact hD)
      rw [h4] at this ⊢
      exact this
     ·rw [h4]
      exact ⟨e4,Nat.zero_le _,fun x hx => absurd hx (by simp [unsP,pkz]),by show cl.length ≤ 40; omega,fun x hx => by have := (n3 x hx).2; omega,Nat.zero_le _⟩
     ·rw [hsz]
      have : 2060 * cl.length ≤ 2060 * 32 := Nat.mul_le_mul_left _ n2
      omega
theorem encU_size {p : Pk} {fb : Int × ByteArray} (h : EncU p (.ok fb)) (hf : fewPk p) : fb.2.size ≤ 100000 := by
 have he0 : emp.size = 0 := rfl
 unfold EncU at h
 split at h
 ·cases h
 ·cases hb : encP p.kind p.props with
  | error e => rw [hb] at h; cases h
  | ok s =>
   rw [hb] at h
   simp only at h
   have hz := encP_size hf.props hb
   unfold MadeR at h
   cases hw : runW emp (actsU p s) with
   | inr e => obtain ⟨k,q⟩ := e; rw [hw] at h; cases h
   | inl b =>
    rw [hw] at h
    simp only at h
    obtain ⟨d,h1,h2⟩ := h
    cases d with
    | error e => cases h2
    | ok y =>
     simp only [Except.ok.injEq] at h2
     subst h2
     have := runW_le _ emp b 0 (Nat.le_refl _) hw
     have sumF : ∀ l : List ByteArray,(∀ x ∈ l,x.size ≤ 200) → ((l.flatMap filA).map fun a => a.s.size + 4).sum ≤ 204 * l.length := by
      intro l
      induction l with
      | nil => intro _; simp
      | cons x l ih =>
       intro h
       have h1 := h x (by simp)
       have h2 := ih fun y hy => h y (by simp [hy])
       simp only [List.flatMap_cons,filA,List.cons_append,List.nil_append,List.map_cons,List.sum_cons,List.length_cons] at h2 ⊢
       omega
     have sumC : ∀ l : List Int,((l.flatMap codA).map fun a => a.s.size + 4).sum ≤ 204 * l.length := by
      intro l
      induction l with
      | nil => simp
      | cons x l ih =>
       simp only [List.flatMap_cons,codA,List.cons_append,List.nil_append,List.map_cons,List.sum_cons,List.length_cons,he0] at ih ⊢
       omega
     have h3 := sumF p.filts hf.filt
     have h4 := sumC p.codes
     have h5 := hf.filts
     have h6 := hf.codes
     unfold actsU at this
     split at this <;> simp only [List.map_cons,List.sum_cons,he0] at this <;> simp only <;> omega
set_option maxHeartbeats 8000000
attribute [local irreducible] afterS afterOpS opSK OpsS TrS CodeS condS condW thenS thenQ guardS guardTS outS drawS trSK consS
section
variable {σ : AHeap} {Q : Value → AHeap → Prop}
theorem specBare13 {p : Pk} {v : Value} (hp : PkV p v) (hs : p.props.length ≤ 1000) (hq : ∀ w σ',PkV (unsB p) w → Kept σ [] σ' [] → Q w σ') : CallS E B 38 [v] σ Q := by
 obtain ⟨vp,vw,vs,vf,vc,d1,d2,d3,d4,d5,rfl⟩ := hp
 obtain ⟨up,uw,us,uf,uc,d1,d2,d3,d4,d5,_,hbx⟩ := boxPk d1 d2 d3 d4 d5
 simp only [pkC] at hbx ⊢
 refine call38 (by simp) ?_
 simp only [strip,bodyOf,Tryz.f38,getD_body,keepN,bareOp_mk,lessOp_mk,List.map_cons,List.map_nil,↓reduceIte,Nat.reduceEqDiff,Bool.false_eq_true]
 simp (disch := first | assumption | simp) only [↓sbD,sbU,tyB,↓reduceIte,Nat.reduceEqDiff,Nat.reduceLT,reduceCtorEq,AS_new,zePk,hbx]
 intro b hb
 refine specKPlain d1 hs fun w σ1 hw k1 => ?_
 have gb : (σ.set b _).get b = _ := AHeap.get_set_same σ b (.cells [.int .i64 0,.int .i64 0,.int .i64 0,.slice none 0 0,.bool false,.int .i64 0,.string emp,.bool false,.string emp,.string emp,.int .i64 0,.bool false,.slice none 0 0,.bool false,.string emp,.bool false,.string emp,.bool false,.string emp,.string emp,.int .i64 0,.bool false,.bool false,.slice none 0 0,.slice none 0 0,.slice none 0 0] true 0)
 have gb1 := (k1.at gb (by simp) (by simp)).1
 have hvc := dl_vc hw
 simp (disch := first | assumption | simp) only [↓sbD,sbU,tyB,↓reduceIte,Nat.reduceEqDiff,Nat.reduceLT,Nat.reduceAdd,Nat.reduceLeDiff,pairs,splice,ZV.val,AS_new,zePk,hvc.1,hvc.2]
 intro y hy
 have hyb : y ≠ b := nd hy gb1 (by simp)
 have yb : ∀ (τ : AHeap) o,(AHeap.set τ y o).get b = τ.get b := fun τ o => AHeap.get_set_ne _ _ hyb
 try simp (disch := first | assumption | simp) only [↓sbD,sbU,tyB,Nat.reduceMul,Nat.reduceSub,Int.reduceEq,Int.reduceLT,Int.reduceLE,Int.reduceNe,Nat.reduceBneDiff,Nat.reduceBEq,decide_false,gt_iff_lt,Bool.or_self,Bool.false_eq_true,Nat.mul_one,Nat.one_mul,Nat.zero_mul,↓reduceIte,Nat.reduceEqDiff,Nat.reduceLT,Nat.reduceAdd,Nat.reduceLeDiff,reduceCtorEq,goInt,pairs,isConst,TI.isAgg,splice,boxS,Edp,dpv,Nat.beq_eq,ZV.val,List.any_cons,List.any_nil,Bool.false_and,AHeap.get_set_same,hvc.1,hvc.2,Bool.and_self,Bool.and_true,List.length_cons,List.length_nil,List.cons_append,List.nil_append,List.drop_succ_cons,List.drop_zero,decide_true]
 generalize hσ2 : AHeap.set (AHeap.set σ1 y _) y _ = σ2
 have k2 : Kept σ1 [] σ2 [] := by rw [← hσ2]; exact ((Kept.refl _ []).setD hy).setD hy
 have gy2 : σ2.get y = .cells (unsC p.kind p.id w (.slice none 0 0) (.slice none 0 0)) true 0 := by rw [← hσ2]; exact AHeap.get_set_same _ _ _
 have gb2 := (k2.at gb1 (by simp) (by simp)).1
 simp only [unsC] at gy2
 clear hσ2
 refine drawS_l (fl := [(1,6),(3,6)]) (by kernel_rfl) ?_ ?_
 rotate_left; simp only [lastP_cc,lastP_one]; rotate_left
 ·simp only [List.all_cons,List.all_nil,floatS,List.getElem?_cons_succ,List.getElem?_cons_zero,List.getElem?_toArray,Region.wanted,Bool.not_true,Bool.or_true,reads,looksWeak,aev_tmp,upd_at,↓reduceIte,Nat.reduceLT,Nat.reduceAdd,blkOf,Bool.and_self,Bool.false_eq_true]
  try rfl
 by_cases hk : p.kind = 10
 ·have hkT := eq_true hk
  have huc := dl_vc d4
  simp (disch := first | assumption | simp) only [↓sbD,sbU,tyB,↓reduceIte,Nat.reduceEqDiff,Nat.reduceLT,Nat.reduceAdd,Nat.reduceLeDiff,reduceCtorEq,isConst,splice,hkT,gy2,yb,gb2,hvc.2,huc.1,huc.2,res_cellc,resC_some]
  exact downS_here (hq _ _ (by unfold unsB; rw [if_pos hk,if_pos hk]; exact unsC_pk hw d4 (.inl ⟨rfl,rfl⟩)) (((((Kept.refl σ []).setD hb).trans k1).trans (k2.setD hy)).setD hb))
 ·have hkT := eq_false hk
  have huc := dl_vc d5
  simp (disch := first | assumption | simp) only [↓sbD,sbU,tyB,decide_false,↓reduceIte,Nat.reduceEqDiff,Nat.reduceLT,Nat.reduceAdd,Nat.reduceLeDiff,reduceCtorEq,isConst,splice,hkT,gy2,yb,gb2,hvc.2,huc.1,huc.2,res_cellc,resC_some]
  exact downS_here (hq _ _ (by unfold unsB; rw [if_neg hk,if_neg hk]; exact unsC_pk hw (.inl ⟨rfl,rfl⟩) d5) (((((Kept.refl σ []).setD hb).trans k1).trans (k2.setD hy)).setD hb))
end
end Go.Proofs.YtonmjhdcijibgaaGreatDoor.AbsB
