/-
  Parts of a law's proof.
-/
import Derived.Test.YtonmjhdcijibgaaGreatDoorAUnqcJ
import Derived.Test.YtonmjhdcijibgaaGreatDoorAApqbJ
namespace Go.Proofs.YtonmjhdcijibgaaGreatDoor.AbsB
open Go AbsYtonmjhdcijibgaaGreatDoor Abs
set_option maxRecDepth 100000
set_option maxHeartbeats 8000000
set_option linter.unusedSimpArgs false
set_option linter.unusedVariables false
attribute [local irreducible] afterS afterOpS opSK OpsS TrS CodeS condS condW thenS thenQ guardS guardTS outS drawS trSK consS
section
variable {σ : AHeap} {Q : Value → AHeap → Prop} {r q p : Nat} {s : ByteArray}
theorem specSFirst {k : Int} (h : Q (.int .i64 (firstS k)) σ) : CallS E B 93 [.int .i64 k] σ Q := by
 refine call93 (by simp) ?_
 simp only [strip,bodyOf,Tryz.f93,getD_body,keepN,bareOp_mk,List.map_cons,List.map_nil,↓reduceIte,Bool.false_eq_true]
 by_cases hm : k = 8 ∨ k = 9
 ·rcases hm with rfl | rfl <;>
   (simp only [↓sbD,sbU,Int.reduceEq,decide_false,↓reduceIte,Nat.reduceEqDiff,Nat.reduceLT,reduceCtorEq,isConst]
    exact downS_here h)
 ·simp only [not_or] at hm
  have e : firstS k = 0 := by simp [firstS,hm]
  rw [e] at h
  obtain ⟨n1,n2⟩ := hm
  simp only [↓sbD,sbU,decide_false,↓reduceIte,Nat.reduceEqDiff,Nat.reduceLT,reduceCtorEq,isConst,n1,n2]
  exact downS_here h
theorem opt_or : ∀ a,a < 4 → ∀ b,b < 4 → ((a ||| b * 16) = a + 16 * b) ∧ ((a ||| b * 16) ||| 4) = a + 16 * b + 4 ∧ ((a ||| b * 16) ||| 8) = a + 16 * b + 8 ∧ (((a ||| b * 16) ||| 4) ||| 8) = a + 16 * b + 4 + 8 := by decide +kernel
theorem specSOpt {x : Sb} (h : Q (.int .i64 (optI x)) σ) : CallS E B 94 [.agg ⟨subC x⟩] σ Q := by
 obtain ⟨g,q,nl,ai,rt⟩ := x
 simp only [subC]
 unfold optI at h
 simp only at h
 refine call94 (by simp) ?_
 simp only [strip,bodyOf,Tryz.f94,getD_body,keepN,bareOp_mk,List.map_cons,List.map_nil,↓reduceIte,Bool.false_eq_true]
 by_cases c1 : q < 0
 ·rw [if_pos (.inl c1)] at h
  simp only [↓sbD,sbU,tyB,↓reduceIte,Nat.reduceEqDiff,Nat.reduceLT,reduceCtorEq,isConst,boxS,Edp,dpv,c1]
  exact downS_here h
 by_cases c2 : 3 < q
 ·rw [if_pos (.inr (.inl c2))] at h
  simp only [↓sbD,sbU,tyB,decide_false,↓reduceIte,Nat.reduceEqDiff,Nat.reduceLT,reduceCtorEq,isConst,boxS,Edp,dpv,c1,c2]
  exact downS_here h
 by_cases c3 : rt < 0
 ·rw [if_pos (.inr (.inr (.inl c3)))] at h
  simp only [↓sbD,sbU,tyB,decide_false,↓reduceIte,Nat.reduceEqDiff,Nat.reduceLT,reduceCtorEq,isConst,boxS,Edp,dpv,c1,c2,c3]
  exact downS_here h
 by_cases c4 : 3 < rt
 ·rw [if_pos (.inr (.inr (.inr c4)))] at h
  simp only [↓sbD,sbU,tyB,decide_false,↓reduceIte,Nat.reduceEqDiff,Nat.reduceLT,reduceCtorEq,isConst,boxS,Edp,dpv,c1,c2,c3,c4]
  exact downS_here h
 ·rw [if_neg (by omega)] at h
  obtain ⟨a,rfl⟩ : ∃ a : Nat,q = a := ⟨q.toNat,by omega⟩
  obtain ⟨b,rfl⟩ : ∃ b : Nat,rt = b := ⟨rt.toNat,by omega⟩
  have hwm : IntKind.i64.wrap ((b : Int) * 16) = ((b * 16 : Nat) : Int) := by rw [wrap64 ⟨by omega,by omega⟩]; omega
  obtain ⟨o1,o2,o3,o4⟩ := opt_or a (by omega) b (by omega)
  have f1 := or_nat (n := a) (m := b * 16) (by omega) (by omega)
  rw [o1] at f1 o2 o3 o4
  have f2 : aint .or .i64 ((a + 16 * b : Nat) : Int) 4 = _ := or_nat (n := a + 16 * b) (m := 4) (by omega) (by omega)
  have f3 : aint .or .i64 ((a + 16 * b : Nat) : Int) 8 = _ := or_nat (n := a + 16 * b) (m := 8) (by omega) (by omega)
  have f4 : aint .or .i64 ((a + 16 * b + 4 : Nat) : Int) 8 = _ := or_nat (n := a + 16 * b + 4) (m := 8) (by omega) (by omega)
  rw [o2] at f2
  rw [o3] at f3
  rw [← o2,o4] at f4
  rw [o2] at f4
  cases nl <;> cases ai <;>
   (simp only [↓sbD,sbU,tyB,decide_false,Bool.or_self,↓reduceIte,Nat.reduceEqDiff,Nat.reduceLT,reduceCtorEq,isConst,boxS,Edp,dpv,c1,c2,c3,c4,hwm,f1,f2,f3,f4]
    refine downS_here ?_
    simpa using h)
theorem specSCode (hr : IsR σ r s p .nilIface) (hp : p < s.size) (hs : s.size ≤ 100000000)
  (hok : ∀ c q,codeO 9 s p = .ok (c,q) → ∀ σ',Kept σ [r] σ' [r] → IsR σ' r s q .nilIface → p < q → q ≤ s.size → Q (.tuple #[.int .i64 c,.nilIface]) σ')
  (hbad : ∀ k rr a : Nat,codeO 9 s p = .error (k,rr,a) → ∀ σ' d z,Kept σ [r] σ' [r] → d ≤ 3 → ErN d (fv rr a z) k → Q (.tuple #[.int .i64 0,fv rr a z]) σ') :
  CallS E B 139 [.pointer (some ⟨r,0,none⟩)] σ Q := by
 obtain ⟨n,hn⟩ := numR_one hp
 unfold codeO at hok hbad
 simp only [hn] at hok hbad
 refine call139 (by simp) ?_
 simp only [strip,bodyOf,Tryz.f139,getD_body,keepN,bareOp_mk,List.map_cons,List.map_nil,↓reduceIte,Bool.false_eq_true]
 simp only [↓sbD,sbU,↓reduceIte,Nat.reduceLT,reduceCtorEq]
 refine specRAt hr ?_
 simp only [↓sbD,sbU,↓reduceIte,Nat.reduceLT,reduceCtorEq]
 refine specRU8 hr (by omega) (by omega) (fun n' q' hn' σ1 k1 i1 => ?_) fun k q' hn' σ1 k1 i1 => by rw [hn] at hn'; cases hn'
 rw [hn] at hn'
 simp only [Except.ok.injEq,Prod.mk.injEq] at hn'
 obtain ⟨rfl,rfl⟩ := hn'
 simp only [↓sbD,sbU,↓reduceIte,Nat.reduceLT,reduceCtorEq]
 refine specRErr i1 ?_
 simp only [↓sbD,sbU,tyB,↓reduceIte,Nat.reduceEqDiff,Nat.reduceLT,isConst]
 refine specAlwR ?_
 cases ha : alw 9 (n : Int) with
 | false =>
  simp only [ha,Bool.false_eq_true,if_false] at hbad
  simp only [↓sbD,sbU,tyB,↓reduceIte,Nat.reduceEqDiff,Nat.reduceLT,not_bool,gk2]
  refine specNew (n := 2) ⟨by omega,by omega⟩ ?_
  simp only [↓sbD,sbU,↓reduceIte,Nat.reduceEqDiff,Nat.reduceLT]
  exact downS_here (hbad 2 129 p rfl _ 1 _ k1 (by omega) (ErN.new _ _ ⟨by omega,by omega⟩))
 | true =>
  simp only [ha,if_true] at hok
  simp only [↓sbD,sbU,↓reduceIte,Nat.reduceEqDiff,Nat.reduceLT,reduceCtorEq,not_bool]
  refine specRErr i1 ?_
  simp only [↓sbD,sbU,↓reduceIte,Nat.reduceEqDiff,Nat.reduceLT]
  exact downS_here (hok _ _ rfl _ k1 i1 (by omega) (by omega))
theorem specSOne (hr : IsR σ r s p .nilIface) (hp : p ≤ s.size) (hs : s.size ≤ 100000000)
  (hok : ∀ x q,subO s p = .ok (x,q) → ∀ σ',Kept σ [r] σ' [r] → IsR σ' r s q .nilIface → q ≤ s.size → Q (.tuple #[.agg ⟨subC x⟩,.nilIface]) σ')
  (hbad : ∀ k rr a : Nat,subO s p = .error (k,rr,a) → ∀ x σ' d z,Kept σ [r] σ' [r] → d ≤ 3 → ErN d (fv rr a z) k → Q (.tuple #[.agg ⟨subC x⟩,fv rr a z]) σ') :
  CallS E B 141 [.pointer (some ⟨r,0,none⟩)] σ Q := by
 unfold subO at hok hbad
 refine call141 (by simp) ?_
 simp only [strip,bodyOf,Tryz.f141,getD_body,keepN,bareOp_mk,lessOp_mk,List.map_cons,List.map_nil,↓reduceIte,Nat.reduceEqDiff,Bool.false_eq_true]
 simp only [↓sbD,sbU,↓reduceIte,Nat.reduceLT,reduceCtorEq,AS_new,zeSb]
 intro b hb
 have hbr : b ≠ r := nd hb hr (by simp)
 generalize hσ1 : AHeap.set σ b _ = σ1
 have k1 : Kept σ [r] σ1 [r] := by rw [← hσ1]; exact (Kept.refl σ [r]).setD hb
 have gb1 : σ1.get b = .cells [.string emp,.int .i64 0,.bool false,.bool false,.int .i64 0] true 0 := by rw [← hσ1]; exact AHeap.get_set_same _ _ _
 have i1 : IsR σ1 r s p .nilIface := by rw [← hσ1]; unfold IsR; rw [AHeap.get_set_ne _ _ hbr]; exact hr
 clear hσ1
 refine specDText i1 hp (by omega) (fun t q ht σ2 k2 i2 => ?_) fun k q ht σ2 k2 i2 => ?_
 rotate_left
 ·simp only [ht] at hok hbad
  obtain ⟨d,z,hd,he,i3⟩ := i2
  have gb2 := (k2.at gb1 (by simp) (by simpa using hbr)).1
  simp only [↓sbD,sbU,tyB,↓reduceIte,Nat.reduceEqDiff,Nat.reduceLT,Nat.reduceAdd,Nat.reduceLeDiff,reduceCtorEq,pairs,splice,ZV.val,AS_new,zeSb]
  intro y hy
  have hyb : y ≠ b := nd hy gb2 (by simp)
  have hyr : y ≠ r := nd hy i3 (by simp)
  generalize hσ3 : AHeap.set (AHeap.set σ2 y _) y _ = σ3
  have k3 : Kept σ2 [] σ3 [] := by rw [← hσ3]; exact ((Kept.refl _ []).setD hy).setD hy
  have i4 := i3.kept k3 (by simp)
  have gy3 : σ3.get y = .cells [.string emp,.int .i64 0,.bool false,.bool false,.int .i64 0] true 0 := by rw [← hσ3]; exact AHeap.get_set_same _ _ _
  have gb3 := (k3.at gb2 (by simp) (by simp)).1
  have M3 : Kept σ2 [r] σ3 [r] := k3.wid (fun _ h => by cases h) (fun _ h => .inr h)
  have K3 := k1.trans (k2.trans M3)
  clear hσ3
  refine specRAt i4 ?_
  simp only [↓sbD,sbU,↓reduceIte,Nat.reduceLT,reduceCtorEq]
  refine specRU8E i4 ?_
  simp only [↓sbD,sbU,↓reduceIte,Nat.reduceLT,reduceCtorEq]
  refine specRErr i4 ?_
  simp only [↓sbD,sbU,tyB,↓reduceIte,Nat.reduceEqDiff,Nat.reduceLT,Nat.reduceAdd,Nat.reduceLeDiff,isConst,splice,gy3,gb3,res_cellc,resC_some]
  exact downS_here (hbad k 129 q rfl ⟨emp,0,false,false,0⟩ _ d z (K3.setD hb) (by omega) he)
 have hq := textR_ok ht
 simp only [ht] at hok hbad
 have gb2 := (k2.at gb1 (by simp) (by simpa using hbr)).1
 have i3 := i2
 simp only [↓sbD,sbU,tyB,↓reduceIte,Nat.reduceEqDiff,Nat.reduceLT,Nat.reduceAdd,Nat.reduceLeDiff,reduceCtorEq,pairs,splice,ZV.val,AS_new,zeSb]
 intro y hy
 have hyb : y ≠ b := nd hy gb2 (by simp)
 have hyr : y ≠ r := nd hy i3 (by simp)
 generalize hσ3 : AHeap.set (AHeap.set σ2 y _) y _ = σ3
 have k3 : Kept σ2 [] σ3 [] := by rw [← hσ3]; exact ((Kept.refl _ []).setD hy).setD hy
 have i4 := i3.kept k3 (by simp)
 have gy3 : σ3.get y = .cells [.string t,.int .i64 0,.bool false,.bool false,.int .i64 0] true 0 := by rw [← hσ3]; exact AHeap.get_set_same _ _ _
 have gb3 := (k3.at gb2 (by simp) (by simp)).1
 have M3 : Kept σ2 [r] σ3 [r] := k3.wid (fun _ h => by cases h) (fun _ h => .inr h)
 have K3 := k1.trans (k2.trans M3)
 clear hσ3
 refine specRAt i4 ?_
 simp only [↓sbD,sbU,↓reduceIte,Nat.reduceLT,reduceCtorEq]
 refine specRU8 i4 hq.2 (by omega) (fun n q2 hn σ5 k5 i5 => ?_) fun k q2 hn σ5 k5 i5 => ?_
 rotate_left
 ·simp only [hn] at hok hbad
  obtain ⟨d,z,hd,he,i6⟩ := i5
  have gy5 := (k5.at gy3 (by simp) (by simpa using hyr)).1
  have gb5 := (k5.at gb3 (by simp) (by simpa using hbr)).1
  simp only [↓sbD,sbU,↓reduceIte,Nat.reduceLT,reduceCtorEq]
  refine specRErr i6 ?_
  simp only [↓sbD,sbU,tyB,↓reduceIte,Nat.reduceEqDiff,Nat.reduceLT,Nat.reduceAdd,Nat.reduceLeDiff,isConst,splice,gy5,gb5,res_cellc,resC_some]
  exact downS_here (hbad k 129 q2 rfl ⟨t,0,false,false,0⟩ _ d z ((K3.trans k5).setD hb) (by omega) he)
 have hnz := numR_lt hn
 have hq2 := numR_ok hn
 simp only [hn] at hok hbad
 have gy5 := (k5.at gy3 (by simp) (by simpa using hyr)).1
 have gb5 := (k5.at gb3 (by simp) (by simpa using hbr)).1
 have yb : ∀ (τ : AHeap) o,(AHeap.set τ y o).get b = τ.get b := fun τ o => AHeap.get_set_ne _ _ hyb
 have by' : ∀ (τ : AHeap) o,(AHeap.set τ b o).get y = τ.get y := fun τ o => AHeap.get_set_ne _ _ hyb.symm
 simp only [↓sbD,sbU,↓reduceIte,Nat.reduceLT,reduceCtorEq]
 refine specRErr i5 ?_
 obtain ⟨b3,b4,b8⟩ := bits_and n (by omega)
 have a3 : aint .and .i64 (n : Int) 3 = _ := and_nat (n := n) (m := 3) (by omega) (by omega)
 rw [b3] at a3
 have a4 : aint .and .i64 (n : Int) 4 = _ := and_nat (n := n) (m := 4) (by omega) (by omega)
 have a8 : aint .and .i64 (n : Int) 8 = _ := and_nat (n := n) (m := 8) (by omega) (by omega)
 have a16 : aint .quo .i64 (n : Int) 16 = some (.int .i64 ((n / 16 : Nat) : Int)) := by
  show (if (16 : Int) = 0 then none else some (Value.int .i64 (IntKind.i64.wrap ((n : Int).tdiv 16)))) = _
  rw [if_neg (by decide),Int.tdiv_eq_ediv_of_nonneg (by omega),wrap64 ⟨by omega,by omega⟩]
  rfl
 have e4 : (((n &&& 4 : Nat) : Int) = 0) = (¬ n / 4 % 2 = 1) := by rw [← b4]; exact propext ⟨fun h => by omega,fun h => by omega⟩
 have e8 : (((n &&& 8 : Nat) : Int) = 0) = (¬ n / 8 % 2 = 1) := by rw [← b8]; exact propext ⟨fun h => by omega,fun h => by omega⟩
 have hsub : ∀ B4 B8 : Bool,(n / 4 % 2 = 1 ↔ B4 = true) → (n / 8 % 2 = 1 ↔ B8 = true) → subN t n = ⟨t,((n % 4 : Nat) : Int),B4,B8,((n / 16 : Nat) : Int)⟩ := fun B4 B8 h1 h2 => by
  unfold subN
  congr 1
  ·cases B4 <;> simp_all
  ·cases B8 <;> simp_all
 rcases Classical.em (n / 4 % 2 = 1) with h4 | h4 <;> rcases Classical.em (n / 8 % 2 = 1) with h8 | h8
 all_goals
  rw [show (n / 4 % 2 = 1) = _ from by first | exact eq_true h4 | exact eq_false h4] at e4
  rw [show (n / 8 % 2 = 1) = _ from by first | exact eq_true h8 | exact eq_false h8] at e8
  have hsb := hsub _ _ (by first | exact iff_of_true h4 rfl | exact iff_of_false h4 Bool.false_ne_true) (by first | exact iff_of_true h8 rfl | exact iff_of_false h8 Bool.false_ne_true)
  simp only [↓sbD,sbU,tyB,decide_false,↓reduceIte,Nat.reduceEqDiff,Nat.reduceLT,Nat.reduceAdd,Nat.reduceLeDiff,reduceCtorEq,isConst,splice,a3,a4,a8,a16,e4,e8,decide_false,gy5]
  generalize hσ6 : AHeap.set (AHeap.set (AHeap.set (AHeap.set σ5 y _) y _) y _) y _ = σ6
  have M6 : Kept σ2 [r] σ6 [r] := by rw [← hσ6]; exact ((((M3.trans k5).setD hy).setD hy).setD hy).setD hy
  have gb6 : σ6.get b = .cells [.string emp,.int .i64 0,.bool false,.bool false,.int .i64 0] true 0 := by rw [← hσ6,yb,yb,yb,yb]; exact gb5
  have i6 : IsR σ6 r s q2 .nilIface := by rw [← hσ6]; unfold IsR; rw [AHeap.get_set_ne _ _ hyr,AHeap.get_set_ne _ _ hyr,AHeap.get_set_ne _ _ hyr,AHeap.get_set_ne _ _ hyr]; exact i5
  have gy6 : σ6.get y = .cells (subC (subN t n)) true 0 := by rw [← hσ6,hsb]; exact AHeap.get_set_same _ _ _
  simp only [subC,subN] at gy6
  have FIN : ∀ {o : AObj},Kept σ [r] (σ6.set b o) [r] := (k1.trans (k2.trans M6)).setD hb
  clear hσ6
  by_cases h63 : 63 < n
  ·have h63' : (63 : Int) < (n : Int) := by omega
   simp only [h63,if_true] at hbad
   simp only [↓sbD,sbU,tyB,↓reduceIte,Nat.reduceEqDiff,Nat.reduceLT,Nat.reduceAdd,Nat.reduceLeDiff,h63',gy6,gk2]
   refine specNew (n := 2) ⟨by omega,by omega⟩ ?_
   simp only [↓sbD,sbU,tyB,↓reduceIte,Nat.reduceEqDiff,Nat.reduceLT,Nat.reduceAdd,Nat.reduceLeDiff,splice,gb6]
   refine drawS_l (fl := [(0,3)]) (by kernel_rfl) ?_ ?_
   rotate_left; simp only [lastP_cc,lastP_one]; rotate_left
   ·simp only [List.all_cons,List.all_nil,floatS,List.getElem?_cons_succ,List.getElem?_cons_zero,List.getElem?_toArray,Region.wanted,Bool.not_true,Bool.not_false,Bool.or_true,reads,looksWeak,aev_tmp,upd_at,↓reduceIte,Nat.reduceEqDiff,Nat.reduceLT,Nat.reduceAdd,blkOf,oeq_refl,dead_cells,Bool.and_true,Bool.and_self,Bool.false_eq_true,Bool.not_false,gy6]
    try rfl
   simp only [↓sbD,sbU,tyB,↓reduceIte,Nat.reduceEqDiff,Nat.reduceLT,Nat.reduceAdd,Nat.reduceLeDiff,res_cellc,resC_some]
   exact downS_here (hbad 2 129 q rfl ⟨t,_,_,_,_⟩ _ 1 _ FIN (by omega) (ErN.new _ _ ⟨by omega,by omega⟩))
  have h63' : ¬ (63 : Int) < (n : Int) := by omega
  simp only [h63,if_false] at hok hbad
  have BAD : (n % 4 = 3 ∨ n / 16 = 3) → ∀ {Q' : Prop},((∀ x σ' d z,Kept σ [r] σ' [r] → d ≤ 3 → ErN d (fv 130 q z) 3 → Q (.tuple #[.agg ⟨subC x⟩,fv 130 q z]) σ') → Q') → Q' := fun h Q' H => H fun x σ' d z a b c => hbad 3 130 q (by simp only [h,if_true]) x σ' d z a b c
  by_cases hm : n % 4 = 3
  ·have hm' : ((n % 4 : Nat) : Int) = 3 := by omega
   rw [hm'] at gy6
   refine BAD (.inl hm) fun hbad => ?_
   simp only [↓sbD,sbU,tyB,decide_false,↓reduceIte,Nat.reduceEqDiff,Nat.reduceLT,Nat.reduceAdd,Nat.reduceLeDiff,reduceCtorEq,isConst,h63',gy6,gk3]
   refine specNew (n := 3) ⟨by omega,by omega⟩ ?_
   simp only [↓sbD,sbU,tyB,↓reduceIte,Nat.reduceEqDiff,Nat.reduceLT,Nat.reduceAdd,Nat.reduceLeDiff,splice,gb6]
   refine drawS_l (fl := [(0,3)]) (by kernel_rfl) ?_ ?_
   rotate_left; simp only [lastP_cc,lastP_one]; rotate_left
   ·simp only [List.all_cons,List.all_nil,floatS,List.getElem?_cons_succ,List.getElem?_cons_zero,List.getElem?_toArray,Region.wanted,Bool.not_true,Bool.not_false,Bool.or_true,reads,looksWeak,aev_tmp,upd_at,↓reduceIte,Nat.reduceEqDiff,Nat.reduceLT,Nat.reduceAdd,blkOf,oeq_refl,dead_cells,Bool.and_true,Bool.and_self,Bool.false_eq_true,Bool.not_false,gy6]
    try rfl
   simp only [↓sbD,sbU,tyB,↓reduceIte,Nat.reduceEqDiff,Nat.reduceLT,Nat.reduceAdd,Nat.reduceLeDiff,res_cellc,resC_some]
   exact downS_here (hbad ⟨t,_,_,_,_⟩ _ 1 _ FIN (by omega) (ErN.new _ _ ⟨by omega,by omega⟩))
  have hm' : ¬ ((n % 4 : Nat) : Int) = 3 := by omega
  by_cases hd : n / 16 = 3
  ·have hd' : ((n / 16 : Nat) : Int) = 3 := by omega
   rw [hd'] at gy6
   refine BAD (.inr hd) fun hbad => ?_
   simp only [↓sbD,sbU,tyB,decide_false,↓reduceIte,Nat.reduceEqDiff,Nat.reduceLT,Nat.reduceAdd,Nat.reduceLeDiff,reduceCtorEq,isConst,h63',gy6,hm',gk3]
   refine specNew (n := 3) ⟨by omega,by omega⟩ ?_
   simp only [↓sbD,sbU,tyB,↓reduceIte,Nat.reduceEqDiff,Nat.reduceLT,Nat.reduceAdd,Nat.reduceLeDiff,splice,gb6]
   refine drawS_l (fl := [(0,3)]) (by kernel_rfl) ?_ ?_
   rotate_left; simp only [lastP_cc,lastP_one]; rotate_left
   ·simp only [List.all_cons,List.all_nil,floatS,List.getElem?_cons_succ,List.getElem?_cons_zero,List.getElem?_toArray,Region.wanted,Bool.not_true,Bool.not_false,Bool.or_true,reads,looksWeak,aev_tmp,upd_at,↓reduceIte,Nat.reduceEqDiff,Nat.reduceLT,Nat.reduceAdd,blkOf,oeq_refl,dead_cells,Bool.and_true,Bool.and_self,Bool.false_eq_true,Bool.not_false,gy6]
    try rfl
   simp only [↓sbD,sbU,tyB,↓reduceIte,Nat.reduceEqDiff,Nat.reduceLT,Nat.reduceAdd,Nat.reduceLeDiff,res_cellc,resC_some]
   exact downS_here (hbad ⟨t,_,_,_,_⟩ _ 1 _ FIN (by omega) (ErN.new _ _ ⟨by omega,by omega⟩))
  have hd' : ¬ ((n / 16 : Nat) : Int) = 3 := by omega
  simp only [hm,hd,or_self,if_false] at hok
  simp only [↓sbD,sbU,tyB,decide_false,↓reduceIte,Nat.reduceEqDiff,Nat.reduceLT,Nat.reduceAdd,Nat.reduceLeDiff,reduceCtorEq,isConst,splice,h63',gy6,hm',hd',gb6,res_cellc,resC_some]
  exact downS_here (hok _ q2 rfl _ FIN (by unfold IsR; rw [AHeap.get_set_ne _ _ hbr]; exact i6) (by omega))
end
section
variable {σ : AHeap} {Q : Value → AHeap → Prop} {r q p : Nat} {s : ByteArray}
theorem specSevI (hr : IsR σ r s p .nilIface) (hp : p ≤ s.size) (hs : s.size ≤ 100000000)
  (hok : ∀ l,Parts s.size (codeO 9 s) p [] (.ok l) → ∀ v σ',DL intC 1 v l → Kept σ [r] σ' [r] → Q (.tuple #[v,.nilIface]) σ')
  (hbad : ∀ k rr a : Nat,Parts s.size (codeO 9 s) p [] (.error (k,rr,a)) → ∀ σ' d z,Kept σ [r] σ' [r] → d ≤ 3 → ErN d (fv rr a z) k → Q (.tuple #[.slice none 0 0,fv rr a z]) σ') :
  CallS E B 138 [.pointer (some ⟨r,0,none⟩),.func (.func 139) ⟨[]⟩ ⟨[]⟩] σ Q := by
 refine call138 (by simp) ?_
 simp only [strip,bodyOf,Tryz.f138,getD_body,keepN,bareOp_mk,lessOp_mk,List.map_cons,List.map_nil,↓reduceIte,Nat.reduceEqDiff,Bool.false_eq_true]
 simp (disch := first | assumption | simp) only [↓sbD,sbU]
 refine S_loop (fun m f σ' => ∃ (p' : Nat) (l : List Int) (v : Value) (fp : List Nat),m + l.length = 32 ∧ p' ≤ s.size ∧ f 6 = v ∧ DG intC 1 σ' v l fp ∧ IsR σ' r s p' .nilIface ∧ Kept σ [r] σ' (r :: fp) ∧ ∀ R,Parts s.size (codeO 9 s) p' l R → Parts s.size (codeO 9 s) p [] R) 32 (Le.refl _) ⟨p,[],_,[],rfl,hp,rfl,by simp (disch := first | assumption | simp) only [sbU,↓reduceIte]; exact DG.nil,hr,Kept.refl _ _,fun R h => h⟩ ?_
 rintro m f σ2 ⟨p',l,v,fp,hm,hp',f6,hg,i2,k2,hback⟩ hf
 have f0 := hf 0 (by decide) (notMem_wr (by kernel_rfl))
 have f1 := hf 1 (by decide) (notMem_wr (by kernel_rfl))
 simp (disch := first | assumption | simp) only [sbU,↓reduceIte,Nat.reduceEqDiff,reduceCtorEq] at f0 f1
 clear hf
 have hlen := DLi.len hg.dl
 have hrf := hg.nin i2
 have K2 : Kept σ [r] σ2 [r] := k2.wid (fun _ h => h) (fun b h => by simp only [List.mem_cons,List.not_mem_nil,or_false] at h; exact .inr (by simp [h]))
 simp (disch := first | assumption | simp) only [↓sbD,sbU,↓reduceIte,Nat.reduceLT,f0]
 refine specRLeft i2 hp' (by omega) ?_
 by_cases hlt : p' < s.size
 ·have hl0 : (0 : Int) < ((s.size - p' : Nat) : Int) := by omega
  by_cases h32 : l.length = 32
  ·have h32' : (l.length : Int) = 32 := by omega
   simp (disch := first | assumption | simp) only [↓sbD,sbU,↓reduceIte,Nat.reduceEqDiff,Nat.reduceLT,reduceCtorEq,isConst,f0,f6,hl0,hlen,h32']
   refine specRAt i2 ?_
   simp (disch := first | assumption | simp) only [↓sbD,sbU,tyB,↓reduceIte,Nat.reduceEqDiff,Nat.reduceLT,gk4]
   refine specNew (n := 4) ⟨by omega,by omega⟩ ?_
   simp (disch := first | assumption | simp) only [↓sbD,sbU,↓reduceIte,Nat.reduceEqDiff,Nat.reduceLT]
   refine drawS_l (fl := [(2,1)]) (by kernel_rfl) ?_ ?_
   rotate_left; simp only [lastP_cc,lastP_one]; rotate_left
   ·simp only [List.all_cons,List.all_nil,floatS,List.getElem?_cons_succ,List.getElem?_cons_zero,List.getElem?_toArray,Region.wanted,Bool.not_true,Bool.false_or,reads,looksWeak,↓reduceIte,Nat.reduceAdd,blkOf,oeq_refl,Bool.and_true,Bool.and_self,Bool.false_eq_true]
    try rfl
   simp (disch := first | assumption | simp) only [↓sbD,sbU,↓reduceIte,Nat.reduceEqDiff,Nat.reduceLT]
   exact downS_here (hbad 4 149 p' (hback _ (.many hlt h32)) _ 1 _ K2 (by omega) (ErN.new _ _ ⟨by omega,by omega⟩))
  ·have h32' : ¬ (l.length : Int) = 32 := by omega
   simp (disch := first | assumption | simp) only [↓sbD,sbU,decide_false,↓reduceIte,Nat.reduceEqDiff,Nat.reduceLT,reduceCtorEq,isConst,f0,f1,f6,hl0,hlen,h32']
   refine specSCode i2 hlt hs (fun x q hx σ3 k3 i3 _ hq => ?_) fun k rr a hx σ3 d z k3 hd he => ?_
   ·have hg3 := hg.kept k3 (fun b hb hm => hrf (by obtain rfl := List.mem_singleton.1 hm; exact hb))
    simp (disch := first | assumption | simp) only [↓sbD,sbU,tyB,Nat.reduceBneDiff,decide_false,gt_iff_lt,Bool.or_self,Bool.false_eq_true,Nat.mul_one,↓reduceIte,Nat.reduceEqDiff,Nat.reduceLT,Nat.reduceLeDiff,reduceCtorEq,pairs,isConst,splice,Edp,dpv,ZV.val,f6]
    refine app_in (xs := [x]) hg3 (.inr ⟨1,rfl⟩) (by simp only [List.length_cons,List.length_nil]; omega) fun σ4 v4 fp4 k4 g4 => ?_
    have i4 := (k4.at i3 (by simp) hrf).1
    simp (disch := first | assumption | simp) only [↓sbD,sbU,↓reduceIte,Nat.reduceLT]
    exact ⟨_,m - 1,σ4,rfl,by omega,Le.refl _,q,l ++ [x],v4,fp4,by rw [List.length_append]; simp only [List.length_cons,List.length_nil]; omega,hq,rfl,g4,i4,(k2.trans (k3.wid (gp := r :: fp) (gp' := r :: fp) (fun b hb => by simp at hb; simp [hb]) (fun b hb => .inr hb))).trans (k4.wid (gp := r :: fp) (gp' := r :: fp4) (fun b hb => by simp [hb]) (fun b hb => by simp only [List.mem_cons] at hb ⊢; rcases hb with hb | hb <;> simp [hb])),fun R h => hback R (.step hlt h32 hx h)⟩
   ·simp (disch := first | assumption | simp) only [↓sbD,sbU,tyB,↓reduceIte,Nat.reduceEqDiff,Nat.reduceLT,isConst]
    exact downS_here (hbad k rr a (hback _ (.bad hlt h32 hx)) _ d z (K2.trans k3) hd he)
 ·have hl0 : ¬ (0 : Int) < ((s.size - p' : Nat) : Int) := by omega
  by_cases hn : l = []
  ·subst hn
   simp (disch := first | assumption | simp) only [↓sbD,sbU,decide_false,↓reduceIte,Nat.reduceEqDiff,Nat.reduceLT,reduceCtorEq,isConst,f0,f6,hl0,hlen,show ((0 : Nat) : Int) = 0 from rfl]
   refine specRAt i2 ?_
   simp (disch := first | assumption | simp) only [↓sbD,sbU,tyB,↓reduceIte,Nat.reduceEqDiff,Nat.reduceLT,gk3]
   refine specNew (n := 3) ⟨by omega,by omega⟩ ?_
   simp (disch := first | assumption | simp) only [↓sbD,sbU,↓reduceIte,Nat.reduceEqDiff,Nat.reduceLT]
   refine drawS_l (fl := [(2,1)]) (by kernel_rfl) ?_ ?_
   rotate_left; simp only [lastP_cc,lastP_one]; rotate_left
   ·simp only [List.all_cons,List.all_nil,floatS,List.getElem?_cons_succ,List.getElem?_cons_zero,List.getElem?_toArray,Region.wanted,Bool.not_true,Bool.false_or,reads,looksWeak,↓reduceIte,Nat.reduceAdd,blkOf,oeq_refl,Bool.and_true,Bool.and_self,Bool.false_eq_true]
    try rfl
   simp (disch := first | assumption | simp) only [↓sbD,sbU,↓reduceIte,Nat.reduceEqDiff,Nat.reduceLT]
   exact downS_here (hbad 3 130 p' (hback _ (.none (by omega))) _ 1 _ K2 (by omega) (ErN.new _ _ ⟨by omega,by omega⟩))
  ·have hn' : ¬ (l.length : Int) = 0 := fun h => hn (List.length_eq_zero_iff.1 (by omega))
   simp (disch := first | assumption | simp) only [↓sbD,sbU,decide_false,↓reduceIte,Nat.reduceEqDiff,Nat.reduceLT,isConst,f6,hl0,hlen,hn']
   exact downS_here (hok l (hback _ (.done (by omega) hn)) v _ hg.dl K2)
theorem specSevS (hr : IsR σ r s p .nilIface) (hp : p ≤ s.size) (hs : s.size ≤ 100000000)
  (hok : ∀ l,Parts s.size (subO s) p [] (.ok l) → ∀ v σ',DL subC 5 v l → Kept σ [r] σ' [r] → Q (.tuple #[v,.nilIface]) σ')
  (hbad : ∀ k rr a : Nat,Parts s.size (subO s) p [] (.error (k,rr,a)) → ∀ σ' d z,Kept σ [r] σ' [r] → d ≤ 3 → ErN d (fv rr a z) k → Q (.tuple #[.slice none 0 0,fv rr a z]) σ') :
  CallS E B 140 [.pointer (some ⟨r,0,none⟩),.func (.func 141) ⟨[]⟩ ⟨[]⟩] σ Q := by
 refine call140 (by simp) ?_
 simp only [strip,bodyOf,Tryz.f140,getD_body,keepN,bareOp_mk,lessOp_mk,List.map_cons,List.map_nil,↓reduceIte,Nat.reduceEqDiff,Bool.false_eq_true]
 simp (disch := first | assumption | simp) only [↓sbD,sbU]
 refine S_loop (fun m f σ' => ∃ (p' : Nat) (l : List Sb) (v : Value) (fp : List Nat),m + l.length = 32 ∧ p' ≤ s.size ∧ f 6 = v ∧ DG subC 5 σ' v l fp ∧ IsR σ' r s p' .nilIface ∧ Kept σ [r] σ' (r :: fp) ∧ ∀ R,Parts s.size (subO s) p' l R → Parts s.size (subO s) p [] R) 32 (Le.refl _) ⟨p,[],_,[],rfl,hp,rfl,by simp (disch := first | assumption | simp) only [sbU,↓reduceIte]; exact DG.nil,hr,Kept.refl _ _,fun R h => h⟩ ?_
 rintro m f σ2 ⟨p',l,v,fp,hm,hp',f6,hg,i2,k2,hback⟩ hf
 have f0 := hf 0 (by decide) (notMem_wr (by kernel_rfl))
 have f1 := hf 1 (by decide) (notMem_wr (by kernel_rfl))
 simp (disch := first | assumption | simp) only [sbU,↓reduceIte,Nat.reduceEqDiff,reduceCtorEq] at f0 f1
 clear hf
 have hlen := DLsb.len hg.dl
 have hrf := hg.nin i2
 have K2 : Kept σ [r] σ2 [r] := k2.wid (fun _ h => h) (fun b h => by simp only [List.mem_cons,List.not_mem_nil,or_false] at h; exact .inr (by simp [h]))
 simp (disch := first | assumption | simp) only [↓sbD,sbU,↓reduceIte,Nat.reduceLT,f0]
 refine specRLeft i2 hp' (by omega) ?_
 by_cases hlt : p' < s.size
 ·have hl0 : (0 : Int) < ((s.size - p' : Nat) : Int) := by omega
  by_cases h32 : l.length = 32
  ·have h32' : (l.length : Int) = 32 := by omega
   simp (disch := first | assumption | simp) only [↓sbD,sbU,↓reduceIte,Nat.reduceEqDiff,Nat.reduceLT,reduceCtorEq,isConst,f0,f6,hl0,hlen,h32']
   refine specRAt i2 ?_
   simp (disch := first | assumption | simp) only [↓sbD,sbU,tyB,↓reduceIte,Nat.reduceEqDiff,Nat.reduceLT,gk4]
   refine specNew (n := 4) ⟨by omega,by omega⟩ ?_
   simp (disch := first | assumption | simp) only [↓sbD,sbU,↓reduceIte,Nat.reduceEqDiff,Nat.reduceLT]
   refine drawS_l (fl := [(2,1)]) (by kernel_rfl) ?_ ?_
   rotate_left; simp only [lastP_cc,lastP_one]; rotate_left
   ·simp only [List.all_cons,List.all_nil,floatS,List.getElem?_cons_succ,List.getElem?_cons_zero,List.getElem?_toArray,Region.wanted,Bool.not_true,Bool.false_or,reads,looksWeak,↓reduceIte,Nat.reduceAdd,blkOf,oeq_refl,Bool.and_true,Bool.and_self,Bool.false_eq_true]
    try rfl
   simp (disch := first | assumption | simp) only [↓sbD,sbU,↓reduceIte,Nat.reduceEqDiff,Nat.reduceLT]
   exact downS_here (hbad 4 149 p' (hback _ (.many hlt h32)) _ 1 _ K2 (by omega) (ErN.new _ _ ⟨by omega,by omega⟩))
  ·have h32' : ¬ (l.length : Int) = 32 := by omega
   simp (disch := first | assumption | simp) only [↓sbD,sbU,decide_false,↓reduceIte,Nat.reduceEqDiff,Nat.reduceLT,reduceCtorEq,isConst,f0,f1,f6,hl0,hlen,h32']
   refine specSOne i2 hp' hs (fun x q hx σ3 k3 i3 hq => ?_) fun k rr a hx x σ3 d z k3 hd he => ?_
   ·have hg3 := hg.kept k3 (fun b hb hm => hrf (by obtain rfl := List.mem_singleton.1 hm; exact hb))
    have hac : subC x = [.string x.f,.int .i64 x.q,.bool x.nl,.bool x.ai,.int .i64 x.rt] := rfl
    simp (disch := first | assumption | simp) only [↓sbD,sbU,tyB,Nat.reduceBneDiff,decide_false,gt_iff_lt,Bool.or_self,Bool.false_eq_true,Nat.one_mul,Nat.zero_mul,↓reduceIte,Nat.reduceEqDiff,Nat.reduceLT,Nat.reduceAdd,Nat.reduceLeDiff,reduceCtorEq,pairs,isConst,splice,Edp,dpv,ZV.val,AS_new,zeSb,hac]
    intro y hy
    generalize hσy : AHeap.set (AHeap.set σ3 y _) y _ = σy
    have ky : Kept σ3 [] σy [] := by rw [← hσy]; exact ((Kept.refl _ []).setD hy).setD hy
    have gy : σy.get y = .cells [.string x.f,.int .i64 x.q,.bool x.nl,.bool x.ai,.int .i64 x.rt] true 0 := by rw [← hσy]; exact AHeap.get_set_same _ _ _
    have iy := i3.kept ky (by simp)
    have hgy := hg3.kept ky (fun _ _ h => by cases h)
    clear hσy
    simp (disch := first | assumption | simp) only [f6]
    refine app_sb (xs := [x]) hgy (.inr ⟨1,rfl⟩) (by simp only [List.length_cons,List.length_nil]; omega) fun σ4 v4 fp4 k4 g4 => ?_
    have i4 := (k4.at iy (by simp) hrf).1
    simp (disch := first | assumption | simp) only [↓sbD,sbU,↓reduceIte,Nat.reduceLT]
    exact ⟨_,m - 1,σ4,rfl,by omega,Le.refl _,q,l ++ [x],v4,fp4,by rw [List.length_append]; simp only [List.length_cons,List.length_nil]; omega,hq,rfl,g4,i4,((k2.trans (k3.wid (gp := r :: fp) (gp' := r :: fp) (fun b hb => by simp at hb; simp [hb]) (fun b hb => .inr hb))).trans (ky.wid (gp := r :: fp) (gp' := r :: fp) (fun _ h => by cases h) (fun b hb => .inr hb))).trans (k4.wid (gp := r :: fp) (gp' := r :: fp4) (fun b hb => by simp [hb]) (fun b hb => by simp only [List.mem_cons] at hb ⊢; rcases hb with hb | hb <;> simp [hb])),fun R h => hback R (.step hlt h32 hx h)⟩
   ·have hac : subC x = [.string x.f,.int .i64 x.q,.bool x.nl,.bool x.ai,.int .i64 x.rt] := rfl
    simp (disch := first | assumption | simp) only [↓sbD,sbU,tyB,↓reduceIte,Nat.reduceEqDiff,Nat.reduceLT,Nat.reduceAdd,Nat.reduceLeDiff,isConst,splice,AS_new,zeSb,hac]
    intro y hy
    exact downS_here (hbad k rr a (hback _ (.bad hlt h32 hx)) _ d z (((K2.trans k3).trans (((Kept.refl _ [r]).setD hy).setD hy))) hd he)
 ·have hl0 : ¬ (0 : Int) < ((s.size - p' : Nat) : Int) := by omega
  by_cases hn : l = []
  ·subst hn
   simp (disch := first | assumption | simp) only [↓sbD,sbU,decide_false,↓reduceIte,Nat.reduceEqDiff,Nat.reduceLT,reduceCtorEq,isConst,f0,f6,hl0,hlen,show ((0 : Nat) : Int) = 0 from rfl]
   refine specRAt i2 ?_
   simp (disch := first | assumption | simp) only [↓sbD,sbU,tyB,↓reduceIte,Nat.reduceEqDiff,Nat.reduceLT,gk3]
   refine specNew (n := 3) ⟨by omega,by omega⟩ ?_
   simp (disch := first | assumption | simp) only [↓sbD,sbU,↓reduceIte,Nat.reduceEqDiff,Nat.reduceLT]
   refine drawS_l (fl := [(2,1)]) (by kernel_rfl) ?_ ?_
   rotate_left; simp only [lastP_cc,lastP_one]; rotate_left
   ·simp only [List.all_cons,List.all_nil,floatS,List.getElem?_cons_succ,List.getElem?_cons_zero,List.getElem?_toArray,Region.wanted,Bool.not_true,Bool.false_or,reads,looksWeak,↓reduceIte,Nat.reduceAdd,blkOf,oeq_refl,Bool.and_true,Bool.and_self,Bool.false_eq_true]
    try rfl
   simp (disch := first | assumption | simp) only [↓sbD,sbU,↓reduceIte,Nat.reduceEqDiff,Nat.reduceLT]
   exact downS_here (hbad 3 130 p' (hback _ (.none (by omega))) _ 1 _ K2 (by omega) (ErN.new _ _ ⟨by omega,by omega⟩))
  ·have hn' : ¬ (l.length : Int) = 0 := fun h => hn (List.length_eq_zero_iff.1 (by omega))
   simp (disch := first | assumption | simp) only [↓sbD,sbU,decide_false,↓reduceIte,Nat.reduceEqDiff,Nat.reduceLT,isConst,f6,hl0,hlen,hn']
   exact downS_here (hok l (hback _ (.done (by omega) hn)) v _ hg.dl K2)
def BodyS (kind : Int) (s : ByteArray) (r : Except E3 Pk) : Prop := ∃ h,HeadP kind s h ∧ match h with
  | .error e => r = .error e
  | .ok (id,l,q) => if kind = 9 then ∃ c,Parts s.size (codeO 9 s) q [] c ∧ r = mapE (fun c => sbsP 9 id l [] c) c
   else ∃ c,Parts s.size (subO s) q [] c ∧ r = mapE (fun c => sbsP 8 id l c []) c
theorem specSBody {kind : Int} (hkd : kind = 8 ∨ kind = 9) (hr : IsR σ r s 0 .nilIface) (hs : s.size ≤ 100000000)
  (hok : ∀ y,BodyS kind s (.ok y) → ∀ w σ',PkV y w → Kept σ [r] σ' [r] → Q (.tuple #[w,.nilIface]) σ')
  (hbad : ∀ k rr a : Nat,BodyS kind s (.error (k,rr,a)) → ∀ y w σ' d z,PkV y w → Kept σ [r] σ' [r] → d ≤ 3 → ErN d (fv rr a z) k → Q (.tuple #[w,fv rr a z]) σ') :
  CallS E B 95 [.pointer (some ⟨r,0,none⟩),.int .i64 kind] σ Q := by
 unfold BodyS HeadP at hok hbad
 refine call95 (by simp) ?_
 simp only [strip,bodyOf,Tryz.f95,getD_body,keepN,bareOp_mk,lessOp_mk,List.map_cons,List.map_nil,↓reduceIte,Nat.reduceEqDiff,Bool.false_eq_true]
 simp only [↓sbD,sbU,↓reduceIte,Nat.reduceEqDiff,Nat.reduceLT,reduceCtorEq,AS_new,zePk]
 intro b hb
 have hbr : b ≠ r := nd hb hr (by simp)
 generalize hσ1 : AHeap.set σ b _ = σ1
 have k1 : Kept σ [r] σ1 [r] := by rw [← hσ1]; exact (Kept.refl σ [r]).setD hb
 have gb1 : σ1.get b = .cells zeL true 0 := by rw [← hσ1]; exact AHeap.get_set_same _ _ _
 have i1 : IsR σ1 r s 0 .nilIface := by rw [← hσ1]; unfold IsR; rw [AHeap.get_set_ne _ _ hbr]; exact hr
 simp only [zeL,pkC,pkz] at gb1
 clear hσ1
 refine specRU16 i1 (Nat.zero_le _) (by omega) (fun id q hid σ2 k2 i2 => ?_) fun k q hid σ2 k2 i2 => ?_
 rotate_left
 ·simp only [hid] at hok hbad
  obtain ⟨d,z,hd,he,i3⟩ := i2
  have gb2 := (k2.at gb1 (by simp) (by simpa using hbr)).1
  have K2 := k1.trans k2
  simp only [↓sbD,sbU,tyB,↓reduceIte,Nat.reduceEqDiff,Nat.reduceLT,Nat.reduceAdd,Nat.reduceLeDiff,reduceCtorEq,pairs,splice,ZV.val,AS_new,zePk]
  intro y hy
  have hyb : b ≠ y := (nd hy gb2 (by simp)).symm
  have hyr : y ≠ r := nd hy i3 (by simp)
  generalize hσ3 : AHeap.set (AHeap.set σ2 y _) y _ = σ3
  have k3 : Kept σ2 [] σ3 [] := by rw [← hσ3]; exact ((Kept.refl _ []).setD hy).setD hy
  have i4 := i3.kept k3 (by simp)
  have gy3 : σ3.get y = .cells (sbsC kind 0 (.slice none 0 0) (.slice none 0 0) (.slice none 0 0)) true 0 := by rw [← hσ3]; exact AHeap.get_set_same _ _ _
  have gb3 := (k3.at gb2 (by simp) (by simp)).1
  clear hσ3
  simp only [sbsC] at gy3
  refine specRErr i4 ?_
  simp only [↓sbD,sbU,tyB,↓reduceIte,Nat.reduceEqDiff,Nat.reduceLT,Nat.reduceAdd,Nat.reduceLeDiff,isConst,splice,gy3,gb3,res_cellc,resC_some]
  exact downS_here (hbad k 129 q ⟨_,rfl,rfl⟩ (sbsP kind 0 [] [] []) _ _ d z (sbsC_pk (.inl ⟨rfl,rfl⟩) (.inl ⟨rfl,rfl⟩) (.inl ⟨rfl,rfl⟩)) ((K2.trans (k3.wid (gp := [r]) (gp' := [r]) (fun _ h => by cases h) (fun _ h => .inr h))).setD hb) (by omega) he)
 have hq := numR_ok hid
 simp only [hid] at hok hbad
 have gb2 := (k2.at gb1 (by simp) (by simpa using hbr)).1
 simp only [↓sbD,sbU,tyB,↓reduceIte,Nat.reduceEqDiff,Nat.reduceLT,Nat.reduceAdd,Nat.reduceLeDiff,reduceCtorEq,pairs,splice,ZV.val,AS_new,zePk]
 intro y hy
 have hyb : b ≠ y := (nd hy gb2 (by simp)).symm
 have hyr : y ≠ r := nd hy i2 (by simp)
 generalize hσ3 : AHeap.set (AHeap.set σ2 y _) y _ = σ3
 have k3 : Kept σ2 [] σ3 [] := by rw [← hσ3]; exact ((Kept.refl _ []).setD hy).setD hy
 have i3 := i2.kept k3 (by simp)
 have gy3 : σ3.get y = .cells (sbsC kind id (.slice none 0 0) (.slice none 0 0) (.slice none 0 0)) true 0 := by rw [← hσ3]; exact AHeap.get_set_same _ _ _
 have gb3 := (k3.at gb2 (by simp) (by simp)).1
 have M3 : Kept σ2 [r] σ3 [r] := k3.wid (fun _ h => by cases h) (fun _ h => .inr h)
 clear hσ3
 simp only [sbsC] at gy3
 have yb : ∀ (τ : AHeap) o,(AHeap.set τ y o).get b = τ.get b := fun τ o => AHeap.get_set_ne _ _ hyb.symm
 refine specRErr i3 ?_
 by_cases h0 : id = 0
 ·have h0' : (id : Int) = 0 := by omega
  simp only [h0,if_true] at hok hbad
  simp only [↓sbD,sbU,tyB,↓reduceIte,Nat.reduceEqDiff,Nat.reduceLT,Nat.reduceAdd,Nat.reduceLeDiff,reduceCtorEq,isConst,gy3,h0',gk3]
  refine specNew (n := 3) ⟨by omega,by omega⟩ ?_
  simp only [↓sbD,sbU,tyB,↓reduceIte,Nat.reduceEqDiff,Nat.reduceLT,Nat.reduceAdd,Nat.reduceLeDiff,splice,gb3]
  refine drawS_l (fl := [(0,2)]) (by kernel_rfl) ?_ ?_
  rotate_left; simp only [lastP_cc,lastP_one]; rotate_left
  ·simp only [List.all_cons,List.all_nil,floatS,List.getElem?_cons_succ,List.getElem?_cons_zero,List.getElem?_toArray,Region.wanted,Bool.not_true,Bool.not_false,Bool.or_true,reads,looksWeak,aev_tmp,upd_at,↓reduceIte,Nat.reduceEqDiff,Nat.reduceLT,Nat.reduceAdd,blkOf,oeq_refl,dead_cells,Bool.and_true,Bool.and_self,Bool.false_eq_true,Bool.not_false,gy3]
   try rfl
  simp only [↓sbD,sbU,tyB,↓reduceIte,Nat.reduceEqDiff,Nat.reduceLT,Nat.reduceAdd,Nat.reduceLeDiff,res_cellc,resC_some]
  exact downS_here (hbad 3 130 0 ⟨.error (3,130,0),rfl,rfl⟩ (sbsP kind 0 [] [] []) _ _ 1 _ (sbsC_pk (.inl ⟨rfl,rfl⟩) (.inl ⟨rfl,rfl⟩) (.inl ⟨rfl,rfl⟩)) ((k1.trans (k2.trans M3)).setD hb) (by omega) (ErN.new _ _ ⟨by omega,by omega⟩))
 have h0' : ¬ (id : Int) = 0 := by omega
 simp only [h0,if_false] at hok hbad
 simp only [↓sbD,sbU,tyB,decide_false,↓reduceIte,Nat.reduceEqDiff,Nat.reduceLT,reduceCtorEq,isConst,gy3,h0']
 refine specPRead i3 hq.2 hs (fun l q2 hrd v σ4 hv k4 i4 hq4 => ?_) fun k rr a hrd σ4 d z k4 hd he => ?_
 rotate_left
 ·have gy4 := (k4.at gy3 (by simp) (by simpa using hyr)).1
  have gb4 := (k4.at gb3 (by simp) (by simpa using hbr)).1
  simp only [↓sbD,sbU,tyB,↓reduceIte,Nat.reduceEqDiff,Nat.reduceLT,Nat.reduceAdd,Nat.reduceLeDiff,isConst,splice,gy4,gb4,res_cellc,resC_some]
  exact downS_here (hbad k rr a ⟨_,⟨_,hrd,rfl⟩,rfl⟩ (sbsP kind id [] [] []) _ _ d z (sbsC_pk (.inl ⟨rfl,rfl⟩) (.inl ⟨rfl,rfl⟩) (.inl ⟨rfl,rfl⟩)) ((k1.trans (k2.trans (M3.trans k4))).setD hb) (by omega) he)
 have hvc := dl_vc hv
 have gy4 := (k4.at gy3 (by simp) (by simpa using hyr)).1
 have gb4 := (k4.at gb3 (by simp) (by simpa using hbr)).1
 rcases hkd with rfl | rfl
 ·simp only [↓sbD,sbU,tyB,Int.reduceEq,decide_false,↓reduceIte,Nat.reduceEqDiff,Nat.reduceLT,Nat.reduceAdd,Nat.reduceLeDiff,reduceCtorEq,isConst,splice,gy4,hvc.1,hvc.2]
  generalize hσ5 : AHeap.set σ4 y _ = σ5
  have M5 : Kept σ2 [r] σ5 [r] := by rw [← hσ5]; exact (M3.trans k4).setD hy
  have gy5 : σ5.get y = .cells (sbsC 8 id v (.slice none 0 0) (.slice none 0 0)) true 0 := by rw [← hσ5]; exact AHeap.get_set_same _ _ _
  have gb5 : σ5.get b = _ := (congrArg (fun τ => AHeap.get τ b) hσ5.symm).trans ((yb _ _).trans gb4)
  have i5 : IsR σ5 r s q2 .nilIface := by rw [← hσ5]; unfold IsR; rw [AHeap.get_set_ne _ _ hyr]; exact i4
  simp only [sbsC] at gy5
  clear hσ5
  refine specSevS i5 hq4 hs (fun fl hP u σ6 hu k6 => ?_) fun k rr a hP σ6 d z k6 hd he => ?_
  ·have huc := dl_vc hu
   have gy6 := (k6.at gy5 (by simp) (by simpa using hyr)).1
   have gb6 := (k6.at gb5 (by simp) (by simpa using hbr)).1
   simp only [↓sbD,sbU,tyB,↓reduceIte,Nat.reduceEqDiff,Nat.reduceLT,Nat.reduceAdd,Nat.reduceLeDiff,reduceCtorEq,splice,gy6,gb6,yb,hvc.2,huc.1,huc.2,res_cellc,resC_some]
   exact downS_here (hok _ ⟨_,⟨_,hrd,rfl⟩,by simp only [headM]; rw [if_neg (by decide)]; exact ⟨_,hP,rfl⟩⟩ _ _ (sbsC_pk hv hu (.inl ⟨rfl,rfl⟩)) ((k1.trans (k2.trans ((M5.trans k6).setD hy))).setD hb))
  ·have gy6 := (k6.at gy5 (by simp) (by simpa using hyr)).1
   have gb6 := (k6.at gb5 (by simp) (by simpa using hbr)).1
   simp only [↓sbD,sbU,tyB,↓reduceIte,Nat.reduceEqDiff,Nat.reduceLT,Nat.reduceAdd,Nat.reduceLeDiff,reduceCtorEq,splice,gy6,gb6,yb,hvc.2,res_cellc,resC_some]
   exact downS_here (hbad k rr a ⟨_,⟨_,hrd,rfl⟩,by simp only [headM]; rw [if_neg (by decide)]; exact ⟨_,hP,rfl⟩⟩ (sbsP 8 id l [] []) _ _ d z (sbsC_pk hv (.inl ⟨rfl,rfl⟩) (.inl ⟨rfl,rfl⟩)) ((k1.trans (k2.trans ((M5.trans k6).setD hy))).setD hb) hd he)
 ·simp only [↓sbD,sbU,tyB,↓reduceIte,Nat.reduceEqDiff,Nat.reduceLT,Nat.reduceAdd,Nat.reduceLeDiff,reduceCtorEq,isConst,splice,gy4,hvc.1,hvc.2]
  generalize hσ5 : AHeap.set σ4 y _ = σ5
  have M5 : Kept σ2 [r] σ5 [r] := by rw [← hσ5]; exact (M3.trans k4).setD hy
  have gy5 : σ5.get y = .cells (sbsC 9 id v (.slice none 0 0) (.slice none 0 0)) true 0 := by rw [← hσ5]; exact AHeap.get_set_same _ _ _
  have gb5 : σ5.get b = _ := (congrArg (fun τ => AHeap.get τ b) hσ5.symm).trans ((yb _ _).trans gb4)
  have i5 : IsR σ5 r s q2 .nilIface := by rw [← hσ5]; unfold IsR; rw [AHeap.get_set_ne _ _ hyr]; exact i4
  simp only [sbsC] at gy5
  clear hσ5
  refine specSevI i5 hq4 hs (fun fl hP u σ6 hu k6 => ?_) fun k rr a hP σ6 d z k6 hd he => ?_
  ·have huc := dl_vc hu
   have gy6 := (k6.at gy5 (by simp) (by simpa using hyr)).1
   have gb6 := (k6.at gb5 (by simp) (by simpa using hbr)).1
   simp only [↓sbD,sbU,tyB,↓reduceIte,Nat.reduceEqDiff,Nat.reduceLT,Nat.reduceAdd,Nat.reduceLeDiff,reduceCtorEq,splice,gy6,gb6,yb,hvc.2,huc.1,huc.2,res_cellc,resC_some]
   exact downS_here (hok _ ⟨_,⟨_,hrd,rfl⟩,by simp only [if_true]; exact ⟨_,hP,rfl⟩⟩ _ _ (sbsC_pk hv (.inl ⟨rfl,rfl⟩) hu) ((k1.trans (k2.trans ((M5.trans k6).setD hy))).setD hb))
  ·have gy6 := (k6.at gy5 (by simp) (by simpa using hyr)).1
   have gb6 := (k6.at gb5 (by simp) (by simpa using hbr)).1
   simp only [↓sbD,sbU,tyB,↓reduceIte,Nat.reduceEqDiff,Nat.reduceLT,Nat.reduceAdd,Nat.reduceLeDiff,reduceCtorEq,splice,gy6,gb6,yb,hvc.2,res_cellc,resC_some]
   exact downS_here (hbad k rr a ⟨_,⟨_,hrd,rfl⟩,by simp only [if_true]; exact ⟨_,hP,rfl⟩⟩ (sbsP 9 id l [] []) _ _ d z (sbsC_pk hv (.inl ⟨rfl,rfl⟩) (.inl ⟨rfl,rfl⟩)) ((k1.trans (k2.trans ((M5.trans k6).setD hy))).setD hb) hd he)
theorem specSDec {f : Int} (hs : s.size ≤ 100000000)
  (hok : ∀ p,DecS f s (.ok p) → ∀ v σ',PkV p v → Kept σ [] σ' [] → Q (.tuple #[v,.nilIface]) σ')
  (hbad : ∀ k rr a : Nat,DecS f s (.error (k,rr,a)) → ∀ σ' d z,Kept σ [] σ' [] → d ≤ 3 → ErN d (fv rr a z) k → Q (.tuple #[.agg ⟨zeL⟩,fv rr a z]) σ') :
  CallS E B 43 [.agg ⟨[.int .i64 f,.string s]⟩] σ Q := by
 unfold DecS at hok hbad
 refine call43 (by simp) ?_
 simp only [strip,bodyOf,Tryz.f43,getD_body,keepN,bareOp_mk,lessOp_mk,List.map_cons,List.map_nil,↓reduceIte,Nat.reduceEqDiff,Bool.false_eq_true]
 have ALT : (f = 130 ∧ f ≠ 144 ∧ f / 16 = 8) ∨ (f ≠ 130 ∧ f = 144 ∧ f / 16 = 9) ∨ (f ≠ 130 ∧ f ≠ 144) := by omega
 rcases ALT with ⟨n1,n2,n3⟩ | ⟨n1,n2,n3⟩ | ⟨n1,n2⟩
 rotate_left; rotate_left
 ·simp only [if_pos (And.intro n1 n2)] at hok hbad
  simp only [↓sbD,sbU,tyB,↓reduceIte,Nat.reduceEqDiff,Nat.reduceLT,reduceCtorEq,pairs,isConst,boxS,Edp,dpv,ZV.val,AS_new,zePk,n1,n2]
  intro b hb
  simp only [↓sbD,sbU,↓reduceIte,Nat.reduceLT,gk2]
  refine specNew (n := 2) ⟨by omega,by omega⟩ ?_
  simp only [↓sbD,sbU,tyB,↓reduceIte,Nat.reduceEqDiff,Nat.reduceLT,Nat.reduceAdd,Nat.reduceLeDiff,splice,res_cellc,resC_some]
  exact downS_here (hbad 2 129 0 rfl _ 1 _ (((Kept.refl σ []).setD hb).setD hb) (by omega) (ErN.new _ _ ⟨by omega,by omega⟩))
 all_goals
  have hf : ¬ (f ≠ 130 ∧ f ≠ 144) := by omega
  have shr : ∀ (σ : AHeap) (t : Nat) (cs : Bool),abin E σ .shr t cs (.int .i64 f) (.int .u64 4) = some (.int .i64 (f / 16)) := fun σ t cs => shr4
  simp only [if_neg hf] at hok hbad
  have hbody : ∀ r,BodyS (f / 16) s r → ∃ h,HeadP (f / 16) s h ∧ match h with
   | .error e => r = .error e
   | .ok (id,l,q) => if f = 144 then ∃ c,Parts s.size (codeO 9 s) q [] c ∧ r = mapE (fun c => sbsP 9 id l [] c) c
    else ∃ c,Parts s.size (subO s) q [] c ∧ r = mapE (fun c => sbsP 8 id l c []) c := by
   intro r h
   unfold BodyS at h
   obtain ⟨h1,h2,h3⟩ := h
   refine ⟨h1,h2,?_⟩
   cases h1 with
   | error e => exact h3
   | ok a =>
    obtain ⟨id,l,q⟩ := a
    simp only at h3 ⊢
    by_cases h4 : f = 144
    ·rw [if_pos h4]; rw [if_pos (by omega)] at h3; exact h3
    ·rw [if_neg h4]; rw [if_neg (by omega)] at h3; exact h3
  first | (have e1 := eq_false n1) | (have e1 := eq_true n1)
  first | (have e2 := eq_false n2) | (have e2 := eq_true n2)
  simp only [↓sbD,sbU,tyB,decide_false,↓reduceIte,Nat.reduceEqDiff,Nat.reduceLT,reduceCtorEq,isConst,boxS,Edp,dpv,AS_new,zePk,e1,e2]
  intro b hb
  generalize hσ1 : AHeap.set σ b _ = σ1
  have k1 : Kept σ [] σ1 [] := by rw [← hσ1]; exact (Kept.refl σ []).setD hb
  have gb1 : σ1.get b = .cells zeL true 0 := by rw [← hσ1]; exact AHeap.get_set_same _ _ _
  simp only [zeL,pkC,pkz] at gb1
  clear hσ1
  have FIN : ∀ {τ : AHeap} {o : AObj},Kept σ1 [] τ [] → Kept σ [] (τ.set b o) [] := fun kt => (k1.trans kt).setD hb
  refine specRNew fun r σ2 hr k2 i2 => ?_
  simp only [↓sbD,sbU,tyB,↓reduceIte,Nat.reduceEqDiff,Nat.reduceLT,reduceCtorEq,isConst,shr]
  refine specSBody (by omega) i2 hs (fun y hy w σ3 hw k3 => ?_) fun k rr a hy y w σ3 d z hw k3 hd he => ?_
  all_goals
   obtain ⟨up,uw,us,uf,uc,q1,q2,q3,q4,q5,rfl⟩ := hw
   have K3 := k2.trans k3
   have gb3 := (K3.at gb1 (by simp) (by simp)).1
   have c1 := dl_vc q1
   have c2 := dl_vc q2
   have c3 := dl_vc q3
   have c4 := dl_vc q4
   have c5 := dl_vc q5
   simp only [pkC]
   simp only [↓sbD,sbU,tyB,↓reduceIte,Nat.reduceEqDiff,Nat.reduceLT,Nat.reduceAdd,Nat.reduceLeDiff,splice,AS_new,zePk,c1.2,c2.2,c3.2,c4.2,c5.2]
   intro y' hy'
   have hyb : y' ≠ b := nd hy' gb3 (by simp)
   have yb : ∀ (τ : AHeap) o,(AHeap.set τ y' o).get b = τ.get b := fun τ o => AHeap.get_set_ne _ _ hyb
   try simp only [↓sbD,sbU,tyB,Nat.reduceMul,Nat.reduceSub,Int.reduceEq,Int.reduceLT,Int.reduceLE,Int.reduceNe,Nat.reduceBneDiff,Nat.reduceBEq,decide_false,gt_iff_lt,Bool.or_self,Bool.false_eq_true,Nat.mul_one,Nat.one_mul,Nat.zero_mul,↓reduceIte,Nat.reduceEqDiff,Nat.reduceLT,Nat.reduceAdd,Nat.reduceLeDiff,reduceCtorEq,goInt,pairs,isConst,TI.isAgg,splice,boxS,Edp,dpv,Nat.beq_eq,ZV.val,List.any_cons,List.any_nil,Bool.false_and,yb,gb3,AHeap.get_set_same,c1.1,c1.2,c2.1,c2.2,c3.1,c3.2,c4.1,c4.2,c5.1,c5.2,Bool.and_self,Bool.and_true,List.length_cons,List.length_nil,List.cons_append,List.nil_append,List.drop_succ_cons,List.drop_zero,decide_true]
   refine drawS_l (fl := [(4,2)]) (by kernel_rfl) ?_ ?_
   rotate_left; simp only [lastP_cc,lastP_one]; rotate_left
   ·simp only [List.all_cons,List.all_nil,floatS,List.getElem?_cons_succ,List.getElem?_cons_zero,List.getElem?_toArray,Region.wanted,Bool.not_true,Bool.or_true,reads,looksWeak,aev_tmp,upd_at,↓reduceIte,Nat.reduceLT,Nat.reduceAdd,blkOf,Bool.and_self,Bool.false_eq_true]
    try rfl
   simp only [↓sbD,sbU,tyB,↓reduceIte,Nat.reduceEqDiff,Nat.reduceLT,Nat.reduceAdd,Nat.reduceLeDiff,pairs,isConst,splice,ZV.val,yb,gb3,c1.2,c2.2,c3.2,c4.2,c5.2,res_cellc,resC_some]
   first
    | exact downS_here (hok _ (hbody _ hy) _ _ ⟨_,_,_,_,_,q1,q2,q3,q4,q5,rfl⟩ (FIN (((K3.trans (((Kept.refl _ [r]).setD hy').setD hy'))).none)))
    | exact downS_here (hbad k rr a (hbody _ hy) _ d z (FIN (((K3.trans (((Kept.refl _ [r]).setD hy').setD hy'))).none)) hd he)
end
theorem WRun.live {σ : AHeap} {w : Nat} {r : ByteArray ⊕ (Nat × Nat)} {fp : List Nat} (h : WRun σ w r fp) {b : Nat} (hb : b ∈ fp) : σ.get b ≠ .dead := by
 have key : ∀ a e,IsW σ w a e fp → σ.get b ≠ .dead := by
  rintro a e ⟨v,gp,g1,g2,rfl,g3⟩
  rcases List.mem_cons.1 hb with rfl | hb
  ·rw [g1]; simp
  ·obtain ⟨cs,hc⟩ := g2.live hb; rw [hc]; simp
 cases r with
 | inl b' => exact key _ _ h
 | inr e =>
  obtain ⟨k,q⟩ := e
  obtain ⟨b',d,z,_,_,h⟩ := h
  exact key _ _ h
section
variable {σ : AHeap} {Q : Value → AHeap → Prop}
theorem specSEnc {p : Pk} {v : Value} (hp : PkV p v) (hf : midPk p)
  (hok : ∀ fb,EncS p (.ok fb) → ∀ σ',Kept σ [] σ' [] → Q (.tuple #[.agg ⟨[.int .i64 fb.1,.string fb.2]⟩,.nilIface]) σ')
  (hbad : ∀ k rr a : Nat,EncS p (.error (k,rr,a)) → ∀ σ' d z,Kept σ [] σ' [] → d ≤ 3 → ErN d (fv rr a z) k → Q (.tuple #[.agg ⟨[.int .i64 0,.string emp]⟩,fv rr a z]) σ') :
  CallS E B 42 [v] σ Q := by
 obtain ⟨vp,vw,vs,vf,vc,d1,d2,d3,d4,d5,rfl⟩ := hp
 obtain ⟨up,uw,us,uf,uc,d1,d2,d3,d4,d5,_,hbx⟩ := boxPk d1 d2 d3 d4 d5
 simp only [pkC] at hbx ⊢
 have hlen := DLp.len d1
 have hsm : smallP p.props := hf.props
 have eml : (emp).size = 0 := rfl
 unfold EncS at hok hbad
 refine call42 (by simp) ?_
 simp only [strip,bodyOf,Tryz.f42,getD_body,keepN,bareOp_mk,lapp_cons,lapp_nil,List.map_cons,List.map_nil,↓reduceIte,Bool.false_eq_true]
 simp (disch := first | assumption | simp) only [↓sbD,sbU,tyB,↓reduceIte,Nat.reduceEqDiff,Nat.reduceLT,reduceCtorEq,AS_new,zeFra,hbx]
 intro b hb
 refine specSFirst ?_
 by_cases h0 : firstS p.kind = 0
 ·simp only [h0,if_true] at hok hbad
  simp (disch := first | assumption | simp) only [↓sbD,sbU,tyB,↓reduceIte,Nat.reduceLT,pairs,isConst,ZV.val,h0,gk7]
  refine specNew (n := 7) ⟨by omega,by omega⟩ ?_
  simp (disch := first | assumption | simp) only [↓sbD,sbU,tyB,↓reduceIte,Nat.reduceEqDiff,Nat.reduceLT,Nat.reduceAdd,Nat.reduceLeDiff,splice,res_cellc,resC_some]
  exact downS_here (hbad 7 128 0 rfl _ 1 _ (((Kept.refl σ []).setD hb).setD hb) (by omega) (ErN.new _ _ ⟨by omega,by omega⟩))
 simp only [h0,if_false] at hok hbad
 simp (disch := first | assumption | simp) only [↓sbD,sbU,tyB,decide_false,↓reduceIte,Nat.reduceEqDiff,Nat.reduceLT,reduceCtorEq,isConst,h0]
 generalize hσ1 : AHeap.set σ b _ = σ1
 have k1 : Kept σ [] σ1 [] := by rw [← hσ1]; exact (Kept.refl σ []).setD hb
 have gb1 : σ1.get b = .cells [.int .i64 0,.string emp] true 0 := by rw [← hσ1]; exact AHeap.get_set_same _ _ _
 clear hσ1
 refine specPEncode d1 hsm (fun c hce hcz => ?_) fun k r a d z hce hd he => ?_
 rotate_left
 ·rw [hce] at hok hbad
  simp only at hok hbad
  simp (disch := first | assumption | simp) only [↓sbD,sbU,tyB,↓reduceIte,Nat.reduceEqDiff,Nat.reduceLT,Nat.reduceAdd,Nat.reduceLeDiff,pairs,isConst,splice,ZV.val,gb1,res_cellc,resC_some]
  exact downS_here (hbad k r a rfl _ d z (k1.setD hb) (by omega) he)
 rw [hce] at hok hbad
 simp only at hok hbad
 have hcz2 := hcz
 simp (disch := first | assumption | simp) only [↓sbD,sbU,tyB,Bool.false_eq_true,↓reduceIte,Nat.reduceEqDiff,Nat.reduceLT,reduceCtorEq,pairs,isConst,boxS,Edp,ZV.val,Bool.false_and,AS_new,dpW]
 intro w hw
 have hwb : w ≠ b := nd hw gb1 (by simp)
 generalize hσ2 : AHeap.set σ1 w _ = σ2
 have gw : σ2.get w = .cells [.slice none 0 0,.nilIface] true 0 := by rw [← hσ2]; exact AHeap.get_set_same _ _ _
 have k2 : Kept σ1 [] σ2 [w] := by rw [← hσ2]; exact Kept.new' hw
 have w2 : WRun σ2 w (runW emp []) [w] := ⟨_,[],gw,.inl ⟨rfl,rfl,rfl⟩,rfl,by simp⟩
 have z2 : leW (runW emp []) 0 := fun b hb => by injection hb with hb; subst hb; exact Nat.le_refl _
 clear gw hσ2
 refine specU16R (s := emp) w2 (fun b hb => by have := z2 b hb; omega) fun σ3 fp3 k3 w3 => ?_
 have z3 := leW_step (a := ⟨2,p.id,emp⟩) z2
 simp (disch := first | assumption | simp) only [↓sbD,sbU,↓reduceIte,Nat.reduceEqDiff,Nat.reduceLT]
 refine specRawR (n := 0) w3 (fun b hb => by have := z3 b hb; simp only [eml] at this; omega) (by omega) fun σ4 fp4 k4 w4 => ?_
 have z4 := leW_step (a := ⟨8,0,c⟩) z3
 have hs4 : stepW (stepW (runW emp []) [⟨2,p.id,emp⟩]) [⟨8,0,c⟩] = runW emp [⟨2,p.id,emp⟩,⟨8,0,c⟩] := by rw [stepW_app]; rfl
 rw [hs4] at w4 z4
 simp only [eml] at z4
 have K4 := k2.trans (k3.trans k4)
 generalize hR0 : runW emp [⟨2,p.id,emp⟩,⟨8,0,c⟩] = R0 at w4 z4
 by_cases hkk : p.kind = 8
 ·have hkT := eq_true hkk
  have hlenL := DLsb.len d3
  have hfew := (And.intro hf.subs hf.sub)
  simp (disch := first | assumption | simp) only [↓sbD,sbU,tyB,↓reduceIte,Nat.reduceEqDiff,Nat.reduceLT,reduceCtorEq,isConst,hkT,hlenL]
  refine S_loop (fun m f σ' => ∃ (i : Nat) (fp : List Nat),m + i = p.subs.length ∧ f 47 = .int .i64 i ∧ WRun σ' w (stepW R0 ((p.subs.take i).flatMap subA)) fp ∧ leW (stepW R0 ((p.subs.take i).flatMap subA)) (710000 + 2200 * i) ∧ Kept σ4 fp4 σ' fp) p.subs.length (Le.refl _) ⟨0,fp4,by omega,by simp (disch := first | assumption | simp) only [sbU,↓reduceIte]; rfl,by rw [List.take_zero]; simp only [List.flatMap_nil,stepW_nil]; exact w4,by rw [List.take_zero]; simp only [List.flatMap_nil,stepW_nil]; exact fun b hb => by have := z4 b hb; omega,Kept.refl _ _⟩ ?_
  rintro m f σ5 ⟨i,fp5,hm,fi,w5,z5,k5⟩ hf
  have f1 := hf 1 (by decide) (notMem_wr (by kernel_rfl))
  have f2 := hf 2 (by decide) (notMem_wr (by kernel_rfl))
  have f6 := hf 6 (by decide) (notMem_wr (by kernel_rfl))
  have f45 := hf 45 (by decide) (notMem_wr (by kernel_rfl))
  have f46 := hf 46 (by decide) (notMem_wr (by kernel_rfl))
  simp (disch := first | assumption | simp) only [sbU,↓reduceIte,Nat.reduceEqDiff] at f1 f2 f6 f45 f46
  clear hf
  by_cases hi : (i : Int) < (p.subs.length : Int)
  ·have hi' : i < p.subs.length := by omega
   have hia := DLsb.at d3 hi'
   have hsz := hf.sub _ (List.getElem_mem hi')
   have hwi := wrap_suc (n := i) (by omega)
   have htk : p.subs.take (i + 1) = p.subs.take i ++ [p.subs[i]] := List.take_succ_eq_append_getElem hi'
   generalize p.subs[i] = y at hia htk hsz
   have hac : subC y = [.string y.f,.int .i64 y.q,.bool y.nl,.bool y.ai,.int .i64 y.rt] := rfl
   have hst : stepW R0 ((p.subs.take (i + 1)).flatMap subA) = stepW (stepW R0 ((p.subs.take i).flatMap subA)) (subA y) := by
    rw [htk,List.flatMap_append,stepW_app]
    simp only [List.flatMap_cons,List.flatMap_nil,List.append_nil]
   simp (disch := first | assumption | simp) only [↓sbD,sbU,tyB,Bool.or_self,↓reduceIte,Nat.reduceEqDiff,Nat.reduceLT,Nat.reduceLeDiff,isConst,f45,f46,fi,hi,hia,hac]
   simp (disch := first | assumption | simp) only [↓sbD,sbU,tyB,↓reduceIte,Nat.reduceEqDiff,Nat.reduceLT,Nat.reduceAdd,Nat.reduceLeDiff,reduceCtorEq,splice,AS_new,zeSb]
   intro g hg
   generalize hσg : AHeap.set (AHeap.set σ5 g _) g _ = σg
   have kg : Kept σ5 [] σg [] := by rw [← hσg]; exact ((Kept.refl _ []).setD hg).setD hg
   have gg : σg.get g = .cells [.string y.f,.int .i64 y.q,.bool y.nl,.bool y.ai,.int .i64 y.rt] true 0 := by rw [← hσg]; exact AHeap.get_set_same _ _ _
   have wg := w5.kept kg (fun _ _ h => by cases h)
   have hgf : g ∉ fp5 := fun h => w5.live h hg
   clear hσg
   simp (disch := first | assumption | simp) only [f6]
   refine specTextR (n := 0) (s := y.f) wg (fun b hb => by have := z5 b hb; omega) (by omega) fun σ6 fp6 k6 w6 => ?_
   have z6 := leW_step (a := ⟨6,0,y.f⟩) z5
   simp only at z6
   have gg6 := (k6.at gg (by simp) hgf).1
   simp (disch := first | assumption | simp) only [↓sbD,sbU,tyB,↓reduceIte,Nat.reduceEqDiff,Nat.reduceLT,Nat.reduceAdd,Nat.reduceLeDiff,gg6]
   rw [show Value.agg ⟨[.string y.f,.int .i64 y.q,.bool y.nl,.bool y.ai,.int .i64 y.rt]⟩ = .agg ⟨subC y⟩ from rfl]
   refine specSOpt ?_
   simp (disch := first | assumption | simp) only [↓sbD,sbU,↓reduceIte,Nat.reduceEqDiff,Nat.reduceLT,f6]
   refine specU8R (s := emp) w6 (fun b hb => by have := z6 b hb; omega) fun σ7 fp7 k7 w7 => ?_
   have z7 := leW_step (a := ⟨1,optI y,emp⟩) z6
   simp only [eml] at z7
   have hs7 : ∀ R,stepW (stepW R [⟨6,0,y.f⟩]) [⟨1,optI y,emp⟩] = stepW R (subA y) := fun R => by rw [stepW_app]; rfl
   rw [hs7] at w7 z7
   simp (disch := first | assumption | simp) only [↓sbD,sbU,↓reduceIte,Nat.reduceEqDiff,Nat.reduceLT,isConst,fi,hwi]
   exact ⟨_,m - 1,_,rfl,by omega,Le.refl _,i + 1,_,by omega,by simp (disch := first | assumption | simp) only [sbU,↓reduceIte],by rw [hst]; exact w7,by rw [hst]; exact fun b hb => by have := z7 b hb; omega,k5.trans ((kg.wid (gp := fp5) (gp' := fp5) (fun _ h => by cases h) (fun _ h => .inr h)).trans (k6.trans k7))⟩
  ·obtain rfl : i = p.subs.length := by omega
   rw [List.take_length] at w5 z5
   have hR : stepW R0 (p.subs.flatMap subA) = runW emp (actsS p c) := by
    rw [← hR0,show runW emp [⟨2,p.id,emp⟩,⟨8,0,c⟩] = stepW (runW emp []) [⟨2,p.id,emp⟩,⟨8,0,c⟩] from rfl,stepW_app]
    unfold actsS
    rw [if_pos hkk]
    rfl
   rw [hR] at w5 z5
   have K5 := K4.trans k5
   have hl40 : p.subs.length ≤ 40 := hfew.1
   simp (disch := first | assumption | simp) only [↓sbD,sbU,decide_false,Bool.or_self,↓reduceIte,Nat.reduceEqDiff,Nat.reduceLT,isConst,f6,f46,fi,hi]
   refine specBytesR w5 (fun bb hbb => ?_) fun k q d z hr hd he => ?_
   ·have gbn := (K5.at gb1 (by simp) (by simp)).1
    have hle := z5 bb hbb
    simp (disch := first | assumption | simp) only [↓sbD,sbU,tyB,↓reduceIte,Nat.reduceEqDiff,Nat.reduceLT,reduceCtorEq,f1]
    refine specSFirst ?_
    simp (disch := first | assumption | simp) only [↓sbD,sbU,tyB,↓reduceIte,Nat.reduceEqDiff,Nat.reduceLT,Nat.reduceAdd,Nat.reduceLeDiff,pairs,isConst,splice,ZV.val,AS_new,zeFra]
    intro c hc
    have hcb : c ≠ b := nd hc gbn (by simp)
    generalize hσc : AHeap.set _ c _ = σc
    have kc : Kept σ5 [] σc [] := by rw [← hσc]; exact ((Kept.refl _ []).setD hc).setD hc
    have gc : σc.get c = .cells [.int .i64 (firstS p.kind),.string bb] true 0 := by rw [← hσc]; exact AHeap.get_set_same _ _ _
    clear hσc
    refine specSDec (by omega) (fun y hy v2 σd hv2 kd => ?_) fun k rr a hy σd d z kd hd he => ?_
    ·have gbd := ((kc.trans kd).at gbn (by simp) (by simp)).1
     have gcd := (kd.at gc (by simp) (by simp)).1
     simp (disch := first | assumption | simp) only [↓sbD,sbU,tyB,↓reduceIte,Nat.reduceEqDiff,Nat.reduceLT,Nat.reduceAdd,Nat.reduceLeDiff,isConst,splice,f2,gcd,gbd,res_cellc,resC_some]
     exact downS_here (hok (firstS p.kind,bb) (by unfold MadeR; rw [hbb]; exact ⟨_,hy,rfl⟩) _ ((k1.trans ((K5.wid (gp := []) (gp' := []) (fun _ h => by cases h) (fun _ h => by cases h)).trans (kc.trans kd))).setD hb))
    ·have gbd := ((kc.trans kd).at gbn (by simp) (by simp)).1
     simp (disch := first | assumption | simp) only [↓sbD,sbU,tyB,↓reduceIte,Nat.reduceEqDiff,Nat.reduceLT,Nat.reduceAdd,Nat.reduceLeDiff,pairs,isConst,splice,ZV.val,f2,gbd,res_cellc,resC_some]
     exact downS_here (hbad k rr a (by unfold MadeR; rw [hbb]; exact ⟨_,hy,rfl⟩) _ d z ((k1.trans ((K5.wid (gp := []) (gp' := []) (fun _ h => by cases h) (fun _ h => by cases h)).trans (kc.trans kd))).setD hb) hd he)
   ·have gbn := (K5.at gb1 (by simp) (by simp)).1
    simp (disch := first | assumption | simp) only [↓sbD,sbU,tyB,↓reduceIte,Nat.reduceEqDiff,Nat.reduceLT,reduceCtorEq,f1]
    refine specSFirst ?_
    simp (disch := first | assumption | simp) only [↓sbD,sbU,tyB,↓reduceIte,Nat.reduceEqDiff,Nat.reduceLT,Nat.reduceAdd,Nat.reduceLeDiff,pairs,isConst,splice,ZV.val,AS_new,zeFra]
    intro c hc
    have hcb : c ≠ b := nd hc gbn (by simp)
    have bc : ∀ (τ : AHeap) o,(AHeap.set τ c o).get b = τ.get b := fun τ o => AHeap.get_set_ne _ _ hcb
    simp (disch := first | assumption | simp) only [↓sbD,sbU,tyB,↓reduceIte,Nat.reduceEqDiff,Nat.reduceLT,Nat.reduceAdd,Nat.reduceLeDiff,splice,f2,bc,gbn,res_cellc,resC_some]
    exact downS_here (hbad k 129 q (by unfold MadeR; rw [hr]) _ d z ((k1.trans ((K5.wid (gp := []) (gp' := []) (fun _ h => by cases h) (fun _ h => by cases h)).trans (((Kept.refl _ []).setD hc).setD hc))).setD hb) (by omega) he)
 ·have hkT := eq_false hkk
  have hlenL := DLi.len d5
  have hfew := (And.intro hf.codes trivial : p.codes.length ≤ 40 ∧ True)
  simp (disch := first | assumption | simp) only [↓sbD,sbU,tyB,decide_false,↓reduceIte,Nat.reduceEqDiff,Nat.reduceLT,reduceCtorEq,isConst,hkT,hlenL]
  refine S_loop (fun m f σ' => ∃ (i : Nat) (fp : List Nat),m + i = p.codes.length ∧ f 63 = .int .i64 i ∧ WRun σ' w (stepW R0 ((p.codes.take i).flatMap codA)) fp ∧ leW (stepW R0 ((p.codes.take i).flatMap codA)) (710000 + 2200 * i) ∧ Kept σ4 fp4 σ' fp) p.codes.length (Le.refl _) ⟨0,fp4,by omega,by simp (disch := first | assumption | simp) only [sbU,↓reduceIte]; rfl,by rw [List.take_zero]; simp only [List.flatMap_nil,stepW_nil]; exact w4,by rw [List.take_zero]; simp only [List.flatMap_nil,stepW_nil]; exact fun b hb => by have := z4 b hb; omega,Kept.refl _ _⟩ ?_
  rintro m f σ5 ⟨i,fp5,hm,fi,w5,z5,k5⟩ hf
  have f1 := hf 1 (by decide) (notMem_wr (by kernel_rfl))
  have f2 := hf 2 (by decide) (notMem_wr (by kernel_rfl))
  have f6 := hf 6 (by decide) (notMem_wr (by kernel_rfl))
  have f61 := hf 61 (by decide) (notMem_wr (by kernel_rfl))
  have f62 := hf 62 (by decide) (notMem_wr (by kernel_rfl))
  simp (disch := first | assumption | simp) only [sbU,↓reduceIte,Nat.reduceEqDiff] at f1 f2 f6 f61 f62
  clear hf
  by_cases hi : (i : Int) < (p.codes.length : Int)
  ·have hi' : i < p.codes.length := by omega
   have hia := DLi.at d5 hi'
   skip
   have hwi := wrap_suc (n := i) (by omega)
   have htk : p.codes.take (i + 1) = p.codes.take i ++ [p.codes[i]] := List.take_succ_eq_append_getElem hi'
   generalize p.codes[i] = y at hia htk
   have hac : intC y = [.int .i64 y] := rfl
   have hst : stepW R0 ((p.codes.take (i + 1)).flatMap codA) = stepW (stepW R0 ((p.codes.take i).flatMap codA)) (codA y) := by
    rw [htk,List.flatMap_append,stepW_app]
    simp only [List.flatMap_cons,List.flatMap_nil,List.append_nil]
   simp (disch := first | assumption | simp) only [↓sbD,sbU,tyB,Bool.or_self,↓reduceIte,Nat.reduceEqDiff,Nat.reduceLT,isConst,f6,f61,f62,fi,hi,hia,hac]
   refine specU8R (s := emp) w5 (fun b hb => by have := z5 b hb; omega) fun σ6 fp6 k6 w6 => ?_
   have z6 := leW_step (a := ⟨1,y,emp⟩) z5
   simp only [eml] at z6
   simp (disch := first | assumption | simp) only [↓sbD,sbU,↓reduceIte,Nat.reduceEqDiff,Nat.reduceLT,isConst,fi,hwi]
   exact ⟨_,m - 1,_,rfl,by omega,Le.refl _,i + 1,_,by omega,by simp (disch := first | assumption | simp) only [sbU,↓reduceIte],by rw [hst]; exact w6,by rw [hst]; exact fun b hb => by have := z6 b hb; omega,k5.trans k6⟩
  ·obtain rfl : i = p.codes.length := by omega
   rw [List.take_length] at w5 z5
   have hR : stepW R0 (p.codes.flatMap codA) = runW emp (actsS p c) := by
    rw [← hR0,show runW emp [⟨2,p.id,emp⟩,⟨8,0,c⟩] = stepW (runW emp []) [⟨2,p.id,emp⟩,⟨8,0,c⟩] from rfl,stepW_app]
    unfold actsS
    rw [if_neg hkk]
    rfl
   rw [hR] at w5 z5
   have K5 := K4.trans k5
   have hl40 : p.codes.length ≤ 40 := hfew.1
   simp (disch := first | assumption | simp) only [↓sbD,sbU,decide_false,Bool.or_self,↓reduceIte,Nat.reduceEqDiff,Nat.reduceLT,isConst,f6,f62,fi,hi]
   refine specBytesR w5 (fun bb hbb => ?_) fun k q d z hr hd he => ?_
   ·have gbn := (K5.at gb1 (by simp) (by simp)).1
    have hle := z5 bb hbb
    simp (disch := first | assumption | simp) only [↓sbD,sbU,tyB,↓reduceIte,Nat.reduceEqDiff,Nat.reduceLT,reduceCtorEq,f1]
    refine specSFirst ?_
    simp (disch := first | assumption | simp) only [↓sbD,sbU,tyB,↓reduceIte,Nat.reduceEqDiff,Nat.reduceLT,Nat.reduceAdd,Nat.reduceLeDiff,pairs,isConst,splice,ZV.val,AS_new,zeFra]
    intro c hc
    have hcb : c ≠ b := nd hc gbn (by simp)
    generalize hσc : AHeap.set _ c _ = σc
    have kc : Kept σ5 [] σc [] := by rw [← hσc]; exact ((Kept.refl _ []).setD hc).setD hc
    have gc : σc.get c = .cells [.int .i64 (firstS p.kind),.string bb] true 0 := by rw [← hσc]; exact AHeap.get_set_same _ _ _
    clear hσc
    refine specSDec (by omega) (fun y hy v2 σd hv2 kd => ?_) fun k rr a hy σd d z kd hd he => ?_
    ·have gbd := ((kc.trans kd).at gbn (by simp) (by simp)).1
     have gcd := (kd.at gc (by simp) (by simp)).1
     simp (disch := first | assumption | simp) only [↓sbD,sbU,tyB,↓reduceIte,Nat.reduceEqDiff,Nat.reduceLT,Nat.reduceAdd,Nat.reduceLeDiff,isConst,splice,f2,gcd,gbd,res_cellc,resC_some]
     exact downS_here (hok (firstS p.kind,bb) (by unfold MadeR; rw [hbb]; exact ⟨_,hy,rfl⟩) _ ((k1.trans ((K5.wid (gp := []) (gp' := []) (fun _ h => by cases h) (fun _ h => by cases h)).trans (kc.trans kd))).setD hb))
    ·have gbd := ((kc.trans kd).at gbn (by simp) (by simp)).1
     simp (disch := first | assumption | simp) only [↓sbD,sbU,tyB,↓reduceIte,Nat.reduceEqDiff,Nat.reduceLT,Nat.reduceAdd,Nat.reduceLeDiff,pairs,isConst,splice,ZV.val,f2,gbd,res_cellc,resC_some]
     exact downS_here (hbad k rr a (by unfold MadeR; rw [hbb]; exact ⟨_,hy,rfl⟩) _ d z ((k1.trans ((K5.wid (gp := []) (gp' := []) (fun _ h => by cases h) (fun _ h => by cases h)).trans (kc.trans kd))).setD hb) hd he)
   ·have gbn := (K5.at gb1 (by simp) (by simp)).1
    simp (disch := first | assumption | simp) only [↓sbD,sbU,tyB,↓reduceIte,Nat.reduceEqDiff,Nat.reduceLT,reduceCtorEq,f1]
    refine specSFirst ?_
    simp (disch := first | assumption | simp) only [↓sbD,sbU,tyB,↓reduceIte,Nat.reduceEqDiff,Nat.reduceLT,Nat.reduceAdd,Nat.reduceLeDiff,pairs,isConst,splice,ZV.val,AS_new,zeFra]
    intro c hc
    have hcb : c ≠ b := nd hc gbn (by simp)
    have bc : ∀ (τ : AHeap) o,(AHeap.set τ c o).get b = τ.get b := fun τ o => AHeap.get_set_ne _ _ hcb
    simp (disch := first | assumption | simp) only [↓sbD,sbU,tyB,↓reduceIte,Nat.reduceEqDiff,Nat.reduceLT,Nat.reduceAdd,Nat.reduceLeDiff,splice,f2,bc,gbn,res_cellc,resC_some]
    exact downS_here (hbad k 129 q (by unfold MadeR; rw [hr]) _ d z ((k1.trans ((K5.wid (gp := []) (gp' := []) (fun _ h => by cases h) (fun _ h => by cases h)).trans (((Kept.refl _ []).setD hc).setD hc))).setD hb) (by omega) he)
end
end Go.Proofs.YtonmjhdcijibgaaGreatDoor.AbsB
namespace Go.Proofs.YtonmjhdcijibgaaGreatDoor.AbsB
open Go AbsYtonmjhdcijibgaaGreatDoor Abs
set_option maxRecDepth 100000
set_option maxHeartbeats 4000000
set_option linter.unusedSimpArgs false
set_option linter.unusedVariables false
def okS (x : Sb) : Prop := ¬ (optI x % 4 = 3) ∧ ¬ (optI x / 16 = 3)
instance (x : Sb) : Decidable (okS x) := by unfold okS; exact inferInstance
theorem subN_opt {x : Sb} {n : Nat} (h : optI x = n) : n ≤ 63 ∧ subN x.f n = x := by
 obtain ⟨f,q,nl,ai,rt⟩ := x
 unfold optI at h
 simp only at h
 split at h
 ·omega
 ·have hn : n ≤ 63 ∧ ((n % 4 : Nat) : Int) = q ∧ ((n / 16 : Nat) : Int) = rt ∧ (n / 4 % 2 = 1 ↔ nl = true) ∧ (n / 8 % 2 = 1 ↔ ai = true) := by
   cases nl <;> cases ai <;> simp only [Bool.false_eq_true,if_false,if_true,iff_true,iff_false] at h ⊢ <;> omega
  refine ⟨hn.1,?_⟩
  unfold subN
  simp only [Sb.mk.injEq,true_and]
  refine ⟨hn.2.1,?_,?_,hn.2.2.1⟩
  ·have := hn.2.2.2.1; cases nl <;> simp_all
  ·have := hn.2.2.2.2; cases ai <;> simp_all
theorem opt_subN {t : ByteArray} {n : Nat} (h : n ≤ 63) : optI (subN t n) = n := by
 unfold optI subN
 simp only
 rw [if_neg (by omega)]
 by_cases h4 : n / 4 % 2 = 1 <;> by_cases h8 : n / 8 % 2 = 1 <;> simp only [h4,h8,decide_true,decide_false,if_true,Bool.false_eq_true,if_false] <;> omega
theorem subO_at {l : List Sb} {C X Y : ByteArray} (h : catW (l.flatMap subA) = some C) {i : Nat} (hi : i < l.length) :
  ((okS l[i] → subO (X ++ C ++ Y) (X.size + (catB ((l.take i).flatMap subA)).size) = .ok (l[i],X.size + (catB ((l.take (i + 1)).flatMap subA)).size)) ∧
   (¬ okS l[i] → ∃ e,subO (X ++ C ++ Y) (X.size + (catB ((l.take i).flatMap subA)).size) = .error e)) ∧ (catB ((l.take i).flatMap subA)).size < C.size := by
 obtain ⟨m,R,h1,h2,h3⟩ := part_at h hi
 generalize l[i] = x at h1 ⊢
 obtain ⟨m1,c,g1,g2,rfl⟩ := catW_cons h1
 obtain ⟨m2,c2,g3,g4,rfl⟩ := catW_cons g2
 simp only [catW,Option.some.injEq] at g4
 subst g4
 rw [app_emp'] at *
 have hp := text_pos g1
 obtain ⟨n1,n2,rfl⟩ := numW_inl (show numW (optI x) 1 = .inl m2 from g3)
 obtain ⟨n,hn⟩ : ∃ n : Nat,optI x = n := ⟨(optI x).toNat,by omega⟩
 have hb := subN_opt hn
 rw [hn] at n2
 rw [hn,Int.toNat_natCast] at h2 h3
 have hz : (numB n 1).size = 1 := numB_z (by omega)
 have hr := text_at (X ++ catB ((l.take i).flatMap subA)) (numB n 1 ++ (R ++ Y)) g1
 have hr2 := num_at (X ++ catB ((l.take i).flatMap subA) ++ m1) (R ++ Y) (n := n) (k := 1) (by omega) (by omega) rfl
 have e : X ++ catB ((l.take i).flatMap subA) ++ m1 ++ (numB n 1 ++ (R ++ Y)) = X ++ C ++ Y := by rw [h2]; simp only [app_assoc]
 rw [e] at hr hr2
 rw [size_app] at hr
 rw [size_app,size_app] at hr2
 have h63 : ¬ 63 < n := by omega
 refine ⟨⟨fun ha => ?_,fun ha => ?_⟩,by rw [h2]; simp only [size_app]; omega⟩
 ·unfold okS at ha
  rw [hn] at ha
  have hc : ¬ (n % 4 = 3 ∨ n / 16 = 3) := by omega
  unfold subO
  rw [hr]
  simp only [hr2,h63,hc,if_false,hb.2]
  rw [h3]
  simp only [size_app,hz,Except.ok.injEq,Prod.mk.injEq,true_and]
  omega
 ·unfold okS at ha
  rw [hn] at ha
  have hc : n % 4 = 3 ∨ n / 16 = 3 := by omega
  unfold subO
  rw [hr]
  simp only [hr2,h63,hc,if_true,if_false]
  exact ⟨_,rfl⟩
theorem subO_w {s : ByteArray} {p q : Nat} {x : Sb} (h : subO s p = .ok (x,q)) : textW x.f = .inl (numB x.f.size 2 ++ x.f) ∧ x.f.size ≤ s.size ∧ okS x ∧ ∃ n : Nat,optI x = n ∧ n ≤ 63 := by
 unfold subO at h
 cases ht : textR s p with
 | error e => obtain ⟨k,q'⟩ := e; rw [ht] at h; cases h
 | ok a =>
  obtain ⟨t,q1⟩ := a
  rw [ht] at h
  simp only at h
  cases hn : numR s q1 1 with
  | error e => obtain ⟨k,q'⟩ := e; rw [hn] at h; cases h
  | ok b =>
   obtain ⟨n,q2⟩ := b
   rw [hn] at h
   simp only at h
   split at h
   ·cases h
   ·rename_i h63
    split at h
    ·cases h
    ·rename_i hc
     simp only [Except.ok.injEq,Prod.mk.injEq] at h
     obtain ⟨rfl,rfl⟩ := h
     have ho := opt_subN (t := t) (n := n) (by omega)
     have hw := textR_w ht
     refine ⟨hw.1,hw.2,?_,n,ho,by omega⟩
     unfold okS
     rw [ho]
     omega
def sbsB (p : Pk) : Pk := sbsP p.kind p.id (p.props.map plainP) (if p.kind = 8 then p.subs else []) (if p.kind = 8 then [] else p.codes)
theorem actsS_split {p : Pk} {c b : ByteArray} (h : catW (actsS p c) = some b) : ∃ m1 C,actW ⟨2,p.id,emp⟩ = .inl m1 ∧ catW (if p.kind = 8 then p.subs.flatMap subA else p.codes.flatMap codA) = some C ∧ b = m1 ++ c ++ C ∧ m1.size = 2 := by
 unfold actsS at h
 obtain ⟨m1,x,g1,g2,rfl⟩ := catW_cons h
 obtain ⟨m2,C,g3,g4,rfl⟩ := catW_cons g2
 have hs : m2 = c := by
  have g5 : (Sum.inl c : ByteArray ⊕ (Nat × Nat)) = Sum.inl m2 := g3
  injection g5 with g5
  exact g5.symm
 subst hs
 obtain ⟨n1,n2,e⟩ := numW_inl (show numW p.id 2 = .inl m1 from g1)
 exact ⟨m1,C,g1,g4,by simp only [app_assoc],by rw [e]; exact numB_z (by omega)⟩
theorem subBack {p : Pk} {fb : Int × ByteArray} {r : Except E3 Pk} (h : EncS p (.ok fb)) (hf : fewPk p) (hd : DecS fb.1 fb.2 r) : r = .ok (sbsB p) := by
 unfold EncS at h
 split at h
 ·cases h
 ·rename_i hk
  cases hb : encP p.kind p.props with
  | error e => rw [hb] at h; cases h
  | ok c =>
   rw [hb] at h
   simp only at h
   have hz : c.size ≤ 700000 := by have := encP_size hf.props hb; omega
   unfold MadeR at h
   cases hw : runW emp (actsS p c) with
   | inr e => obtain ⟨k,q⟩ := e; rw [hw] at h; cases h
   | inl b =>
    rw [hw] at h
    simp only at h
    obtain ⟨d,h1,h2⟩ := h
    cases d with
    | error e => cases h2
    | ok y =>
     simp only [Except.ok.injEq] at h2
     subst h2
     rw [hd.det h1]
     obtain ⟨D,hD,rfl⟩ := runW_cat hw
     rw [emp_app'] at *
     obtain ⟨m1,C,g1,g2,rfl,hm⟩ := actsS_split hD
     have hv := headP_val (t := C) hb hz g1
     have hz2 : (m1 ++ c).size = 2 + c.size := by rw [size_app,hm]
     unfold firstS at hk h1
     have e0 : m1 ++ c ++ C = m1 ++ c ++ C ++ emp := (app_emp' _).symm
     have hsz : (m1 ++ c ++ C).size = 2 + c.size + C.size := by rw [size_app,hz2]
     by_cases k8 : p.kind = 8
     ·rw [if_pos k8] at h1 g2
      rw [k8] at hv
      unfold DecS at h1
      rw [if_neg (by decide)] at h1
      obtain ⟨x,h3,h4⟩ := h1
      have hx := h3.det hv
      subst hx
      split at h4
      ·rename_i e1; split at e1 <;> cases h4
      ·rename_i id l q e1
       split at e1
       ·cases e1
       ·rename_i h0
        simp only [Except.ok.injEq,Prod.mk.injEq] at e1
        obtain ⟨rfl,rfl,rfl⟩ := e1
        rw [if_neg (by decide)] at h4
        obtain ⟨cl,h5,h6⟩ := h4
        cases cl with
        | error e => cases h6
        | ok l' =>
         have hp0 : (m1 ++ c).size + (catB ((p.subs.take 0).flatMap subA)).size = 2 + c.size := by rw [catB_none,hz2]; rfl
         have hl := partsBack (l := p.subs) (sz := (m1 ++ c ++ C).size) (one := subO (m1 ++ c ++ C)) (pos := fun i => (m1 ++ c).size + (catB ((p.subs.take i).flatMap subA)).size) (by rw [catB_all g2,hz2,hsz])
          (fun i hi => by have := (subO_at (X := m1 ++ c) (Y := emp) g2 hi).2; rw [hz2,hsz]; omega)
          (fun i hi => by
            have := (subO_at (X := m1 ++ c) (Y := emp) g2 hi).1
            rw [← e0] at this
            by_cases ha : okS p.subs[i]
            ·exact .inl (this.1 ha)
            ·exact .inr (this.2 ha)) p.subs.length 0 (by omega) _ (by rw [hp0,List.take_zero]; exact h5) l' rfl
         subst hl
         simp only [mapE,Except.ok.injEq] at h6
         rw [h6]
         obtain ⟨n1,_,_⟩ := numW_inl (show numW p.id 2 = .inl m1 from g1)
         unfold sbsB
         rw [if_pos k8,if_pos k8,k8,show ((p.id.toNat : Nat) : Int) = p.id by omega]
     ·have k9 : p.kind = 9 := by
       by_cases g : p.kind = 9
       ·exact g
       ·rw [if_neg k8,if_neg g] at hk; exact absurd rfl hk
      rw [if_neg k8] at h1 g2
      rw [if_pos k9] at h1
      rw [k9] at hv
      unfold DecS at h1
      rw [if_neg (by decide)] at h1
      obtain ⟨x,h3,h4⟩ := h1
      have hx := h3.det hv
      subst hx
      split at h4
      ·rename_i e1; split at e1 <;> cases h4
      ·rename_i id l q e1
       split at e1
       ·cases e1
       ·rename_i h0
        simp only [Except.ok.injEq,Prod.mk.injEq] at e1
        obtain ⟨rfl,rfl,rfl⟩ := e1
        rw [if_pos rfl] at h4
        obtain ⟨cl,h5,h6⟩ := h4
        cases cl with
        | error e => cases h6
        | ok l' =>
         have hp0 : (m1 ++ c).size + (catB ((p.codes.take 0).flatMap codA)).size = 2 + c.size := by rw [catB_none,hz2]; rfl
         have hl := partsBack (l := p.codes) (sz := (m1 ++ c ++ C).size) (one := codeO 9 (m1 ++ c ++ C)) (pos := fun i => (m1 ++ c).size + (catB ((p.codes.take i).flatMap codA)).size) (by rw [catB_all g2,hz2,hsz])
          (fun i hi => by have := (codeO_at (kind := 9) (X := m1 ++ c) (Y := emp) g2 hi).2; rw [hz2,hsz]; omega)
          (fun i hi => by
            have := (codeO_at (kind := 9) (X := m1 ++ c) (Y := emp) g2 hi).1
            rw [← e0] at this
            cases ha : alw 9 p.codes[i] with
            | true => exact .inl (this.1 ha)
            | false => exact .inr (this.2 ha)) p.codes.length 0 (by omega) _ (by rw [hp0,List.take_zero]; exact h5) l' rfl
         subst hl
         simp only [mapE,Except.ok.injEq] at h6
         rw [h6]
         obtain ⟨n1,_,_⟩ := numW_inl (show numW p.id 2 = .inl m1 from g1)
         unfold sbsB
         rw [if_neg k8,if_neg k8,k9,show ((p.id.toNat : Nat) : Int) = p.id by omega]
theorem encS_made {p : Pk} {c C m1 : ByteArray} (hk : firstS p.kind ≠ 0) (hb : encP p.kind p.props = .ok c) (h1 : actW ⟨2,p.id,emp⟩ = .inl m1) (hC : catW (if p.kind = 8 then p.subs.flatMap subA else p.codes.flatMap codA) = some C)
  (hD : DecS (firstS p.kind) (m1 ++ c ++ C) (.ok p)) : EncS p (.ok (firstS p.kind,m1 ++ c ++ C)) := by
 unfold EncS
 rw [if_neg hk,hb]
 simp only
 unfold MadeR
 have hc : catW (actsS p c) = some (m1 ++ (c ++ C)) := by
  unfold actsS
  exact catW_1 h1 (catW_1 rfl hC)
 rw [catW_run emp hc,emp_app',← app_assoc]
 exact ⟨.ok p,hD,rfl⟩
theorem subAgain {f : Int} {s : ByteArray} {p : Pk} (h : DecS f s (.ok p)) (hs : s.size ≤ 2048) : ∃ b,EncS p (.ok (f,b)) ∧ DecS f b (.ok p) ∧ midPk p ∧ b.size ≤ 900000 ∧ ∃ i l fl cl,p = sbsP (f / 16) i l fl cl := by
 have h' := h
 unfold DecS at h
 split at h
 ·cases h
 ·rename_i hf
  obtain ⟨x,h1,h2⟩ := h
  cases x with
  | error e => cases h2
  | ok a =>
   obtain ⟨id,l,q⟩ := a
   obtain ⟨i1,i2,c,e1,e2,e3,e4⟩ := headP_w hs h1
   simp only at h2
   have w2 : actW ⟨2,(id : Int),emp⟩ = .inl (numB id 2) := numW_ok (by omega)
   have hz1 : (numB id 2).size = 2 := numB_z (by omega)
   split at h2
   ·rename_i h144
    subst h144
    obtain ⟨r,h3,h4⟩ := h2
    cases r with
    | error e => cases h4
    | ok cl =>
     simp only [mapE,Except.ok.injEq] at h4
     obtain ⟨n1,n2,n3⟩ := Parts.inv (fun x => alw 9 x = true ∧ ∃ n : Nat,x = n ∧ n < 256) (fun _ _ _ h => codeO_w h) h3 (by simp) (by simp) cl rfl
     obtain ⟨C,hC,hCz⟩ := flatW (A := codA) (K := 4) (l := cl) fun x hx => by
      obtain ⟨_,n,rfl,hn⟩ := n3 x hx
      exact ⟨numB n 1 ++ emp,catW_1 (numW_ok (by omega)) rfl,by rw [app_emp']; exact numB_size _ _⟩
     have hv := headP_val (kind := 9) (t := C) (id := id) e1 e2 w2
     rw [if_neg (by omega),map_plain e3,Int.toNat_natCast] at hv
     have hz2 : (numB id 2 ++ c).size = 2 + c.size := by rw [size_app,hz1]
     have hsz : (numB id 2 ++ c ++ C).size = 2 + c.size + C.size := by rw [size_app,hz2]
     have e0 : numB id 2 ++ c ++ C = numB id 2 ++ c ++ C ++ emp := (app_emp' _).symm
     have hp0 : (numB id 2 ++ c).size + (catB ((cl.take 0).flatMap codA)).size = 2 + c.size := by rw [catB_none,hz2]; rfl
     have hP := partsFwd (l := cl) (sz := (numB id 2 ++ c ++ C).size) (one := codeO 9 (numB id 2 ++ c ++ C)) (pos := fun i => (numB id 2 ++ c).size + (catB ((cl.take i).flatMap codA)).size) (by rw [catB_all hC,hz2,hsz])
      (fun i hi => by have := (codeO_at (kind := 9) (X := numB id 2 ++ c) (Y := emp) hC hi).2; rw [hz2,hsz]; omega) n1 n2
      (fun i hi => by
        have := (codeO_at (kind := 9) (X := numB id 2 ++ c) (Y := emp) hC hi).1.1 (n3 _ (List.getElem_mem hi)).1
        rw [← e0] at this; exact this) cl.length 0 (by omega)
     rw [hp0,List.take_zero] at hP
     have hD : DecS 144 (numB id 2 ++ c ++ C) (.ok p) := by
      unfold DecS
      rw [if_neg (by decide)]
      refine ⟨_,hv,?_⟩
      simp only [if_true]
      exact ⟨_,hP,by rw [h4]; rfl⟩
     refine ⟨numB id 2 ++ c ++ C,?_,hD,?_,?_,id,l,[],cl,h4⟩
     ·have := encS_made (p := p) (c := c) (C := C) (m1 := numB id 2) (by rw [h4]; show firstS 9 ≠ 0; decide) (by rw [h4]; exact e1) (by rw [h4]; exact w2) (by rw [h4]; exact hC) (by rw [h4]; rw [h4] at hD; exact hD)
      rw [h4] at this ⊢
      exact this
     ·rw [h4]
      exact ⟨e4,Nat.zero_le _,fun x hx => absurd hx (by simp [sbsP,pkz]),Nat.zero_le _,fun x hx => absurd hx (by simp [sbsP,pkz]),by show cl.length ≤ 40; omega⟩
     ·rw [hsz]
      have : 4 * cl.length ≤ 4 * 32 := Nat.mul_le_mul_left _ n2
      omega
   ·rename_i h144
    have h130 : f = 130 := by omega
    subst h130
    obtain ⟨r,h3,h4⟩ := h2
    cases r with
    | error e => cases h4
    | ok cl =>
     simp only [mapE,Except.ok.injEq] at h4
     obtain ⟨n1,n2,n3⟩ := Parts.inv (fun x : Sb => textW x.f = .inl (numB x.f.size 2 ++ x.f) ∧ x.f.size ≤ 2048 ∧ okS x ∧ ∃ n : Nat,optI x = n ∧ n ≤ 63) (fun _ _ _ h => by have g := subO_w h; exact ⟨g.1,by omega,g.2.2⟩) h3 (by simp) (by simp) cl rfl
     obtain ⟨C,hC,hCz⟩ := flatW (A := subA) (K := 2070) (l := cl) fun x hx => by
      obtain ⟨g1,g2,_,n,g3,g4⟩ := n3 x hx
      have s2 := numB_size x.f.size 2
      have s1 := numB_size n 1
      refine ⟨(numB x.f.size 2 ++ x.f) ++ (numB n 1 ++ emp),catW_1 g1 (catW_1 (by show numW (optI x) 1 = _; rw [g3]; exact numW_ok (by omega)) rfl),by rw [app_emp',size_app,size_app]; omega⟩
     have hv := headP_val (kind := 8) (t := C) (id := id) e1 e2 w2
     rw [if_neg (by omega),map_plain e3,Int.toNat_natCast] at hv
     have hz2 : (numB id 2 ++ c).size = 2 + c.size := by rw [size_app,hz1]
     have hsz : (numB id 2 ++ c ++ C).size = 2 + c.size + C.size := by rw [size_app,hz2]
     have e0 : numB id 2 ++ c ++ C = numB id 2 ++ c ++ C ++ emp := (app_emp' _).symm
     have hp0 : (numB id 2 ++ c).size + (catB ((cl.take 0).flatMap subA)).size = 2 + c.size := by rw [catB_none,hz2]; rfl
     have hP := partsFwd (l := cl) (sz := (numB id 2 ++ c ++ C).size) (one := subO (numB id 2 ++ c ++ C)) (pos := fun i => (numB id 2 ++ c).size + (catB ((cl.take i).flatMap subA)).size) (by rw [catB_all hC,hz2,hsz])
      (fun i hi => by have := (subO_at (X := numB id 2 ++ c) (Y := emp) hC hi).2; rw [hz2,hsz]; omega) n1 n2
      (fun i hi => by
        have := (subO_at (X := numB id 2 ++ c) (Y := emp) hC hi).1.1 (n3 _ (List.getElem_mem hi)).2.2.1
        rw [← e0] at this; exact this) cl.length 0 (by omega)
     rw [hp0,List.take_zero] at hP
     have hD : DecS 130 (numB id 2 ++ c ++ C) (.ok p) := by
      unfold DecS
      rw [if_neg (by decide)]
      refine ⟨_,hv,?_⟩
      simp only
      rw [if_neg (by decide)]
      exact ⟨_,hP,by rw [h4]; rfl⟩
     refine ⟨numB id 2 ++ c ++ C,?_,hD,?_,?_,id,l,cl,[],h4⟩
     ·have := encS_made (p := p) (c := c) (C := C) (m1 := numB id 2) (by rw [h4]; show firstS 8 ≠ 0; decide) (by rw [h4]; exact e1) (by rw [h4]; exact w2) (by rw [h4]; exact hC) (by rw [h4]; rw [h4] at hD; exact hD)
      rw [h4] at this ⊢
      exact this
     ·rw [h4]
      exact ⟨e4,by show cl.length ≤ 40; omega,fun x hx => by have := (n3 x hx).2.1; omega,Nat.zero_le _,fun x hx => absurd hx (by simp [sbsP,pkz]),Nat.zero_le _⟩
     ·rw [hsz]
      have : 2070 * cl.length ≤ 2070 * 32 := Nat.mul_le_mul_left _ n2
      omega
theorem encS_size {p : Pk} {fb : Int × ByteArray} (h : EncS p (.ok fb)) (hf : fewPk p) : fb.2.size ≤ 100000 := by
 have he0 : emp.size = 0 := rfl
 unfold EncS at h
 split at h
 ·cases h
 ·cases hb : encP p.kind p.props with
  | error e => rw [hb] at h; cases h
  | ok s =>
   rw [hb] at h
   simp only at h
   have hz := encP_size hf.props hb
   unfold MadeR at h
   cases hw : runW emp (actsS p s) with
   | inr e => obtain ⟨k,q⟩ := e; rw [hw] at h; cases h
   | inl b =>
    rw [hw] at h
    simp only at h
    obtain ⟨d,h1,h2⟩ := h
    cases d with
    | error e => cases h2
    | ok y =>
     simp only [Except.ok.injEq] at h2
     subst h2
     have := runW_le _ emp b 0 (Nat.le_refl _) hw
     have sumF : ∀ l : List Sb,(∀ x ∈ l,x.f.size ≤ 200) → ((l.flatMap subA).map fun a => a.s.size + 4).sum ≤ 208 * l.length := by
      intro l
      induction l with
      | nil => intro _; simp
      | cons x l ih =>
       intro h
       have h1 := h x (by simp)
       have h2 := ih fun y hy => h y (by simp [hy])
       simp only [List.flatMap_cons,subA,List.cons_append,List.nil_append,List.map_cons,List.sum_cons,List.length_cons,he0] at h2 ⊢
       omega
     have sumC : ∀ l : List Int,((l.flatMap codA).map fun a => a.s.size + 4).sum ≤ 204 * l.length := by
      intro l
      induction l with
      | nil => simp
      | cons x l ih =>
       simp only [List.flatMap_cons,codA,List.cons_append,List.nil_append,List.map_cons,List.sum_cons,List.length_cons,he0] at ih ⊢
       omega
     have h3 := sumF p.subs hf.sub
     have h4 := sumC p.codes
     have h5 := hf.subs
     have h6 := hf.codes
     unfold actsS at this
     split at this <;> simp only [List.map_cons,List.sum_cons,he0] at this <;> simp only <;> omega
set_option maxHeartbeats 8000000
attribute [local irreducible] afterS afterOpS opSK OpsS TrS CodeS condS condW thenS thenQ guardS guardTS outS drawS trSK consS
section
variable {σ : AHeap} {Q : Value → AHeap → Prop}
theorem specBare12 {p : Pk} {v : Value} (hp : PkV p v) (hs : p.props.length ≤ 1000) (hq : ∀ w σ',PkV (sbsB p) w → Kept σ [] σ' [] → Q w σ') : CallS E B 44 [v] σ Q := by
 obtain ⟨vp,vw,vs,vf,vc,d1,d2,d3,d4,d5,rfl⟩ := hp
 obtain ⟨up,uw,us,uf,uc,d1,d2,d3,d4,d5,_,hbx⟩ := boxPk d1 d2 d3 d4 d5
 simp only [pkC] at hbx ⊢
 refine call44 (by simp) ?_
 simp only [strip,bodyOf,Tryz.f44,getD_body,keepN,bareOp_mk,lessOp_mk,List.map_cons,List.map_nil,↓reduceIte,Nat.reduceEqDiff,Bool.false_eq_true]
 simp only [↓sbD,sbU,tyB,↓reduceIte,Nat.reduceEqDiff,Nat.reduceLT,reduceCtorEq,AS_new,zePk,hbx]
 intro b hb
 refine specKPlain d1 hs fun w σ1 hw k1 => ?_
 have gb : (σ.set b _).get b = _ := AHeap.get_set_same σ b (.cells [.int .i64 0,.int .i64 0,.int .i64 0,.slice none 0 0,.bool false,.int .i64 0,.string emp,.bool false,.string emp,.string emp,.int .i64 0,.bool false,.slice none 0 0,.bool false,.string emp,.bool false,.string emp,.bool false,.string emp,.string emp,.int .i64 0,.bool false,.bool false,.slice none 0 0,.slice none 0 0,.slice none 0 0] true 0)
 have gb1 := (k1.at gb (by simp) (by simp)).1
 have hvc := dl_vc hw
 simp only [↓sbD,sbU,tyB,↓reduceIte,Nat.reduceEqDiff,Nat.reduceLT,Nat.reduceAdd,Nat.reduceLeDiff,pairs,splice,ZV.val,AS_new,zePk,hvc.1,hvc.2]
 intro y hy
 have hyb : y ≠ b := nd hy gb1 (by simp)
 have yb : ∀ (τ : AHeap) o,(AHeap.set τ y o).get b = τ.get b := fun τ o => AHeap.get_set_ne _ _ hyb
 try simp only [↓sbD,sbU,tyB,Nat.reduceMul,Nat.reduceSub,Int.reduceEq,Int.reduceLT,Int.reduceLE,Int.reduceNe,Nat.reduceBneDiff,Nat.reduceBEq,decide_false,gt_iff_lt,Bool.or_self,Bool.false_eq_true,Nat.mul_one,Nat.one_mul,Nat.zero_mul,↓reduceIte,Nat.reduceEqDiff,Nat.reduceLT,Nat.reduceAdd,Nat.reduceLeDiff,reduceCtorEq,goInt,pairs,isConst,TI.isAgg,splice,boxS,Edp,dpv,Nat.beq_eq,ZV.val,List.any_cons,List.any_nil,Bool.false_and,AHeap.get_set_same,hvc.1,hvc.2,Bool.and_self,Bool.and_true,List.length_cons,List.length_nil,List.cons_append,List.nil_append,List.drop_succ_cons,List.drop_zero,decide_true]
 generalize hσ2 : AHeap.set (AHeap.set σ1 y _) y _ = σ2
 have k2 : Kept σ1 [] σ2 [] := by rw [← hσ2]; exact ((Kept.refl _ []).setD hy).setD hy
 have gy2 : σ2.get y = .cells (sbsC p.kind p.id w (.slice none 0 0) (.slice none 0 0)) true 0 := by rw [← hσ2]; exact AHeap.get_set_same _ _ _
 have gb2 := (k2.at gb1 (by simp) (by simp)).1
 simp only [sbsC] at gy2
 clear hσ2
 refine drawS_l (fl := [(1,6),(3,6)]) (by kernel_rfl) ?_ ?_
 rotate_left; simp only [lastP_cc,lastP_one]; rotate_left
 ·simp only [List.all_cons,List.all_nil,floatS,List.getElem?_cons_succ,List.getElem?_cons_zero,List.getElem?_toArray,Region.wanted,Bool.not_true,Bool.or_true,reads,looksWeak,aev_tmp,upd_at,↓reduceIte,Nat.reduceLT,Nat.reduceAdd,blkOf,Bool.and_self,Bool.false_eq_true]
  try rfl
 by_cases hk : p.kind = 8
 ·have hkT := eq_true hk
  have huc := dl_vc d3
  simp only [↓sbD,sbU,tyB,↓reduceIte,Nat.reduceEqDiff,Nat.reduceLT,Nat.reduceAdd,Nat.reduceLeDiff,reduceCtorEq,isConst,splice,hkT,gy2,yb,gb2,hvc.2,huc.1,huc.2,res_cellc,resC_some]
  exact downS_here (hq _ _ (by unfold sbsB; rw [if_pos hk,if_pos hk]; exact sbsC_pk hw d3 (.inl ⟨rfl,rfl⟩)) (((((Kept.refl σ []).setD hb).trans k1).trans (k2.setD hy)).setD hb))
 ·have hkT := eq_false hk
  have huc := dl_vc d5
  simp only [↓sbD,sbU,tyB,decide_false,↓reduceIte,Nat.reduceEqDiff,Nat.reduceLT,Nat.reduceAdd,Nat.reduceLeDiff,reduceCtorEq,isConst,splice,hkT,gy2,yb,gb2,hvc.2,huc.1,huc.2,res_cellc,resC_some]
  exact downS_here (hq _ _ (by unfold sbsB; rw [if_neg hk,if_neg hk]; exact sbsC_pk hw (.inl ⟨rfl,rfl⟩) d5) (((((Kept.refl σ []).setD hb).trans k1).trans (k2.setD hy)).setD hb))
end
theorem fraNe {σ : AHeap} {cs : Bool} {f : Int} {a : ByteArray} : abin E σ .neq 57 cs (.agg ⟨[.int .i64 f,.string a]⟩) (.agg ⟨[.int .i64 f,.string a]⟩) = some (.bool false) := by
 have e1 : (a == a) = true := by rw [bytes_dec]; simp
 simp only [abin,nonNum,eqAsk,aeq,aeqs,apart,ty57,ty3,ty9,TI.isAgg,Bool.and_self,Bool.false_eq_true,List.getElem?_cons_zero,List.getElem?_cons_succ,↓reduceIte,beq_self_eq_true,Option.map_some,e1]
 rfl
theorem fraNe0 {σ : AHeap} {cs : Bool} : abin E σ .neq 57 cs (.agg ⟨[.int .i64 0,.string emp]⟩) (.agg ⟨[.int .i64 0,.string ⟨#[]⟩]⟩) = some (.bool false) := fraNe
theorem pk_zero : PkV pkz (.agg ⟨zeL⟩) := ⟨_,_,_,_,_,.inl ⟨rfl,rfl⟩,.inl ⟨rfl,rfl⟩,.inl ⟨rfl,rfl⟩,.inl ⟨rfl,rfl⟩,.inl ⟨rfl,rfl⟩,rfl⟩
theorem law8 {H : AHeap} {vs : List Value} (hB0 : Ext B H) (h : ArgsTyped E H 8 [54,3,9] vs) : CallW E 8 vs H fun r _ => r = .bool true := by
 obtain ⟨u,vs1,rfl,t1,e1⟩ := h.cons'
 obtain ⟨u2,vs2,rfl,t2,e2⟩ := e1.cons'
 obtain ⟨u3,vs3,rfl,t3,e3⟩ := e2.cons'
 obtain rfl := e3.nil'
 obtain ⟨p,hp,_⟩ := typed_pk t1
 obtain ⟨n,rfl⟩ := typed_i t2
 obtain ⟨s,rfl⟩ := typed_s t3
 clear t1 t2 t3 e1 e2 e3 h
 have key : CallS E B 8 [u,.int .i64 n,.string s] .empty fun r _ => r = .bool true := by
  obtain ⟨vp,vw,vs,vf,vc,d1,d2,d3,d4,d5,rfl⟩ := hp
  obtain ⟨up,uw,us,uf,uc,d1,d2,d3,d4,d5,hzz,hbx⟩ := boxPk d1 d2 d3 d4 d5
  have hp : PkV p (.agg ⟨pkC p up uw us uf uc⟩) := ⟨_,_,_,_,_,d1,d2,d3,d4,d5,rfl⟩
  have hfz : ∀ cs,Value.agg ⟨pkC p up uw us uf uc⟩ = .agg ⟨cs⟩ → frzL E.ng E.nb cs = true := fun cs h => by injection h with h; injection h with h; rw [← h]; exact hzz
  clear d1 d2 d3 d4 d5 hzz
  simp only [pkC] at hp hfz hbx ⊢
  refine call8 (by simp) ?_
  simp only [strip,bodyOf,Tryz.f8,getD_body,keepN,bareOp_mk,lessOp_mk,lapp_cons,lapp_nil,List.map_cons,List.map_nil,↓reduceIte,Nat.reduceEqDiff,Bool.false_eq_true]
  simp (disch := first | assumption | simp) only [↓sbD,sbU,tyB,↓reduceIte,Nat.reduceEqDiff,Nat.reduceLT,Nat.reduceAdd,Nat.reduceLeDiff,hbx]
  refine specKFew hp hfz fun few hfew => ?_
  cases few with
  | false =>
   simp (disch := first | assumption | simp) only [↓sbD,sbU,↓reduceIte,Nat.reduceEqDiff,Nat.reduceLT,not_bool]
   refine specS41 ?_
   simp (disch := first | assumption | simp) only [↓sbD,sbU,↓reduceIte,Nat.reduceLT]
   exact downS_here rfl
  | true =>
   have hf := hfew rfl
   have hsm : smallP p.props := ⟨by have := hf.props.1; omega,fun x hx => by have := hf.props.2 x hx; omega⟩
   by_cases hsz : (2048 : Int) < (s.size : Int)
   ·simp (disch := first | assumption | simp) only [↓sbD,sbU,tyB,↓reduceIte,Nat.reduceEqDiff,Nat.reduceLT,goInt,isConst,not_bool,hsz]
    refine specS41 ?_
    simp (disch := first | assumption | simp) only [↓sbD,sbU,↓reduceIte,Nat.reduceLT]
    exact downS_here rfl
   simp (disch := first | assumption | simp) only [↓sbD,sbU,tyB,decide_false,↓reduceIte,Nat.reduceEqDiff,Nat.reduceLT,Nat.reduceAdd,Nat.reduceLeDiff,goInt,isConst,not_bool,hsz]
   refine specSEnc hp hf.mid (fun fb he σ1 k1 => ?_) fun k rr a he σ1 d z k1 hd hn => ?_
   focus
    have hfz2 := encS_size he hf
    simp (disch := first | assumption | simp) only [↓sbD,sbU,tyB,↓reduceIte,Nat.reduceEqDiff,Nat.reduceLT,Nat.reduceAdd,Nat.reduceLeDiff,isConst,splice,AS_new,zeFra]
    intro c hc
    try simp (disch := first | assumption | simp) only [↓sbD,sbU,tyB,Nat.reduceMul,Nat.reduceSub,Int.reduceEq,Int.reduceLT,Int.reduceLE,Int.reduceNe,Nat.reduceBneDiff,Nat.reduceBEq,decide_false,gt_iff_lt,Bool.or_self,Bool.false_eq_true,Nat.mul_one,Nat.one_mul,Nat.zero_mul,↓reduceIte,Nat.reduceEqDiff,Nat.reduceLT,Nat.reduceAdd,Nat.reduceLeDiff,reduceCtorEq,goInt,pairs,isConst,TI.isAgg,splice,boxS,Edp,dpv,Nat.beq_eq,ZV.val,List.any_cons,List.any_nil,Bool.false_and,AHeap.get_set_same]
    generalize hσ2 : AHeap.set (AHeap.set σ1 c _) c _ = σ2
    have gc2 : σ2.get c = .cells [.int .i64 fb.1,.string fb.2] true 0 := by rw [← hσ2]; exact AHeap.get_set_same _ _ _
    clear hσ2
    try simp (disch := first | assumption | simp) only [↓sbD,sbU,tyB,Nat.reduceMul,Nat.reduceSub,Int.reduceEq,Int.reduceLT,Int.reduceLE,Int.reduceNe,Nat.reduceBneDiff,Nat.reduceBEq,decide_false,gt_iff_lt,Bool.or_self,Bool.false_eq_true,Nat.mul_one,Nat.one_mul,Nat.zero_mul,↓reduceIte,Nat.reduceEqDiff,Nat.reduceLT,Nat.reduceAdd,Nat.reduceLeDiff,reduceCtorEq,goInt,pairs,isConst,TI.isAgg,splice,boxS,Edp,dpv,Nat.beq_eq,ZV.val,List.any_cons,List.any_nil,Bool.false_and,gc2]
    refine specSDec (by omega) (fun y hy v2 σ3 hv2 k3 => ?_) fun k rr a hy σ3 d z k3 hd hn => by cases subBack he hf hy
    have hyy := subBack he hf hy
    simp only [Except.ok.injEq] at hyy
    subst hyy
    obtain ⟨ga,gb,gc,gd,ge,g1,g2,g3,g4,g5,rfl⟩ := hv2
    have hv2 : PkV (sbsB p) (.agg ⟨pkC (sbsB p) ga gb gc gd ge⟩) := ⟨_,_,_,_,_,g1,g2,g3,g4,g5,rfl⟩
    have vg1 := dl_vc g1
    have vg2 := dl_vc g2
    have vg3 := dl_vc g3
    have vg4 := dl_vc g4
    have vg5 := dl_vc g5
    simp only [pkC,sbsB,sbsP,pkz] at hv2 ⊢
    simp (disch := first | assumption | simp) only [↓sbD,sbU,tyB,↓reduceIte,Nat.reduceEqDiff,Nat.reduceLT,Nat.reduceAdd,Nat.reduceLeDiff,isConst,splice,AS_new,zePk,vg1.2,vg2.2,vg3.2,vg4.2,vg5.2]
    intro t ht
    try simp (disch := first | assumption | simp) only [↓sbD,sbU,tyB,Nat.reduceMul,Nat.reduceSub,Int.reduceEq,Int.reduceLT,Int.reduceLE,Int.reduceNe,Nat.reduceBneDiff,Nat.reduceBEq,decide_false,gt_iff_lt,Bool.or_self,Bool.false_eq_true,Nat.mul_one,Nat.one_mul,Nat.zero_mul,↓reduceIte,Nat.reduceEqDiff,Nat.reduceLT,Nat.reduceAdd,Nat.reduceLeDiff,reduceCtorEq,goInt,pairs,isConst,TI.isAgg,splice,boxS,Edp,dpv,Nat.beq_eq,ZV.val,List.any_cons,List.any_nil,Bool.false_and,AHeap.get_set_same,vg1.1,vg1.2,vg2.1,vg2.2,vg3.1,vg3.2,vg4.1,vg4.2,vg5.1,vg5.2,Bool.and_self,Bool.and_true,List.length_cons,List.length_nil,List.cons_append,List.nil_append,List.drop_succ_cons,List.drop_zero,decide_true]
    generalize hσ4 : AHeap.set (AHeap.set σ3 t _) t _ = σ4
    have gt : σ4.get t = .cells [.int .i64 p.kind,.int .i64 p.id,.int .i64 0,ga,.bool false,.int .i64 0,.string emp,.bool false,.string emp,.string emp,.int .i64 0,.bool false,gb,.bool false,.string emp,.bool false,.string emp,.bool false,.string emp,.string emp,.int .i64 0,.bool false,.bool false,gc,gd,ge] true 0 := by rw [← hσ4]; exact AHeap.get_set_same _ _ _
    clear hσ4
    try simp (disch := first | assumption | simp) only [↓sbD,sbU,tyB,Nat.reduceMul,Nat.reduceSub,Int.reduceEq,Int.reduceLT,Int.reduceLE,Int.reduceNe,Nat.reduceBneDiff,Nat.reduceBEq,decide_false,gt_iff_lt,Bool.or_self,Bool.false_eq_true,Nat.mul_one,Nat.one_mul,Nat.zero_mul,↓reduceIte,Nat.reduceEqDiff,Nat.reduceLT,Nat.reduceAdd,Nat.reduceLeDiff,reduceCtorEq,goInt,pairs,isConst,TI.isAgg,splice,boxS,Edp,dpv,Nat.beq_eq,ZV.val,List.any_cons,List.any_nil,Bool.false_and,gt]
    refine specBare12 hp (by have := hf.props.1; omega) fun w σ5 hw k5 => ?_
    have gt5 := (k5.at gt (by simp) (by simp)).1
    try simp (disch := first | assumption | simp) only [↓sbD,sbU,↓reduceIte,Nat.reduceEqDiff,Nat.reduceLT]
    refine specKSame (p := (sbsB p)) hv2 hw (by simp only [sbsB,sbsP,List.length_map]; have := hf.props.1; omega) (by simp [sbsB,sbsP,pkz]) (by have := hf.subs; simp only [sbsB,sbsP]; split <;> simp <;> omega) (by simp [sbsB,sbsP,pkz]) (by have := hf.codes; simp only [sbsB,sbsP]; split <;> simp <;> omega) ?_
    simp (disch := first | assumption | simp) only [↓sbD,sbU,↓reduceIte,Nat.reduceEqDiff,Nat.reduceLT,not_bool]
    refine drawS_l (fl := [(3,5)]) (by kernel_rfl) ?_ ?_
    rotate_left; simp only [lastP_cc,lastP_one]; rotate_left
    ·simp only [List.all_cons,List.all_nil,floatS,List.getElem?_cons_succ,List.getElem?_cons_zero,List.getElem?_toArray,Region.wanted,Bool.not_false,Bool.or_true,reads,looksWeak,aev_tmp,upd_at,↓reduceIte,Nat.reduceEqDiff,Nat.reduceLT,Nat.reduceAdd,blkOf,oeq_refl,dead_cells,Bool.and_self,Bool.false_eq_true,Bool.not_false,gt,gt5]
     try rfl
    simp (disch := first | assumption | simp) only [↓sbD,sbU,tyB,↓reduceIte,Nat.reduceEqDiff,Nat.reduceLT,Nat.reduceAdd,Nat.reduceLeDiff,pairs,splice,ZV.val]
   rotate_left
   focus
    simp (disch := first | assumption | simp) only [↓sbD,sbU,tyB,Bool.or_self,↓reduceIte,Nat.reduceEqDiff,Nat.reduceLT,Nat.reduceAdd,Nat.reduceLeDiff,pairs,isConst,splice,ZV.val,AS_new,zeFra]
    intro c hc
    try simp (disch := first | assumption | simp) only [↓sbD,sbU,tyB,↓reduceIte,Nat.reduceEqDiff,Nat.reduceLT,Nat.reduceAdd,Nat.reduceLeDiff,pairs,splice,ZV.val,fraNe0]
   all_goals
    refine specSDec (by omega) (fun p2 hy2 v3 σ6 hv3 k6 => ?_) fun k2 r2 a2 hy2 σ6 d2 z2 k6 hd2 hn2 => ?_
    rotate_left
    ·simp only [zeL,pkC,pkz]
     simp (disch := first | assumption | simp) only [↓sbD,sbU,tyB,↓reduceIte,Nat.reduceEqDiff,Nat.reduceLT,Nat.reduceAdd,Nat.reduceLeDiff,pairs,isConst,splice,ZV.val,AS_new,zePk]
     intro e he2
     try simp (disch := first | assumption | simp) only [↓sbD,sbU,tyB,Nat.reduceMul,Nat.reduceSub,Int.reduceEq,Int.reduceLT,Int.reduceLE,Int.reduceNe,Nat.reduceBneDiff,Nat.reduceBEq,decide_false,gt_iff_lt,Bool.or_self,Bool.false_eq_true,Nat.mul_one,Nat.one_mul,Nat.zero_mul,↓reduceIte,Nat.reduceEqDiff,Nat.reduceLT,Nat.reduceAdd,Nat.reduceLeDiff,reduceCtorEq,goInt,pairs,isConst,TI.isAgg,splice,boxS,Edp,dpv,Nat.beq_eq,ZV.val,List.any_cons,List.any_nil,Bool.false_and,AHeap.get_set_same]
     refine specKSame (p := pkz) pk_zero pk_zero (by decide) (by decide) (by decide) (by decide) (by decide) ?_
     simp (disch := first | assumption | simp) only [↓sbD,sbU,↓reduceIte,Nat.reduceLT]
     refine specS41 ?_
     simp (disch := first | assumption | simp) only [↓sbD,sbU,↓reduceIte,Nat.reduceEqDiff,Nat.reduceLT]
     exact downS_here rfl
    obtain ⟨b,hE,hD2,hsm2,hbz,i2,l2,fl2,cl2,rfl⟩ := subAgain hy2 (by omega)
    obtain ⟨ma,mb,mc,md,me,m1,m2,m3,m4,m5,rfl⟩ := hv3
    have hv3 : PkV (sbsP (n / 16) i2 l2 fl2 cl2) (.agg ⟨pkC (sbsP (n / 16) i2 l2 fl2 cl2) ma mb mc md me⟩) := ⟨_,_,_,_,_,m1,m2,m3,m4,m5,rfl⟩
    have vm1 := dl_vc m1
    have vm2 := dl_vc m2
    have vm3 := dl_vc m3
    have vm4 := dl_vc m4
    have vm5 := dl_vc m5
    simp only [pkC,sbsP,pkz] at hv3 ⊢
    simp (disch := first | assumption | simp) only [↓sbD,sbU,tyB,↓reduceIte,Nat.reduceEqDiff,Nat.reduceLT,Nat.reduceAdd,Nat.reduceLeDiff,isConst,splice,AS_new,zePk,vm1.2,vm2.2,vm3.2,vm4.2,vm5.2]
    intro t ht
    try simp (disch := first | assumption | simp) only [↓sbD,sbU,tyB,Nat.reduceMul,Nat.reduceSub,Int.reduceEq,Int.reduceLT,Int.reduceLE,Int.reduceNe,Nat.reduceBneDiff,Nat.reduceBEq,decide_false,gt_iff_lt,Bool.or_self,Bool.false_eq_true,Nat.mul_one,Nat.one_mul,Nat.zero_mul,↓reduceIte,Nat.reduceEqDiff,Nat.reduceLT,Nat.reduceAdd,Nat.reduceLeDiff,reduceCtorEq,goInt,pairs,isConst,TI.isAgg,splice,boxS,Edp,dpv,Nat.beq_eq,ZV.val,List.any_cons,List.any_nil,Bool.false_and,AHeap.get_set_same,vm1.1,vm1.2,vm2.1,vm2.2,vm3.1,vm3.2,vm4.1,vm4.2,vm5.1,vm5.2,Bool.and_self,Bool.and_true,List.length_cons,List.length_nil,List.cons_append,List.nil_append,List.drop_succ_cons,List.drop_zero,decide_true]
    generalize hσ7 : AHeap.set (AHeap.set σ6 t _) t _ = σ7
    have gt : σ7.get t = .cells [.int .i64 (n / 16),.int .i64 i2,.int .i64 0,ma,.bool false,.int .i64 0,.string emp,.bool false,.string emp,.string emp,.int .i64 0,.bool false,mb,.bool false,.string emp,.bool false,.string emp,.bool false,.string emp,.string emp,.int .i64 0,.bool false,.bool false,mc,md,me] true 0 := by rw [← hσ7]; exact AHeap.get_set_same _ _ _
    clear hσ7
    try simp (disch := first | assumption | simp) only [↓sbD,sbU,tyB,Nat.reduceMul,Nat.reduceSub,Int.reduceEq,Int.reduceLT,Int.reduceLE,Int.reduceNe,Nat.reduceBneDiff,Nat.reduceBEq,decide_false,gt_iff_lt,Bool.or_self,Bool.false_eq_true,Nat.mul_one,Nat.one_mul,Nat.zero_mul,↓reduceIte,Nat.reduceEqDiff,Nat.reduceLT,Nat.reduceAdd,Nat.reduceLeDiff,reduceCtorEq,goInt,pairs,isConst,TI.isAgg,splice,boxS,Edp,dpv,Nat.beq_eq,ZV.val,List.any_cons,List.any_nil,Bool.false_and,gt]
    refine specSEnc hv3 hsm2 (fun fb2 he2 σ8 k8 => ?_) fun k2 r2 a2 he2 σ8 d2 z2 k8 hd2 hn2 => by cases he2.det hE
    have hfe := he2.det hE
    simp only [Except.ok.injEq] at hfe
    subst hfe
    have gt8 := (k8.at gt (by simp) (by simp)).1
    simp (disch := first | assumption | simp) only [↓sbD,sbU,tyB,↓reduceIte,Nat.reduceEqDiff,Nat.reduceLT,Nat.reduceAdd,Nat.reduceLeDiff,splice,AS_new,zeFra]
    intro c' hc'
    try simp (disch := first | assumption | simp) only [↓sbD,sbU,tyB,Nat.reduceMul,Nat.reduceSub,Int.reduceEq,Int.reduceLT,Int.reduceLE,Int.reduceNe,Nat.reduceBneDiff,Nat.reduceBEq,decide_false,gt_iff_lt,Bool.or_self,Bool.false_eq_true,Nat.mul_one,Nat.one_mul,Nat.zero_mul,↓reduceIte,Nat.reduceEqDiff,Nat.reduceLT,Nat.reduceAdd,Nat.reduceLeDiff,reduceCtorEq,goInt,pairs,isConst,TI.isAgg,splice,boxS,Edp,dpv,Nat.beq_eq,ZV.val,List.any_cons,List.any_nil,Bool.false_and,AHeap.get_set_same]
    generalize hσ9 : AHeap.set (AHeap.set σ8 c' _) c' _ = σ9
    have k9 : Kept σ8 [] σ9 [] := by rw [← hσ9]; exact ((Kept.refl _ []).setD hc').setD hc'
    have gc9 : σ9.get c' = .cells [.int .i64 n,.string b] true 0 := by rw [← hσ9]; exact AHeap.get_set_same _ _ _
    have gt9 := (k9.at gt8 (by simp) (by simp)).1
    clear hσ9
    try simp (disch := first | assumption | simp) only [↓sbD,sbU,tyB,Nat.reduceMul,Nat.reduceSub,Int.reduceEq,Int.reduceLT,Int.reduceLE,Int.reduceNe,Nat.reduceBneDiff,Nat.reduceBEq,decide_false,gt_iff_lt,Bool.or_self,Bool.false_eq_true,Nat.mul_one,Nat.one_mul,Nat.zero_mul,↓reduceIte,Nat.reduceEqDiff,Nat.reduceLT,Nat.reduceAdd,Nat.reduceLeDiff,reduceCtorEq,goInt,pairs,isConst,TI.isAgg,splice,boxS,Edp,dpv,Nat.beq_eq,ZV.val,List.any_cons,List.any_nil,Bool.false_and,gc9]
    refine specSDec (by omega) (fun y2 hy3 v4 σ10 hv4 k10 => ?_) fun k2 r2 a2 hy3 σ10 d2 z2 k10 hd2 hn2 => by cases hy3.det hD2
    have hye := hy3.det hD2
    simp only [Except.ok.injEq] at hye
    subst hye
    have gt10 := (k10.at gt9 (by simp) (by simp)).1
    obtain ⟨oa,ob,oc,od,oe,o1,o2,o3,o4,o5,rfl⟩ := hv4
    have hv4 : PkV (sbsP (n / 16) i2 l2 fl2 cl2) (.agg ⟨pkC (sbsP (n / 16) i2 l2 fl2 cl2) oa ob oc od oe⟩) := ⟨_,_,_,_,_,o1,o2,o3,o4,o5,rfl⟩
    have vo1 := dl_vc o1
    have vo2 := dl_vc o2
    have vo3 := dl_vc o3
    have vo4 := dl_vc o4
    have vo5 := dl_vc o5
    simp only [pkC,sbsP,pkz] at hv4 ⊢
    simp (disch := first | assumption | simp) only [↓sbD,sbU,tyB,↓reduceIte,Nat.reduceEqDiff,Nat.reduceLT,Nat.reduceAdd,Nat.reduceLeDiff,isConst,splice,AS_new,zePk,vo1.2,vo2.2,vo3.2,vo4.2,vo5.2]
    intro t' ht'
    try simp (disch := first | assumption | simp) only [↓sbD,sbU,tyB,Nat.reduceMul,Nat.reduceSub,Int.reduceEq,Int.reduceLT,Int.reduceLE,Int.reduceNe,Nat.reduceBneDiff,Nat.reduceBEq,decide_false,gt_iff_lt,Bool.or_self,Bool.false_eq_true,Nat.mul_one,Nat.one_mul,Nat.zero_mul,↓reduceIte,Nat.reduceEqDiff,Nat.reduceLT,Nat.reduceAdd,Nat.reduceLeDiff,reduceCtorEq,goInt,pairs,isConst,TI.isAgg,splice,boxS,Edp,dpv,Nat.beq_eq,ZV.val,List.any_cons,List.any_nil,Bool.false_and,AHeap.get_set_same,vo1.1,vo1.2,vo2.1,vo2.2,vo3.1,vo3.2,vo4.1,vo4.2,vo5.1,vo5.2,Bool.and_self,Bool.and_true,List.length_cons,List.length_nil,List.cons_append,List.nil_append,List.drop_succ_cons,List.drop_zero,decide_true]
    generalize hσ11 : AHeap.set (AHeap.set σ10 t' _) t' _ = σ11
    have gt' : σ11.get t' = .cells [.int .i64 (n / 16),.int .i64 i2,.int .i64 0,oa,.bool false,.int .i64 0,.string emp,.bool false,.string emp,.string emp,.int .i64 0,.bool false,ob,.bool false,.string emp,.bool false,.string emp,.bool false,.string emp,.string emp,.int .i64 0,.bool false,.bool false,oc,od,oe] true 0 := by rw [← hσ11]; exact AHeap.get_set_same _ _ _
    have k11 : Kept σ10 [] σ11 [] := by rw [← hσ11]; exact ((Kept.refl _ []).setD ht').setD ht'
    clear hσ11
    try simp (disch := first | assumption | simp) only [↓sbD,sbU,tyB,Nat.reduceMul,Nat.reduceSub,Int.reduceEq,Int.reduceLT,Int.reduceLE,Int.reduceNe,Nat.reduceBneDiff,Nat.reduceBEq,decide_false,gt_iff_lt,Bool.or_self,Bool.false_eq_true,Nat.mul_one,Nat.one_mul,Nat.zero_mul,↓reduceIte,Nat.reduceEqDiff,Nat.reduceLT,Nat.reduceAdd,Nat.reduceLeDiff,reduceCtorEq,goInt,pairs,isConst,TI.isAgg,splice,boxS,Edp,dpv,Nat.beq_eq,ZV.val,List.any_cons,List.any_nil,Bool.false_and,gt']
    have gt11 := (k11.at gt10 (by simp) (by simp)).1
    simp (disch := first | assumption | simp) only [↓sbD,sbU,tyB,↓reduceIte,Nat.reduceEqDiff,Nat.reduceLT,Nat.reduceAdd,Nat.reduceLeDiff,gt11,gt']
    refine specKSame (p := (sbsP (n / 16) i2 l2 fl2 cl2)) hv3 hv4 (by have := hsm2.props.1; simp only [sbsP] at this ⊢; omega) (by simp [sbsP,pkz]) (by have := hsm2.subs; simp only [sbsP] at this ⊢; omega) (by simp [sbsP,pkz]) (by have := hsm2.codes; simp only [sbsP] at this ⊢; omega) ?_
    simp (disch := first | assumption | simp) only [↓sbD,sbU,↓reduceIte,Nat.reduceEqDiff,Nat.reduceLT]
    refine specS41 ?_
    simp (disch := first | assumption | simp) only [↓sbD,sbU,↓reduceIte,Nat.reduceEqDiff,Nat.reduceLT]
    exact downS_here rfl
 exact (key H (ext_holds hB0)).mono fun r H' ⟨σ',_,h⟩ => h
end Go.Proofs.YtonmjhdcijibgaaGreatDoor.AbsB
