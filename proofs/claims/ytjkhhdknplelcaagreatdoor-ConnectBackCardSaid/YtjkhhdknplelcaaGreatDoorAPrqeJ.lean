/-
  Parts of a law's proof.
-/
import Derived.Test.YtjkhhdknplelcaaGreatDoorAFrqbJ
namespace Go.Proofs.YtjkhhdknplelcaaGreatDoor.AbsB
open Go AbsYtjkhhdknplelcaaGreatDoor Abs
set_option maxRecDepth 100000
set_option maxHeartbeats 2000000
set_option linter.unusedSimpArgs false
set_option linter.unusedVariables false
attribute [local irreducible] afterS afterOpS opSK OpsS TrS CodeS condS condW thenS thenQ guardS guardTS outS drawS trSK consS
section
variable {σ : AHeap} {Q : Value → AHeap → Prop}
theorem propC_len (a : Pr) : (propC a).length = 4 := rfl
theorem propC_bare (a : Pr) : bareL (propC a) = propC a := rfl
theorem propC_frz (a : Pr) : frzL E.ng E.nb (propC a) = true := by simp [propC,frzL,frz]
theorem propC_oc (a : Pr) : (propC a).all oneCell = true := rfl
theorem propC_ag {p : Pr} : Value.agg ⟨[.int .i64 p.id,.int .i64 p.n,.string p.s,.string p.v]⟩ = .agg ⟨propC p⟩ := rfl
theorem DLp.len {v : Value} {l : List Pr} (h : DL propC 4 v l) (σ : AHeap) : abuiltin E σ .len [22] [v] = some (.int .i64 (l.length : Int),σ) := by
 rcases h with ⟨rfl,rfl⟩ | ⟨m,rfl⟩ <;> rfl
theorem DLp.at {v : Value} {l : List Pr} (h : DL propC 4 v l) {i : Nat} (hi : i < l.length) : aindexAddr E 22 v (.int .i64 (i : Int)) = some (dptr (propC l[i] ++ (l.drop (i + 1)).flatMap propC)) := by
 rcases h with ⟨rfl,rfl⟩ | ⟨m,rfl⟩
 ·simp at hi
 ·rw [ia_dsl hi,drop_flat propC_len hi]; rfl
theorem app_pr {K : Value → AHeap → Prop} {v y : Value} {l xs : List Pr} {fp : List Nat} (hv : DG propC 4 σ v l fp) (hx : DL propC 4 y xs) (hn : l.length + xs.length ≤ 1000000) (hq : ∀ σ' v' fp',Kept σ fp σ' fp' → DG propC 4 σ' v' (l ++ xs) fp' → K v' σ') :
  afterOpS E B (some (.any fun b => aappend E (σ.resize b) [22,22] [v,y])) σ K :=
 app_deep (by_ := 48) ty22 ty104 rfl (by decide) (by decide) ty22 rfl rfl propC_bare propC_frz propC_oc hv hx (by omega) hq
theorem zePr : azero E 104 = some [.int .i64 0,.int .i64 0,.string ⟨#[]⟩,.string ⟨#[]⟩] := rfl
theorem specIndexP {v : Value} {l : List Pr} {g : Nat} {id : Int} {cs : List Value} (hl : DL propC 4 v l) (hs : l.length ≤ 100000)
  (hg : ∀ (p : Pr) {Q : Value → AHeap → Prop},Q (.bool (decide (p.id = id))) σ → CallS E B g (Value.agg ⟨propC p⟩ :: cs) σ Q)
  (hin : ∀ i (hi : i < l.length),(l[i]).id = id → (∀ j (hj : j < l.length),j < i → (l[j]).id ≠ id) → Q (.int .i64 (i : Int)) σ) (hout : (∀ p ∈ l,p.id ≠ id) → Q (.int .i64 (-1)) σ) :
  CallS E B 169 [v,.func (.func g) ⟨[]⟩ ⟨cs⟩] σ Q := by
 have hlen := DLp.len hl
 refine call169 (by simp) ?_
 simp only [strip,bodyOf,Tryz.f169,getD_body,keepN,bareOp_mk,List.map_cons,List.map_nil,↓reduceIte,Bool.false_eq_true]
 simp (disch := first | assumption | simp) only [↓sbD,sbU,↓reduceIte,Nat.reduceLT,reduceCtorEq,hlen]
 refine S_loop (fun m f σ' => σ' = σ ∧ ∃ i : Nat,m + i = l.length ∧ f 8 = .int .i64 i ∧ ∀ j (hj : j < l.length),j < i → (l[j]).id ≠ id) l.length (Le.refl _) ⟨rfl,0,rfl,by simp (disch := first | assumption | simp) only [sbU,↓reduceIte]; rfl,fun j _ hj => by omega⟩ ?_
 rintro m f σ' ⟨rfl,i,hm,f8,hno⟩ hf
 have f0 := hf 0 (by decide) (notMem_wr (by kernel_rfl))
 have f1 := hf 1 (by decide) (notMem_wr (by kernel_rfl))
 have f7 := hf 7 (by decide) (notMem_wr (by kernel_rfl))
 simp (disch := first | assumption | simp) only [sbU,↓reduceIte,Nat.reduceEqDiff,reduceCtorEq] at f0 f1 f7
 clear hf
 by_cases hi : (i : Int) < (l.length : Int)
 ·have hi' : i < l.length := by omega
  have hia := DLp.at hl hi'
  have hw := wrap_suc (n := i) (by omega)
  have hin' := hin i hi'
  generalize hy : l[i] = y at hia hin'
  have hac : propC y = [.int .i64 y.id,.int .i64 y.n,.string y.s,.string y.v] := rfl
  simp (disch := first | assumption | simp) only [↓sbD,sbU,tyB,Bool.or_self,↓reduceIte,Nat.reduceEqDiff,Nat.reduceLT,Nat.reduceLeDiff,reduceCtorEq,isConst,f0,f1,f7,f8,hi,hia,hac]
  refine hg y ?_
  by_cases he : y.id = id
  ·simp (disch := first | assumption | simp) only [↓sbD,sbU,↓reduceIte,Nat.reduceEqDiff,Nat.reduceLT,he]
   exact downS_here (hin' he hno)
  ·simp (disch := first | assumption | simp) only [↓sbD,sbU,decide_false,↓reduceIte,Nat.reduceEqDiff,Nat.reduceLT,isConst,he,f8,hw]
   refine ⟨_,m - 1,_,rfl,by omega,Le.refl _,rfl,i + 1,by omega,by simp (disch := first | assumption | simp) only [sbU,↓reduceIte],fun j hj hji => ?_⟩
   rcases (by omega : j < i ∨ j = i) with h3 | rfl
   ·exact hno j hj h3
   ·rw [hy]; exact he
 ·simp (disch := first | assumption | simp) only [↓sbD,sbU,decide_false,Bool.or_self,↓reduceIte,Nat.reduceLT,isConst,f7,f8,hi]
  refine downS_here (hout fun p hp => ?_)
  obtain ⟨j,hj,rfl⟩ := List.getElem_of_mem hp
  exact hno j hj (by omega)
theorem specGC {b : Nat} {id : Int} {p : Pr} (hb : σ.get b = .cells [.int .i64 id] true 0) (h : Q (.bool (decide (p.id = id))) σ) : CallS E B 156 [.agg ⟨propC p⟩,.pointer (some ⟨b,0,none⟩)] σ Q := by
 simp only [propC]
 refine call156 (by simp) ?_
 simp only [strip,bodyOf,Tryz.f156,getD_body,keepN,bareOp_mk,List.map_cons,List.map_nil,↓reduceIte,Bool.false_eq_true]
 simp only [↓sbD,sbU,tyB,Bool.or_self,↓reduceIte,Nat.reduceEqDiff,Nat.reduceLT,reduceCtorEq,isConst,boxS,Edp,dpv,hb]
 exact downS_here h
theorem specContP {v : Value} {l : List Pr} {g : Nat} {id : Int} {cs : List Value} (hl : DL propC 4 v l) (hs : l.length ≤ 100000)
  (hg : ∀ (p : Pr) {Q : Value → AHeap → Prop},Q (.bool (decide (p.id = id))) σ → CallS E B g (Value.agg ⟨propC p⟩ :: cs) σ Q) (h : Q (.bool (hasId l id)) σ) :
  CallS E B 155 [v,.func (.func g) ⟨[]⟩ ⟨cs⟩] σ Q := by
 refine call155 (by simp) ?_
 simp only [strip,bodyOf,Tryz.f155,getD_body,keepN,bareOp_mk,List.map_cons,List.map_nil,↓reduceIte,Bool.false_eq_true]
 simp (disch := first | assumption | simp) only [↓sbD,sbU,↓reduceIte,Nat.reduceEqDiff,Nat.reduceLT,reduceCtorEq]
 refine specIndexP hl hs hg (fun i hi he _ => ?_) fun hno => ?_
 ·have h0 : (0 : Int) ≤ (i : Int) := by omega
  have e : hasId l id = true := by
   unfold hasId
   rw [List.any_eq_true]
   exact ⟨l[i],List.getElem_mem hi,by simp [he]⟩
  rw [e] at h
  simp (disch := first | assumption | simp) only [↓sbD,sbU,↓reduceIte,Nat.reduceLT,isConst,h0]
  exact downS_here h
 ·have e : hasId l id = false := by
   unfold hasId
   rw [List.any_eq_false]
   intro p hp
   simp [hno p hp]
  rw [e] at h
  simp (disch := first | assumption | simp) only [↓sbD,sbU,Int.reduceLE,decide_false,↓reduceIte,Nat.reduceLT,isConst]
  exact downS_here h
theorem arr_map {α β : Type} (f : α → β) (l : List α) : Array.map f ⟨l⟩ = ⟨l.map f⟩ := by simp
theorem dpI : dp 3 = false := rfl
theorem specGround {pl id at' : Int} {v : Value} {l : List Pr} (hl : DL propC 4 v l) (hs : l.length ≤ 100000) (hok : groundP pl l id = none → Q .nilIface σ) (hbad : ∀ k r : Nat,groundP pl l id = some (k,r) → 1 ≤ k ∧ k ≤ 7 → Q (fv r at' (sent k)) σ) :
  CallS E B 130 [.int .i64 pl,v,.int .i64 id,.int .i64 at'] σ Q := by
 have hlen := DLp.len hl
 unfold groundP at hok hbad
 refine call130 (by simp) ?_
 simp only [strip,bodyOf,Tryz.f130,getD_body,keepN,bareOp_mk,List.map_cons,List.map_nil,↓reduceIte,Bool.false_eq_true]
 simp (disch := first | assumption | simp) only [↓sbD,sbU,tyB,Bool.false_eq_true,↓reduceIte,Nat.reduceEqDiff,Nat.reduceLT,isConst,boxS,Edp,Bool.false_and,AS_new,dpI]
 intro b hb
 by_cases c38 : id = 38
 ·subst c38
  by_cases h64 : (64 : Int) ≤ (l.length : Int)
  ·rw [if_pos (by omega)] at hbad
   simp (disch := first | assumption | simp) only [↓sbD,sbU,tyB,↓reduceIte,Nat.reduceEqDiff,Nat.reduceLT,isConst,hlen,h64,gk4]
   refine specNew (n := 4) ⟨by omega,by omega⟩ ?_
   simp (disch := first | assumption | simp) only [↓sbD,sbU,↓reduceIte,Nat.reduceLT]
   exact downS_le (Le.new hb) (hbad 4 149 rfl ⟨by omega,by omega⟩)
  rw [if_neg (by omega)] at hok hbad
  by_cases ht : typI (38 : Int) = 0
  ·rw [if_pos (.inl ht)] at hbad
   simp (disch := first | assumption | simp) only [↓sbD,sbU,tyB,decide_false,↓reduceIte,Nat.reduceEqDiff,Nat.reduceLT,isConst,hlen,h64]
   refine specType ?_
   simp (disch := first | assumption | simp) only [↓sbD,sbU,tyB,↓reduceIte,Nat.reduceEqDiff,Nat.reduceLT,isConst,ht,gk2]
   refine specNew (n := 2) ⟨by omega,by omega⟩ ?_
   simp (disch := first | assumption | simp) only [↓sbD,sbU,↓reduceIte,Nat.reduceLT]
   exact downS_le (Le.new hb) (hbad 2 129 rfl ⟨by omega,by omega⟩)
  simp (disch := first | assumption | simp) only [↓sbD,sbU,tyB,decide_false,↓reduceIte,Nat.reduceEqDiff,Nat.reduceLT,isConst,hlen,h64]
  refine specType ?_
  simp (disch := first | assumption | simp) only [↓sbD,sbU,tyB,decide_false,↓reduceIte,Nat.reduceEqDiff,Nat.reduceLT,reduceCtorEq,isConst,ht]
  refine specAllowed ?_
  cases ha : allow (38 : Int) pl with
  | false =>
   rw [if_pos (.inr ha)] at hbad
   simp (disch := first | assumption | simp) only [↓sbD,sbU,tyB,↓reduceIte,Nat.reduceEqDiff,Nat.reduceLT,not_bool,gk2]
   refine specNew (n := 2) ⟨by omega,by omega⟩ ?_
   simp (disch := first | assumption | simp) only [↓sbD,sbU,↓reduceIte,Nat.reduceLT]
   exact downS_le (Le.new hb) (hbad 2 129 rfl ⟨by omega,by omega⟩)
  | true =>
   rw [if_neg (by rw [ha]; simp [ht])] at hok hbad
   rw [if_neg (by simp)] at hok
   simp (disch := first | assumption | simp) only [↓sbD,sbU,↓reduceIte,Nat.reduceEqDiff,Nat.reduceLT,not_bool]
   exact downS_le (Le.new hb) (hok rfl)
 by_cases c11 : id = 11
 ·subst c11
  by_cases c3 : pl = 3
  ·subst c3
   by_cases h64 : (64 : Int) ≤ (l.length : Int)
   ·rw [if_pos (by omega)] at hbad
    simp (disch := first | assumption | simp) only [↓sbD,sbU,tyB,Int.reduceEq,decide_false,↓reduceIte,Nat.reduceEqDiff,Nat.reduceLT,reduceCtorEq,isConst,hlen,h64,gk4]
    refine specNew (n := 4) ⟨by omega,by omega⟩ ?_
    simp (disch := first | assumption | simp) only [↓sbD,sbU,↓reduceIte,Nat.reduceLT]
    exact downS_le (Le.new hb) (hbad 4 149 rfl ⟨by omega,by omega⟩)
   rw [if_neg (by omega)] at hok hbad
   by_cases ht : typI (11 : Int) = 0
   ·rw [if_pos (.inl ht)] at hbad
    simp (disch := first | assumption | simp) only [↓sbD,sbU,tyB,Int.reduceEq,decide_false,↓reduceIte,Nat.reduceEqDiff,Nat.reduceLT,reduceCtorEq,isConst,hlen,h64]
    refine specType ?_
    simp (disch := first | assumption | simp) only [↓sbD,sbU,tyB,↓reduceIte,Nat.reduceEqDiff,Nat.reduceLT,isConst,ht,gk2]
    refine specNew (n := 2) ⟨by omega,by omega⟩ ?_
    simp (disch := first | assumption | simp) only [↓sbD,sbU,↓reduceIte,Nat.reduceLT]
    exact downS_le (Le.new hb) (hbad 2 129 rfl ⟨by omega,by omega⟩)
   simp (disch := first | assumption | simp) only [↓sbD,sbU,tyB,Int.reduceEq,decide_false,↓reduceIte,Nat.reduceEqDiff,Nat.reduceLT,reduceCtorEq,isConst,hlen,h64]
   refine specType ?_
   simp (disch := first | assumption | simp) only [↓sbD,sbU,tyB,decide_false,↓reduceIte,Nat.reduceEqDiff,Nat.reduceLT,reduceCtorEq,isConst,ht]
   refine specAllowed ?_
   cases ha : allow (11 : Int) (3 : Int) with
   | false =>
    rw [if_pos (.inr ha)] at hbad
    simp (disch := first | assumption | simp) only [↓sbD,sbU,tyB,↓reduceIte,Nat.reduceEqDiff,Nat.reduceLT,not_bool,gk2]
    refine specNew (n := 2) ⟨by omega,by omega⟩ ?_
    simp (disch := first | assumption | simp) only [↓sbD,sbU,↓reduceIte,Nat.reduceLT]
    exact downS_le (Le.new hb) (hbad 2 129 rfl ⟨by omega,by omega⟩)
   | true =>
    rw [if_neg (by rw [ha]; simp [ht])] at hok hbad
    rw [if_neg (by simp)] at hok
    simp (disch := first | assumption | simp) only [↓sbD,sbU,↓reduceIte,Nat.reduceEqDiff,Nat.reduceLT,not_bool]
    exact downS_le (Le.new hb) (hok rfl)
  ·skip
   by_cases h64 : (64 : Int) ≤ (l.length : Int)
   ·rw [if_pos (by omega)] at hbad
    simp (disch := first | assumption | simp) only [↓sbD,sbU,tyB,Int.reduceEq,decide_false,↓reduceIte,Nat.reduceEqDiff,Nat.reduceLT,reduceCtorEq,isConst,c3,hlen,h64,gk4]
    refine specNew (n := 4) ⟨by omega,by omega⟩ ?_
    simp (disch := first | assumption | simp) only [↓sbD,sbU,↓reduceIte,Nat.reduceLT]
    exact downS_le (Le.new hb) (hbad 4 149 rfl ⟨by omega,by omega⟩)
   rw [if_neg (by omega)] at hok hbad
   by_cases ht : typI (11 : Int) = 0
   ·rw [if_pos (.inl ht)] at hbad
    simp (disch := first | assumption | simp) only [↓sbD,sbU,tyB,Int.reduceEq,decide_false,↓reduceIte,Nat.reduceEqDiff,Nat.reduceLT,reduceCtorEq,isConst,c3,hlen,h64]
    refine specType ?_
    simp (disch := first | assumption | simp) only [↓sbD,sbU,tyB,↓reduceIte,Nat.reduceEqDiff,Nat.reduceLT,isConst,ht,gk2]
    refine specNew (n := 2) ⟨by omega,by omega⟩ ?_
    simp (disch := first | assumption | simp) only [↓sbD,sbU,↓reduceIte,Nat.reduceLT]
    exact downS_le (Le.new hb) (hbad 2 129 rfl ⟨by omega,by omega⟩)
   simp (disch := first | assumption | simp) only [↓sbD,sbU,tyB,Int.reduceEq,decide_false,↓reduceIte,Nat.reduceEqDiff,Nat.reduceLT,reduceCtorEq,isConst,c3,hlen,h64]
   refine specType ?_
   simp (disch := first | assumption | simp) only [↓sbD,sbU,tyB,decide_false,↓reduceIte,Nat.reduceEqDiff,Nat.reduceLT,reduceCtorEq,isConst,ht]
   refine specAllowed ?_
   cases ha : allow (11 : Int) pl with
   | false =>
    rw [if_pos (.inr ha)] at hbad
    simp (disch := first | assumption | simp) only [↓sbD,sbU,tyB,↓reduceIte,Nat.reduceEqDiff,Nat.reduceLT,not_bool,gk2]
    refine specNew (n := 2) ⟨by omega,by omega⟩ ?_
    simp (disch := first | assumption | simp) only [↓sbD,sbU,↓reduceIte,Nat.reduceLT]
    exact downS_le (Le.new hb) (hbad 2 129 rfl ⟨by omega,by omega⟩)
   | true =>
    rw [if_neg (by rw [ha]; simp [ht])] at hok hbad
    simp (disch := first | assumption | simp) only [↓sbD,sbU,↓reduceIte,Nat.reduceEqDiff,Nat.reduceLT,not_bool,arr_map]
    refine specContP (cs := [.pointer (some ⟨b,0,none⟩)]) hl hs (fun p Q h => specGC (AHeap.get_set_same _ _ _) h) ?_
    cases hh : hasId l (11 : Int) with
    | true =>
     rw [if_pos ⟨by decide,by simp [c3],hh⟩] at hbad
     simp (disch := first | assumption | simp) only [↓sbD,sbU,tyB,↓reduceIte,Nat.reduceEqDiff,Nat.reduceLT,gk3]
     refine specNew (n := 3) ⟨by omega,by omega⟩ ?_
     simp (disch := first | assumption | simp) only [↓sbD,sbU,↓reduceIte,Nat.reduceLT]
     exact downS_le (Le.new hb) (hbad 3 130 rfl ⟨by omega,by omega⟩)
    | false =>
     rw [if_neg (by simp [hh])] at hok
     simp (disch := first | assumption | simp) only [↓sbD,sbU,↓reduceIte,Nat.reduceEqDiff,Nat.reduceLT]
     exact downS_le (Le.new hb) (hok rfl)
 ·skip
  by_cases h64 : (64 : Int) ≤ (l.length : Int)
  ·rw [if_pos (by omega)] at hbad
   simp (disch := first | assumption | simp) only [↓sbD,sbU,tyB,decide_false,↓reduceIte,Nat.reduceEqDiff,Nat.reduceLT,isConst,c38,c11,hlen,h64,gk4]
   refine specNew (n := 4) ⟨by omega,by omega⟩ ?_
   simp (disch := first | assumption | simp) only [↓sbD,sbU,↓reduceIte,Nat.reduceLT]
   exact downS_le (Le.new hb) (hbad 4 149 rfl ⟨by omega,by omega⟩)
  rw [if_neg (by omega)] at hok hbad
  by_cases ht : typI id = 0
  ·rw [if_pos (.inl ht)] at hbad
   simp (disch := first | assumption | simp) only [↓sbD,sbU,tyB,decide_false,↓reduceIte,Nat.reduceEqDiff,Nat.reduceLT,isConst,c38,c11,hlen,h64]
   refine specType ?_
   simp (disch := first | assumption | simp) only [↓sbD,sbU,tyB,↓reduceIte,Nat.reduceEqDiff,Nat.reduceLT,isConst,ht,gk2]
   refine specNew (n := 2) ⟨by omega,by omega⟩ ?_
   simp (disch := first | assumption | simp) only [↓sbD,sbU,↓reduceIte,Nat.reduceLT]
   exact downS_le (Le.new hb) (hbad 2 129 rfl ⟨by omega,by omega⟩)
  simp (disch := first | assumption | simp) only [↓sbD,sbU,tyB,decide_false,↓reduceIte,Nat.reduceEqDiff,Nat.reduceLT,isConst,c38,c11,hlen,h64]
  refine specType ?_
  simp (disch := first | assumption | simp) only [↓sbD,sbU,tyB,decide_false,↓reduceIte,Nat.reduceEqDiff,Nat.reduceLT,reduceCtorEq,isConst,ht]
  refine specAllowed ?_
  cases ha : allow id pl with
  | false =>
   rw [if_pos (.inr ha)] at hbad
   simp (disch := first | assumption | simp) only [↓sbD,sbU,tyB,↓reduceIte,Nat.reduceEqDiff,Nat.reduceLT,not_bool,gk2]
   refine specNew (n := 2) ⟨by omega,by omega⟩ ?_
   simp (disch := first | assumption | simp) only [↓sbD,sbU,↓reduceIte,Nat.reduceLT]
   exact downS_le (Le.new hb) (hbad 2 129 rfl ⟨by omega,by omega⟩)
  | true =>
   rw [if_neg (by rw [ha]; simp [ht])] at hok hbad
   simp (disch := first | assumption | simp) only [↓sbD,sbU,↓reduceIte,Nat.reduceEqDiff,Nat.reduceLT,not_bool,arr_map]
   refine specContP (cs := [.pointer (some ⟨b,0,none⟩)]) hl hs (fun p Q h => specGC (AHeap.get_set_same _ _ _) h) ?_
   cases hh : hasId l id with
   | true =>
    rw [if_pos ⟨c38,by simp [c11],hh⟩] at hbad
    simp (disch := first | assumption | simp) only [↓sbD,sbU,tyB,↓reduceIte,Nat.reduceEqDiff,Nat.reduceLT,gk3]
    refine specNew (n := 3) ⟨by omega,by omega⟩ ?_
    simp (disch := first | assumption | simp) only [↓sbD,sbU,↓reduceIte,Nat.reduceLT]
    exact downS_le (Le.new hb) (hbad 3 130 rfl ⟨by omega,by omega⟩)
   | false =>
    rw [if_neg (by simp [hh])] at hok
    simp (disch := first | assumption | simp) only [↓sbD,sbU,↓reduceIte,Nat.reduceEqDiff,Nat.reduceLT]
    exact downS_le (Le.new hb) (hok rfl)
end
section
variable {σ : AHeap} {Q : Value → AHeap → Prop}
theorem flat_take {α : Type} {enc : α → List Value} {sz : Nat} (hsz : ∀ a,(enc a).length = sz) : ∀ (l : List α) (i : Nat),i ≤ l.length → (l.flatMap enc).take (i * sz) = (l.take i).flatMap enc
 | [],i,h => by
  have : i = 0 := by simpa using h
  subst this; simp
 | a :: l,0,_ => by simp
 | a :: l,i + 1,h => by
  rw [List.flatMap_cons,List.take_succ_cons,List.flatMap_cons,Nat.succ_mul,Nat.add_comm,← hsz a,List.take_length_add_append,hsz a,flat_take hsz l i (by simpa using h)]
theorem DLp.to {v : Value} {l : List Pr} (h : DL propC 4 v l) {i : Nat} (hi : i ≤ l.length) : ∃ v',DL propC 4 v' (l.take i) ∧ ∀ τ : AHeap,aslice E τ 22 v none (some (.int .i64 (i : Int))) none = some v' := by
 rcases h with ⟨rfl,rfl⟩ | ⟨m,rfl⟩
 ·obtain rfl : i = 0 := by simpa using hi
  exact ⟨_,.inl ⟨rfl,rfl⟩,fun τ => by simp [aslice,ty22,ty104,abound]⟩
 ·refine ⟨dsl (if m = 1 then (if i = l.length then 1 else 0) else if i = l.length ∧ 0 < i then m else 0) 4 (l.take i).length ((l.take i).flatMap propC),.inr ⟨_,rfl⟩,fun τ => ?_⟩
  rw [List.length_take,Nat.min_eq_left hi,← flat_take propC_len l i hi]
  simp [aslice,dsl,ty22,ty104,abound,hi]
theorem groundP_k {pl : Int} {l : List Pr} {id : Int} {k r : Nat} (h : groundP pl l id = some (k,r)) : 1 ≤ k ∧ k ≤ 7 := by
 unfold groundP at h
 split at h
 ·injection h with h; injection h with h1 h2; omega
 split at h
 ·injection h with h; injection h with h1 h2; omega
 split at h
 ·injection h with h; injection h with h1 h2; omega
 ·cases h
theorem specPCheck {pl : Int} {v : Value} {l : List Pr} (hl : DL propC 4 v l) (hs : l.length ≤ 100000) (hok : chk pl [] l = none → Q .nilIface σ) (hbad : ∀ k r a : Nat,chk pl [] l = some (k,r,a) → 1 ≤ k ∧ k ≤ 7 → Q (fv r a (sent k)) σ) :
  CallS E B 86 [.int .i64 pl,v] σ Q := by
 have hlen := DLp.len hl
 refine call86 (by simp) ?_
 simp only [strip,bodyOf,Tryz.f86,getD_body,keepN,bareOp_mk,List.map_cons,List.map_nil,↓reduceIte,Bool.false_eq_true]
 simp (disch := first | assumption | simp) only [↓sbD,sbU,↓reduceIte,Nat.reduceEqDiff,Nat.reduceLT,hlen]
 refine S_loop (fun m f σ' => σ' = σ ∧ ∃ i : Nat,m + i = l.length ∧ f 11 = .int .i64 i ∧ chk pl (l.take i) (l.drop i) = chk pl [] l) l.length (Le.refl _) ⟨rfl,0,rfl,by simp (disch := first | assumption | simp) only [sbU,↓reduceIte]; rfl,by simp⟩ ?_
 rintro m f σ' ⟨rfl,i,hm,f11,hc⟩ hf
 have f0 := hf 0 (by decide) (notMem_wr (by kernel_rfl))
 have f1 := hf 1 (by decide) (notMem_wr (by kernel_rfl))
 have f9 := hf 9 (by decide) (notMem_wr (by kernel_rfl))
 have f10 := hf 10 (by decide) (notMem_wr (by kernel_rfl))
 simp (disch := first | assumption | simp) only [sbU,↓reduceIte,Nat.reduceEqDiff,reduceCtorEq] at f0 f1 f9 f10
 clear hf
 by_cases hi : (i : Int) < (l.length : Int)
 ·have hi' : i < l.length := by omega
  have hia := DLp.at hl hi'
  obtain ⟨v',hl',hto⟩ := DLp.to hl (i := i) (by omega)
  have hw := wrap_suc (n := i) (by omega)
  have hd : l.drop i = l[i] :: l.drop (i + 1) := List.drop_eq_getElem_cons hi'
  have htk : l.take (i + 1) = l.take i ++ [l[i]] := List.take_succ_eq_append_getElem hi'
  have hti : (l.take i).length = i := by rw [List.length_take]; omega
  rw [hd] at hc
  generalize hy : l[i] = y at hia hc htk
  have hac : propC y = [.int .i64 y.id,.int .i64 y.n,.string y.s,.string y.v] := rfl
  simp only [chk] at hc
  simp (disch := first | assumption | simp) only [↓sbD,sbU,tyB,Bool.or_self,↓reduceIte,Nat.reduceEqDiff,Nat.reduceLT,Nat.reduceAdd,Nat.reduceLeDiff,reduceCtorEq,isConst,splice,f0,f1,f9,f10,f11,hi,hia,hac,AS_new,zePr,hto]
  intro b hb
  refine specGround hl' (by omega) (fun hg => ?_) fun k r hg hk => ?_
  ·simp (disch := first | assumption | simp) only [↓sbD,sbU,tyB,↓reduceIte,Nat.reduceEqDiff,Nat.reduceLT,Nat.reduceAdd,Nat.reduceLeDiff,isConst,propC_ag]
   refine specBadP (fun hn => ?_) fun hn => ?_
   ·have hbp : badP pl (l.take i) y = none := by unfold badP; rw [hg]; simp only [hn,if_true]
    rw [hbp] at hc
    simp (disch := first | assumption | simp) only [↓sbD,sbU,tyB,↓reduceIte,Nat.reduceEqDiff,Nat.reduceLT,isConst,f11,hw]
    refine ⟨_,m - 1,σ',rfl,by omega,Le.new' (Le.new hb) hb,rfl,i + 1,by omega,by simp (disch := first | assumption | simp) only [sbU,↓reduceIte],by rw [htk]; exact hc⟩
   ·have hbp : badP pl (l.take i) y = some (3,130) := by unfold badP; rw [hg]; simp only [hn,Bool.false_eq_true,if_false]
    rw [hbp] at hc
    simp (disch := first | assumption | simp) only [↓sbD,sbU,tyB,↓reduceIte,Nat.reduceEqDiff,Nat.reduceLT,isConst]
    have := hbad 3 130 i (by rw [← hc,hti]) ⟨by omega,by omega⟩
    exact downS_le (Le.new' (Le.new hb) hb) this
  ·have hbp : badP pl (l.take i) y = some (k,r) := by unfold badP; rw [hg]
   rw [hbp] at hc
   simp (disch := first | assumption | simp) only [↓sbD,sbU,tyB,↓reduceIte,Nat.reduceEqDiff,Nat.reduceLT,isConst]
   have := hbad k r i (by rw [← hc,hti]) hk
   exact downS_le (Le.new' (Le.new hb) hb) this
 ·obtain rfl : i = l.length := by omega
  rw [List.drop_length] at hc
  simp (disch := first | assumption | simp) only [↓sbD,sbU,decide_false,Bool.or_self,↓reduceIte,Nat.reduceLT,isConst,f10,f11,hi]
  exact downS_here (hok hc.symm)
def fewPr (l : List Pr) : Prop := l.length ≤ 70 ∧ ∀ p ∈ l,p.s.size ≤ 200 ∧ p.v.size ≤ 200
theorem specFewP {v : Value} {l : List Pr} (h : DL propC 4 v l) (hq : ∀ b : Bool,(b = true → fewPr l) → Q (.bool b) σ) : CallS E B 37 [v] σ Q := by
 have hlen := DLp.len h
 refine call37 (by simp) ?_
 simp only [strip,bodyOf,Tryz.f37,getD_body,keepN,bareOp_mk,List.map_cons,List.map_nil,↓reduceIte,Bool.false_eq_true]
 simp only [↓sbD,sbU]
 refine S_loop (fun k f σ' => σ' = σ ∧ ∃ i : Nat,i ≤ 70 ∧ i ≤ l.length ∧ k + i = l.length ∧ f 3 = .int .i64 i ∧ ∀ j (hj : j < l.length),j < i → (l[j]).s.size ≤ 200 ∧ (l[j]).v.size ≤ 200) l.length (Le.refl _) ⟨rfl,0,by omega,by omega,rfl,by simp only [sbU,↓reduceIte]; rfl,fun j _ hj => by omega⟩ ?_
 rintro k f σ' ⟨rfl,i,h20,hil,hk,f3,hall⟩ hf
 have f0 := hf 0 (by decide) (notMem_wr (by kernel_rfl))
 simp only [sbU,↓reduceIte,reduceCtorEq] at f0
 clear hf
 by_cases h1 : (i : Int) < (l.length : Int)
 ·by_cases h2 : (i : Int) < 70
  ·have hi : i < l.length := by omega
   have hia := DLp.at h hi
   have hw := wrap_suc (n := i) (by omega)
   generalize hy : l[i] = y at hia
   have hac : propC y = [.int .i64 y.id,.int .i64 y.n,.string y.s,.string y.v] := rfl
   by_cases hb : (200 : Int) < (y.s.size : Int)
   ·simp only [↓sbD,sbU,tyB,Bool.or_self,↓reduceIte,Nat.reduceEqDiff,Nat.reduceLT,reduceCtorEq,goInt,isConst,f0,f3,hlen,h1,h2,hia,hac,hb]
    exact downS_here (hq false (fun h => by cases h))
   by_cases hb2 : (200 : Int) < (y.v.size : Int)
   ·simp only [↓sbD,sbU,tyB,decide_false,Bool.or_self,↓reduceIte,Nat.reduceEqDiff,Nat.reduceLT,reduceCtorEq,goInt,isConst,f0,f3,hlen,h1,h2,hia,hac,hb,hb2]
    exact downS_here (hq false (fun h => by cases h))
   ·simp only [↓sbD,sbU,tyB,decide_false,Bool.or_self,↓reduceIte,Nat.reduceEqDiff,Nat.reduceLT,reduceCtorEq,goInt,isConst,f0,f3,hlen,h1,h2,hia,hac,hb,hb2,hw]
    refine ⟨_,k - 1,_,rfl,by omega,Le.refl _,rfl,i + 1,by omega,by omega,by omega,by simp only [sbU,↓reduceIte],fun j hj hji => ?_⟩
    rcases (by omega : j < i ∨ j = i) with h3 | rfl
    ·exact hall j hj h3
    ·rw [hy]; omega
  ·have h3 : i = 70 := by omega
   have h4 : ¬ (l.length : Int) ≤ 70 := by omega
   simp only [↓sbD,sbU,decide_false,Bool.or_self,↓reduceIte,Nat.reduceEqDiff,Nat.reduceLT,reduceCtorEq,isConst,f0,f3,hlen,h1,h2,h4]
   exact downS_here (hq false (fun h => by cases h))
 ·have hi : i = l.length := by omega
  have h4 : (l.length : Int) ≤ 70 := by omega
  simp only [↓sbD,sbU,decide_false,Bool.or_self,↓reduceIte,Nat.reduceEqDiff,Nat.reduceLT,reduceCtorEq,isConst,f0,f3,hlen,h1,h4]
  refine downS_here (hq true fun _ => ⟨by omega,fun a ha => ?_⟩)
  obtain ⟨j,hj,rfl⟩ := List.getElem_of_mem ha
  exact hall j hj (by omega)
theorem prNe {cs : Bool} {p : Pr} : abin E σ .neq 104 cs (.agg ⟨propC p⟩) (.agg ⟨propC p⟩) = some (.bool false) := by
 simp only [propC,abin,nonNum,eqAsk,aeq,aeqs,apart,ty104,ty3,ty9,TI.isAgg,Bool.and_self,Bool.false_eq_true,List.getElem?_cons_zero,List.getElem?_cons_succ,↓reduceIte,beq_self_eq_true,bytes_dec,decide_true,Option.map_some,Bool.not_true]
theorem specPSame {v u : Value} {l : List Pr} (ha : DL propC 4 v l) (hb : DL propC 4 u l) (hl : l.length ≤ 100000) (h : Q (.bool true) σ) : CallS E B 59 [v,u] σ Q := by
 have la := DLp.len ha
 have lb := DLp.len hb
 refine call59 (by simp) ?_
 simp only [strip,bodyOf,Tryz.f59,getD_body,keepN,bareOp_mk,List.map_cons,List.map_nil,↓reduceIte,Bool.false_eq_true]
 simp only [↓sbD,sbU,decide_false,Bool.or_self,↓reduceIte,Nat.reduceEqDiff,Nat.reduceLT,reduceCtorEq,isConst,la,lb]
 refine S_loop (fun m f σ' => σ' = σ ∧ ∃ i : Nat,m + i = l.length ∧ f 5 = .int .i64 i) l.length (Le.refl _) ⟨rfl,0,rfl,by simp only [sbU,↓reduceIte]; rfl⟩ ?_
 rintro m f σ' ⟨rfl,i,hm,f5⟩ hf
 have f0 := hf 0 (by decide) (notMem_wr (by kernel_rfl))
 have f1 := hf 1 (by decide) (notMem_wr (by kernel_rfl))
 simp only [sbU,↓reduceIte,Nat.reduceEqDiff,reduceCtorEq] at f0 f1
 clear hf
 by_cases hi : (i : Int) < (l.length : Int)
 ·have hi' : i < l.length := by omega
  have a1 := DLp.at ha hi'
  have b1 := DLp.at hb hi'
  have hw := wrap_suc (n := i) (by omega)
  generalize l[i] = y at a1 b1
  have hac : propC y = [.int .i64 y.id,.int .i64 y.n,.string y.s,.string y.v] := rfl
  have hn : ∀ τ : AHeap,∀ cs,abin E τ .neq 104 cs (.agg ⟨[.int .i64 y.id,.int .i64 y.n,.string y.s,.string y.v]⟩) (.agg ⟨[.int .i64 y.id,.int .i64 y.n,.string y.s,.string y.v]⟩) = some (.bool false) := fun τ cs => prNe (p := y)
  simp only [↓sbD,sbU,tyB,Bool.or_self,↓reduceIte,Nat.reduceEqDiff,Nat.reduceLT,Nat.reduceLeDiff,reduceCtorEq,isConst,f0,f1,f5,la,lb,hi,a1,b1,hac,hn,hw]
  exact ⟨_,m - 1,_,rfl,by omega,Le.refl _,rfl,i + 1,by omega,by simp only [sbU,↓reduceIte]⟩
 ·simp only [↓sbD,sbU,decide_false,Bool.or_self,↓reduceIte,Nat.reduceEqDiff,Nat.reduceLT,reduceCtorEq,isConst,f0,f5,la,hi]
  exact downS_here h
end
section
variable {σ : AHeap} {Q : Value → AHeap → Prop} {w : Nat} {fp : List Nat} {r : ByteArray ⊕ (Nat × Nat)}
def stepW (r : ByteArray ⊕ (Nat × Nat)) (l : List Act) : ByteArray ⊕ (Nat × Nat) := match r with
 | .inl b => runW b l
 | .inr e => .inr e
theorem stepW_app {l m : List Act} : stepW (stepW r l) m = stepW r (l ++ m) := by
 cases r with
 | inl b => simp only [stepW]; rw [runW_app]; cases runW b l <;> rfl
 | inr e => rfl
theorem stepW_nil : stepW r [] = r := by cases r <;> rfl
def leW (r : ByteArray ⊕ (Nat × Nat)) (n : Nat) : Prop := ∀ b,r = .inl b → b.size ≤ n
theorem leW_step {n : Nat} {a : Act} (h : leW r n) : leW (stepW r [a]) (n + a.s.size + 4) := by
 intro b hb
 cases r with
 | inr e => cases hb
 | inl c =>
  have hc := h c rfl
  simp only [stepW,runW] at hb
  cases ha : actW a with
  | inl m =>
   rw [ha] at hb
   injection hb with hb; subst hb
   have := actW_size ha
   rw [size_app]; omega
  | inr e => rw [ha] at hb; cases hb
theorem WOut.run {a : ByteArray} {act : Act} (h : WOut σ w a (actW act) fp) : WRun σ w (runW a [act]) fp := by
 unfold WOut at h
 unfold runW
 cases ha : actW act with
 | inl m => rw [ha] at h; exact h
 | inr e =>
  obtain ⟨k,q⟩ := e
  rw [ha] at h
  obtain ⟨d,x,h1,h2,h3⟩ := h
  exact ⟨a,d,x,h1,h2,h3⟩
theorem specVarR {n : Int} {s : ByteArray} (hw : WRun σ w r fp) (hz : leW r 10000000) (h : ∀ σ' fp',Kept σ fp σ' fp' → WRun σ' w (stepW r [⟨5,n,s⟩]) fp' → Q unit σ') : CallS E B 88 [.pointer (some ⟨w,0,none⟩),.int .i64 n] σ Q := by
 cases r with
 | inl b => exact specVar hw (hz b rfl) fun σ' fp' k o => h σ' fp' k (WOut.run (act := ⟨5,n,s⟩) o)
 | inr e => obtain ⟨k,q⟩ := e; obtain ⟨b,d,z,h1,h2,h3⟩ := hw; exact specVarE h3 (h σ fp (Kept.refl _ _) ⟨b,d,z,h1,h2,h3⟩)
theorem specU8R {n : Int} {s : ByteArray} (hw : WRun σ w r fp) (hz : leW r 10000000) (h : ∀ σ' fp',Kept σ fp σ' fp' → WRun σ' w (stepW r [⟨1,n,s⟩]) fp' → Q unit σ') : CallS E B 66 [.pointer (some ⟨w,0,none⟩),.int .i64 n] σ Q := by
 cases r with
 | inl b => exact specU8 hw (hz b rfl) fun σ' fp' k o => h σ' fp' k (WOut.run (act := ⟨1,n,s⟩) o)
 | inr e => obtain ⟨k,q⟩ := e; obtain ⟨b,d,z,h1,h2,h3⟩ := hw; exact specU8E h3 (h σ fp (Kept.refl _ _) ⟨b,d,z,h1,h2,h3⟩)
theorem specU16R {n : Int} {s : ByteArray} (hw : WRun σ w r fp) (hz : leW r 10000000) (h : ∀ σ' fp',Kept σ fp σ' fp' → WRun σ' w (stepW r [⟨2,n,s⟩]) fp' → Q unit σ') : CallS E B 43 [.pointer (some ⟨w,0,none⟩),.int .i64 n] σ Q := by
 cases r with
 | inl b => exact specU16 hw (hz b rfl) fun σ' fp' k o => h σ' fp' k (WOut.run (act := ⟨2,n,s⟩) o)
 | inr e => obtain ⟨k,q⟩ := e; obtain ⟨b,d,z,h1,h2,h3⟩ := hw; exact specU16E h3 (h σ fp (Kept.refl _ _) ⟨b,d,z,h1,h2,h3⟩)
theorem specU32R {n : Int} {s : ByteArray} (hw : WRun σ w r fp) (hz : leW r 10000000) (h : ∀ σ' fp',Kept σ fp σ' fp' → WRun σ' w (stepW r [⟨4,n,s⟩]) fp' → Q unit σ') : CallS E B 133 [.pointer (some ⟨w,0,none⟩),.int .i64 n] σ Q := by
 cases r with
 | inl b => exact specU32 hw (hz b rfl) fun σ' fp' k o => h σ' fp' k (WOut.run (act := ⟨4,n,s⟩) o)
 | inr e => obtain ⟨k,q⟩ := e; obtain ⟨b,d,z,h1,h2,h3⟩ := hw; exact specU32E h3 (h σ fp (Kept.refl _ _) ⟨b,d,z,h1,h2,h3⟩)
theorem specBinR {n : Int} {s : ByteArray} (hw : WRun σ w r fp) (hz : leW r 10000000) (hs : s.size ≤ 100000) (h : ∀ σ' fp',Kept σ fp σ' fp' → WRun σ' w (stepW r [⟨7,n,s⟩]) fp' → Q unit σ') : CallS E B 69 [.pointer (some ⟨w,0,none⟩),.string s] σ Q := by
 cases r with
 | inl b => exact specBin hw (hz b rfl) (by omega) fun σ' fp' k o => h σ' fp' k (WOut.run (act := ⟨7,n,s⟩) o)
 | inr e => obtain ⟨k,q⟩ := e; obtain ⟨b,d,z,h1,h2,h3⟩ := hw; exact specBinE h3 (h σ fp (Kept.refl _ _) ⟨b,d,z,h1,h2,h3⟩)
theorem specTextR {n : Int} {s : ByteArray} (hw : WRun σ w r fp) (hz : leW r 10000000) (hs : s.size ≤ 100000) (h : ∀ σ' fp',Kept σ fp σ' fp' → WRun σ' w (stepW r [⟨6,n,s⟩]) fp' → Q unit σ') : CallS E B 42 [.pointer (some ⟨w,0,none⟩),.string s] σ Q := by
 cases r with
 | inl b => exact specText hw (hz b rfl) hs fun σ' fp' k o => h σ' fp' k (WOut.run (act := ⟨6,n,s⟩) o)
 | inr e => obtain ⟨k,q⟩ := e; obtain ⟨b,d,z,h1,h2,h3⟩ := hw; exact specTextE h3 (h σ fp (Kept.refl _ _) ⟨b,d,z,h1,h2,h3⟩)
theorem specRawR {n : Int} {s : ByteArray} (hw : WRun σ w r fp) (hz : leW r 10000000) (hs : s.size ≤ 10000000) (h : ∀ σ' fp',Kept σ fp σ' fp' → WRun σ' w (stepW r [⟨8,n,s⟩]) fp' → Q unit σ') : CallS E B 44 [.pointer (some ⟨w,0,none⟩),.string s] σ Q := by
 cases r with
 | inl b => exact specRaw hw (by have := hz b rfl; omega) fun σ' fp' k o => h σ' fp' k (WOut.run (act := ⟨8,n,s⟩) o)
 | inr e => obtain ⟨k,q⟩ := e; obtain ⟨b,d,z,h1,h2,h3⟩ := hw; exact specRawE h3 (h σ fp (Kept.refl _ _) ⟨b,d,z,h1,h2,h3⟩)
theorem specBytesR (hw : WRun σ w r fp) (hok : ∀ b,r = .inl b → Q (.tuple #[.string b,.nilIface]) σ) (hbad : ∀ k q d z,r = .inr (k,q) → d ≤ 2 → ErN d (fv 129 (q : Int) z) k → Q (.tuple #[.string emp,fv 129 (q : Int) z]) σ) : CallS E B 45 [.pointer (some ⟨w,0,none⟩)] σ Q := by
 cases r with
 | inl b => exact specBytes hw (hok b rfl)
 | inr e => obtain ⟨k,q⟩ := e; obtain ⟨b,d,z,h1,h2,h3⟩ := hw; exact specBytesE h3 (hbad k q d z rfl h1 h2)
theorem typ_cases (id : Int) : typI id = 0 ∨ typI id = 1 ∨ typI id = 2 ∨ typI id = 4 ∨ typI id = 5 ∨ typI id = 6 ∨ typI id = 7 ∨ typI id = 9 := by
 unfold typI
 (repeat' split) <;> simp
theorem dpW : dp 60 = false := rfl
theorem WRun.kept {σ' : AHeap} {gp gp' : List Nat} (h : WRun σ w r fp) (k : Kept σ gp σ' gp') (hd : ∀ b ∈ fp,b ∉ gp) : WRun σ' w r fp := by
 cases r with
 | inl b => exact IsW.kept h k hd
 | inr e => obtain ⟨n,q⟩ := e; obtain ⟨b,d,z,h1,h2,h3⟩ := h; exact ⟨b,d,z,h1,h2,IsW.kept h3 k hd⟩
theorem specPWrite {p : Pr} {n : Nat} (hw : WRun σ w r fp) (hz : leW r n) (hn : n ≤ 900000) (h1 : p.s.size ≤ 10000) (h2 : p.v.size ≤ 10000) (h : ∀ σ' fp',Kept σ fp σ' fp' → WRun σ' w (stepW r (actsP p)) fp' → leW (stepW r (actsP p)) (n + p.s.size + p.v.size + 12) → Q unit σ') :
  CallS E B 87 [.pointer (some ⟨w,0,none⟩),.agg ⟨propC p⟩] σ Q := by
 have hz1 := leW_step (a := ⟨5,p.id,emp⟩) hz
 have he : emp.size = 0 := rfl
 simp only [he] at hz1
 have hstep : ∀ l,stepW (stepW r [⟨5,p.id,emp⟩]) l = stepW r (⟨5,p.id,emp⟩ :: l) := fun l => stepW_app
 simp only [propC]
 refine call87 (by simp) ?_
 simp only [strip,bodyOf,Tryz.f87,getD_body,keepN,bareOp_mk,List.map_cons,List.map_nil,↓reduceIte,Bool.false_eq_true]
 simp (disch := first | assumption | simp) only [↓sbD,sbU,tyB,↓reduceIte,Nat.reduceEqDiff,Nat.reduceLT,reduceCtorEq,boxS,Edp,dpv]
 refine specVarR (s := emp) hw (fun b hb => by have := hz b hb; omega) fun σ1 fp1 k1 w1 => ?_
 simp (disch := first | assumption | simp) only [↓sbD,sbU,tyB,↓reduceIte,Nat.reduceEqDiff,Nat.reduceLT,reduceCtorEq]
 refine specType ?_
 unfold actsP at h
 rcases typ_cases p.id with ht | ht | ht | ht | ht | ht | ht | ht
 ·rw [ht] at h
  simp only [Int.reduceEq,if_false,if_true] at h
  simp (disch := first | assumption | simp) only [↓sbD,sbU,Int.reduceEq,decide_false,↓reduceIte,Nat.reduceEqDiff,Nat.reduceLT,isConst,ht]
  exact downS_here (h _ _ k1 w1 fun b hb => by have := hz1 b hb; omega)
 ·rw [ht] at h
  simp only [Int.reduceEq,if_false] at h
  simp (disch := first | assumption | simp) only [↓sbD,sbU,tyB,↓reduceIte,Nat.reduceEqDiff,Nat.reduceLT,reduceCtorEq,isConst,ht]
  refine specU8R (s := p.s) w1 (fun b hb => by have := hz1 b hb; omega) fun σ2 fp2 k2 w2 => ?_
  simp (disch := first | assumption | simp) only [↓sbD,sbU]
  rw [hstep] at w2
  have hz2 := leW_step (a := ⟨1,p.n,p.s⟩) hz1
  rw [hstep] at hz2
  simp only at hz2
  exact downS_here (h _ _ (k1.trans k2) w2 fun b hb => by have := hz2 b hb; omega)
 ·rw [ht] at h
  simp only [Int.reduceEq,if_false] at h
  simp (disch := first | assumption | simp) only [↓sbD,sbU,tyB,Int.reduceEq,decide_false,↓reduceIte,Nat.reduceEqDiff,Nat.reduceLT,reduceCtorEq,isConst,ht]
  refine specU16R (s := p.s) w1 (fun b hb => by have := hz1 b hb; omega) fun σ2 fp2 k2 w2 => ?_
  simp (disch := first | assumption | simp) only [↓sbD,sbU]
  rw [hstep] at w2
  have hz2 := leW_step (a := ⟨2,p.n,p.s⟩) hz1
  rw [hstep] at hz2
  simp only at hz2
  exact downS_here (h _ _ (k1.trans k2) w2 fun b hb => by have := hz2 b hb; omega)
 ·rw [ht] at h
  simp only [Int.reduceEq,if_false] at h
  simp (disch := first | assumption | simp) only [↓sbD,sbU,tyB,Int.reduceEq,decide_false,↓reduceIte,Nat.reduceEqDiff,Nat.reduceLT,reduceCtorEq,isConst,ht]
  refine specU32R (s := p.s) w1 (fun b hb => by have := hz1 b hb; omega) fun σ2 fp2 k2 w2 => ?_
  simp (disch := first | assumption | simp) only [↓sbD,sbU]
  rw [hstep] at w2
  have hz2 := leW_step (a := ⟨4,p.n,p.s⟩) hz1
  rw [hstep] at hz2
  simp only at hz2
  exact downS_here (h _ _ (k1.trans k2) w2 fun b hb => by have := hz2 b hb; omega)
 ·rw [ht] at h
  simp only [Int.reduceEq,if_false] at h
  simp (disch := first | assumption | simp) only [↓sbD,sbU,tyB,Int.reduceEq,decide_false,↓reduceIte,Nat.reduceEqDiff,Nat.reduceLT,reduceCtorEq,isConst,ht]
  refine specVarR (s := p.s) w1 (fun b hb => by have := hz1 b hb; omega) fun σ2 fp2 k2 w2 => ?_
  simp (disch := first | assumption | simp) only [↓sbD,sbU]
  rw [hstep] at w2
  have hz2 := leW_step (a := ⟨5,p.n,p.s⟩) hz1
  rw [hstep] at hz2
  simp only at hz2
  exact downS_here (h _ _ (k1.trans k2) w2 fun b hb => by have := hz2 b hb; omega)
 ·rw [ht] at h
  simp only [Int.reduceEq,if_false] at h
  simp (disch := first | assumption | simp) only [↓sbD,sbU,tyB,Int.reduceEq,decide_false,↓reduceIte,Nat.reduceEqDiff,Nat.reduceLT,reduceCtorEq,isConst,ht]
  refine specTextR (n := p.n) w1 (fun b hb => by have := hz1 b hb; omega) (by omega) fun σ2 fp2 k2 w2 => ?_
  simp (disch := first | assumption | simp) only [↓sbD,sbU]
  rw [hstep] at w2
  have hz2 := leW_step (a := ⟨6,p.n,p.s⟩) hz1
  rw [hstep] at hz2
  simp only at hz2
  exact downS_here (h _ _ (k1.trans k2) w2 fun b hb => by have := hz2 b hb; omega)
 ·rw [ht] at h
  simp only [Int.reduceEq,if_false] at h
  simp (disch := first | assumption | simp) only [↓sbD,sbU,tyB,Int.reduceEq,decide_false,↓reduceIte,Nat.reduceEqDiff,Nat.reduceLT,reduceCtorEq,isConst,ht]
  refine specBinR (n := p.n) w1 (fun b hb => by have := hz1 b hb; omega) (by omega) fun σ2 fp2 k2 w2 => ?_
  simp (disch := first | assumption | simp) only [↓sbD,sbU]
  rw [hstep] at w2
  have hz2 := leW_step (a := ⟨7,p.n,p.s⟩) hz1
  rw [hstep] at hz2
  simp only at hz2
  exact downS_here (h _ _ (k1.trans k2) w2 fun b hb => by have := hz2 b hb; omega)
 ·rw [ht] at h
  simp only [Int.reduceEq,if_false,if_true] at h
  simp (disch := first | assumption | simp) only [↓sbD,sbU,tyB,Int.reduceEq,decide_false,↓reduceIte,Nat.reduceEqDiff,Nat.reduceLT,reduceCtorEq,isConst,ht]
  refine specTextR (n := 0) w1 (fun b hb => by have := hz1 b hb; omega) (by omega) fun σ2 fp2 k2 w2 => ?_
  rw [hstep] at w2
  have hz2 := leW_step (a := ⟨6,0,p.s⟩) hz1
  rw [hstep] at hz2
  simp only at hz2
  simp (disch := first | assumption | simp) only [↓sbD,sbU,tyB,↓reduceIte,Nat.reduceEqDiff,Nat.reduceLT,reduceCtorEq]
  refine specTextR (n := 0) w2 (fun b hb => by have := hz2 b hb; omega) (by omega) fun σ3 fp3 k3 w3 => ?_
  have hz3 := leW_step (a := ⟨6,0,p.v⟩) hz2
  rw [stepW_app] at w3 hz3
  simp only [List.cons_append,List.nil_append] at w3 hz3
  simp (disch := first | assumption | simp) only [↓sbD,sbU]
  exact downS_here (h _ _ (k1.trans (k2.trans k3)) w3 fun b hb => by have := hz3 b hb; omega)
def smallP (l : List Pr) : Prop := l.length ≤ 100 ∧ ∀ p ∈ l,p.s.size ≤ 3000 ∧ p.v.size ≤ 3000
theorem specPEncode {pl : Int} {v : Value} {l : List Pr} (hl : DL propC 4 v l) (hs : smallP l) (hok : ∀ c,encP pl l = .ok c → c.size ≤ 700000 → Q (.tuple #[.string c,.nilIface]) σ) (hbad : ∀ (k r a d : Nat) z,encP pl l = .error (k,r,a) → d ≤ 2 → ErN d (fv r a z) k → Q (.tuple #[.string emp,fv r a z]) σ) :
  CallS E B 41 [.int .i64 pl,v] σ Q := by
 have hlen := DLp.len hl
 obtain ⟨hs1,hs2⟩ := hs
 unfold encP at hok hbad
 refine call41 (by simp) ?_
 simp only [strip,bodyOf,Tryz.f41,getD_body,keepN,bareOp_mk,List.map_cons,List.map_nil,↓reduceIte,Bool.false_eq_true]
 simp (disch := first | assumption | simp) only [↓sbD,sbU,↓reduceIte,Nat.reduceEqDiff,Nat.reduceLT,reduceCtorEq]
 refine specPCheck hl (by omega) (fun hc => ?_) fun k r a hc hk => ?_
 rotate_left
 ·rw [hc] at hbad
  simp (disch := first | assumption | simp) only [↓sbD,sbU,tyB,↓reduceIte,Nat.reduceEqDiff,Nat.reduceLT,isConst]
  exact downS_here (hbad k r a 1 _ rfl (by omega) (ErN.new _ _ hk))
 rw [hc] at hok hbad
 simp (disch := first | assumption | simp) only [↓sbD,sbU,tyB,Bool.false_eq_true,↓reduceIte,Nat.reduceEqDiff,Nat.reduceLT,pairs,isConst,boxS,Edp,ZV.val,Bool.false_and,AS_new,dpW,hlen]
 intro w hw
 generalize hσ1 : AHeap.set σ w _ = σ1
 have gw : σ1.get w = .cells [.slice none 0 0,.nilIface] true 0 := by rw [← hσ1]; exact AHeap.get_set_same _ _ _
 have k1 : Kept σ [] σ1 [w] := by rw [← hσ1]; exact Kept.new' hw
 have hI : WRun σ1 w (runW emp []) [w] := ⟨_,[],gw,.inl ⟨rfl,rfl,rfl⟩,rfl,by simp⟩
 clear gw hσ1
 refine S_loop (fun m f σ' => ∃ (i : Nat) (fp : List Nat),m + i = l.length ∧ f 23 = .int .i64 i ∧ WRun σ' w (runW emp ((l.take i).flatMap actsP)) fp ∧ leW (runW emp ((l.take i).flatMap actsP)) (6012 * i) ∧ Kept σ [] σ' fp) l.length (Le.refl _) ⟨0,[w],rfl,by simp (disch := first | assumption | simp) only [sbU,↓reduceIte]; rfl,hI,fun b hb => by injection hb with hb; subst hb; show emp.size ≤ _; exact Nat.zero_le _,k1⟩ ?_
 clear hI k1
 rintro m f σ2 ⟨i,fp,hm,f23,hI,hz,hk⟩ hf
 have f0 := hf 0 (by decide) (notMem_wr (by kernel_rfl))
 have f1 := hf 1 (by decide) (notMem_wr (by kernel_rfl))
 have f7 := hf 7 (by decide) (notMem_wr (by kernel_rfl))
 have f21 := hf 21 (by decide) (notMem_wr (by kernel_rfl))
 have f22 := hf 22 (by decide) (notMem_wr (by kernel_rfl))
 simp (disch := first | assumption | simp) only [sbU,↓reduceIte,Nat.reduceEqDiff,reduceCtorEq] at f0 f1 f7 f21 f22
 clear hf
 by_cases hi : (i : Int) < (l.length : Int)
 ·have hi' : i < l.length := by omega
  have hia := DLp.at hl hi'
  have hsz := hs2 _ (List.getElem_mem hi')
  have hwi := wrap_suc (n := i) (by omega)
  have htk : l.take (i + 1) = l.take i ++ [l[i]] := List.take_succ_eq_append_getElem hi'
  generalize l[i] = y at hia hsz htk
  have hac : propC y = [.int .i64 y.id,.int .i64 y.n,.string y.s,.string y.v] := rfl
  have hst : runW emp ((l.take (i + 1)).flatMap actsP) = stepW (runW emp ((l.take i).flatMap actsP)) (actsP y) := by
   rw [htk,List.flatMap_append,runW_app]
   simp only [List.flatMap_cons,List.flatMap_nil,List.append_nil]
   cases runW emp ((l.take i).flatMap actsP) <;> rfl
  simp (disch := first | assumption | simp) only [↓sbD,sbU,tyB,Bool.or_self,↓reduceIte,Nat.reduceEqDiff,Nat.reduceLT,Nat.reduceAdd,Nat.reduceLeDiff,isConst,splice,f7,f21,f22,f23,hi,hia,hac,AS_new,zePr]
  intro b hb
  have kb : Kept σ2 [] _ [] := Kept.tmp (o := .cells [.int .i64 0,.int .i64 0,.string ⟨#[]⟩,.string ⟨#[]⟩] true 0) (o' := .cells [.int .i64 y.id,.int .i64 y.n,.string y.s,.string y.v] true 0) hb
  rw [propC_ag]
  refine specPWrite (p := y) (WRun.kept hI kb (fun _ _ h => by cases h)) hz (by omega) (by omega) (by omega) fun σ3 fp3 k3 w3 z3 => ?_
  simp (disch := first | assumption | simp) only [↓sbD,sbU,↓reduceIte,Nat.reduceEqDiff,Nat.reduceLT,isConst,f23,hwi]
  refine ⟨_,m - 1,σ3,rfl,by omega,Le.refl _,i + 1,fp3,by omega,?_,by rw [hst]; exact w3,?_,?_⟩
  ·simp (disch := first | assumption | simp) only [sbU,↓reduceIte]
  ·intro b hb; rw [hst] at hb; have := z3 b hb; omega
  ·exact hk.trans ((kb.wid (gp := fp) (gp' := fp) (fun _ h => by cases h) (fun _ h => .inr h)).trans k3)
 ·obtain rfl : i = l.length := by omega
  rw [List.take_length] at hI hz
  simp (disch := first | assumption | simp) only [↓sbD,sbU,decide_false,Bool.or_self,↓reduceIte,Nat.reduceEqDiff,Nat.reduceLT,isConst,f7,f22,f23,hi]
  refine specBytesR hI (fun b hb => ?_) fun k q d z hr hd he => ?_
  ·rw [hb] at hok hbad
   have hbz := hz b hb
   simp (disch := first | assumption | simp) only [↓sbD,sbU,tyB,Bool.false_eq_true,↓reduceIte,Nat.reduceEqDiff,Nat.reduceLT,goInt,pairs,isConst,boxS,Edp,ZV.val,Bool.false_and,AS_new,dpW]
   intro x hx
   generalize hσ3 : AHeap.set σ2 x _ = σ3
   have gx : σ3.get x = .cells [.slice none 0 0,.nilIface] true 0 := by rw [← hσ3]; exact AHeap.get_set_same _ _ _
   have k3 : Kept σ2 [] σ3 [x] := by rw [← hσ3]; exact Kept.new' hx
   have wx : WRun σ3 x (.inl emp) [x] := ⟨_,[],gx,.inl ⟨rfl,rfl,rfl⟩,rfl,by simp⟩
   refine specVarR (s := emp) wx (fun b hb => by injection hb with hb; subst hb; show emp.size ≤ _; exact Nat.zero_le _) fun σ4 fp4 k4 w4 => ?_
   have hv : stepW (.inl emp) [⟨5,(b.size : Int),emp⟩] = .inl (str (enc b.size)) := by
    simp only [stepW,runW,actW,varW]
    rw [if_neg (by decide),if_neg (by decide),if_neg (by decide),if_pos trivial,if_neg (by omega)]
    simp only [Int.toNat_natCast]
    rw [emp_app']
   rw [hv] at w4
   have es : (str (enc b.size)).size ≤ 4 := by rw [str_size,enc_len]; exact (vsize_pos _).2
   simp (disch := first | assumption | simp) only [↓sbD,sbU,↓reduceIte,Nat.reduceEqDiff,Nat.reduceLT]
   refine specRawR (n := 0) w4 (fun c hc => by injection hc with hc; subst hc; omega) (by omega) fun σ5 fp5 k5 w5 => ?_
   have hv2 : stepW (.inl (str (enc b.size))) [⟨8,0,b⟩] = .inl (str (enc b.size) ++ b) := by
    simp only [stepW,runW,actW]
    rw [if_neg (by decide),if_neg (by decide),if_neg (by decide),if_neg (by decide),if_neg (by decide),if_neg (by decide),if_pos trivial]
   rw [hv2] at w5
   simp (disch := first | assumption | simp) only [↓sbD,sbU,↓reduceIte,Nat.reduceEqDiff,Nat.reduceLT]
   refine specBytesR w5 (fun c hc => ?_) fun k q d z hr hd he => by cases hr
   injection hc with hc
   subst hc
   simp (disch := first | assumption | simp) only [↓sbD,sbU,↓reduceIte,Nat.reduceEqDiff,Nat.reduceLT]
   have kk : Kept σ [] σ5 [] := (hk.wid (gp := []) (gp' := []) (fun _ h => by cases h) (fun _ h => by cases h)).trans ((k3.trans (k4.trans k5)).wid (gp := []) (gp' := []) (fun _ h => by cases h) (fun _ h => by cases h))
   exact downS_le (Kept.le kk) (hok _ rfl (by rw [size_app]; omega))
  ·rw [hr] at hbad
   simp (disch := first | assumption | simp) only [↓sbD,sbU,tyB,↓reduceIte,Nat.reduceEqDiff,Nat.reduceLT,isConst]
   have kk : Kept σ [] σ2 [] := hk.wid (gp := []) (gp' := []) (fun _ h => by cases h) (fun _ h => by cases h)
   exact downS_le (Kept.le kk) (hbad k 129 q d z rfl hd he)
end
theorem Kept.setD {σ σ' : AHeap} {fp fp' : List Nat} {c : Nat} {o : AObj} (k : Kept σ fp σ' fp') (hc : σ.get c = .dead) : Kept σ fp (σ'.set c o) fp' :=
 ⟨fun b hb hn => by rw [AHeap.get_set_ne _ _ (by rintro rfl; exact hb hc)]; exact k.get b hb hn,k.new⟩
theorem Kept.fst {σ σ' : AHeap} {fp : List Nat} {r : Nat} (k : Kept σ [] σ' fp) : Kept σ [r] σ' [r] := ⟨fun b hb hn => k.get b hb (by simp),fun _ h => .inl h⟩
theorem numR_le {s : ByteArray} {p k n q : Nat} (h : numR s p k = .ok (n,q)) : p ≤ q ∧ q ≤ s.size := by
 have := numR_ok h; omega
theorem varR_le {s : ByteArray} {p n q : Nat} (hp : p ≤ s.size) (h : varR s p = .ok (n,q)) : p < q ∧ q ≤ s.size ∧ n < 268435456 := by
 unfold varR at h
 have h1 := takeF_k (s.extract p s.size) 4 0 0 (by omega)
 have h2 := takeF_pos (s.extract p s.size) 4 0 0
 cases ht : takeF (s.extract p s.size) 4 0 0 with
 | inl a =>
  obtain ⟨m,j⟩ := a
  rw [ht] at h h1 h2
  have h1 : j ≤ (s.extract p s.size).size := h1
  have h2 : 0 < j := h2
  have h3 := takeF_n ht
  rw [ByteArray.size_extract] at h1
  simp only [Except.ok.injEq,Prod.mk.injEq] at h
  omega
 | inr e => obtain ⟨k,q'⟩ := e; rw [ht] at h; cases h
theorem textR_ok {s v : ByteArray} {p q : Nat} (h : textR s p = .ok (v,q)) : p ≤ q ∧ q ≤ s.size := by
 unfold textR at h
 cases hb : binR s p with
 | error e => rw [hb] at h; cases h
 | ok a =>
  obtain ⟨b,q'⟩ := a
  rw [hb] at h
  have := binR_ok hb
  simp only at h
  split at h
  ·simp only [Except.ok.injEq,Prod.mk.injEq] at h; omega
  ·cases h
section
variable {σ : AHeap} {Q : Value → AHeap → Prop} {r : Nat} {s : ByteArray} {p : Nat}
theorem valueR_le {id : Int} {x : Pr} {q : Nat} (hp : p ≤ s.size) (h : valueR id s p = .ok (x,q)) : p ≤ q ∧ q ≤ s.size := by
 unfold valueR at h
 split at h
 ·cases h1 : textR s p with
  | error e => rw [h1] at h; cases h
  | ok a =>
   obtain ⟨a,q1⟩ := a
   rw [h1] at h
   simp only at h
   cases h2 : textR s q1 with
   | error e => rw [h2] at h; cases h
   | ok b =>
    obtain ⟨b,q2⟩ := b
    rw [h2] at h
    have := textR_ok h1
    have := textR_ok h2
    simp only [Except.ok.injEq,Prod.mk.injEq] at h
    omega
 ·have key : ∀ n a q,rdA (typI id) s p = .ok ((n,a),q) → p ≤ q ∧ q ≤ s.size := by
   intro n a q h
   unfold rdA at h
   have mN : ∀ r : Rd Nat,mapN r = .ok ((n,a),q) → ∃ m,r = .ok (m,q) := by
    intro r hr
    unfold mapN at hr
    split at hr
    ·rename_i m q'; simp only [Except.ok.injEq,Prod.mk.injEq] at hr; exact ⟨m,by rw [hr.2]⟩
    ·cases hr
   have mS : ∀ r : Rd ByteArray,mapS r = .ok ((n,a),q) → ∃ m,r = .ok (m,q) := by
    intro r hr
    unfold mapS at hr
    split at hr
    ·rename_i m q'; simp only [Except.ok.injEq,Prod.mk.injEq] at hr; exact ⟨m,by rw [hr.2]⟩
    ·cases hr
   split at h
   ·obtain ⟨m,h⟩ := mN _ h; exact numR_le h
   split at h
   ·obtain ⟨m,h⟩ := mN _ h; exact numR_le h
   split at h
   ·obtain ⟨m,h⟩ := mN _ h; exact numR_le h
   split at h
   ·obtain ⟨m,h⟩ := mN _ h; have := varR_le hp h; omega
   split at h
   ·obtain ⟨m,h⟩ := mS _ h; exact textR_ok h
   ·obtain ⟨m,h⟩ := mS _ h; have := binR_ok h; omega
  cases h1 : rdA (typI id) s p with
  | error e => rw [h1] at h; cases h
  | ok a =>
   obtain ⟨⟨n,a⟩,q1⟩ := a
   rw [h1] at h
   simp only [Except.ok.injEq,Prod.mk.injEq] at h
   have := key _ _ _ h1
   omega
theorem specPValue {id : Int} (ht0 : typI id ≠ 0) (hr : IsR σ r s p .nilIface) (hp : p ≤ s.size) (hs : s.size ≤ 100000000)
  (hok : ∀ x q,valueR id s p = .ok (x,q) → ∀ σ',Kept σ [r] σ' [r] → IsR σ' r s q .nilIface → Q (.agg ⟨propC x⟩) σ')
  (hbad : ∀ k q,valueR id s p = .error (k,q) → ∀ σ' p' y,Kept σ [r] σ' [r] → RBad σ' r s p' k q → Q (.agg ⟨propC y⟩) σ') :
  CallS E B 146 [.pointer (some ⟨r,0,none⟩),.int .i64 id] σ Q := by
 unfold valueR at hok hbad
 refine call146 (by simp) ?_
 simp only [strip,bodyOf,Tryz.f146,getD_body,keepN,bareOp_mk,List.map_cons,List.map_nil,↓reduceIte,Bool.false_eq_true]
 simp only [↓sbD,sbU,tyB,↓reduceIte,Nat.reduceEqDiff,Nat.reduceLT,Nat.reduceAdd,Nat.reduceLeDiff,pairs,splice,ZV.val,AS_new,zePr]
 intro c hc d hd
 have hcr : c ≠ r := by rintro rfl; rw [hr] at hc; cases hc
 have hdc : d ≠ c := by rintro rfl; rw [AHeap.get_set_same] at hd; cases hd
 have hd0 : σ.get d = .dead := by rw [AHeap.get_set_ne _ _ hdc.symm] at hd; exact hd
 have hdr : d ≠ r := by rintro rfl; rw [hr] at hd0; cases hd0
 generalize hσ1 : AHeap.set (AHeap.set (AHeap.set σ c _) d _) d _ = σ1
 have k1 : Kept σ [r] σ1 [r] := by rw [← hσ1]; exact (((Kept.refl σ [r]).setD hc).setD hd0).setD hd0
 have g1 : σ1.get d = .cells [.int .i64 id,.int .i64 0,.string ⟨#[]⟩,.string ⟨#[]⟩] true 0 := by rw [← hσ1]; exact AHeap.get_set_same _ _ _
 have gc1 : σ1.get c = .cells [.int .i64 0,.int .i64 0,.string ⟨#[]⟩,.string ⟨#[]⟩] true 0 := by rw [← hσ1,AHeap.get_set_ne _ _ hdc,AHeap.get_set_ne _ _ hdc]; exact AHeap.get_set_same _ _ _
 have i1 : IsR σ1 r s p .nilIface := by rw [← hσ1]; unfold IsR; rw [AHeap.get_set_ne _ _ hdr,AHeap.get_set_ne _ _ hdr,AHeap.get_set_ne _ _ hcr]; exact hr
 clear hσ1 hd
 have dc : ∀ (τ : AHeap) o,(AHeap.set τ d o).get c = τ.get c := fun τ o => AHeap.get_set_ne _ _ hdc
 have xr : ∀ (τ : AHeap) o o',(AHeap.set (AHeap.set τ d o) c o').get r = τ.get r := fun τ o o' => by rw [AHeap.get_set_ne _ _ hcr,AHeap.get_set_ne _ _ hdr]
 refine specType ?_
 rcases typ_cases id with ht | ht | ht | ht | ht | ht | ht | ht
 ·exact absurd ht ht0
 ·rw [ht,if_neg (by decide)] at hok hbad
  simp only [rdA,Int.reduceEq,if_true,if_false] at hok hbad
  simp only [↓sbD,sbU,↓reduceIte,Nat.reduceLT,reduceCtorEq,isConst,ht]
  refine specRU8 i1 hp (by omega) (fun n q hn σ2 k2 i2 => ?_) fun k q hn σ2 k2 i2 => ?_
  ·have g2 := (k2.at g1 (by simp) (by simpa using hdr)).1
   have gc2 := (k2.at gc1 (by simp) (by simpa using hcr)).1
   simp only [↓sbD,sbU,tyB,↓reduceIte,Nat.reduceEqDiff,Nat.reduceLT,Nat.reduceAdd,Nat.reduceLeDiff,reduceCtorEq,splice,g2,gc2,dc]
   have kk := (k1.trans k2).setD (o := .cells [.int .i64 id,.int .i64 (n : Int),.string ⟨#[]⟩,.string ⟨#[]⟩] true 0) hd0
   have kk2 := kk.setD (o := .cells [.int .i64 id,.int .i64 (n : Int),.string ⟨#[]⟩,.string ⟨#[]⟩] true 0) hc
   exact downS_here (hok ⟨id,n,emp,emp⟩ q (by rw [hn]; rfl) _ kk2 (by unfold IsR; rw [xr]; exact i2))
  ·obtain ⟨e,z,he1,he2,i3⟩ := i2
   have g2 := (k2.at g1 (by simp) (by simpa using hdr)).1
   have gc2 := (k2.at gc1 (by simp) (by simpa using hcr)).1
   simp only [↓sbD,sbU,tyB,↓reduceIte,Nat.reduceEqDiff,Nat.reduceLT,Nat.reduceAdd,Nat.reduceLeDiff,reduceCtorEq,splice,g2,gc2,dc]
   have kk := (k1.trans k2).setD (o := .cells [.int .i64 id,.int .i64 0,.string ⟨#[]⟩,.string ⟨#[]⟩] true 0) hd0
   have kk2 := kk.setD (o := .cells [.int .i64 id,.int .i64 0,.string ⟨#[]⟩,.string ⟨#[]⟩] true 0) hc
   exact downS_here (hbad k q (by rw [hn]; rfl) _ p ⟨id,0,emp,emp⟩ kk2 ⟨e,z,he1,he2,by unfold IsR; rw [xr]; exact i3⟩)
 ·rw [ht,if_neg (by decide)] at hok hbad
  simp only [rdA,Int.reduceEq,if_true,if_false] at hok hbad
  simp only [↓sbD,sbU,Int.reduceEq,decide_false,↓reduceIte,Nat.reduceEqDiff,Nat.reduceLT,reduceCtorEq,isConst,ht]
  refine specRU16 i1 hp (by omega) (fun n q hn σ2 k2 i2 => ?_) fun k q hn σ2 k2 i2 => ?_
  ·have g2 := (k2.at g1 (by simp) (by simpa using hdr)).1
   have gc2 := (k2.at gc1 (by simp) (by simpa using hcr)).1
   simp only [↓sbD,sbU,tyB,↓reduceIte,Nat.reduceEqDiff,Nat.reduceLT,Nat.reduceAdd,Nat.reduceLeDiff,reduceCtorEq,splice,g2,gc2,dc]
   have kk := (k1.trans k2).setD (o := .cells [.int .i64 id,.int .i64 (n : Int),.string ⟨#[]⟩,.string ⟨#[]⟩] true 0) hd0
   have kk2 := kk.setD (o := .cells [.int .i64 id,.int .i64 (n : Int),.string ⟨#[]⟩,.string ⟨#[]⟩] true 0) hc
   exact downS_here (hok ⟨id,n,emp,emp⟩ q (by rw [hn]; rfl) _ kk2 (by unfold IsR; rw [xr]; exact i2))
  ·obtain ⟨e,z,he1,he2,i3⟩ := i2
   have g2 := (k2.at g1 (by simp) (by simpa using hdr)).1
   have gc2 := (k2.at gc1 (by simp) (by simpa using hcr)).1
   simp only [↓sbD,sbU,tyB,↓reduceIte,Nat.reduceEqDiff,Nat.reduceLT,Nat.reduceAdd,Nat.reduceLeDiff,reduceCtorEq,splice,g2,gc2,dc]
   have kk := (k1.trans k2).setD (o := .cells [.int .i64 id,.int .i64 0,.string ⟨#[]⟩,.string ⟨#[]⟩] true 0) hd0
   have kk2 := kk.setD (o := .cells [.int .i64 id,.int .i64 0,.string ⟨#[]⟩,.string ⟨#[]⟩] true 0) hc
   exact downS_here (hbad k q (by rw [hn]; rfl) _ p ⟨id,0,emp,emp⟩ kk2 ⟨e,z,he1,he2,by unfold IsR; rw [xr]; exact i3⟩)
 ·rw [ht,if_neg (by decide)] at hok hbad
  simp only [rdA,Int.reduceEq,if_true,if_false] at hok hbad
  simp only [↓sbD,sbU,Int.reduceEq,decide_false,↓reduceIte,Nat.reduceEqDiff,Nat.reduceLT,reduceCtorEq,isConst,ht]
  refine specRU32 i1 hp (by omega) (fun n q hn σ2 k2 i2 => ?_) fun k q hn σ2 k2 i2 => ?_
  ·have g2 := (k2.at g1 (by simp) (by simpa using hdr)).1
   have gc2 := (k2.at gc1 (by simp) (by simpa using hcr)).1
   simp only [↓sbD,sbU,tyB,↓reduceIte,Nat.reduceEqDiff,Nat.reduceLT,Nat.reduceAdd,Nat.reduceLeDiff,reduceCtorEq,splice,g2,gc2,dc]
   have kk := (k1.trans k2).setD (o := .cells [.int .i64 id,.int .i64 (n : Int),.string ⟨#[]⟩,.string ⟨#[]⟩] true 0) hd0
   have kk2 := kk.setD (o := .cells [.int .i64 id,.int .i64 (n : Int),.string ⟨#[]⟩,.string ⟨#[]⟩] true 0) hc
   exact downS_here (hok ⟨id,n,emp,emp⟩ q (by rw [hn]; rfl) _ kk2 (by unfold IsR; rw [xr]; exact i2))
  ·obtain ⟨e,z,he1,he2,i3⟩ := i2
   have g2 := (k2.at g1 (by simp) (by simpa using hdr)).1
   have gc2 := (k2.at gc1 (by simp) (by simpa using hcr)).1
   simp only [↓sbD,sbU,tyB,↓reduceIte,Nat.reduceEqDiff,Nat.reduceLT,Nat.reduceAdd,Nat.reduceLeDiff,reduceCtorEq,splice,g2,gc2,dc]
   have kk := (k1.trans k2).setD (o := .cells [.int .i64 id,.int .i64 0,.string ⟨#[]⟩,.string ⟨#[]⟩] true 0) hd0
   have kk2 := kk.setD (o := .cells [.int .i64 id,.int .i64 0,.string ⟨#[]⟩,.string ⟨#[]⟩] true 0) hc
   exact downS_here (hbad k q (by rw [hn]; rfl) _ p ⟨id,0,emp,emp⟩ kk2 ⟨e,z,he1,he2,by unfold IsR; rw [xr]; exact i3⟩)
 ·rw [ht,if_neg (by decide)] at hok hbad
  simp only [rdA,Int.reduceEq,if_true,if_false] at hok hbad
  simp only [↓sbD,sbU,Int.reduceEq,decide_false,↓reduceIte,Nat.reduceEqDiff,Nat.reduceLT,reduceCtorEq,isConst,ht]
  refine specRVar i1 hp (by omega) (fun n q hn σ2 k2 i2 => ?_) fun k q hn σ2 k2 i2 => ?_
  ·have g2 := (k2.at g1 (by simp) (by simpa using hdr)).1
   have gc2 := (k2.at gc1 (by simp) (by simpa using hcr)).1
   simp only [↓sbD,sbU,tyB,↓reduceIte,Nat.reduceEqDiff,Nat.reduceLT,Nat.reduceAdd,Nat.reduceLeDiff,reduceCtorEq,splice,g2,gc2,dc]
   have kk := (k1.trans k2).setD (o := .cells [.int .i64 id,.int .i64 (n : Int),.string ⟨#[]⟩,.string ⟨#[]⟩] true 0) hd0
   have kk2 := kk.setD (o := .cells [.int .i64 id,.int .i64 (n : Int),.string ⟨#[]⟩,.string ⟨#[]⟩] true 0) hc
   exact downS_here (hok ⟨id,n,emp,emp⟩ q (by rw [hn]; rfl) _ kk2 (by unfold IsR; rw [xr]; exact i2))
  ·obtain ⟨e,z,he1,he2,i3⟩ := i2
   have g2 := (k2.at g1 (by simp) (by simpa using hdr)).1
   have gc2 := (k2.at gc1 (by simp) (by simpa using hcr)).1
   simp only [↓sbD,sbU,tyB,↓reduceIte,Nat.reduceEqDiff,Nat.reduceLT,Nat.reduceAdd,Nat.reduceLeDiff,reduceCtorEq,splice,g2,gc2,dc]
   have kk := (k1.trans k2).setD (o := .cells [.int .i64 id,.int .i64 0,.string ⟨#[]⟩,.string ⟨#[]⟩] true 0) hd0
   have kk2 := kk.setD (o := .cells [.int .i64 id,.int .i64 0,.string ⟨#[]⟩,.string ⟨#[]⟩] true 0) hc
   exact downS_here (hbad k q (by rw [hn]; rfl) _ p ⟨id,0,emp,emp⟩ kk2 ⟨e,z,he1,he2,by unfold IsR; rw [xr]; exact i3⟩)
 ·rw [ht,if_neg (by decide)] at hok hbad
  simp only [rdA,Int.reduceEq,if_true,if_false] at hok hbad
  simp only [↓sbD,sbU,Int.reduceEq,decide_false,↓reduceIte,Nat.reduceEqDiff,Nat.reduceLT,reduceCtorEq,isConst,ht]
  refine specDText i1 hp (by omega) (fun n q hn σ2 k2 i2 => ?_) fun k q hn σ2 k2 i2 => ?_
  ·have g2 := (k2.at g1 (by simp) (by simpa using hdr)).1
   have gc2 := (k2.at gc1 (by simp) (by simpa using hcr)).1
   simp only [↓sbD,sbU,tyB,↓reduceIte,Nat.reduceEqDiff,Nat.reduceLT,Nat.reduceAdd,Nat.reduceLeDiff,reduceCtorEq,splice,g2,gc2,dc]
   have kk := (k1.trans k2).setD (o := .cells [.int .i64 id,.int .i64 0,.string n,.string ⟨#[]⟩] true 0) hd0
   have kk2 := kk.setD (o := .cells [.int .i64 id,.int .i64 0,.string n,.string ⟨#[]⟩] true 0) hc
   exact downS_here (hok ⟨id,0,n,emp⟩ q (by rw [hn]; rfl) _ kk2 (by unfold IsR; rw [xr]; exact i2))
  ·obtain ⟨e,z,he1,he2,i3⟩ := i2
   have g2 := (k2.at g1 (by simp) (by simpa using hdr)).1
   have gc2 := (k2.at gc1 (by simp) (by simpa using hcr)).1
   simp only [↓sbD,sbU,tyB,↓reduceIte,Nat.reduceEqDiff,Nat.reduceLT,Nat.reduceAdd,Nat.reduceLeDiff,reduceCtorEq,splice,g2,gc2,dc]
   have kk := (k1.trans k2).setD (o := .cells [.int .i64 id,.int .i64 0,.string ⟨#[]⟩,.string ⟨#[]⟩] true 0) hd0
   have kk2 := kk.setD (o := .cells [.int .i64 id,.int .i64 0,.string ⟨#[]⟩,.string ⟨#[]⟩] true 0) hc
   exact downS_here (hbad k q (by rw [hn]; rfl) _ p ⟨id,0,emp,emp⟩ kk2 ⟨e,z,he1,he2,by unfold IsR; rw [xr]; exact i3⟩)
 ·rw [ht,if_neg (by decide)] at hok hbad
  simp only [rdA,Int.reduceEq,if_false] at hok hbad
  simp only [↓sbD,sbU,Int.reduceEq,decide_false,↓reduceIte,Nat.reduceEqDiff,Nat.reduceLT,reduceCtorEq,isConst,ht]
  refine specRBin i1 hp (by omega) (fun n q hn σ2 k2 i2 => ?_) fun k q hn σ2 k2 i2 => ?_
  ·have g2 := (k2.at g1 (by simp) (by simpa using hdr)).1
   have gc2 := (k2.at gc1 (by simp) (by simpa using hcr)).1
   simp only [↓sbD,sbU,tyB,↓reduceIte,Nat.reduceEqDiff,Nat.reduceLT,Nat.reduceAdd,Nat.reduceLeDiff,reduceCtorEq,splice,g2,gc2,dc]
   have kk := (k1.trans k2).setD (o := .cells [.int .i64 id,.int .i64 0,.string n,.string ⟨#[]⟩] true 0) hd0
   have kk2 := kk.setD (o := .cells [.int .i64 id,.int .i64 0,.string n,.string ⟨#[]⟩] true 0) hc
   exact downS_here (hok ⟨id,0,n,emp⟩ q (by rw [hn]; rfl) _ kk2 (by unfold IsR; rw [xr]; exact i2))
  ·obtain ⟨e,z,he1,he2,i3⟩ := i2
   have g2 := (k2.at g1 (by simp) (by simpa using hdr)).1
   have gc2 := (k2.at gc1 (by simp) (by simpa using hcr)).1
   simp only [↓sbD,sbU,tyB,↓reduceIte,Nat.reduceEqDiff,Nat.reduceLT,Nat.reduceAdd,Nat.reduceLeDiff,reduceCtorEq,splice,g2,gc2,dc]
   have kk := (k1.trans k2).setD (o := .cells [.int .i64 id,.int .i64 0,.string ⟨#[]⟩,.string ⟨#[]⟩] true 0) hd0
   have kk2 := kk.setD (o := .cells [.int .i64 id,.int .i64 0,.string ⟨#[]⟩,.string ⟨#[]⟩] true 0) hc
   exact downS_here (hbad k q (by rw [hn]; rfl) _ p ⟨id,0,emp,emp⟩ kk2 ⟨e,z,he1,he2,by unfold IsR; rw [xr]; exact i3⟩)
 ·rw [ht,if_pos rfl] at hok hbad
  simp only [↓sbD,sbU,Int.reduceEq,decide_false,↓reduceIte,Nat.reduceEqDiff,Nat.reduceLT,reduceCtorEq,isConst,ht]
  refine specDText i1 hp (by omega) (fun a q ha σ2 k2 i2 => ?_) fun k q ha σ2 k2 i2 => ?_
  ·have hq := textR_ok ha
   have g2 := (k2.at g1 (by simp) (by simpa using hdr)).1
   have gc2 := (k2.at gc1 (by simp) (by simpa using hcr)).1
   simp only [↓sbD,sbU,tyB,↓reduceIte,Nat.reduceEqDiff,Nat.reduceLT,Nat.reduceAdd,Nat.reduceLeDiff,reduceCtorEq,splice,g2]
   generalize hσ3 : AHeap.set σ2 d _ = σ3
   have g3 : σ3.get d = .cells [.int .i64 id,.int .i64 0,.string a,.string ⟨#[]⟩] true 0 := by rw [← hσ3]; exact AHeap.get_set_same _ _ _
   have gc3 : σ3.get c = .cells [.int .i64 0,.int .i64 0,.string ⟨#[]⟩,.string ⟨#[]⟩] true 0 := by rw [← hσ3,dc]; exact gc2
   have k3 : Kept σ [r] σ3 [r] := by rw [← hσ3]; exact (k1.trans k2).setD hd0
   have i3 : IsR σ3 r s q .nilIface := by rw [← hσ3]; unfold IsR; rw [AHeap.get_set_ne _ _ hdr]; exact i2
   refine specDText i3 hq.2 (by omega) (fun b q2 hb σ4 k4 i4 => ?_) fun k q2 hb σ4 k4 i4 => ?_
   ·have g4 := (k4.at g3 (by simp) (by simpa using hdr)).1
    have gc4 := (k4.at gc3 (by simp) (by simpa using hcr)).1
    simp only [↓sbD,sbU,tyB,↓reduceIte,Nat.reduceEqDiff,Nat.reduceLT,Nat.reduceAdd,Nat.reduceLeDiff,reduceCtorEq,splice,g4,gc4,dc]
    have kk := (k3.trans k4).setD (o := .cells [.int .i64 id,.int .i64 0,.string a,.string b] true 0) hd0
    have kk2 := kk.setD (o := .cells [.int .i64 id,.int .i64 0,.string a,.string b] true 0) hc
    exact downS_here (hok ⟨id,0,a,b⟩ q2 (by rw [ha]; simp only [hb]) _ kk2 (by unfold IsR; rw [xr]; exact i4))
   ·obtain ⟨e,z,he1,he2,i5⟩ := i4
    have g4 := (k4.at g3 (by simp) (by simpa using hdr)).1
    have gc4 := (k4.at gc3 (by simp) (by simpa using hcr)).1
    simp only [↓sbD,sbU,tyB,↓reduceIte,Nat.reduceEqDiff,Nat.reduceLT,Nat.reduceAdd,Nat.reduceLeDiff,reduceCtorEq,splice,g4,gc4,dc]
    have kk := (k3.trans k4).setD (o := .cells [.int .i64 id,.int .i64 0,.string a,.string ⟨#[]⟩] true 0) hd0
    have kk2 := kk.setD (o := .cells [.int .i64 id,.int .i64 0,.string a,.string ⟨#[]⟩] true 0) hc
    exact downS_here (hbad k q2 (by rw [ha]; simp only [hb]) _ q ⟨id,0,a,emp⟩ kk2 ⟨e,z,he1,he2,by unfold IsR; rw [xr]; exact i5⟩)
  ·obtain ⟨e,z,he1,he2,i3⟩ := i2
   have g2 := (k2.at g1 (by simp) (by simpa using hdr)).1
   have gc2 := (k2.at gc1 (by simp) (by simpa using hcr)).1
   simp only [↓sbD,sbU,tyB,↓reduceIte,Nat.reduceEqDiff,Nat.reduceLT,Nat.reduceAdd,Nat.reduceLeDiff,reduceCtorEq,splice,g2]
   generalize hσ3 : AHeap.set σ2 d _ = σ3
   have g3 : σ3.get d = .cells [.int .i64 id,.int .i64 0,.string ⟨#[]⟩,.string ⟨#[]⟩] true 0 := by rw [← hσ3]; exact AHeap.get_set_same _ _ _
   have gc3 : σ3.get c = .cells [.int .i64 0,.int .i64 0,.string ⟨#[]⟩,.string ⟨#[]⟩] true 0 := by rw [← hσ3,dc]; exact gc2
   have k3 : Kept σ [r] σ3 [r] := by rw [← hσ3]; exact (k1.trans k2).setD hd0
   have i4 : IsR σ3 r s p (fv 129 (q : Int) z) := by rw [← hσ3]; unfold IsR; rw [AHeap.get_set_ne _ _ hdr]; exact i3
   refine specDTextE i4 fun σ4 k4 i5 => ?_
   have g4 := (k4.at g3 (by simp) (by simpa using hdr)).1
   have gc4 := (k4.at gc3 (by simp) (by simpa using hcr)).1
   simp only [↓sbD,sbU,tyB,↓reduceIte,Nat.reduceEqDiff,Nat.reduceLT,Nat.reduceAdd,Nat.reduceLeDiff,reduceCtorEq,splice,g4,gc4,dc]
   have kk := (k3.trans k4).setD (o := .cells [.int .i64 id,.int .i64 0,.string ⟨#[]⟩,.string emp] true 0) hd0
   have kk2 := kk.setD (o := .cells [.int .i64 id,.int .i64 0,.string ⟨#[]⟩,.string emp] true 0) hc
   exact downS_here (hbad k q (by rw [ha]) _ p ⟨id,0,emp,emp⟩ kk2 ⟨e,z,he1,he2,by unfold IsR; rw [xr]; exact i5⟩)
theorem rawR_er {n : Int} {k q : Nat} (hp : p ≤ s.size) (h : rawR s p n = .error (k,q)) : q ≤ s.size := by
 unfold rawR at h
 split at h
 ·simp only [Except.error.injEq,Prod.mk.injEq] at h; omega
 split at h
 ·simp only [Except.error.injEq,Prod.mk.injEq] at h; omega
 ·cases h
theorem rawR_ok' {n : Int} {v : ByteArray} {q : Nat} (hn : 0 ≤ n) (h : rawR s p n = .ok (v,q)) : q = p + n.toNat ∧ q ≤ s.size ∧ v.size = n.toNat := by
 unfold rawR at h
 split at h
 ·cases h
 split at h
 ·cases h
 ·simp only [Except.ok.injEq,Prod.mk.injEq] at h
  obtain ⟨h1,h2⟩ := h
  subst h1
  rw [ByteArray.size_extract]
  omega
theorem numR_er {m k q : Nat} (hp : p ≤ s.size) (h : numR s p m = .error (k,q)) : q ≤ s.size := by
 unfold numR at h
 cases hb : rawR s p (m : Int) with
 | ok a => rw [hb] at h; cases h
 | error e => obtain ⟨j,q'⟩ := e; rw [hb] at h; simp only [Except.error.injEq,Prod.mk.injEq] at h; have := rawR_er hp hb; omega
theorem varR_er {k q : Nat} (hp : p ≤ s.size) (h : varR s p = .error (k,q)) : q ≤ s.size + 3 := by
 unfold varR at h
 have h1 := takeF_k (s.extract p s.size) 4 0 0 (by omega)
 cases ht : takeF (s.extract p s.size) 4 0 0 with
 | inl a => obtain ⟨m,j⟩ := a; rw [ht] at h; cases h
 | inr e =>
  obtain ⟨j,q'⟩ := e
  rw [ht] at h h1
  have h1 : q' ≤ (s.extract p s.size).size + 3 := h1
  rw [ByteArray.size_extract] at h1
  simp only [Except.error.injEq,Prod.mk.injEq] at h
  omega
theorem binR_er {k q : Nat} (hp : p ≤ s.size) (h : binR s p = .error (k,q)) : q ≤ s.size := by
 unfold binR at h
 cases hb : numR s p 2 with
 | ok a => obtain ⟨n,q'⟩ := a; rw [hb] at h; exact rawR_er (numR_le hb).2 h
 | error e => obtain ⟨j,q'⟩ := e; rw [hb] at h; simp only [Except.error.injEq,Prod.mk.injEq] at h; have := numR_er hp hb; omega
theorem textR_er {k q : Nat} (hp : p ≤ s.size) (h : textR s p = .error (k,q)) : q ≤ s.size + 65537 := by
 unfold textR at h
 cases hb : binR s p with
 | error e => obtain ⟨j,q'⟩ := e; rw [hb] at h; simp only [Except.error.injEq,Prod.mk.injEq] at h; have := binR_er hp hb; omega
 | ok a =>
  obtain ⟨b,q'⟩ := a
  rw [hb] at h
  have h1 := binR_ok hb
  simp only at h
  cases ht : textF b with
  | inl m => rw [ht] at h; cases h
  | inr e =>
   obtain ⟨j,i⟩ := e
   have h2 := textF_p ht
   rw [ht] at h
   simp only [Except.error.injEq,Prod.mk.injEq] at h
   omega
theorem valueR_er {id : Int} {k q : Nat} (hp : p ≤ s.size) (h : valueR id s p = .error (k,q)) : q ≤ s.size + 65537 := by
 unfold valueR at h
 split at h
 ·cases h1 : textR s p with
  | error e => obtain ⟨j,q'⟩ := e; rw [h1] at h; simp only [Except.error.injEq,Prod.mk.injEq] at h; have := textR_er hp h1; omega
  | ok a =>
   obtain ⟨a,q1⟩ := a
   rw [h1] at h
   simp only at h
   cases h2 : textR s q1 with
   | error e => obtain ⟨j,q'⟩ := e; rw [h2] at h; simp only [Except.error.injEq,Prod.mk.injEq] at h; have := textR_er (textR_ok h1).2 h2; omega
   | ok b => obtain ⟨b,q2⟩ := b; rw [h2] at h; cases h
 ·have key : ∀ k q,rdA (typI id) s p = .error (k,q) → q ≤ s.size + 65537 := by
   intro k q h
   unfold rdA at h
   have mN : ∀ r : Rd Nat,mapN r = .error (k,q) → r = .error (k,q) := by
    intro r hr
    unfold mapN at hr
    split at hr
    ·cases hr
    ·simp only [Except.error.injEq] at hr ⊢; exact hr
   have mS : ∀ r : Rd ByteArray,mapS r = .error (k,q) → r = .error (k,q) := by
    intro r hr
    unfold mapS at hr
    split at hr
    ·cases hr
    ·simp only [Except.error.injEq] at hr ⊢; exact hr
   split at h
   ·have := numR_er hp (mN _ h); omega
   split at h
   ·have := numR_er hp (mN _ h); omega
   split at h
   ·have := numR_er hp (mN _ h); omega
   split at h
   ·have := varR_er hp (mN _ h); omega
   split at h
   ·exact textR_er hp (mS _ h)
   ·have := binR_er hp (mS _ h); omega
  cases h1 : rdA (typI id) s p with
  | error e => obtain ⟨j,q'⟩ := e; rw [h1] at h; simp only [Except.error.injEq,Prod.mk.injEq] at h; have := key _ _ h1; omega
  | ok a => obtain ⟨⟨n,a⟩,q1⟩ := a; rw [h1] at h; cases h
end
section
variable {σ : AHeap} {Q : Value → AHeap → Prop} {r : Nat} {s : ByteArray} {p : Nat}
theorem groundP_typ {pl id : Int} {l : List Pr} (h : groundP pl l id = none) : typI id ≠ 0 ∧ l.length < 64 := by
 unfold groundP at h
 split at h
 ·cases h
 split at h
 ·cases h
 ·rename_i h1 h2
  exact ⟨fun h3 => h2 (.inl h3),by omega⟩
theorem oneR_ok {pl : Int} {ahead : List Pr} {x : Pr} {q : Nat} (hp : p ≤ s.size) (h : oneR pl s p ahead = .ok (x,q)) : p < q ∧ q ≤ s.size ∧ ahead.length < 64 ∧ badP pl ahead x = none := by
 unfold oneR at h
 cases hv : varR s p with
 | error e => obtain ⟨k,q'⟩ := e; rw [hv] at h; cases h
 | ok a =>
  obtain ⟨id,q1⟩ := a
  rw [hv] at h
  have h1 := varR_le hp hv
  simp only at h
  cases hg : groundP pl ahead id with
  | some e => obtain ⟨k,rr⟩ := e; rw [hg] at h; cases h
  | none =>
   have h2 := groundP_typ hg
   rw [hg] at h
   simp only at h
   cases hw : valueR id s q1 with
   | error e => obtain ⟨k,q'⟩ := e; rw [hw] at h; cases h
   | ok b =>
    obtain ⟨y,q2⟩ := b
    have h3 := valueR_le h1.2.1 hw
    rw [hw] at h
    simp only at h
    cases hn : numOk y with
    | false => rw [hn] at h; simp at h
    | true =>
     rw [hn] at h
     simp only [if_true,Except.ok.injEq,Prod.mk.injEq] at h
     obtain ⟨rfl,rfl⟩ := h
     have hid : y.id = id := by
      unfold valueR at hw
      split at hw
      ·cases ht : textR s q1 with
       | error e => rw [ht] at hw; cases hw
       | ok a =>
        obtain ⟨a,q3⟩ := a
        rw [ht] at hw
        simp only at hw
        cases ht2 : textR s q3 with
        | error e => rw [ht2] at hw; cases hw
        | ok a => obtain ⟨b,q4⟩ := a; rw [ht2] at hw; simp only [Except.ok.injEq,Prod.mk.injEq] at hw; rw [← hw.1]
      ·cases ht : rdA (typI id) s q1 with
       | error e => rw [ht] at hw; cases hw
       | ok a => obtain ⟨⟨n,a⟩,q3⟩ := a; rw [ht] at hw; simp only [Except.ok.injEq,Prod.mk.injEq] at hw; rw [← hw.1]
     exact ⟨by omega,by omega,h2.2,by unfold badP; rw [hid,hg]; simp [hn]⟩
theorem specOne {pl : Int} {v : Value} {l : List Pr} (hl : DL propC 4 v l) (hll : l.length ≤ 100000) (hr : IsR σ r s p .nilIface) (hp : p ≤ s.size) (hs : s.size ≤ 100000000)
  (hok : ∀ x q,oneR pl s p l = .ok (x,q) → ∀ σ',Kept σ [r] σ' [r] → IsR σ' r s q .nilIface → Q (.tuple #[.agg ⟨propC x⟩,.nilIface]) σ')
  (hbad : ∀ k rr a : Nat,oneR pl s p l = .error (k,rr,a) → ∀ σ' d z y,Kept σ [r] σ' [r] → d ≤ 2 → ErN d (fv rr a z) k → a ≤ s.size + 65537 → Q (.tuple #[.agg ⟨propC y⟩,fv rr a z]) σ') :
  CallS E B 115 [.pointer (some ⟨r,0,none⟩),.int .i64 pl,v] σ Q := by
 unfold oneR at hok hbad
 refine call115 (by simp) ?_
 simp only [strip,bodyOf,Tryz.f115,getD_body,keepN,bareOp_mk,lessOp_mk,List.map_cons,List.map_nil,↓reduceIte,Nat.reduceEqDiff,Bool.false_eq_true]
 simp only [↓sbD,sbU,↓reduceIte,Nat.reduceLT,reduceCtorEq,AS_new,zePr]
 intro c hc
 have hcr : c ≠ r := by rintro rfl; rw [hr] at hc; cases hc
 generalize hσ1 : AHeap.set σ c _ = σ1
 have k1 : Kept σ [r] σ1 [r] := by rw [← hσ1]; exact (Kept.refl σ [r]).setD hc
 have gc1 : σ1.get c = .cells [.int .i64 0,.int .i64 0,.string ⟨#[]⟩,.string ⟨#[]⟩] true 0 := by rw [← hσ1]; exact AHeap.get_set_same _ _ _
 have i1 : IsR σ1 r s p .nilIface := by rw [← hσ1]; unfold IsR; rw [AHeap.get_set_ne _ _ hcr]; exact hr
 clear hσ1
 refine specRAt i1 ?_
 simp only [↓sbD,sbU,↓reduceIte,Nat.reduceLT,reduceCtorEq]
 refine specRVar i1 hp hs (fun n q hn σ2 k2 i2 => ?_) fun k q hn σ2 k2 i2 => ?_
 rotate_left
 ·obtain ⟨d,z,hd,he,i3⟩ := i2
  rw [hn] at hbad
  have gc2 := (k2.at gc1 (by simp) (by simpa using hcr)).1
  have hq := varR_er hp hn
  simp only [↓sbD,sbU,↓reduceIte,Nat.reduceLT,reduceCtorEq]
  refine specRErr i3 ?_
  simp only [↓sbD,sbU,tyB,↓reduceIte,Nat.reduceEqDiff,Nat.reduceLT,Nat.reduceAdd,Nat.reduceLeDiff,pairs,isConst,splice,ZV.val,gc2,res_cellc,resC_some]
  exact downS_here (hbad k 129 q rfl _ d z ⟨0,0,emp,emp⟩ ((k1.trans k2).setD hc) hd he (by omega))
 ·have hv := varR_le hp hn
  rw [hn] at hok hbad
  simp only at hok hbad
  have gc2 := (k2.at gc1 (by simp) (by simpa using hcr)).1
  simp only [↓sbD,sbU,↓reduceIte,Nat.reduceLT,reduceCtorEq]
  refine specRErr i2 ?_
  simp only [↓sbD,sbU,tyB,↓reduceIte,Nat.reduceEqDiff,Nat.reduceLT,isConst]
  refine specGround hl hll (fun hg => ?_) fun k rr hg hk => ?_
  rotate_left
  ·rw [hg] at hbad
   simp only [↓sbD,sbU,tyB,↓reduceIte,Nat.reduceEqDiff,Nat.reduceLT,Nat.reduceAdd,Nat.reduceLeDiff,pairs,isConst,splice,ZV.val,gc2,res_cellc,resC_some]
   exact downS_here (hbad k rr p rfl _ 1 _ ⟨0,0,emp,emp⟩ ((k1.trans k2).setD hc) (by omega) (ErN.new _ _ hk) (by omega))
  ·rw [hg] at hok hbad
   simp only at hok hbad
   have ht0 := (groundP_typ hg).1
   simp only [↓sbD,sbU,tyB,↓reduceIte,Nat.reduceEqDiff,Nat.reduceLT,reduceCtorEq,isConst]
   refine specPValue ht0 i2 hv.2.1 hs (fun x q2 hx σ3 k3 i3 => ?_) fun k q2 hx σ3 p' y k3 i3 => ?_
   rotate_left
   ·obtain ⟨d,z,hd,he,i4⟩ := i3
    rw [hx] at hbad
    have gc3 := (k3.at gc2 (by simp) (by simpa using hcr)).1
    have hq := valueR_er hv.2.1 hx
    have hac : propC y = [.int .i64 y.id,.int .i64 y.n,.string y.s,.string y.v] := rfl
    simp only [↓sbD,sbU,tyB,↓reduceIte,Nat.reduceEqDiff,Nat.reduceLT,Nat.reduceAdd,Nat.reduceLeDiff,reduceCtorEq,splice,AS_new,zePr,hac]
    intro b hb
    have hb0 : b ≠ c := by rintro rfl; rw [gc3] at hb; cases hb
    have hbr : b ≠ r := by rintro rfl; rw [i4] at hb; cases hb
    have bc : ∀ (τ : AHeap) o,(AHeap.set τ b o).get c = τ.get c := fun τ o => AHeap.get_set_ne _ _ hb0
    have i5 : ∀ o o',IsR (AHeap.set (AHeap.set σ3 b o) b o') r s p' (fv 129 (q2 : Int) z) := fun o o' => by unfold IsR; rw [AHeap.get_set_ne _ _ hbr,AHeap.get_set_ne _ _ hbr]; exact i4
    refine specRErr (i5 _ _) ?_
    simp only [↓sbD,sbU,tyB,↓reduceIte,Nat.reduceEqDiff,Nat.reduceLT,Nat.reduceAdd,Nat.reduceLeDiff,pairs,isConst,splice,ZV.val,gc3,bc,res_cellc,resC_some]
    have hb1 : ∀ o,(AHeap.set σ3 c o).get b = .dead := fun o => by rw [AHeap.get_set_ne _ _ hb0.symm]; exact hb
    refine downS_le ?_ (hbad k 129 q2 rfl (σ3.set c (.cells [.int .i64 0,.int .i64 0,.string ⟨#[]⟩,.string ⟨#[]⟩] true 0)) d z ⟨0,0,emp,emp⟩ (((k1.trans k2).trans k3).setD hc) hd he hq)
    exact Le.set (Le.new' (Le.new hb) hb)
   ·rw [hx] at hok hbad
    simp only at hok hbad
    have gc3 := (k3.at gc2 (by simp) (by simpa using hcr)).1
    have hac : propC x = [.int .i64 x.id,.int .i64 x.n,.string x.s,.string x.v] := rfl
    simp only [↓sbD,sbU,tyB,↓reduceIte,Nat.reduceEqDiff,Nat.reduceLT,Nat.reduceAdd,Nat.reduceLeDiff,reduceCtorEq,splice,AS_new,zePr,hac]
    intro b hb
    have hb0 : b ≠ c := by rintro rfl; rw [gc3] at hb; cases hb
    have hbr : b ≠ r := by rintro rfl; rw [i3] at hb; cases hb
    have bc : ∀ (τ : AHeap) o,(AHeap.set τ b o).get c = τ.get c := fun τ o => AHeap.get_set_ne _ _ hb0
    have cb : ∀ (τ : AHeap) o,(AHeap.set τ c o).get b = τ.get b := fun τ o => AHeap.get_set_ne _ _ hb0.symm
    have i5 : ∀ o o',IsR (AHeap.set (AHeap.set σ3 b o) b o') r s q2 .nilIface := fun o o' => by unfold IsR; rw [AHeap.get_set_ne _ _ hbr,AHeap.get_set_ne _ _ hbr]; exact i3
    refine specRErr (i5 _ _) ?_
    simp only [↓sbD,sbU,tyB,↓reduceIte,Nat.reduceEqDiff,Nat.reduceLT,Nat.reduceAdd,Nat.reduceLeDiff,isConst]
    rw [propC_ag]
    have hcb : Nat.beq c b = false := beq_ne hb0.symm
    refine specBadP (fun hn => ?_) fun hn => ?_
    ·rw [hn] at hok
     simp only [↓sbD,sbU,tyB,↓reduceIte,Nat.reduceEqDiff,Nat.reduceLT,Nat.reduceAdd,Nat.reduceLeDiff,splice,gc3,bc,hac]
     refine drawS_l (fl := [(0,3)]) (by kernel_rfl) ?_ ?_
     rotate_left; simp only [lastP_cc,lastP_one]; rotate_left
     ·simp only [List.all_cons,List.all_nil,floatS,List.getElem?_cons_succ,List.getElem?_cons_zero,List.getElem?_toArray,Region.wanted,Bool.not_true,Bool.not_false,Bool.or_true,reads,looksWeak,aev_tmp,upd_at,↓reduceIte,Nat.reduceEqDiff,Nat.reduceLT,Nat.reduceAdd,blkOf,oeq_refl,dead_cells,Bool.and_true,Bool.and_self,Bool.false_eq_true,Bool.not_false,AHeap.get_set_same]
     simp only [↓sbD,sbU,tyB,↓reduceIte,Nat.reduceEqDiff,Nat.reduceLT,Nat.reduceAdd,Nat.reduceLeDiff,res_cellc,resC_some]
     have hcr2 : ∀ (τ : AHeap) o,(AHeap.set τ c o).get r = τ.get r := fun τ o => AHeap.get_set_ne _ _ hcr
     refine downS_le ?_ (hok x q2 rfl (σ3.set c (.cells [.int .i64 x.id,.int .i64 x.n,.string x.s,.string x.v] true 0)) (((k1.trans k2).trans k3).setD hc) (by unfold IsR; rw [hcr2]; exact i3))
     exact Le.set (Le.new' (Le.new hb) hb)
    ·rw [hn] at hbad
     simp only [↓sbD,sbU,tyB,↓reduceIte,Nat.reduceEqDiff,Nat.reduceLT,Nat.reduceAdd,Nat.reduceLeDiff,splice,gc3,bc,hac]
     refine drawS_l (fl := [(0,3)]) (by kernel_rfl) ?_ ?_
     rotate_left; simp only [lastP_cc,lastP_one]; rotate_left
     ·simp only [List.all_cons,List.all_nil,floatS,List.getElem?_cons_succ,List.getElem?_cons_zero,List.getElem?_toArray,Region.wanted,Bool.not_true,Bool.not_false,Bool.or_true,reads,looksWeak,aev_tmp,upd_at,↓reduceIte,Nat.reduceEqDiff,Nat.reduceLT,Nat.reduceAdd,blkOf,oeq_refl,dead_cells,Bool.and_true,Bool.and_self,Bool.false_eq_true,Bool.not_false,AHeap.get_set_same]
     simp only [↓sbD,sbU,tyB,↓reduceIte,Nat.reduceEqDiff,Nat.reduceLT,Nat.reduceAdd,Nat.reduceLeDiff,res_cellc,resC_some]
     refine downS_le ?_ (hbad 3 130 p rfl (σ3.set c (.cells [.int .i64 x.id,.int .i64 x.n,.string x.s,.string x.v] true 0)) 1 _ x (((k1.trans k2).trans k3).setD hc) (by omega) (ErN.new _ _ ⟨by omega,by omega⟩) (by omega))
     exact Le.set (Le.new' (Le.new hb) hb)
end
section
variable {σ : AHeap} {Q : Value → AHeap → Prop} {r : Nat} {s : ByteArray} {p : Nat}
theorem specPRead {pl : Int} (hr : IsR σ r s p .nilIface) (hp : p ≤ s.size) (hs : s.size ≤ 100000000)
  (hok : ∀ l q,ReadP pl s p (.ok (l,q)) → ∀ v σ',DL propC 4 v l → Kept σ [r] σ' [r] → IsR σ' r s q .nilIface → q ≤ s.size → Q (.tuple #[v,.nilIface]) σ')
  (hbad : ∀ k rr a : Nat,ReadP pl s p (.error (k,rr,a)) → ∀ σ' d z,Kept σ [r] σ' [r] → d ≤ 3 → ErN d (fv rr a z) k → Q (.tuple #[.slice none 0 0,fv rr a z]) σ') :
  CallS E B 57 [.pointer (some ⟨r,0,none⟩),.int .i64 pl] σ Q := by
 unfold ReadP at hok hbad
 refine call57 (by simp) ?_
 simp only [strip,bodyOf,Tryz.f57,getD_body,keepN,bareOp_mk,List.map_cons,List.map_nil,↓reduceIte,Bool.false_eq_true]
 simp (disch := first | assumption | simp) only [↓sbD,sbU,↓reduceIte,Nat.reduceLT,reduceCtorEq]
 refine specRVar hr hp hs (fun n q hn σ2 k2 i2 => ?_) fun k q hn σ2 k2 i2 => ?_
 rotate_left
 ·rw [hn] at hbad
  obtain ⟨d,z,hd,he,i3⟩ := i2
  simp (disch := first | assumption | simp) only [↓sbD,sbU,↓reduceIte,Nat.reduceEqDiff,Nat.reduceLT]
  refine specRRawE i3 ?_
  simp (disch := first | assumption | simp) only [↓sbD,sbU,↓reduceIte,Nat.reduceLT,reduceCtorEq]
  refine specRErr i3 ?_
  simp (disch := first | assumption | simp) only [↓sbD,sbU,tyB,↓reduceIte,Nat.reduceEqDiff,Nat.reduceLT,isConst]
  exact downS_here (hbad k 129 q rfl _ d z k2 (by omega) he)
 have hv := varR_le hp hn
 rw [hn] at hok hbad
 simp only at hok hbad
 simp (disch := first | assumption | simp) only [↓sbD,sbU,↓reduceIte,Nat.reduceEqDiff,Nat.reduceLT]
 refine specRRaw i2 hv.2.1 (by omega) (fun all q2 ha σ3 k3 i3 => ?_) fun k q2 ha σ3 k3 i3 => ?_
 rotate_left
 ·rw [ha] at hbad
  obtain ⟨d,z,hd,he,i4⟩ := i3
  simp (disch := first | assumption | simp) only [↓sbD,sbU,↓reduceIte,Nat.reduceLT,reduceCtorEq]
  refine specRErr i4 ?_
  simp (disch := first | assumption | simp) only [↓sbD,sbU,tyB,↓reduceIte,Nat.reduceEqDiff,Nat.reduceLT,isConst]
  exact downS_here (hbad k 129 q2 rfl _ d z (k2.trans k3) (by omega) he)
 have hq2 := rawR_ok' (by omega) ha
 rw [Int.toNat_natCast] at hq2
 rw [ha] at hok hbad
 simp only at hok hbad
 simp (disch := first | assumption | simp) only [↓sbD,sbU,↓reduceIte,Nat.reduceLT,reduceCtorEq]
 refine specRErr i3 ?_
 simp (disch := first | assumption | simp) only [↓sbD,sbU,tyB,↓reduceIte,Nat.reduceLT,reduceCtorEq,isConst]
 refine specRAt i3 ?_
 have hwf : IntKind.i64.wrap ((q2 : Int) - (all.size : Int)) = ((q2 - all.size : Nat) : Int) := by rw [wrap64 ⟨by omega,by omega⟩]; omega
 simp (disch := first | assumption | simp) only [↓sbD,sbU,tyB,Bool.or_self,↓reduceIte,Nat.reduceEqDiff,Nat.reduceLT,goInt,isConst,hwf]
 refine specRNew fun x σ4 hx k4 i4 => ?_
 have hrx : r ∉ [x] := by
  intro hm
  obtain rfl := List.mem_singleton.1 hm
  rw [i3] at hx; cases hx
 simp (disch := first | assumption | simp) only [↓sbD,sbU,↓reduceIte,Nat.reduceLT]
 refine S_loop (fun m f σ' => ∃ (p' : Nat) (l : List Pr) (v : Value) (fp : List Nat),m + p' = all.size ∧ p' ≤ all.size ∧ f 10 = v ∧ DG propC 4 σ' v l fp ∧ x ∉ fp ∧ l.length ≤ 64 ∧ IsR σ' x all p' .nilIface ∧ Kept σ3 [] σ' (x :: fp) ∧ ∀ R,AllP pl all p' l R → AllP pl all 0 [] R) all.size (Le.refl _) ⟨0,[],_,[],rfl,Nat.zero_le _,rfl,by simp (disch := first | assumption | simp) only [sbU,↓reduceIte]; exact DG.nil,by simp,by simp,i4,k4,fun R h => h⟩ ?_
 clear k4 i4
 rintro m f σ5 ⟨p',l,v,fp,hm,hp',f10,hg,hxf,hl64,ix,hk,hback⟩ hf
 have f0 := hf 0 (by decide) (notMem_wr (by kernel_rfl))
 have f1 := hf 1 (by decide) (notMem_wr (by kernel_rfl))
 have f8 := hf 8 (by decide) (notMem_wr (by kernel_rfl))
 have f9 := hf 9 (by decide) (notMem_wr (by kernel_rfl))
 simp (disch := first | assumption | simp) only [sbU,↓reduceIte,Nat.reduceEqDiff,reduceCtorEq] at f0 f1 f8 f9
 clear hf
 have ir := (hk.at i3 (by simp) (by simp)).1
 simp (disch := first | assumption | simp) only [↓sbD,sbU,↓reduceIte,Nat.reduceLT,f9]
 refine specRLeft ix hp' (by omega) ?_
 by_cases hlt : p' < all.size
 ·have h0 : (0 : Int) < ((all.size - p' : Nat) : Int) := by omega
  simp (disch := first | assumption | simp) only [↓sbD,sbU,↓reduceIte,Nat.reduceEqDiff,Nat.reduceLT,isConst,h0,f9,f1,f10]
  refine specOne hg.dl (by omega) ix hp' (by omega) (fun y q3 ho σ6 k6 i6 => ?_) fun k rr a ho σ6 d z y k6 hd he hab => ?_
  ·have hoq := oneR_ok hp' ho
   have hg6 := hg.kept k6 (fun b hb hm => hxf (by obtain rfl := List.mem_singleton.1 hm; exact hb))
   have hac : propC y = [.int .i64 y.id,.int .i64 y.n,.string y.s,.string y.v] := rfl
   simp (disch := first | assumption | simp) only [↓sbD,sbU,tyB,Nat.reduceBneDiff,decide_false,gt_iff_lt,Bool.or_self,Bool.false_eq_true,Nat.one_mul,Nat.zero_mul,↓reduceIte,Nat.reduceEqDiff,Nat.reduceLT,Nat.reduceAdd,Nat.reduceLeDiff,reduceCtorEq,pairs,isConst,splice,Edp,dpv,ZV.val,AS_new,zePr,hac,f10]
   intro b hb
   have kb : Kept σ6 [] _ [] := Kept.tmp (o := .cells [.int .i64 0,.int .i64 0,.string ⟨#[]⟩,.string ⟨#[]⟩] true 0) (o' := .cells [.int .i64 y.id,.int .i64 y.n,.string y.s,.string y.v] true 0) hb
   have hg7 := hg6.kept kb (fun _ _ h => by cases h)
   have i7 := (kb.at i6 (by simp) (by simp)).1
   refine app_pr (xs := [y]) hg7 (.inr ⟨1,rfl⟩) (by simp only [List.length_cons,List.length_nil]; omega) fun σ8 v8 fp8 k8 g8 => ?_
   have i8 := k8.at i7 (by simp) hxf
   simp (disch := first | assumption | simp) only [↓sbD,sbU,↓reduceIte,Nat.reduceLT]
   refine ⟨_,m - (q3 - p'),σ8,rfl,by omega,Le.refl _,q3,l ++ [y],v8,fp8,by omega,by omega,rfl,g8,i8.2,by rw [List.length_append]; simp only [List.length_cons,List.length_nil]; omega,i8.1,?_,fun R h => hback R (.step hlt ho h)⟩
   exact hk.trans ((k6.wid (gp := x :: fp) (gp' := x :: fp) (fun b hb => by simp at hb; simp [hb]) (fun b hb => .inr hb)).trans ((kb.wid (gp := x :: fp) (gp' := x :: fp) (fun _ h => by cases h) (fun _ h => .inr h)).trans (k8.wid (gp := x :: fp) (gp' := x :: fp8) (fun b hb => by simp [hb]) (fun b hb => by simp only [List.mem_cons] at hb ⊢; rcases hb with hb | hb <;> simp [hb]))))
  ·have hac : propC y = [.int .i64 y.id,.int .i64 y.n,.string y.s,.string y.v] := rfl
   simp (disch := first | assumption | simp) only [↓sbD,sbU,tyB,↓reduceIte,Nat.reduceEqDiff,Nat.reduceLT,Nat.reduceAdd,Nat.reduceLeDiff,isConst,splice,AS_new,zePr,hac,f8]
   intro b hb
   refine specDeeper (n := a) (m := q2 - all.size) (by omega) (by omega) ?_
   simp (disch := first | assumption | simp) only [↓sbD,sbU,↓reduceIte,Nat.reduceEqDiff,Nat.reduceLT]
   have kk : Kept σ3 [] σ6 [] := (hk.wid (gp := []) (gp' := x :: fp) (fun _ h => by cases h) (fun _ h => .inl h)).trans (k6.wid (gp := x :: fp) (gp' := []) (fun b hb => by simp at hb; simp [hb]) (fun _ h => by cases h))
   exact downS_le (Le.new' (Le.new hb) hb) (hbad k rr _ ⟨.error (k,rr,a),hback _ (.bad hlt ho),rfl⟩ σ6 (d + 1) _ ((k2.trans k3).trans kk.fst) (by omega) (ErN.deeper _ _ he))
 ·have h0 : ¬ (0 : Int) < ((all.size - p' : Nat) : Int) := by omega
  simp (disch := first | assumption | simp) only [↓sbD,sbU,decide_false,↓reduceIte,Nat.reduceEqDiff,Nat.reduceLT,isConst,h0,f10]
  exact downS_here (hok l q2 ⟨.ok l,hback _ (.nil (by omega)),rfl⟩ v _ hg.dl ((k2.trans k3).trans hk.fst) ir hq2.2.1)
end
theorem AllP.det {pl : Int} {s : ByteArray} {p : Nat} {l : List Pr} {r : Except (Nat × Nat × Nat) (List Pr)} (h : AllP pl s p l r) : ∀ {r'},AllP pl s p l r' → r = r' := by
 induction h with
 | nil h =>
  intro r' h'
  cases h' with
  | nil _ => rfl
  | bad h1 _ => omega
  | step h1 _ _ => omega
 | bad h ho =>
  intro r' h'
  cases h' with
  | nil h1 => omega
  | bad _ h1 => rw [ho] at h1; injection h1 with h1; rw [h1]
  | step _ h1 _ => rw [ho] at h1; cases h1
 | step h ho hr ih =>
  intro r' h'
  cases h' with
  | nil h1 => omega
  | bad _ h1 => rw [ho] at h1; cases h1
  | step _ h1 h2 =>
   rw [ho] at h1
   simp only [Except.ok.injEq,Prod.mk.injEq] at h1
   obtain ⟨rfl,rfl⟩ := h1
   exact ih h2
theorem AllP.chk {pl : Int} {s : ByteArray} {p : Nat} {l : List Pr} {r : Except (Nat × Nat × Nat) (List Pr)} (h : AllP pl s p l r) (hp : p ≤ s.size) (hl : l.length ≤ 64) (hc : chk pl [] l = none) : ∀ m,r = .ok m → _root_.Go.Proofs.YtjkhhdknplelcaaGreatDoor.AbsB.chk pl [] m = none ∧ m.length ≤ 64 := by
 induction h with
 | nil h => intro m hm; injection hm with hm; subst hm; exact ⟨hc,hl⟩
 | bad h ho => intro m hm; cases hm
 | step h ho hr ih =>
  have := oneR_ok hp ho
  exact ih this.2.1 (by rw [List.length_append]; simp only [List.length_cons,List.length_nil]; omega) (chk_snoc hc (by simpa using this.2.2.2))
end Go.Proofs.YtjkhhdknplelcaaGreatDoor.AbsB
