/-
  Parts of a law's proof.
-/
import Derived.Test.YtjkhhdknplelcaaGreatDoorAPrqeJ
import Derived.Test.YtjkhhdknplelcaaGreatDoorAFwqdJ
import Derived.Test.YtjkhhdknplelcaaGreatDoorARdqbJ
import Derived.Test.YtjkhhdknplelcaaGreatDoorAFrqbJ
namespace Go.Proofs.YtjkhhdknplelcaaGreatDoor.AbsA
open Go AbsYtjkhhdknplelcaaGreatDoor Abs
set_option maxRecDepth 100000
set_option maxHeartbeats 2000000
set_option linter.unusedSimpArgs false
set_option linter.unusedVariables false
abbrev flt (k r a : Int) : Value := .agg ⟨[.int .i64 k,.int .i64 r,.int .i64 a]⟩
theorem zeFlt : azero E 40 = some [.int .i64 0,.int .i64 0,.int .i64 0] := rfl
def fltO : Option (Nat × Nat × Nat) → Value
 | none => flt 0 0 0
 | some (k,r,a) => flt k r a
attribute [local irreducible] afterS afterOpS opSK OpsS TrS CodeS condS condW thenS thenQ guardS guardTS outS drawS trSK consS
section
variable {σ : AHeap} {Q : Value → AHeap → Prop} {x : Nat} {r : ByteArray ⊕ (Nat × Nat)}
def XRun (σ : AHeap) (x : Nat) (r : ByteArray ⊕ (Nat × Nat)) : Prop := match r with
 | .inl b => IsX σ x b 0 0
 | .inr (k,q) => k ≠ 0 ∧ ∃ b,IsX σ x b k q
theorem actW_err {a : Act} {k q : Nat} (h : actW a = .inr (k,q)) : k ≠ 0 := by
 unfold actW at h
 have hn : ∀ n k',numW n k' = .inr (k,q) → k ≠ 0 := by
  intro n k' h
  unfold numW at h
  split at h
  ·simp only [Sum.inr.injEq,Prod.mk.injEq] at h; omega
  ·cases h
 have hb : ∀ s,binW s = .inr (k,q) → k ≠ 0 := by
  intro s h
  unfold binW at h
  split at h
  ·simp only [Sum.inr.injEq,Prod.mk.injEq] at h; omega
  ·cases h
 split at h
 ·exact hn _ _ h
 split at h
 ·exact hn _ _ h
 split at h
 ·exact hn _ _ h
 split at h
 ·unfold varW at h
  split at h
  ·simp only [Sum.inr.injEq,Prod.mk.injEq] at h; omega
  ·cases h
 split at h
 ·unfold textW at h
  split at h
  ·simp only [Sum.inr.injEq,Prod.mk.injEq] at h; omega
  ·exact hb _ h
 split at h
 ·exact hb _ h
 split at h
 ·cases h
 ·cases h
theorem specDoR {a : Act} (hx : XRun σ x r) (hz : leW r 1000000) (hs : a.s.size ≤ 100000) (h : ∀ σ',Kept σ [x] σ' [x] → XRun σ' x (stepW r [a]) → Q unit σ') :
  CallS E B 48 [.pointer (some ⟨x,0,none⟩),.agg ⟨actC a⟩] σ Q := by
 cases r with
 | inl b =>
  refine specDo hx (hz b rfl) hs fun σ' k o => h σ' k ?_
  simp only [stepW,runW]
  unfold XOut at o
  cases ha : actW a with
  | inl m => rw [ha] at o; exact o
  | inr e => obtain ⟨k,q⟩ := e; rw [ha] at o; exact ⟨actW_err ha,b,o⟩
 | inr e =>
  obtain ⟨k,q⟩ := e
  obtain ⟨hk,b,hx⟩ := hx
  exact specDoE hx (by omega) (h σ (Kept.refl _ _) ⟨hk,b,hx⟩)
theorem step_congr {a a' : Act} (h : actW a = actW a') : stepW r [a] = stepW r [a'] := by
 cases r with
 | inl b => simp only [stepW,runW,h]
 | inr e => rfl
theorem act6 {n n' : Int} {s : ByteArray} : actW ⟨6,n,s⟩ = actW ⟨6,n',s⟩ := rfl
theorem act7 {n n' : Int} {s : ByteArray} : actW ⟨7,n,s⟩ = actW ⟨7,n',s⟩ := rfl
theorem act1 {n : Int} {s s' : ByteArray} : actW ⟨1,n,s⟩ = actW ⟨1,n,s'⟩ := rfl
theorem act2 {n : Int} {s s' : ByteArray} : actW ⟨2,n,s⟩ = actW ⟨2,n,s'⟩ := rfl
theorem act4 {n : Int} {s s' : ByteArray} : actW ⟨4,n,s⟩ = actW ⟨4,n,s'⟩ := rfl
theorem act5 {n : Int} {s s' : ByteArray} : actW ⟨5,n,s⟩ = actW ⟨5,n,s'⟩ := rfl
end
def placesI (id : Int) : List Int :=
 if id = 1 ∨ id = 2 ∨ id = 3 ∨ id = 8 ∨ id = 9 then [3,16]
 else if id = 11 then [3,8]
 else if id = 35 then [3]
 else if id = 24 then [16]
 else if id = 23 ∨ id = 25 then [1]
 else if id = 18 ∨ id = 19 ∨ id = 26 ∨ id = 36 ∨ id = 37 ∨ id = 40 ∨ id = 41 ∨ id = 42 then [2]
 else if id = 28 then [2,14]
 else if id = 33 ∨ id = 34 ∨ id = 39 then [1,2]
 else if id = 17 then [1,2,14]
 else if id = 21 ∨ id = 22 then [1,2,15]
 else if id = 31 then [2,4,5,6,7,9,11,14,15]
 else if id = 38 then [1,2,3,4,5,6,7,8,9,10,11,14,15,16]
 else []
theorem places_allow (id pl : Int) : decide (pl ∈ placesI id) = allow id pl := by
 unfold placesI allow
 by_cases h : id = 1 ∨ id = 2 ∨ id = 3 ∨ id = 8 ∨ id = 9
 ·simp only [if_pos h]
  rw [decide_eq_decide]
  simp only [List.mem_cons,List.not_mem_nil,or_false]
  try omega
 simp only [if_neg h]
 clear h
 by_cases h : id = 11
 ·simp only [if_pos h]
  rw [decide_eq_decide]
  simp only [List.mem_cons,List.not_mem_nil,or_false]
  try omega
 simp only [if_neg h]
 clear h
 by_cases h : id = 35
 ·simp only [if_pos h]
  rw [decide_eq_decide]
  simp only [List.mem_cons,List.not_mem_nil,or_false]
  try omega
 simp only [if_neg h]
 clear h
 by_cases h : id = 24
 ·simp only [if_pos h]
  rw [decide_eq_decide]
  simp only [List.mem_cons,List.not_mem_nil,or_false]
  try omega
 simp only [if_neg h]
 clear h
 by_cases h : id = 23 ∨ id = 25
 ·simp only [if_pos h]
  rw [decide_eq_decide]
  simp only [List.mem_cons,List.not_mem_nil,or_false]
  try omega
 simp only [if_neg h]
 clear h
 by_cases h : id = 18 ∨ id = 19 ∨ id = 26 ∨ id = 36 ∨ id = 37 ∨ id = 40 ∨ id = 41 ∨ id = 42
 ·simp only [if_pos h]
  rw [decide_eq_decide]
  simp only [List.mem_cons,List.not_mem_nil,or_false]
  try omega
 simp only [if_neg h]
 clear h
 by_cases h : id = 28
 ·simp only [if_pos h]
  rw [decide_eq_decide]
  simp only [List.mem_cons,List.not_mem_nil,or_false]
  try omega
 simp only [if_neg h]
 clear h
 by_cases h : id = 33 ∨ id = 34 ∨ id = 39
 ·simp only [if_pos h]
  rw [decide_eq_decide]
  simp only [List.mem_cons,List.not_mem_nil,or_false]
  try omega
 simp only [if_neg h]
 clear h
 by_cases h : id = 17
 ·simp only [if_pos h]
  rw [decide_eq_decide]
  simp only [List.mem_cons,List.not_mem_nil,or_false]
  try omega
 simp only [if_neg h]
 clear h
 by_cases h : id = 21 ∨ id = 22
 ·simp only [if_pos h]
  rw [decide_eq_decide]
  simp only [List.mem_cons,List.not_mem_nil,or_false]
  try omega
 simp only [if_neg h]
 clear h
 by_cases h : id = 31
 ·simp only [if_pos h]
  rw [decide_eq_decide]
  simp only [List.mem_cons,List.not_mem_nil,or_false]
  try omega
 simp only [if_neg h]
 clear h
 by_cases h : id = 38
 ·simp only [if_pos h]
  rw [decide_eq_decide]
  simp only [List.mem_cons,List.not_mem_nil,or_false]
  try omega
 simp only [if_neg h]
 clear h
 rw [decide_eq_false (by simp)]
section
variable {σ : AHeap} {Q : Value → AHeap → Prop}
theorem specPlaces {id : Int} (h : ∀ v,DL intC 1 v (placesI id) → Q v σ) : CallS E B 171 [.int .i64 id] σ Q := by
 refine call171 (by simp) ?_
 simp only [strip,bodyOf,Tryz.f171,getD_body,keepN,bareOp_mk,List.map_cons,List.map_nil,↓reduceIte,Bool.false_eq_true]
 by_cases hm : id ∈ ids
 ·simp only [ids,List.mem_cons,List.not_mem_nil,or_false] at hm
  rcases hm with rfl | rfl | rfl | rfl | rfl | rfl | rfl | rfl | rfl | rfl | rfl | rfl | rfl | rfl | rfl | rfl | rfl | rfl | rfl | rfl | rfl | rfl | rfl | rfl | rfl | rfl | rfl <;>
   (simp only [↓sbD,sbU,tyB,Int.reduceEq,Nat.reduceBneDiff,decide_false,gt_iff_lt,Bool.or_self,Bool.false_eq_true,Nat.mul_one,↓reduceIte,Nat.reduceEqDiff,Nat.reduceLT,Nat.reduceAdd,Nat.reduceLeDiff,reduceCtorEq,pairs,isConst,splice,Edp,dpv,ZV.val]
    exact downS_here (h _ (.inr ⟨1,rfl⟩)))
 ·simp only [ids,List.mem_cons,List.not_mem_nil,or_false,not_or] at hm
  have e : placesI id = [] := by simp [placesI,hm]
  rw [e] at h
  obtain ⟨n1,n2,n3,n4,n5,n6,n7,n8,n9,n10,n11,n12,n13,n14,n15,n16,n17,n18,n19,n20,n21,n22,n23,n24,n25,n26,n27⟩ := hm
  simp only [↓sbD,sbU,decide_false,↓reduceIte,Nat.reduceEqDiff,Nat.reduceLT,reduceCtorEq,isConst,n1,n2,n3,n4,n5,n6,n7,n8,n9,n10,n11,n12,n13,n14,n15,n16,n17,n18,n19,n20,n21,n22,n23,n24,n25,n26,n27]
  exact downS_here (h _ (.inl ⟨rfl,rfl⟩))
end
set_option maxHeartbeats 4000000
section
variable {σ : AHeap} {Q : Value → AHeap → Prop}
theorem places_len (id : Int) : (placesI id).length ≤ 20 := by
 unfold placesI
 by_cases h : id = 1 ∨ id = 2 ∨ id = 3 ∨ id = 8 ∨ id = 9
 ·rw [if_pos h]; decide
 rw [if_neg h]
 clear h
 by_cases h : id = 11
 ·rw [if_pos h]; decide
 rw [if_neg h]
 clear h
 by_cases h : id = 35
 ·rw [if_pos h]; decide
 rw [if_neg h]
 clear h
 by_cases h : id = 24
 ·rw [if_pos h]; decide
 rw [if_neg h]
 clear h
 by_cases h : id = 23 ∨ id = 25
 ·rw [if_pos h]; decide
 rw [if_neg h]
 clear h
 by_cases h : id = 18 ∨ id = 19 ∨ id = 26 ∨ id = 36 ∨ id = 37 ∨ id = 40 ∨ id = 41 ∨ id = 42
 ·rw [if_pos h]; decide
 rw [if_neg h]
 clear h
 by_cases h : id = 28
 ·rw [if_pos h]; decide
 rw [if_neg h]
 clear h
 by_cases h : id = 33 ∨ id = 34 ∨ id = 39
 ·rw [if_pos h]; decide
 rw [if_neg h]
 clear h
 by_cases h : id = 17
 ·rw [if_pos h]; decide
 rw [if_neg h]
 clear h
 by_cases h : id = 21 ∨ id = 22
 ·rw [if_pos h]; decide
 rw [if_neg h]
 clear h
 by_cases h : id = 31
 ·rw [if_pos h]; decide
 rw [if_neg h]
 clear h
 by_cases h : id = 38
 ·rw [if_pos h]; decide
 rw [if_neg h]
 clear h
 decide
theorem specRAllowed {id pl : Int} (h : Q (.bool (allow id pl)) σ) : CallS E B 161 [.int .i64 id,.int .i64 pl] σ Q := by
 rw [← places_allow] at h
 have hlz := places_len id
 refine call161 (by simp) ?_
 simp only [strip,bodyOf,Tryz.f161,getD_body,keepN,bareOp_mk,List.map_cons,List.map_nil,↓reduceIte,Bool.false_eq_true]
 simp (disch := first | assumption | simp) only [↓sbD,sbU,↓reduceIte,Nat.reduceLT,reduceCtorEq]
 refine specPlaces fun v hv => ?_
 generalize placesI id = L at h hv hlz
 have hlen := DLi.len hv
 simp (disch := first | assumption | simp) only [↓sbD,sbU,↓reduceIte,Nat.reduceLT]
 refine S_loop (fun m f σ' => σ' = σ ∧ ∃ i : Nat,m + i = L.length ∧ f 6 = .int .i64 i ∧ ∀ j (hj : j < L.length),j < i → L[j] ≠ pl) L.length (Le.refl _) ⟨rfl,0,rfl,by simp (disch := first | assumption | simp) only [sbU,↓reduceIte]; rfl,fun j _ hj => by omega⟩ ?_
 rintro m f σ' ⟨rfl,i,hm,f6,hno⟩ hf
 have f0 := hf 0 (by decide) (notMem_wr (by kernel_rfl))
 have f1 := hf 1 (by decide) (notMem_wr (by kernel_rfl))
 have f5 := hf 5 (by decide) (notMem_wr (by kernel_rfl))
 simp (disch := first | assumption | simp) only [sbU,↓reduceIte,Nat.reduceEqDiff,reduceCtorEq] at f0 f1 f5
 clear hf
 by_cases hi : (i : Int) < (L.length : Int)
 ·have hi' : i < L.length := by omega
  have hia := DLi.at hv hi'
  have hw := wrap_suc (n := i) (by omega)
  by_cases he : L[i] = pl
  ·simp (disch := first | assumption | simp) only [↓sbD,sbU,tyB,Bool.or_self,↓reduceIte,Nat.reduceEqDiff,Nat.reduceLT,isConst,f1,f5,f6,hlen,hi,hia,intC,he]
   rw [decide_eq_true (by rw [← he]; exact List.getElem_mem hi')] at h
   exact downS_here h
  ·simp (disch := first | assumption | simp) only [↓sbD,sbU,tyB,decide_false,Bool.or_self,↓reduceIte,Nat.reduceEqDiff,Nat.reduceLT,isConst,f1,f5,f6,hlen,hi,hia,intC,he,hw]
   refine ⟨_,m - 1,_,rfl,by omega,Le.refl _,rfl,i + 1,by omega,by simp (disch := first | assumption | simp) only [sbU,↓reduceIte],fun j hj hji => ?_⟩
   rcases (by omega : j < i ∨ j = i) with h3 | rfl
   ·exact hno j hj h3
   ·exact he
 ·simp (disch := first | assumption | simp) only [↓sbD,sbU,decide_false,Bool.or_self,↓reduceIte,Nat.reduceEqDiff,Nat.reduceLT,isConst,f5,f6,hlen,hi]
  rw [decide_eq_false (fun hx => by
   obtain ⟨j,hj,hje⟩ := List.getElem_of_mem hx
   exact hno j hj (by omega) hje)] at h
  exact downS_here h
theorem specRNumbered {p : Pr} (h : Q (.bool (numOk p)) σ) : CallS E B 138 [.agg ⟨propC p⟩] σ Q := by
 obtain ⟨id,n,s,v⟩ := p
 unfold numOk at h
 simp only [propC]
 refine call138 (by simp) ?_
 simp only [strip,bodyOf,Tryz.f138,getD_body,keepN,bareOp_mk,List.map_cons,List.map_nil,↓reduceIte,Bool.false_eq_true]
 by_cases hm : id = 1 ∨ id = 23 ∨ id = 25 ∨ id = 36 ∨ id = 37 ∨ id = 40 ∨ id = 41 ∨ id = 42
 ·rw [if_pos hm] at h
  by_cases h0 : n = 0
  ·simp only [h0,true_or,decide_true] at h
   rcases hm with rfl | rfl | rfl | rfl | rfl | rfl | rfl | rfl <;>
   (simp only [↓sbD,sbU,tyB,Int.reduceEq,decide_false,↓reduceIte,Nat.reduceEqDiff,Nat.reduceLT,reduceCtorEq,isConst,boxS,Edp,dpv,h0]
    exact downS_here h)
  ·by_cases h1 : n = 1
   ·simp only [h1,or_true,decide_true] at h
    rcases hm with rfl | rfl | rfl | rfl | rfl | rfl | rfl | rfl <;>
    (simp only [↓sbD,sbU,tyB,Int.reduceEq,decide_false,↓reduceIte,Nat.reduceEqDiff,Nat.reduceLT,reduceCtorEq,isConst,boxS,Edp,dpv,h1]
     exact downS_here h)
   ·simp only [h0,h1,or_self,decide_false] at h
    rcases hm with rfl | rfl | rfl | rfl | rfl | rfl | rfl | rfl <;>
    (simp only [↓sbD,sbU,tyB,Int.reduceEq,decide_false,↓reduceIte,Nat.reduceEqDiff,Nat.reduceLT,reduceCtorEq,isConst,boxS,Edp,dpv,h0,h1]
     exact downS_here h)
 ·rw [if_neg hm] at h
  simp only [not_or] at hm
  obtain ⟨n1,n2,n3,n4,n5,n6,n7,n8⟩ := hm
  by_cases hm : id = 11 ∨ id = 33 ∨ id = 35 ∨ id = 39
  ·rw [if_pos hm] at h
   by_cases h0 : 0 < n
   ·simp only [h0,decide_true] at h
    rcases hm with rfl | rfl | rfl | rfl <;>
    (simp only [↓sbD,sbU,tyB,Int.reduceEq,decide_false,↓reduceIte,Nat.reduceEqDiff,Nat.reduceLT,reduceCtorEq,isConst,boxS,Edp,dpv,h0]
     exact downS_here h)
   ·simp only [h0,decide_false] at h
    rcases hm with rfl | rfl | rfl | rfl <;>
    (simp only [↓sbD,sbU,tyB,Int.reduceEq,decide_false,↓reduceIte,Nat.reduceEqDiff,Nat.reduceLT,reduceCtorEq,isConst,boxS,Edp,dpv,h0]
     exact downS_here h)
  ·rw [if_neg hm] at h
   simp only [not_or] at hm
   obtain ⟨m1,m2,m3,m4⟩ := hm
   simp only [↓sbD,sbU,tyB,decide_false,↓reduceIte,Nat.reduceEqDiff,Nat.reduceLT,reduceCtorEq,isConst,boxS,Edp,dpv,n1,n2,n3,n4,n5,n6,n7,n8,m1,m2,m3,m4]
   exact downS_here h
theorem specRType {id : Int} (h : Q (.int .i64 (typI id)) σ) : CallS E B 96 [.int .i64 id] σ Q := by
 refine call96 (by simp) ?_
 simp only [strip,bodyOf,Tryz.f96,getD_body,keepN,bareOp_mk,List.map_cons,List.map_nil,↓reduceIte,Bool.false_eq_true]
 by_cases hm : id ∈ ids
 ·simp only [ids,List.mem_cons,List.not_mem_nil,or_false] at hm
  rcases hm with rfl | rfl | rfl | rfl | rfl | rfl | rfl | rfl | rfl | rfl | rfl | rfl | rfl | rfl | rfl | rfl | rfl | rfl | rfl | rfl | rfl | rfl | rfl | rfl | rfl | rfl | rfl <;>
   (simp only [↓sbD,sbU,Int.reduceEq,decide_false,↓reduceIte,Nat.reduceEqDiff,Nat.reduceLT,reduceCtorEq,isConst]
    exact downS_here h)
 ·simp only [ids,List.mem_cons,List.not_mem_nil,or_false,not_or] at hm
  have e : typI id = 0 := by simp [typI,hm]
  rw [e] at h
  obtain ⟨n1,n2,n3,n4,n5,n6,n7,n8,n9,n10,n11,n12,n13,n14,n15,n16,n17,n18,n19,n20,n21,n22,n23,n24,n25,n26,n27⟩ := hm
  simp only [↓sbD,sbU,decide_false,↓reduceIte,Nat.reduceEqDiff,Nat.reduceLT,reduceCtorEq,isConst,n1,n2,n3,n4,n5,n6,n7,n8,n9,n10,n11,n12,n13,n14,n15,n16,n17,n18,n19,n20,n21,n22,n23,n24,n25,n26,n27]
  exact downS_here h
def fltG : Option (Nat × Nat) → Value
 | none => flt 0 0 0
 | some (k,r) => flt k r 0
theorem specRGround {pl id : Int} {v : Value} {l : List Pr} (hl : DL propC 4 v l) (hs : l.length ≤ 100000) (h : Q (fltG (groundP pl l id)) σ) : CallS E B 137 [.int .i64 pl,v,.int .i64 id] σ Q := by
 have hlen := DLp.len hl
 refine call137 (by simp) ?_
 simp only [strip,bodyOf,Tryz.f137,getD_body,keepN,bareOp_mk,List.map_cons,List.map_nil,↓reduceIte,Bool.false_eq_true]
 simp (disch := first | assumption | simp) only [↓sbD,sbU,↓reduceIte,Nat.reduceEqDiff,Nat.reduceLT,AS_new,zeFlt]
 intro c hc
 by_cases h64 : (64 : Int) ≤ (l.length : Int)
 ·have e : groundP pl l id = some (4,149) := by unfold groundP; rw [if_pos (by omega)]
  rw [e] at h
  simp (disch := first | assumption | simp) only [↓sbD,sbU,tyB,↓reduceIte,Nat.reduceEqDiff,Nat.reduceLT,Nat.reduceAdd,Nat.reduceLeDiff,pairs,isConst,splice,ZV.val,hlen,h64]
  exact downS_le (Le.new' (Le.new hc) hc) h
 simp (disch := first | assumption | simp) only [↓sbD,sbU,decide_false,↓reduceIte,Nat.reduceEqDiff,Nat.reduceLT,isConst,hlen,h64]
 refine specRType ?_
 by_cases ht : typI id = 0
 ·have e : groundP pl l id = some (2,129) := by unfold groundP; rw [if_neg (by omega),if_pos (.inl ht)]
  rw [e] at h
  simp (disch := first | assumption | simp) only [↓sbD,sbU,tyB,↓reduceIte,Nat.reduceEqDiff,Nat.reduceLT,Nat.reduceAdd,Nat.reduceLeDiff,pairs,isConst,splice,ZV.val,ht]
  exact downS_le (Le.new' (Le.new hc) hc) h
 simp (disch := first | assumption | simp) only [↓sbD,sbU,decide_false,↓reduceIte,Nat.reduceEqDiff,Nat.reduceLT,reduceCtorEq,isConst,ht]
 refine specRAllowed ?_
 cases ha : allow id pl with
 | false =>
  have e : groundP pl l id = some (2,129) := by unfold groundP; rw [if_neg (by omega),if_pos (.inr ha)]
  rw [e] at h
  simp (disch := first | assumption | simp) only [↓sbD,sbU,tyB,↓reduceIte,Nat.reduceEqDiff,Nat.reduceLT,Nat.reduceAdd,Nat.reduceLeDiff,pairs,splice,ZV.val,not_bool]
  exact downS_le (Le.new' (Le.new hc) hc) h
 | true =>
  have e : groundP pl l id = if id ≠ 38 ∧ ¬ (id = 11 ∧ pl = 3) ∧ hasId l id = true then some (3,130) else none := by
   unfold groundP; rw [if_neg (by omega),if_neg (by rw [ha]; simp [ht])]
  rw [e] at h
  clear e
  simp (disch := first | assumption | simp) only [↓sbD,sbU,↓reduceIte,Nat.reduceEqDiff,Nat.reduceLT,not_bool]
  generalize hσ1 : AHeap.set σ c _ = σ1
  have gc : σ1.get c = .cells [.int .i64 0,.int .i64 0,.int .i64 0] true 0 := by rw [← hσ1]; exact AHeap.get_set_same _ _ _
  have hle : Le σ σ1 := by rw [← hσ1]; exact Le.new hc
  clear hσ1
  obtain ⟨T,hT⟩ : ∃ T : Prop,T ↔ (id ≠ 38 ∧ ¬ (id = 11 ∧ pl = 3)) := ⟨_,Iff.rfl⟩
  obtain ⟨jd,hjd⟩ : ∃ jd : Int,jd = id := ⟨_,rfl⟩
  refine S_loop (fun m f σ' => σ' = σ1 ∧ ∃ i : Nat,m + i = l.length ∧ f 7 = .int .i64 i ∧ ∀ j (hj : j < l.length),j < i → ¬ ((l[j]).id = jd ∧ T)) l.length (Le.refl _) ⟨rfl,0,rfl,by simp (disch := first | assumption | simp) only [sbU,↓reduceIte]; rfl,fun j _ hj => by omega⟩ ?_
  rintro m f σ' ⟨rfl,i,hm,f7,hno⟩ hf
  have f0 := hf 0 (by decide) (notMem_wr (by kernel_rfl))
  have f1 := hf 1 (by decide) (notMem_wr (by kernel_rfl))
  have f2 := hf 2 (by decide) (notMem_wr (by kernel_rfl))
  have f6 := hf 6 (by decide) (notMem_wr (by kernel_rfl))
  simp (disch := first | assumption | simp) only [sbU,↓reduceIte,Nat.reduceEqDiff,reduceCtorEq] at f0 f1 f2 f6
  clear hf
  by_cases hi : (i : Int) < (l.length : Int)
  ·have hi' : i < l.length := by omega
   have hia := DLp.at hl hi'
   have hw := wrap_suc (n := i) (by omega)
   have hnext : ¬ ((l[i]).id = jd ∧ T) → ∀ j (hj : j < l.length),j < i + 1 → ¬ ((l[j]).id = jd ∧ T) := fun hp j hj hji => by
    rcases (by omega : j < i ∨ j = i) with h3 | rfl
    ·exact hno j hj h3
    ·exact hp
   have hbad : (l[i]).id = id → id ≠ 38 ∧ ¬ (id = 11 ∧ pl = 3) → Q (flt 3 130 0) σ := fun h1 h2 => by
    have : hasId l id = true := by
     unfold hasId
     rw [List.any_eq_true]
     exact ⟨l[i],List.getElem_mem hi',by simp [h1]⟩
    rw [if_pos ⟨h2.1,h2.2,this⟩] at h
    exact h
   generalize l[i] = y at hia hnext hbad
   have hac : propC y = [.int .i64 y.id,.int .i64 y.n,.string y.s,.string y.v] := rfl
   by_cases he : y.id = id
   ·by_cases c38 : id = 38
    ·subst c38
     simp (disch := first | assumption | simp) only [↓sbD,sbU,tyB,decide_false,Bool.or_self,↓reduceIte,Nat.reduceEqDiff,Nat.reduceLT,reduceCtorEq,isConst,f1,f2,f7,hlen,hi,hia,hac,he,hw]
     exact ⟨_,m - 1,_,rfl,by omega,Le.refl _,rfl,i + 1,by omega,by simp (disch := first | assumption | simp) only [sbU,↓reduceIte],hnext fun h => (hT.1 h.2).1 rfl⟩
    ·by_cases c11 : id = 11
     ·by_cases c3 : pl = 3
      ·subst c11; subst c3
       simp (disch := first | assumption | simp) only [↓sbD,sbU,tyB,Int.reduceEq,Bool.or_self,↓reduceIte,Nat.reduceEqDiff,Nat.reduceLT,reduceCtorEq,isConst,f0,f1,f2,f7,hlen,hi,hia,hac,he,hw,not_bool]
       exact ⟨_,m - 1,_,rfl,by omega,Le.refl _,rfl,i + 1,by omega,by simp (disch := first | assumption | simp) only [sbU,↓reduceIte],hnext fun h => (hT.1 h.2).2 ⟨rfl,rfl⟩⟩
      ·simp (disch := first | assumption | simp) only [↓sbD,sbU,tyB,Int.reduceEq,decide_false,Bool.or_self,↓reduceIte,Nat.reduceEqDiff,Nat.reduceLT,Nat.reduceAdd,Nat.reduceLeDiff,reduceCtorEq,pairs,isConst,splice,ZV.val,f0,f1,f2,f6,f7,hlen,hi,hia,hac,he,c11,c3,not_bool,gc]
       exact downS_le (Le.new' hle hc) (hbad he ⟨c38,fun h => c3 h.2⟩)
     ·simp (disch := first | assumption | simp) only [↓sbD,sbU,tyB,decide_false,Bool.or_self,↓reduceIte,Nat.reduceEqDiff,Nat.reduceLT,Nat.reduceAdd,Nat.reduceLeDiff,reduceCtorEq,pairs,isConst,splice,ZV.val,f1,f2,f6,f7,hlen,hi,hia,hac,he,c38,c11,not_bool,gc]
      exact downS_le (Le.new' hle hc) (hbad he ⟨c38,fun h => c11 h.1⟩)
   ·simp (disch := first | assumption | simp) only [↓sbD,sbU,tyB,decide_false,Bool.or_self,↓reduceIte,Nat.reduceEqDiff,Nat.reduceLT,reduceCtorEq,isConst,f1,f2,f7,hlen,hi,hia,hac,he,hw]
    exact ⟨_,m - 1,_,rfl,by omega,Le.refl _,rfl,i + 1,by omega,by simp (disch := first | assumption | simp) only [sbU,↓reduceIte],hnext fun h => he (h.1.trans hjd)⟩
  ·simp (disch := first | assumption | simp) only [↓sbD,sbU,tyB,decide_false,Bool.or_self,↓reduceIte,Nat.reduceEqDiff,Nat.reduceLT,Nat.reduceAdd,Nat.reduceLeDiff,pairs,isConst,splice,ZV.val,f1,f6,f7,hlen,hi,gc]
   rw [if_neg (fun hx => by
    obtain ⟨h1,h2,h3⟩ := hx
    unfold hasId at h3
    rw [List.any_eq_true] at h3
    obtain ⟨p,hp,hpe⟩ := h3
    obtain ⟨j,hj,rfl⟩ := List.getElem_of_mem hp
    exact hno j hj (by omega) ⟨by rw [hjd]; simpa using hpe,hT.2 ⟨h1,h2⟩⟩)] at h
   exact downS_le (Le.new' hle hc) h
end
section
variable {σ : AHeap} {Q : Value → AHeap → Prop}
theorem specRPCheck {pl : Int} {v : Value} {l : List Pr} (hl : DL propC 4 v l) (hs : l.length ≤ 100000) (h : Q (fltO (chk pl [] l)) σ) : CallS E B 95 [.int .i64 pl,v] σ Q := by
 have hlen := DLp.len hl
 refine call95 (by simp) ?_
 simp only [strip,bodyOf,Tryz.f95,getD_body,keepN,bareOp_mk,List.map_cons,List.map_nil,↓reduceIte,Bool.false_eq_true]
 simp (disch := first | assumption | simp) only [↓sbD,sbU,AS_new,zeFlt]
 intro c hc
 generalize hσ1 : AHeap.set σ c _ = σ1
 have gc : σ1.get c = .cells [.int .i64 0,.int .i64 0,.int .i64 0] true 0 := by rw [← hσ1]; exact AHeap.get_set_same _ _ _
 have hle : Le σ σ1 := by rw [← hσ1]; exact Le.new hc
 clear hσ1
 refine S_loop (fun m f σ' => σ' = σ1 ∧ ∃ i : Nat,m + i = l.length ∧ f 5 = .int .i64 i ∧ chk pl (l.take i) (l.drop i) = chk pl [] l) l.length (Le.refl _) ⟨rfl,0,rfl,by simp (disch := first | assumption | simp) only [sbU,↓reduceIte]; rfl,by simp⟩ ?_
 rintro m f σ' ⟨rfl,i,hm,f5,hcc⟩ hf
 have f0 := hf 0 (by decide) (notMem_wr (by kernel_rfl))
 have f1 := hf 1 (by decide) (notMem_wr (by kernel_rfl))
 have f4 := hf 4 (by decide) (notMem_wr (by kernel_rfl))
 simp (disch := first | assumption | simp) only [sbU,↓reduceIte,Nat.reduceEqDiff,reduceCtorEq] at f0 f1 f4
 clear hf
 by_cases hi : (i : Int) < (l.length : Int)
 ·have hi' : i < l.length := by omega
  have hia := DLp.at hl hi'
  obtain ⟨v',hl',hto⟩ := DLp.to hl (i := i) (by omega)
  have hw := wrap_suc (n := i) (by omega)
  have hd : l.drop i = l[i] :: l.drop (i + 1) := List.drop_eq_getElem_cons hi'
  have htk : l.take (i + 1) = l.take i ++ [l[i]] := List.take_succ_eq_append_getElem hi'
  have hti : (l.take i).length = i := by rw [List.length_take]; omega
  rw [hd] at hcc
  generalize hy : l[i] = y at hia hcc htk
  have hac : propC y = [.int .i64 y.id,.int .i64 y.n,.string y.s,.string y.v] := rfl
  simp only [chk] at hcc
  simp (disch := first | assumption | simp) only [↓sbD,sbU,tyB,Bool.or_self,↓reduceIte,Nat.reduceEqDiff,Nat.reduceLT,reduceCtorEq,isConst,f0,f1,f5,hlen,hi,hia,hac,hto]
  refine specRGround hl' (by omega) ?_
  cases hg : groundP pl (l.take i) y.id with
  | some e =>
   obtain ⟨k,r⟩ := e
   have hk := groundP_k hg
   have hk0 : ¬ (k : Int) = 0 := by omega
   have hbp : badP pl (l.take i) y = some (k,r) := by unfold badP; rw [hg]
   rw [hbp] at hcc
   simp only at hcc
   rw [← hcc,hti] at h
   simp only [fltG]
   simp (disch := first | assumption | simp) only [↓sbD,sbU,tyB,↓reduceIte,Nat.reduceEqDiff,Nat.reduceLT,Nat.reduceAdd,Nat.reduceLeDiff,reduceCtorEq,isConst,splice,AS_new,zeFlt]
   intro b hb
   have hbc : b ≠ c := by rintro rfl; rw [gc] at hb; cases hb
   have bc : ∀ (τ : AHeap) o,(AHeap.set τ b o).get c = τ.get c := fun τ o => AHeap.get_set_ne _ _ hbc
   simp (disch := first | assumption | simp) only [↓sbD,sbU,tyB,decide_false,↓reduceIte,Nat.reduceEqDiff,Nat.reduceLT,Nat.reduceAdd,Nat.reduceLeDiff,reduceCtorEq,pairs,isConst,splice,ZV.val,f4,f5,hk0,gc,bc]
   have hbd : σ.get b = .dead := by
    by_cases hh : σ.get b = .dead
    ·exact hh
    ·rw [← hle b hh]; exact hb
   exact downS_le (Le.new' (Le.new' (Le.new' hle hbd) hbd) hc) h
  | none =>
   simp only [fltG]
   simp (disch := first | assumption | simp) only [↓sbD,sbU,tyB,↓reduceIte,Nat.reduceEqDiff,Nat.reduceLT,Nat.reduceAdd,Nat.reduceLeDiff,reduceCtorEq,isConst,splice,AS_new,zeFlt]
   intro b hb
   have hbc : b ≠ c := by rintro rfl; rw [gc] at hb; cases hb
   have bc : ∀ (τ : AHeap) o,(AHeap.set τ b o).get c = τ.get c := fun τ o => AHeap.get_set_ne _ _ hbc
   simp (disch := first | assumption | simp) only [↓sbD,sbU,tyB,↓reduceIte,Nat.reduceEqDiff,Nat.reduceLT,Nat.reduceLeDiff,f1,f5,hia,hac]
   rw [propC_ag]
   refine specRNumbered (p := y) ?_
   cases hn : numOk y with
   | true =>
    have hbp : badP pl (l.take i) y = none := by unfold badP; rw [hg]; simp only [hn,if_true]
    rw [hbp] at hcc
    simp (disch := first | assumption | simp) only [↓sbD,sbU,tyB,decide_false,↓reduceIte,Nat.reduceEqDiff,Nat.reduceLT,reduceCtorEq,isConst,not_bool,f5,hw]
    exact ⟨_,m - 1,σ',rfl,by omega,Le.new' (Le.new hb) hb,rfl,i + 1,by omega,by simp (disch := first | assumption | simp) only [sbU,↓reduceIte],by rw [htk]; exact hcc⟩
   | false =>
    have hbp : badP pl (l.take i) y = some (3,130) := by unfold badP; rw [hg]; simp only [hn,Bool.false_eq_true,if_false]
    rw [hbp] at hcc
    simp only at hcc
    rw [← hcc,hti] at h
    simp (disch := first | assumption | simp) only [↓sbD,sbU,tyB,Int.reduceEq,↓reduceIte,Nat.reduceEqDiff,Nat.reduceLT,Nat.reduceAdd,Nat.reduceLeDiff,reduceCtorEq,pairs,isConst,splice,ZV.val,not_bool,f4,f5,gc,bc]
    have hbd : σ.get b = .dead := by
     by_cases hh : σ.get b = .dead
     ·exact hh
     ·rw [← hle b hh]; exact hb
    exact downS_le (Le.new' (Le.new' (Le.new' (Le.new' hle hbd) hbd) hbd) hc) h
 ·obtain rfl : i = l.length := by omega
  rw [List.drop_length] at hcc
  simp only [chk] at hcc
  rw [← hcc] at h
  simp (disch := first | assumption | simp) only [↓sbD,sbU,tyB,decide_false,Bool.or_self,↓reduceIte,Nat.reduceEqDiff,Nat.reduceLT,Nat.reduceAdd,Nat.reduceLeDiff,pairs,isConst,splice,ZV.val,f1,f4,f5,hlen,hi,gc]
  exact downS_le (Le.new' hle hc) h
theorem chk_k {pl : Int} : ∀ {l a : List Pr} {k r i : Nat},chk pl a l = some (k,r,i) → 1 ≤ k ∧ k ≤ 7
 | [],a,k,r,i,h => by cases h
 | p :: l,a,k,r,i,h => by
  simp only [chk] at h
  cases hb : badP pl a p with
  | none => rw [hb] at h; exact chk_k h
  | some e =>
   obtain ⟨k',r'⟩ := e
   rw [hb] at h
   simp only [Option.some.injEq,Prod.mk.injEq] at h
   obtain ⟨rfl,_⟩ := h
   unfold badP at hb
   cases hg : groundP pl a p.id with
   | some e => obtain ⟨k2,r2⟩ := e; rw [hg] at hb; simp only [Option.some.injEq,Prod.mk.injEq] at hb; obtain ⟨rfl,_⟩ := hb; exact groundP_k hg
   | none =>
    rw [hg] at hb
    simp only at hb
    split at hb
    ·cases hb
    ·simp only [Option.some.injEq,Prod.mk.injEq] at hb; omega
theorem specXVar {n : Nat} (hn : n ≤ 268435455) (h : Q (.string (str (enc n))) σ) : CallS E B 97 [.int .i64 (n : Int)] σ Q := by
 refine call97 (by simp) ?_
 simp only [strip,bodyOf,Tryz.f97,getD_body,keepN,bareOp_mk,List.map_cons,List.map_nil,↓reduceIte,Bool.false_eq_true]
 simp only [↓sbD,sbU,↓reduceIte,Nat.reduceLT,reduceCtorEq]
 refine specRPut (fun h => absurd h (by omega)) fun _ => ?_
 simp only [Int.toNat_natCast]
 simp only [↓sbD,sbU,↓reduceIte,Nat.reduceEqDiff,Nat.reduceLT]
 exact downS_here h
theorem dpX : dp 69 = false := rfl
theorem XRun.kept {σ' : AHeap} {x : Nat} {r : ByteArray ⊕ (Nat × Nat)} {gp gp' : List Nat} (h : XRun σ x r) (k : Kept σ gp σ' gp') (hd : x ∉ gp) : XRun σ' x r := by
 cases r with
 | inl b => exact (k.at h (by simp) hd).1
 | inr e => obtain ⟨n,q⟩ := e; obtain ⟨hn,b,hx⟩ := h; exact ⟨hn,b,(k.at hx (by simp) hd).1⟩
theorem specREncode {pl : Int} {v : Value} {l : List Pr} (hl : DL propC 4 v l) (hs : smallP l) (hok : ∀ c,encP pl l = .ok c → Q (.tuple #[.string c,flt 0 0 0]) σ) (hbad : ∀ (k r a : Nat),encP pl l = .error (k,r,a) → Q (.tuple #[.string emp,flt k r a]) σ) :
  CallS E B 47 [.int .i64 pl,v] σ Q := by
 have hlen := DLp.len hl
 obtain ⟨hs1,hs2⟩ := hs
 unfold encP at hok hbad
 refine call47 (by simp) ?_
 simp only [strip,bodyOf,Tryz.f47,getD_body,keepN,bareOp_mk,lessOp_mk,lapp_cons,lapp_nil,List.map_cons,List.map_nil,↓reduceIte,Nat.reduceEqDiff,Bool.false_eq_true]
 simp (disch := first | assumption | simp) only [↓sbD,sbU,↓reduceIte,Nat.reduceEqDiff,Nat.reduceLT,reduceCtorEq,AS_new,zeFlt]
 intro c hc
 refine specRPCheck hl (by omega) ?_
 cases hcc : chk pl [] l with
 | some e =>
  obtain ⟨k,r,a⟩ := e
  rw [hcc] at hbad
  have hk0 : ¬ (k : Int) = 0 := by have := chk_k hcc; omega
  simp only [fltO]
  simp (disch := first | assumption | simp) only [↓sbD,sbU,tyB,↓reduceIte,Nat.reduceEqDiff,Nat.reduceLT,Nat.reduceAdd,Nat.reduceLeDiff,reduceCtorEq,isConst,splice,AS_new,zeFlt]
  intro b hb
  have hbc : b ≠ c := by rintro rfl; rw [AHeap.get_set_same] at hb; cases hb
  have bc : ∀ (τ : AHeap) o,(AHeap.set τ b o).get c = τ.get c := fun τ o => AHeap.get_set_ne _ _ hbc
  have hbd : σ.get b = .dead := by rw [AHeap.get_set_ne _ _ hbc.symm] at hb; exact hb
  simp (disch := first | assumption | simp) only [↓sbD,sbU,tyB,↓reduceIte,Nat.reduceEqDiff,Nat.reduceLT,Nat.reduceAdd,Nat.reduceLeDiff,splice,hk0,bc]
  exact downS_le (Le.new' (Le.new' (Le.new' (Le.new hc) hbd) hbd) hc) (hbad k r a rfl)
 | none =>
  rw [hcc] at hok hbad
  simp only at hok hbad
  simp only [fltO]
  simp (disch := first | assumption | simp) only [↓sbD,sbU,tyB,decide_false,Bool.false_eq_true,↓reduceIte,Nat.reduceEqDiff,Nat.reduceLT,Nat.reduceAdd,Nat.reduceLeDiff,reduceCtorEq,pairs,isConst,splice,boxS,Edp,ZV.val,Bool.false_and,AS_new,zeFlt,dpX]
  intro b hb x hx
  have hbc : b ≠ c := by rintro rfl; rw [AHeap.get_set_same] at hb; cases hb
  have hbd : σ.get b = .dead := by rw [AHeap.get_set_ne _ _ hbc.symm] at hb; exact hb
  generalize hσ2 : AHeap.set (AHeap.set (AHeap.set σ c _) b _) b _ = σ2 at hx ⊢
  have gc2 : σ2.get c = .cells [.int .i64 0,.int .i64 0,.int .i64 0] true 0 := by rw [← hσ2,AHeap.get_set_ne _ _ hbc,AHeap.get_set_ne _ _ hbc]; exact AHeap.get_set_same _ _ _
  have k2 : Kept σ [] σ2 [] := by rw [← hσ2]; exact (((Kept.refl σ []).setD hc).setD hbd).setD hbd
  clear hσ2 hb
  have hcx : c ≠ x := by rintro rfl; rw [gc2] at hx; cases hx
  generalize hσ3 : AHeap.set σ2 x _ = σ3
  have hI : XRun σ3 x (runW emp []) := by rw [← hσ3]; exact AHeap.get_set_same _ _ _
  have k3 : Kept σ2 [] σ3 [x] := by rw [← hσ3]; exact Kept.new' hx
  have gc3 : σ3.get c = .cells [.int .i64 0,.int .i64 0,.int .i64 0] true 0 := (k3.at gc2 (by simp) (by simp)).1
  clear hσ3
  refine S_loop (fun m f σ' => ∃ i : Nat,m + i = l.length ∧ f 8 = .int .i64 i ∧ XRun σ' x (runW emp ((l.take i).flatMap actsP)) ∧ leW (runW emp ((l.take i).flatMap actsP)) (6012 * i) ∧ Kept σ3 [x] σ' [x]) l.length (Le.refl _) ⟨0,rfl,by simp (disch := first | assumption | simp) only [sbU,↓reduceIte]; rfl,hI,fun b hb => by injection hb with hb; subst hb; show emp.size ≤ _; exact Nat.zero_le _,Kept.refl _ _⟩ ?_
  clear hI
  rintro m f σ4 ⟨i,hm,f8,hI,hz,hk⟩ hf
  have f0 := hf 0 (by decide) (notMem_wr (by kernel_rfl))
  have f1 := hf 1 (by decide) (notMem_wr (by kernel_rfl))
  have f5 := hf 5 (by decide) (notMem_wr (by kernel_rfl))
  have f7 := hf 7 (by decide) (notMem_wr (by kernel_rfl))
  simp (disch := first | assumption | simp) only [sbU,↓reduceIte,Nat.reduceEqDiff,reduceCtorEq] at f0 f1 f5 f7
  clear hf
  by_cases hi : (i : Int) < (l.length : Int)
  ·have hi' : i < l.length := by omega
   have hia := DLp.at hl hi'
   have hsz := hs2 _ (List.getElem_mem hi')
   have hwi := wrap_suc (n := i) (by omega)
   have htk : l.take (i + 1) = l.take i ++ [l[i]] := List.take_succ_eq_append_getElem hi'
   have hbp := chk_at (a := []) hi' hcc
   generalize l[i] = y at hia hsz htk hbp
   have ht0 : typI y.id ≠ 0 := by
    unfold badP at hbp
    cases hg : groundP pl ([] ++ l.take i) y.id with
    | some e => rw [hg] at hbp; cases hbp
    | none => exact (groundP_typ hg).1
   have hac : propC y = [.int .i64 y.id,.int .i64 y.n,.string y.s,.string y.v] := rfl
   have hst : runW emp ((l.take (i + 1)).flatMap actsP) = stepW (runW emp ((l.take i).flatMap actsP)) (actsP y) := by
    rw [htk,List.flatMap_append,runW_app]
    simp only [List.flatMap_cons,List.flatMap_nil,List.append_nil]
    cases runW emp ((l.take i).flatMap actsP) <;> rfl
   generalize runW emp ((l.take i).flatMap actsP) = r at hI hz hst
   simp (disch := first | assumption | simp) only [↓sbD,sbU,tyB,Bool.or_self,↓reduceIte,Nat.reduceEqDiff,Nat.reduceLT,Nat.reduceAdd,Nat.reduceLeDiff,reduceCtorEq,pairs,isConst,splice,ZV.val,f1,f7,f8,hlen,hi,hia,hac,AS_new,zePr]
   intro d hd
   have kd : Kept σ4 [] _ [] := Kept.tmp (o := .cells [.int .i64 0,.int .i64 0,.string ⟨#[]⟩,.string ⟨#[]⟩] true 0) (o' := .cells [.int .i64 y.id,.int .i64 y.n,.string y.s,.string y.v] true 0) hd
   have gd : (AHeap.set (AHeap.set σ4 d (.cells [.int .i64 0,.int .i64 0,.string ⟨#[]⟩,.string ⟨#[]⟩] true 0)) d (.cells [.int .i64 y.id,.int .i64 y.n,.string y.s,.string y.v] true 0)).get d = .cells [.int .i64 y.id,.int .i64 y.n,.string y.s,.string y.v] true 0 := AHeap.get_set_same _ _ _
   have hdx : d ≠ x := by
    rintro rfl
    cases r with
    | inl b => rw [show σ4.get d = _ from hI] at hd; cases hd
    | inr e => obtain ⟨n,q⟩ := e; obtain ⟨_,b,hx⟩ := hI; rw [show σ4.get d = _ from hx] at hd; cases hd
   have hz1 := leW_step (a := ⟨5,y.id,emp⟩) hz
   have he : emp.size = 0 := rfl
   simp only [he] at hz1
   refine specDoR (a := ⟨5,y.id,emp⟩) (XRun.kept hI kd (by simp)) (fun b hb => by have := hz b hb; omega) (by show emp.size ≤ _; omega) fun σ5 k5 x5 => ?_
   have gd5 := (k5.at gd (by simp) (by simpa using hdx)).1
   simp (disch := first | assumption | simp) only [↓sbD,sbU,tyB,↓reduceIte,Nat.reduceEqDiff,Nat.reduceLT,reduceCtorEq,gd5]
   refine specRType ?_
   have hstep : ∀ L,stepW (stepW r [⟨5,y.id,emp⟩]) L = stepW r (⟨5,y.id,emp⟩ :: L) := fun L => stepW_app
   have fin : ∀ σ6,Kept σ5 [x] σ6 [x] → Kept σ3 [x] σ6 [x] := fun σ6 k6 => hk.trans ((kd.wid (gp := [x]) (gp' := [x]) (fun _ h => by cases h) (fun _ h => .inr h)).trans (k5.trans k6))
   have one : ∀ (T n : Int) (s : ByteArray),actsP y = [⟨5,y.id,emp⟩,⟨T,y.n,y.s⟩] → actW ⟨T,n,s⟩ = actW ⟨T,y.n,y.s⟩ → stepW (stepW r [⟨5,y.id,emp⟩]) [⟨T,n,s⟩] = runW emp ((l.take (i + 1)).flatMap actsP) := by
    intro T n s h1 h2
    rw [step_congr h2,hstep,hst,h1]
   unfold actsP at one hst
   rcases typ_cases y.id with ht | ht | ht | ht | ht | ht | ht | ht
   ·exact absurd ht ht0
   ·rw [ht] at one
    have o1 := one 1 y.n emp rfl act1
    have hz2 := leW_step (a := ⟨1,y.n,emp⟩) hz1
    simp only [he] at hz2
    simp (disch := first | assumption | simp) only [↓sbD,sbU,tyB,Int.reduceEq,decide_false,↓reduceIte,Nat.reduceEqDiff,Nat.reduceLT,Nat.reduceAdd,Nat.reduceLeDiff,reduceCtorEq,pairs,isConst,splice,ZV.val,ht,f7,gd5]
    refine specDoR (a := ⟨1,y.n,emp⟩) x5 (fun b hb => by have := hz1 b hb; omega) (by show emp.size ≤ _; omega) fun σ6 k6 x6 => ?_
    rw [o1] at x6 hz2
    simp (disch := first | assumption | simp) only [↓sbD,sbU,↓reduceIte,Nat.reduceEqDiff,Nat.reduceLT,isConst,f8,hwi]
    exact ⟨_,m - 1,σ6,rfl,by omega,Le.refl _,i + 1,by omega,by simp (disch := first | assumption | simp) only [sbU,↓reduceIte],x6,fun b hb => by have := hz2 b hb; omega,fin σ6 k6⟩
   ·rw [ht] at one
    have o1 := one 2 y.n emp rfl act2
    have hz2 := leW_step (a := ⟨2,y.n,emp⟩) hz1
    simp only [he] at hz2
    simp (disch := first | assumption | simp) only [↓sbD,sbU,tyB,Int.reduceEq,decide_false,↓reduceIte,Nat.reduceEqDiff,Nat.reduceLT,Nat.reduceAdd,Nat.reduceLeDiff,reduceCtorEq,pairs,isConst,splice,ZV.val,ht,f7,gd5]
    refine specDoR (a := ⟨2,y.n,emp⟩) x5 (fun b hb => by have := hz1 b hb; omega) (by show emp.size ≤ _; omega) fun σ6 k6 x6 => ?_
    rw [o1] at x6 hz2
    simp (disch := first | assumption | simp) only [↓sbD,sbU,↓reduceIte,Nat.reduceEqDiff,Nat.reduceLT,isConst,f8,hwi]
    exact ⟨_,m - 1,σ6,rfl,by omega,Le.refl _,i + 1,by omega,by simp (disch := first | assumption | simp) only [sbU,↓reduceIte],x6,fun b hb => by have := hz2 b hb; omega,fin σ6 k6⟩
   ·rw [ht] at one
    have o1 := one 4 y.n emp rfl act4
    have hz2 := leW_step (a := ⟨4,y.n,emp⟩) hz1
    simp only [he] at hz2
    simp (disch := first | assumption | simp) only [↓sbD,sbU,tyB,Int.reduceEq,decide_false,↓reduceIte,Nat.reduceEqDiff,Nat.reduceLT,Nat.reduceAdd,Nat.reduceLeDiff,reduceCtorEq,pairs,isConst,splice,ZV.val,ht,f7,gd5]
    refine specDoR (a := ⟨4,y.n,emp⟩) x5 (fun b hb => by have := hz1 b hb; omega) (by show emp.size ≤ _; omega) fun σ6 k6 x6 => ?_
    rw [o1] at x6 hz2
    simp (disch := first | assumption | simp) only [↓sbD,sbU,↓reduceIte,Nat.reduceEqDiff,Nat.reduceLT,isConst,f8,hwi]
    exact ⟨_,m - 1,σ6,rfl,by omega,Le.refl _,i + 1,by omega,by simp (disch := first | assumption | simp) only [sbU,↓reduceIte],x6,fun b hb => by have := hz2 b hb; omega,fin σ6 k6⟩
   ·rw [ht] at one
    have o1 := one 5 y.n emp rfl act5
    have hz2 := leW_step (a := ⟨5,y.n,emp⟩) hz1
    simp only [he] at hz2
    simp (disch := first | assumption | simp) only [↓sbD,sbU,tyB,Int.reduceEq,decide_false,↓reduceIte,Nat.reduceEqDiff,Nat.reduceLT,Nat.reduceAdd,Nat.reduceLeDiff,reduceCtorEq,pairs,isConst,splice,ZV.val,ht,f7,gd5]
    refine specDoR (a := ⟨5,y.n,emp⟩) x5 (fun b hb => by have := hz1 b hb; omega) (by show emp.size ≤ _; omega) fun σ6 k6 x6 => ?_
    rw [o1] at x6 hz2
    simp (disch := first | assumption | simp) only [↓sbD,sbU,↓reduceIte,Nat.reduceEqDiff,Nat.reduceLT,isConst,f8,hwi]
    exact ⟨_,m - 1,σ6,rfl,by omega,Le.refl _,i + 1,by omega,by simp (disch := first | assumption | simp) only [sbU,↓reduceIte],x6,fun b hb => by have := hz2 b hb; omega,fin σ6 k6⟩
   ·rw [ht] at one
    have o1 := one 6 0 y.s rfl act6
    have hz2 := leW_step (a := ⟨6,0,y.s⟩) hz1
    simp only at hz2
    simp (disch := first | assumption | simp) only [↓sbD,sbU,tyB,↓reduceIte,Nat.reduceEqDiff,Nat.reduceLT,Nat.reduceAdd,Nat.reduceLeDiff,reduceCtorEq,pairs,isConst,splice,ZV.val,ht,f7,gd5]
    refine specDoR (a := ⟨6,0,y.s⟩) x5 (fun b hb => by have := hz1 b hb; omega) (by show y.s.size ≤ _; omega) fun σ6 k6 x6 => ?_
    rw [o1] at x6 hz2
    simp (disch := first | assumption | simp) only [↓sbD,sbU,↓reduceIte,Nat.reduceEqDiff,Nat.reduceLT,isConst,f8,hwi]
    exact ⟨_,m - 1,σ6,rfl,by omega,Le.refl _,i + 1,by omega,by simp (disch := first | assumption | simp) only [sbU,↓reduceIte],x6,fun b hb => by have := hz2 b hb; omega,fin σ6 k6⟩
   ·rw [ht] at one
    have o1 := one 7 0 y.s rfl act7
    have hz2 := leW_step (a := ⟨7,0,y.s⟩) hz1
    simp only at hz2
    simp (disch := first | assumption | simp) only [↓sbD,sbU,tyB,Int.reduceEq,decide_false,↓reduceIte,Nat.reduceEqDiff,Nat.reduceLT,Nat.reduceAdd,Nat.reduceLeDiff,reduceCtorEq,pairs,isConst,splice,ZV.val,ht,f7,gd5]
    refine specDoR (a := ⟨7,0,y.s⟩) x5 (fun b hb => by have := hz1 b hb; omega) (by show y.s.size ≤ _; omega) fun σ6 k6 x6 => ?_
    rw [o1] at x6 hz2
    simp (disch := first | assumption | simp) only [↓sbD,sbU,↓reduceIte,Nat.reduceEqDiff,Nat.reduceLT,isConst,f8,hwi]
    exact ⟨_,m - 1,σ6,rfl,by omega,Le.refl _,i + 1,by omega,by simp (disch := first | assumption | simp) only [sbU,↓reduceIte],x6,fun b hb => by have := hz2 b hb; omega,fin σ6 k6⟩
   ·rw [ht] at hst
    simp only [if_true] at hst
    have hz2 := leW_step (a := ⟨6,0,y.s⟩) hz1
    simp only at hz2
    simp (disch := first | assumption | simp) only [↓sbD,sbU,tyB,Int.reduceEq,decide_false,↓reduceIte,Nat.reduceEqDiff,Nat.reduceLT,Nat.reduceAdd,Nat.reduceLeDiff,reduceCtorEq,pairs,isConst,splice,ZV.val,ht,f7,gd5]
    refine specDoR (a := ⟨6,0,y.s⟩) x5 (fun b hb => by have := hz1 b hb; omega) (by show y.s.size ≤ _; omega) fun σ6 k6 x6 => ?_
    have gd6 := (k6.at gd5 (by simp) (by simpa using hdx)).1
    have hz3 := leW_step (a := ⟨6,0,y.v⟩) hz2
    simp only at hz3
    simp (disch := first | assumption | simp) only [↓sbD,sbU,tyB,↓reduceIte,Nat.reduceEqDiff,Nat.reduceLT,Nat.reduceAdd,Nat.reduceLeDiff,reduceCtorEq,pairs,splice,ZV.val,f7,gd6]
    refine specDoR (a := ⟨6,0,y.v⟩) x6 (fun b hb => by have := hz2 b hb; omega) (by show y.v.size ≤ _; omega) fun σ7 k7 x7 => ?_
    have o1 : stepW (stepW (stepW r [⟨5,y.id,emp⟩]) [⟨6,0,y.s⟩]) [⟨6,0,y.v⟩] = runW emp ((l.take (i + 1)).flatMap actsP) := by
     rw [stepW_app,hstep]; exact hst.symm
    rw [o1] at x7 hz3
    simp (disch := first | assumption | simp) only [↓sbD,sbU,↓reduceIte,Nat.reduceEqDiff,Nat.reduceLT,isConst,f8,hwi]
    exact ⟨_,m - 1,σ7,rfl,by omega,Le.refl _,i + 1,by omega,by simp (disch := first | assumption | simp) only [sbU,↓reduceIte],x7,fun b hb => by have := hz3 b hb; omega,fin σ7 (k6.trans k7)⟩
  ·obtain rfl : i = l.length := by omega
   rw [List.take_length] at hI hz
   have gc4 := (hk.at gc3 (by simp) (by simpa using hcx)).1
   have kall : ∀ o,Kept σ [] (AHeap.set σ4 c o) [] := fun o => (k2.trans ((k3.trans hk).wid (gp := []) (gp' := []) (fun _ h => by cases h) (fun _ h => by cases h))).setD hc
   cases hr : runW emp (l.flatMap actsP) with
   | inl C =>
    rw [hr] at hI hz hok
    have hI : σ4.get x = .cells [.string C,.int .i64 0,.int .i64 0] true 0 := hI
    have hzC := hz C rfl
    simp (disch := first | assumption | simp) only [↓sbD,sbU,tyB,decide_false,Bool.or_self,↓reduceIte,Nat.reduceEqDiff,Nat.reduceLT,reduceCtorEq,goInt,isConst,f1,f7,f8,hlen,hi,hI]
    refine specXVar (by omega) ?_
    have es : (str (enc C.size)).size ≤ 4 := by rw [str_size,enc_len]; exact (vsize_pos _).2
    have hxc : Nat.beq c x = false := beq_ne hcx
    simp (disch := first | assumption | simp) only [↓sbD,sbU,tyB,Bool.or_self,↓reduceIte,Nat.reduceEqDiff,Nat.reduceLT,Nat.reduceAdd,Nat.reduceLeDiff,reduceCtorEq,pairs,isConst,splice,ZV.val,f5,f7,hI,gc4,str_add (show (str (enc C.size)).size + C.size ≤ 1000000000 by omega)]
    refine drawS_l (fl := [(9,5)]) (by kernel_rfl) ?_ ?_
    rotate_left; simp only [lastP_cc,lastP_one]; rotate_left
    ·simp only [List.all_cons,List.all_nil,floatS,List.getElem?_cons_succ,List.getElem?_cons_zero,List.getElem?_toArray,Region.wanted,Bool.not_true,Bool.not_false,Bool.or_true,reads,looksWeak,aev_tmp,upd_at,↓reduceIte,Nat.reduceLT,Nat.reduceAdd,blkOf,oeq_refl,dead_cells,Bool.and_true,Bool.and_self,Bool.false_eq_true,Bool.not_false,hI]
    simp (disch := first | assumption | simp) only [↓sbD,sbU,tyB,↓reduceIte,Nat.reduceEqDiff,Nat.reduceLT,Nat.reduceAdd,Nat.reduceLeDiff,f5,res_cellc,resC_some]
    exact downS_le (kall _).le (hok _ rfl)
   | inr e =>
    obtain ⟨k,q⟩ := e
    rw [hr] at hI hbad
    obtain ⟨hk0,C,hI⟩ := hI
    have hI : σ4.get x = .cells [.string C,.int .i64 k,.int .i64 q] true 0 := hI
    have hk0' : ¬ (k : Int) = 0 := by omega
    simp (disch := first | assumption | simp) only [↓sbD,sbU,tyB,decide_false,Bool.or_self,↓reduceIte,Nat.reduceEqDiff,Nat.reduceLT,Nat.reduceAdd,Nat.reduceLeDiff,reduceCtorEq,pairs,isConst,splice,ZV.val,f1,f5,f7,f8,hlen,hi,hI,hk0',gc4,res_cellc,resC_some]
    exact downS_le (kall _).le (hbad k 129 q rfl)
end
end Go.Proofs.YtjkhhdknplelcaaGreatDoor.AbsA
namespace Go.Proofs.YtjkhhdknplelcaaGreatDoor.AbsA
open Go AbsYtjkhhdknplelcaaGreatDoor Abs
set_option maxRecDepth 100000
set_option maxHeartbeats 4000000
set_option linter.unusedSimpArgs false
set_option linter.unusedVariables false
theorem typed_pr {H : AHeap} {d : Nat} {xs : List Value} (h : Typed E H d 104 xs) : ∃ a : Pr,xs = propC a := by
 cases d with
 | zero => exact h.elim
 | succ d =>
  simp only [Typed,ty104] at h
  obtain ⟨hl,hp⟩ := h
  match xs,hl with
  | [x,y,z,w],_ =>
   obtain ⟨j,j1,j2⟩ := hp (0,3,false) (by simp)
   rw [ty3] at j1; injection j1 with j1; subst j1
   obtain ⟨n1,e1,_⟩ := typed_int (by simpa using j2)
   obtain ⟨j,j1,j2⟩ := hp (1,3,false) (by simp)
   rw [ty3] at j1; injection j1 with j1; subst j1
   obtain ⟨n2,e2,_⟩ := typed_int (by simpa using j2)
   obtain ⟨j,j1,j2⟩ := hp (2,9,false) (by simp)
   rw [ty9] at j1; injection j1 with j1; subst j1
   obtain ⟨s,e3,_⟩ := typed_str (by simpa using j2)
   obtain ⟨j,j1,j2⟩ := hp (3,9,false) (by simp)
   rw [ty9] at j1; injection j1 with j1; subst j1
   obtain ⟨t,e4,_⟩ := typed_str (by simpa using j2)
   simp only [List.cons.injEq,and_true] at e1 e2 e3 e4
   exact ⟨⟨n1,n2,s,t⟩,by rw [e1,e2,e3,e4]; rfl⟩
end Go.Proofs.YtjkhhdknplelcaaGreatDoor.AbsA
