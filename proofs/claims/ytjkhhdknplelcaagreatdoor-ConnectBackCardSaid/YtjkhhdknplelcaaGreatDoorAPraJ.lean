/-
  Parts of a law's proof.
-/
import Derived.Test.YtjkhhdknplelcaaGreatDoorAPrqeJ
import Derived.Test.YtjkhhdknplelcaaGreatDoorAFwqdJ
import Derived.Test.YtjkhhdknplelcaaGreatDoorARdqbJ
import Derived.Test.YtjkhhdknplelcaaGreatDoorAFrqbJ
namespace Go.Proofs.YtjkhhdknplelcaaGreatDoor.AbsB
open Go AbsYtjkhhdknplelcaaGreatDoor Abs
set_option maxRecDepth 100000
set_option maxHeartbeats 2000000
set_option linter.unusedSimpArgs false
set_option linter.unusedVariables false
def plain (x : Pr) : Prop := (typI x.id < 6 → x.s = emp ∧ x.v = emp) ∧ (5 < typI x.id → x.n = 0) ∧ (typI x.id = 6 ∨ typI x.id = 7 → x.v = emp)
theorem badP_none {pl : Int} {a : List Pr} {x : Pr} (h : badP pl a x = none) : groundP pl a x.id = none ∧ numOk x = true := by
 unfold badP at h
 cases hg : groundP pl a x.id with
 | some e => rw [hg] at h; cases h
 | none =>
  rw [hg] at h
  cases hn : numOk x with
  | true => exact ⟨rfl,rfl⟩
  | false => rw [hn] at h; simp at h
theorem one_mid {pl : Int} {ahead : List Pr} {x : Pr} {m : ByteArray} (A Bt : ByteArray) (hb : badP pl ahead x = none) (hpl : plain x) (hm : catW (actsP x) = some m) : oneR pl (A ++ m ++ Bt) A.size ahead = .ok (x,A.size + m.size) := by
 obtain ⟨hg,hn⟩ := badP_none hb
 have ht0 := (groundP_typ hg).1
 obtain ⟨id,n,s,v⟩ := x
 simp only at *
 have hsp : actsP ⟨id,n,s,v⟩ = [⟨5,id,emp⟩] ++ (if typI id = 9 then [⟨6,0,s⟩,⟨6,0,v⟩] else if typI id = 0 then [] else [⟨typI id,n,s⟩]) := rfl
 rw [hsp] at hm
 obtain ⟨m1,m2,h1,h2,rfl⟩ := catW_split hm
 have hid : actW ⟨5,id,emp⟩ = .inl m1 := by
  simp only [catW] at h1
  cases ha : actW ⟨5,id,emp⟩ with
  | inl m' => rw [ha] at h1; simp only [Option.some.injEq,app_emp'] at h1; rw [h1]
  | inr e => rw [ha] at h1; simp at h1
 have e1 : A ++ (m1 ++ m2) ++ Bt = A ++ m1 ++ (m2 ++ Bt) := by simp only [app_assoc]
 have r1 := rdA_mid A (m2 ++ Bt) (a := ⟨5,id,emp⟩) (by unfold kindOk; simp) hid
 simp only [rdA,Int.reduceEq,Int.reduceLT,if_true,if_false] at r1
 have hvar : ∃ N : Nat,(N : Int) = id ∧ varR (A ++ m1 ++ (m2 ++ Bt)) A.size = .ok (N,A.size + m1.size) := by
  cases hv : varR (A ++ m1 ++ (m2 ++ Bt)) A.size with
  | error e => rw [hv] at r1; cases r1
  | ok a =>
   obtain ⟨N,q⟩ := a
   rw [hv] at r1
   simp only [mapN,Except.ok.injEq,Prod.mk.injEq] at r1
   exact ⟨N,r1.1.1,by rw [r1.2]⟩
 obtain ⟨N,rfl,hvar⟩ := hvar
 unfold oneR
 rw [e1,hvar]
 simp only [hg]
 have e2 : A ++ m1 ++ (m2 ++ Bt) = (A ++ m1) ++ m2 ++ Bt := by simp only [app_assoc]
 have ez : A.size + m1.size = (A ++ m1).size := (size_app _ _).symm
 have ez2 : A.size + (m1 ++ m2).size = (A ++ m1).size + m2.size := by simp only [size_app]; omega
 rw [e2,ez,ez2]
 generalize A ++ m1 = A1
 have hval : valueR (N : Int) (A1 ++ m2 ++ Bt) A1.size = .ok (⟨N,n,s,v⟩,A1.size + m2.size) := by
  unfold valueR
  obtain ⟨p1,p2,p3⟩ := hpl
  simp only at p1 p2 p3
  by_cases h9 : typI (N : Int) = 9
  ·rw [if_pos h9] at h2 ⊢
   have hsp2 : ([⟨6,0,s⟩,⟨6,0,v⟩] : List Act) = [⟨6,0,s⟩] ++ [⟨6,0,v⟩] := rfl
   rw [hsp2] at h2
   obtain ⟨m3,m4,h3,h4,rfl⟩ := catW_split h2
   have one : ∀ (t m : ByteArray),catW [⟨6,0,t⟩] = some m → actW ⟨6,0,t⟩ = .inl m := by
    intro t m h
    simp only [catW] at h
    cases ha : actW ⟨6,0,t⟩ with
    | inl m' => rw [ha] at h; simp only [Option.some.injEq,app_emp'] at h; rw [h]
    | inr e => rw [ha] at h; simp at h
   have tx : ∀ (A B t m : ByteArray),catW [⟨6,0,t⟩] = some m → textR (A ++ m ++ B) A.size = .ok (t,A.size + m.size) := by
    intro A B t m h
    have r := rdA_mid A B (a := ⟨6,0,t⟩) (by unfold kindOk; simp) (one t m h)
    simp only [rdA,Int.reduceEq,Int.reduceLT,if_true,if_false] at r
    cases hv : textR (A ++ m ++ B) A.size with
    | error e => rw [hv] at r; cases r
    | ok a =>
     obtain ⟨b,q⟩ := a
     rw [hv] at r
     simp only [mapS,Except.ok.injEq,Prod.mk.injEq] at r
     rw [r.1.2,r.2]
   have e3 : A1 ++ (m3 ++ m4) ++ Bt = A1 ++ m3 ++ (m4 ++ Bt) := by simp only [app_assoc]
   rw [e3,tx A1 (m4 ++ Bt) s m3 h3]
   simp only
   have e4 : A1 ++ m3 ++ (m4 ++ Bt) = (A1 ++ m3) ++ m4 ++ Bt := by simp only [app_assoc]
   have ez3 : A1.size + m3.size = (A1 ++ m3).size := (size_app _ _).symm
   rw [e4,ez3,tx (A1 ++ m3) Bt v m4 h4]
   simp only
   rw [p2 (by omega)]
   simp only [size_app,Except.ok.injEq,Prod.mk.injEq,true_and]
   omega
  ·rw [if_neg h9,if_neg ht0] at h2
   rw [if_neg h9]
   have ha : actW ⟨typI N,n,s⟩ = .inl m2 := by
    simp only [catW] at h2
    cases ha : actW ⟨typI N,n,s⟩ with
    | inl m' => rw [ha] at h2; simp only [Option.some.injEq,app_emp'] at h2; rw [h2]
    | inr e => rw [ha] at h2; simp at h2
   have hk : kindOk (typI (N : Int)) := by
    have := typ_cases (N : Int)
    unfold kindOk; omega
   rw [rdA_mid A1 Bt (a := ⟨typI N,n,s⟩) hk ha]
   simp only
   by_cases h6 : typI (N : Int) < 6
   ·rw [if_pos h6,if_pos h6,(p1 h6).1,(p1 h6).2]
   ·have := typ_cases (N : Int)
    rw [if_neg h6,if_neg h6,p2 (by omega),p3 (by omega)]
 rw [hval]
 simp only [hn,if_true]
theorem runW_cat : ∀ {l : List Act} {b c : ByteArray},runW b l = .inl c → ∃ d,catW l = some d ∧ c = b ++ d
 | [],b,c,h => by
  injection h with h
  exact ⟨emp,rfl,by rw [← h,app_emp']⟩
 | a :: l,b,c,h => by
  simp only [runW] at h
  cases ha : actW a with
  | inl m =>
   rw [ha] at h
   obtain ⟨d,h1,rfl⟩ := runW_cat h
   exact ⟨m ++ d,by simp only [catW,ha,h1],by rw [app_assoc]⟩
  | inr e => obtain ⟨k,q⟩ := e; rw [ha] at h; cases h
theorem all_mid {pl : Int} {l : List Pr} {C : ByteArray} (hc : chk pl [] l = none) (hpl : ∀ x ∈ l,plain x) (hm : catW (l.flatMap actsP) = some C) : ∀ (k i : Nat),i + k = l.length → ∃ A,catW ((l.take i).flatMap actsP) = some A ∧ AllP pl C A.size (l.take i) (.ok l)
 | 0,i,hi => by
  have : l.take i = l := List.take_of_length_le (by omega)
  rw [this]
  exact ⟨C,hm,.nil (Nat.le_refl _)⟩
 | k + 1,i,hi => by
  obtain ⟨A',hA',hall⟩ := all_mid hc hpl hm k (i + 1) (by omega)
  have hi' : i < l.length := by omega
  have htk : l.take (i + 1) = l.take i ++ [l[i]] := List.take_succ_eq_append_getElem hi'
  have hsp : l = l.take (i + 1) ++ l.drop (i + 1) := (List.take_append_drop _ _).symm
  have hm2 := hm
  rw [hsp,List.flatMap_append] at hm2
  obtain ⟨X,D,h1,h2,h3⟩ := catW_split hm2
  rw [hA'] at h1; injection h1 with h1; subst h1
  rw [htk,List.flatMap_append] at hA'
  obtain ⟨A,m,h4,h5,rfl⟩ := catW_split hA'
  simp only [List.flatMap_cons,List.flatMap_nil,List.append_nil] at h5
  have hb := chk_at (a := []) hi' hc
  rw [List.nil_append] at hb
  have ho := one_mid A D hb (hpl _ (List.getElem_mem hi')) h5
  rw [← h3] at ho
  refine ⟨A,h4,.step ?_ ho ?_⟩
  ·have hpos : 0 < m.size := by
    have := oneR_ok (s := C) (p := A.size) (by rw [h3]; simp only [size_app]; omega) ho
    omega
   rw [h3]; simp only [size_app]; omega
  ·rw [← htk,← size_app]; exact hall
attribute [local irreducible] afterS afterOpS opSK OpsS TrS CodeS condS condW thenS thenQ guardS guardTS outS drawS trSK consS
section
variable {σ : AHeap} {Q : Value → AHeap → Prop} {x : Nat} {r : ByteArray ⊕ (Nat × Nat)}
end
section
variable {σ : AHeap} {Q : Value → AHeap → Prop}
end
set_option maxHeartbeats 4000000
section
variable {σ : AHeap} {Q : Value → AHeap → Prop}
theorem specRType {id : Int} (h : Q (.int .i64 (typI id)) σ) : CallS E B 96 [.int .i64 id] σ Q := by
 refine call96 (by simp) ?_
 simp only [strip,bodyOf,Tryz.f96,getD_body,keepN,bareOp_mk,List.map_cons,List.map_nil,↓reduceIte,Bool.false_eq_true]
 by_cases hm : id ∈ ids
 ·simp only [ids,List.mem_cons,List.not_mem_nil,or_false] at hm
  rcases hm with rfl | rfl | rfl | rfl | rfl | rfl | rfl | rfl | rfl | rfl | rfl | rfl | rfl | rfl | rfl | rfl | rfl | rfl | rfl | rfl | rfl | rfl | rfl | rfl | rfl | rfl | rfl <;>
   (simp only [↓sbD,sbU,Int.reduceEq,decide_false,↓reduceIte,Nat.reduceEqDiff,Nat.reduceLT,reduceCtorEq,isConst]
    exact downS_here h)
 ·simp only [ids,List.mem_cons,List.not_mem_nil,or_false,not_or] at hm
  have e : typI id = 0 := by simp [typI,hm]
  rw [e] at h
  obtain ⟨n1,n2,n3,n4,n5,n6,n7,n8,n9,n10,n11,n12,n13,n14,n15,n16,n17,n18,n19,n20,n21,n22,n23,n24,n25,n26,n27⟩ := hm
  simp only [↓sbD,sbU,decide_false,↓reduceIte,Nat.reduceEqDiff,Nat.reduceLT,reduceCtorEq,isConst,n1,n2,n3,n4,n5,n6,n7,n8,n9,n10,n11,n12,n13,n14,n15,n16,n17,n18,n19,n20,n21,n22,n23,n24,n25,n26,n27]
  exact downS_here h
end
section
variable {σ : AHeap} {Q : Value → AHeap → Prop}
end
end Go.Proofs.YtjkhhdknplelcaaGreatDoor.AbsB
namespace Go.Proofs.YtjkhhdknplelcaaGreatDoor.AbsB
open Go AbsYtjkhhdknplelcaaGreatDoor Abs
set_option maxRecDepth 100000
set_option maxHeartbeats 4000000
set_option linter.unusedSimpArgs false
set_option linter.unusedVariables false
theorem typed_pr {H : AHeap} {d : Nat} {xs : List Value} (h : Typed E H d 104 xs) : ∃ a : Pr,xs = propC a := by
 cases d with
 | zero => exact h.elim
 | succ d =>
  simp only [Typed,ty104] at h
  obtain ⟨hl,hp⟩ := h
  match xs,hl with
  | [x,y,z,w],_ =>
   obtain ⟨j,j1,j2⟩ := hp (0,3,false) (by simp)
   rw [ty3] at j1; injection j1 with j1; subst j1
   obtain ⟨n1,e1,_⟩ := typed_int (by simpa using j2)
   obtain ⟨j,j1,j2⟩ := hp (1,3,false) (by simp)
   rw [ty3] at j1; injection j1 with j1; subst j1
   obtain ⟨n2,e2,_⟩ := typed_int (by simpa using j2)
   obtain ⟨j,j1,j2⟩ := hp (2,9,false) (by simp)
   rw [ty9] at j1; injection j1 with j1; subst j1
   obtain ⟨s,e3,_⟩ := typed_str (by simpa using j2)
   obtain ⟨j,j1,j2⟩ := hp (3,9,false) (by simp)
   rw [ty9] at j1; injection j1 with j1; subst j1
   obtain ⟨t,e4,_⟩ := typed_str (by simpa using j2)
   simp only [List.cons.injEq,and_true] at e1 e2 e3 e4
   exact ⟨⟨n1,n2,s,t⟩,by rw [e1,e2,e3,e4]; rfl⟩
theorem typed_i {H : AHeap} {d : Nat} {v : Value} (h : ArgTyped E H d 3 v) : ∃ n : Int,v = .int .i64 n := by
 obtain ⟨xs,g1,rfl⟩ := h.one ty3 rfl
 obtain ⟨n,g2,_⟩ := typed_int g1
 subst g2
 exact ⟨n,rfl⟩
theorem typed_s {H : AHeap} {d : Nat} {v : Value} (h : ArgTyped E H d 9 v) : ∃ n : ByteArray,v = .string n := by
 obtain ⟨xs,g1,rfl⟩ := h.one ty9 rfl
 obtain ⟨n,g2,_⟩ := typed_str g1
 subst g2
 exact ⟨n,rfl⟩
end Go.Proofs.YtjkhhdknplelcaaGreatDoor.AbsB
