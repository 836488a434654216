/-
  Parts of a law's proof.
-/
import Derived.Test.YtdiekikcnfjlnaaGreatDoorAPrqeJ
import Derived.Test.YtdiekikcnfjlnaaGreatDoorAFwqdJ
import Derived.Test.YtdiekikcnfjlnaaGreatDoorAEnvF
import Derived.Test.YtdiekikcnfjlnaaGreatDoorAFrqbJ
namespace Go.Proofs.YtdiekikcnfjlnaaGreatDoor.AbsA
open Go AbsYtdiekikcnfjlnaaGreatDoor Abs
set_option maxRecDepth 100000
set_option maxHeartbeats 4000000
set_option linter.unusedSimpArgs false
set_option linter.unusedVariables false
attribute [local irreducible] afterS afterOpS opSK OpsS TrS CodeS condS condW thenS thenQ guardS guardTS outS drawS trSK consS
section
variable {σ : AHeap} {Q : Value → AHeap → Prop}
theorem places_len (id : Int) : (placesI id).length ≤ 20 := by
 unfold placesI
 by_cases h : id = 1 ∨ id = 2 ∨ id = 3 ∨ id = 8 ∨ id = 9
 ·rw [if_pos h]; decide
 rw [if_neg h]
 clear h
 by_cases h : id = 11
 ·rw [if_pos h]; decide
 rw [if_neg h]
 clear h
 by_cases h : id = 35
 ·rw [if_pos h]; decide
 rw [if_neg h]
 clear h
 by_cases h : id = 24
 ·rw [if_pos h]; decide
 rw [if_neg h]
 clear h
 by_cases h : id = 23 ∨ id = 25
 ·rw [if_pos h]; decide
 rw [if_neg h]
 clear h
 by_cases h : id = 18 ∨ id = 19 ∨ id = 26 ∨ id = 36 ∨ id = 37 ∨ id = 40 ∨ id = 41 ∨ id = 42
 ·rw [if_pos h]; decide
 rw [if_neg h]
 clear h
 by_cases h : id = 28
 ·rw [if_pos h]; decide
 rw [if_neg h]
 clear h
 by_cases h : id = 33 ∨ id = 34 ∨ id = 39
 ·rw [if_pos h]; decide
 rw [if_neg h]
 clear h
 by_cases h : id = 17
 ·rw [if_pos h]; decide
 rw [if_neg h]
 clear h
 by_cases h : id = 21 ∨ id = 22
 ·rw [if_pos h]; decide
 rw [if_neg h]
 clear h
 by_cases h : id = 31
 ·rw [if_pos h]; decide
 rw [if_neg h]
 clear h
 by_cases h : id = 38
 ·rw [if_pos h]; decide
 rw [if_neg h]
 clear h
 decide
theorem specRAllowed {id pl : Int} (h : Q (.bool (allow id pl)) σ) : CallS E B 11 [.int .i64 id,.int .i64 pl] σ Q := by
 rw [← places_allow] at h
 have hlz := places_len id
 refine call11 (by simp) ?_
 simp only [strip,bodyOf,Tryz.f11,getD_body,keepN,bareOp_mk,lessOp_mk,lapp_cons,lapp_nil,List.map_cons,List.map_nil,array_toList,↓reduceIte,Nat.reduceEqDiff,Bool.false_eq_true]
 simp (disch := first | assumption | simp) only [↓sbD,sbU,tyB,Nat.reduceMul,Nat.reduceSub,Int.reduceEq,Int.reduceLT,Int.reduceLE,Int.reduceNe,Nat.reduceBneDiff,Nat.reduceBEq,decide_false,gt_iff_lt,Bool.or_self,Bool.false_eq_true,Nat.mul_one,Nat.one_mul,Nat.zero_mul,↓reduceIte,Nat.reduceEqDiff,Nat.reduceLT,Nat.reduceAdd,Nat.reduceLeDiff,reduceCtorEq,goInt,pairs,isConst,TI.isAgg,splice,boxS,Edp,dpv,Nat.beq_eq,ZV.val,List.any_cons,List.any_nil,Bool.false_and]
 refine specPlaces fun v hv => ?_
 generalize placesI id = L at h hv hlz
 have hlen := DLi.len hv
 simp (disch := first | assumption | simp) only [↓sbD,sbU,tyB,Nat.reduceMul,Nat.reduceSub,Int.reduceEq,Int.reduceLT,Int.reduceLE,Int.reduceNe,Nat.reduceBneDiff,Nat.reduceBEq,decide_false,gt_iff_lt,Bool.or_self,Bool.false_eq_true,Nat.mul_one,Nat.one_mul,Nat.zero_mul,↓reduceIte,Nat.reduceEqDiff,Nat.reduceLT,Nat.reduceAdd,Nat.reduceLeDiff,reduceCtorEq,goInt,pairs,isConst,TI.isAgg,splice,boxS,Edp,dpv,Nat.beq_eq,ZV.val,List.any_cons,List.any_nil,Bool.false_and]
 refine S_loop (fun m f σ' => σ' = σ ∧ ∃ i : Nat,m + i = L.length ∧ f 6 = .int .i64 i ∧ ∀ j (hj : j < L.length),j < i → L[j] ≠ pl) L.length (Le.refl _) ⟨rfl,0,rfl,by simp (disch := first | assumption | simp) only [↓sbD,sbU,tyB,Nat.reduceMul,Nat.reduceSub,Int.reduceEq,Int.reduceLT,Int.reduceLE,Int.reduceNe,Nat.reduceBneDiff,Nat.reduceBEq,decide_false,gt_iff_lt,Bool.or_self,Bool.false_eq_true,Nat.mul_one,Nat.one_mul,Nat.zero_mul,↓reduceIte,Nat.reduceEqDiff,Nat.reduceLT,Nat.reduceAdd,Nat.reduceLeDiff,reduceCtorEq,goInt,pairs,isConst,TI.isAgg,splice,boxS,Edp,dpv,Nat.beq_eq,ZV.val,List.any_cons,List.any_nil,Bool.false_and]; rfl,fun j _ hj => by omega⟩ ?_
 rintro m f σ' ⟨rfl,i,hm,f6,hno⟩ hf
 have f0 := hf 0 (by decide) (notMem_wr (by kernel_rfl))
 have f1 := hf 1 (by decide) (notMem_wr (by kernel_rfl))
 have f5 := hf 5 (by decide) (notMem_wr (by kernel_rfl))
 simp (disch := first | assumption | simp) only [↓sbD,sbU,tyB,Nat.reduceMul,Nat.reduceSub,Int.reduceEq,Int.reduceLT,Int.reduceLE,Int.reduceNe,Nat.reduceBneDiff,Nat.reduceBEq,decide_false,gt_iff_lt,Bool.or_self,Bool.false_eq_true,Nat.mul_one,Nat.one_mul,Nat.zero_mul,↓reduceIte,Nat.reduceEqDiff,Nat.reduceLT,Nat.reduceAdd,Nat.reduceLeDiff,reduceCtorEq,goInt,pairs,isConst,TI.isAgg,splice,boxS,Edp,dpv,Nat.beq_eq,ZV.val,List.any_cons,List.any_nil,Bool.false_and] at f0 f1 f5
 clear hf
 by_cases hi : (i : Int) < (L.length : Int)
 ·have hi' : i < L.length := by omega
  have hia := DLi.at hv hi'
  have hw := wrap_suc (n := i) (by omega)
  by_cases he : L[i] = pl
  ·simp (disch := first | assumption | simp) only [↓sbD,sbU,tyB,Nat.reduceMul,Nat.reduceSub,Int.reduceEq,Int.reduceLT,Int.reduceLE,Int.reduceNe,Nat.reduceBneDiff,Nat.reduceBEq,decide_false,gt_iff_lt,Bool.or_self,Bool.false_eq_true,Nat.mul_one,Nat.one_mul,Nat.zero_mul,↓reduceIte,Nat.reduceEqDiff,Nat.reduceLT,Nat.reduceAdd,Nat.reduceLeDiff,reduceCtorEq,goInt,pairs,isConst,TI.isAgg,splice,boxS,Edp,dpv,Nat.beq_eq,ZV.val,List.any_cons,List.any_nil,Bool.false_and,f0,f1,f5,f6,hlen,hi,hia,intC,he]
   rw [decide_eq_true (by rw [← he]; exact List.getElem_mem hi')] at h
   exact downS_here h
  ·simp (disch := first | assumption | simp) only [↓sbD,sbU,tyB,Nat.reduceMul,Nat.reduceSub,Int.reduceEq,Int.reduceLT,Int.reduceLE,Int.reduceNe,Nat.reduceBneDiff,Nat.reduceBEq,decide_false,gt_iff_lt,Bool.or_self,Bool.false_eq_true,Nat.mul_one,Nat.one_mul,Nat.zero_mul,↓reduceIte,Nat.reduceEqDiff,Nat.reduceLT,Nat.reduceAdd,Nat.reduceLeDiff,reduceCtorEq,goInt,pairs,isConst,TI.isAgg,splice,boxS,Edp,dpv,Nat.beq_eq,ZV.val,List.any_cons,List.any_nil,Bool.false_and,f0,f1,f5,f6,hlen,hi,hia,intC,he,hw]
   refine ⟨_,m - 1,_,rfl,by omega,Le.refl _,rfl,i + 1,by omega,by simp (disch := first | assumption | simp) only [↓sbD,sbU,tyB,Nat.reduceMul,Nat.reduceSub,Int.reduceEq,Int.reduceLT,Int.reduceLE,Int.reduceNe,Nat.reduceBneDiff,Nat.reduceBEq,decide_false,gt_iff_lt,Bool.or_self,Bool.false_eq_true,Nat.mul_one,Nat.one_mul,Nat.zero_mul,↓reduceIte,Nat.reduceEqDiff,Nat.reduceLT,Nat.reduceAdd,Nat.reduceLeDiff,reduceCtorEq,goInt,pairs,isConst,TI.isAgg,splice,boxS,Edp,dpv,Nat.beq_eq,ZV.val,List.any_cons,List.any_nil,Bool.false_and],fun j hj hji => ?_⟩
   rcases (by omega : j < i ∨ j = i) with h3 | rfl
   ·exact hno j hj h3
   ·exact he
 ·simp (disch := first | assumption | simp) only [↓sbD,sbU,tyB,Nat.reduceMul,Nat.reduceSub,Int.reduceEq,Int.reduceLT,Int.reduceLE,Int.reduceNe,Nat.reduceBneDiff,Nat.reduceBEq,decide_false,gt_iff_lt,Bool.or_self,Bool.false_eq_true,Nat.mul_one,Nat.one_mul,Nat.zero_mul,↓reduceIte,Nat.reduceEqDiff,Nat.reduceLT,Nat.reduceAdd,Nat.reduceLeDiff,reduceCtorEq,goInt,pairs,isConst,TI.isAgg,splice,boxS,Edp,dpv,Nat.beq_eq,ZV.val,List.any_cons,List.any_nil,Bool.false_and,f0,f1,f5,f6,hlen,hi]
  rw [decide_eq_false (fun hx => by
   obtain ⟨j,hj,hje⟩ := List.getElem_of_mem hx
   exact hno j hj (by omega) hje)] at h
  exact downS_here h
theorem specRType {id : Int} (h : Q (.int .i64 (typI id)) σ) : CallS E B 9 [.int .i64 id] σ Q := by
 refine call9 (by simp) ?_
 simp only [strip,bodyOf,Tryz.f9,getD_body,keepN,bareOp_mk,lessOp_mk,lapp_cons,lapp_nil,List.map_cons,List.map_nil,array_toList,↓reduceIte,Nat.reduceEqDiff,Bool.false_eq_true]
 by_cases hm : id ∈ ids
 ·simp only [ids,List.mem_cons,List.not_mem_nil,or_false] at hm
  rcases hm with rfl | rfl | rfl | rfl | rfl | rfl | rfl | rfl | rfl | rfl | rfl | rfl | rfl | rfl | rfl | rfl | rfl | rfl | rfl | rfl | rfl | rfl | rfl | rfl | rfl | rfl | rfl <;>
   (simp (disch := first | assumption | simp) only [↓sbD,sbU,tyB,Nat.reduceMul,Nat.reduceSub,Int.reduceEq,Int.reduceLT,Int.reduceLE,Int.reduceNe,Nat.reduceBneDiff,Nat.reduceBEq,decide_false,gt_iff_lt,Bool.or_self,Bool.false_eq_true,Nat.mul_one,Nat.one_mul,Nat.zero_mul,↓reduceIte,Nat.reduceEqDiff,Nat.reduceLT,Nat.reduceAdd,Nat.reduceLeDiff,reduceCtorEq,goInt,pairs,isConst,TI.isAgg,splice,boxS,Edp,dpv,Nat.beq_eq,ZV.val,List.any_cons,List.any_nil,Bool.false_and]
    exact downS_here h)
 ·simp only [ids,List.mem_cons,List.not_mem_nil,or_false,not_or] at hm
  have e : typI id = 0 := by simp [typI,hm]
  rw [e] at h
  obtain ⟨n1,n2,n3,n4,n5,n6,n7,n8,n9,n10,n11,n12,n13,n14,n15,n16,n17,n18,n19,n20,n21,n22,n23,n24,n25,n26,n27⟩ := hm
  simp (disch := first | assumption | simp) only [↓sbD,sbU,tyB,Nat.reduceMul,Nat.reduceSub,Int.reduceEq,Int.reduceLT,Int.reduceLE,Int.reduceNe,Nat.reduceBneDiff,Nat.reduceBEq,decide_false,gt_iff_lt,Bool.or_self,Bool.false_eq_true,Nat.mul_one,Nat.one_mul,Nat.zero_mul,↓reduceIte,Nat.reduceEqDiff,Nat.reduceLT,Nat.reduceAdd,Nat.reduceLeDiff,reduceCtorEq,goInt,pairs,isConst,TI.isAgg,splice,boxS,Edp,dpv,Nat.beq_eq,ZV.val,List.any_cons,List.any_nil,Bool.false_and,n1,n2,n3,n4,n5,n6,n7,n8,n9,n10,n11,n12,n13,n14,n15,n16,n17,n18,n19,n20,n21,n22,n23,n24,n25,n26,n27]
  exact downS_here h
end
end Go.Proofs.YtdiekikcnfjlnaaGreatDoor.AbsA
namespace Go.Proofs.YtdiekikcnfjlnaaGreatDoor.AbsA
open Go AbsYtdiekikcnfjlnaaGreatDoor Abs
set_option maxRecDepth 100000
set_option maxHeartbeats 4000000
set_option linter.unusedSimpArgs false
set_option linter.unusedVariables false
theorem typed_pr {H : AHeap} {d : Nat} {xs : List Value} (h : Typed E H d 26 xs) : ∃ a : Pr,xs = propC a := by
 cases d with
 | zero => exact h.elim
 | succ d =>
  simp only [Typed,ty26] at h
  obtain ⟨hl,hp⟩ := h
  match xs,hl with
  | [x,y,z,w],_ =>
   obtain ⟨j,j1,j2⟩ := hp (0,3,false) (by simp)
   rw [ty3] at j1; injection j1 with j1; subst j1
   obtain ⟨n1,e1,_⟩ := typed_int (by simpa using j2)
   obtain ⟨j,j1,j2⟩ := hp (1,3,false) (by simp)
   rw [ty3] at j1; injection j1 with j1; subst j1
   obtain ⟨n2,e2,_⟩ := typed_int (by simpa using j2)
   obtain ⟨j,j1,j2⟩ := hp (2,9,false) (by simp)
   rw [ty9] at j1; injection j1 with j1; subst j1
   obtain ⟨s,e3,_⟩ := typed_str (by simpa using j2)
   obtain ⟨j,j1,j2⟩ := hp (3,9,false) (by simp)
   rw [ty9] at j1; injection j1 with j1; subst j1
   obtain ⟨t,e4,_⟩ := typed_str (by simpa using j2)
   simp only [List.cons.injEq,and_true] at e1 e2 e3 e4
   exact ⟨⟨n1,n2,s,t⟩,by rw [e1,e2,e3,e4]; rfl⟩
theorem typed_prs {H : AHeap} {d : Nat} {v : Value} (h : ArgTyped E H d 22 v) : ∃ l : List Pr,DL propC 4 v l := by
 obtain ⟨xs,h1,rfl⟩ := h.one ty22 rfl
 cases d with
 | zero => exact h1.elim
 | succ d =>
  simp only [Typed,ty22] at h1
  rcases h1 with rfl | ⟨h2,_⟩ | ⟨_,n,j,cs,hj,rfl,hl,hk⟩
  ·exact ⟨[],.inl ⟨rfl,rfl⟩⟩
  ·cases h2
  ·rw [ty26] at hj; injection hj with hj; subst hj
   obtain ⟨l,h3,h4⟩ := chunks (enc := propC) (fun a => rfl) n cs hl fun k hk' => typed_pr (hk k hk')
   exact ⟨l,.inr ⟨0,by rw [h3,← h4]; rfl⟩⟩
theorem typed_i {H : AHeap} {d : Nat} {v : Value} (h : ArgTyped E H d 3 v) : ∃ n : Int,v = .int .i64 n := by
 obtain ⟨xs,g1,rfl⟩ := h.one ty3 rfl
 obtain ⟨n,g2,_⟩ := typed_int g1
 subst g2
 exact ⟨n,rfl⟩
end Go.Proofs.YtdiekikcnfjlnaaGreatDoor.AbsA
namespace Go.Proofs.YtdiekikcnfjlnaaGreatDoor.AbsS
open Go AbsYtdiekikcnfjlnaaGreatDoor Abs
open AbsA (Pr propC)
set_option maxRecDepth 100000
set_option maxHeartbeats 4000000
set_option linter.unusedSimpArgs false
set_option linter.unusedVariables false
attribute [local irreducible] afterS afterOpS opSK OpsS TrS CodeS condS condW thenS thenQ guardS guardTS outS drawS trSK consS
def flat (l : List Pr) : List Value := l.flatMap propC
theorem flat_len (l : List Pr) : (flat l).length = l.length * 4 := by
 induction l with
 | nil => rfl
 | cons a l ih => show (propC a ++ flat l).length = _; rw [List.length_append,ih]; simp [propC]; omega
theorem flat_drop (l : List Pr) (i : Nat) : (flat l).drop (i * 4) = flat (l.drop i) := by
 induction l generalizing i with
 | nil => simp [flat]
 | cons a l ih =>
  cases i with
  | zero => simp
  | succ i =>
   have e : (i + 1) * 4 = 4 + i * 4 := by omega
   show (propC a ++ flat l).drop _ = _
   rw [e,← List.drop_drop,List.drop_left' (by rfl),ih]; rfl
theorem take_len_add {α : Type} (a b : List α) (i : Nat) : (a ++ b).take (a.length + i) = a ++ b.take i := by
 induction a with
 | nil => simp
 | cons x a ih => rw [List.length_cons,show a.length + 1 + i = (a.length + i) + 1 by omega]; simp [ih]
theorem flat_take (l : List Pr) (i : Nat) : (flat l).take (i * 4) = flat (l.take i) := by
 induction l generalizing i with
 | nil => simp [flat]
 | cons a l ih =>
  cases i with
  | zero => simp [flat]
  | succ i =>
   have e : (i + 1) * 4 = (propC a).length + i * 4 := by show _ = 4 + _; omega
   show (propC a ++ flat l).take _ = propC a ++ flat (l.take i)
   rw [e,take_len_add,ih]
theorem flat_app (l m : List Pr) : flat (l ++ m) = flat l ++ flat m := by simp [flat]
theorem flat_at {l : List Pr} {i : Nat} (hi : i < l.length) : ((flat l).drop (i * 4)).take 4 = propC l[i] := by
 rw [flat_drop,List.drop_eq_getElem_cons hi]
 show (propC l[i] ++ flat _).take 4 = _
 exact List.take_left' rfl
theorem flat_set {l : List Pr} {i : Nat} {p : Pr} (hi : i < l.length) : splice (flat l) (i * 4) (propC p) = flat (l.set i p) := by
 have e : i * 4 + (propC p).length = (i + 1) * 4 := by show i * 4 + 4 = _; omega
 rw [splice,e,flat_take,flat_drop,List.set_eq_take_append_cons_drop,if_pos hi,flat_app]
 show flat _ ++ propC p ++ flat _ = flat _ ++ (propC p ++ flat _)
 rw [List.append_assoc]
theorem flat_at' {l : List Pr} {i : Nat} {cs : List Value} (hi : i < l.length) : ((flat l ++ cs).drop (i * 4)).take 4 = propC l[i] := by
 have h1 : i * 4 ≤ (flat l).length := by rw [flat_len]; omega
 have h2 : 4 ≤ ((flat l).drop (i * 4)).length := by rw [List.length_drop,flat_len]; omega
 rw [List.drop_append_of_le_length h1,List.take_append_of_le_length h2,flat_at hi]
section
variable {σ : AHeap} {Q : Value → AHeap → Prop}
theorem zeP : azero E 26 = some [.int .i64 0,.int .i64 0,.string ⟨#[]⟩,.string ⟨#[]⟩] := rfl
theorem ia_sl {d n c i : Nat} {ex : Option Nat} (hi : i < n) : aindexAddr E 22 (.slice (some ⟨d,0,ex⟩) n c) (.int .i64 (i : Int)) = some (.pointer (some ⟨d,i * 4,none⟩)) := by
 simp only [aindexAddr,ty22,ty26]
 rw [if_pos (by omega)]
 simp
theorem sl_from {d n i : Nat} {ex : Option Nat} {cs : List Value} (gd : σ.get d = .cells cs true 4) (hi : i ≤ n) : aslice E σ 22 (.slice (some ⟨d,0,ex⟩) n n) (some (.int .i64 (i : Int))) none none = some (.slice (some ⟨d,i * 4,ex⟩) (n - i) (n - i)) := by
 simp only [aslice,ty22,ty26,szOk,gd,abound]
 have h1 : (0 : Int) ≤ (i : Int) ∧ (i : Int) ≤ (n : Int) := by omega
 have h2 : (0 : Nat) ≤ n := by omega
 simp [h1.2]
theorem sl_to {d n i : Nat} {ex : Option Nat} {cs : List Value} (gd : σ.get d = .cells cs true 4) (hi : i ≤ n) : aslice E σ 22 (.slice (some ⟨d,0,ex⟩) n n) none (some (.int .i64 (i : Int))) none = some (.slice (some ⟨d,0,ex⟩) i n) := by
 simp only [aslice,ty22,ty26,szOk,gd,abound]
 have h1 : (0 : Int) ≤ (i : Int) ∧ (i : Int) ≤ (n : Int) := by omega
 simp [h1.2]
theorem reps_len (z : List Value) (k : Nat) : (reps z k).length = k * z.length := by
 induction k with
 | zero => simp [reps]
 | succ k ih => simp only [reps,List.length_append,ih,Nat.succ_mul]; omega
theorem reps_oc (k : Nat) : (reps [.int .i64 0,.int .i64 0,.string ⟨#[]⟩,.string ⟨#[]⟩] k).all oneCell = true := by
 induction k with
 | zero => rfl
 | succ k ih => simp only [reps,List.all_append,ih,Bool.and_true]; rfl
theorem clear_sl {d i : Nat} {ex : Option Nat} {xs : List Pr} (gd : σ.get d = .cells (flat xs) true 4) (hi : i < xs.length) {c : Nat} : abuiltin E σ .clear [22] [.slice (some ⟨d,i * 4,ex⟩) (xs.length - i) c] =
  some (.tuple #[],σ.set d (.cells (flat (xs.take i) ++ reps [.int .i64 0,.int .i64 0,.string ⟨#[]⟩,.string ⟨#[]⟩] (xs.length - i)) true 4)) := by
 have hne : ¬ xs.length - i = 0 := by omega
 have hl : (reps [.int .i64 0,.int .i64 0,.string ⟨#[]⟩,.string ⟨#[]⟩] (xs.length - i)).length = (xs.length - i) * 4 := reps_len _ _
 have hle : i * 4 + (xs.length - i) * 4 ≤ xs.length * 4 := by omega
 have hdr : (flat xs).drop (i * 4 + (xs.length - i) * 4) = [] := List.drop_eq_nil_of_le (by rw [flat_len]; omega)
 simp only [abuiltin,ty22,ty26,zeP,astoreAt,gd,reps_oc,hl,flat_len,splice,hdr,flat_take,List.append_nil,hne,hle,decide_true,decide_false,Bool.and_self,Bool.or_false,if_true,if_false,Option.map_some]
 rfl
theorem specWC {c : Nat} {id : Int} {p : Pr} (hc : σ.get c = .cells [.int .i64 id] true 0) (h : Q (.bool (decide (p.id = id))) σ) : CallS E B 28 [.agg ⟨propC p⟩,.pointer (some ⟨c,0,none⟩)] σ Q := by
 simp only [propC]
 refine call28 (by simp) ?_
 simp only [strip,bodyOf,Tryz.f28,getD_body,keepN,bareOp_mk,lessOp_mk,lapp_cons,lapp_nil,List.map_cons,List.map_nil,array_toList,↓reduceIte,Nat.reduceEqDiff,Bool.false_eq_true]
 simp (disch := first | assumption | simp) only [↓sbD,sbU,tyB,Nat.reduceMul,Nat.reduceSub,Int.reduceEq,Int.reduceLT,Int.reduceLE,Int.reduceNe,Nat.reduceBneDiff,Nat.reduceBEq,decide_false,gt_iff_lt,Bool.or_self,Bool.false_eq_true,Nat.mul_one,Nat.one_mul,Nat.zero_mul,↓reduceIte,Nat.reduceEqDiff,Nat.reduceLT,Nat.reduceAdd,Nat.reduceLeDiff,reduceCtorEq,goInt,pairs,isConst,TI.isAgg,splice,boxS,Edp,dpv,Nat.beq_eq,ZV.val,List.any_cons,List.any_nil,Bool.false_and,hc]
 exact downS_here h
theorem specIdxW {d cp c : Nat} {ex : Option Nat} {id : Int} {l : List Pr} (gd : σ.get d = .cells (flat l) true 4) (hc : σ.get c = .cells [.int .i64 id] true 0) (hs : l.length ≤ 100000)
  (hin : ∀ i (hi : i < l.length),(l[i]).id = id → (∀ j (hj : j < l.length),j < i → (l[j]).id ≠ id) → Q (.int .i64 (i : Int)) σ) (hout : (∀ p ∈ l,p.id ≠ id) → Q (.int .i64 (-1)) σ) :
  CallS E B 22 [.slice (some ⟨d,0,ex⟩) l.length cp,.func (.func 28) ⟨[]⟩ ⟨[.pointer (some ⟨c,0,none⟩)]⟩] σ Q := by
 refine call22 (by simp) ?_
 simp only [strip,bodyOf,Tryz.f22,getD_body,keepN,bareOp_mk,lessOp_mk,lapp_cons,lapp_nil,List.map_cons,List.map_nil,array_toList,↓reduceIte,Nat.reduceEqDiff,Bool.false_eq_true]
 simp (disch := first | assumption | simp) only [↓sbD,sbU,tyB,Nat.reduceMul,Nat.reduceSub,Int.reduceEq,Int.reduceLT,Int.reduceLE,Int.reduceNe,Nat.reduceBneDiff,Nat.reduceBEq,decide_false,gt_iff_lt,Bool.or_self,Bool.false_eq_true,Nat.mul_one,Nat.one_mul,Nat.zero_mul,↓reduceIte,Nat.reduceEqDiff,Nat.reduceLT,Nat.reduceAdd,Nat.reduceLeDiff,reduceCtorEq,goInt,pairs,isConst,TI.isAgg,splice,boxS,Edp,dpv,Nat.beq_eq,ZV.val,List.any_cons,List.any_nil,Bool.false_and]
 refine S_loop (fun m f σ' => σ' = σ ∧ ∃ i : Nat,m + i = l.length ∧ f 8 = .int .i64 i ∧ ∀ j (hj : j < l.length),j < i → (l[j]).id ≠ id) l.length (Le.refl _) ⟨rfl,0,rfl,by simp (disch := first | assumption | simp) only [↓sbD,sbU,tyB,Nat.reduceMul,Nat.reduceSub,Int.reduceEq,Int.reduceLT,Int.reduceLE,Int.reduceNe,Nat.reduceBneDiff,Nat.reduceBEq,decide_false,gt_iff_lt,Bool.or_self,Bool.false_eq_true,Nat.mul_one,Nat.one_mul,Nat.zero_mul,↓reduceIte,Nat.reduceEqDiff,Nat.reduceLT,Nat.reduceAdd,Nat.reduceLeDiff,reduceCtorEq,goInt,pairs,isConst,TI.isAgg,splice,boxS,Edp,dpv,Nat.beq_eq,ZV.val,List.any_cons,List.any_nil,Bool.false_and]; rfl,fun j _ hj => by omega⟩ ?_
 rintro m f σ' ⟨rfl,i,hm,f8,hno⟩ hf
 have f0 := hf 0 (by decide) (notMem_wr (by kernel_rfl))
 have f1 := hf 1 (by decide) (notMem_wr (by kernel_rfl))
 have f7 := hf 7 (by decide) (notMem_wr (by kernel_rfl))
 simp (disch := first | assumption | simp) only [↓sbD,sbU,tyB,Nat.reduceMul,Nat.reduceSub,Int.reduceEq,Int.reduceLT,Int.reduceLE,Int.reduceNe,Nat.reduceBneDiff,Nat.reduceBEq,decide_false,gt_iff_lt,Bool.or_self,Bool.false_eq_true,Nat.mul_one,Nat.one_mul,Nat.zero_mul,↓reduceIte,Nat.reduceEqDiff,Nat.reduceLT,Nat.reduceAdd,Nat.reduceLeDiff,reduceCtorEq,goInt,pairs,isConst,TI.isAgg,splice,boxS,Edp,dpv,Nat.beq_eq,ZV.val,List.any_cons,List.any_nil,Bool.false_and] at f0 f1 f7
 clear hf
 by_cases hi : (i : Int) < (l.length : Int)
 ·have hi' : i < l.length := by omega
  have hia := ia_sl (d := d) (c := cp) (ex := ex) hi'
  have hle : i * 4 + 4 ≤ (flat l).length := by rw [flat_len]; omega
  have hta := flat_at hi'
  have hw := wrap_suc (n := i) (by omega)
  have hin' := hin i hi'
  generalize hy : l[i] = y at hta hin'
  simp (disch := first | assumption | simp) only [↓sbD,sbU,tyB,Nat.reduceMul,Nat.reduceSub,Int.reduceEq,Int.reduceLT,Int.reduceLE,Int.reduceNe,Nat.reduceBneDiff,Nat.reduceBEq,decide_false,gt_iff_lt,Bool.or_self,Bool.false_eq_true,Nat.mul_one,Nat.one_mul,Nat.zero_mul,↓reduceIte,Nat.reduceEqDiff,Nat.reduceLT,Nat.reduceAdd,Nat.reduceLeDiff,reduceCtorEq,goInt,pairs,isConst,TI.isAgg,splice,boxS,Edp,dpv,Nat.beq_eq,ZV.val,List.any_cons,List.any_nil,Bool.false_and,f0,f1,f7,f8,hi,hia,gd,hle,hta]
  refine specWC (p := y) hc ?_
  by_cases he : y.id = id
  ·simp (disch := first | assumption | simp) only [↓sbD,sbU,tyB,Nat.reduceMul,Nat.reduceSub,Int.reduceEq,Int.reduceLT,Int.reduceLE,Int.reduceNe,Nat.reduceBneDiff,Nat.reduceBEq,decide_false,gt_iff_lt,Bool.or_self,Bool.false_eq_true,Nat.mul_one,Nat.one_mul,Nat.zero_mul,↓reduceIte,Nat.reduceEqDiff,Nat.reduceLT,Nat.reduceAdd,Nat.reduceLeDiff,reduceCtorEq,goInt,pairs,isConst,TI.isAgg,splice,boxS,Edp,dpv,Nat.beq_eq,ZV.val,List.any_cons,List.any_nil,Bool.false_and,he]
   exact downS_here (hin' he hno)
  ·simp (disch := first | assumption | simp) only [↓sbD,sbU,tyB,Nat.reduceMul,Nat.reduceSub,Int.reduceEq,Int.reduceLT,Int.reduceLE,Int.reduceNe,Nat.reduceBneDiff,Nat.reduceBEq,decide_false,gt_iff_lt,Bool.or_self,Bool.false_eq_true,Nat.mul_one,Nat.one_mul,Nat.zero_mul,↓reduceIte,Nat.reduceEqDiff,Nat.reduceLT,Nat.reduceAdd,Nat.reduceLeDiff,reduceCtorEq,goInt,pairs,isConst,TI.isAgg,splice,boxS,Edp,dpv,Nat.beq_eq,ZV.val,List.any_cons,List.any_nil,Bool.false_and,he,f8,hw]
   refine ⟨_,m - 1,_,rfl,by omega,Le.refl _,rfl,i + 1,by omega,by simp (disch := first | assumption | simp) only [↓sbD,sbU,tyB,Nat.reduceMul,Nat.reduceSub,Int.reduceEq,Int.reduceLT,Int.reduceLE,Int.reduceNe,Nat.reduceBneDiff,Nat.reduceBEq,decide_false,gt_iff_lt,Bool.or_self,Bool.false_eq_true,Nat.mul_one,Nat.one_mul,Nat.zero_mul,↓reduceIte,Nat.reduceEqDiff,Nat.reduceLT,Nat.reduceAdd,Nat.reduceLeDiff,reduceCtorEq,goInt,pairs,isConst,TI.isAgg,splice,boxS,Edp,dpv,Nat.beq_eq,ZV.val,List.any_cons,List.any_nil,Bool.false_and],fun j hj hji => ?_⟩
   rcases (by omega : j < i ∨ j = i) with h3 | rfl
   ·exact hno j hj h3
   ·rw [hy]; exact he
 ·simp (disch := first | assumption | simp) only [↓sbD,sbU,tyB,Nat.reduceMul,Nat.reduceSub,Int.reduceEq,Int.reduceLT,Int.reduceLE,Int.reduceNe,Nat.reduceBneDiff,Nat.reduceBEq,decide_false,gt_iff_lt,Bool.or_self,Bool.false_eq_true,Nat.mul_one,Nat.one_mul,Nat.zero_mul,↓reduceIte,Nat.reduceEqDiff,Nat.reduceLT,Nat.reduceAdd,Nat.reduceLeDiff,reduceCtorEq,goInt,pairs,isConst,TI.isAgg,splice,boxS,Edp,dpv,Nat.beq_eq,ZV.val,List.any_cons,List.any_nil,Bool.false_and,f0,f1,f7,f8,hi]
  refine downS_here (hout fun p hp => ?_)
  obtain ⟨j,hj,rfl⟩ := List.getElem_of_mem hp
  exact hno j hj (by omega)
theorem specDelW {d c : Nat} {ex : Option Nat} {id : Int} {l : List Pr} (gd : σ.get d = .cells (flat l) true 4) (hc : σ.get c = .cells [.int .i64 id] true 0) (hcd : c ≠ d) (hs : l.length ≤ 100000)
  (hq : ∀ σ' cp' cs,σ'.get d = .cells (flat (l.filter fun p => !decide (p.id = id)) ++ cs) true 4 → (∀ b,σ.get b ≠ .dead → b ≠ d → σ'.get b = σ.get b) → Q (.slice (some ⟨d,0,ex⟩) (l.filter fun p => !decide (p.id = id)).length cp') σ') :
  CallS E B 26 [.slice (some ⟨d,0,ex⟩) l.length l.length,.func (.func 28) ⟨[]⟩ ⟨[.pointer (some ⟨c,0,none⟩)]⟩] σ Q := by
 refine call26 (by simp) ?_
 simp only [strip,bodyOf,Tryz.f26,getD_body,keepN,bareOp_mk,lessOp_mk,lapp_cons,lapp_nil,List.map_cons,List.map_nil,array_toList,↓reduceIte,Nat.reduceEqDiff,Bool.false_eq_true]
 simp (disch := first | assumption | simp) only [↓sbD,sbU,tyB,Nat.reduceMul,Nat.reduceSub,Int.reduceEq,Int.reduceLT,Int.reduceLE,Int.reduceNe,Nat.reduceBneDiff,Nat.reduceBEq,decide_false,gt_iff_lt,Bool.or_self,Bool.false_eq_true,Nat.mul_one,Nat.one_mul,Nat.zero_mul,↓reduceIte,Nat.reduceEqDiff,Nat.reduceLT,Nat.reduceAdd,Nat.reduceLeDiff,reduceCtorEq,goInt,pairs,isConst,TI.isAgg,splice,boxS,Edp,dpv,Nat.beq_eq,ZV.val,List.any_cons,List.any_nil,Bool.false_and]
 refine specIdxW gd hc hs (fun i0 hi0 he0 hno0 => ?_) fun hno => ?_
 rotate_left
 ·simp (disch := first | assumption | simp) only [↓sbD,sbU,tyB,Nat.reduceMul,Nat.reduceSub,Int.reduceEq,Int.reduceLT,Int.reduceLE,Int.reduceNe,Nat.reduceBneDiff,Nat.reduceBEq,decide_false,gt_iff_lt,Bool.or_self,Bool.false_eq_true,Nat.mul_one,Nat.one_mul,Nat.zero_mul,↓reduceIte,Nat.reduceEqDiff,Nat.reduceLT,Nat.reduceAdd,Nat.reduceLeDiff,reduceCtorEq,goInt,pairs,isConst,TI.isAgg,splice,boxS,Edp,dpv,Nat.beq_eq,ZV.val,List.any_cons,List.any_nil,Bool.false_and]
  have hall : l.filter (fun p => !decide (p.id = id)) = l := by
   rw [List.filter_eq_self]
   intro p hp
   simp [hno p hp]
  have := hq σ l.length [] (by rw [hall,List.append_nil]; exact gd) (fun _ _ _ => rfl)
  rw [hall] at this
  exact downS_here this
 have hi1 : ¬ (i0 : Int) = -1 := by omega
 have hw0 := wrap_suc (n := i0) (by omega)
 simp (disch := first | assumption | simp) only [↓sbD,sbU,tyB,Nat.reduceMul,Nat.reduceSub,Int.reduceEq,Int.reduceLT,Int.reduceLE,Int.reduceNe,Nat.reduceBneDiff,Nat.reduceBEq,decide_false,gt_iff_lt,Bool.or_self,Bool.false_eq_true,Nat.mul_one,Nat.one_mul,Nat.zero_mul,↓reduceIte,Nat.reduceEqDiff,Nat.reduceLT,Nat.reduceAdd,Nat.reduceLeDiff,reduceCtorEq,goInt,pairs,isConst,TI.isAgg,splice,boxS,Edp,dpv,Nat.beq_eq,ZV.val,List.any_cons,List.any_nil,Bool.false_and,hi1,hw0]
 have hf0 : (l.take (i0 + 1)).filter (fun p => !decide (p.id = id)) = l.take i0 := by
  rw [List.take_add_one,List.getElem?_eq_getElem hi0,List.filter_append]
  have h1 : (l.take i0).filter (fun p => !decide (p.id = id)) = l.take i0 := by
   rw [List.filter_eq_self]
   intro p hp
   obtain ⟨j,hj,rfl⟩ := List.getElem_of_mem hp
   rw [List.length_take] at hj
   rw [List.getElem_take]
   simp [hno0 j (by omega) (by omega)]
  rw [h1]
  simp [he0]
 refine S_loop (fun m f σ' => ∃ (i j : Nat) (xs : List Pr),m + j = l.length ∧ f 5 = .int .i64 i ∧ f 6 = .int .i64 j ∧ i < j ∧ j ≤ l.length ∧ xs.length = l.length ∧ xs.take i = (l.take j).filter (fun p => !decide (p.id = id)) ∧ xs.drop j = l.drop j ∧
   σ'.get d = .cells (flat xs) true 4 ∧ σ'.get c = .cells [.int .i64 id] true 0 ∧ ∀ b,σ.get b ≠ .dead → b ≠ d → σ'.get b = σ.get b) (l.length - (i0 + 1)) (Le.refl _)
  ⟨i0,i0 + 1,l,by omega,by simp (disch := first | assumption | simp) only [↓sbD,sbU,tyB,Nat.reduceMul,Nat.reduceSub,Int.reduceEq,Int.reduceLT,Int.reduceLE,Int.reduceNe,Nat.reduceBneDiff,Nat.reduceBEq,decide_false,gt_iff_lt,Bool.or_self,Bool.false_eq_true,Nat.mul_one,Nat.one_mul,Nat.zero_mul,↓reduceIte,Nat.reduceEqDiff,Nat.reduceLT,Nat.reduceAdd,Nat.reduceLeDiff,reduceCtorEq,goInt,pairs,isConst,TI.isAgg,splice,boxS,Edp,dpv,Nat.beq_eq,ZV.val,List.any_cons,List.any_nil,Bool.false_and],by simp (disch := first | assumption | simp) only [↓sbD,sbU,tyB,Nat.reduceMul,Nat.reduceSub,Int.reduceEq,Int.reduceLT,Int.reduceLE,Int.reduceNe,Nat.reduceBneDiff,Nat.reduceBEq,decide_false,gt_iff_lt,Bool.or_self,Bool.false_eq_true,Nat.mul_one,Nat.one_mul,Nat.zero_mul,↓reduceIte,Nat.reduceEqDiff,Nat.reduceLT,Nat.reduceAdd,Nat.reduceLeDiff,reduceCtorEq,goInt,pairs,isConst,TI.isAgg,splice,boxS,Edp,dpv,Nat.beq_eq,ZV.val,List.any_cons,List.any_nil,Bool.false_and],by omega,by omega,rfl,hf0.symm,rfl,gd,hc,fun _ _ _ => rfl⟩ ?_
 rintro m f σ' ⟨i,j,xs,hm,f5,f6,hij,hj,hxl,hx1,hx2,gd',hc',hk⟩ hf
 have f0 := hf 0 (by decide) (notMem_wr (by kernel_rfl))
 have f1 := hf 1 (by decide) (notMem_wr (by kernel_rfl))
 simp (disch := first | assumption | simp) only [↓sbD,sbU,tyB,Nat.reduceMul,Nat.reduceSub,Int.reduceEq,Int.reduceLT,Int.reduceLE,Int.reduceNe,Nat.reduceBneDiff,Nat.reduceBEq,decide_false,gt_iff_lt,Bool.or_self,Bool.false_eq_true,Nat.mul_one,Nat.one_mul,Nat.zero_mul,↓reduceIte,Nat.reduceEqDiff,Nat.reduceLT,Nat.reduceAdd,Nat.reduceLeDiff,reduceCtorEq,goInt,pairs,isConst,TI.isAgg,splice,boxS,Edp,dpv,Nat.beq_eq,ZV.val,List.any_cons,List.any_nil,Bool.false_and] at f0 f1
 clear hf
 by_cases hjl : (j : Int) < (l.length : Int)
 ·have hj' : j < l.length := by omega
  have hjx : j < xs.length := by omega
  have hia := ia_sl (d := d) (c := l.length) (ex := ex) hj'
  have hle : j * 4 + 4 ≤ (flat xs).length := by rw [flat_len]; omega
  have hta := flat_at hjx
  have hxj : xs[j] = l[j] := by
   have := congrArg (fun t => t[0]?) hx2
   simp only [List.getElem?_drop,Nat.add_zero] at this
   rw [List.getElem?_eq_getElem hjx,List.getElem?_eq_getElem hj'] at this
   exact Option.some.inj this
  have hw := wrap_suc (n := j) (by omega)
  have hwi := wrap_suc (n := i) (by omega)
  have htk : l.take (j + 1) = l.take j ++ [l[j]] := by rw [List.take_add_one,List.getElem?_eq_getElem hj']; rfl
  rw [hxj] at hta
  generalize hy : l[j] = y at hta htk
  have hac : propC y = [.int .i64 y.id,.int .i64 y.n,.string y.s,.string y.v] := rfl
  simp (disch := first | assumption | simp) only [↓sbD,sbU,tyB,Nat.reduceMul,Nat.reduceSub,Int.reduceEq,Int.reduceLT,Int.reduceLE,Int.reduceNe,Nat.reduceBneDiff,Nat.reduceBEq,decide_false,gt_iff_lt,Bool.or_self,Bool.false_eq_true,Nat.mul_one,Nat.one_mul,Nat.zero_mul,↓reduceIte,Nat.reduceEqDiff,Nat.reduceLT,Nat.reduceAdd,Nat.reduceLeDiff,reduceCtorEq,goInt,pairs,isConst,TI.isAgg,splice,boxS,Edp,dpv,Nat.beq_eq,ZV.val,List.any_cons,List.any_nil,Bool.false_and,f0,f1,f5,f6,hjl,hia,gd',hle,hta,AS_new,zeP,hac]
  intro e he
  have hed : d ≠ e := by rintro rfl; rw [gd'] at he; cases he
  have hec : c ≠ e := by rintro rfl; rw [hc'] at he; cases he
  try simp (disch := first | assumption | simp) only [↓sbD,sbU,tyB,Nat.reduceMul,Nat.reduceSub,Int.reduceEq,Int.reduceLT,Int.reduceLE,Int.reduceNe,Nat.reduceBneDiff,Nat.reduceBEq,decide_false,gt_iff_lt,Bool.or_self,Bool.false_eq_true,Nat.mul_one,Nat.one_mul,Nat.zero_mul,↓reduceIte,Nat.reduceEqDiff,Nat.reduceLT,Nat.reduceAdd,Nat.reduceLeDiff,reduceCtorEq,goInt,pairs,isConst,TI.isAgg,splice,boxS,Edp,dpv,Nat.beq_eq,ZV.val,List.any_cons,List.any_nil,Bool.false_and,AHeap.get_set_same]
  generalize hσ1 : AHeap.set (AHeap.set σ' e _) e _ = σ1
  have ge1 : σ1.get e = .cells [.int .i64 y.id,.int .i64 y.n,.string y.s,.string y.v] true 0 := by rw [← hσ1]; exact AHeap.get_set_same _ _ _
  have gd1 : σ1.get d = .cells (flat xs) true 4 := by rw [← hσ1,AHeap.get_set_ne _ _ hed.symm,AHeap.get_set_ne _ _ hed.symm]; exact gd'
  have hc1 : σ1.get c = .cells [.int .i64 id] true 0 := by rw [← hσ1,AHeap.get_set_ne _ _ hec.symm,AHeap.get_set_ne _ _ hec.symm]; exact hc'
  have hk1 : ∀ b,σ.get b ≠ .dead → b ≠ d → σ1.get b = σ.get b := fun b hb hbd => by
   have hbe : e ≠ b := by rintro rfl; exact hb (by rw [← hk e hb hbd]; exact he)
   rw [← hσ1,AHeap.get_set_ne _ _ hbe,AHeap.get_set_ne _ _ hbe]; exact hk b hb hbd
  clear hσ1
  try simp (disch := first | assumption | simp) only [↓sbD,sbU,tyB,Nat.reduceMul,Nat.reduceSub,Int.reduceEq,Int.reduceLT,Int.reduceLE,Int.reduceNe,Nat.reduceBneDiff,Nat.reduceBEq,decide_false,gt_iff_lt,Bool.or_self,Bool.false_eq_true,Nat.mul_one,Nat.one_mul,Nat.zero_mul,↓reduceIte,Nat.reduceEqDiff,Nat.reduceLT,Nat.reduceAdd,Nat.reduceLeDiff,reduceCtorEq,goInt,pairs,isConst,TI.isAgg,splice,boxS,Edp,dpv,Nat.beq_eq,ZV.val,List.any_cons,List.any_nil,Bool.false_and,ge1]
  refine specWC (p := y) hc1 ?_
  by_cases hyi : y.id = id
  ·simp (disch := first | assumption | simp) only [↓sbD,sbU,tyB,Nat.reduceMul,Nat.reduceSub,Int.reduceEq,Int.reduceLT,Int.reduceLE,Int.reduceNe,Nat.reduceBneDiff,Nat.reduceBEq,decide_false,gt_iff_lt,Bool.or_self,Bool.false_eq_true,Nat.mul_one,Nat.one_mul,Nat.zero_mul,↓reduceIte,Nat.reduceEqDiff,Nat.reduceLT,Nat.reduceAdd,Nat.reduceLeDiff,reduceCtorEq,goInt,pairs,isConst,TI.isAgg,splice,boxS,Edp,dpv,Nat.beq_eq,ZV.val,List.any_cons,List.any_nil,Bool.false_and,hyi,AbsA.not_bool,Bool.not_true,f6,hw]
   exact ⟨_,m - 1,σ1,rfl,by omega,Le.refl _,i,j + 1,xs,by omega,by simp (disch := first | assumption | simp) only [↓sbD,sbU,tyB,Nat.reduceMul,Nat.reduceSub,Int.reduceEq,Int.reduceLT,Int.reduceLE,Int.reduceNe,Nat.reduceBneDiff,Nat.reduceBEq,decide_false,gt_iff_lt,Bool.or_self,Bool.false_eq_true,Nat.mul_one,Nat.one_mul,Nat.zero_mul,↓reduceIte,Nat.reduceEqDiff,Nat.reduceLT,Nat.reduceAdd,Nat.reduceLeDiff,reduceCtorEq,goInt,pairs,isConst,TI.isAgg,splice,boxS,Edp,dpv,Nat.beq_eq,ZV.val,List.any_cons,List.any_nil,Bool.false_and,f5],by simp (disch := first | assumption | simp) only [↓sbD,sbU,tyB,Nat.reduceMul,Nat.reduceSub,Int.reduceEq,Int.reduceLT,Int.reduceLE,Int.reduceNe,Nat.reduceBneDiff,Nat.reduceBEq,decide_false,gt_iff_lt,Bool.or_self,Bool.false_eq_true,Nat.mul_one,Nat.one_mul,Nat.zero_mul,↓reduceIte,Nat.reduceEqDiff,Nat.reduceLT,Nat.reduceAdd,Nat.reduceLeDiff,reduceCtorEq,goInt,pairs,isConst,TI.isAgg,splice,boxS,Edp,dpv,Nat.beq_eq,ZV.val,List.any_cons,List.any_nil,Bool.false_and],by omega,by omega,hxl,by rw [hx1,htk,List.filter_append]; simp [hyi],by rw [← List.drop_drop,← List.drop_drop,hx2],gd1,hc1,hk1⟩
  ·have hix : i < xs.length := by omega
   have hia' := ia_sl (d := d) (c := l.length) (ex := ex) (show i < l.length by omega)
   have hle' : i * 4 + 4 ≤ (flat xs).length := by rw [flat_len]; omega
   have hst := flat_set (p := y) hix
   rw [hac] at hst
   have hst' : List.take (i * 4) (flat xs) ++ [.int .i64 y.id,.int .i64 y.n,.string y.s,.string y.v] ++ List.drop (i * 4 + 4) (flat xs) = flat (xs.set i y) := hst
   simp (disch := first | assumption | simp) only [↓sbD,sbU,tyB,Nat.reduceMul,Nat.reduceSub,Int.reduceEq,Int.reduceLT,Int.reduceLE,Int.reduceNe,Nat.reduceBneDiff,Nat.reduceBEq,decide_false,gt_iff_lt,Bool.or_self,Bool.false_eq_true,Nat.mul_one,Nat.one_mul,Nat.zero_mul,↓reduceIte,Nat.reduceEqDiff,Nat.reduceLT,Nat.reduceAdd,Nat.reduceLeDiff,reduceCtorEq,goInt,pairs,isConst,TI.isAgg,splice,boxS,Edp,dpv,Nat.beq_eq,ZV.val,List.any_cons,List.any_nil,Bool.false_and,hyi,AbsA.not_bool,Bool.not_false,f0,f1,f5,ge1,hia',gd1,hle',hst',List.length_cons,List.length_nil]
   generalize hσ2 : AHeap.set σ1 d _ = σ2
   have gd2 : σ2.get d = .cells (flat (xs.set i y)) true 4 := by rw [← hσ2]; first | exact AHeap.get_set_same _ _ _ | exact (AHeap.get_set_same _ _ _).trans (by rw [hst'])
   have hc2 : σ2.get c = .cells [.int .i64 id] true 0 := by rw [← hσ2,AHeap.get_set_ne _ _ hcd.symm]; exact hc1
   have hk2 : ∀ b,σ.get b ≠ .dead → b ≠ d → σ2.get b = σ.get b := fun b hb hbd => by rw [← hσ2,AHeap.get_set_ne _ _ hbd.symm]; exact hk1 b hb hbd
   clear hσ2
   try simp (disch := first | assumption | simp) only [↓sbD,sbU,tyB,Nat.reduceMul,Nat.reduceSub,Int.reduceEq,Int.reduceLT,Int.reduceLE,Int.reduceNe,Nat.reduceBneDiff,Nat.reduceBEq,decide_false,gt_iff_lt,Bool.or_self,Bool.false_eq_true,Nat.mul_one,Nat.one_mul,Nat.zero_mul,↓reduceIte,Nat.reduceEqDiff,Nat.reduceLT,Nat.reduceAdd,Nat.reduceLeDiff,reduceCtorEq,goInt,pairs,isConst,TI.isAgg,splice,boxS,Edp,dpv,Nat.beq_eq,ZV.val,List.any_cons,List.any_nil,Bool.false_and,f5,f6,hwi,hw]
   exact ⟨_,m - 1,σ2,rfl,by omega,Le.refl _,i + 1,j + 1,xs.set i y,by omega,by simp (disch := first | assumption | simp) only [↓sbD,sbU,tyB,Nat.reduceMul,Nat.reduceSub,Int.reduceEq,Int.reduceLT,Int.reduceLE,Int.reduceNe,Nat.reduceBneDiff,Nat.reduceBEq,decide_false,gt_iff_lt,Bool.or_self,Bool.false_eq_true,Nat.mul_one,Nat.one_mul,Nat.zero_mul,↓reduceIte,Nat.reduceEqDiff,Nat.reduceLT,Nat.reduceAdd,Nat.reduceLeDiff,reduceCtorEq,goInt,pairs,isConst,TI.isAgg,splice,boxS,Edp,dpv,Nat.beq_eq,ZV.val,List.any_cons,List.any_nil,Bool.false_and],by simp (disch := first | assumption | simp) only [↓sbD,sbU,tyB,Nat.reduceMul,Nat.reduceSub,Int.reduceEq,Int.reduceLT,Int.reduceLE,Int.reduceNe,Nat.reduceBneDiff,Nat.reduceBEq,decide_false,gt_iff_lt,Bool.or_self,Bool.false_eq_true,Nat.mul_one,Nat.one_mul,Nat.zero_mul,↓reduceIte,Nat.reduceEqDiff,Nat.reduceLT,Nat.reduceAdd,Nat.reduceLeDiff,reduceCtorEq,goInt,pairs,isConst,TI.isAgg,splice,boxS,Edp,dpv,Nat.beq_eq,ZV.val,List.any_cons,List.any_nil,Bool.false_and],by omega,by omega,by rw [List.length_set]; exact hxl,
    by rw [htk,List.filter_append,← hx1,List.take_add_one,List.take_set_of_le (Nat.le_refl _),List.getElem?_set_self hix]; simp [hyi],
    by rw [List.drop_set_of_lt (by omega),← List.drop_drop,← List.drop_drop,hx2],gd2,hc2,hk2⟩
 ·have hjl' : j = l.length := by omega
  subst hjl'
  rw [List.take_of_length_le (Nat.le_refl _)] at hx1
  have hlen : (l.filter fun p => !decide (p.id = id)).length = i := by rw [← hx1,List.length_take]; omega
  have h1 := sl_from (ex := ex) (n := l.length) gd' (show i ≤ l.length by omega)
  have h2 := clear_sl (ex := ex) (c := l.length - i) gd' (show i < xs.length by omega)
  rw [hxl] at h2
  simp (disch := first | assumption | simp) only [↓sbD,sbU,tyB,Nat.reduceMul,Nat.reduceSub,Int.reduceEq,Int.reduceLT,Int.reduceLE,Int.reduceNe,Nat.reduceBneDiff,Nat.reduceBEq,decide_false,gt_iff_lt,Bool.or_self,Bool.false_eq_true,Nat.mul_one,Nat.one_mul,Nat.zero_mul,↓reduceIte,Nat.reduceEqDiff,Nat.reduceLT,Nat.reduceAdd,Nat.reduceLeDiff,reduceCtorEq,goInt,pairs,isConst,TI.isAgg,splice,boxS,Edp,dpv,Nat.beq_eq,ZV.val,List.any_cons,List.any_nil,Bool.false_and,f0,f1,f5,f6,hjl,h1,h2]
  generalize hσ1 : AHeap.set σ' d _ = σ1
  have gd1 : σ1.get d = .cells (flat (xs.take i) ++ reps [.int .i64 0,.int .i64 0,.string ⟨#[]⟩,.string ⟨#[]⟩] (l.length - i)) true 4 := by rw [← hσ1]; exact AHeap.get_set_same _ _ _
  have hk1 : ∀ b,σ.get b ≠ .dead → b ≠ d → σ1.get b = σ.get b := fun b hb hbd => by rw [← hσ1,AHeap.get_set_ne _ _ hbd.symm]; exact hk b hb hbd
  have h3 := sl_to (ex := ex) (n := l.length) gd1 (show i ≤ l.length by omega)
  clear hσ1
  try simp (disch := first | assumption | simp) only [↓sbD,sbU,tyB,Nat.reduceMul,Nat.reduceSub,Int.reduceEq,Int.reduceLT,Int.reduceLE,Int.reduceNe,Nat.reduceBneDiff,Nat.reduceBEq,decide_false,gt_iff_lt,Bool.or_self,Bool.false_eq_true,Nat.mul_one,Nat.one_mul,Nat.zero_mul,↓reduceIte,Nat.reduceEqDiff,Nat.reduceLT,Nat.reduceAdd,Nat.reduceLeDiff,reduceCtorEq,goInt,pairs,isConst,TI.isAgg,splice,boxS,Edp,dpv,Nat.beq_eq,ZV.val,List.any_cons,List.any_nil,Bool.false_and,f0,f5,h3]
  rw [hx1] at gd1
  have := hq σ1 l.length _ gd1 hk1
  rw [hlen] at this
  exact downS_here this
theorem eq_nil {cs : Bool} : abin E σ .eql 22 cs (.slice none 0 0) (.slice none 0 0) = some (.bool true) := by
 simp only [abin,nonNum,eqAsk,aeq,ty22]
 cases cs <;> rfl
theorem eq_dsl {cs : Bool} {m sz n : Nat} {xs : List Value} : abin E σ .eql 22 cs (dsl m sz n xs) (.slice none 0 0) = some (.bool false) := by
 simp only [abin,nonNum,eqAsk,aeq,ty22]
 cases cs <;> rfl
theorem bs_zero {K : Value → AHeap → Prop} (hq : ∀ b,σ.get b = .dead → K (.slice (some ⟨b,0,some 1⟩) 0 0) (σ.set b (.cells [] true 4))) : afterOpS E B (some (bsS E σ 22 0 [])) σ K := by
 simp (disch := first | assumption | simp) only [↓sbD,sbU,tyB,Nat.reduceMul,Nat.reduceSub,Int.reduceEq,Int.reduceLT,Int.reduceLE,Int.reduceNe,Nat.reduceBneDiff,Nat.reduceBEq,decide_false,gt_iff_lt,Bool.or_self,Bool.false_eq_true,Nat.mul_one,Nat.one_mul,Nat.zero_mul,↓reduceIte,Nat.reduceEqDiff,Nat.reduceLT,Nat.reduceAdd,Nat.reduceLeDiff,reduceCtorEq,goInt,pairs,isConst,TI.isAgg,splice,boxS,Edp,dpv,Nat.beq_eq,ZV.val,List.any_cons,List.any_nil,Bool.false_and,AS_any]
 intro b hb
 exact ⟨_,_,rfl,hq b (AbsA.dead_of hb)⟩
theorem flat_oc (l : List Pr) : (flat l).all oneCell = true := by
 induction l with
 | nil => rfl
 | cons a l ih => show (propC a ++ flat l).all oneCell = true; rw [List.all_append,ih]; rfl
theorem app_clone {K : Value → AHeap → Prop} {b0 m : Nat} {l : List Pr} (g0 : σ.get b0 = .cells [] true 4) (hs : l.length ≤ 100000)
  (hq : ∀ σ' d ex,σ'.get d = .cells (flat l) true 4 → (d = b0 ∨ σ.get d = .dead) → (∀ b,σ.get b ≠ .dead → σ'.get b = σ.get b) → K (.slice (some ⟨d,0,ex⟩) l.length l.length) σ') :
  afterOpS E B (some (.any fun b => aappend E (σ.resize b) [22,22] [.slice (some ⟨b0,0,some 1⟩) 0 0,dsl m 4 l.length (flat l)])) σ K := by
 simp (disch := first | assumption | simp) only [↓sbD,sbU,tyB,Nat.reduceMul,Nat.reduceSub,Int.reduceEq,Int.reduceLT,Int.reduceLE,Int.reduceNe,Nat.reduceBneDiff,Nat.reduceBEq,decide_false,gt_iff_lt,Bool.or_self,Bool.false_eq_true,Nat.mul_one,Nat.one_mul,Nat.zero_mul,↓reduceIte,Nat.reduceEqDiff,Nat.reduceLT,Nat.reduceAdd,Nat.reduceLeDiff,reduceCtorEq,goInt,pairs,isConst,TI.isAgg,splice,boxS,Edp,dpv,Nat.beq_eq,ZV.val,List.any_cons,List.any_nil,Bool.false_and,AS_any]
 intro b hb
 have hbd := AbsA.dead_of hb
 by_cases hl : l.length = 0
 ·have hl0 : l = [] := List.eq_nil_of_length_eq_zero hl
  subst hl0
  refine ⟨.slice (some ⟨b0,0,some 1⟩) 0 0,σ.resize b,?_,hq _ b0 _ (by exact g0) (.inl rfl) (fun _ _ => rfl)⟩
  simp only [aappend,ty22,ty26,zeP,srcCells,AbsA.get_resize,g0]
  rfl
 ·refine ⟨.slice (some ⟨b,0,none⟩) l.length l.length,(σ.resize b).alloc (.cells (flat l) true 4),?_,hq _ b _ (AHeap.get_alloc_same (σ.resize b) _) (.inr hbd) fun c hc => AHeap.get_alloc_ne _ _ (by intro e; subst e; exact hc hbd)⟩
  have c1 : l.length * 48 ≤ 140737488355328 := by omega
  have c2 : ¬ 0 + l.length ≤ 0 := by omega
  simp only [aappend,ty22,ty26,zeP,srcCells,AbsA.get_resize,takeCells,g0,c2,flat_oc]
  simp only [Nat.zero_add,c1,decide_true,Bool.and_self,if_true,if_false,Nat.zero_mul,List.length_nil,Nat.le_refl,List.take_nil,List.drop_nil,Option.map_some,List.nil_append]
  have c3 : ¬ l.length ≤ 0 := by omega
  simp only [c3,hl,flat_oc,Bool.and_self,if_true,if_false]
  rfl
theorem specCloW {v : Value} {l : List Pr} (hv : l = [] ∧ v = .slice none 0 0 ∨ ∃ m,v = dsl m 4 l.length (flat l)) (hs : l.length ≤ 100000)
  (hnil : l = [] → v = .slice none 0 0 → Q (.slice none 0 0) σ) (hq : ∀ σ' d ex,σ.get d = .dead → σ'.get d = .cells (flat l) true 4 → (∀ b,σ.get b ≠ .dead → σ'.get b = σ.get b) → Q (.slice (some ⟨d,0,ex⟩) l.length l.length) σ') :
  CallS E B 27 [v] σ Q := by
 rcases hv with ⟨rfl,rfl⟩ | ⟨m,rfl⟩
 ·refine call27 (by simp) ?_
  simp only [strip,bodyOf,Tryz.f27,getD_body,keepN,bareOp_mk,lessOp_mk,lapp_cons,lapp_nil,List.map_cons,List.map_nil,array_toList,↓reduceIte,Nat.reduceEqDiff,Bool.false_eq_true]
  simp (disch := first | assumption | simp) only [↓sbD,sbU,tyB,Nat.reduceMul,Nat.reduceSub,Int.reduceEq,Int.reduceLT,Int.reduceLE,Int.reduceNe,Nat.reduceBneDiff,Nat.reduceBEq,decide_false,gt_iff_lt,Bool.or_self,Bool.false_eq_true,Nat.mul_one,Nat.one_mul,Nat.zero_mul,↓reduceIte,Nat.reduceEqDiff,Nat.reduceLT,Nat.reduceAdd,Nat.reduceLeDiff,reduceCtorEq,goInt,pairs,isConst,TI.isAgg,splice,boxS,Edp,dpv,Nat.beq_eq,ZV.val,List.any_cons,List.any_nil,Bool.false_and,eq_nil]
  exact downS_here (hnil rfl rfl)
 ·refine call27 (by simp) ?_
  simp only [strip,bodyOf,Tryz.f27,getD_body,keepN,bareOp_mk,lessOp_mk,lapp_cons,lapp_nil,List.map_cons,List.map_nil,array_toList,↓reduceIte,Nat.reduceEqDiff,Bool.false_eq_true]
  simp (disch := first | assumption | simp) only [↓sbD,sbU,tyB,Nat.reduceMul,Nat.reduceSub,Int.reduceEq,Int.reduceLT,Int.reduceLE,Int.reduceNe,Nat.reduceBneDiff,Nat.reduceBEq,decide_false,gt_iff_lt,Bool.or_self,Bool.false_eq_true,Nat.mul_one,Nat.one_mul,Nat.zero_mul,↓reduceIte,Nat.reduceEqDiff,Nat.reduceLT,Nat.reduceAdd,Nat.reduceLeDiff,reduceCtorEq,goInt,pairs,isConst,TI.isAgg,splice,boxS,Edp,dpv,Nat.beq_eq,ZV.val,List.any_cons,List.any_nil,Bool.false_and,eq_dsl]
  refine bs_zero fun b hb => ?_
  simp (disch := first | assumption | simp) only [↓sbD,sbU,tyB,Nat.reduceMul,Nat.reduceSub,Int.reduceEq,Int.reduceLT,Int.reduceLE,Int.reduceNe,Nat.reduceBneDiff,Nat.reduceBEq,decide_false,gt_iff_lt,Bool.or_self,Bool.false_eq_true,Nat.mul_one,Nat.one_mul,Nat.zero_mul,↓reduceIte,Nat.reduceEqDiff,Nat.reduceLT,Nat.reduceAdd,Nat.reduceLeDiff,reduceCtorEq,goInt,pairs,isConst,TI.isAgg,splice,boxS,Edp,dpv,Nat.beq_eq,ZV.val,List.any_cons,List.any_nil,Bool.false_and]
  refine app_clone (AHeap.get_set_same _ _ _) hs fun σ' d ex h1 h2 h3 => ?_
  have hd : σ.get d = .dead := by
   rcases h2 with rfl | h2
   ·exact hb
   ·by_cases e : b = d
    ·subst e; exact hb
    ·rw [AHeap.get_set_ne _ _ e] at h2; exact h2
  simp (disch := first | assumption | simp) only [↓sbD,sbU,tyB,Nat.reduceMul,Nat.reduceSub,Int.reduceEq,Int.reduceLT,Int.reduceLE,Int.reduceNe,Nat.reduceBneDiff,Nat.reduceBEq,decide_false,gt_iff_lt,Bool.or_self,Bool.false_eq_true,Nat.mul_one,Nat.one_mul,Nat.zero_mul,↓reduceIte,Nat.reduceEqDiff,Nat.reduceLT,Nat.reduceAdd,Nat.reduceLeDiff,reduceCtorEq,goInt,pairs,isConst,TI.isAgg,splice,boxS,Edp,dpv,Nat.beq_eq,ZV.val,List.any_cons,List.any_nil,Bool.false_and]
  refine downS_here (hq σ' d ex hd h1 fun c hc => ?_)
  have hbc : b ≠ c := by rintro rfl; exact hc hb
  rw [h3 c (by rw [AHeap.get_set_ne _ _ hbc]; exact hc),AHeap.get_set_ne _ _ hbc]
def WS (σ : AHeap) (v : Value) (l : List Pr) : Prop := (l = [] ∧ v = .slice none 0 0) ∨ ∃ d ex c cs,v = .slice (some ⟨d,0,ex⟩) l.length c ∧ σ.get d = .cells (flat l ++ cs) true 4
theorem specIdx0 {f : Value} (h : Q (.int .i64 (-1)) σ) : CallS E B 22 [.slice none 0 0,f] σ Q := by
 refine call22 (by simp) ?_
 simp only [strip,bodyOf,Tryz.f22,getD_body,keepN,bareOp_mk,lessOp_mk,lapp_cons,lapp_nil,List.map_cons,List.map_nil,array_toList,↓reduceIte,Nat.reduceEqDiff,Bool.false_eq_true]
 simp (disch := first | assumption | simp) only [↓sbD,sbU,tyB,Nat.reduceMul,Nat.reduceSub,Int.reduceEq,Int.reduceLT,Int.reduceLE,Int.reduceNe,Nat.reduceBneDiff,Nat.reduceBEq,decide_false,gt_iff_lt,Bool.or_self,Bool.false_eq_true,Nat.mul_one,Nat.one_mul,Nat.zero_mul,↓reduceIte,Nat.reduceEqDiff,Nat.reduceLT,Nat.reduceAdd,Nat.reduceLeDiff,reduceCtorEq,goInt,pairs,isConst,TI.isAgg,splice,boxS,Edp,dpv,Nat.beq_eq,ZV.val,List.any_cons,List.any_nil,Bool.false_and]
 refine S_loop (fun m f σ' => σ' = σ ∧ f 8 = .int .i64 0) 0 (Le.refl _) ⟨rfl,by simp (disch := first | assumption | simp) only [↓sbD,sbU,tyB,Nat.reduceMul,Nat.reduceSub,Int.reduceEq,Int.reduceLT,Int.reduceLE,Int.reduceNe,Nat.reduceBneDiff,Nat.reduceBEq,decide_false,gt_iff_lt,Bool.or_self,Bool.false_eq_true,Nat.mul_one,Nat.one_mul,Nat.zero_mul,↓reduceIte,Nat.reduceEqDiff,Nat.reduceLT,Nat.reduceAdd,Nat.reduceLeDiff,reduceCtorEq,goInt,pairs,isConst,TI.isAgg,splice,boxS,Edp,dpv,Nat.beq_eq,ZV.val,List.any_cons,List.any_nil,Bool.false_and]⟩ ?_
 rintro m f σ' ⟨rfl,f8⟩ hf
 have f7 := hf 7 (by decide) (notMem_wr (by kernel_rfl))
 simp (disch := first | assumption | simp) only [↓sbD,sbU,tyB,Nat.reduceMul,Nat.reduceSub,Int.reduceEq,Int.reduceLT,Int.reduceLE,Int.reduceNe,Nat.reduceBneDiff,Nat.reduceBEq,decide_false,gt_iff_lt,Bool.or_self,Bool.false_eq_true,Nat.mul_one,Nat.one_mul,Nat.zero_mul,↓reduceIte,Nat.reduceEqDiff,Nat.reduceLT,Nat.reduceAdd,Nat.reduceLeDiff,reduceCtorEq,goInt,pairs,isConst,TI.isAgg,splice,boxS,Edp,dpv,Nat.beq_eq,ZV.val,List.any_cons,List.any_nil,Bool.false_and] at f7
 clear hf
 have h00 : ((0 : Nat) : Int) = 0 := rfl
 simp (disch := first | assumption | simp) only [↓sbD,sbU,tyB,Nat.reduceMul,Nat.reduceSub,Int.reduceEq,Int.reduceLT,Int.reduceLE,Int.reduceNe,Nat.reduceBneDiff,Nat.reduceBEq,decide_false,gt_iff_lt,Bool.or_self,Bool.false_eq_true,Nat.mul_one,Nat.one_mul,Nat.zero_mul,↓reduceIte,Nat.reduceEqDiff,Nat.reduceLT,Nat.reduceAdd,Nat.reduceLeDiff,reduceCtorEq,goInt,pairs,isConst,TI.isAgg,splice,boxS,Edp,dpv,Nat.beq_eq,ZV.val,List.any_cons,List.any_nil,Bool.false_and,f7,f8,h00]
 exact downS_here h
theorem specDel0 {f : Value} (h : Q (.slice none 0 0) σ) : CallS E B 26 [.slice none 0 0,f] σ Q := by
 refine call26 (by simp) ?_
 simp only [strip,bodyOf,Tryz.f26,getD_body,keepN,bareOp_mk,lessOp_mk,lapp_cons,lapp_nil,List.map_cons,List.map_nil,array_toList,↓reduceIte,Nat.reduceEqDiff,Bool.false_eq_true]
 simp (disch := first | assumption | simp) only [↓sbD,sbU,tyB,Nat.reduceMul,Nat.reduceSub,Int.reduceEq,Int.reduceLT,Int.reduceLE,Int.reduceNe,Nat.reduceBneDiff,Nat.reduceBEq,decide_false,gt_iff_lt,Bool.or_self,Bool.false_eq_true,Nat.mul_one,Nat.one_mul,Nat.zero_mul,↓reduceIte,Nat.reduceEqDiff,Nat.reduceLT,Nat.reduceAdd,Nat.reduceLeDiff,reduceCtorEq,goInt,pairs,isConst,TI.isAgg,splice,boxS,Edp,dpv,Nat.beq_eq,ZV.val,List.any_cons,List.any_nil,Bool.false_and]
 refine specIdx0 ?_
 simp (disch := first | assumption | simp) only [↓sbD,sbU,tyB,Nat.reduceMul,Nat.reduceSub,Int.reduceEq,Int.reduceLT,Int.reduceLE,Int.reduceNe,Nat.reduceBneDiff,Nat.reduceBEq,decide_false,gt_iff_lt,Bool.or_self,Bool.false_eq_true,Nat.mul_one,Nat.one_mul,Nat.zero_mul,↓reduceIte,Nat.reduceEqDiff,Nat.reduceLT,Nat.reduceAdd,Nat.reduceLeDiff,reduceCtorEq,goInt,pairs,isConst,TI.isAgg,splice,boxS,Edp,dpv,Nat.beq_eq,ZV.val,List.any_cons,List.any_nil,Bool.false_and]
 exact downS_here h
theorem arr_map {α β : Type} (f : α → β) (l : List α) : Array.map f ⟨l⟩ = ⟨l.map f⟩ := by simp
theorem dpI : dp 3 = false := rfl
theorem specWithoutS {v : Value} {l : List Pr} {id : Int} (hv : l = [] ∧ v = .slice none 0 0 ∨ ∃ m,v = dsl m 4 l.length (flat l)) (hs : l.length ≤ 100000)
  (hq : ∀ σ' v',WS σ' v' (l.filter fun p => !decide (p.id = id)) → (∀ b,σ.get b ≠ .dead → σ'.get b = σ.get b) → Q v' σ') :
  CallS E B 15 [v,.int .i64 id] σ Q := by
 refine call15 (by simp) ?_
 simp only [strip,bodyOf,Tryz.f15,getD_body,keepN,bareOp_mk,lessOp_mk,lapp_cons,lapp_nil,List.map_cons,List.map_nil,array_toList,↓reduceIte,Nat.reduceEqDiff,Bool.false_eq_true]
 simp (disch := first | assumption | simp) only [↓sbD,sbU,tyB,Nat.reduceMul,Nat.reduceSub,Int.reduceEq,Int.reduceLT,Int.reduceLE,Int.reduceNe,Nat.reduceBneDiff,Nat.reduceBEq,decide_false,gt_iff_lt,Bool.or_self,Bool.false_eq_true,Nat.mul_one,Nat.one_mul,Nat.zero_mul,↓reduceIte,Nat.reduceEqDiff,Nat.reduceLT,Nat.reduceAdd,Nat.reduceLeDiff,reduceCtorEq,goInt,pairs,isConst,TI.isAgg,splice,boxS,Edp,dpv,Nat.beq_eq,ZV.val,List.any_cons,List.any_nil,Bool.false_and,AS_new,dpI]
 intro c hc
 generalize hσ1 : AHeap.set σ c _ = σ1
 have hc1 : σ1.get c = .cells [.int .i64 id] true 0 := by rw [← hσ1]; exact AHeap.get_set_same _ _ _
 have hk1 : ∀ b,σ.get b ≠ .dead → σ1.get b = σ.get b := fun b hb => by rw [← hσ1]; exact AHeap.get_set_ne _ _ (by rintro rfl; exact hb hc)
 clear hσ1
 try simp (disch := first | assumption | simp) only [↓sbD,sbU,tyB,Nat.reduceMul,Nat.reduceSub,Int.reduceEq,Int.reduceLT,Int.reduceLE,Int.reduceNe,Nat.reduceBneDiff,Nat.reduceBEq,decide_false,gt_iff_lt,Bool.or_self,Bool.false_eq_true,Nat.mul_one,Nat.one_mul,Nat.zero_mul,↓reduceIte,Nat.reduceEqDiff,Nat.reduceLT,Nat.reduceAdd,Nat.reduceLeDiff,reduceCtorEq,goInt,pairs,isConst,TI.isAgg,splice,boxS,Edp,dpv,Nat.beq_eq,ZV.val,List.any_cons,List.any_nil,Bool.false_and]
 refine specCloW hv hs (fun hl hvn => ?_) fun σ2 d ex hd gd hk2 => ?_
 ·subst hl
  simp (disch := first | assumption | simp) only [↓sbD,sbU,tyB,Nat.reduceMul,Nat.reduceSub,Int.reduceEq,Int.reduceLT,Int.reduceLE,Int.reduceNe,Nat.reduceBneDiff,Nat.reduceBEq,decide_false,gt_iff_lt,Bool.or_self,Bool.false_eq_true,Nat.mul_one,Nat.one_mul,Nat.zero_mul,↓reduceIte,Nat.reduceEqDiff,Nat.reduceLT,Nat.reduceAdd,Nat.reduceLeDiff,reduceCtorEq,goInt,pairs,isConst,TI.isAgg,splice,boxS,Edp,dpv,Nat.beq_eq,ZV.val,List.any_cons,List.any_nil,Bool.false_and]
  refine specDel0 ?_
  simp (disch := first | assumption | simp) only [↓sbD,sbU,tyB,Nat.reduceMul,Nat.reduceSub,Int.reduceEq,Int.reduceLT,Int.reduceLE,Int.reduceNe,Nat.reduceBneDiff,Nat.reduceBEq,decide_false,gt_iff_lt,Bool.or_self,Bool.false_eq_true,Nat.mul_one,Nat.one_mul,Nat.zero_mul,↓reduceIte,Nat.reduceEqDiff,Nat.reduceLT,Nat.reduceAdd,Nat.reduceLeDiff,reduceCtorEq,goInt,pairs,isConst,TI.isAgg,splice,boxS,Edp,dpv,Nat.beq_eq,ZV.val,List.any_cons,List.any_nil,Bool.false_and]
  exact downS_here (hq _ _ (.inl ⟨rfl,rfl⟩) hk1)
 ·have hc2 : σ2.get c = .cells [.int .i64 id] true 0 := by rw [hk2 c (by rw [hc1]; simp)]; exact hc1
  have hcd : c ≠ d := by rintro rfl; rw [hc1] at hd; cases hd
  simp (disch := first | assumption | simp) only [↓sbD,sbU,tyB,Nat.reduceMul,Nat.reduceSub,Int.reduceEq,Int.reduceLT,Int.reduceLE,Int.reduceNe,Nat.reduceBneDiff,Nat.reduceBEq,decide_false,gt_iff_lt,Bool.or_self,Bool.false_eq_true,Nat.mul_one,Nat.one_mul,Nat.zero_mul,↓reduceIte,Nat.reduceEqDiff,Nat.reduceLT,Nat.reduceAdd,Nat.reduceLeDiff,reduceCtorEq,goInt,pairs,isConst,TI.isAgg,splice,boxS,Edp,dpv,Nat.beq_eq,ZV.val,List.any_cons,List.any_nil,Bool.false_and,arr_map]
  refine specDelW gd hc2 hcd hs fun σ3 cp cs g3 hk3 => ?_
  simp (disch := first | assumption | simp) only [↓sbD,sbU,tyB,Nat.reduceMul,Nat.reduceSub,Int.reduceEq,Int.reduceLT,Int.reduceLE,Int.reduceNe,Nat.reduceBneDiff,Nat.reduceBEq,decide_false,gt_iff_lt,Bool.or_self,Bool.false_eq_true,Nat.mul_one,Nat.one_mul,Nat.zero_mul,↓reduceIte,Nat.reduceEqDiff,Nat.reduceLT,Nat.reduceAdd,Nat.reduceLeDiff,reduceCtorEq,goInt,pairs,isConst,TI.isAgg,splice,boxS,Edp,dpv,Nat.beq_eq,ZV.val,List.any_cons,List.any_nil,Bool.false_and]
  refine downS_here (hq σ3 _ (.inr ⟨d,_,_,_,rfl,g3⟩) fun b hb => ?_)
  have hbd : b ≠ d := by rintro rfl; rw [hk1 b hb] at hd; exact hb hd
  rw [hk3 b (by rw [hk2 b (by rw [hk1 b hb]; exact hb),hk1 b hb]; exact hb) hbd,hk2 b (by rw [hk1 b hb]; exact hb),hk1 b hb]
end
end Go.Proofs.YtdiekikcnfjlnaaGreatDoor.AbsS
namespace Go.Proofs.YtdiekikcnfjlnaaGreatDoor.AbsA
open Go AbsYtdiekikcnfjlnaaGreatDoor Abs
set_option maxRecDepth 100000
set_option maxHeartbeats 4000000
set_option linter.unusedSimpArgs false
set_option linter.unusedVariables false
attribute [local irreducible] afterS afterOpS opSK OpsS TrS CodeS condS condW thenS thenQ guardS guardTS outS drawS trSK consS
def getP (l : List Pr) (id : Int) : Option Pr := l.find? fun p => decide (p.id = id)
def prz : Pr := ⟨0,0,emp,emp⟩
def getV (o : Option Pr) : Value := .tuple #[.agg ⟨propC (o.getD prz)⟩,.bool o.isSome]
def numV (o : Option Pr) (n : Int) : Int := match o with
 | some p => p.n
 | none => n
def keepP (l : List Pr) (id : Int) : List Pr := l.filter fun p => !decide (p.id = id)
theorem getP_at {l : List Pr} {id : Int} {i : Nat} (hi : i < l.length) (he : (l[i]).id = id) (hno : ∀ j (hj : j < l.length),j < i → (l[j]).id ≠ id) : getP l id = some l[i] := by
 unfold getP
 rw [List.find?_eq_some_iff_getElem]
 exact ⟨by simp [he],i,hi,rfl,fun j hj => by simp [hno j (by omega) hj]⟩
theorem getP_no {l : List Pr} {id : Int} (hno : ∀ p ∈ l,p.id ≠ id) : getP l id = none := by
 unfold getP
 rw [List.find?_eq_none]
 intro p hp
 simp [hno p hp]
section
variable {σ : AHeap} {Q : Value → AHeap → Prop}
theorem specWithoutP {v : Value} {l : List Pr} {id : Int} (hl : DL propC 4 v l) (hs : l.length ≤ 100000) (hq : ∀ σ' v',AbsS.WS σ' v' (keepP l id) → Kept σ [] σ' [] → Q v' σ') : CallS E B 15 [v,.int .i64 id] σ Q :=
 sub15 (AbsS.specWithoutS hl hs fun σ' v' h1 h2 => hq σ' v' h1 ⟨fun b hb _ => h2 b hb,fun b hb => by cases hb⟩)
theorem specGet1 {b : Nat} {id : Int} {p : Pr} (hb : σ.get b = .cells [.int .i64 id] true 0) {R : Value → AHeap → Prop} (h : R (.bool (decide (p.id = id))) σ) : CallS E B 23 [.agg ⟨propC p⟩,.pointer (some ⟨b,0,none⟩)] σ R := by
 simp only [propC]
 refine call23 (by simp) ?_
 simp only [strip,bodyOf,Tryz.f23,getD_body,keepN,bareOp_mk,lessOp_mk,lapp_cons,lapp_nil,List.map_cons,List.map_nil,array_toList,↓reduceIte,Nat.reduceEqDiff,Bool.false_eq_true]
 simp (disch := first | assumption | simp) only [↓sbD,sbU,tyB,Nat.reduceMul,Nat.reduceSub,Int.reduceEq,Int.reduceLT,Int.reduceLE,Int.reduceNe,Nat.reduceBneDiff,Nat.reduceBEq,decide_false,gt_iff_lt,Bool.or_self,Bool.false_eq_true,Nat.mul_one,Nat.one_mul,Nat.zero_mul,↓reduceIte,Nat.reduceEqDiff,Nat.reduceLT,Nat.reduceAdd,Nat.reduceLeDiff,reduceCtorEq,goInt,pairs,isConst,TI.isAgg,splice,boxS,Edp,dpv,Nat.beq_eq,ZV.val,List.any_cons,List.any_nil,Bool.false_and,hb]
 exact downS_here h
theorem specGetP {v : Value} {l : List Pr} {id : Int} (hl : DL propC 4 v l) (hs : l.length ≤ 100000) (hq : ∀ σ',Kept σ [] σ' [] → Q (getV (getP l id)) σ') : CallS E B 6 [v,.int .i64 id] σ Q := by
 refine call6 (by simp) ?_
 simp only [strip,bodyOf,Tryz.f6,getD_body,keepN,bareOp_mk,lessOp_mk,lapp_cons,lapp_nil,List.map_cons,List.map_nil,array_toList,↓reduceIte,Nat.reduceEqDiff,Bool.false_eq_true]
 simp (disch := first | assumption | simp) only [↓sbD,sbU,tyB,Nat.reduceMul,Nat.reduceSub,Int.reduceEq,Int.reduceLT,Int.reduceLE,Int.reduceNe,Nat.reduceBneDiff,Nat.reduceBEq,decide_false,gt_iff_lt,Bool.or_self,Bool.false_eq_true,Nat.mul_one,Nat.one_mul,Nat.zero_mul,↓reduceIte,Nat.reduceEqDiff,Nat.reduceLT,Nat.reduceAdd,Nat.reduceLeDiff,reduceCtorEq,goInt,pairs,isConst,TI.isAgg,splice,boxS,Edp,dpv,Nat.beq_eq,ZV.val,List.any_cons,List.any_nil,Bool.false_and,AS_new,dpI,zePr]
 intro c hc b hb
 have hbc : b ≠ c := by rintro rfl; rw [AHeap.get_set_same] at hb; cases hb
 have hbd : σ.get b = .dead := by rw [AHeap.get_set_ne _ _ hbc.symm] at hb; exact hb
 generalize hσ1 : AHeap.set (AHeap.set σ c _) b _ = σ1
 have k1 : Kept σ [] σ1 [] := by rw [← hσ1]; exact ((Kept.refl σ []).setD hc).setD hbd
 have gc1 : σ1.get c = .cells [.int .i64 id] true 0 := by rw [← hσ1,AHeap.get_set_ne _ _ hbc]; exact AHeap.get_set_same _ _ _
 have gb1 : σ1.get b = .cells [.int .i64 0,.int .i64 0,.string ⟨#[]⟩,.string ⟨#[]⟩] true 0 := by rw [← hσ1]; exact AHeap.get_set_same _ _ _
 clear hσ1
 try simp (disch := first | assumption | simp) only [↓sbD,sbU,tyB,Nat.reduceMul,Nat.reduceSub,Int.reduceEq,Int.reduceLT,Int.reduceLE,Int.reduceNe,Nat.reduceBneDiff,Nat.reduceBEq,decide_false,gt_iff_lt,Bool.or_self,Bool.false_eq_true,Nat.mul_one,Nat.one_mul,Nat.zero_mul,↓reduceIte,Nat.reduceEqDiff,Nat.reduceLT,Nat.reduceAdd,Nat.reduceLeDiff,reduceCtorEq,goInt,pairs,isConst,TI.isAgg,splice,boxS,Edp,dpv,Nat.beq_eq,ZV.val,List.any_cons,List.any_nil,Bool.false_and,arr_map]
 refine specIndexP hl hs (fun p {R} h => specGet1 gc1 h) (fun i hi he hno => ?_) fun hno => ?_
 ·have hn : ¬ (i : Int) < 0 := by omega
  have hia := DLp.at hl hi
  have hg := getP_at hi he hno
  rw [hg] at hq
  generalize l[i] = y at hia hq
  have hac : propC y = [.int .i64 y.id,.int .i64 y.n,.string y.s,.string y.v] := rfl
  simp (disch := first | assumption | simp) only [↓sbD,sbU,tyB,Nat.reduceMul,Nat.reduceSub,Int.reduceEq,Int.reduceLT,Int.reduceLE,Int.reduceNe,Nat.reduceBneDiff,Nat.reduceBEq,decide_false,gt_iff_lt,Bool.or_self,Bool.false_eq_true,Nat.mul_one,Nat.one_mul,Nat.zero_mul,↓reduceIte,Nat.reduceEqDiff,Nat.reduceLT,Nat.reduceAdd,Nat.reduceLeDiff,reduceCtorEq,goInt,pairs,isConst,TI.isAgg,splice,boxS,Edp,dpv,Nat.beq_eq,ZV.val,List.any_cons,List.any_nil,Bool.false_and,hn,hia,hac,gb1,AHeap.get_set_same,res_cellc,resC_some]
  exact downS_here (hq _ (k1.setD hbd))
 ·have hn : ((-1 : Int)) < 0 := by omega
  rw [getP_no hno] at hq
  simp (disch := first | assumption | simp) only [↓sbD,sbU,tyB,Nat.reduceMul,Nat.reduceSub,Int.reduceEq,Int.reduceLT,Int.reduceLE,Int.reduceNe,Nat.reduceBneDiff,Nat.reduceBEq,decide_false,gt_iff_lt,Bool.or_self,Bool.false_eq_true,Nat.mul_one,Nat.one_mul,Nat.zero_mul,↓reduceIte,Nat.reduceEqDiff,Nat.reduceLT,Nat.reduceAdd,Nat.reduceLeDiff,reduceCtorEq,goInt,pairs,isConst,TI.isAgg,splice,boxS,Edp,dpv,Nat.beq_eq,ZV.val,List.any_cons,List.any_nil,Bool.false_and,gb1,AHeap.get_set_same,res_cellc,resC_some]
  exact downS_here (hq _ (k1.setD hbd))
theorem specGetR {v : Value} {l : List Pr} {id : Int} (hl : DL propC 4 v l) (hs : l.length ≤ 100000) (hq : ∀ σ',Kept σ [] σ' [] → Q (getV (getP l id)) σ') : CallS E B 7 [v,.int .i64 id] σ Q := by
 have hlen := DLp.len hl
 refine call7 (by simp) ?_
 simp only [strip,bodyOf,Tryz.f7,getD_body,keepN,bareOp_mk,lessOp_mk,lapp_cons,lapp_nil,List.map_cons,List.map_nil,array_toList,↓reduceIte,Nat.reduceEqDiff,Bool.false_eq_true]
 simp (disch := first | assumption | simp) only [↓sbD,sbU,tyB,Nat.reduceMul,Nat.reduceSub,Int.reduceEq,Int.reduceLT,Int.reduceLE,Int.reduceNe,Nat.reduceBneDiff,Nat.reduceBEq,decide_false,gt_iff_lt,Bool.or_self,Bool.false_eq_true,Nat.mul_one,Nat.one_mul,Nat.zero_mul,↓reduceIte,Nat.reduceEqDiff,Nat.reduceLT,Nat.reduceAdd,Nat.reduceLeDiff,reduceCtorEq,goInt,pairs,isConst,TI.isAgg,splice,boxS,Edp,dpv,Nat.beq_eq,ZV.val,List.any_cons,List.any_nil,Bool.false_and,AS_new,zePr]
 intro b hb
 generalize hσ1 : AHeap.set σ b _ = σ1
 have k1 : Kept σ [] σ1 [] := by rw [← hσ1]; exact (Kept.refl σ []).setD hb
 have gb1 : σ1.get b = .cells [.int .i64 0,.int .i64 0,.string ⟨#[]⟩,.string ⟨#[]⟩] true 0 := by rw [← hσ1]; exact AHeap.get_set_same _ _ _
 clear hσ1
 try simp (disch := first | assumption | simp) only [↓sbD,sbU,tyB,Nat.reduceMul,Nat.reduceSub,Int.reduceEq,Int.reduceLT,Int.reduceLE,Int.reduceNe,Nat.reduceBneDiff,Nat.reduceBEq,decide_false,gt_iff_lt,Bool.or_self,Bool.false_eq_true,Nat.mul_one,Nat.one_mul,Nat.zero_mul,↓reduceIte,Nat.reduceEqDiff,Nat.reduceLT,Nat.reduceAdd,Nat.reduceLeDiff,reduceCtorEq,goInt,pairs,isConst,TI.isAgg,splice,boxS,Edp,dpv,Nat.beq_eq,ZV.val,List.any_cons,List.any_nil,Bool.false_and]
 refine S_loop (fun m f σ' => σ' = σ1 ∧ ∃ i : Nat,m + i = l.length ∧ f 6 = .int .i64 i ∧ ∀ j (hj : j < l.length),j < i → (l[j]).id ≠ id) l.length (Le.refl _) ⟨rfl,0,rfl,by simp (disch := first | assumption | simp) only [↓sbD,sbU,tyB,Nat.reduceMul,Nat.reduceSub,Int.reduceEq,Int.reduceLT,Int.reduceLE,Int.reduceNe,Nat.reduceBneDiff,Nat.reduceBEq,decide_false,gt_iff_lt,Bool.or_self,Bool.false_eq_true,Nat.mul_one,Nat.one_mul,Nat.zero_mul,↓reduceIte,Nat.reduceEqDiff,Nat.reduceLT,Nat.reduceAdd,Nat.reduceLeDiff,reduceCtorEq,goInt,pairs,isConst,TI.isAgg,splice,boxS,Edp,dpv,Nat.beq_eq,ZV.val,List.any_cons,List.any_nil,Bool.false_and]; rfl,fun j _ hj => by omega⟩ ?_
 rintro m f σ' ⟨rfl,i,hm,f6,hno⟩ hf
 have f0 := hf 0 (by decide) (notMem_wr (by kernel_rfl))
 have f1 := hf 1 (by decide) (notMem_wr (by kernel_rfl))
 have f4 := hf 4 (by decide) (notMem_wr (by kernel_rfl))
 simp (disch := first | assumption | simp) only [↓sbD,sbU,tyB,Nat.reduceMul,Nat.reduceSub,Int.reduceEq,Int.reduceLT,Int.reduceLE,Int.reduceNe,Nat.reduceBneDiff,Nat.reduceBEq,decide_false,gt_iff_lt,Bool.or_self,Bool.false_eq_true,Nat.mul_one,Nat.one_mul,Nat.zero_mul,↓reduceIte,Nat.reduceEqDiff,Nat.reduceLT,Nat.reduceAdd,Nat.reduceLeDiff,reduceCtorEq,goInt,pairs,isConst,TI.isAgg,splice,boxS,Edp,dpv,Nat.beq_eq,ZV.val,List.any_cons,List.any_nil,Bool.false_and] at f0 f1 f4
 clear hf
 by_cases hi : (i : Int) < (l.length : Int)
 ·have hi' : i < l.length := by omega
  have hia := DLp.at hl hi'
  have hw := wrap_suc (n := i) (by omega)
  by_cases he : (l[i]).id = id
  ·rw [getP_at hi' he hno] at hq
   generalize l[i] = y at hia hq he
   have hac : propC y = [.int .i64 y.id,.int .i64 y.n,.string y.s,.string y.v] := rfl
   simp (disch := first | assumption | simp) only [↓sbD,sbU,tyB,Nat.reduceMul,Nat.reduceSub,Int.reduceEq,Int.reduceLT,Int.reduceLE,Int.reduceNe,Nat.reduceBneDiff,Nat.reduceBEq,decide_false,gt_iff_lt,Bool.or_self,Bool.false_eq_true,Nat.mul_one,Nat.one_mul,Nat.zero_mul,↓reduceIte,Nat.reduceEqDiff,Nat.reduceLT,Nat.reduceAdd,Nat.reduceLeDiff,reduceCtorEq,goInt,pairs,isConst,TI.isAgg,splice,boxS,Edp,dpv,Nat.beq_eq,ZV.val,List.any_cons,List.any_nil,Bool.false_and,f0,f1,f4,f6,hlen,hi,hia,hac,eq_true he,gb1,AHeap.get_set_same,res_cellc,resC_some]
   exact downS_here (hq _ (k1.setD hb))
  ·have hno' := hno
   generalize hy : l[i] = y at hia he
   have hac : propC y = [.int .i64 y.id,.int .i64 y.n,.string y.s,.string y.v] := rfl
   simp (disch := first | assumption | simp) only [↓sbD,sbU,tyB,Nat.reduceMul,Nat.reduceSub,Int.reduceEq,Int.reduceLT,Int.reduceLE,Int.reduceNe,Nat.reduceBneDiff,Nat.reduceBEq,decide_false,gt_iff_lt,Bool.or_self,Bool.false_eq_true,Nat.mul_one,Nat.one_mul,Nat.zero_mul,↓reduceIte,Nat.reduceEqDiff,Nat.reduceLT,Nat.reduceAdd,Nat.reduceLeDiff,reduceCtorEq,goInt,pairs,isConst,TI.isAgg,splice,boxS,Edp,dpv,Nat.beq_eq,ZV.val,List.any_cons,List.any_nil,Bool.false_and,f0,f1,f4,f6,hlen,hi,hia,hac,he,hw]
   refine ⟨_,m - 1,_,rfl,by omega,Le.refl _,rfl,i + 1,by omega,by simp (disch := first | assumption | simp) only [↓sbD,sbU,tyB,Nat.reduceMul,Nat.reduceSub,Int.reduceEq,Int.reduceLT,Int.reduceLE,Int.reduceNe,Nat.reduceBneDiff,Nat.reduceBEq,decide_false,gt_iff_lt,Bool.or_self,Bool.false_eq_true,Nat.mul_one,Nat.one_mul,Nat.zero_mul,↓reduceIte,Nat.reduceEqDiff,Nat.reduceLT,Nat.reduceAdd,Nat.reduceLeDiff,reduceCtorEq,goInt,pairs,isConst,TI.isAgg,splice,boxS,Edp,dpv,Nat.beq_eq,ZV.val,List.any_cons,List.any_nil,Bool.false_and],fun j hj hji => ?_⟩
   rcases (by omega : j < i ∨ j = i) with h3 | rfl
   ·exact hno j hj h3
   ·rw [hy]; exact he
 ·rw [getP_no (fun p hp => by obtain ⟨j,hj,rfl⟩ := List.getElem_of_mem hp; exact hno j hj (by omega))] at hq
  simp (disch := first | assumption | simp) only [↓sbD,sbU,tyB,Nat.reduceMul,Nat.reduceSub,Int.reduceEq,Int.reduceLT,Int.reduceLE,Int.reduceNe,Nat.reduceBneDiff,Nat.reduceBEq,decide_false,gt_iff_lt,Bool.or_self,Bool.false_eq_true,Nat.mul_one,Nat.one_mul,Nat.zero_mul,↓reduceIte,Nat.reduceEqDiff,Nat.reduceLT,Nat.reduceAdd,Nat.reduceLeDiff,reduceCtorEq,goInt,pairs,isConst,TI.isAgg,splice,boxS,Edp,dpv,Nat.beq_eq,ZV.val,List.any_cons,List.any_nil,Bool.false_and,f0,f4,f6,hlen,hi,gb1,AHeap.get_set_same,res_cellc,resC_some]
  exact downS_here (hq _ (k1.setD hb))
theorem specNumP {v : Value} {l : List Pr} {id n : Int} (hl : DL propC 4 v l) (hs : l.length ≤ 100000) (hq : ∀ σ',Kept σ [] σ' [] → Q (.int .i64 (numV (getP l id) n)) σ') : CallS E B 12 [v,.int .i64 id,.int .i64 n] σ Q := by
 refine call12 (by simp) ?_
 simp only [strip,bodyOf,Tryz.f12,getD_body,keepN,bareOp_mk,lessOp_mk,lapp_cons,lapp_nil,List.map_cons,List.map_nil,array_toList,↓reduceIte,Nat.reduceEqDiff,Bool.false_eq_true]
 simp (disch := first | assumption | simp) only [↓sbD,sbU,tyB,Nat.reduceMul,Nat.reduceSub,Int.reduceEq,Int.reduceLT,Int.reduceLE,Int.reduceNe,Nat.reduceBneDiff,Nat.reduceBEq,decide_false,gt_iff_lt,Bool.or_self,Bool.false_eq_true,Nat.mul_one,Nat.one_mul,Nat.zero_mul,↓reduceIte,Nat.reduceEqDiff,Nat.reduceLT,Nat.reduceAdd,Nat.reduceLeDiff,reduceCtorEq,goInt,pairs,isConst,TI.isAgg,splice,boxS,Edp,dpv,Nat.beq_eq,ZV.val,List.any_cons,List.any_nil,Bool.false_and]
 refine specGetP hl hs fun σ1 k1 => ?_
 cases hg : getP l id with
 | none =>
  rw [hg] at hq
  simp only [getV,propC,prz,Option.getD_none,Option.isSome_none]
  simp (disch := first | assumption | simp) only [↓sbD,sbU,tyB,Nat.reduceMul,Nat.reduceSub,Int.reduceEq,Int.reduceLT,Int.reduceLE,Int.reduceNe,Nat.reduceBneDiff,Nat.reduceBEq,decide_false,gt_iff_lt,Bool.or_self,Bool.false_eq_true,Nat.mul_one,Nat.one_mul,Nat.zero_mul,↓reduceIte,Nat.reduceEqDiff,Nat.reduceLT,Nat.reduceAdd,Nat.reduceLeDiff,reduceCtorEq,goInt,pairs,isConst,TI.isAgg,splice,boxS,Edp,dpv,Nat.beq_eq,ZV.val,List.any_cons,List.any_nil,Bool.false_and,AS_new,zePr]
  intro b hb
  try simp (disch := first | assumption | simp) only [↓sbD,sbU,tyB,Nat.reduceMul,Nat.reduceSub,Int.reduceEq,Int.reduceLT,Int.reduceLE,Int.reduceNe,Nat.reduceBneDiff,Nat.reduceBEq,decide_false,gt_iff_lt,Bool.or_self,Bool.false_eq_true,Nat.mul_one,Nat.one_mul,Nat.zero_mul,↓reduceIte,Nat.reduceEqDiff,Nat.reduceLT,Nat.reduceAdd,Nat.reduceLeDiff,reduceCtorEq,goInt,pairs,isConst,TI.isAgg,splice,boxS,Edp,dpv,Nat.beq_eq,ZV.val,List.any_cons,List.any_nil,Bool.false_and,AHeap.get_set_same,not_bool,Bool.not_false]
  exact downS_here (hq _ ((k1.trans (((Kept.refl _ []).setD hb).setD hb))))
 | some p =>
  rw [hg] at hq
  simp only [getV,propC,Option.getD_some,Option.isSome_some]
  simp (disch := first | assumption | simp) only [↓sbD,sbU,tyB,Nat.reduceMul,Nat.reduceSub,Int.reduceEq,Int.reduceLT,Int.reduceLE,Int.reduceNe,Nat.reduceBneDiff,Nat.reduceBEq,decide_false,gt_iff_lt,Bool.or_self,Bool.false_eq_true,Nat.mul_one,Nat.one_mul,Nat.zero_mul,↓reduceIte,Nat.reduceEqDiff,Nat.reduceLT,Nat.reduceAdd,Nat.reduceLeDiff,reduceCtorEq,goInt,pairs,isConst,TI.isAgg,splice,boxS,Edp,dpv,Nat.beq_eq,ZV.val,List.any_cons,List.any_nil,Bool.false_and,AS_new,zePr]
  intro b hb
  try simp (disch := first | assumption | simp) only [↓sbD,sbU,tyB,Nat.reduceMul,Nat.reduceSub,Int.reduceEq,Int.reduceLT,Int.reduceLE,Int.reduceNe,Nat.reduceBneDiff,Nat.reduceBEq,decide_false,gt_iff_lt,Bool.or_self,Bool.false_eq_true,Nat.mul_one,Nat.one_mul,Nat.zero_mul,↓reduceIte,Nat.reduceEqDiff,Nat.reduceLT,Nat.reduceAdd,Nat.reduceLeDiff,reduceCtorEq,goInt,pairs,isConst,TI.isAgg,splice,boxS,Edp,dpv,Nat.beq_eq,ZV.val,List.any_cons,List.any_nil,Bool.false_and,AHeap.get_set_same,not_bool,Bool.not_true]
  exact downS_here (hq _ ((k1.trans (((Kept.refl _ []).setD hb).setD hb))))
theorem specNumR {v : Value} {l : List Pr} {id n : Int} (hl : DL propC 4 v l) (hs : l.length ≤ 100000) (hq : ∀ σ',Kept σ [] σ' [] → Q (.int .i64 (numV (getP l id) n)) σ') : CallS E B 13 [v,.int .i64 id,.int .i64 n] σ Q := by
 refine call13 (by simp) ?_
 simp only [strip,bodyOf,Tryz.f13,getD_body,keepN,bareOp_mk,lessOp_mk,lapp_cons,lapp_nil,List.map_cons,List.map_nil,array_toList,↓reduceIte,Nat.reduceEqDiff,Bool.false_eq_true]
 simp (disch := first | assumption | simp) only [↓sbD,sbU,tyB,Nat.reduceMul,Nat.reduceSub,Int.reduceEq,Int.reduceLT,Int.reduceLE,Int.reduceNe,Nat.reduceBneDiff,Nat.reduceBEq,decide_false,gt_iff_lt,Bool.or_self,Bool.false_eq_true,Nat.mul_one,Nat.one_mul,Nat.zero_mul,↓reduceIte,Nat.reduceEqDiff,Nat.reduceLT,Nat.reduceAdd,Nat.reduceLeDiff,reduceCtorEq,goInt,pairs,isConst,TI.isAgg,splice,boxS,Edp,dpv,Nat.beq_eq,ZV.val,List.any_cons,List.any_nil,Bool.false_and]
 refine specGetR hl hs fun σ1 k1 => ?_
 cases hg : getP l id with
 | none =>
  rw [hg] at hq
  simp only [getV,propC,prz,Option.getD_none,Option.isSome_none]
  simp (disch := first | assumption | simp) only [↓sbD,sbU,tyB,Nat.reduceMul,Nat.reduceSub,Int.reduceEq,Int.reduceLT,Int.reduceLE,Int.reduceNe,Nat.reduceBneDiff,Nat.reduceBEq,decide_false,gt_iff_lt,Bool.or_self,Bool.false_eq_true,Nat.mul_one,Nat.one_mul,Nat.zero_mul,↓reduceIte,Nat.reduceEqDiff,Nat.reduceLT,Nat.reduceAdd,Nat.reduceLeDiff,reduceCtorEq,goInt,pairs,isConst,TI.isAgg,splice,boxS,Edp,dpv,Nat.beq_eq,ZV.val,List.any_cons,List.any_nil,Bool.false_and,AS_new,zePr]
  intro b hb
  try simp (disch := first | assumption | simp) only [↓sbD,sbU,tyB,Nat.reduceMul,Nat.reduceSub,Int.reduceEq,Int.reduceLT,Int.reduceLE,Int.reduceNe,Nat.reduceBneDiff,Nat.reduceBEq,decide_false,gt_iff_lt,Bool.or_self,Bool.false_eq_true,Nat.mul_one,Nat.one_mul,Nat.zero_mul,↓reduceIte,Nat.reduceEqDiff,Nat.reduceLT,Nat.reduceAdd,Nat.reduceLeDiff,reduceCtorEq,goInt,pairs,isConst,TI.isAgg,splice,boxS,Edp,dpv,Nat.beq_eq,ZV.val,List.any_cons,List.any_nil,Bool.false_and,AHeap.get_set_same,not_bool,Bool.not_false]
  exact downS_here (hq _ ((k1.trans (((Kept.refl _ []).setD hb).setD hb))))
 | some p =>
  rw [hg] at hq
  simp only [getV,propC,Option.getD_some,Option.isSome_some]
  simp (disch := first | assumption | simp) only [↓sbD,sbU,tyB,Nat.reduceMul,Nat.reduceSub,Int.reduceEq,Int.reduceLT,Int.reduceLE,Int.reduceNe,Nat.reduceBneDiff,Nat.reduceBEq,decide_false,gt_iff_lt,Bool.or_self,Bool.false_eq_true,Nat.mul_one,Nat.one_mul,Nat.zero_mul,↓reduceIte,Nat.reduceEqDiff,Nat.reduceLT,Nat.reduceAdd,Nat.reduceLeDiff,reduceCtorEq,goInt,pairs,isConst,TI.isAgg,splice,boxS,Edp,dpv,Nat.beq_eq,ZV.val,List.any_cons,List.any_nil,Bool.false_and,AS_new,zePr]
  intro b hb
  try simp (disch := first | assumption | simp) only [↓sbD,sbU,tyB,Nat.reduceMul,Nat.reduceSub,Int.reduceEq,Int.reduceLT,Int.reduceLE,Int.reduceNe,Nat.reduceBneDiff,Nat.reduceBEq,decide_false,gt_iff_lt,Bool.or_self,Bool.false_eq_true,Nat.mul_one,Nat.one_mul,Nat.zero_mul,↓reduceIte,Nat.reduceEqDiff,Nat.reduceLT,Nat.reduceAdd,Nat.reduceLeDiff,reduceCtorEq,goInt,pairs,isConst,TI.isAgg,splice,boxS,Edp,dpv,Nat.beq_eq,ZV.val,List.any_cons,List.any_nil,Bool.false_and,AHeap.get_set_same,not_bool,Bool.not_true]
  exact downS_here (hq _ ((k1.trans (((Kept.refl _ []).setD hb).setD hb))))
theorem specWithoutR {v : Value} {l : List Pr} {id : Int} (hl : DL propC 4 v l) (hs : l.length ≤ 1000) (hq : ∀ w σ',DL propC 4 w (keepP l id) → Kept σ [] σ' [] → Q w σ') : CallS E B 16 [v,.int .i64 id] σ Q := by
 have hlen := DLp.len hl
 refine call16 (by simp) ?_
 simp only [strip,bodyOf,Tryz.f16,getD_body,keepN,bareOp_mk,lessOp_mk,lapp_cons,lapp_nil,List.map_cons,List.map_nil,array_toList,↓reduceIte,Nat.reduceEqDiff,Bool.false_eq_true]
 simp (disch := first | assumption | simp) only [↓sbD,sbU,tyB,Nat.reduceMul,Nat.reduceSub,Int.reduceEq,Int.reduceLT,Int.reduceLE,Int.reduceNe,Nat.reduceBneDiff,Nat.reduceBEq,decide_false,gt_iff_lt,Bool.or_self,Bool.false_eq_true,Nat.mul_one,Nat.one_mul,Nat.zero_mul,↓reduceIte,Nat.reduceEqDiff,Nat.reduceLT,Nat.reduceAdd,Nat.reduceLeDiff,reduceCtorEq,goInt,pairs,isConst,TI.isAgg,splice,boxS,Edp,dpv,Nat.beq_eq,ZV.val,List.any_cons,List.any_nil,Bool.false_and]
 refine S_loop (fun m f σ' => ∃ (i : Nat) (w : Value) (fp : List Nat),m + i = l.length ∧ f 6 = .int .i64 i ∧ f 5 = w ∧ DG propC 4 σ' w (keepP (l.take i) id) fp ∧ Kept σ [] σ' fp) l.length (Le.refl _) ⟨0,_,[],by omega,by simp (disch := first | assumption | simp) only [↓sbD,sbU,tyB,Nat.reduceMul,Nat.reduceSub,Int.reduceEq,Int.reduceLT,Int.reduceLE,Int.reduceNe,Nat.reduceBneDiff,Nat.reduceBEq,decide_false,gt_iff_lt,Bool.or_self,Bool.false_eq_true,Nat.mul_one,Nat.one_mul,Nat.zero_mul,↓reduceIte,Nat.reduceEqDiff,Nat.reduceLT,Nat.reduceAdd,Nat.reduceLeDiff,reduceCtorEq,goInt,pairs,isConst,TI.isAgg,splice,boxS,Edp,dpv,Nat.beq_eq,ZV.val,List.any_cons,List.any_nil,Bool.false_and]; rfl,rfl,.inl ⟨rfl,rfl,rfl⟩,Kept.refl _ _⟩ ?_
 rintro m f σ1 ⟨i,w,fp,hm,f6,f5,hg,hk⟩ hf
 have f0 := hf 0 (by decide) (notMem_wr (by kernel_rfl))
 have f1 := hf 1 (by decide) (notMem_wr (by kernel_rfl))
 simp (disch := first | assumption | simp) only [↓sbD,sbU,tyB,Nat.reduceMul,Nat.reduceSub,Int.reduceEq,Int.reduceLT,Int.reduceLE,Int.reduceNe,Nat.reduceBneDiff,Nat.reduceBEq,decide_false,gt_iff_lt,Bool.or_self,Bool.false_eq_true,Nat.mul_one,Nat.one_mul,Nat.zero_mul,↓reduceIte,Nat.reduceEqDiff,Nat.reduceLT,Nat.reduceAdd,Nat.reduceLeDiff,reduceCtorEq,goInt,pairs,isConst,TI.isAgg,splice,boxS,Edp,dpv,Nat.beq_eq,ZV.val,List.any_cons,List.any_nil,Bool.false_and] at f0 f1
 clear hf
 by_cases hi : (i : Int) < (l.length : Int)
 ·have hi' : i < l.length := by omega
  have hia := DLp.at hl hi'
  have hw := wrap_suc (n := i) (by omega)
  have htk : keepP (l.take (i + 1)) id = keepP (l.take i) id ++ keepP [l[i]] id := by unfold keepP; rw [List.take_succ_eq_append_getElem hi',List.filter_append]
  have hlt : (keepP (l.take i) id).length ≤ 1000 := by
   have h1 : (keepP (l.take i) id).length ≤ (l.take i).length := List.length_filter_le _ _
   rw [List.length_take] at h1; omega
  generalize l[i] = x at hia htk
  have hac : propC x = [.int .i64 x.id,.int .i64 x.n,.string x.s,.string x.v] := rfl
  by_cases he : x.id = id
  ·have hx : keepP [x] id = [] := by simp [keepP,he]
   rw [hx,List.append_nil] at htk
   simp (disch := first | assumption | simp) only [↓sbD,sbU,tyB,Nat.reduceMul,Nat.reduceSub,Int.reduceEq,Int.reduceLT,Int.reduceLE,Int.reduceNe,Nat.reduceBneDiff,Nat.reduceBEq,decide_false,gt_iff_lt,Bool.or_self,Bool.false_eq_true,Nat.mul_one,Nat.one_mul,Nat.zero_mul,↓reduceIte,Nat.reduceEqDiff,Nat.reduceLT,Nat.reduceAdd,Nat.reduceLeDiff,reduceCtorEq,goInt,pairs,isConst,TI.isAgg,splice,boxS,Edp,dpv,Nat.beq_eq,ZV.val,List.any_cons,List.any_nil,Bool.false_and,f0,f1,f6,hlen,hi,hia,hac,eq_true he,hw]
   exact ⟨_,m - 1,σ1,rfl,by omega,Le.refl _,i + 1,w,fp,by omega,by simp (disch := first | assumption | simp) only [↓sbD,sbU,tyB,Nat.reduceMul,Nat.reduceSub,Int.reduceEq,Int.reduceLT,Int.reduceLE,Int.reduceNe,Nat.reduceBneDiff,Nat.reduceBEq,decide_false,gt_iff_lt,Bool.or_self,Bool.false_eq_true,Nat.mul_one,Nat.one_mul,Nat.zero_mul,↓reduceIte,Nat.reduceEqDiff,Nat.reduceLT,Nat.reduceAdd,Nat.reduceLeDiff,reduceCtorEq,goInt,pairs,isConst,TI.isAgg,splice,boxS,Edp,dpv,Nat.beq_eq,ZV.val,List.any_cons,List.any_nil,Bool.false_and],by simp (disch := first | assumption | simp) only [↓sbD,sbU,tyB,Nat.reduceMul,Nat.reduceSub,Int.reduceEq,Int.reduceLT,Int.reduceLE,Int.reduceNe,Nat.reduceBneDiff,Nat.reduceBEq,decide_false,gt_iff_lt,Bool.or_self,Bool.false_eq_true,Nat.mul_one,Nat.one_mul,Nat.zero_mul,↓reduceIte,Nat.reduceEqDiff,Nat.reduceLT,Nat.reduceAdd,Nat.reduceLeDiff,reduceCtorEq,goInt,pairs,isConst,TI.isAgg,splice,boxS,Edp,dpv,Nat.beq_eq,ZV.val,List.any_cons,List.any_nil,Bool.false_and,f5],by rw [htk]; exact hg,hk⟩
  ·have hx : keepP [x] id = [x] := by simp [keepP,he]
   rw [hx] at htk
   simp (disch := first | assumption | simp) only [↓sbD,sbU,tyB,Nat.reduceMul,Nat.reduceSub,Int.reduceEq,Int.reduceLT,Int.reduceLE,Int.reduceNe,Nat.reduceBneDiff,Nat.reduceBEq,decide_false,gt_iff_lt,Bool.or_self,Bool.false_eq_true,Nat.mul_one,Nat.one_mul,Nat.zero_mul,↓reduceIte,Nat.reduceEqDiff,Nat.reduceLT,Nat.reduceAdd,Nat.reduceLeDiff,reduceCtorEq,goInt,pairs,isConst,TI.isAgg,splice,boxS,Edp,dpv,Nat.beq_eq,ZV.val,List.any_cons,List.any_nil,Bool.false_and,f0,f1,f5,f6,hlen,hi,hia,hac,he]
   refine app_pr (xs := [x]) hg (.inr ⟨1,rfl⟩) (by simp only [List.length_cons,List.length_nil]; omega) fun σ4 v4 fp4 k4 g4 => ?_
   simp (disch := first | assumption | simp) only [↓sbD,sbU,tyB,Nat.reduceMul,Nat.reduceSub,Int.reduceEq,Int.reduceLT,Int.reduceLE,Int.reduceNe,Nat.reduceBneDiff,Nat.reduceBEq,decide_false,gt_iff_lt,Bool.or_self,Bool.false_eq_true,Nat.mul_one,Nat.one_mul,Nat.zero_mul,↓reduceIte,Nat.reduceEqDiff,Nat.reduceLT,Nat.reduceAdd,Nat.reduceLeDiff,reduceCtorEq,goInt,pairs,isConst,TI.isAgg,splice,boxS,Edp,dpv,Nat.beq_eq,ZV.val,List.any_cons,List.any_nil,Bool.false_and,f6,hw]
   exact ⟨_,m - 1,σ4,rfl,by omega,Le.refl _,i + 1,v4,fp4,by omega,by simp (disch := first | assumption | simp) only [↓sbD,sbU,tyB,Nat.reduceMul,Nat.reduceSub,Int.reduceEq,Int.reduceLT,Int.reduceLE,Int.reduceNe,Nat.reduceBneDiff,Nat.reduceBEq,decide_false,gt_iff_lt,Bool.or_self,Bool.false_eq_true,Nat.mul_one,Nat.one_mul,Nat.zero_mul,↓reduceIte,Nat.reduceEqDiff,Nat.reduceLT,Nat.reduceAdd,Nat.reduceLeDiff,reduceCtorEq,goInt,pairs,isConst,TI.isAgg,splice,boxS,Edp,dpv,Nat.beq_eq,ZV.val,List.any_cons,List.any_nil,Bool.false_and],rfl,by rw [htk]; exact g4,hk.trans k4⟩
 ·have hii : i = l.length := by omega
  subst hii
  rw [List.take_length] at hg
  simp (disch := first | assumption | simp) only [↓sbD,sbU,tyB,Nat.reduceMul,Nat.reduceSub,Int.reduceEq,Int.reduceLT,Int.reduceLE,Int.reduceNe,Nat.reduceBneDiff,Nat.reduceBEq,decide_false,gt_iff_lt,Bool.or_self,Bool.false_eq_true,Nat.mul_one,Nat.one_mul,Nat.zero_mul,↓reduceIte,Nat.reduceEqDiff,Nat.reduceLT,Nat.reduceAdd,Nat.reduceLeDiff,reduceCtorEq,goInt,pairs,isConst,TI.isAgg,splice,boxS,Edp,dpv,Nat.beq_eq,ZV.val,List.any_cons,List.any_nil,Bool.false_and,f0,f5,f6,hlen,hi]
  exact downS_here (hq _ _ hg.dl hk.none)
end
section
variable {σ : AHeap} {Q : Value → AHeap → Prop}
theorem ia_slA {d n c i : Nat} {ex : Option Nat} (hi : i < n) : aindexAddr E 22 (.slice (some ⟨d,0,ex⟩) n c) (.int .i64 (i : Int)) = some (.pointer (some ⟨d,i * 4,none⟩)) := by
 simp only [aindexAddr,ty22,ty26]
 rw [if_pos (by omega)]
 simp
theorem prEq {cs : Bool} {p : Pr} : abin E σ .eql 26 cs (.agg ⟨propC p⟩) (.agg ⟨propC p⟩) = some (.bool true) := by
 simp only [propC,abin,nonNum,eqAsk,aeq,aeqs,apart,ty26,ty3,ty9,TI.isAgg,Bool.and_self,if_true,Bool.false_eq_true,if_false,List.getElem?_cons_zero,List.getElem?_cons_succ,↓reduceIte,beq_self_eq_true,bytes_dec,decide_true,Option.map_some]
 try rfl
theorem bEqT {cs : Bool} : abin E σ .eql 4 cs (.bool true) (.bool true) = some (.bool true) := by cases cs <;> rfl
theorem bEqF {cs : Bool} : abin E σ .eql 4 cs (.bool false) (.bool false) = some (.bool true) := by cases cs <;> rfl
theorem specSameW {v u : Value} {l : List Pr} (ha : AbsS.WS σ v l) (hb : DL propC 4 u l) (hl : l.length ≤ 100000) (h : Q (.bool true) σ) : CallS E B 14 [v,u] σ Q := by
 have lb := DLp.len hb
 rcases ha with ⟨rfl,rfl⟩ | ⟨d,ex,c,cs,rfl,gd⟩
 ·have h00 : ((0 : Nat) : Int) = 0 := rfl
  refine call14 (by simp) ?_
  simp only [strip,bodyOf,Tryz.f14,getD_body,keepN,bareOp_mk,lessOp_mk,lapp_cons,lapp_nil,List.map_cons,List.map_nil,array_toList,↓reduceIte,Nat.reduceEqDiff,Bool.false_eq_true]
  simp (disch := first | assumption | simp) only [↓sbD,sbU,tyB,Nat.reduceMul,Nat.reduceSub,Int.reduceEq,Int.reduceLT,Int.reduceLE,Int.reduceNe,Nat.reduceBneDiff,Nat.reduceBEq,decide_false,gt_iff_lt,Bool.or_self,Bool.false_eq_true,Nat.mul_one,Nat.one_mul,Nat.zero_mul,↓reduceIte,Nat.reduceEqDiff,Nat.reduceLT,Nat.reduceAdd,Nat.reduceLeDiff,reduceCtorEq,goInt,pairs,isConst,TI.isAgg,splice,boxS,Edp,dpv,Nat.beq_eq,ZV.val,List.any_cons,List.any_nil,Bool.false_and,lb,List.length_nil,h00]
  refine S_loop (fun m f σ' => σ' = σ ∧ f 5 = .int .i64 0) 0 (Le.refl _) ⟨rfl,by simp (disch := first | assumption | simp) only [↓sbD,sbU,tyB,Nat.reduceMul,Nat.reduceSub,Int.reduceEq,Int.reduceLT,Int.reduceLE,Int.reduceNe,Nat.reduceBneDiff,Nat.reduceBEq,decide_false,gt_iff_lt,Bool.or_self,Bool.false_eq_true,Nat.mul_one,Nat.one_mul,Nat.zero_mul,↓reduceIte,Nat.reduceEqDiff,Nat.reduceLT,Nat.reduceAdd,Nat.reduceLeDiff,reduceCtorEq,goInt,pairs,isConst,TI.isAgg,splice,boxS,Edp,dpv,Nat.beq_eq,ZV.val,List.any_cons,List.any_nil,Bool.false_and]⟩ ?_
  rintro m f σ' ⟨rfl,f5⟩ hf
  have f0 := hf 0 (by decide) (notMem_wr (by kernel_rfl))
  have f1 := hf 1 (by decide) (notMem_wr (by kernel_rfl))
  simp (disch := first | assumption | simp) only [↓sbD,sbU,tyB,Nat.reduceMul,Nat.reduceSub,Int.reduceEq,Int.reduceLT,Int.reduceLE,Int.reduceNe,Nat.reduceBneDiff,Nat.reduceBEq,decide_false,gt_iff_lt,Bool.or_self,Bool.false_eq_true,Nat.mul_one,Nat.one_mul,Nat.zero_mul,↓reduceIte,Nat.reduceEqDiff,Nat.reduceLT,Nat.reduceAdd,Nat.reduceLeDiff,reduceCtorEq,goInt,pairs,isConst,TI.isAgg,splice,boxS,Edp,dpv,Nat.beq_eq,ZV.val,List.any_cons,List.any_nil,Bool.false_and] at f0 f1
  clear hf
  simp (disch := first | assumption | simp) only [↓sbD,sbU,tyB,Nat.reduceMul,Nat.reduceSub,Int.reduceEq,Int.reduceLT,Int.reduceLE,Int.reduceNe,Nat.reduceBneDiff,Nat.reduceBEq,decide_false,gt_iff_lt,Bool.or_self,Bool.false_eq_true,Nat.mul_one,Nat.one_mul,Nat.zero_mul,↓reduceIte,Nat.reduceEqDiff,Nat.reduceLT,Nat.reduceAdd,Nat.reduceLeDiff,reduceCtorEq,goInt,pairs,isConst,TI.isAgg,splice,boxS,Edp,dpv,Nat.beq_eq,ZV.val,List.any_cons,List.any_nil,Bool.false_and,f0,f1,f5,lb,List.length_nil,h00]
  exact downS_here h
 ·refine call14 (by simp) ?_
  simp only [strip,bodyOf,Tryz.f14,getD_body,keepN,bareOp_mk,lessOp_mk,lapp_cons,lapp_nil,List.map_cons,List.map_nil,array_toList,↓reduceIte,Nat.reduceEqDiff,Bool.false_eq_true]
  simp (disch := first | assumption | simp) only [↓sbD,sbU,tyB,Nat.reduceMul,Nat.reduceSub,Int.reduceEq,Int.reduceLT,Int.reduceLE,Int.reduceNe,Nat.reduceBneDiff,Nat.reduceBEq,decide_false,gt_iff_lt,Bool.or_self,Bool.false_eq_true,Nat.mul_one,Nat.one_mul,Nat.zero_mul,↓reduceIte,Nat.reduceEqDiff,Nat.reduceLT,Nat.reduceAdd,Nat.reduceLeDiff,reduceCtorEq,goInt,pairs,isConst,TI.isAgg,splice,boxS,Edp,dpv,Nat.beq_eq,ZV.val,List.any_cons,List.any_nil,Bool.false_and,lb]
  refine S_loop (fun m f σ' => σ' = σ ∧ ∃ i : Nat,m + i = l.length ∧ f 5 = .int .i64 i) l.length (Le.refl _) ⟨rfl,0,rfl,by simp (disch := first | assumption | simp) only [↓sbD,sbU,tyB,Nat.reduceMul,Nat.reduceSub,Int.reduceEq,Int.reduceLT,Int.reduceLE,Int.reduceNe,Nat.reduceBneDiff,Nat.reduceBEq,decide_false,gt_iff_lt,Bool.or_self,Bool.false_eq_true,Nat.mul_one,Nat.one_mul,Nat.zero_mul,↓reduceIte,Nat.reduceEqDiff,Nat.reduceLT,Nat.reduceAdd,Nat.reduceLeDiff,reduceCtorEq,goInt,pairs,isConst,TI.isAgg,splice,boxS,Edp,dpv,Nat.beq_eq,ZV.val,List.any_cons,List.any_nil,Bool.false_and]; rfl⟩ ?_
  rintro m f σ' ⟨rfl,i,hm,f5⟩ hf
  have f0 := hf 0 (by decide) (notMem_wr (by kernel_rfl))
  have f1 := hf 1 (by decide) (notMem_wr (by kernel_rfl))
  simp (disch := first | assumption | simp) only [↓sbD,sbU,tyB,Nat.reduceMul,Nat.reduceSub,Int.reduceEq,Int.reduceLT,Int.reduceLE,Int.reduceNe,Nat.reduceBneDiff,Nat.reduceBEq,decide_false,gt_iff_lt,Bool.or_self,Bool.false_eq_true,Nat.mul_one,Nat.one_mul,Nat.zero_mul,↓reduceIte,Nat.reduceEqDiff,Nat.reduceLT,Nat.reduceAdd,Nat.reduceLeDiff,reduceCtorEq,goInt,pairs,isConst,TI.isAgg,splice,boxS,Edp,dpv,Nat.beq_eq,ZV.val,List.any_cons,List.any_nil,Bool.false_and] at f0 f1
  clear hf
  by_cases hi : (i : Int) < (l.length : Int)
  ·have hi' : i < l.length := by omega
   have a1 := ia_slA (d := d) (c := c) (ex := ex) hi'
   have b1 := DLp.at hb hi'
   have hw := wrap_suc (n := i) (by omega)
   have hle : i * 4 + 4 ≤ (AbsS.flat l ++ cs).length := by rw [List.length_append,AbsS.flat_len]; omega
   have hta := AbsS.flat_at' (cs := cs) hi'
   generalize l[i] = y at b1 hta
   have hac : propC y = [.int .i64 y.id,.int .i64 y.n,.string y.s,.string y.v] := rfl
   have hn : ∀ τ : AHeap,∀ cs,abin E τ .neq 26 cs (.agg ⟨[.int .i64 y.id,.int .i64 y.n,.string y.s,.string y.v]⟩) (.agg ⟨[.int .i64 y.id,.int .i64 y.n,.string y.s,.string y.v]⟩) = some (.bool false) := fun τ cs => prNe (p := y)
   simp (disch := first | assumption | simp) only [↓sbD,sbU,tyB,Nat.reduceMul,Nat.reduceSub,Int.reduceEq,Int.reduceLT,Int.reduceLE,Int.reduceNe,Nat.reduceBneDiff,Nat.reduceBEq,decide_false,gt_iff_lt,Bool.or_self,Bool.false_eq_true,Nat.mul_one,Nat.one_mul,Nat.zero_mul,↓reduceIte,Nat.reduceEqDiff,Nat.reduceLT,Nat.reduceAdd,Nat.reduceLeDiff,reduceCtorEq,goInt,pairs,isConst,TI.isAgg,splice,boxS,Edp,dpv,Nat.beq_eq,ZV.val,List.any_cons,List.any_nil,Bool.false_and,f0,f1,f5,lb,hi,a1,b1,gd,hle,hta,hac,hn,hw]
   exact ⟨_,m - 1,_,rfl,by omega,Le.refl _,rfl,i + 1,by omega,by simp (disch := first | assumption | simp) only [↓sbD,sbU,tyB,Nat.reduceMul,Nat.reduceSub,Int.reduceEq,Int.reduceLT,Int.reduceLE,Int.reduceNe,Nat.reduceBneDiff,Nat.reduceBEq,decide_false,gt_iff_lt,Bool.or_self,Bool.false_eq_true,Nat.mul_one,Nat.one_mul,Nat.zero_mul,↓reduceIte,Nat.reduceEqDiff,Nat.reduceLT,Nat.reduceAdd,Nat.reduceLeDiff,reduceCtorEq,goInt,pairs,isConst,TI.isAgg,splice,boxS,Edp,dpv,Nat.beq_eq,ZV.val,List.any_cons,List.any_nil,Bool.false_and]⟩
  ·simp (disch := first | assumption | simp) only [↓sbD,sbU,tyB,Nat.reduceMul,Nat.reduceSub,Int.reduceEq,Int.reduceLT,Int.reduceLE,Int.reduceNe,Nat.reduceBneDiff,Nat.reduceBEq,decide_false,gt_iff_lt,Bool.or_self,Bool.false_eq_true,Nat.mul_one,Nat.one_mul,Nat.zero_mul,↓reduceIte,Nat.reduceEqDiff,Nat.reduceLT,Nat.reduceAdd,Nat.reduceLeDiff,reduceCtorEq,goInt,pairs,isConst,TI.isAgg,splice,boxS,Edp,dpv,Nat.beq_eq,ZV.val,List.any_cons,List.any_nil,Bool.false_and,f0,f1,f5,lb,hi]
   exact downS_here h
end
theorem law12 {H : AHeap} {vs : List Value} (hB0 : Ext B H) (h : ArgsTyped E H 8 [3,3,22] vs) : CallW E 3 vs H fun r _ => r = .bool true := by
 obtain ⟨u1,vs1,rfl,t1,e1⟩ := h.cons'
 obtain ⟨u2,vs2,rfl,t2,e2⟩ := e1.cons'
 obtain ⟨u3,vs3,rfl,t3,e3⟩ := e2.cons'
 obtain rfl := e3.nil'
 obtain ⟨id,rfl⟩ := typed_i t1
 obtain ⟨pl,rfl⟩ := typed_i t2
 obtain ⟨l,hl⟩ := typed_prs t3
 clear t1 t2 t3 e1 e2 e3 h
 have key : CallS E B 3 [.int .i64 id,.int .i64 pl,u3] .empty fun r _ => r = .bool true := by
  refine call3 (by simp) ?_
  simp only [strip,bodyOf,Tryz.f3,getD_body,keepN,bareOp_mk,lessOp_mk,lapp_cons,lapp_nil,List.map_cons,List.map_nil,array_toList,↓reduceIte,Nat.reduceEqDiff,Bool.false_eq_true]
  simp (disch := first | assumption | simp) only [↓sbD,sbU,tyB,Nat.reduceMul,Nat.reduceSub,Int.reduceEq,Int.reduceLT,Int.reduceLE,Int.reduceNe,Nat.reduceBneDiff,Nat.reduceBEq,decide_false,gt_iff_lt,Bool.or_self,Bool.false_eq_true,Nat.mul_one,Nat.one_mul,Nat.zero_mul,↓reduceIte,Nat.reduceEqDiff,Nat.reduceLT,Nat.reduceAdd,Nat.reduceLeDiff,reduceCtorEq,goInt,pairs,isConst,TI.isAgg,splice,boxS,Edp,dpv,Nat.beq_eq,ZV.val,List.any_cons,List.any_nil,Bool.false_and]
  refine specFewP hl fun few hfew => ?_
  cases few with
  | false =>
   simp (disch := first | assumption | simp) only [↓sbD,sbU,tyB,Nat.reduceMul,Nat.reduceSub,Int.reduceEq,Int.reduceLT,Int.reduceLE,Int.reduceNe,Nat.reduceBneDiff,Nat.reduceBEq,decide_false,gt_iff_lt,Bool.or_self,Bool.false_eq_true,Nat.mul_one,Nat.one_mul,Nat.zero_mul,↓reduceIte,Nat.reduceEqDiff,Nat.reduceLT,Nat.reduceAdd,Nat.reduceLeDiff,reduceCtorEq,goInt,pairs,isConst,TI.isAgg,splice,boxS,Edp,dpv,Nat.beq_eq,ZV.val,List.any_cons,List.any_nil,Bool.false_and,not_bool,Bool.not_false]
   refine specS5 ?_
   simp (disch := first | assumption | simp) only [↓sbD,sbU,tyB,Nat.reduceMul,Nat.reduceSub,Int.reduceEq,Int.reduceLT,Int.reduceLE,Int.reduceNe,Nat.reduceBneDiff,Nat.reduceBEq,decide_false,gt_iff_lt,Bool.or_self,Bool.false_eq_true,Nat.mul_one,Nat.one_mul,Nat.zero_mul,↓reduceIte,Nat.reduceEqDiff,Nat.reduceLT,Nat.reduceAdd,Nat.reduceLeDiff,reduceCtorEq,goInt,pairs,isConst,TI.isAgg,splice,boxS,Edp,dpv,Nat.beq_eq,ZV.val,List.any_cons,List.any_nil,Bool.false_and]
   exact downS_here rfl
  | true =>
   have hs : l.length ≤ 1000 := by have := (hfew rfl).1; omega
   have hs' : l.length ≤ 100000 := by omega
   have hks : (keepP l id).length ≤ 100000 := Nat.le_trans (List.length_filter_le _ _) hs'
   simp (disch := first | assumption | simp) only [↓sbD,sbU,tyB,Nat.reduceMul,Nat.reduceSub,Int.reduceEq,Int.reduceLT,Int.reduceLE,Int.reduceNe,Nat.reduceBneDiff,Nat.reduceBEq,decide_false,gt_iff_lt,Bool.or_self,Bool.false_eq_true,Nat.mul_one,Nat.one_mul,Nat.zero_mul,↓reduceIte,Nat.reduceEqDiff,Nat.reduceLT,Nat.reduceAdd,Nat.reduceLeDiff,reduceCtorEq,goInt,pairs,isConst,TI.isAgg,splice,boxS,Edp,dpv,Nat.beq_eq,ZV.val,List.any_cons,List.any_nil,Bool.false_and,not_bool,Bool.not_true]
   refine specGetP hl hs' fun σ1 k1 => ?_
   obtain ⟨p,b,hob⟩ : ∃ p b,getV (getP l id) = .tuple #[.agg ⟨propC p⟩,.bool b] := ⟨_,_,rfl⟩
   rw [hob]
   simp only [propC]
   simp (disch := first | assumption | simp) only [↓sbD,sbU,tyB,Nat.reduceMul,Nat.reduceSub,Int.reduceEq,Int.reduceLT,Int.reduceLE,Int.reduceNe,Nat.reduceBneDiff,Nat.reduceBEq,decide_false,gt_iff_lt,Bool.or_self,Bool.false_eq_true,Nat.mul_one,Nat.one_mul,Nat.zero_mul,↓reduceIte,Nat.reduceEqDiff,Nat.reduceLT,Nat.reduceAdd,Nat.reduceLeDiff,reduceCtorEq,goInt,pairs,isConst,TI.isAgg,splice,boxS,Edp,dpv,Nat.beq_eq,ZV.val,List.any_cons,List.any_nil,Bool.false_and,AS_new,zePr]
   intro c hc
   try simp (disch := first | assumption | simp) only [↓sbD,sbU,tyB,Nat.reduceMul,Nat.reduceSub,Int.reduceEq,Int.reduceLT,Int.reduceLE,Int.reduceNe,Nat.reduceBneDiff,Nat.reduceBEq,decide_false,gt_iff_lt,Bool.or_self,Bool.false_eq_true,Nat.mul_one,Nat.one_mul,Nat.zero_mul,↓reduceIte,Nat.reduceEqDiff,Nat.reduceLT,Nat.reduceAdd,Nat.reduceLeDiff,reduceCtorEq,goInt,pairs,isConst,TI.isAgg,splice,boxS,Edp,dpv,Nat.beq_eq,ZV.val,List.any_cons,List.any_nil,Bool.false_and,AHeap.get_set_same]
   generalize hσ2 : AHeap.set (AHeap.set σ1 c _) c _ = σ2
   have gc2 : σ2.get c = .cells [.int .i64 p.id,.int .i64 p.n,.string p.s,.string p.v] true 0 := by rw [← hσ2]; exact AHeap.get_set_same _ _ _
   clear hσ2
   try simp (disch := first | assumption | simp) only [↓sbD,sbU,tyB,Nat.reduceMul,Nat.reduceSub,Int.reduceEq,Int.reduceLT,Int.reduceLE,Int.reduceNe,Nat.reduceBneDiff,Nat.reduceBEq,decide_false,gt_iff_lt,Bool.or_self,Bool.false_eq_true,Nat.mul_one,Nat.one_mul,Nat.zero_mul,↓reduceIte,Nat.reduceEqDiff,Nat.reduceLT,Nat.reduceAdd,Nat.reduceLeDiff,reduceCtorEq,goInt,pairs,isConst,TI.isAgg,splice,boxS,Edp,dpv,Nat.beq_eq,ZV.val,List.any_cons,List.any_nil,Bool.false_and]
   refine specGetR hl hs' fun σ3 k3 => ?_
   have gc3 := (k3.at gc2 (by simp) (by simp)).1
   rw [hob]
   simp only [propC]
   simp (disch := first | assumption | simp) only [↓sbD,sbU,tyB,Nat.reduceMul,Nat.reduceSub,Int.reduceEq,Int.reduceLT,Int.reduceLE,Int.reduceNe,Nat.reduceBneDiff,Nat.reduceBEq,decide_false,gt_iff_lt,Bool.or_self,Bool.false_eq_true,Nat.mul_one,Nat.one_mul,Nat.zero_mul,↓reduceIte,Nat.reduceEqDiff,Nat.reduceLT,Nat.reduceAdd,Nat.reduceLeDiff,reduceCtorEq,goInt,pairs,isConst,TI.isAgg,splice,boxS,Edp,dpv,Nat.beq_eq,ZV.val,List.any_cons,List.any_nil,Bool.false_and,AS_new,zePr]
   intro e he
   try simp (disch := first | assumption | simp) only [↓sbD,sbU,tyB,Nat.reduceMul,Nat.reduceSub,Int.reduceEq,Int.reduceLT,Int.reduceLE,Int.reduceNe,Nat.reduceBneDiff,Nat.reduceBEq,decide_false,gt_iff_lt,Bool.or_self,Bool.false_eq_true,Nat.mul_one,Nat.one_mul,Nat.zero_mul,↓reduceIte,Nat.reduceEqDiff,Nat.reduceLT,Nat.reduceAdd,Nat.reduceLeDiff,reduceCtorEq,goInt,pairs,isConst,TI.isAgg,splice,boxS,Edp,dpv,Nat.beq_eq,ZV.val,List.any_cons,List.any_nil,Bool.false_and,AHeap.get_set_same]
   generalize hσ4 : AHeap.set (AHeap.set σ3 e _) e _ = σ4
   have k4 : Kept σ3 [] σ4 [] := by rw [← hσ4]; exact ((Kept.refl _ []).setD he).setD he
   have ge4 : σ4.get e = .cells [.int .i64 p.id,.int .i64 p.n,.string p.s,.string p.v] true 0 := by rw [← hσ4]; exact AHeap.get_set_same _ _ _
   have gc4 := (k4.at gc3 (by simp) (by simp)).1
   clear hσ4 hob
   have hpe : ∀ τ : AHeap,∀ cs,abin E τ .eql 26 cs (.agg ⟨[.int .i64 p.id,.int .i64 p.n,.string p.s,.string p.v]⟩) (.agg ⟨[.int .i64 p.id,.int .i64 p.n,.string p.s,.string p.v]⟩) = some (.bool true) := fun τ cs => prEq (p := p)
   try simp (disch := first | assumption | simp) only [↓sbD,sbU,tyB,Nat.reduceMul,Nat.reduceSub,Int.reduceEq,Int.reduceLT,Int.reduceLE,Int.reduceNe,Nat.reduceBneDiff,Nat.reduceBEq,decide_false,gt_iff_lt,Bool.or_self,Bool.false_eq_true,Nat.mul_one,Nat.one_mul,Nat.zero_mul,↓reduceIte,Nat.reduceEqDiff,Nat.reduceLT,Nat.reduceAdd,Nat.reduceLeDiff,reduceCtorEq,goInt,pairs,isConst,TI.isAgg,splice,boxS,Edp,dpv,Nat.beq_eq,ZV.val,List.any_cons,List.any_nil,Bool.false_and]
   refine specType ?_
   simp (disch := first | assumption | simp) only [↓sbD,sbU,tyB,Nat.reduceMul,Nat.reduceSub,Int.reduceEq,Int.reduceLT,Int.reduceLE,Int.reduceNe,Nat.reduceBneDiff,Nat.reduceBEq,decide_false,gt_iff_lt,Bool.or_self,Bool.false_eq_true,Nat.mul_one,Nat.one_mul,Nat.zero_mul,↓reduceIte,Nat.reduceEqDiff,Nat.reduceLT,Nat.reduceAdd,Nat.reduceLeDiff,reduceCtorEq,goInt,pairs,isConst,TI.isAgg,splice,boxS,Edp,dpv,Nat.beq_eq,ZV.val,List.any_cons,List.any_nil,Bool.false_and]
   refine specRType ?_
   simp (disch := first | assumption | simp) only [↓sbD,sbU,tyB,Nat.reduceMul,Nat.reduceSub,Int.reduceEq,Int.reduceLT,Int.reduceLE,Int.reduceNe,Nat.reduceBneDiff,Nat.reduceBEq,decide_false,gt_iff_lt,Bool.or_self,Bool.false_eq_true,Nat.mul_one,Nat.one_mul,Nat.zero_mul,↓reduceIte,Nat.reduceEqDiff,Nat.reduceLT,Nat.reduceAdd,Nat.reduceLeDiff,reduceCtorEq,goInt,pairs,isConst,TI.isAgg,splice,boxS,Edp,dpv,Nat.beq_eq,ZV.val,List.any_cons,List.any_nil,Bool.false_and,eq_self]
   refine specAllowed ?_
   simp (disch := first | assumption | simp) only [↓sbD,sbU,tyB,Nat.reduceMul,Nat.reduceSub,Int.reduceEq,Int.reduceLT,Int.reduceLE,Int.reduceNe,Nat.reduceBneDiff,Nat.reduceBEq,decide_false,gt_iff_lt,Bool.or_self,Bool.false_eq_true,Nat.mul_one,Nat.one_mul,Nat.zero_mul,↓reduceIte,Nat.reduceEqDiff,Nat.reduceLT,Nat.reduceAdd,Nat.reduceLeDiff,reduceCtorEq,goInt,pairs,isConst,TI.isAgg,splice,boxS,Edp,dpv,Nat.beq_eq,ZV.val,List.any_cons,List.any_nil,Bool.false_and]
   refine specRAllowed ?_
   cases allow id pl
   all_goals
    cases b
    all_goals
     simp (disch := first | assumption | simp) only [↓sbD,sbU,tyB,Nat.reduceMul,Nat.reduceSub,Int.reduceEq,Int.reduceLT,Int.reduceLE,Int.reduceNe,Nat.reduceBneDiff,Nat.reduceBEq,decide_false,gt_iff_lt,Bool.or_self,Bool.false_eq_true,Nat.mul_one,Nat.one_mul,Nat.zero_mul,↓reduceIte,Nat.reduceEqDiff,Nat.reduceLT,Nat.reduceAdd,Nat.reduceLeDiff,reduceCtorEq,goInt,pairs,isConst,TI.isAgg,splice,boxS,Edp,dpv,Nat.beq_eq,ZV.val,List.any_cons,List.any_nil,Bool.false_and,eq_self,gc4,ge4,hpe,bEqT,bEqF]
     refine specNumP hl hs' fun σ5 k5 => ?_
     simp (disch := first | assumption | simp) only [↓sbD,sbU,tyB,Nat.reduceMul,Nat.reduceSub,Int.reduceEq,Int.reduceLT,Int.reduceLE,Int.reduceNe,Nat.reduceBneDiff,Nat.reduceBEq,decide_false,gt_iff_lt,Bool.or_self,Bool.false_eq_true,Nat.mul_one,Nat.one_mul,Nat.zero_mul,↓reduceIte,Nat.reduceEqDiff,Nat.reduceLT,Nat.reduceAdd,Nat.reduceLeDiff,reduceCtorEq,goInt,pairs,isConst,TI.isAgg,splice,boxS,Edp,dpv,Nat.beq_eq,ZV.val,List.any_cons,List.any_nil,Bool.false_and]
     refine specNumR hl hs' fun σ6 k6 => ?_
     simp (disch := first | assumption | simp) only [↓sbD,sbU,tyB,Nat.reduceMul,Nat.reduceSub,Int.reduceEq,Int.reduceLT,Int.reduceLE,Int.reduceNe,Nat.reduceBneDiff,Nat.reduceBEq,decide_false,gt_iff_lt,Bool.or_self,Bool.false_eq_true,Nat.mul_one,Nat.one_mul,Nat.zero_mul,↓reduceIte,Nat.reduceEqDiff,Nat.reduceLT,Nat.reduceAdd,Nat.reduceLeDiff,reduceCtorEq,goInt,pairs,isConst,TI.isAgg,splice,boxS,Edp,dpv,Nat.beq_eq,ZV.val,List.any_cons,List.any_nil,Bool.false_and,eq_self]
     refine specWithoutP hl hs' fun σ7 w hw k7 => ?_
     simp (disch := first | assumption | simp) only [↓sbD,sbU,tyB,Nat.reduceMul,Nat.reduceSub,Int.reduceEq,Int.reduceLT,Int.reduceLE,Int.reduceNe,Nat.reduceBneDiff,Nat.reduceBEq,decide_false,gt_iff_lt,Bool.or_self,Bool.false_eq_true,Nat.mul_one,Nat.one_mul,Nat.zero_mul,↓reduceIte,Nat.reduceEqDiff,Nat.reduceLT,Nat.reduceAdd,Nat.reduceLeDiff,reduceCtorEq,goInt,pairs,isConst,TI.isAgg,splice,boxS,Edp,dpv,Nat.beq_eq,ZV.val,List.any_cons,List.any_nil,Bool.false_and]
     refine specWithoutR hl hs fun u σ8 hu k8 => ?_
     simp (disch := first | assumption | simp) only [↓sbD,sbU,tyB,Nat.reduceMul,Nat.reduceSub,Int.reduceEq,Int.reduceLT,Int.reduceLE,Int.reduceNe,Nat.reduceBneDiff,Nat.reduceBEq,decide_false,gt_iff_lt,Bool.or_self,Bool.false_eq_true,Nat.mul_one,Nat.one_mul,Nat.zero_mul,↓reduceIte,Nat.reduceEqDiff,Nat.reduceLT,Nat.reduceAdd,Nat.reduceLeDiff,reduceCtorEq,goInt,pairs,isConst,TI.isAgg,splice,boxS,Edp,dpv,Nat.beq_eq,ZV.val,List.any_cons,List.any_nil,Bool.false_and]
     refine specSameW (l := keepP l id) ?_ hu hks ?_
     ·rcases hw with hw | ⟨d,ex,c',cs,hv,hd⟩
      ·exact .inl hw
      ·exact .inr ⟨d,ex,c',cs,hv,by rw [k8.get d (by rw [hd]; simp) (by simp)]; exact hd⟩
     simp (disch := first | assumption | simp) only [↓sbD,sbU,tyB,Nat.reduceMul,Nat.reduceSub,Int.reduceEq,Int.reduceLT,Int.reduceLE,Int.reduceNe,Nat.reduceBneDiff,Nat.reduceBEq,decide_false,gt_iff_lt,Bool.or_self,Bool.false_eq_true,Nat.mul_one,Nat.one_mul,Nat.zero_mul,↓reduceIte,Nat.reduceEqDiff,Nat.reduceLT,Nat.reduceAdd,Nat.reduceLeDiff,reduceCtorEq,goInt,pairs,isConst,TI.isAgg,splice,boxS,Edp,dpv,Nat.beq_eq,ZV.val,List.any_cons,List.any_nil,Bool.false_and]
     refine specS5 ?_
     simp (disch := first | assumption | simp) only [↓sbD,sbU,tyB,Nat.reduceMul,Nat.reduceSub,Int.reduceEq,Int.reduceLT,Int.reduceLE,Int.reduceNe,Nat.reduceBneDiff,Nat.reduceBEq,decide_false,gt_iff_lt,Bool.or_self,Bool.false_eq_true,Nat.mul_one,Nat.one_mul,Nat.zero_mul,↓reduceIte,Nat.reduceEqDiff,Nat.reduceLT,Nat.reduceAdd,Nat.reduceLeDiff,reduceCtorEq,goInt,pairs,isConst,TI.isAgg,splice,boxS,Edp,dpv,Nat.beq_eq,ZV.val,List.any_cons,List.any_nil,Bool.false_and]
     exact downS_here rfl
 exact (key H (ext_holds hB0)).mono fun r H' ⟨σ',_,h⟩ => h
end Go.Proofs.YtdiekikcnfjlnaaGreatDoor.AbsA
