/-
  Parts of a law's proof.
-/
import Derived.Test.YtjkhhdknplelcaaGreatDoorAPbqbJ
import Derived.Test.YtjkhhdknplelcaaGreatDoorAApqbJ
namespace Go.Proofs.YtjkhhdknplelcaaGreatDoor.AbsA
open Go AbsYtjkhhdknplelcaaGreatDoor Abs
set_option maxRecDepth 100000
set_option maxHeartbeats 8000000
set_option linter.unusedSimpArgs false
set_option linter.unusedVariables false
attribute [local irreducible] afterS afterOpS opSK OpsS TrS CodeS condS condW thenS thenQ guardS guardTS outS drawS trSK consS
section
variable {σ : AHeap} {Q : Value → AHeap → Prop} {s : ByteArray}
def BodyK (n : Nat) (s : ByteArray) (st : RSt) (r : Except E3 Pk) : Prop := ∃ x,ReadPS 1 s (u16S s st).2 x ∧ match x with
  | .error e => r = .error e
  | .ok (l,q) => willK n s (textS s (.ok q)).2 (coP n (u16S s st).1 l (textS s (.ok q)).1) r
theorem decI {a b : Prop} [Decidable a] [Decidable b] (h : a ↔ b) : decide a = decide b := decide_eq_decide.2 h
theorem specKoBody {x n : Nat} {st : RSt} (hr : IsRS σ x s st) (hn : n < 256) (hs : s.size ≤ 100000000)
  (hok : ∀ p,BodyK n s st (.ok p) → ∀ v σ',PkV p v → Kept σ [x] σ' [x] → Q (.tuple #[v,.nilIface]) σ')
  (hbad : ∀ k rr a : Nat,BodyK n s st (.error (k,rr,a)) → ∀ σ' d z p v,PkV p v → Kept σ [x] σ' [x] → d ≤ 3 → ErN d (fv rr a z) k → Q (.tuple #[v,fv rr a z]) σ') :
  CallS E B 71 [.pointer (some ⟨x,0,none⟩),.int .i64 (n : Int)] σ Q := by
 unfold BodyK at hok hbad
 have andB : ∀ m : Nat,m < 256 → aint .and .i64 (n : Int) ((m : Nat) : Int) = some (.int .i64 ((n &&& m : Nat) : Int)) := fun m hm => and_nat (by omega) (by omega)
 obtain ⟨b1,b24,b4,b56,b2,b128,b64,b32⟩ := bitsK n hn
 have a2 : aint .and .i64 (n : Int) 2 = some (.int .i64 ((n &&& 2 : Nat) : Int)) := andB 2 (by omega)
 rw [b2] at a2
 have a128 : aint .and .i64 (n : Int) 128 = some (.int .i64 ((n &&& 128 : Nat) : Int)) := andB 128 (by omega)
 rw [b128] at a128
 have a64 : aint .and .i64 (n : Int) 64 = some (.int .i64 ((n &&& 64 : Nat) : Int)) := andB 64 (by omega)
 rw [b64] at a64
 have a4 : aint .and .i64 (n : Int) 4 = some (.int .i64 ((n &&& 4 : Nat) : Int)) := andB 4 (by omega)
 rw [b4] at a4
 have a24 : aint .and .i64 (n : Int) 24 = some (.int .i64 ((n &&& 24 : Nat) : Int)) := andB 24 (by omega)
 rw [b24] at a24
 have a32 : aint .and .i64 (n : Int) 32 = some (.int .i64 ((n &&& 32 : Nat) : Int)) := andB 32 (by omega)
 rw [b32] at a32
 obtain ⟨kp,st2,hU⟩ : ∃ kp st2,u16S s st = (kp,st2) := ⟨_,_,rfl⟩
 simp only [hU] at hok hbad
 have hq8 : ∀ (τ : AHeap) (t : Nat) (cs : Bool),abin E τ .quo t cs (.int .i64 ((8 * (n / 8 % 4) : Nat) : Int)) (.int .i64 8) = some (.int .i64 ((n / 8 % 4 : Nat) : Int)) := fun τ t cs => by
  rw [divP (by omega) (by omega) (.inr rfl)]
  congr 2
  omega
 have e2 : decide (¬ ((2 * (n / 2 % 2) : Nat) : Int) = 0) = decide (n / 2 % 2 = 1) := decI (by omega)
 have e128 : decide (¬ ((128 * (n / 128) : Nat) : Int) = 0) = decide (n / 128 = 1) := decI (by omega)
 have e64 : decide (¬ ((64 * (n / 64 % 2) : Nat) : Int) = 0) = decide (n / 64 % 2 = 1) := decI (by omega)
 have e32 : decide (¬ ((32 * (n / 32 % 2) : Nat) : Int) = 0) = decide (n / 32 % 2 = 1) := decI (by omega)
 refine call71 (by simp) ?_
 simp only [strip,bodyOf,Tryz.f71,getD_body,keepN,bareOp_mk,lessOp_mk,lapp_cons,lapp_nil,List.map_cons,List.map_nil,↓reduceIte,Nat.reduceEqDiff,Bool.false_eq_true]
 simp only [↓sbD,sbU,↓reduceIte,Nat.reduceEqDiff,Nat.reduceLT,reduceCtorEq,isConst,AS_new,zePk,a2,a128,a64]
 intro b hb
 have hbx : b ≠ x := by rintro rfl; exact hr.alive hb
 generalize hσ1 : AHeap.set σ b _ = σ1
 have k1 : Kept σ [] σ1 [] := by rw [← hσ1]; exact (Kept.refl σ []).setD hb
 have r1 := hr.kept k1 (by simp)
 have gb1 : σ1.get b = .cells [.int .i64 0,.int .i64 0,.int .i64 0,.slice none 0 0,.bool false,.int .i64 0,.string emp,.bool false,.string emp,.string emp,.int .i64 0,.bool false,.slice none 0 0,.bool false,.string emp,.bool false,.string emp,.bool false,.string emp,.string emp,.int .i64 0,.bool false,.bool false,.slice none 0 0,.slice none 0 0,.slice none 0 0] true 0 := by rw [← hσ1]; exact AHeap.get_set_same _ _ _
 clear hσ1
 refine specSU16 r1 hs fun σ2 k2 r2 => ?_
 simp only [hU] at r2 ⊢
 have gb2 := (k2.at gb1 (by simp) (by simp [hbx])).1
 have K2 : Kept σ [x] σ2 [x] := (k1.wid (gp := [x]) (gp' := [x]) (fun _ h => by cases h) (fun _ h => .inr h)).trans k2
 simp only [↓sbD,sbU,tyB,↓reduceIte,Nat.reduceEqDiff,Nat.reduceLT,Nat.reduceAdd,Nat.reduceLeDiff,reduceCtorEq,pairs,splice,ZV.val,AS_new,zePk]
 intro y hy
 have hyx : y ≠ x := by rintro rfl; exact r2.alive hy
 have hyb : b ≠ y := by rintro rfl; rw [gb2] at hy; cases hy
 generalize hσ3 : AHeap.set (AHeap.set σ2 y _) y _ = σ3
 have M3 : Kept σ2 [x] σ3 [x] := by rw [← hσ3]; exact ((Kept.refl _ _).setD hy).setD hy
 have r3 := r2.kept (show Kept σ2 [] σ3 [] by rw [← hσ3]; exact ((Kept.refl _ []).setD hy).setD hy) (by simp)
 have gy3 : σ3.get y = .cells [.int .i64 1,.int .i64 0,.int .i64 0,.slice none 0 0,.bool (decide (n / 2 % 2 = 1)),.int .i64 (kp : Int),.string emp,.bool false,.string emp,.string emp,.int .i64 0,.bool false,.slice none 0 0,.bool (decide (n / 128 = 1)),.string emp,.bool (decide (n / 64 % 2 = 1)),.string emp,.bool false,.string emp,.string emp,.int .i64 0,.bool false,.bool false,.slice none 0 0,.slice none 0 0,.slice none 0 0] true 0 := by rw [← hσ3,← e2,← e128,← e64]; exact AHeap.get_set_same _ _ _
 clear hσ3
 try simp only [↓sbD,sbU,tyB,Nat.reduceMul,Nat.reduceSub,Int.reduceEq,Int.reduceLT,Int.reduceLE,Int.reduceNe,Nat.reduceBneDiff,Nat.reduceBEq,decide_false,gt_iff_lt,Bool.or_self,Bool.false_eq_true,Nat.mul_one,Nat.one_mul,Nat.zero_mul,↓reduceIte,Nat.reduceEqDiff,Nat.reduceLT,Nat.reduceAdd,Nat.reduceLeDiff,reduceCtorEq,goInt,pairs,isConst,TI.isAgg,splice,boxS,Edp,dpv,Nat.beq_eq,ZV.val,List.any_cons,List.any_nil,Bool.false_and]
 refine specSRead r3 hs (fun l q hrd v σ4 hv k4 r4 => ?_) fun k rr a hrd σ4 d' z k4 hd' he => ?_
 rotate_left
 ·have M4 := M3.trans k4
  have gy4 := (k4.at gy3 (by simp) (by simp [hyx])).1
  simp only [↓sbD,sbU,tyB,↓reduceIte,Nat.reduceEqDiff,Nat.reduceLT,Nat.reduceAdd,Nat.reduceLeDiff,reduceCtorEq,isConst,splice,gy4]
  generalize hσ5 : AHeap.set σ4 y _ = σ5
  have M5 : Kept σ2 [x] σ5 [x] := by rw [← hσ5]; exact M4.setD hy
  have gy5 : σ5.get y = .cells [.int .i64 1,.int .i64 0,.int .i64 0,.slice none 0 0,.bool (decide (n / 2 % 2 = 1)),.int .i64 (kp : Int),.string emp,.bool false,.string emp,.string emp,.int .i64 0,.bool false,.slice none 0 0,.bool (decide (n / 128 = 1)),.string emp,.bool (decide (n / 64 % 2 = 1)),.string emp,.bool false,.string emp,.string emp,.int .i64 0,.bool false,.bool false,.slice none 0 0,.slice none 0 0,.slice none 0 0] true 0 := by
   rw [← hσ5]
   first
    | exact AHeap.get_set_same _ _ _
    | (rw [du]; exact AHeap.get_set_same _ _ _)
    | (rw [dp]; exact AHeap.get_set_same _ _ _)
    | (rw [du,dp]; exact AHeap.get_set_same _ _ _)
  clear hσ5
  have gb5 := (M5.at gb2 (by simp) (by simp [hbx])).1
  simp only [↓sbD,sbU,tyB,↓reduceIte,Nat.reduceEqDiff,Nat.reduceLT,Nat.reduceAdd,Nat.reduceLeDiff,splice,gb5,res_cellc,resC_some]
  exact downS_here (hbad k rr a ⟨_,hrd,rfl⟩ _ d' z (coP n kp [] emp wlz emp emp) _ ⟨_,_,_,_,_,.inl ⟨rfl,rfl⟩,.inl ⟨rfl,rfl⟩,.inl ⟨rfl,rfl⟩,.inl ⟨rfl,rfl⟩,.inl ⟨rfl,rfl⟩,rfl⟩ ((K2.trans M5).setD hb) hd' he)
 have M4 := M3.trans k4
 have gy4 := (k4.at gy3 (by simp) (by simp [hyx])).1
 have hvc := dl_vc hv
 simp only [↓sbD,sbU,tyB,↓reduceIte,Nat.reduceEqDiff,Nat.reduceLT,Nat.reduceAdd,Nat.reduceLeDiff,reduceCtorEq,isConst,splice,gy4,hvc.1,hvc.2]
 generalize hσ5 : AHeap.set σ4 y _ = σ5
 have M5 : Kept σ2 [x] σ5 [x] := by rw [← hσ5]; exact M4.setD hy
 have r5 := r4.kept (show Kept σ4 [y] σ5 [y] by rw [← hσ5]; exact Kept.set (by simp)) (by simp [Ne.symm hyx])
 have gy5 : σ5.get y = .cells [.int .i64 1,.int .i64 0,.int .i64 0,v,.bool (decide (n / 2 % 2 = 1)),.int .i64 (kp : Int),.string emp,.bool false,.string emp,.string emp,.int .i64 0,.bool false,.slice none 0 0,.bool (decide (n / 128 = 1)),.string emp,.bool (decide (n / 64 % 2 = 1)),.string emp,.bool false,.string emp,.string emp,.int .i64 0,.bool false,.bool false,.slice none 0 0,.slice none 0 0,.slice none 0 0] true 0 := by
  rw [← hσ5]
  first
   | exact AHeap.get_set_same _ _ _
   | (rw [du]; exact AHeap.get_set_same _ _ _)
   | (rw [dp]; exact AHeap.get_set_same _ _ _)
   | (rw [du,dp]; exact AHeap.get_set_same _ _ _)
 clear hσ5
 try simp only [↓sbD,sbU,tyB,Nat.reduceMul,Nat.reduceSub,Int.reduceEq,Int.reduceLT,Int.reduceLE,Int.reduceNe,Nat.reduceBneDiff,Nat.reduceBEq,decide_false,gt_iff_lt,Bool.or_self,Bool.false_eq_true,Nat.mul_one,Nat.one_mul,Nat.zero_mul,↓reduceIte,Nat.reduceEqDiff,Nat.reduceLT,Nat.reduceAdd,Nat.reduceLeDiff,reduceCtorEq,goInt,pairs,isConst,TI.isAgg,splice,boxS,Edp,dpv,Nat.beq_eq,ZV.val,List.any_cons,List.any_nil,Bool.false_and]
 refine specSText r5 hs fun σ6 k6 r6 => ?_
 obtain ⟨cl,st3,hC⟩ : ∃ cl st3,textS s (.ok q) = (cl,st3) := ⟨_,_,rfl⟩
 simp only [hC] at r6 ⊢
 have M6 := M5.trans k6
 have gy6 := (k6.at gy5 (by simp) (by simp [hyx])).1
 simp only [↓sbD,sbU,tyB,↓reduceIte,Nat.reduceEqDiff,Nat.reduceLT,Nat.reduceAdd,Nat.reduceLeDiff,reduceCtorEq,isConst,splice,gy6]
 generalize hσ7 : AHeap.set σ6 y _ = σ7
 have M7 : Kept σ2 [x] σ7 [x] := by rw [← hσ7]; exact M6.setD hy
 have r7 := r6.kept (show Kept σ6 [y] σ7 [y] by rw [← hσ7]; exact Kept.set (by simp)) (by simp [Ne.symm hyx])
 have gy7 : σ7.get y = .cells [.int .i64 1,.int .i64 0,.int .i64 0,v,.bool (decide (n / 2 % 2 = 1)),.int .i64 (kp : Int),.string cl,.bool false,.string emp,.string emp,.int .i64 0,.bool false,.slice none 0 0,.bool (decide (n / 128 = 1)),.string emp,.bool (decide (n / 64 % 2 = 1)),.string emp,.bool false,.string emp,.string emp,.int .i64 0,.bool false,.bool false,.slice none 0 0,.slice none 0 0,.slice none 0 0] true 0 := by
  rw [← hσ7]
  first
   | exact AHeap.get_set_same _ _ _
   | (rw [du]; exact AHeap.get_set_same _ _ _)
   | (rw [dp]; exact AHeap.get_set_same _ _ _)
   | (rw [du,dp]; exact AHeap.get_set_same _ _ _)
 clear hσ7
 have hok' : ∀ p,willK n s st3 (coP n kp l cl) (.ok p) → ∀ v σ',PkV p v → Kept σ [x] σ' [x] → Q (.tuple #[v,.nilIface]) σ' := fun p h => hok p ⟨_,hrd,by simp only [hC]; exact h⟩
 have hbad' : ∀ k rr a : Nat,willK n s st3 (coP n kp l cl) (.error (k,rr,a)) → ∀ σ' d z p v,PkV p v → Kept σ [x] σ' [x] → d ≤ 3 → ErN d (fv rr a z) k → Q (.tuple #[v,fv rr a z]) σ' := fun k rr a h => hbad k rr a ⟨_,hrd,by simp only [hC]; exact h⟩
 clear hok hbad hC hrd
 unfold willK at hok' hbad'
 by_cases h4 : n / 4 % 2 = 1
 focus
  simp only [if_pos h4] at hok' hbad'
  have g4 : ¬ ((4 * (n / 4 % 2) : Nat) : Int) = 0 := by omega
  simp only [↓sbD,sbU,tyB,↓reduceIte,Nat.reduceEqDiff,Nat.reduceLT,Nat.reduceAdd,Nat.reduceLeDiff,reduceCtorEq,pairs,isConst,splice,ZV.val,a4,g4,a24,hq8,a32,gy7]
  generalize hσ8 : AHeap.set σ7 y _ = σ8
  have M8 : Kept σ2 [x] σ8 [x] := by rw [← hσ8]; exact M7.setD hy
  have r8 := r7.kept (show Kept σ7 [y] σ8 [y] by rw [← hσ8]; exact Kept.set (by simp)) (by simp [Ne.symm hyx])
  have gy8 : σ8.get y = .cells [.int .i64 1,.int .i64 0,.int .i64 0,v,.bool (decide (n / 2 % 2 = 1)),.int .i64 (kp : Int),.string cl,.bool true,.string emp,.string emp,.int .i64 ((n / 8 % 4 : Nat) : Int),.bool (decide (n / 32 % 2 = 1)),.slice none 0 0,.bool (decide (n / 128 = 1)),.string emp,.bool (decide (n / 64 % 2 = 1)),.string emp,.bool false,.string emp,.string emp,.int .i64 0,.bool false,.bool false,.slice none 0 0,.slice none 0 0,.slice none 0 0] true 0 := by
   rw [← hσ8,← e32]
   first
    | exact AHeap.get_set_same _ _ _
    | (rw [du]; exact AHeap.get_set_same _ _ _)
    | (rw [dp]; exact AHeap.get_set_same _ _ _)
    | (rw [du,dp]; exact AHeap.get_set_same _ _ _)
  clear hσ8
  try simp only [↓sbD,sbU,tyB,Nat.reduceMul,Nat.reduceSub,Int.reduceEq,Int.reduceLT,Int.reduceLE,Int.reduceNe,Nat.reduceBneDiff,Nat.reduceBEq,decide_false,gt_iff_lt,Bool.or_self,Bool.false_eq_true,Nat.mul_one,Nat.one_mul,Nat.zero_mul,↓reduceIte,Nat.reduceEqDiff,Nat.reduceLT,Nat.reduceAdd,Nat.reduceLeDiff,reduceCtorEq,goInt,pairs,isConst,TI.isAgg,splice,boxS,Edp,dpv,Nat.beq_eq,ZV.val,List.any_cons,List.any_nil,Bool.false_and]
  refine specSRead r8 hs (fun m q2 hrd vm σ9 hvm k9 r9 => ?_) fun k rr a hrd σ9 d' z k9 hd' he => ?_
  rotate_left
  ·have M9 := M8.trans k9
   have gy9 := (k9.at gy8 (by simp) (by simp [hyx])).1
   simp only [↓sbD,sbU,tyB,↓reduceIte,Nat.reduceEqDiff,Nat.reduceLT,Nat.reduceAdd,Nat.reduceLeDiff,reduceCtorEq,isConst,splice,gy9]
   generalize hσ10 : AHeap.set σ9 y _ = σ10
   have M10 : Kept σ2 [x] σ10 [x] := by rw [← hσ10]; exact M9.setD hy
   have gy10 : σ10.get y = .cells [.int .i64 1,.int .i64 0,.int .i64 0,v,.bool (decide (n / 2 % 2 = 1)),.int .i64 (kp : Int),.string cl,.bool true,.string emp,.string emp,.int .i64 ((n / 8 % 4 : Nat) : Int),.bool (decide (n / 32 % 2 = 1)),.slice none 0 0,.bool (decide (n / 128 = 1)),.string emp,.bool (decide (n / 64 % 2 = 1)),.string emp,.bool false,.string emp,.string emp,.int .i64 0,.bool false,.bool false,.slice none 0 0,.slice none 0 0,.slice none 0 0] true 0 := by rw [← hσ10]; exact AHeap.get_set_same _ _ _
   clear hσ10
   have gb10 := (M10.at gb2 (by simp) (by simp [hbx])).1
   simp only [↓sbD,sbU,tyB,↓reduceIte,Nat.reduceEqDiff,Nat.reduceLT,Nat.reduceAdd,Nat.reduceLeDiff,splice,gb10,hvc.2,res_cellc,resC_some]
   exact downS_here (hbad' k rr a ⟨_,hrd,rfl⟩ _ d' z (coP n kp l cl (coW n emp emp []) emp emp) _ ⟨_,_,_,_,_,hv,.inl ⟨rfl,rfl⟩,.inl ⟨rfl,rfl⟩,.inl ⟨rfl,rfl⟩,.inl ⟨rfl,rfl⟩,rfl⟩ ((K2.trans M10).setD hb) hd' he)
  have M9 := M8.trans k9
  have gy9 := (k9.at gy8 (by simp) (by simp [hyx])).1
  have hvm' := dl_vc hvm
  simp only [↓sbD,sbU,tyB,↓reduceIte,Nat.reduceEqDiff,Nat.reduceLT,Nat.reduceAdd,Nat.reduceLeDiff,reduceCtorEq,isConst,splice,gy9,hvm'.1,hvm'.2]
  generalize hσ10 : AHeap.set σ9 y _ = σ10
  have M10 : Kept σ2 [x] σ10 [x] := by rw [← hσ10]; exact M9.setD hy
  have r10 := r9.kept (show Kept σ9 [y] σ10 [y] by rw [← hσ10]; exact Kept.set (by simp)) (by simp [Ne.symm hyx])
  have gy10 : σ10.get y = .cells [.int .i64 1,.int .i64 0,.int .i64 0,v,.bool (decide (n / 2 % 2 = 1)),.int .i64 (kp : Int),.string cl,.bool true,.string emp,.string emp,.int .i64 ((n / 8 % 4 : Nat) : Int),.bool (decide (n / 32 % 2 = 1)),vm,.bool (decide (n / 128 = 1)),.string emp,.bool (decide (n / 64 % 2 = 1)),.string emp,.bool false,.string emp,.string emp,.int .i64 0,.bool false,.bool false,.slice none 0 0,.slice none 0 0,.slice none 0 0] true 0 := by
   rw [← hσ10]
   first
    | exact AHeap.get_set_same _ _ _
    | (rw [du]; exact AHeap.get_set_same _ _ _)
    | (rw [dp]; exact AHeap.get_set_same _ _ _)
    | (rw [du,dp]; exact AHeap.get_set_same _ _ _)
  clear hσ10
  try simp only [↓sbD,sbU,tyB,Nat.reduceMul,Nat.reduceSub,Int.reduceEq,Int.reduceLT,Int.reduceLE,Int.reduceNe,Nat.reduceBneDiff,Nat.reduceBEq,decide_false,gt_iff_lt,Bool.or_self,Bool.false_eq_true,Nat.mul_one,Nat.one_mul,Nat.zero_mul,↓reduceIte,Nat.reduceEqDiff,Nat.reduceLT,Nat.reduceAdd,Nat.reduceLeDiff,reduceCtorEq,goInt,pairs,isConst,TI.isAgg,splice,boxS,Edp,dpv,Nat.beq_eq,ZV.val,List.any_cons,List.any_nil,Bool.false_and]
  refine specSText r10 hs fun σ11 k11 r11 => ?_
  obtain ⟨wt,st4,hW⟩ : ∃ wt st4,textS s (.ok q2) = (wt,st4) := ⟨_,_,rfl⟩
  simp only [hW] at r11 ⊢
  have M11 := M10.trans k11
  have gy11 := (k11.at gy10 (by simp) (by simp [hyx])).1
  simp only [↓sbD,sbU,↓reduceIte,Nat.reduceLT,reduceCtorEq]
  refine specSBin r11 hs fun σ12 k12 r12 => ?_
  obtain ⟨wp,st5,hX⟩ : ∃ wp st5,binS s st4 = (wp,st5) := ⟨_,_,rfl⟩
  simp only [hX] at r12 ⊢
  have M12 := M11.trans k12
  have gy12 := (k12.at gy11 (by simp) (by simp [hyx])).1
  simp only [↓sbD,sbU,tyB,↓reduceIte,Nat.reduceEqDiff,Nat.reduceLT,Nat.reduceAdd,Nat.reduceLeDiff,reduceCtorEq,splice,gy12]
  generalize hσ13 : AHeap.set (AHeap.set σ12 y _) y _ = σ13
  have M13 : Kept σ2 [x] σ13 [x] := by rw [← hσ13]; exact (M12.setD hy).setD hy
  have r13 := r12.kept (show Kept σ12 [y] σ13 [y] by rw [← hσ13]; exact (Kept.set (by simp)).trans (Kept.set (by simp))) (by simp [Ne.symm hyx])
  have gy13 : σ13.get y = .cells [.int .i64 1,.int .i64 0,.int .i64 0,v,.bool (decide (n / 2 % 2 = 1)),.int .i64 (kp : Int),.string cl,.bool true,.string wt,.string wp,.int .i64 ((n / 8 % 4 : Nat) : Int),.bool (decide (n / 32 % 2 = 1)),vm,.bool (decide (n / 128 = 1)),.string emp,.bool (decide (n / 64 % 2 = 1)),.string emp,.bool false,.string emp,.string emp,.int .i64 0,.bool false,.bool false,.slice none 0 0,.slice none 0 0,.slice none 0 0] true 0 := by rw [← hσ13]; exact AHeap.get_set_same _ _ _
  clear hσ13
  have hokF : ∀ p,finK n s st5 (coP n kp l cl (coW n wt wp m)) = .ok p → ∀ v σ',PkV p v → Kept σ [x] σ' [x] → Q (.tuple #[v,.nilIface]) σ' := fun p h => hok' p ⟨_,hrd,by simp only [hW,hX]; exact h.symm⟩
  have hbadF : ∀ k rr a : Nat,finK n s st5 (coP n kp l cl (coW n wt wp m)) = .error (k,rr,a) → ∀ σ' d z p v,PkV p v → Kept σ [x] σ' [x] → d ≤ 3 → ErN d (fv rr a z) k → Q (.tuple #[v,fv rr a z]) σ' := fun k rr a h => hbad' k rr a ⟨_,hrd,by simp only [hW,hX]; exact h.symm⟩
  have hwv : DL propC 4 vm (coW n wt wp m).props := hvm
  have hww : σ13.get y = .cells (pkC (coP n kp l cl (coW n wt wp m) emp emp) v vm (.slice none 0 0) (.slice none 0 0) (.slice none 0 0)) true 0 := gy13
  have hwm := hvm'
  generalize coW n wt wp m = W at hokF hbadF hwv hww
  generalize st5 = stw at hokF hbadF r13
  clear hok' hbad' gy13 gy12 gy11 gy10 gy9 gy8 hrd
 rotate_left
 focus
  simp only [if_neg h4] at hok' hbad'
  have g4 : ((4 * (n / 4 % 2) : Nat) : Int) = 0 := by omega
  simp only [↓sbD,sbU,tyB,decide_false,↓reduceIte,Nat.reduceEqDiff,Nat.reduceLT,reduceCtorEq,isConst,a4,g4]
  have hokF : ∀ p,finK n s st3 (coP n kp l cl wlz) = .ok p → ∀ v σ',PkV p v → Kept σ [x] σ' [x] → Q (.tuple #[v,.nilIface]) σ' := fun p h => hok' p h.symm
  have hbadF : ∀ k rr a : Nat,finK n s st3 (coP n kp l cl wlz) = .error (k,rr,a) → ∀ σ' d z p v,PkV p v → Kept σ [x] σ' [x] → d ≤ 3 → ErN d (fv rr a z) k → Q (.tuple #[v,fv rr a z]) σ' := fun k rr a h => hbad' k rr a h.symm
  obtain ⟨vm,hwv,hwm,hww⟩ : ∃ vm,DL propC 4 vm wlz.props ∧ (vcells vm = [vm] ∧ oneCell vm = true) ∧ σ7.get y = .cells (pkC (coP n kp l cl wlz emp emp) v vm (.slice none 0 0) (.slice none 0 0) (.slice none 0 0)) true 0 := ⟨.slice none 0 0,.inl ⟨rfl,rfl⟩,⟨rfl,rfl⟩,gy7⟩
  have M13 := M7
  have r13 := r7
  generalize wlz = W at hokF hbadF hwv hww
  generalize st3 = stw at hokF hbadF r13
  clear hok' hbad'
 all_goals
  simp only [pkC,coP,pkz] at hww
  unfold finK at hokF hbadF
  by_cases hu : n / 128 = 1
  focus
   have du : decide (n / 128 = 1) = true := decide_eq_true hu
   simp only [↓sbD,sbU,↓reduceIte,Nat.reduceLT,reduceCtorEq,hww,du]
   refine specSText r13 hs fun σ14 k14 r14 => ?_
   obtain ⟨us,st6,hY⟩ : ∃ us st6,textS s stw = (us,st6) := ⟨_,_,rfl⟩
   simp only [hY] at r14 ⊢
   have hUS : userS n s stw = (us,st6) := by unfold userS; rw [if_pos hu,hY]
   have M14 := M13.trans k14
   have gy14 := (k14.at hww (by simp) (by simp [hyx])).1
   simp only [↓sbD,sbU,tyB,↓reduceIte,Nat.reduceEqDiff,Nat.reduceLT,Nat.reduceAdd,Nat.reduceLeDiff,reduceCtorEq,splice,gy14]
   generalize hσ15 : AHeap.set σ14 y _ = σ15
   have M15 : Kept σ2 [x] σ15 [x] := by rw [← hσ15]; exact M14.setD hy
   have r15 := r14.kept (show Kept σ14 [y] σ15 [y] by rw [← hσ15]; exact Kept.set (by simp)) (by simp [Ne.symm hyx])
   have gy15 : σ15.get y = .cells [.int .i64 1,.int .i64 0,.int .i64 0,v,.bool (decide (n / 2 % 2 = 1)),.int .i64 (kp : Int),.string cl,.bool W.has,.string W.topic,.string W.pay,.int .i64 W.qos,.bool W.ret,vm,.bool (decide (n / 128 = 1)),.string us,.bool (decide (n / 64 % 2 = 1)),.string emp,.bool false,.string emp,.string emp,.int .i64 0,.bool false,.bool false,.slice none 0 0,.slice none 0 0,.slice none 0 0] true 0 := by
    rw [← hσ15]
    first
     | exact AHeap.get_set_same _ _ _
     | (rw [du]; exact AHeap.get_set_same _ _ _)
     | (rw [dp]; exact AHeap.get_set_same _ _ _)
     | (rw [du,dp]; exact AHeap.get_set_same _ _ _)
   clear hσ15
  rotate_left
  focus
   have du : decide (n / 128 = 1) = false := decide_eq_false hu
   simp only [↓sbD,sbU,tyB,↓reduceIte,Nat.reduceEqDiff,Nat.reduceLT,reduceCtorEq,hww,du]
   have hUS : userS n s stw = (emp,stw) := if_neg hu
   obtain ⟨us,hus⟩ : ∃ us,emp = us := ⟨_,rfl⟩
   obtain ⟨st6,hst6⟩ : ∃ q,stw = q := ⟨_,rfl⟩
   rw [hst6,hus] at hUS
   rw [hst6] at r13 hokF hbadF
   have gy15 := hww.trans (show AObj.cells [.int .i64 1,.int .i64 0,.int .i64 0,v,.bool (decide (n / 2 % 2 = 1)),.int .i64 (kp : Int),.string cl,.bool W.has,.string W.topic,.string W.pay,.int .i64 W.qos,.bool W.ret,vm,.bool (decide (n / 128 = 1)),.string emp,.bool (decide (n / 64 % 2 = 1)),.string emp,.bool false,.string emp,.string emp,.int .i64 0,.bool false,.bool false,.slice none 0 0,.slice none 0 0,.slice none 0 0] true 0 = AObj.cells [.int .i64 1,.int .i64 0,.int .i64 0,v,.bool (decide (n / 2 % 2 = 1)),.int .i64 (kp : Int),.string cl,.bool W.has,.string W.topic,.string W.pay,.int .i64 W.qos,.bool W.ret,vm,.bool (decide (n / 128 = 1)),.string us,.bool (decide (n / 64 % 2 = 1)),.string emp,.bool false,.string emp,.string emp,.int .i64 0,.bool false,.bool false,.slice none 0 0,.slice none 0 0,.slice none 0 0] true 0 by rw [← hus])
   have M15 := M13
   have r15 := r13
  all_goals
   rw [hUS] at hokF hbadF
   simp only at hokF hbadF
   clear hUS hww
   by_cases hp : n / 64 % 2 = 1
   focus
    have dp : decide (n / 64 % 2 = 1) = true := decide_eq_true hp
    simp only [↓sbD,sbU,↓reduceIte,Nat.reduceLT,reduceCtorEq,dp]
    refine specSBin r15 hs fun σ16 k16 r16 => ?_
    obtain ⟨pw,st7,hZ⟩ : ∃ pw st7,binS s st6 = (pw,st7) := ⟨_,_,rfl⟩
    simp only [hZ] at r16 ⊢
    have hPS : passS n s st6 = (pw,st7) := by unfold passS; rw [if_pos hp,hZ]
    have M16 := M15.trans k16
    have gy16 := (k16.at gy15 (by simp) (by simp [hyx])).1
    simp only [↓sbD,sbU,tyB,↓reduceIte,Nat.reduceEqDiff,Nat.reduceLT,Nat.reduceAdd,Nat.reduceLeDiff,reduceCtorEq,splice,gy16]
    generalize hσ17 : AHeap.set σ16 y _ = σ17
    have M17 : Kept σ2 [x] σ17 [x] := by rw [← hσ17]; exact M16.setD hy
    have r17 := r16.kept (show Kept σ16 [y] σ17 [y] by rw [← hσ17]; exact Kept.set (by simp)) (by simp [Ne.symm hyx])
    have gy17 : σ17.get y = .cells [.int .i64 1,.int .i64 0,.int .i64 0,v,.bool (decide (n / 2 % 2 = 1)),.int .i64 (kp : Int),.string cl,.bool W.has,.string W.topic,.string W.pay,.int .i64 W.qos,.bool W.ret,vm,.bool (decide (n / 128 = 1)),.string us,.bool (decide (n / 64 % 2 = 1)),.string pw,.bool false,.string emp,.string emp,.int .i64 0,.bool false,.bool false,.slice none 0 0,.slice none 0 0,.slice none 0 0] true 0 := by
     rw [← hσ17]
     first
      | exact AHeap.get_set_same _ _ _
      | (rw [du]; exact AHeap.get_set_same _ _ _)
      | (rw [dp]; exact AHeap.get_set_same _ _ _)
      | (rw [du,dp]; exact AHeap.get_set_same _ _ _)
    clear hσ17
    clear gy16
   rotate_left
   focus
    have dp : decide (n / 64 % 2 = 1) = false := decide_eq_false hp
    simp only [↓sbD,sbU,tyB,↓reduceIte,Nat.reduceEqDiff,Nat.reduceLT,Nat.reduceAdd,Nat.reduceLeDiff,reduceCtorEq,gy15,dp]
    have hPS : passS n s st6 = (emp,st6) := if_neg hp
    obtain ⟨pw,hpw⟩ : ∃ pw,emp = pw := ⟨_,rfl⟩
    obtain ⟨st7,hst7⟩ : ∃ q,st6 = q := ⟨_,rfl⟩
    rw [hpw] at hPS
    have gy17 := gy15.trans (show AObj.cells [.int .i64 1,.int .i64 0,.int .i64 0,v,.bool (decide (n / 2 % 2 = 1)),.int .i64 (kp : Int),.string cl,.bool W.has,.string W.topic,.string W.pay,.int .i64 W.qos,.bool W.ret,vm,.bool (decide (n / 128 = 1)),.string us,.bool (decide (n / 64 % 2 = 1)),.string emp,.bool false,.string emp,.string emp,.int .i64 0,.bool false,.bool false,.slice none 0 0,.slice none 0 0,.slice none 0 0] true 0 = AObj.cells [.int .i64 1,.int .i64 0,.int .i64 0,v,.bool (decide (n / 2 % 2 = 1)),.int .i64 (kp : Int),.string cl,.bool W.has,.string W.topic,.string W.pay,.int .i64 W.qos,.bool W.ret,vm,.bool (decide (n / 128 = 1)),.string us,.bool (decide (n / 64 % 2 = 1)),.string pw,.bool false,.string emp,.string emp,.int .i64 0,.bool false,.bool false,.slice none 0 0,.slice none 0 0,.slice none 0 0] true 0 by rw [← hpw])
    have M17 := M15
    have r17 := r15
    rw [hst7] at r17
    have hPS : passS n s st6 = (pw,st7) := by rw [hPS,hst7]
   all_goals
    rw [hPS] at hokF hbadF
    simp only at hokF hbadF
    clear gy15
    have gb17 := (M17.at gb2 (by simp) (by simp [hbx])).1
    try simp only [↓sbD,sbU,tyB,Nat.reduceMul,Nat.reduceSub,Int.reduceEq,Int.reduceLT,Int.reduceLE,Int.reduceNe,Nat.reduceBneDiff,Nat.reduceBEq,decide_false,gt_iff_lt,Bool.or_self,Bool.false_eq_true,Nat.mul_one,Nat.one_mul,Nat.zero_mul,↓reduceIte,Nat.reduceEqDiff,Nat.reduceLT,Nat.reduceAdd,Nat.reduceLeDiff,reduceCtorEq,goInt,pairs,isConst,TI.isAgg,splice,boxS,Edp,dpv,Nat.beq_eq,ZV.val,List.any_cons,List.any_nil,Bool.false_and,gy17,gb17,hvc.1,hvc.2,hwm.1,hwm.2,Bool.and_self,Bool.and_true,AHeap.get_set_same,res_cellc,resC_some,List.length_cons,List.length_nil,List.cons_append,List.nil_append,List.drop_succ_cons,List.drop_zero,List.set_cons_zero,List.set_cons_succ,decide_true]
    refine specSDone r17 hs (fun hend => ?_) fun k q d z hend hd he => ?_
    all_goals
     simp only [↓sbD,sbU,tyB,↓reduceIte,Nat.reduceEqDiff,Nat.reduceLT,Nat.reduceAdd,Nat.reduceLeDiff,splice,gb17,hvc.2,hwm.2]
     refine drawS_l (fl := [(0,2)]) (by kernel_rfl) ?_ ?_
     rotate_left; simp only [lastP_cc,lastP_one]; rotate_left
     ·simp only [List.all_cons,List.all_nil,floatS,List.getElem?_cons_succ,List.getElem?_cons_zero,List.getElem?_toArray,Region.wanted,Bool.not_true,Bool.not_false,Bool.or_true,reads,looksWeak,aev_tmp,upd_at,↓reduceIte,Nat.reduceEqDiff,Nat.reduceLT,Nat.reduceAdd,blkOf,oeq_refl,dead_cells,Bool.and_true,Bool.and_self,Bool.false_eq_true,Bool.not_false,gy17,Bool.and_self,Bool.and_true]
      try rfl
     simp only [↓sbD,sbU,tyB,↓reduceIte,Nat.reduceEqDiff,Nat.reduceLT,Nat.reduceAdd,Nat.reduceLeDiff,res_cellc,resC_some]
    ·exact downS_here (hokF _ (by rw [hend]) _ _ ⟨_,_,_,_,_,hv,hwv,.inl ⟨rfl,rfl⟩,.inl ⟨rfl,rfl⟩,.inl ⟨rfl,rfl⟩,by first | (simp only [pkC,coP,pkz,du,dp]; done) | (simp only [pkC,coP,pkz,du,dp]; rfl) | (simp only [pkC,coP,pkz,du,dp,← hpw]; done) | (simp only [pkC,coP,pkz,du,dp,← hpw]; rfl)⟩ ((K2.trans M17).setD hb))
    ·exact downS_here (hbadF k 129 q (by rw [hend]) _ d z (coP n kp l cl W us pw) _ ⟨_,_,_,_,_,hv,hwv,.inl ⟨rfl,rfl⟩,.inl ⟨rfl,rfl⟩,.inl ⟨rfl,rfl⟩,by first | (simp only [pkC,coP,pkz,du,dp]; done) | (simp only [pkC,coP,pkz,du,dp]; rfl) | (simp only [pkC,coP,pkz,du,dp,← hpw]; done) | (simp only [pkC,coP,pkz,du,dp,← hpw]; rfl)⟩ ((K2.trans M17).setD hb) (by omega) he)
theorem specKoDec {f : Int} (hs : s.size ≤ 100000000)
  (hok : ∀ p,DecK f s (.ok p) → ∀ v σ',PkV p v → Kept σ [] σ' [] → Q (.tuple #[v,.nilIface]) σ')
  (hbad : ∀ k rr a : Nat,DecK f s (.error (k,rr,a)) → ∀ σ' d z,Kept σ [] σ' [] → d ≤ 3 → ErN d (fv rr a z) k → Q (.tuple #[.agg ⟨zeL⟩,fv rr a z]) σ') :
  CallS E B 21 [.agg ⟨[.int .i64 f,.string s]⟩] σ Q := by
 unfold DecK at hok hbad
 refine call21 (by simp) ?_
 simp only [strip,bodyOf,Tryz.f21,getD_body,keepN,bareOp_mk,List.map_cons,List.map_nil,↓reduceIte,Bool.false_eq_true]
 by_cases h1 : f = 16
 rotate_left
 ·simp only [if_pos (show f ≠ 16 from h1)] at hbad
  simp only [↓sbD,sbU,tyB,↓reduceIte,Nat.reduceEqDiff,Nat.reduceLT,reduceCtorEq,pairs,isConst,boxS,Edp,dpv,ZV.val,AS_new,zePk,h1,gk2]
  intro b hb
  refine specNew (n := 2) ⟨by omega,by omega⟩ ?_
  simp only [↓sbD,sbU,tyB,↓reduceIte,Nat.reduceEqDiff,Nat.reduceLT,Nat.reduceAdd,Nat.reduceLeDiff,splice,res_cellc,resC_some]
  exact downS_here (hbad 2 129 0 rfl _ 1 _ (((Kept.refl σ []).setD hb).setD hb) (by omega) (ErN.new _ _ ⟨by omega,by omega⟩))
 simp only [if_neg (show ¬ f ≠ 16 from fun h => h h1)] at hok hbad
 simp only [↓sbD,sbU,tyB,decide_false,↓reduceIte,Nat.reduceEqDiff,Nat.reduceLT,reduceCtorEq,isConst,boxS,Edp,dpv,AS_new,zePk,h1]
 intro b hb
 generalize hσ1 : AHeap.set σ b _ = σ1
 have k1 : Kept σ [] σ1 [] := by rw [← hσ1]; exact (Kept.refl σ []).setD hb
 have gb1 : σ1.get b = .cells zeL true 0 := by rw [← hσ1]; exact AHeap.get_set_same _ _ _
 clear hσ1
 refine specRNew fun x σ2 hx k2 i2 => ?_
 have r2 : IsRS σ2 x s (.ok 0) := ⟨Nat.zero_le _,i2⟩
 simp only [↓sbD,sbU,↓reduceIte,Nat.reduceLT]
 refine specKoHead r2 hs (fun n p hh σ3 k3 r3 => ?_) fun k rr a hh σ3 d z n k3 hd he => ?_
 rotate_left
 ·have K3 := k2.trans k3
  have gb3 := (K3.at gb1 (by simp) (by simp)).1
  simp only [zeL,pkC,pkz] at gb3
  have T3 := k1.trans (K3.wid (gp := []) (gp' := []) (fun _ h => by cases h) (fun _ h => by cases h))
  rw [hh] at hbad
  simp only [↓sbD,sbU,tyB,↓reduceIte,Nat.reduceEqDiff,Nat.reduceLT,Nat.reduceAdd,Nat.reduceLeDiff,pairs,isConst,splice,ZV.val,gb3,res_cellc,resC_some]
  exact downS_here (hbad k rr a rfl _ d z (T3.setD hb) hd he)
 have K3 := k2.trans k3
 have gb3 := (K3.at gb1 (by simp) (by simp)).1
 simp only [zeL,pkC,pkz] at gb3
 have T3 := k1.trans (K3.wid (gp := []) (gp' := []) (fun _ h => by cases h) (fun _ h => by cases h))
 rw [hh] at hok hbad
 simp only at hok hbad
 simp only [↓sbD,sbU,tyB,↓reduceIte,Nat.reduceEqDiff,Nat.reduceLT,isConst]
 refine specKoBody r3 (headS_ok hh).1 hs (fun p hB v σ4 hv k4 => ?_) fun k rr a hB σ4 d z p v hv k4 hd he => ?_
 all_goals
  have K4 := K3.trans k4
  have gb4 := (K4.at gb1 (by simp) (by simp)).1
  simp only [zeL,pkC,pkz] at gb4
  have T4 := k1.trans (K4.wid (gp := []) (gp' := []) (fun _ h => by cases h) (fun _ h => by cases h))
  obtain ⟨ua,ub,uc,ud,ue,e1,e2,e3,e4,e5,rfl⟩ := hv
  have c1 := dl_vc e1
  have c2 := dl_vc e2
  have c3 := dl_vc e3
  have c4 := dl_vc e4
  have c5 := dl_vc e5
  simp only [pkC]
  simp only [↓sbD,sbU,tyB,↓reduceIte,Nat.reduceEqDiff,Nat.reduceLT,Nat.reduceAdd,Nat.reduceLeDiff,splice,AS_new,zePk]
  intro g hg
  have hgb : g ≠ b := nd hg gb4 (by simp)
  have gb' : ∀ (τ : AHeap) o,(AHeap.set τ g o).get b = τ.get b := fun τ o => AHeap.get_set_ne _ _ hgb
  have bg' : ∀ (τ : AHeap) o,(AHeap.set τ b o).get g = τ.get g := fun τ o => AHeap.get_set_ne _ _ hgb.symm
  try simp only [↓sbD,sbU,tyB,Nat.reduceMul,Nat.reduceSub,Int.reduceEq,Int.reduceLT,Int.reduceLE,Int.reduceNe,Nat.reduceBneDiff,Nat.reduceBEq,decide_false,gt_iff_lt,Bool.or_self,Bool.false_eq_true,Nat.mul_one,Nat.one_mul,Nat.zero_mul,↓reduceIte,Nat.reduceEqDiff,Nat.reduceLT,Nat.reduceAdd,Nat.reduceLeDiff,reduceCtorEq,goInt,pairs,isConst,TI.isAgg,splice,boxS,Edp,dpv,Nat.beq_eq,ZV.val,List.any_cons,List.any_nil,Bool.false_and,AHeap.get_set_same,VCS]
  have T5 := (T4.trans (((Kept.refl σ4 []).setD (o := .cells [.int .i64 0,.int .i64 0,.int .i64 0,.slice none 0 0,.bool false,.int .i64 0,.string emp,.bool false,.string emp,.string emp,.int .i64 0,.bool false,.slice none 0 0,.bool false,.string emp,.bool false,.string emp,.bool false,.string emp,.string emp,.int .i64 0,.bool false,.bool false,.slice none 0 0,.slice none 0 0,.slice none 0 0] true 0) hg).setD (o := .cells (pkC p ua ub uc ud ue) true 0) hg))
  simp only [↓sbD,sbU,tyB,↓reduceIte,Nat.reduceEqDiff,Nat.reduceLT,Nat.reduceAdd,Nat.reduceLeDiff,pairs,isConst,splice,ZV.val,gb',gb4,c1.2,c2.2,c3.2,c4.2,c5.2,res_cellc,resC_some]
 ·exact downS_here (hok p hB _ _ ⟨_,_,_,_,_,e1,e2,e3,e4,e5,rfl⟩ (T5.setD hb))
 ·exact downS_here (hbad k rr a hB _ d z (T5.setD hb) hd he)
end
section
variable {σ : AHeap} {Q : Value → AHeap → Prop} {s : ByteArray}
def wlL (p : Pk) (b : ByteArray) : List Act := if p.will.has then [⟨8,0,b⟩,⟨6,0,p.will.topic⟩,⟨7,0,p.will.pay⟩] else []
def usL (p : Pk) : List Act := if p.hasU then [⟨6,0,p.user⟩] else []
def paL (p : Pk) : List Act := if p.hasP then [⟨7,0,p.pass⟩] else []
theorem actsK_run {p : Pk} {a b : ByteArray} : stepW (stepW (stepW (stepW (runW emp []) [⟨6,0,mqtt⟩,⟨1,5,emp⟩,⟨1,flagsI p,emp⟩,⟨2,p.keep,emp⟩,⟨8,0,a⟩,⟨6,0,p.client⟩]) (wlL p b)) (usL p)) (paL p) = runW emp (actsK p (a,b)) := by
 rw [stepW_app,stepW_app,stepW_app]
 rfl
theorem specKoEnc {p : Pk} {v : Value} (hp : PkV p v) (hm : bigPk p)
  (hok : ∀ fb,EncK p (.ok fb) → ∀ σ',Kept σ [] σ' [] → Q (.tuple #[.agg ⟨[.int .i64 fb.1,.string fb.2]⟩,.nilIface]) σ')
  (hbad : ∀ k rr a : Nat,EncK p (.error (k,rr,a)) → ∀ σ' d z,Kept σ [] σ' [] → d ≤ 3 → ErN d (fv rr a z) k → Q (.tuple #[.agg ⟨[.int .i64 0,.string emp]⟩,fv rr a z]) σ') :
  CallS E B 20 [v] σ Q := by
 obtain ⟨vp,vw,vs,vf,vc,d1,d2,d3,d4,d5,rfl⟩ := hp
 obtain ⟨up,uw,us,uf,uc,d1,d2,d3,d4,d5,-,hbx⟩ := boxPk d1 d2 d3 d4 d5
 simp only [pkC] at hbx ⊢
 have eml : (emp).size = 0 := rfl
 unfold EncK EncG at hok hbad
 have h5 := hm.client
 have h6 := hm.user
 have h7 := hm.pass
 have hpv : PkV p (.agg ⟨pkC p up uw us uf uc⟩) := ⟨_,_,_,_,_,d1,d2,d3,d4,d5,rfl⟩
 simp only [pkC] at hpv
 by_cases hq : p.will.has = true ∧ (p.will.qos < 0 ∨ 3 < p.will.qos)
 ·have hpre : preK p = some (2,129,0) := if_pos hq
  have hw := hq.1
  simp only [hpre] at hbad
  have OUT : ∀ {P : Prop},(p.will.qos < 0 → P) → (¬ p.will.qos < 0 → 3 < p.will.qos → P) → P := fun a b => by
   by_cases h : p.will.qos < 0
   ·exact a h
   ·exact b h (hq.2.resolve_left h)
  simp only [hw] at hbx ⊢
  refine call20 (by simp) ?_
  simp only [strip,bodyOf,Tryz.f20,getD_body,keepN,bareOp_mk,lapp_cons,lapp_nil,List.map_cons,List.map_nil,↓reduceIte,Bool.false_eq_true]
  refine OUT (fun q1 => ?_) fun q1 q2 => ?_
  focus simp only [↓sbD,sbU,tyB,↓reduceIte,Nat.reduceEqDiff,Nat.reduceLT,reduceCtorEq,pairs,isConst,ZV.val,hbx,AS_new,zeFra,q1,gk2]
  rotate_left
  focus simp only [↓sbD,sbU,tyB,decide_false,↓reduceIte,Nat.reduceEqDiff,Nat.reduceLT,reduceCtorEq,pairs,isConst,ZV.val,hbx,AS_new,zeFra,q1,q2,gk2]
  all_goals
   intro b hb
   refine specNew (n := 2) ⟨by omega,by omega⟩ ?_
   simp only [↓sbD,sbU,tyB,↓reduceIte,Nat.reduceEqDiff,Nat.reduceLT,Nat.reduceAdd,Nat.reduceLeDiff,splice,res_cellc,resC_some]
   exact downS_here (hbad 2 129 0 rfl _ 1 _ (((Kept.refl σ []).setD hb).setD hb) (by omega) (ErN.new _ _ ⟨by omega,by omega⟩))
 have hpre : preK p = none := if_neg hq
 simp only [hpre] at hok hbad
 have hqq : p.will.has = true → ¬ (p.will.qos < 0 ∨ 3 < p.will.qos) := fun h1 h2 => hq ⟨h1,h2⟩
 have ALT : ∀ {P : Prop},(p.will.has = false → P) → (p.will.has = true → ¬ p.will.qos < 0 → ¬ 3 < p.will.qos → P) → P := fun a b => by
  cases hw : p.will.has with
  | false => exact a hw
  | true => exact b hw (fun h => hqq hw (.inl h)) (fun h => hqq hw (.inr h))
 refine ALT (fun hwa => ?_) fun hwa q1 q2 => ?_
 focus
  simp only [hwa] at hbx hpv ⊢
  refine call20 (by simp) ?_
  simp only [strip,bodyOf,Tryz.f20,getD_body,keepN,bareOp_mk,lapp_cons,lapp_nil,List.map_cons,List.map_nil,↓reduceIte,Bool.false_eq_true]
  simp only [↓sbD,sbU,tyB,↓reduceIte,Nat.reduceEqDiff,Nat.reduceLT,Nat.reduceAdd,Nat.reduceLeDiff,reduceCtorEq,hbx,AS_new,zeFra]
 rotate_left
 focus
  simp only [hwa] at hbx hpv ⊢
  refine call20 (by simp) ?_
  simp only [strip,bodyOf,Tryz.f20,getD_body,keepN,bareOp_mk,lapp_cons,lapp_nil,List.map_cons,List.map_nil,↓reduceIte,Bool.false_eq_true]
  simp only [↓sbD,sbU,tyB,decide_false,↓reduceIte,Nat.reduceEqDiff,Nat.reduceLT,Nat.reduceAdd,Nat.reduceLeDiff,reduceCtorEq,isConst,hbx,AS_new,zeFra,q1,q2]
 all_goals
  intro b hb
  generalize hσ1 : AHeap.set σ b _ = σ1
  have k1 : Kept σ [] σ1 [] := by rw [← hσ1]; exact (Kept.refl σ []).setD hb
  have gb1 : σ1.get b = .cells [.int .i64 0,.string emp] true 0 := by rw [← hσ1]; exact AHeap.get_set_same _ _ _
  clear hσ1
  refine specParts hpv hm (fun a b' hce za zb => ?_) fun k r a d z c1 c2 hce hd he => ?_
  rotate_left
  ·simp only [hce] at hbad
   simp only [↓sbD,sbU,tyB,↓reduceIte,Nat.reduceEqDiff,Nat.reduceLT,Nat.reduceAdd,Nat.reduceLeDiff,pairs,isConst,splice,ZV.val,gb1,res_cellc,resC_some]
   exact downS_here (hbad k r a rfl _ d z (k1.setD hb) (by omega) he)
  simp only [hce] at hok hbad
  simp only [↓sbD,sbU,tyB,Bool.false_eq_true,↓reduceIte,Nat.reduceEqDiff,Nat.reduceLT,pairs,isConst,boxS,Edp,ZV.val,Bool.false_and,AS_new,dpW]
  intro w hw
  have hwb : w ≠ b := nd hw gb1 (by simp)
  generalize hσ2 : AHeap.set σ1 w _ = σ2
  have gw : σ2.get w = .cells [.slice none 0 0,.nilIface] true 0 := by rw [← hσ2]; exact AHeap.get_set_same _ _ _
  have k2 : Kept σ1 [] σ2 [w] := by rw [← hσ2]; exact Kept.new' hw
  have w2 : WRun σ2 w (runW emp []) [w] := ⟨_,[],gw,.inl ⟨rfl,rfl,rfl⟩,rfl,by simp⟩
  have z2 : leW (runW emp []) 0 := fun b hb => by injection hb with hb; subst hb; exact Nat.le_refl _
  clear gw hσ2
  refine specTextR (n := 0) (s := mqtt) w2 (fun b hb => by have := z2 b hb; omega) (by decide) fun σ3 fp3 k3 w3 => ?_
  have z3 := leW_step (a := ⟨6,0,mqtt⟩) z2
  have e3 : mqtt.size = 4 := rfl
  simp only [e3] at z3
  simp only [↓sbD,sbU,↓reduceIte,Nat.reduceEqDiff,Nat.reduceLT]
  refine specU8R (s := emp) w3 (fun b hb => by have := z3 b hb; omega) fun σ4 fp4 k4 w4 => ?_
  have z4 := leW_step (a := ⟨1,5,emp⟩) z3
  simp only [eml] at z4
  simp only [↓sbD,sbU,tyB,↓reduceIte,Nat.reduceEqDiff,Nat.reduceLT,Nat.reduceAdd,Nat.reduceLeDiff]
  refine specFlags hpv hqq ?_
  simp only [↓sbD,sbU,↓reduceIte,Nat.reduceEqDiff,Nat.reduceLT]
  refine specU8R (s := emp) w4 (fun b hb => by have := z4 b hb; omega) fun σ5 fp5 k5 w5 => ?_
  have z5 := leW_step (a := ⟨1,flagsI p,emp⟩) z4
  simp only [eml] at z5
  simp only [↓sbD,sbU,tyB,↓reduceIte,Nat.reduceEqDiff,Nat.reduceLT,reduceCtorEq]
  refine specU16R (s := emp) w5 (fun b hb => by have := z5 b hb; omega) fun σ6 fp6 k6 w6 => ?_
  have z6 := leW_step (a := ⟨2,p.keep,emp⟩) z5
  simp only [eml] at z6
  simp only [↓sbD,sbU,↓reduceIte,Nat.reduceEqDiff,Nat.reduceLT]
  refine specRawR (n := 0) w6 (fun b hb => by have := z6 b hb; omega) (by omega) fun σ7 fp7 k7 w7 => ?_
  have z7 := leW_step (a := ⟨8,0,a⟩) z6
  simp only at z7
  simp only [↓sbD,sbU,tyB,↓reduceIte,Nat.reduceEqDiff,Nat.reduceLT,reduceCtorEq]
  refine specTextR (n := 0) w7 (fun b hb => by have := z7 b hb; omega) (by omega) fun σ8 fp8 k8 w8 => ?_
  have z8 := leW_step (a := ⟨6,0,p.client⟩) z7
  simp only at z8
  have hR : stepW (stepW (stepW (stepW (stepW (stepW (runW emp []) [⟨6,0,mqtt⟩]) [⟨1,5,emp⟩]) [⟨1,flagsI p,emp⟩]) [⟨2,p.keep,emp⟩]) [⟨8,0,a⟩]) [⟨6,0,p.client⟩] = stepW (runW emp []) [⟨6,0,mqtt⟩,⟨1,5,emp⟩,⟨1,flagsI p,emp⟩,⟨2,p.keep,emp⟩,⟨8,0,a⟩,⟨6,0,p.client⟩] := by rw [stepW_app,stepW_app,stepW_app,stepW_app,stepW_app]; rfl
  rw [hR] at w8 z8
  have hRR := actsK_run (p := p) (a := a) (b := b')
  generalize stepW (runW emp []) [⟨6,0,mqtt⟩,⟨1,5,emp⟩,⟨1,flagsI p,emp⟩,⟨2,p.keep,emp⟩,⟨8,0,a⟩,⟨6,0,p.client⟩] = R8 at w8 z8 hRR
  have K8 := k2.trans (k3.trans (k4.trans (k5.trans (k6.trans (k7.trans k8)))))
  clear hR w7 w6 w5 w4 w3 z7 z6 z5 z4 z3 k3 k4 k5 k6 k7 k8
  simp only [↓sbD,sbU,tyB,↓reduceIte,Nat.reduceEqDiff,Nat.reduceLT,Nat.reduceAdd,Nat.reduceLeDiff,reduceCtorEq]
  first
   | refine specLast (l := { p.will with has := true }) (n := 700000 + 5000) w8 d2 (fun b hb => by have := z8 b hb; omega) (by omega) zb hm.wtopic hm.wpay fun σ9 fp9 k9 w9' z9' => ?_
   | refine specLast (l := { p.will with has := false }) (n := 700000 + 5000) w8 d2 (fun b hb => by have := z8 b hb; omega) (by omega) zb hm.wtopic hm.wpay fun σ9 fp9 k9 w9' z9' => ?_
  obtain ⟨R9,hR9⟩ : ∃ R,R = stepW R8 (wlL p b') := ⟨_,rfl⟩
  have w9 : WRun σ9 w R9 fp9 := by rw [hR9]; unfold wlL; rw [hwa]; exact w9'
  have z9 : leW R9 (700000 + 5000 + b'.size + 5000) := by rw [hR9]; unfold wlL; rw [hwa]; exact z9'
  rw [← hR9] at hRR
  clear w9' z9' hR9
  have K9 := K8.trans k9
  have hz9 : leW R9 1410000 := fun b hb => by have := z9 b hb; omega
  have huc : p.hasU = false ∨ p.hasU = true := by cases p.hasU <;> simp
  rcases huc with hu | hu
  focus
   simp only [↓sbD,sbU,tyB,↓reduceIte,Nat.reduceEqDiff,Nat.reduceLT,reduceCtorEq,hu]
   have hL : usL p = [] := by unfold usL; rw [hu]; rfl
   rw [hL,stepW_nil] at hRR
   obtain ⟨σ10,rfl⟩ : ∃ τ,τ = σ9 := ⟨_,rfl⟩
   have w10 := w9
   have K10 := K9
   have z10 : leW R9 1420000 := fun b hb => by have := hz9 b hb; omega
   generalize R9 = R10 at w10 z10 hRR
  rotate_left
  focus
   simp only [↓sbD,sbU,tyB,↓reduceIte,Nat.reduceEqDiff,Nat.reduceLT,reduceCtorEq,hu]
   refine specTextR (n := 0) w9 (fun b hb => by have := hz9 b hb; omega) (by omega) fun σ10 fp10 k10 w10 => ?_
   have z10' := leW_step (a := ⟨6,0,p.user⟩) hz9
   simp only at z10'
   have hL : usL p = [⟨6,0,p.user⟩] := by unfold usL; rw [hu]; rfl
   rw [hL] at hRR
   have z10 : leW (stepW R9 [⟨6,0,p.user⟩]) 1420000 := fun b hb => by have := z10' b hb; omega
   have K10 := K9.trans k10
   generalize stepW R9 [⟨6,0,p.user⟩] = R10 at w10 z10 hRR
  rotate_left
  all_goals
   have hpc : p.hasP = false ∨ p.hasP = true := by cases p.hasP <;> simp
   rcases hpc with hp' | hp'
   focus
    simp only [↓sbD,sbU,tyB,↓reduceIte,Nat.reduceEqDiff,Nat.reduceLT,reduceCtorEq,hp']
    have hL : paL p = [] := by unfold paL; rw [hp']; rfl
    rw [hL,stepW_nil] at hRR
    obtain ⟨σ11,rfl⟩ : ∃ τ,τ = σ10 := ⟨_,rfl⟩
    have w11 := w10
    have K11 := K10
    have z11 : leW R10 1430000 := fun b hb => by have := z10 b hb; omega
    rw [hRR] at w11 z11
   rotate_left
   focus
    simp only [↓sbD,sbU,tyB,↓reduceIte,Nat.reduceEqDiff,Nat.reduceLT,reduceCtorEq,hp']
    refine specBinR (n := 0) w10 (fun b hb => by have := z10 b hb; omega) (by omega) fun σ11 fp11 k11 w11 => ?_
    have z11' := leW_step (a := ⟨7,0,p.pass⟩) z10
    simp only at z11'
    have hL : paL p = [⟨7,0,p.pass⟩] := by unfold paL; rw [hp']; rfl
    rw [hL] at hRR
    rw [hRR] at w11 z11'
    have z11 : leW (runW emp (actsK p (a,b'))) 1430000 := fun b hb => by have := z11' b hb; omega
    have K11 := K10.trans k11
   rotate_left
   all_goals
    try simp only [↓sbD,sbU,↓reduceIte,Nat.reduceEqDiff,Nat.reduceLT]
    refine specBytesR w11 (fun bb hbb => ?_) fun k q d z hr hd he => ?_
    ·have gbn := (K11.at gb1 (by simp) (by simp)).1
     have hle := z11 bb hbb
     simp only [↓sbD,sbU,tyB,↓reduceIte,Nat.reduceEqDiff,Nat.reduceLT,Nat.reduceAdd,Nat.reduceLeDiff,pairs,isConst,splice,ZV.val,AS_new,zeFra]
     intro c hc
     have hcb : c ≠ b := nd hc gbn (by simp)
     generalize hσc : AHeap.set _ c _ = σc
     have kc : Kept σ11 [] σc [] := by rw [← hσc]; exact ((Kept.refl _ []).setD hc).setD hc
     have gc : σc.get c = .cells [.int .i64 (16),.string bb] true 0 := by rw [← hσc]; exact AHeap.get_set_same _ _ _
     clear hσc
     try simp only [↓sbD,sbU,tyB,Nat.reduceMul,Nat.reduceSub,Int.reduceEq,Int.reduceLT,Int.reduceLE,Int.reduceNe,Nat.reduceBneDiff,Nat.reduceBEq,decide_false,gt_iff_lt,Bool.or_self,Bool.false_eq_true,Nat.mul_one,Nat.one_mul,Nat.zero_mul,↓reduceIte,Nat.reduceEqDiff,Nat.reduceLT,Nat.reduceAdd,Nat.reduceLeDiff,reduceCtorEq,goInt,pairs,isConst,TI.isAgg,splice,boxS,Edp,dpv,Nat.beq_eq,ZV.val,List.any_cons,List.any_nil,Bool.false_and,gc]
     refine specKoDec (by omega) (fun y hy v2 σd hv2 kd => ?_) fun k rr a hy σd d z kd hd he => ?_
     ·have gbd := ((kc.trans kd).at gbn (by simp) (by simp)).1
      have gcd := (kd.at gc (by simp) (by simp)).1
      simp only [↓sbD,sbU,tyB,↓reduceIte,Nat.reduceEqDiff,Nat.reduceLT,Nat.reduceAdd,Nat.reduceLeDiff,isConst,splice,gcd,gbd,res_cellc,resC_some]
      exact downS_here (hok (16,bb) (by unfold MadeR; rw [hbb]; exact ⟨_,hy,rfl⟩) _ ((k1.trans ((K11.wid (gp := []) (gp' := []) (fun _ h => by cases h) (fun _ h => by cases h)).trans (kc.trans kd))).setD hb))
     ·have gbd := ((kc.trans kd).at gbn (by simp) (by simp)).1
      simp only [↓sbD,sbU,tyB,↓reduceIte,Nat.reduceEqDiff,Nat.reduceLT,Nat.reduceAdd,Nat.reduceLeDiff,pairs,isConst,splice,ZV.val,gbd,res_cellc,resC_some]
      exact downS_here (hbad k rr a (by unfold MadeR; rw [hbb]; exact ⟨_,hy,rfl⟩) _ d z ((k1.trans ((K11.wid (gp := []) (gp' := []) (fun _ h => by cases h) (fun _ h => by cases h)).trans (kc.trans kd))).setD hb) hd he)
    ·have gbn := (K11.at gb1 (by simp) (by simp)).1
     simp only [↓sbD,sbU,tyB,↓reduceIte,Nat.reduceEqDiff,Nat.reduceLT,Nat.reduceAdd,Nat.reduceLeDiff,pairs,isConst,splice,ZV.val,AS_new,zeFra]
     intro c hc
     have hcb : c ≠ b := nd hc gbn (by simp)
     have bc : ∀ (τ : AHeap) o,(AHeap.set τ c o).get b = τ.get b := fun τ o => AHeap.get_set_ne _ _ hcb
     simp only [↓sbD,sbU,tyB,↓reduceIte,Nat.reduceEqDiff,Nat.reduceLT,Nat.reduceAdd,Nat.reduceLeDiff,splice,bc,gbn,res_cellc,resC_some]
     exact downS_here (hbad k 129 q (by unfold MadeR; rw [hr]) _ d z ((k1.trans ((K11.wid (gp := []) (gp' := []) (fun _ h => by cases h) (fun _ h => by cases h)).trans (((Kept.refl _ []).setD hc).setD hc))).setD hb) (by omega) he)
end
section
variable {σ : AHeap} {Q : Value → AHeap → Prop} {s : ByteArray}
theorem quoK8 {m k : Nat} (hm : m < 256) (hk : 0 < k) : aint .quo .i64 (m : Int) (k : Int) = some (.int .i64 ((m / k : Nat) : Int)) := by
 have h1 : m / k ≤ m := Nat.div_le_self m k
 have e : ((m : Int)).tdiv (k : Int) = ((m / k : Nat) : Int) := by
  rw [Int.tdiv_eq_ediv_of_nonneg (by omega)]; rfl
 have hk0 : ¬ (k : Int) = 0 := by omega
 show (if (k : Int) = 0 then none else some (Value.int .i64 (IntKind.i64.wrap (((m : Int)).tdiv (k : Int))))) = _
 generalize m / k = z at *
 rw [if_neg hk0,e,wrap64 ⟨by omega,by omega⟩]
theorem remK8 {m k : Nat} (hk : 0 < k) : aint .rem .i64 (m : Int) (k : Int) = some (.int .i64 ((m % k : Nat) : Int)) := by
 rw [rem_pos (Int.natCast_nonneg _) (by omega)]; rfl
theorem specDKoHead {r : Nat} (hr : IsYS σ r s (.ok 0)) (hs : s.size ≤ 100000000)
  (hok : ∀ n p,headS s = .ok (n,p) → ∀ σ',Kept σ [r] σ' [r] → IsYS σ' r s (.ok p) → Q (.tuple #[.int .i64 (n : Int),flt 0 0 0]) σ')
  (hbad : ∀ k rr a : Nat,headS s = .error (k,rr,a) → k ≠ 0 → ∀ σ',Kept σ [r] σ' [r] → Q (.tuple #[.int .i64 0,flt k rr a]) σ') :
  CallS E B 118 [.pointer (some ⟨r,0,none⟩)] σ Q := by
 unfold headS at hok hbad
 refine call118 (by simp) ?_
 simp only [strip,bodyOf,Tryz.f118,getD_body,keepN,bareOp_mk,lapp_cons,lapp_nil,List.map_cons,List.map_nil,↓reduceIte,Bool.false_eq_true]
 simp only [↓sbD,sbU,↓reduceIte,Nat.reduceLT,reduceCtorEq,AS_new,zeFlt]
 intro c hc
 have hcr : c ≠ r := by rintro rfl; exact hr.alive hc
 generalize hσ0 : AHeap.set σ c _ = σ0
 have k0 : Kept σ [] σ0 [] := by rw [← hσ0]; exact (Kept.refl σ []).setD hc
 have r0 := hr.kept k0 (by simp)
 have gc0 : σ0.get c = .cells [.int .i64 0,.int .i64 0,.int .i64 0] true 0 := by rw [← hσ0]; exact AHeap.get_set_same _ _ _
 clear hσ0
 have FIN : ∀ {τ : AHeap} {o : AObj},Kept σ0 [r] τ [r] → Kept σ [r] (τ.set c o) [r] := fun kt => ((k0.wid (gp := [r]) (gp' := [r]) (fun _ h => by cases h) (fun _ h => .inr h)).trans kt).setD hc
 refine specZText r0 hs fun σ1 k1 r1 => ?_
 obtain ⟨t,st1,hT⟩ : ∃ t st1,textS s (.ok 0) = (t,st1) := ⟨_,_,rfl⟩
 simp only [hT] at hok hbad r1 ⊢
 obtain ⟨v,st2,hV⟩ : ∃ v st2,u8S s st1 = (v,st2) := ⟨_,_,rfl⟩
 simp only [hV] at hok hbad
 obtain ⟨n,st3,hN⟩ : ∃ n st3,u8S s st2 = (n,st3) := ⟨_,_,rfl⟩
 simp only [hN] at hok hbad
 unfold headK at hok hbad
 simp only at hok hbad
 have gc1 := (k1.at gc0 (by simp) (by simp [hcr])).1
 obtain ⟨pa,ea,aa,gx1,ok1,bad1⟩ := r1.cells
 obtain ⟨e1,hst1⟩ | ⟨p1,hst1⟩ : (∃ e,st1 = .error e) ∨ (∃ p,st1 = .ok p) := by cases st1 <;> simp
 focus
  have he := bad1 e1 hst1
  have hne : ¬ (okP st1 = true ∧ t ≠ mqtt) := fun h => by rw [hst1] at h; cases h.1
  simp only [if_neg hne] at hok hbad
  simp only [↓sbD,sbU,tyB,decide_false,↓reduceIte,Nat.reduceEqDiff,Nat.reduceLT,reduceCtorEq,isConst,gx1,he]
  clear hst1 hne
 rotate_left
 focus
  have he := (ok1 p1 hst1).2
  by_cases h1 : t = ⟨#[77,81,84,84]⟩
  rotate_left
  ·simp only [if_pos (show okP st1 = true ∧ t ≠ mqtt from ⟨by rw [hst1]; rfl,h1⟩)] at hbad
   simp only [↓sbD,sbU,tyB,↓reduceIte,Nat.reduceEqDiff,Nat.reduceLT,Nat.reduceAdd,Nat.reduceLeDiff,reduceCtorEq,pairs,isConst,splice,ZV.val,gx1,he,h1,gc1,res_cellc,resC_some]
   exact downS_here (hbad 3 132 0 rfl (by omega) _ (FIN k1))
  have hne : ¬ (okP st1 = true ∧ t ≠ mqtt) := fun h => h.2 h1
  simp only [if_neg hne] at hok hbad
  simp only [↓sbD,sbU,tyB,decide_false,↓reduceIte,Nat.reduceEqDiff,Nat.reduceLT,reduceCtorEq,isConst,gx1,he,h1]
  clear hst1 hne
 rotate_left
 all_goals
  refine specZU8 r1 hs fun σ2 k2 r2 => ?_
  simp only [hV] at r2 ⊢
  have gc2 := (k2.at gc1 (by simp) (by simp [hcr])).1
  obtain ⟨pb,eb,ab,gx2,ok2,bad2⟩ := r2.cells
  obtain ⟨e2,hst2⟩ | ⟨p2,hst2⟩ : (∃ e,st2 = .error e) ∨ (∃ p,st2 = .ok p) := by cases st2 <;> simp
  focus
   have he2 := bad2 e2 hst2
   have hne : ¬ (okP st2 = true ∧ v ≠ 5) := fun h => by rw [hst2] at h; cases h.1
   simp only [if_neg hne] at hok hbad
   simp only [↓sbD,sbU,tyB,decide_false,↓reduceIte,Nat.reduceEqDiff,Nat.reduceLT,reduceCtorEq,isConst,gx2,he2]
   clear hst2 hne
  rotate_left
  focus
   have he2 := (ok2 p2 hst2).2
   by_cases h2 : v = 5
   rotate_left
   ·simp only [if_pos (show okP st2 = true ∧ v ≠ 5 from ⟨by rw [hst2]; rfl,h2⟩)] at hbad
    have h2' : ¬ (v : Int) = 5 := by omega
    simp only [↓sbD,sbU,tyB,↓reduceIte,Nat.reduceEqDiff,Nat.reduceLT,Nat.reduceAdd,Nat.reduceLeDiff,reduceCtorEq,pairs,isConst,splice,ZV.val,gx2,he2,h2',gc2,res_cellc,resC_some]
    exact downS_here (hbad 3 132 6 rfl (by omega) _ (FIN (k1.trans k2)))
   have hne : ¬ (okP st2 = true ∧ v ≠ 5) := fun h => h.2 h2
   simp only [if_neg hne] at hok hbad
   have h2' : (v : Int) = 5 := by omega
   simp only [↓sbD,sbU,tyB,decide_false,↓reduceIte,Nat.reduceEqDiff,Nat.reduceLT,reduceCtorEq,isConst,gx2,he2,h2']
   clear hst2 hne
  rotate_left
  all_goals
   refine specZU8 r2 hs fun σ3 k3 r3 => ?_
   simp only [hN] at r3 ⊢
   have K3 := k1.trans (k2.trans k3)
   have gc3 := (k3.at gc2 (by simp) (by simp [hcr])).1
   obtain ⟨hn,-⟩ := u8S_lt hN
   cases hst : st3 with
   | error e =>
    obtain ⟨k,q⟩ := e
    rw [hst] at hbad r3
    simp only at hbad
    obtain ⟨hk,p,hp,i3⟩ := r3
    have hk0 : ¬ (k : Int) = 0 := by omega
    have i3' := i3
    unfold IsY at i3'
    simp only [↓sbD,sbU,tyB,↓reduceIte,Nat.reduceLT,reduceCtorEq,isConst,i3',hk0]
    refine specKOfE hk i3 hp ?_
    simp only [↓sbD,sbU,tyB,↓reduceIte,Nat.reduceEqDiff,Nat.reduceLT,Nat.reduceAdd,Nat.reduceLeDiff,splice,gc3,res_cellc,resC_some]
    exact downS_here (hbad k 129 q rfl hk _ (FIN K3))
   | ok p =>
    rw [hst] at hok hbad r3
    simp only at hok hbad
    have i3' := r3.2
    unfold IsY at i3'
    have q8 : aint .quo .i64 ((n : Nat) : Int) 8 = some (.int .i64 ((n / 8 : Nat) : Int)) := quoK8 (m := n) (k := 8) (by omega) (by omega)
    have q4 : aint .quo .i64 ((n : Nat) : Int) 4 = some (.int .i64 ((n / 4 : Nat) : Int)) := quoK8 (m := n) (k := 4) (by omega) (by omega)
    have q32 : aint .quo .i64 ((n : Nat) : Int) 32 = some (.int .i64 ((n / 32 : Nat) : Int)) := quoK8 (m := n) (k := 32) (by omega) (by omega)
    have r84 : aint .rem .i64 ((n / 8 : Nat) : Int) 4 = some (.int .i64 ((n / 8 % 4 : Nat) : Int)) := remK8 (m := n / 8) (k := 4) (by omega)
    have r42 : aint .rem .i64 ((n / 4 : Nat) : Int) 2 = some (.int .i64 ((n / 4 % 2 : Nat) : Int)) := remK8 (m := n / 4) (k := 2) (by omega)
    have r322 : aint .rem .i64 ((n / 32 : Nat) : Int) 2 = some (.int .i64 ((n / 32 % 2 : Nat) : Int)) := remK8 (m := n / 32) (k := 2) (by omega)
    have rn2 : aint .rem .i64 ((n : Nat) : Int) 2 = some (.int .i64 ((n % 2 : Nat) : Int)) := remK8 (m := n) (k := 2) (by omega)
    have CS : ∀ {P : Prop},(flBad n → n % 2 = 1 → P) → (flBad n → ¬ n % 2 = 1 → n / 8 % 4 = 3 → P) → (flBad n → ¬ n % 2 = 1 → ¬ n / 8 % 4 = 3 → n / 4 % 2 = 0 → 0 < n / 8 % 4 → P) → (flBad n → ¬ n % 2 = 1 → ¬ n / 8 % 4 = 3 → n / 4 % 2 = 0 → ¬ 0 < n / 8 % 4 → n / 32 % 2 = 1 → P) → (¬ flBad n → ¬ n % 2 = 1 → ¬ n / 8 % 4 = 3 → n / 4 % 2 = 0 → ¬ 0 < n / 8 % 4 → ¬ n / 32 % 2 = 1 → P) → (¬ flBad n → ¬ n % 2 = 1 → ¬ n / 8 % 4 = 3 → ¬ n / 4 % 2 = 0 → P) → P := fun a b c d e f => by
     unfold flBad at a b c d e f
     by_cases h1 : n % 2 = 1
     ·exact a (.inl h1) h1
     by_cases h2 : n / 8 % 4 = 3
     ·exact b (.inr (.inl h2)) h1 h2
     by_cases h3 : n / 4 % 2 = 0
     ·by_cases h4 : 0 < n / 8 % 4
      ·exact c (by omega) h1 h2 h3 h4
      ·by_cases h5 : n / 32 % 2 = 1
       ·exact d (by omega) h1 h2 h3 h4 h5
       ·exact e (by omega) h1 h2 h3 h4 h5
     ·exact f (by omega) h1 h2 h3
    have G1 : ∀ {a b : Nat},a = b → (a : Int) = (b : Int) := fun h => by rw [h]
    have G0 : ∀ {a b : Nat},¬ a = b → ¬ (a : Int) = (b : Int) := fun h => by omega
    refine CS (fun hb h1 => ?_) (fun hb h1 h2 => ?_) (fun hb h1 h2 h3 h4 => ?_) (fun hb h1 h2 h3 h4 h5 => ?_) (fun hb h1 h2 h3 h4 h5 => ?_) fun hb h1 h2 h3 => ?_
    focus
     have g1 : ((n % 2 : Nat) : Int) = 1 := G1 h1
     simp only [↓sbD,sbU,tyB,decide_false,↓reduceIte,Nat.reduceEqDiff,Nat.reduceLT,reduceCtorEq,isConst,i3',q8,r84,rn2,g1]
    rotate_left
    focus
     have g1 : ¬ ((n % 2 : Nat) : Int) = 1 := G0 h1
     have g2 : ((n / 8 % 4 : Nat) : Int) = 3 := G1 h2
     simp only [↓sbD,sbU,tyB,decide_false,↓reduceIte,Nat.reduceEqDiff,Nat.reduceLT,reduceCtorEq,isConst,i3',q8,r84,rn2,g1,g2]
    rotate_left
    focus
     have g1 : ¬ ((n % 2 : Nat) : Int) = 1 := G0 h1
     have g2 : ¬ ((n / 8 % 4 : Nat) : Int) = 3 := G0 h2
     have g3 : ((n / 4 % 2 : Nat) : Int) = 0 := G1 h3
     have g4 : (0 : Int) < ((n / 8 % 4 : Nat) : Int) := by omega
     simp only [↓sbD,sbU,tyB,decide_false,↓reduceIte,Nat.reduceEqDiff,Nat.reduceLT,reduceCtorEq,isConst,i3',q8,q4,r84,r42,rn2,g1,g2,g3,g4]
    rotate_left
    focus
     have g1 : ¬ ((n % 2 : Nat) : Int) = 1 := G0 h1
     have g2 : ¬ ((n / 8 % 4 : Nat) : Int) = 3 := G0 h2
     have g3 : ((n / 4 % 2 : Nat) : Int) = 0 := G1 h3
     have g4 : ¬ (0 : Int) < ((n / 8 % 4 : Nat) : Int) := by omega
     have g5 : ((n / 32 % 2 : Nat) : Int) = 1 := G1 h5
     simp only [↓sbD,sbU,tyB,decide_false,↓reduceIte,Nat.reduceEqDiff,Nat.reduceLT,reduceCtorEq,isConst,i3',q8,q4,q32,r84,r42,r322,rn2,g1,g2,g3,g4,g5]
    rotate_left
    focus
     have g1 : ¬ ((n % 2 : Nat) : Int) = 1 := G0 h1
     have g2 : ¬ ((n / 8 % 4 : Nat) : Int) = 3 := G0 h2
     have g3 : ((n / 4 % 2 : Nat) : Int) = 0 := G1 h3
     have g4 : ¬ (0 : Int) < ((n / 8 % 4 : Nat) : Int) := by omega
     have g5 : ¬ ((n / 32 % 2 : Nat) : Int) = 1 := G0 h5
     simp only [↓sbD,sbU,tyB,decide_false,↓reduceIte,Nat.reduceEqDiff,Nat.reduceLT,Nat.reduceAdd,Nat.reduceLeDiff,reduceCtorEq,pairs,isConst,splice,ZV.val,i3',q8,q4,q32,r84,r42,r322,rn2,g1,g2,g3,g4,g5,gc3,res_cellc,resC_some]
    rotate_left
    focus
     have g1 : ¬ ((n % 2 : Nat) : Int) = 1 := G0 h1
     have g2 : ¬ ((n / 8 % 4 : Nat) : Int) = 3 := G0 h2
     have g3 : ¬ ((n / 4 % 2 : Nat) : Int) = 0 := G0 h3
     simp only [↓sbD,sbU,tyB,decide_false,↓reduceIte,Nat.reduceEqDiff,Nat.reduceLT,Nat.reduceAdd,Nat.reduceLeDiff,reduceCtorEq,pairs,isConst,splice,ZV.val,i3',q8,q4,r84,r42,rn2,g1,g2,g3,gc3,res_cellc,resC_some]
    rotate_left
    all_goals
     simp only [hb,if_true,if_false] at hok hbad
     first
      | exact downS_here (hok _ _ rfl _ (FIN K3) (r3.set hcr))
      | (refine specKBad (n := 7) ?_
         simp only [↓sbD,sbU,tyB,↓reduceIte,Nat.reduceEqDiff,Nat.reduceLT,Nat.reduceAdd,Nat.reduceLeDiff,splice,gc3,res_cellc,resC_some]
         exact downS_here (hbad 2 129 7 rfl (by omega) _ (FIN K3)))
theorem specDKoDec {f : Int} (hs : s.size ≤ 100000000)
  (hok : ∀ p,DecK f s (.ok p) → ∀ v σ',PkV p v → Kept σ [] σ' [] → Q (.tuple #[v,flt 0 0 0]) σ')
  (hbad : ∀ k rr a : Nat,DecK f s (.error (k,rr,a)) → k ≠ 0 → ∀ σ',Kept σ [] σ' [] → Q (.tuple #[.agg ⟨zeL⟩,flt k rr a]) σ') :
  CallS E B 73 [.agg ⟨[.int .i64 f,.string s]⟩] σ Q := by
 unfold DecK at hok hbad
 refine call73 (by simp) ?_
 simp only [strip,bodyOf,Tryz.f73,getD_body,keepN,bareOp_mk,lessOp_mk,lapp_cons,lapp_nil,List.map_cons,List.map_nil,↓reduceIte,Nat.reduceEqDiff,Bool.false_eq_true]
 by_cases h1 : f = 16
 rotate_left
 ·simp only [if_pos (show f ≠ 16 from h1)] at hbad
  simp (disch := first | assumption | simp) only [↓sbD,sbU,tyB,↓reduceIte,Nat.reduceEqDiff,Nat.reduceLT,reduceCtorEq,pairs,isConst,boxS,Edp,dpv,ZV.val,AS_new,zePk,zeFlt,h1]
  intro b hb c hc
  have hcb : c ≠ b := by rintro rfl; rw [AHeap.get_set_same] at hc; cases hc
  have hcd : σ.get c = .dead := by rw [AHeap.get_set_ne _ _ hcb.symm] at hc; exact hc
  have cb : ∀ (τ : AHeap) o,(AHeap.set τ c o).get b = τ.get b := fun τ o => AHeap.get_set_ne _ _ hcb
  have bc : ∀ (τ : AHeap) o,(AHeap.set τ b o).get c = τ.get c := fun τ o => AHeap.get_set_ne _ _ hcb.symm
  clear hc
  refine specKBad (n := 0) ?_
  simp (disch := first | assumption | simp) only [↓sbD,sbU,tyB,↓reduceIte,Nat.reduceEqDiff,Nat.reduceLT,Nat.reduceAdd,Nat.reduceLeDiff,splice,bc,cb,res_cellc,resC_some]
  exact downS_here (hbad 2 129 0 rfl (by omega) _ (((((Kept.refl σ []).setD hb).setD hcd).setD hb).setD hcd))
 simp only [if_neg (show ¬ f ≠ 16 from fun h => h h1)] at hok hbad
 simp (disch := first | assumption | simp) only [↓sbD,sbU,tyB,decide_false,↓reduceIte,Nat.reduceEqDiff,Nat.reduceLT,Nat.reduceAdd,Nat.reduceLeDiff,reduceCtorEq,pairs,isConst,splice,boxS,Edp,dpv,ZV.val,AS_new,zePk,zeFlt,h1]
 intro b hb c hc
 have hcb : c ≠ b := by rintro rfl; rw [AHeap.get_set_same] at hc; cases hc
 have hcd : σ.get c = .dead := by rw [AHeap.get_set_ne _ _ hcb.symm] at hc; exact hc
 have cb : ∀ (τ : AHeap) o,(AHeap.set τ c o).get b = τ.get b := fun τ o => AHeap.get_set_ne _ _ hcb
 have bc : ∀ (τ : AHeap) o,(AHeap.set τ b o).get c = τ.get c := fun τ o => AHeap.get_set_ne _ _ hcb.symm
 clear hc
 generalize hσ1 : AHeap.set (AHeap.set σ b _) c _ = σ1
 have k1 : Kept σ [] σ1 [] := by rw [← hσ1]; exact ((Kept.refl σ []).setD hb).setD hcd
 have gb1 : σ1.get b = .cells zeL true 0 := by rw [← hσ1,cb]; exact AHeap.get_set_same _ _ _
 have gc1 : σ1.get c = .cells [.int .i64 0,.int .i64 0,.int .i64 0] true 0 := by rw [← hσ1]; exact AHeap.get_set_same _ _ _
 clear hσ1
 have FIN : ∀ {τ : AHeap} {o o' : AObj},Kept σ1 [] τ [] → Kept σ [] ((τ.set b o).set c o') [] := fun kt => ((k1.trans kt).setD hb).setD hcd
 simp (disch := first | assumption | simp) only [↓sbD,sbU,Bool.false_eq_true,↓reduceIte,Nat.reduceLT,Bool.false_and,AS_new,dpRd]
 intro x hx
 have hbx : b ≠ x := (nd hx gb1 (by simp)).symm
 have hcx : c ≠ x := (nd hx gc1 (by simp)).symm
 generalize hσ2 : AHeap.set σ1 x _ = σ2
 have k2 : Kept σ1 [] σ2 [x] := by rw [← hσ2]; exact Kept.new' hx
 have r2 : IsYS σ2 x s (.ok 0) := ⟨Nat.zero_le _,by rw [← hσ2]; exact AHeap.get_set_same _ _ _⟩
 clear hσ2
 try simp (disch := first | assumption | simp) only [↓sbD,sbU,tyB,Nat.reduceMul,Nat.reduceSub,Int.reduceEq,Int.reduceLT,Int.reduceLE,Int.reduceNe,Nat.reduceBneDiff,Nat.reduceBEq,decide_false,gt_iff_lt,Bool.or_self,Bool.false_eq_true,Nat.mul_one,Nat.one_mul,Nat.zero_mul,↓reduceIte,Nat.reduceEqDiff,Nat.reduceLT,Nat.reduceAdd,Nat.reduceLeDiff,reduceCtorEq,goInt,pairs,isConst,TI.isAgg,splice,boxS,Edp,dpv,Nat.beq_eq,ZV.val,List.any_cons,List.any_nil,Bool.false_and]
 refine specDKoHead r2 hs (fun n p hh σ3 k3 r3 => ?_) fun k rr a hh hk σ3 k3 => ?_
 rotate_left
 ·rw [hh] at hbad
  simp only at hbad
  have K3 := k2.trans k3
  have gb3 := (K3.at gb1 (by simp) (by simp)).1
  have gc3 := (K3.at gc1 (by simp) (by simp)).1
  simp only [zeL,pkC,pkz] at gb3
  have T3 := K3.wid (gp := []) (gp' := []) (fun _ h => by cases h) (fun _ h => by cases h)
  have hk0 : ¬ (k : Int) = 0 := by omega
  simp (disch := first | assumption | simp) only [↓sbD,sbU,tyB,↓reduceIte,Nat.reduceEqDiff,Nat.reduceLT,Nat.reduceAdd,Nat.reduceLeDiff,reduceCtorEq,isConst,splice,AS_new,zeFlt]
  intro g hg
  have hgb : b ≠ g := (nd hg gb3 (by simp)).symm
  have hgc : c ≠ g := (nd hg gc3 (by simp)).symm
  have gb : ∀ (τ : AHeap) o,(AHeap.set τ g o).get b = τ.get b := fun τ o => AHeap.get_set_ne _ _ hgb.symm
  have gc : ∀ (τ : AHeap) o,(AHeap.set τ g o).get c = τ.get c := fun τ o => AHeap.get_set_ne _ _ hgc.symm
  have bg : ∀ (τ : AHeap) o,(AHeap.set τ b o).get g = τ.get g := fun τ o => AHeap.get_set_ne _ _ hgb
  simp (disch := first | assumption | simp) only [↓sbD,sbU,tyB,↓reduceIte,Nat.reduceEqDiff,Nat.reduceLT,Nat.reduceAdd,Nat.reduceLeDiff,pairs,splice,ZV.val,gb,gc,bc,gb3,gc3,hk0]
  refine drawS_l (fl := [(1,2)]) (by kernel_rfl) ?_ ?_
  rotate_left; simp only [lastP_cc,lastP_one]; rotate_left
  ·simp only [List.all_cons,List.all_nil,floatS,List.getElem?_cons_succ,List.getElem?_cons_zero,List.getElem?_toArray,Region.wanted,Bool.not_true,Bool.not_false,Bool.or_true,reads,looksWeak,aev_tmp,upd_at,↓reduceIte,Nat.reduceEqDiff,Nat.reduceLT,Nat.reduceAdd,blkOf,oeq_refl,dead_cells,Bool.and_self,Bool.false_eq_true,Bool.not_false,bg,AHeap.get_set_same]
   try rfl
  simp (disch := first | assumption | simp) only [↓sbD,sbU,tyB,↓reduceIte,Nat.reduceEqDiff,Nat.reduceLT,Nat.reduceAdd,Nat.reduceLeDiff,cb,res_cellc,resC_some]
  exact downS_here (hbad k rr a rfl hk _ (FIN (T3.trans (((Kept.refl _ []).setD hg).setD hg))))
 rw [hh] at hok hbad
 simp only at hok hbad
 obtain ⟨hn,-,-⟩ := headS_ok hh
 have q8 : aint .quo .i64 ((n : Nat) : Int) 8 = some (.int .i64 ((n / 8 : Nat) : Int)) := quoK8 (m := n) (k := 8) (by omega) (by omega)
 have q4 : aint .quo .i64 ((n : Nat) : Int) 4 = some (.int .i64 ((n / 4 : Nat) : Int)) := quoK8 (m := n) (k := 4) (by omega) (by omega)
 have q32 : aint .quo .i64 ((n : Nat) : Int) 32 = some (.int .i64 ((n / 32 : Nat) : Int)) := quoK8 (m := n) (k := 32) (by omega) (by omega)
 have r84 : aint .rem .i64 ((n / 8 : Nat) : Int) 4 = some (.int .i64 ((n / 8 % 4 : Nat) : Int)) := remK8 (m := n / 8) (k := 4) (by omega)
 have r42 : aint .rem .i64 ((n / 4 : Nat) : Int) 2 = some (.int .i64 ((n / 4 % 2 : Nat) : Int)) := remK8 (m := n / 4) (k := 2) (by omega)
 have r322 : aint .rem .i64 ((n / 32 : Nat) : Int) 2 = some (.int .i64 ((n / 32 % 2 : Nat) : Int)) := remK8 (m := n / 32) (k := 2) (by omega)
 have rn2 : aint .rem .i64 ((n : Nat) : Int) 2 = some (.int .i64 ((n % 2 : Nat) : Int)) := remK8 (m := n) (k := 2) (by omega)
 have q2 : aint .quo .i64 ((n : Nat) : Int) 2 = some (.int .i64 ((n / 2 : Nat) : Int)) := quoK8 (m := n) (k := 2) (by omega) (by omega)
 have q128 : aint .quo .i64 ((n : Nat) : Int) 128 = some (.int .i64 ((n / 128 : Nat) : Int)) := quoK8 (m := n) (k := 128) (by omega) (by omega)
 have q64 : aint .quo .i64 ((n : Nat) : Int) 64 = some (.int .i64 ((n / 64 : Nat) : Int)) := quoK8 (m := n) (k := 64) (by omega) (by omega)
 have r22 : aint .rem .i64 ((n / 2 : Nat) : Int) 2 = some (.int .i64 ((n / 2 % 2 : Nat) : Int)) := remK8 (m := n / 2) (k := 2) (by omega)
 have r642 : aint .rem .i64 ((n / 64 : Nat) : Int) 2 = some (.int .i64 ((n / 64 % 2 : Nat) : Int)) := remK8 (m := n / 64) (k := 2) (by omega)
 have e2 : decide (((n / 2 % 2 : Nat) : Int) = 1) = decide (n / 2 % 2 = 1) := decI (by omega)
 have e128 : decide (((n / 128 : Nat) : Int) = 1) = decide (n / 128 = 1) := decI (by omega)
 have e64 : decide (((n / 64 % 2 : Nat) : Int) = 1) = decide (n / 64 % 2 = 1) := decI (by omega)
 have e32 : decide (((n / 32 % 2 : Nat) : Int) = 1) = decide (n / 32 % 2 = 1) := decI (by omega)
 have K3 := k2.trans k3
 have gb3 := (K3.at gb1 (by simp) (by simp)).1
 have gc3 := (K3.at gc1 (by simp) (by simp)).1
 simp only [zeL,pkC,pkz] at gb3
 have T3 := K3.wid (gp := []) (gp' := []) (fun _ h => by cases h) (fun _ h => by cases h)
 simp (disch := first | assumption | simp) only [↓sbD,sbU,tyB,decide_false,↓reduceIte,Nat.reduceEqDiff,Nat.reduceLT,Nat.reduceAdd,Nat.reduceLeDiff,reduceCtorEq,isConst,splice,AS_new,zeFlt]
 intro g hg
 have hgb : b ≠ g := (nd hg gb3 (by simp)).symm
 have hgc : c ≠ g := (nd hg gc3 (by simp)).symm
 have gb : ∀ (τ : AHeap) o,(AHeap.set τ g o).get b = τ.get b := fun τ o => AHeap.get_set_ne _ _ hgb.symm
 have gc : ∀ (τ : AHeap) o,(AHeap.set τ g o).get c = τ.get c := fun τ o => AHeap.get_set_ne _ _ hgc.symm
 have bg : ∀ (τ : AHeap) o,(AHeap.set τ b o).get g = τ.get g := fun τ o => AHeap.get_set_ne _ _ hgb
 generalize hσ4 : AHeap.set (AHeap.set σ3 g _) g _ = σ4
 have k4 : Kept σ3 [] σ4 [] := by rw [← hσ4]; exact ((Kept.refl _ []).setD hg).setD hg
 have gg4 : σ4.get g = .cells [.int .i64 0,.int .i64 0,.int .i64 0] true 0 := by rw [← hσ4]; exact AHeap.get_set_same _ _ _
 clear hσ4
 have K4 := K3.trans (k4.wid (gp := [x]) (gp' := [x]) (fun _ h => by cases h) (fun _ h => .inr h))
 have r4 := r3.kept k4 (by simp)
 simp (disch := first | assumption | simp) only [↓sbD,sbU,tyB,↓reduceIte,Nat.reduceEqDiff,Nat.reduceLT,Nat.reduceAdd,Nat.reduceLeDiff,pairs,isConst,splice,ZV.val,AS_new,zePk,q2,r22,q128,q64,r642]
 intro y hy
 have hyx : y ≠ x := by rintro rfl; exact r4.alive hy
 generalize hσ5 : AHeap.set (AHeap.set σ4 y _) y _ = σ5
 have M5 : Kept σ4 [x] σ5 [x] := by rw [← hσ5]; exact ((Kept.refl _ _).setD hy).setD hy
 have r5 := r4.kept (show Kept σ4 [] σ5 [] by rw [← hσ5]; exact ((Kept.refl _ []).setD hy).setD hy) (by simp)
 have gy5 : σ5.get y = .cells [.int .i64 1,.int .i64 0,.int .i64 0,.slice none 0 0,.bool (decide (n / 2 % 2 = 1)),.int .i64 0,.string emp,.bool false,.string emp,.string emp,.int .i64 0,.bool false,.slice none 0 0,.bool (decide (n / 128 = 1)),.string emp,.bool (decide (n / 64 % 2 = 1)),.string emp,.bool false,.string emp,.string emp,.int .i64 0,.bool false,.bool false,.slice none 0 0,.slice none 0 0,.slice none 0 0] true 0 := by rw [← hσ5,← e2,← e128,← e64]; exact AHeap.get_set_same _ _ _
 clear hσ5
 try simp (disch := first | assumption | simp) only [↓sbD,sbU,tyB,Nat.reduceMul,Nat.reduceSub,Int.reduceEq,Int.reduceLT,Int.reduceLE,Int.reduceNe,Nat.reduceBneDiff,Nat.reduceBEq,decide_false,gt_iff_lt,Bool.or_self,Bool.false_eq_true,Nat.mul_one,Nat.one_mul,Nat.zero_mul,↓reduceIte,Nat.reduceEqDiff,Nat.reduceLT,Nat.reduceAdd,Nat.reduceLeDiff,reduceCtorEq,goInt,pairs,isConst,TI.isAgg,splice,boxS,Edp,dpv,Nat.beq_eq,ZV.val,List.any_cons,List.any_nil,Bool.false_and]
 refine specZU16 r5 hs fun σ6 k6 r6 => ?_
 obtain ⟨kp,st2,hU⟩ : ∃ kp st2,u16S s (.ok p) = (kp,st2) := ⟨_,_,rfl⟩
 simp only [hU] at hok hbad r6 ⊢
 have M6 := M5.trans k6
 have gy6 := (k6.at gy5 (by simp) (by simp [hyx])).1
 simp (disch := first | assumption | simp) only [↓sbD,sbU,tyB,↓reduceIte,Nat.reduceEqDiff,Nat.reduceLT,Nat.reduceAdd,Nat.reduceLeDiff,reduceCtorEq,splice,gy6]
 generalize hσ7 : AHeap.set σ6 y _ = σ7
 have M7 : Kept σ4 [x] σ7 [x] := by rw [← hσ7]; exact M6.setD hy
 have r7 := r6.kept (show Kept σ6 [y] σ7 [y] by rw [← hσ7]; exact Kept.set (by simp)) (by simp [Ne.symm hyx])
 have gy7 : σ7.get y = .cells [.int .i64 1,.int .i64 0,.int .i64 0,.slice none 0 0,.bool (decide (n / 2 % 2 = 1)),.int .i64 (kp : Int),.string emp,.bool false,.string emp,.string emp,.int .i64 0,.bool false,.slice none 0 0,.bool (decide (n / 128 = 1)),.string emp,.bool (decide (n / 64 % 2 = 1)),.string emp,.bool false,.string emp,.string emp,.int .i64 0,.bool false,.bool false,.slice none 0 0,.slice none 0 0,.slice none 0 0] true 0 := by
  rw [← hσ7]
  first
   | exact AHeap.get_set_same _ _ _
   | (rw [du]; exact AHeap.get_set_same _ _ _)
   | (rw [dp]; exact AHeap.get_set_same _ _ _)
   | (rw [du,dp]; exact AHeap.get_set_same _ _ _)
 clear hσ7
 try simp (disch := first | assumption | simp) only [↓sbD,sbU,tyB,Nat.reduceMul,Nat.reduceSub,Int.reduceEq,Int.reduceLT,Int.reduceLE,Int.reduceNe,Nat.reduceBneDiff,Nat.reduceBEq,decide_false,gt_iff_lt,Bool.or_self,Bool.false_eq_true,Nat.mul_one,Nat.one_mul,Nat.zero_mul,↓reduceIte,Nat.reduceEqDiff,Nat.reduceLT,Nat.reduceAdd,Nat.reduceLeDiff,reduceCtorEq,goInt,pairs,isConst,TI.isAgg,splice,boxS,Edp,dpv,Nat.beq_eq,ZV.val,List.any_cons,List.any_nil,Bool.false_and]
 refine specZRead r7 hs (fun l q hrd v σ8 hv k8 r8 => ?_) fun k rr a hrd hk σ8 k8 => ?_
 all_goals
  have M8 := M7.trans k8
  have gy8 := (k8.at gy7 (by simp) (by simp [hyx])).1
  have K8 := K4.trans M8
  have gb8 := (K8.at gb1 (by simp) (by simp)).1
  have gc8 := (K8.at gc1 (by simp) (by simp)).1
  simp only [zeL,pkC,pkz] at gb8
  have T8 := K8.wid (gp := []) (gp' := []) (fun _ h => by cases h) (fun _ h => by cases h)
 rotate_left
 ·have hk0 : ¬ (k : Int) = 0 := by omega
  simp (disch := first | assumption | simp) only [↓sbD,sbU,tyB,↓reduceIte,Nat.reduceEqDiff,Nat.reduceLT,Nat.reduceAdd,Nat.reduceLeDiff,reduceCtorEq,isConst,splice,AS_new,zeFlt]
  intro g hg
  have hgb : b ≠ g := (nd hg gb8 (by simp)).symm
  have hgc : c ≠ g := (nd hg gc8 (by simp)).symm
  have gb : ∀ (τ : AHeap) o,(AHeap.set τ g o).get b = τ.get b := fun τ o => AHeap.get_set_ne _ _ hgb.symm
  have gc : ∀ (τ : AHeap) o,(AHeap.set τ g o).get c = τ.get c := fun τ o => AHeap.get_set_ne _ _ hgc.symm
  have bg : ∀ (τ : AHeap) o,(AHeap.set τ b o).get g = τ.get g := fun τ o => AHeap.get_set_ne _ _ hgb
  simp (disch := first | assumption | simp) only [↓sbD,sbU,tyB,↓reduceIte,Nat.reduceEqDiff,Nat.reduceLT,Nat.reduceAdd,Nat.reduceLeDiff,pairs,splice,ZV.val,gb,gc,bc,gb8,gc8,hk0]
  refine drawS_l (fl := [(1,2)]) (by kernel_rfl) ?_ ?_
  rotate_left; simp only [lastP_cc,lastP_one]; rotate_left
  ·simp only [List.all_cons,List.all_nil,floatS,List.getElem?_cons_succ,List.getElem?_cons_zero,List.getElem?_toArray,Region.wanted,Bool.not_true,Bool.not_false,Bool.or_true,reads,looksWeak,aev_tmp,upd_at,↓reduceIte,Nat.reduceEqDiff,Nat.reduceLT,Nat.reduceAdd,blkOf,oeq_refl,dead_cells,Bool.and_self,Bool.false_eq_true,Bool.not_false,bg,AHeap.get_set_same]
   try rfl
  simp (disch := first | assumption | simp) only [↓sbD,sbU,tyB,↓reduceIte,Nat.reduceEqDiff,Nat.reduceLT,Nat.reduceAdd,Nat.reduceLeDiff,cb,res_cellc,resC_some]
  exact downS_here (hbad k rr a ⟨_,hrd,rfl⟩ hk _ (FIN (T8.trans (((Kept.refl _ []).setD hg).setD hg))))
 simp (disch := first | assumption | simp) only [↓sbD,sbU,tyB,decide_false,↓reduceIte,Nat.reduceEqDiff,Nat.reduceLT,Nat.reduceAdd,Nat.reduceLeDiff,reduceCtorEq,isConst,splice,AS_new,zeFlt]
 intro g hg
 have hgb : b ≠ g := (nd hg gb8 (by simp)).symm
 have hgc : c ≠ g := (nd hg gc8 (by simp)).symm
 have gb : ∀ (τ : AHeap) o,(AHeap.set τ g o).get b = τ.get b := fun τ o => AHeap.get_set_ne _ _ hgb.symm
 have gc : ∀ (τ : AHeap) o,(AHeap.set τ g o).get c = τ.get c := fun τ o => AHeap.get_set_ne _ _ hgc.symm
 have bg : ∀ (τ : AHeap) o,(AHeap.set τ b o).get g = τ.get g := fun τ o => AHeap.get_set_ne _ _ hgb
 generalize hσ9 : AHeap.set (AHeap.set σ8 g _) g _ = σ9
 have k9 : Kept σ8 [] σ9 [] := by rw [← hσ9]; exact ((Kept.refl _ []).setD hg).setD hg
 have gg9 : σ9.get g = .cells [.int .i64 0,.int .i64 0,.int .i64 0] true 0 := by rw [← hσ9]; exact AHeap.get_set_same _ _ _
 clear hσ9
 have M9 := M8.trans (k9.wid (gp := [x]) (gp' := [x]) (fun _ h => by cases h) (fun _ h => .inr h))
 have gy9 := (k9.at gy8 (by simp) (by simp)).1
 have r9 := r8.kept k9 (by simp)
 have hvc := dl_vc hv
 simp (disch := first | assumption | simp) only [↓sbD,sbU,↓reduceIte,Nat.reduceEqDiff,Nat.reduceLT,Nat.reduceAdd,Nat.reduceLeDiff,splice,gy9,hvc.1,hvc.2]
 generalize hσ10 : AHeap.set σ9 y _ = σ10
 have M10 : Kept σ4 [x] σ10 [x] := by rw [← hσ10]; exact M9.setD hy
 have r10 := r9.kept (show Kept σ9 [y] σ10 [y] by rw [← hσ10]; exact Kept.set (by simp)) (by simp [Ne.symm hyx])
 have gy10 : σ10.get y = .cells [.int .i64 1,.int .i64 0,.int .i64 0,v,.bool (decide (n / 2 % 2 = 1)),.int .i64 (kp : Int),.string emp,.bool false,.string emp,.string emp,.int .i64 0,.bool false,.slice none 0 0,.bool (decide (n / 128 = 1)),.string emp,.bool (decide (n / 64 % 2 = 1)),.string emp,.bool false,.string emp,.string emp,.int .i64 0,.bool false,.bool false,.slice none 0 0,.slice none 0 0,.slice none 0 0] true 0 := by
  rw [← hσ10]
  first
   | exact AHeap.get_set_same _ _ _
   | (rw [du]; exact AHeap.get_set_same _ _ _)
   | (rw [dp]; exact AHeap.get_set_same _ _ _)
   | (rw [du,dp]; exact AHeap.get_set_same _ _ _)
 clear hσ10
 try simp (disch := first | assumption | simp) only [↓sbD,sbU,tyB,Nat.reduceMul,Nat.reduceSub,Int.reduceEq,Int.reduceLT,Int.reduceLE,Int.reduceNe,Nat.reduceBneDiff,Nat.reduceBEq,decide_false,gt_iff_lt,Bool.or_self,Bool.false_eq_true,Nat.mul_one,Nat.one_mul,Nat.zero_mul,↓reduceIte,Nat.reduceEqDiff,Nat.reduceLT,Nat.reduceAdd,Nat.reduceLeDiff,reduceCtorEq,goInt,pairs,isConst,TI.isAgg,splice,boxS,Edp,dpv,Nat.beq_eq,ZV.val,List.any_cons,List.any_nil,Bool.false_and]
 refine specZText r10 hs fun σ11 k11 r11 => ?_
 obtain ⟨cl,st3,hC⟩ : ∃ cl st3,textS s (.ok q) = (cl,st3) := ⟨_,_,rfl⟩
 simp only [hC] at r11 ⊢
 have M11 := M10.trans k11
 have gy11 := (k11.at gy10 (by simp) (by simp [hyx])).1
 simp (disch := first | assumption | simp) only [↓sbD,sbU,tyB,↓reduceIte,Nat.reduceEqDiff,Nat.reduceLT,Nat.reduceAdd,Nat.reduceLeDiff,reduceCtorEq,isConst,splice,gy11]
 generalize hσ12 : AHeap.set σ11 y _ = σ12
 have M12 : Kept σ4 [x] σ12 [x] := by rw [← hσ12]; exact M11.setD hy
 have r12 := r11.kept (show Kept σ11 [y] σ12 [y] by rw [← hσ12]; exact Kept.set (by simp)) (by simp [Ne.symm hyx])
 have gy12 : σ12.get y = .cells [.int .i64 1,.int .i64 0,.int .i64 0,v,.bool (decide (n / 2 % 2 = 1)),.int .i64 (kp : Int),.string cl,.bool false,.string emp,.string emp,.int .i64 0,.bool false,.slice none 0 0,.bool (decide (n / 128 = 1)),.string emp,.bool (decide (n / 64 % 2 = 1)),.string emp,.bool false,.string emp,.string emp,.int .i64 0,.bool false,.bool false,.slice none 0 0,.slice none 0 0,.slice none 0 0] true 0 := by
  rw [← hσ12]
  first
   | exact AHeap.get_set_same _ _ _
   | (rw [du]; exact AHeap.get_set_same _ _ _)
   | (rw [dp]; exact AHeap.get_set_same _ _ _)
   | (rw [du,dp]; exact AHeap.get_set_same _ _ _)
 clear hσ12
 have hok' : ∀ p,willK n s st3 (coP n kp l cl) (.ok p) → ∀ v σ',PkV p v → Kept σ [] σ' [] → Q (.tuple #[v,flt 0 0 0]) σ' := fun p h => hok p ⟨_,hrd,by simp only [hC]; exact h⟩
 have hbad' : ∀ k rr a : Nat,willK n s st3 (coP n kp l cl) (.error (k,rr,a)) → k ≠ 0 → ∀ σ',Kept σ [] σ' [] → Q (.tuple #[.agg ⟨zeL⟩,flt k rr a]) σ' := fun k rr a h => hbad k rr a ⟨_,hrd,by simp only [hC]; exact h⟩
 clear hok hbad hC hrd
 unfold willK at hok' hbad'
 by_cases h4 : n / 4 % 2 = 1
 focus
  simp only [if_pos h4] at hok' hbad'
  have g4 : ((n / 4 % 2 : Nat) : Int) = 1 := by omega
  simp (disch := first | assumption | simp) only [↓sbD,sbU,↓reduceIte,Nat.reduceEqDiff,Nat.reduceLT,isConst,q4,r42,g4]
  refine specZRead r12 hs (fun m q2 hrd vm σ13 hvm k13 r13 => ?_) fun k rr a hrd hk σ13 k13 => ?_
  all_goals
   have M13 := M12.trans k13
   have gy13 := (k13.at gy12 (by simp) (by simp [hyx])).1
   have K13 := K4.trans M13
   have gb13 := (K13.at gb1 (by simp) (by simp)).1
   have gc13 := (K13.at gc1 (by simp) (by simp)).1
   simp only [zeL,pkC,pkz] at gb13
   have T13 := K13.wid (gp := []) (gp' := []) (fun _ h => by cases h) (fun _ h => by cases h)
  rotate_left
  ·have hk0 : ¬ (k : Int) = 0 := by omega
   simp (disch := first | assumption | simp) only [↓sbD,sbU,tyB,↓reduceIte,Nat.reduceEqDiff,Nat.reduceLT,Nat.reduceAdd,Nat.reduceLeDiff,reduceCtorEq,isConst,splice,AS_new,zeFlt]
   intro g hg
   have hgb : b ≠ g := (nd hg gb13 (by simp)).symm
   have hgc : c ≠ g := (nd hg gc13 (by simp)).symm
   have gb : ∀ (τ : AHeap) o,(AHeap.set τ g o).get b = τ.get b := fun τ o => AHeap.get_set_ne _ _ hgb.symm
   have gc : ∀ (τ : AHeap) o,(AHeap.set τ g o).get c = τ.get c := fun τ o => AHeap.get_set_ne _ _ hgc.symm
   have bg : ∀ (τ : AHeap) o,(AHeap.set τ b o).get g = τ.get g := fun τ o => AHeap.get_set_ne _ _ hgb
   simp (disch := first | assumption | simp) only [↓sbD,sbU,tyB,↓reduceIte,Nat.reduceEqDiff,Nat.reduceLT,Nat.reduceAdd,Nat.reduceLeDiff,pairs,splice,ZV.val,gb,gc,bc,gb13,gc13,hk0]
   refine drawS_l (fl := [(1,2)]) (by kernel_rfl) ?_ ?_
   rotate_left; simp only [lastP_cc,lastP_one]; rotate_left
   ·simp only [List.all_cons,List.all_nil,floatS,List.getElem?_cons_succ,List.getElem?_cons_zero,List.getElem?_toArray,Region.wanted,Bool.not_true,Bool.not_false,Bool.or_true,reads,looksWeak,aev_tmp,upd_at,↓reduceIte,Nat.reduceEqDiff,Nat.reduceLT,Nat.reduceAdd,blkOf,oeq_refl,dead_cells,Bool.and_self,Bool.false_eq_true,Bool.not_false,bg,AHeap.get_set_same]
    try rfl
   simp (disch := first | assumption | simp) only [↓sbD,sbU,tyB,↓reduceIte,Nat.reduceEqDiff,Nat.reduceLT,Nat.reduceAdd,Nat.reduceLeDiff,cb,res_cellc,resC_some]
   exact downS_here (hbad' k rr a ⟨_,hrd,rfl⟩ hk _ (FIN (T13.trans (((Kept.refl _ []).setD hg).setD hg))))
  simp (disch := first | assumption | simp) only [↓sbD,sbU,tyB,decide_false,↓reduceIte,Nat.reduceEqDiff,Nat.reduceLT,Nat.reduceAdd,Nat.reduceLeDiff,reduceCtorEq,isConst,splice,AS_new,zeFlt]
  intro g hg
  have hgb : b ≠ g := (nd hg gb13 (by simp)).symm
  have hgc : c ≠ g := (nd hg gc13 (by simp)).symm
  have gb : ∀ (τ : AHeap) o,(AHeap.set τ g o).get b = τ.get b := fun τ o => AHeap.get_set_ne _ _ hgb.symm
  have gc : ∀ (τ : AHeap) o,(AHeap.set τ g o).get c = τ.get c := fun τ o => AHeap.get_set_ne _ _ hgc.symm
  have bg : ∀ (τ : AHeap) o,(AHeap.set τ b o).get g = τ.get g := fun τ o => AHeap.get_set_ne _ _ hgb
  generalize hσ14 : AHeap.set (AHeap.set σ13 g _) g _ = σ14
  have k14 : Kept σ13 [] σ14 [] := by rw [← hσ14]; exact ((Kept.refl _ []).setD hg).setD hg
  have gg14 : σ14.get g = .cells [.int .i64 0,.int .i64 0,.int .i64 0] true 0 := by rw [← hσ14]; exact AHeap.get_set_same _ _ _
  clear hσ14
  have M14 := M13.trans (k14.wid (gp := [x]) (gp' := [x]) (fun _ h => by cases h) (fun _ h => .inr h))
  have gy14 := (k14.at gy13 (by simp) (by simp)).1
  have r14 := r13.kept k14 (by simp)
  have hwm := dl_vc hvm
  try simp (disch := first | assumption | simp) only [↓sbD,sbU,tyB,Nat.reduceMul,Nat.reduceSub,Int.reduceEq,Int.reduceLT,Int.reduceLE,Int.reduceNe,Nat.reduceBneDiff,Nat.reduceBEq,decide_false,gt_iff_lt,Bool.or_self,Bool.false_eq_true,Nat.mul_one,Nat.one_mul,Nat.zero_mul,↓reduceIte,Nat.reduceEqDiff,Nat.reduceLT,Nat.reduceAdd,Nat.reduceLeDiff,reduceCtorEq,goInt,pairs,isConst,TI.isAgg,splice,boxS,Edp,dpv,Nat.beq_eq,ZV.val,List.any_cons,List.any_nil,Bool.false_and,gg14]
  refine specZText r14 hs fun σ15 k15 r15 => ?_
  obtain ⟨wt,st4,hW⟩ : ∃ wt st4,textS s (.ok q2) = (wt,st4) := ⟨_,_,rfl⟩
  simp only [hW] at r15 ⊢
  have M15 := M14.trans k15
  have gy15 := (k15.at gy14 (by simp) (by simp [hyx])).1
  simp (disch := first | assumption | simp) only [↓sbD,sbU,↓reduceIte,Nat.reduceEqDiff,Nat.reduceLT]
  refine specZBin r15 hs fun σ16 k16 r16 => ?_
  obtain ⟨wp,st5,hX⟩ : ∃ wp st5,binS s st4 = (wp,st5) := ⟨_,_,rfl⟩
  simp only [hX] at r16 ⊢
  have M16 := M15.trans k16
  have gy16 := (k16.at gy15 (by simp) (by simp [hyx])).1
  simp (disch := first | assumption | simp) only [↓sbD,sbU,tyB,↓reduceIte,Nat.reduceEqDiff,Nat.reduceLT,Nat.reduceAdd,Nat.reduceLeDiff,reduceCtorEq,pairs,isConst,splice,ZV.val,gy16,q8,r84,q32,r322,hwm.1,hwm.2]
  generalize hσ17 : AHeap.set σ16 y _ = σ17
  have M17 : Kept σ4 [x] σ17 [x] := by rw [← hσ17]; exact M16.setD hy
  have r17 := r16.kept (show Kept σ16 [y] σ17 [y] by rw [← hσ17]; exact Kept.set (by simp)) (by simp [Ne.symm hyx])
  have gy17 : σ17.get y = .cells [.int .i64 1,.int .i64 0,.int .i64 0,v,.bool (decide (n / 2 % 2 = 1)),.int .i64 (kp : Int),.string cl,.bool true,.string wt,.string wp,.int .i64 ((n / 8 % 4 : Nat) : Int),.bool (decide (n / 32 % 2 = 1)),vm,.bool (decide (n / 128 = 1)),.string emp,.bool (decide (n / 64 % 2 = 1)),.string emp,.bool false,.string emp,.string emp,.int .i64 0,.bool false,.bool false,.slice none 0 0,.slice none 0 0,.slice none 0 0] true 0 := by
   rw [← hσ17,← e32]
   first
    | exact AHeap.get_set_same _ _ _
    | (rw [du]; exact AHeap.get_set_same _ _ _)
    | (rw [dp]; exact AHeap.get_set_same _ _ _)
    | (rw [du,dp]; exact AHeap.get_set_same _ _ _)
  clear hσ17
  have hokF : ∀ p,finK n s st5 (coP n kp l cl (coW n wt wp m)) = .ok p → ∀ v σ',PkV p v → Kept σ [] σ' [] → Q (.tuple #[v,flt 0 0 0]) σ' := fun p h => hok' p ⟨_,hrd,by simp only [hW,hX]; exact h.symm⟩
  have hbadF : ∀ k rr a : Nat,finK n s st5 (coP n kp l cl (coW n wt wp m)) = .error (k,rr,a) → k ≠ 0 → ∀ σ',Kept σ [] σ' [] → Q (.tuple #[.agg ⟨zeL⟩,flt k rr a]) σ' := fun k rr a h => hbad' k rr a ⟨_,hrd,by simp only [hW,hX]; exact h.symm⟩
  have hwv : DL propC 4 vm (coW n wt wp m).props := hvm
  have hww : σ17.get y = .cells (pkC (coP n kp l cl (coW n wt wp m) emp emp) v vm (.slice none 0 0) (.slice none 0 0) (.slice none 0 0)) true 0 := gy17
  generalize coW n wt wp m = W at hokF hbadF hwv hww
  generalize st5 = stw at hokF hbadF r17
  clear hok' hbad' gy17 gy16 gy15 gy14 hrd
 rotate_left
 focus
  simp only [if_neg h4] at hok' hbad'
  have g4 : ¬ ((n / 4 % 2 : Nat) : Int) = 1 := by omega
  simp (disch := first | assumption | simp) only [↓sbD,sbU,tyB,decide_false,↓reduceIte,Nat.reduceEqDiff,Nat.reduceLT,reduceCtorEq,isConst,q4,r42,g4]
  have hokF : ∀ p,finK n s st3 (coP n kp l cl wlz) = .ok p → ∀ v σ',PkV p v → Kept σ [] σ' [] → Q (.tuple #[v,flt 0 0 0]) σ' := fun p h => hok' p h.symm
  have hbadF : ∀ k rr a : Nat,finK n s st3 (coP n kp l cl wlz) = .error (k,rr,a) → k ≠ 0 → ∀ σ',Kept σ [] σ' [] → Q (.tuple #[.agg ⟨zeL⟩,flt k rr a]) σ' := fun k rr a h => hbad' k rr a h.symm
  obtain ⟨vm,hwv,hwm,hww⟩ : ∃ vm,DL propC 4 vm wlz.props ∧ (vcells vm = [vm] ∧ oneCell vm = true) ∧ σ12.get y = .cells (pkC (coP n kp l cl wlz emp emp) v vm (.slice none 0 0) (.slice none 0 0) (.slice none 0 0)) true 0 := ⟨.slice none 0 0,.inl ⟨rfl,rfl⟩,⟨rfl,rfl⟩,gy12⟩
  obtain ⟨σ17,rfl⟩ : ∃ τ,τ = σ12 := ⟨_,rfl⟩
  have M17 := M12
  have r17 := r12
  generalize wlz = W at hokF hbadF hwv hww
  generalize st3 = stw at hokF hbadF r17
  clear hok' hbad'
 all_goals
  simp only [pkC,coP,pkz] at hww
  unfold finK at hokF hbadF
  by_cases hu : n / 128 = 1
  focus
   have du : decide (n / 128 = 1) = true := decide_eq_true hu
   simp (disch := first | assumption | simp) only [↓sbD,sbU,↓reduceIte,Nat.reduceEqDiff,Nat.reduceLT,hww,du]
   refine specZText r17 hs fun σ18 k18 r18 => ?_
   obtain ⟨us,st6,hY⟩ : ∃ us st6,textS s stw = (us,st6) := ⟨_,_,rfl⟩
   simp only [hY] at r18 ⊢
   have hUS : userS n s stw = (us,st6) := by unfold userS; rw [if_pos hu,hY]
   have M18 := M17.trans k18
   have gy18 := (k18.at hww (by simp) (by simp [hyx])).1
   simp (disch := first | assumption | simp) only [↓sbD,sbU,tyB,↓reduceIte,Nat.reduceEqDiff,Nat.reduceLT,Nat.reduceAdd,Nat.reduceLeDiff,reduceCtorEq,splice,gy18]
   generalize hσ19 : AHeap.set σ18 y _ = σ19
   have M19 : Kept σ4 [x] σ19 [x] := by rw [← hσ19]; exact M18.setD hy
   have r19 := r18.kept (show Kept σ18 [y] σ19 [y] by rw [← hσ19]; exact Kept.set (by simp)) (by simp [Ne.symm hyx])
   have gy19 : σ19.get y = .cells [.int .i64 1,.int .i64 0,.int .i64 0,v,.bool (decide (n / 2 % 2 = 1)),.int .i64 (kp : Int),.string cl,.bool W.has,.string W.topic,.string W.pay,.int .i64 W.qos,.bool W.ret,vm,.bool (decide (n / 128 = 1)),.string us,.bool (decide (n / 64 % 2 = 1)),.string emp,.bool false,.string emp,.string emp,.int .i64 0,.bool false,.bool false,.slice none 0 0,.slice none 0 0,.slice none 0 0] true 0 := by
    rw [← hσ19]
    first
     | exact AHeap.get_set_same _ _ _
     | (rw [du]; exact AHeap.get_set_same _ _ _)
     | (rw [dp]; exact AHeap.get_set_same _ _ _)
     | (rw [du,dp]; exact AHeap.get_set_same _ _ _)
   clear hσ19
  rotate_left
  focus
   have du : decide (n / 128 = 1) = false := decide_eq_false hu
   simp (disch := first | assumption | simp) only [↓sbD,sbU,tyB,↓reduceIte,Nat.reduceEqDiff,Nat.reduceLT,reduceCtorEq,hww,du]
   have hUS : userS n s stw = (emp,stw) := if_neg hu
   obtain ⟨us,hus⟩ : ∃ us,emp = us := ⟨_,rfl⟩
   obtain ⟨st6,hst6⟩ : ∃ q,stw = q := ⟨_,rfl⟩
   rw [hst6,hus] at hUS
   rw [hst6] at r17 hokF hbadF
   have gy19 := hww.trans (show AObj.cells [.int .i64 1,.int .i64 0,.int .i64 0,v,.bool (decide (n / 2 % 2 = 1)),.int .i64 (kp : Int),.string cl,.bool W.has,.string W.topic,.string W.pay,.int .i64 W.qos,.bool W.ret,vm,.bool (decide (n / 128 = 1)),.string emp,.bool (decide (n / 64 % 2 = 1)),.string emp,.bool false,.string emp,.string emp,.int .i64 0,.bool false,.bool false,.slice none 0 0,.slice none 0 0,.slice none 0 0] true 0 = AObj.cells [.int .i64 1,.int .i64 0,.int .i64 0,v,.bool (decide (n / 2 % 2 = 1)),.int .i64 (kp : Int),.string cl,.bool W.has,.string W.topic,.string W.pay,.int .i64 W.qos,.bool W.ret,vm,.bool (decide (n / 128 = 1)),.string us,.bool (decide (n / 64 % 2 = 1)),.string emp,.bool false,.string emp,.string emp,.int .i64 0,.bool false,.bool false,.slice none 0 0,.slice none 0 0,.slice none 0 0] true 0 by rw [← hus])
   obtain ⟨σ19,rfl⟩ : ∃ τ,τ = σ17 := ⟨_,rfl⟩
   have M19 := M17
   have r19 := r17
  all_goals
   first
    | rw [hUS] at hokF hbadF
    | (rw [hst6] at hUS; rw [hUS] at hokF hbadF)
   simp only at hokF hbadF
   clear hUS hww
   by_cases hp : n / 64 % 2 = 1
   focus
    have dp : decide (n / 64 % 2 = 1) = true := decide_eq_true hp
    simp (disch := first | assumption | simp) only [↓sbD,sbU,↓reduceIte,Nat.reduceEqDiff,Nat.reduceLT,dp]
    refine specZBin r19 hs fun σ20 k20 r20 => ?_
    obtain ⟨pw,st7,hZ⟩ : ∃ pw st7,binS s st6 = (pw,st7) := ⟨_,_,rfl⟩
    simp only [hZ] at r20 ⊢
    have hPS : passS n s st6 = (pw,st7) := by unfold passS; rw [if_pos hp,hZ]
    have M20 := M19.trans k20
    have gy20 := (k20.at gy19 (by simp) (by simp [hyx])).1
    simp (disch := first | assumption | simp) only [↓sbD,sbU,tyB,↓reduceIte,Nat.reduceEqDiff,Nat.reduceLT,Nat.reduceAdd,Nat.reduceLeDiff,reduceCtorEq,splice,gy20]
    generalize hσ21 : AHeap.set σ20 y _ = σ21
    have M21 : Kept σ4 [x] σ21 [x] := by rw [← hσ21]; exact M20.setD hy
    have r21 := r20.kept (show Kept σ20 [y] σ21 [y] by rw [← hσ21]; exact Kept.set (by simp)) (by simp [Ne.symm hyx])
    have gy21 : σ21.get y = .cells [.int .i64 1,.int .i64 0,.int .i64 0,v,.bool (decide (n / 2 % 2 = 1)),.int .i64 (kp : Int),.string cl,.bool W.has,.string W.topic,.string W.pay,.int .i64 W.qos,.bool W.ret,vm,.bool (decide (n / 128 = 1)),.string us,.bool (decide (n / 64 % 2 = 1)),.string pw,.bool false,.string emp,.string emp,.int .i64 0,.bool false,.bool false,.slice none 0 0,.slice none 0 0,.slice none 0 0] true 0 := by
     rw [← hσ21]
     first
      | exact AHeap.get_set_same _ _ _
      | (rw [du]; exact AHeap.get_set_same _ _ _)
      | (rw [dp]; exact AHeap.get_set_same _ _ _)
      | (rw [du,dp]; exact AHeap.get_set_same _ _ _)
    clear hσ21
    clear gy20
   rotate_left
   focus
    have dp : decide (n / 64 % 2 = 1) = false := decide_eq_false hp
    simp (disch := first | assumption | simp) only [↓sbD,sbU,↓reduceIte,Nat.reduceEqDiff,Nat.reduceLT,dp]
    have hPS : passS n s st6 = (emp,st6) := if_neg hp
    obtain ⟨pw,hpw⟩ : ∃ pw,emp = pw := ⟨_,rfl⟩
    obtain ⟨st7,hst7⟩ : ∃ q,st6 = q := ⟨_,rfl⟩
    rw [hpw] at hPS
    have gy21 := gy19.trans (show AObj.cells [.int .i64 1,.int .i64 0,.int .i64 0,v,.bool (decide (n / 2 % 2 = 1)),.int .i64 (kp : Int),.string cl,.bool W.has,.string W.topic,.string W.pay,.int .i64 W.qos,.bool W.ret,vm,.bool (decide (n / 128 = 1)),.string us,.bool (decide (n / 64 % 2 = 1)),.string emp,.bool false,.string emp,.string emp,.int .i64 0,.bool false,.bool false,.slice none 0 0,.slice none 0 0,.slice none 0 0] true 0 = AObj.cells [.int .i64 1,.int .i64 0,.int .i64 0,v,.bool (decide (n / 2 % 2 = 1)),.int .i64 (kp : Int),.string cl,.bool W.has,.string W.topic,.string W.pay,.int .i64 W.qos,.bool W.ret,vm,.bool (decide (n / 128 = 1)),.string us,.bool (decide (n / 64 % 2 = 1)),.string pw,.bool false,.string emp,.string emp,.int .i64 0,.bool false,.bool false,.slice none 0 0,.slice none 0 0,.slice none 0 0] true 0 by rw [← hpw])
    obtain ⟨σ21,rfl⟩ : ∃ τ,τ = σ19 := ⟨_,rfl⟩
    have M21 := M19
    have r21 := r19
    rw [hst7] at r21
    have hPS : passS n s st6 = (pw,st7) := by rw [hPS,hst7]
   all_goals
    rw [hPS] at hokF hbadF
    simp only at hokF hbadF
    clear gy19
    have K21 := K4.trans M21
    have gb21 := (K21.at gb1 (by simp) (by simp)).1
    have gc21 := (K21.at gc1 (by simp) (by simp)).1
    simp only [zeL,pkC,pkz] at gb21
    have T21 := K21.wid (gp := []) (gp' := []) (fun _ h => by cases h) (fun _ h => by cases h)
    try simp (disch := first | assumption | simp) only [↓sbD,sbU,tyB,Nat.reduceMul,Nat.reduceSub,Int.reduceEq,Int.reduceLT,Int.reduceLE,Int.reduceNe,Nat.reduceBneDiff,Nat.reduceBEq,decide_false,gt_iff_lt,Bool.or_self,Bool.false_eq_true,Nat.mul_one,Nat.one_mul,Nat.zero_mul,↓reduceIte,Nat.reduceEqDiff,Nat.reduceLT,Nat.reduceAdd,Nat.reduceLeDiff,reduceCtorEq,goInt,pairs,isConst,TI.isAgg,splice,boxS,Edp,dpv,Nat.beq_eq,ZV.val,List.any_cons,List.any_nil,Bool.false_and]
    refine specZOf r21 (fun hend => ?_) fun k q hend hk => ?_
    rotate_left
    ·have hk0 : ¬ (k : Int) = 0 := by omega
     simp (disch := first | assumption | simp) only [↓sbD,sbU,tyB,↓reduceIte,Nat.reduceEqDiff,Nat.reduceLT,Nat.reduceAdd,Nat.reduceLeDiff,reduceCtorEq,isConst,splice,AS_new,zeFlt]
     intro g hg
     have hgb : b ≠ g := (nd hg gb21 (by simp)).symm
     have hgc : c ≠ g := (nd hg gc21 (by simp)).symm
     have gb : ∀ (τ : AHeap) o,(AHeap.set τ g o).get b = τ.get b := fun τ o => AHeap.get_set_ne _ _ hgb.symm
     have gc : ∀ (τ : AHeap) o,(AHeap.set τ g o).get c = τ.get c := fun τ o => AHeap.get_set_ne _ _ hgc.symm
     have bg : ∀ (τ : AHeap) o,(AHeap.set τ b o).get g = τ.get g := fun τ o => AHeap.get_set_ne _ _ hgb
     simp (disch := first | assumption | simp) only [↓sbD,sbU,tyB,↓reduceIte,Nat.reduceEqDiff,Nat.reduceLT,Nat.reduceAdd,Nat.reduceLeDiff,pairs,splice,ZV.val,gb,gc,bc,gb21,gc21,hk0]
     refine drawS_l (fl := [(1,2)]) (by kernel_rfl) ?_ ?_
     rotate_left; simp only [lastP_cc,lastP_one]; rotate_left
     ·simp only [List.all_cons,List.all_nil,floatS,List.getElem?_cons_succ,List.getElem?_cons_zero,List.getElem?_toArray,Region.wanted,Bool.not_true,Bool.not_false,Bool.or_true,reads,looksWeak,aev_tmp,upd_at,↓reduceIte,Nat.reduceEqDiff,Nat.reduceLT,Nat.reduceAdd,blkOf,oeq_refl,dead_cells,Bool.and_self,Bool.false_eq_true,Bool.not_false,bg,AHeap.get_set_same]
      try rfl
     simp (disch := first | assumption | simp) only [↓sbD,sbU,tyB,↓reduceIte,Nat.reduceEqDiff,Nat.reduceLT,Nat.reduceAdd,Nat.reduceLeDiff,cb,res_cellc,resC_some]
     exact downS_here (hbadF k 129 q (by rw [hend]) hk _ (FIN (T21.trans (((Kept.refl _ []).setD hg).setD hg))))
    simp (disch := first | assumption | simp) only [↓sbD,sbU,tyB,decide_false,↓reduceIte,Nat.reduceEqDiff,Nat.reduceLT,Nat.reduceAdd,Nat.reduceLeDiff,reduceCtorEq,isConst,splice,AS_new,zeFlt]
    intro g hg
    have hgb : b ≠ g := (nd hg gb21 (by simp)).symm
    have hgc : c ≠ g := (nd hg gc21 (by simp)).symm
    have gb : ∀ (τ : AHeap) o,(AHeap.set τ g o).get b = τ.get b := fun τ o => AHeap.get_set_ne _ _ hgb.symm
    have gc : ∀ (τ : AHeap) o,(AHeap.set τ g o).get c = τ.get c := fun τ o => AHeap.get_set_ne _ _ hgc.symm
    have bg : ∀ (τ : AHeap) o,(AHeap.set τ b o).get g = τ.get g := fun τ o => AHeap.get_set_ne _ _ hgb
    generalize hσ22 : AHeap.set (AHeap.set σ21 g _) g _ = σ22
    have k22 : Kept σ21 [] σ22 [] := by rw [← hσ22]; exact ((Kept.refl _ []).setD hg).setD hg
    have gg22 : σ22.get g = .cells [.int .i64 0,.int .i64 0,.int .i64 0] true 0 := by rw [← hσ22]; exact AHeap.get_set_same _ _ _
    clear hσ22
    have M22 := M21.trans (k22.wid (gp := [x]) (gp' := [x]) (fun _ h => by cases h) (fun _ h => .inr h))
    have gy22 := (k22.at gy21 (by simp) (by simp)).1
    have r22 := r21.kept k22 (by simp)
    have K22 := K4.trans M22
    have gb22 := (K22.at gb1 (by simp) (by simp)).1
    have gc22 := (K22.at gc1 (by simp) (by simp)).1
    simp only [zeL,pkC,pkz] at gb22
    have T22 := K22.wid (gp := []) (gp' := []) (fun _ h => by cases h) (fun _ h => by cases h)
    simp (disch := first | assumption | simp) only [↓sbD,sbU,tyB,↓reduceIte,Nat.reduceEqDiff,Nat.reduceLT,Nat.reduceAdd,Nat.reduceLeDiff,pairs,splice,ZV.val,gy22,gb22,gc22,bc,cb,hvc.2,hwm.2,res_cellc,resC_some]
    exact downS_here (hokF _ (by rw [hend]) _ _ ⟨_,_,_,_,_,hv,hwv,.inl ⟨rfl,rfl⟩,.inl ⟨rfl,rfl⟩,.inl ⟨rfl,rfl⟩,by first | (simp only [pkC,coP,pkz,du,dp]; done) | (simp only [pkC,coP,pkz,du,dp]; rfl) | (simp only [pkC,coP,pkz,du,dp,← hpw]; done) | (simp only [pkC,coP,pkz,du,dp,← hpw]; rfl)⟩ (FIN T22))
end
end Go.Proofs.YtjkhhdknplelcaaGreatDoor.AbsA
