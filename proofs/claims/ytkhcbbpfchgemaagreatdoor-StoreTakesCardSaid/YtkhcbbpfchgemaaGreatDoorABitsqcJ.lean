/-
  Parts of a law's proof.
-/
import Derived.Test.YtkhcbbpfchgemaaGreatDoorAVaqfJ
import Derived.Test.YtkhcbbpfchgemaaGreatDoorARsqbJ
import Derived.Test.YtkhcbbpfchgemaaGreatDoorAPrqjJ
namespace Go.Proofs.YtkhcbbpfchgemaaGreatDoor.AbsA
open Go AbsYtkhcbbpfchgemaaGreatDoor
theorem wrap_spec (x : Int) : ∃ k : Int,IntKind.i64.wrap x = x + k * 18446744073709551616 := by
 have h : ∃ m : Int,m = x % 18446744073709551616 ∧ (IntKind.i64.wrap x = m ∨ IntKind.i64.wrap x = m - 18446744073709551616) := by
  refine ⟨_,rfl,?_⟩
  show (if _ then x % 18446744073709551616 - 18446744073709551616 else x % 18446744073709551616) = _ ∨ (if _ then x % 18446744073709551616 - 18446744073709551616 else x % 18446744073709551616) = _
  split
  ·exact .inr rfl
  ·exact .inl rfl
 obtain ⟨m,hm,h | h⟩ := h
 ·exact ⟨-(x / 18446744073709551616),by omega⟩
 ·exact ⟨-(x / 18446744073709551616) - 1,by omega⟩
theorem wrap_mod {x y : Int} (k : Int) (h : x = y + k * 18446744073709551616) : IntKind.i64.wrap x = IntKind.i64.wrap y := by
 have e : x % 18446744073709551616 = y % 18446744073709551616 := by omega
 have g : ∀ z,IntKind.i64.wrap z = (fun m : Int => if (IntKind.i64.signed && decide (m ≥ (2 ^ (IntKind.i64.bits - 1) : Int))) = true then m - (2 ^ IntKind.i64.bits : Int) else m) (z % 18446744073709551616) := fun z => rfl
 rw [g,g,e]
theorem or_hi {hi lo : Nat} (hlo : lo < 4294967296) : aint .or .i64 (IntKind.i64.wrap ((hi : Int) * 4294967296)) (lo : Int) = some (.int .i64 (IntKind.i64.wrap ((hi : Int) * 4294967296 + lo))) := by
 obtain ⟨k,hk⟩ := wrap_spec ((hi : Int) * 4294967296)
 generalize IntKind.i64.wrap ((hi : Int) * 4294967296) = u at hk
 have e1 : (BitVec.ofInt 64 u).toNat = hi * 4294967296 % 18446744073709551616 := by
  rw [BitVec.toNat_ofInt,hk]
  simp only [Nat.reducePow]
  omega
 have e2 : (BitVec.ofInt 64 (lo : Int)).toNat = lo := by
  rw [BitVec.toNat_ofInt]
  simp only [Nat.reducePow]
  omega
 show some (Value.int .i64 (IntKind.i64.wrap ((BitVec.ofInt 64 u ||| BitVec.ofInt 64 (lo : Int)).toNat : Int))) = _
 have h := Nat.shiftLeft_add_eq_or_of_lt (i := 32) (b := lo) (by simpa using hlo) (hi % 4294967296)
 rw [Nat.shiftLeft_eq] at h
 simp only [Nat.reducePow] at h
 rw [BitVec.toNat_or,e1,e2,show hi * 4294967296 % 18446744073709551616 = hi % 4294967296 * 4294967296 by omega,← h]
 refine congrArg (fun x => some (Value.int .i64 x)) (wrap_mod (-((hi / 4294967296 : Nat) : Int)) ?_)
 omega
theorem add_hi {hi lo : Nat} : IntKind.i64.wrap (IntKind.i64.wrap ((hi : Int) * 4294967296) + lo) = IntKind.i64.wrap ((hi : Int) * 4294967296 + lo) := by
 obtain ⟨k,hk⟩ := wrap_spec ((hi : Int) * 4294967296)
 exact wrap_mod k (by omega)
end Go.Proofs.YtkhcbbpfchgemaaGreatDoor.AbsA
namespace Go.Proofs.YtkhcbbpfchgemaaGreatDoor.AbsA
open Go AbsYtkhcbbpfchgemaaGreatDoor Abs
set_option maxRecDepth 100000
set_option maxHeartbeats 8000000
set_option linter.unusedSimpArgs false
set_option linter.unusedVariables false
attribute [local irreducible] afterS afterOpS opSK OpsS TrS CodeS condS condW thenS thenQ guardS guardTS outS drawS trSK consS
section
variable {σ : AHeap} {Q : Value → AHeap → Prop} {s : ByteArray}
theorem zeMs : azero E 28 = some [.string emp,.string emp,.int .i64 0,.bool false,.slice none 0 0,.string emp,.int .i64 0,.int .i64 0,.string emp] := rfl
theorem zeOp : azero E 36 = some [.int .i64 0,.string emp,.int .i64 0,.string emp,.string emp,.int .i64 0,.bool false,.slice none 0 0,.string emp,.int .i64 0,.int .i64 0,.string emp] := rfl
theorem boxOp {o : Op1} {v : Value} (d : DL propC 4 v o.m.l) : ∃ u,DL propC 4 u o.m.l ∧ ∀ σ,boxS 36 E (opC o v) σ = .val (dptr (opC o u)) σ := by
 by_cases hz : frzL E.ng E.nb (opC o v) = true
 ·exact ⟨v,d,fun σ => box_deep (by rw [hz]; rfl)⟩
 ·have hb : bareL (opC o v) = opC o (bare v) := rfl
  have hf : frzL E.ng E.nb (opC o (bare v)) = true := by
   simp only [opC,frzL,frz_int,frz_bool,frz_str,d.bareF.2,Bool.and_self,Bool.and_true]
  refine ⟨_,d.bareF.1,fun σ => ?_⟩
  unfold boxS
  rw [if_neg (by simp [hz]),hb,if_pos (by rw [hf]; rfl)]
theorem boxMs {m : Ms} {v : Value} (d : DL propC 4 v m.l) : ∃ u,DL propC 4 u m.l ∧ ∀ σ,boxS 28 E (msC m v) σ = .val (dptr (msC m u)) σ := by
 by_cases hz : frzL E.ng E.nb (msC m v) = true
 ·exact ⟨v,d,fun σ => box_deep (by rw [hz]; rfl)⟩
 ·have hb : bareL (msC m v) = msC m (bare v) := rfl
  have hf : frzL E.ng E.nb (msC m (bare v)) = true := by
   simp only [msC,frzL,frz_int,frz_bool,frz_str,d.bareF.2,Bool.and_self,Bool.and_true]
  refine ⟨_,d.bareF.1,fun σ => ?_⟩
  unfold boxS
  rw [if_neg (by simp [hz]),hb,if_pos (by rw [hf]; rfl)]
theorem specTMay {o : Op1} {v : Value} (hv : DL propC 4 v o.m.l) (hq : ∀ σ',Kept σ [] σ' [] → Q (.bool (decide (mayO o))) σ') : CallS E B 66 [.agg ⟨opC o v⟩] σ Q := by
 obtain ⟨u,hu,hbx⟩ := boxOp hv
 have hvc := dl_vc hu
 simp only [opC] at hbx ⊢
 by_cases h1 : o.g = (⟨#[]⟩ : ByteArray)
 ·have hn : decide (mayO o) = false := decide_eq_false (by rintro ⟨a1,a2,a3,a4,a5,a6⟩; exact a3 h1)
  refine call66 (by simp) ?_
  simp only [strip,bodyOf,Tryz.f66,getD_body,keepN,bareOp_mk,lessOp_mk,lapp_cons,lapp_nil,List.map_cons,List.map_nil,array_toList,↓reduceIte,Nat.reduceEqDiff,Bool.false_eq_true]
  simp (disch := first | assumption | simp) only [↓sbD,sbU,tyB,Nat.reduceMul,Nat.reduceSub,Int.reduceEq,Int.reduceLT,Int.reduceLE,Int.reduceNe,Nat.reduceBneDiff,Nat.reduceBEq,decide_false,gt_iff_lt,Bool.or_self,Bool.false_eq_true,Nat.mul_one,Nat.one_mul,Nat.zero_mul,↓reduceIte,Nat.reduceEqDiff,Nat.reduceLT,Nat.reduceAdd,Nat.reduceLeDiff,reduceCtorEq,goInt,pairs,isConst,TI.isAgg,splice,Edp,dpv,Nat.beq_eq,ZV.val,List.any_cons,List.any_nil,Bool.false_and,hbx,bytes_dec,eq_true h1]
  rw [hn] at hq
  exact downS_here (hq _ (Kept.refl σ []))
 by_cases h2 : o.n < 1
 ·have hn : decide (mayO o) = false := decide_eq_false (by rintro ⟨a1,a2,a3,a4,a5,a6⟩; omega)
  refine call66 (by simp) ?_
  simp only [strip,bodyOf,Tryz.f66,getD_body,keepN,bareOp_mk,lessOp_mk,lapp_cons,lapp_nil,List.map_cons,List.map_nil,array_toList,↓reduceIte,Nat.reduceEqDiff,Bool.false_eq_true]
  simp (disch := first | assumption | simp) only [↓sbD,sbU,tyB,Nat.reduceMul,Nat.reduceSub,Int.reduceEq,Int.reduceLT,Int.reduceLE,Int.reduceNe,Nat.reduceBneDiff,Nat.reduceBEq,decide_false,gt_iff_lt,Bool.or_self,Bool.false_eq_true,Nat.mul_one,Nat.one_mul,Nat.zero_mul,↓reduceIte,Nat.reduceEqDiff,Nat.reduceLT,Nat.reduceAdd,Nat.reduceLeDiff,reduceCtorEq,goInt,pairs,isConst,TI.isAgg,splice,Edp,dpv,Nat.beq_eq,ZV.val,List.any_cons,List.any_nil,Bool.false_and,hbx,bytes_dec,h1,h2]
  rw [hn] at hq
  exact downS_here (hq _ (Kept.refl σ []))
 by_cases h3 : 4294967295 < o.n
 ·have hn : decide (mayO o) = false := decide_eq_false (by rintro ⟨a1,a2,a3,a4,a5,a6⟩; omega)
  refine call66 (by simp) ?_
  simp only [strip,bodyOf,Tryz.f66,getD_body,keepN,bareOp_mk,lessOp_mk,lapp_cons,lapp_nil,List.map_cons,List.map_nil,array_toList,↓reduceIte,Nat.reduceEqDiff,Bool.false_eq_true]
  simp (disch := first | assumption | simp) only [↓sbD,sbU,tyB,Nat.reduceMul,Nat.reduceSub,Int.reduceEq,Int.reduceLT,Int.reduceLE,Int.reduceNe,Nat.reduceBneDiff,Nat.reduceBEq,decide_false,gt_iff_lt,Bool.or_self,Bool.false_eq_true,Nat.mul_one,Nat.one_mul,Nat.zero_mul,↓reduceIte,Nat.reduceEqDiff,Nat.reduceLT,Nat.reduceAdd,Nat.reduceLeDiff,reduceCtorEq,goInt,pairs,isConst,TI.isAgg,splice,Edp,dpv,Nat.beq_eq,ZV.val,List.any_cons,List.any_nil,Bool.false_and,hbx,bytes_dec,h1,h2,h3]
  rw [hn] at hq
  exact downS_here (hq _ (Kept.refl σ []))
 by_cases hk : o.k = 1
 rotate_left
 ·by_cases k2 : o.k = 2
  ·have hn : decide (mayO o) = true := decide_eq_true ⟨by omega,by omega,h1,by omega,by omega,fun h => absurd h hk⟩
   refine call66 (by simp) ?_
   simp only [strip,bodyOf,Tryz.f66,getD_body,keepN,bareOp_mk,lessOp_mk,lapp_cons,lapp_nil,List.map_cons,List.map_nil,array_toList,↓reduceIte,Nat.reduceEqDiff,Bool.false_eq_true]
   simp (disch := first | assumption | simp) only [↓sbD,sbU,tyB,Nat.reduceMul,Nat.reduceSub,Int.reduceEq,Int.reduceLT,Int.reduceLE,Int.reduceNe,Nat.reduceBneDiff,Nat.reduceBEq,decide_false,gt_iff_lt,Bool.or_self,Bool.false_eq_true,Nat.mul_one,Nat.one_mul,Nat.zero_mul,↓reduceIte,Nat.reduceEqDiff,Nat.reduceLT,Nat.reduceAdd,Nat.reduceLeDiff,reduceCtorEq,goInt,pairs,isConst,TI.isAgg,splice,Edp,dpv,Nat.beq_eq,ZV.val,List.any_cons,List.any_nil,Bool.false_and,hbx,bytes_dec,h1,h2,h3,hk,eq_true k2]
   rw [hn] at hq
   exact downS_here (hq _ (Kept.refl σ []))
  by_cases k3 : o.k = 3
  ·have hn : decide (mayO o) = true := decide_eq_true ⟨by omega,by omega,h1,by omega,by omega,fun h => absurd h hk⟩
   refine call66 (by simp) ?_
   simp only [strip,bodyOf,Tryz.f66,getD_body,keepN,bareOp_mk,lessOp_mk,lapp_cons,lapp_nil,List.map_cons,List.map_nil,array_toList,↓reduceIte,Nat.reduceEqDiff,Bool.false_eq_true]
   simp (disch := first | assumption | simp) only [↓sbD,sbU,tyB,Nat.reduceMul,Nat.reduceSub,Int.reduceEq,Int.reduceLT,Int.reduceLE,Int.reduceNe,Nat.reduceBneDiff,Nat.reduceBEq,decide_false,gt_iff_lt,Bool.or_self,Bool.false_eq_true,Nat.mul_one,Nat.one_mul,Nat.zero_mul,↓reduceIte,Nat.reduceEqDiff,Nat.reduceLT,Nat.reduceAdd,Nat.reduceLeDiff,reduceCtorEq,goInt,pairs,isConst,TI.isAgg,splice,Edp,dpv,Nat.beq_eq,ZV.val,List.any_cons,List.any_nil,Bool.false_and,hbx,bytes_dec,h1,h2,h3,hk,k2,eq_true k3]
   rw [hn] at hq
   exact downS_here (hq _ (Kept.refl σ []))
  ·have hn : decide (mayO o) = false := decide_eq_false (by rintro ⟨a1,a2,a3,a4,a5,a6⟩; omega)
   refine call66 (by simp) ?_
   simp only [strip,bodyOf,Tryz.f66,getD_body,keepN,bareOp_mk,lessOp_mk,lapp_cons,lapp_nil,List.map_cons,List.map_nil,array_toList,↓reduceIte,Nat.reduceEqDiff,Bool.false_eq_true]
   simp (disch := first | assumption | simp) only [↓sbD,sbU,tyB,Nat.reduceMul,Nat.reduceSub,Int.reduceEq,Int.reduceLT,Int.reduceLE,Int.reduceNe,Nat.reduceBneDiff,Nat.reduceBEq,decide_false,gt_iff_lt,Bool.or_self,Bool.false_eq_true,Nat.mul_one,Nat.one_mul,Nat.zero_mul,↓reduceIte,Nat.reduceEqDiff,Nat.reduceLT,Nat.reduceAdd,Nat.reduceLeDiff,reduceCtorEq,goInt,pairs,isConst,TI.isAgg,splice,Edp,dpv,Nat.beq_eq,ZV.val,List.any_cons,List.any_nil,Bool.false_and,hbx,bytes_dec,h1,h2,h3,hk,k2,k3]
   rw [hn] at hq
   exact downS_here (hq _ (Kept.refl σ []))
 by_cases g1 : ¬ o.m.g = o.g
 ·have hn : decide (mayO o) = false := decide_eq_false (by rintro ⟨a1,a2,a3,a4,a5,a6⟩; exact g1 (a6 hk).1)
  have g1n : ¬ o.m.g = o.g := by first | exact g1 | omega
  refine call66 (by simp) ?_
  simp only [strip,bodyOf,Tryz.f66,getD_body,keepN,bareOp_mk,lessOp_mk,lapp_cons,lapp_nil,List.map_cons,List.map_nil,array_toList,↓reduceIte,Nat.reduceEqDiff,Bool.false_eq_true]
  simp (disch := first | assumption | simp) only [↓sbD,sbU,tyB,Nat.reduceMul,Nat.reduceSub,Int.reduceEq,Int.reduceLT,Int.reduceLE,Int.reduceNe,Nat.reduceBneDiff,Nat.reduceBEq,decide_false,gt_iff_lt,Bool.or_self,Bool.false_eq_true,Nat.mul_one,Nat.one_mul,Nat.zero_mul,↓reduceIte,Nat.reduceEqDiff,Nat.reduceLT,Nat.reduceAdd,Nat.reduceLeDiff,reduceCtorEq,goInt,pairs,isConst,TI.isAgg,splice,Edp,dpv,Nat.beq_eq,ZV.val,List.any_cons,List.any_nil,Bool.false_and,hbx,AS_new,zeMs,bytes_dec,h1,h2,h3,eq_true hk,g1n,hvc.1,hvc.2]
  intro b hb
  try simp (disch := first | assumption | simp) only [↓sbD,sbU,tyB,Nat.reduceMul,Nat.reduceSub,Int.reduceEq,Int.reduceLT,Int.reduceLE,Int.reduceNe,Nat.reduceBneDiff,Nat.reduceBEq,decide_false,gt_iff_lt,Bool.or_self,Bool.false_eq_true,Nat.mul_one,Nat.one_mul,Nat.zero_mul,↓reduceIte,Nat.reduceEqDiff,Nat.reduceLT,Nat.reduceAdd,Nat.reduceLeDiff,reduceCtorEq,goInt,pairs,isConst,TI.isAgg,splice,boxS,Edp,dpv,Nat.beq_eq,ZV.val,List.any_cons,List.any_nil,Bool.false_and,AHeap.get_set_same,bytes_dec,h1,h2,h3,eq_true hk,g1n,hvc.1,hvc.2]
  rw [hn] at hq
  exact downS_here (hq _ (((Kept.refl σ []).setD hb).setD hb))
 have g1p : o.m.g = o.g := by first | exact Decidable.not_not.1 g1 | omega
 by_cases g2 : ¬ o.m.n = o.n
 ·have hn : decide (mayO o) = false := decide_eq_false (by rintro ⟨a1,a2,a3,a4,a5,a6⟩; exact g2 (a6 hk).2.1)
  have g2n : ¬ o.m.n = o.n := by first | exact g2 | omega
  refine call66 (by simp) ?_
  simp only [strip,bodyOf,Tryz.f66,getD_body,keepN,bareOp_mk,lessOp_mk,lapp_cons,lapp_nil,List.map_cons,List.map_nil,array_toList,↓reduceIte,Nat.reduceEqDiff,Bool.false_eq_true]
  simp (disch := first | assumption | simp) only [↓sbD,sbU,tyB,Nat.reduceMul,Nat.reduceSub,Int.reduceEq,Int.reduceLT,Int.reduceLE,Int.reduceNe,Nat.reduceBneDiff,Nat.reduceBEq,decide_false,gt_iff_lt,Bool.or_self,Bool.false_eq_true,Nat.mul_one,Nat.one_mul,Nat.zero_mul,↓reduceIte,Nat.reduceEqDiff,Nat.reduceLT,Nat.reduceAdd,Nat.reduceLeDiff,reduceCtorEq,goInt,pairs,isConst,TI.isAgg,splice,Edp,dpv,Nat.beq_eq,ZV.val,List.any_cons,List.any_nil,Bool.false_and,hbx,AS_new,zeMs,bytes_dec,h1,h2,h3,eq_true hk,eq_true g1p,g2n,hvc.1,hvc.2]
  intro b hb
  try simp (disch := first | assumption | simp) only [↓sbD,sbU,tyB,Nat.reduceMul,Nat.reduceSub,Int.reduceEq,Int.reduceLT,Int.reduceLE,Int.reduceNe,Nat.reduceBneDiff,Nat.reduceBEq,decide_false,gt_iff_lt,Bool.or_self,Bool.false_eq_true,Nat.mul_one,Nat.one_mul,Nat.zero_mul,↓reduceIte,Nat.reduceEqDiff,Nat.reduceLT,Nat.reduceAdd,Nat.reduceLeDiff,reduceCtorEq,goInt,pairs,isConst,TI.isAgg,splice,boxS,Edp,dpv,Nat.beq_eq,ZV.val,List.any_cons,List.any_nil,Bool.false_and,AHeap.get_set_same,bytes_dec,h1,h2,h3,eq_true hk,eq_true g1p,g2n,hvc.1,hvc.2]
  rw [hn] at hq
  exact downS_here (hq _ (((Kept.refl σ []).setD hb).setD hb))
 have g2p : o.m.n = o.n := by first | exact Decidable.not_not.1 g2 | omega
 by_cases g3 : o.m.q < 0
 ·have hn : decide (mayO o) = false := decide_eq_false (by rintro ⟨a1,a2,a3,a4,a5,a6⟩; have := (a6 hk).2.2.1; omega)
  have g3n : ¬ (0 : Int) ≤ o.m.q := by first | exact g3 | omega
  refine call66 (by simp) ?_
  simp only [strip,bodyOf,Tryz.f66,getD_body,keepN,bareOp_mk,lessOp_mk,lapp_cons,lapp_nil,List.map_cons,List.map_nil,array_toList,↓reduceIte,Nat.reduceEqDiff,Bool.false_eq_true]
  simp (disch := first | assumption | simp) only [↓sbD,sbU,tyB,Nat.reduceMul,Nat.reduceSub,Int.reduceEq,Int.reduceLT,Int.reduceLE,Int.reduceNe,Nat.reduceBneDiff,Nat.reduceBEq,decide_false,gt_iff_lt,Bool.or_self,Bool.false_eq_true,Nat.mul_one,Nat.one_mul,Nat.zero_mul,↓reduceIte,Nat.reduceEqDiff,Nat.reduceLT,Nat.reduceAdd,Nat.reduceLeDiff,reduceCtorEq,goInt,pairs,isConst,TI.isAgg,splice,Edp,dpv,Nat.beq_eq,ZV.val,List.any_cons,List.any_nil,Bool.false_and,hbx,AS_new,zeMs,bytes_dec,h1,h2,h3,eq_true hk,eq_true g1p,eq_true g2p,g3n,hvc.1,hvc.2]
  intro b hb
  try simp (disch := first | assumption | simp) only [↓sbD,sbU,tyB,Nat.reduceMul,Nat.reduceSub,Int.reduceEq,Int.reduceLT,Int.reduceLE,Int.reduceNe,Nat.reduceBneDiff,Nat.reduceBEq,decide_false,gt_iff_lt,Bool.or_self,Bool.false_eq_true,Nat.mul_one,Nat.one_mul,Nat.zero_mul,↓reduceIte,Nat.reduceEqDiff,Nat.reduceLT,Nat.reduceAdd,Nat.reduceLeDiff,reduceCtorEq,goInt,pairs,isConst,TI.isAgg,splice,boxS,Edp,dpv,Nat.beq_eq,ZV.val,List.any_cons,List.any_nil,Bool.false_and,AHeap.get_set_same,bytes_dec,h1,h2,h3,eq_true hk,eq_true g1p,eq_true g2p,g3n,hvc.1,hvc.2]
  rw [hn] at hq
  exact downS_here (hq _ (((Kept.refl σ []).setD hb).setD hb))
 have g3p : (0 : Int) ≤ o.m.q := by first | exact Decidable.not_not.1 g3 | omega
 by_cases g4 : 2 < o.m.q
 ·have hn : decide (mayO o) = false := decide_eq_false (by rintro ⟨a1,a2,a3,a4,a5,a6⟩; have := (a6 hk).2.2.2.1; omega)
  have g4n : ¬ o.m.q < 3 := by first | exact g4 | omega
  refine call66 (by simp) ?_
  simp only [strip,bodyOf,Tryz.f66,getD_body,keepN,bareOp_mk,lessOp_mk,lapp_cons,lapp_nil,List.map_cons,List.map_nil,array_toList,↓reduceIte,Nat.reduceEqDiff,Bool.false_eq_true]
  simp (disch := first | assumption | simp) only [↓sbD,sbU,tyB,Nat.reduceMul,Nat.reduceSub,Int.reduceEq,Int.reduceLT,Int.reduceLE,Int.reduceNe,Nat.reduceBneDiff,Nat.reduceBEq,decide_false,gt_iff_lt,Bool.or_self,Bool.false_eq_true,Nat.mul_one,Nat.one_mul,Nat.zero_mul,↓reduceIte,Nat.reduceEqDiff,Nat.reduceLT,Nat.reduceAdd,Nat.reduceLeDiff,reduceCtorEq,goInt,pairs,isConst,TI.isAgg,splice,Edp,dpv,Nat.beq_eq,ZV.val,List.any_cons,List.any_nil,Bool.false_and,hbx,AS_new,zeMs,bytes_dec,h1,h2,h3,eq_true hk,eq_true g1p,eq_true g2p,g3p,g4n,hvc.1,hvc.2]
  intro b hb
  try simp (disch := first | assumption | simp) only [↓sbD,sbU,tyB,Nat.reduceMul,Nat.reduceSub,Int.reduceEq,Int.reduceLT,Int.reduceLE,Int.reduceNe,Nat.reduceBneDiff,Nat.reduceBEq,decide_false,gt_iff_lt,Bool.or_self,Bool.false_eq_true,Nat.mul_one,Nat.one_mul,Nat.zero_mul,↓reduceIte,Nat.reduceEqDiff,Nat.reduceLT,Nat.reduceAdd,Nat.reduceLeDiff,reduceCtorEq,goInt,pairs,isConst,TI.isAgg,splice,boxS,Edp,dpv,Nat.beq_eq,ZV.val,List.any_cons,List.any_nil,Bool.false_and,AHeap.get_set_same,bytes_dec,h1,h2,h3,eq_true hk,eq_true g1p,eq_true g2p,g3p,g4n,hvc.1,hvc.2]
  rw [hn] at hq
  exact downS_here (hq _ (((Kept.refl σ []).setD hb).setD hb))
 have g4p : o.m.q < 3 := by first | exact Decidable.not_not.1 g4 | omega
 by_cases g5 : o.m.u < 0
 ·have hn : decide (mayO o) = false := decide_eq_false (by rintro ⟨a1,a2,a3,a4,a5,a6⟩; have := (a6 hk).2.2.2.2.1; omega)
  have g5n : ¬ (0 : Int) ≤ o.m.u := by first | exact g5 | omega
  refine call66 (by simp) ?_
  simp only [strip,bodyOf,Tryz.f66,getD_body,keepN,bareOp_mk,lessOp_mk,lapp_cons,lapp_nil,List.map_cons,List.map_nil,array_toList,↓reduceIte,Nat.reduceEqDiff,Bool.false_eq_true]
  simp (disch := first | assumption | simp) only [↓sbD,sbU,tyB,Nat.reduceMul,Nat.reduceSub,Int.reduceEq,Int.reduceLT,Int.reduceLE,Int.reduceNe,Nat.reduceBneDiff,Nat.reduceBEq,decide_false,gt_iff_lt,Bool.or_self,Bool.false_eq_true,Nat.mul_one,Nat.one_mul,Nat.zero_mul,↓reduceIte,Nat.reduceEqDiff,Nat.reduceLT,Nat.reduceAdd,Nat.reduceLeDiff,reduceCtorEq,goInt,pairs,isConst,TI.isAgg,splice,Edp,dpv,Nat.beq_eq,ZV.val,List.any_cons,List.any_nil,Bool.false_and,hbx,AS_new,zeMs,bytes_dec,h1,h2,h3,eq_true hk,eq_true g1p,eq_true g2p,g3p,g4p,g5n,hvc.1,hvc.2]
  intro b hb
  try simp (disch := first | assumption | simp) only [↓sbD,sbU,tyB,Nat.reduceMul,Nat.reduceSub,Int.reduceEq,Int.reduceLT,Int.reduceLE,Int.reduceNe,Nat.reduceBneDiff,Nat.reduceBEq,decide_false,gt_iff_lt,Bool.or_self,Bool.false_eq_true,Nat.mul_one,Nat.one_mul,Nat.zero_mul,↓reduceIte,Nat.reduceEqDiff,Nat.reduceLT,Nat.reduceAdd,Nat.reduceLeDiff,reduceCtorEq,goInt,pairs,isConst,TI.isAgg,splice,boxS,Edp,dpv,Nat.beq_eq,ZV.val,List.any_cons,List.any_nil,Bool.false_and,AHeap.get_set_same,bytes_dec,h1,h2,h3,eq_true hk,eq_true g1p,eq_true g2p,g3p,g4p,g5n,hvc.1,hvc.2]
  rw [hn] at hq
  exact downS_here (hq _ (((Kept.refl σ []).setD hb).setD hb))
 have g5p : (0 : Int) ≤ o.m.u := by first | exact Decidable.not_not.1 g5 | omega
 by_cases g6 : 9007199254740992 < o.m.u
 ·have hn : decide (mayO o) = false := decide_eq_false (by rintro ⟨a1,a2,a3,a4,a5,a6⟩; have := (a6 hk).2.2.2.2.2; omega)
  have g6n : ¬ o.m.u ≤ 9007199254740992 := by first | exact g6 | omega
  refine call66 (by simp) ?_
  simp only [strip,bodyOf,Tryz.f66,getD_body,keepN,bareOp_mk,lessOp_mk,lapp_cons,lapp_nil,List.map_cons,List.map_nil,array_toList,↓reduceIte,Nat.reduceEqDiff,Bool.false_eq_true]
  simp (disch := first | assumption | simp) only [↓sbD,sbU,tyB,Nat.reduceMul,Nat.reduceSub,Int.reduceEq,Int.reduceLT,Int.reduceLE,Int.reduceNe,Nat.reduceBneDiff,Nat.reduceBEq,decide_false,gt_iff_lt,Bool.or_self,Bool.false_eq_true,Nat.mul_one,Nat.one_mul,Nat.zero_mul,↓reduceIte,Nat.reduceEqDiff,Nat.reduceLT,Nat.reduceAdd,Nat.reduceLeDiff,reduceCtorEq,goInt,pairs,isConst,TI.isAgg,splice,Edp,dpv,Nat.beq_eq,ZV.val,List.any_cons,List.any_nil,Bool.false_and,hbx,AS_new,zeMs,bytes_dec,h1,h2,h3,eq_true hk,eq_true g1p,eq_true g2p,g3p,g4p,g5p,g6n,hvc.1,hvc.2]
  intro b hb
  try simp (disch := first | assumption | simp) only [↓sbD,sbU,tyB,Nat.reduceMul,Nat.reduceSub,Int.reduceEq,Int.reduceLT,Int.reduceLE,Int.reduceNe,Nat.reduceBneDiff,Nat.reduceBEq,decide_false,gt_iff_lt,Bool.or_self,Bool.false_eq_true,Nat.mul_one,Nat.one_mul,Nat.zero_mul,↓reduceIte,Nat.reduceEqDiff,Nat.reduceLT,Nat.reduceAdd,Nat.reduceLeDiff,reduceCtorEq,goInt,pairs,isConst,TI.isAgg,splice,boxS,Edp,dpv,Nat.beq_eq,ZV.val,List.any_cons,List.any_nil,Bool.false_and,AHeap.get_set_same,bytes_dec,h1,h2,h3,eq_true hk,eq_true g1p,eq_true g2p,g3p,g4p,g5p,g6n,hvc.1,hvc.2]
  rw [hn] at hq
  exact downS_here (hq _ (((Kept.refl σ []).setD hb).setD hb))
 have g6p : o.m.u ≤ 9007199254740992 := by first | exact Decidable.not_not.1 g6 | omega
 have hn : decide (mayO o) = true := decide_eq_true ⟨by omega,by omega,h1,by omega,by omega,fun _ => ⟨g1p,g2p,g3p,by omega,g5p,g6p⟩⟩
 refine call66 (by simp) ?_
 simp only [strip,bodyOf,Tryz.f66,getD_body,keepN,bareOp_mk,lessOp_mk,lapp_cons,lapp_nil,List.map_cons,List.map_nil,array_toList,↓reduceIte,Nat.reduceEqDiff,Bool.false_eq_true]
 simp (disch := first | assumption | simp) only [↓sbD,sbU,tyB,Nat.reduceMul,Nat.reduceSub,Int.reduceEq,Int.reduceLT,Int.reduceLE,Int.reduceNe,Nat.reduceBneDiff,Nat.reduceBEq,decide_false,gt_iff_lt,Bool.or_self,Bool.false_eq_true,Nat.mul_one,Nat.one_mul,Nat.zero_mul,↓reduceIte,Nat.reduceEqDiff,Nat.reduceLT,Nat.reduceAdd,Nat.reduceLeDiff,reduceCtorEq,goInt,pairs,isConst,TI.isAgg,splice,Edp,dpv,Nat.beq_eq,ZV.val,List.any_cons,List.any_nil,Bool.false_and,hbx,AS_new,zeMs,bytes_dec,h1,h2,h3,eq_true hk,eq_true g1p,eq_true g2p,g3p,g4p,g5p,g6p,hvc.1,hvc.2]
 intro b hb
 try simp (disch := first | assumption | simp) only [↓sbD,sbU,tyB,Nat.reduceMul,Nat.reduceSub,Int.reduceEq,Int.reduceLT,Int.reduceLE,Int.reduceNe,Nat.reduceBneDiff,Nat.reduceBEq,decide_false,gt_iff_lt,Bool.or_self,Bool.false_eq_true,Nat.mul_one,Nat.one_mul,Nat.zero_mul,↓reduceIte,Nat.reduceEqDiff,Nat.reduceLT,Nat.reduceAdd,Nat.reduceLeDiff,reduceCtorEq,goInt,pairs,isConst,TI.isAgg,splice,boxS,Edp,dpv,Nat.beq_eq,ZV.val,List.any_cons,List.any_nil,Bool.false_and,AHeap.get_set_same,bytes_dec,h1,h2,h3,eq_true hk,eq_true g1p,eq_true g2p,g3p,g4p,g5p,g6p,hvc.1,hvc.2]
 rw [hn] at hq
 exact downS_here (hq _ (((Kept.refl σ []).setD hb).setD hb))
theorem specZMay {o : Op1} {v : Value} (hv : DL propC 4 v o.m.l) (hq : ∀ σ',Kept σ [] σ' [] → Q (.bool (decide (mayO o))) σ') : CallS E B 73 [.agg ⟨opC o v⟩] σ Q := by
 obtain ⟨u,hu,hbx⟩ := boxOp hv
 have hvc := dl_vc hu
 simp only [opC] at hbx ⊢
 by_cases h0 : o.k < 1
 ·have hn : decide (mayO o) = false := decide_eq_false (by rintro ⟨a1,a2,a3,a4,a5,a6⟩; omega)
  refine call73 (by simp) ?_
  simp only [strip,bodyOf,Tryz.f73,getD_body,keepN,bareOp_mk,lessOp_mk,lapp_cons,lapp_nil,List.map_cons,List.map_nil,array_toList,↓reduceIte,Nat.reduceEqDiff,Bool.false_eq_true]
  simp (disch := first | assumption | simp) only [↓sbD,sbU,tyB,Nat.reduceMul,Nat.reduceSub,Int.reduceEq,Int.reduceLT,Int.reduceLE,Int.reduceNe,Nat.reduceBneDiff,Nat.reduceBEq,decide_false,gt_iff_lt,Bool.or_self,Bool.false_eq_true,Nat.mul_one,Nat.one_mul,Nat.zero_mul,↓reduceIte,Nat.reduceEqDiff,Nat.reduceLT,Nat.reduceAdd,Nat.reduceLeDiff,reduceCtorEq,goInt,pairs,isConst,TI.isAgg,splice,Edp,dpv,Nat.beq_eq,ZV.val,List.any_cons,List.any_nil,Bool.false_and,hbx,bytes_dec,h0]
  rw [hn] at hq
  exact downS_here (hq _ (Kept.refl σ []))
 by_cases h00 : 3 < o.k
 ·have hn : decide (mayO o) = false := decide_eq_false (by rintro ⟨a1,a2,a3,a4,a5,a6⟩; omega)
  refine call73 (by simp) ?_
  simp only [strip,bodyOf,Tryz.f73,getD_body,keepN,bareOp_mk,lessOp_mk,lapp_cons,lapp_nil,List.map_cons,List.map_nil,array_toList,↓reduceIte,Nat.reduceEqDiff,Bool.false_eq_true]
  simp (disch := first | assumption | simp) only [↓sbD,sbU,tyB,Nat.reduceMul,Nat.reduceSub,Int.reduceEq,Int.reduceLT,Int.reduceLE,Int.reduceNe,Nat.reduceBneDiff,Nat.reduceBEq,decide_false,gt_iff_lt,Bool.or_self,Bool.false_eq_true,Nat.mul_one,Nat.one_mul,Nat.zero_mul,↓reduceIte,Nat.reduceEqDiff,Nat.reduceLT,Nat.reduceAdd,Nat.reduceLeDiff,reduceCtorEq,goInt,pairs,isConst,TI.isAgg,splice,Edp,dpv,Nat.beq_eq,ZV.val,List.any_cons,List.any_nil,Bool.false_and,hbx,bytes_dec,h0,h00]
  rw [hn] at hq
  exact downS_here (hq _ (Kept.refl σ []))
 by_cases h1 : o.g = (⟨#[]⟩ : ByteArray)
 ·have hn : decide (mayO o) = false := decide_eq_false (by rintro ⟨a1,a2,a3,a4,a5,a6⟩; exact a3 h1)
  refine call73 (by simp) ?_
  simp only [strip,bodyOf,Tryz.f73,getD_body,keepN,bareOp_mk,lessOp_mk,lapp_cons,lapp_nil,List.map_cons,List.map_nil,array_toList,↓reduceIte,Nat.reduceEqDiff,Bool.false_eq_true]
  simp (disch := first | assumption | simp) only [↓sbD,sbU,tyB,Nat.reduceMul,Nat.reduceSub,Int.reduceEq,Int.reduceLT,Int.reduceLE,Int.reduceNe,Nat.reduceBneDiff,Nat.reduceBEq,decide_false,gt_iff_lt,Bool.or_self,Bool.false_eq_true,Nat.mul_one,Nat.one_mul,Nat.zero_mul,↓reduceIte,Nat.reduceEqDiff,Nat.reduceLT,Nat.reduceAdd,Nat.reduceLeDiff,reduceCtorEq,goInt,pairs,isConst,TI.isAgg,splice,Edp,dpv,Nat.beq_eq,ZV.val,List.any_cons,List.any_nil,Bool.false_and,hbx,bytes_dec,h0,h00,eq_true h1]
  rw [hn] at hq
  exact downS_here (hq _ (Kept.refl σ []))
 by_cases h2 : o.n < 1
 ·have hn : decide (mayO o) = false := decide_eq_false (by rintro ⟨a1,a2,a3,a4,a5,a6⟩; omega)
  refine call73 (by simp) ?_
  simp only [strip,bodyOf,Tryz.f73,getD_body,keepN,bareOp_mk,lessOp_mk,lapp_cons,lapp_nil,List.map_cons,List.map_nil,array_toList,↓reduceIte,Nat.reduceEqDiff,Bool.false_eq_true]
  simp (disch := first | assumption | simp) only [↓sbD,sbU,tyB,Nat.reduceMul,Nat.reduceSub,Int.reduceEq,Int.reduceLT,Int.reduceLE,Int.reduceNe,Nat.reduceBneDiff,Nat.reduceBEq,decide_false,gt_iff_lt,Bool.or_self,Bool.false_eq_true,Nat.mul_one,Nat.one_mul,Nat.zero_mul,↓reduceIte,Nat.reduceEqDiff,Nat.reduceLT,Nat.reduceAdd,Nat.reduceLeDiff,reduceCtorEq,goInt,pairs,isConst,TI.isAgg,splice,Edp,dpv,Nat.beq_eq,ZV.val,List.any_cons,List.any_nil,Bool.false_and,hbx,bytes_dec,h0,h00,h1,h2]
  rw [hn] at hq
  exact downS_here (hq _ (Kept.refl σ []))
 by_cases h3 : 4294967295 < o.n
 ·have hn : decide (mayO o) = false := decide_eq_false (by rintro ⟨a1,a2,a3,a4,a5,a6⟩; omega)
  refine call73 (by simp) ?_
  simp only [strip,bodyOf,Tryz.f73,getD_body,keepN,bareOp_mk,lessOp_mk,lapp_cons,lapp_nil,List.map_cons,List.map_nil,array_toList,↓reduceIte,Nat.reduceEqDiff,Bool.false_eq_true]
  simp (disch := first | assumption | simp) only [↓sbD,sbU,tyB,Nat.reduceMul,Nat.reduceSub,Int.reduceEq,Int.reduceLT,Int.reduceLE,Int.reduceNe,Nat.reduceBneDiff,Nat.reduceBEq,decide_false,gt_iff_lt,Bool.or_self,Bool.false_eq_true,Nat.mul_one,Nat.one_mul,Nat.zero_mul,↓reduceIte,Nat.reduceEqDiff,Nat.reduceLT,Nat.reduceAdd,Nat.reduceLeDiff,reduceCtorEq,goInt,pairs,isConst,TI.isAgg,splice,Edp,dpv,Nat.beq_eq,ZV.val,List.any_cons,List.any_nil,Bool.false_and,hbx,bytes_dec,h0,h00,h1,h2,h3]
  rw [hn] at hq
  exact downS_here (hq _ (Kept.refl σ []))
 by_cases hk : o.k = 1
 rotate_left
 ·have hn : decide (mayO o) = true := decide_eq_true ⟨by omega,by omega,h1,by omega,by omega,fun h => absurd h hk⟩
  refine call73 (by simp) ?_
  simp only [strip,bodyOf,Tryz.f73,getD_body,keepN,bareOp_mk,lessOp_mk,lapp_cons,lapp_nil,List.map_cons,List.map_nil,array_toList,↓reduceIte,Nat.reduceEqDiff,Bool.false_eq_true]
  simp (disch := first | assumption | simp) only [↓sbD,sbU,tyB,Nat.reduceMul,Nat.reduceSub,Int.reduceEq,Int.reduceLT,Int.reduceLE,Int.reduceNe,Nat.reduceBneDiff,Nat.reduceBEq,decide_false,gt_iff_lt,Bool.or_self,Bool.false_eq_true,Nat.mul_one,Nat.one_mul,Nat.zero_mul,↓reduceIte,Nat.reduceEqDiff,Nat.reduceLT,Nat.reduceAdd,Nat.reduceLeDiff,reduceCtorEq,goInt,pairs,isConst,TI.isAgg,splice,Edp,dpv,Nat.beq_eq,ZV.val,List.any_cons,List.any_nil,Bool.false_and,hbx,AS_new,zeMs,bytes_dec,h0,h00,h1,h2,h3,hk,hvc.1,hvc.2]
  intro b hb
  try simp (disch := first | assumption | simp) only [↓sbD,sbU,tyB,Nat.reduceMul,Nat.reduceSub,Int.reduceEq,Int.reduceLT,Int.reduceLE,Int.reduceNe,Nat.reduceBneDiff,Nat.reduceBEq,decide_false,gt_iff_lt,Bool.or_self,Bool.false_eq_true,Nat.mul_one,Nat.one_mul,Nat.zero_mul,↓reduceIte,Nat.reduceEqDiff,Nat.reduceLT,Nat.reduceAdd,Nat.reduceLeDiff,reduceCtorEq,goInt,pairs,isConst,TI.isAgg,splice,boxS,Edp,dpv,Nat.beq_eq,ZV.val,List.any_cons,List.any_nil,Bool.false_and,AHeap.get_set_same,bytes_dec,h0,h00,h1,h2,h3,hk,hvc.1,hvc.2]
  rw [hn] at hq
  exact downS_here (hq _ (((Kept.refl σ []).setD hb).setD hb))
 by_cases g1 : ¬ o.m.g = o.g
 ·have hn : decide (mayO o) = false := decide_eq_false (by rintro ⟨a1,a2,a3,a4,a5,a6⟩; exact g1 (a6 hk).1)
  have g1n : ¬ o.m.g = o.g := by first | exact g1 | omega
  refine call73 (by simp) ?_
  simp only [strip,bodyOf,Tryz.f73,getD_body,keepN,bareOp_mk,lessOp_mk,lapp_cons,lapp_nil,List.map_cons,List.map_nil,array_toList,↓reduceIte,Nat.reduceEqDiff,Bool.false_eq_true]
  simp (disch := first | assumption | simp) only [↓sbD,sbU,tyB,Nat.reduceMul,Nat.reduceSub,Int.reduceEq,Int.reduceLT,Int.reduceLE,Int.reduceNe,Nat.reduceBneDiff,Nat.reduceBEq,decide_false,gt_iff_lt,Bool.or_self,Bool.false_eq_true,Nat.mul_one,Nat.one_mul,Nat.zero_mul,↓reduceIte,Nat.reduceEqDiff,Nat.reduceLT,Nat.reduceAdd,Nat.reduceLeDiff,reduceCtorEq,goInt,pairs,isConst,TI.isAgg,splice,Edp,dpv,Nat.beq_eq,ZV.val,List.any_cons,List.any_nil,Bool.false_and,hbx,AS_new,zeMs,bytes_dec,h0,h00,h1,h2,h3,eq_true hk,g1n,hvc.1,hvc.2]
  intro b hb
  try simp (disch := first | assumption | simp) only [↓sbD,sbU,tyB,Nat.reduceMul,Nat.reduceSub,Int.reduceEq,Int.reduceLT,Int.reduceLE,Int.reduceNe,Nat.reduceBneDiff,Nat.reduceBEq,decide_false,gt_iff_lt,Bool.or_self,Bool.false_eq_true,Nat.mul_one,Nat.one_mul,Nat.zero_mul,↓reduceIte,Nat.reduceEqDiff,Nat.reduceLT,Nat.reduceAdd,Nat.reduceLeDiff,reduceCtorEq,goInt,pairs,isConst,TI.isAgg,splice,boxS,Edp,dpv,Nat.beq_eq,ZV.val,List.any_cons,List.any_nil,Bool.false_and,AHeap.get_set_same,bytes_dec,h0,h00,h1,h2,h3,eq_true hk,g1n,hvc.1,hvc.2]
  rw [hn] at hq
  exact downS_here (hq _ (((Kept.refl σ []).setD hb).setD hb))
 have g1p : o.m.g = o.g := by first | exact Decidable.not_not.1 g1 | omega
 by_cases g2 : ¬ o.m.n = o.n
 ·have hn : decide (mayO o) = false := decide_eq_false (by rintro ⟨a1,a2,a3,a4,a5,a6⟩; exact g2 (a6 hk).2.1)
  have g2n : ¬ o.m.n = o.n := by first | exact g2 | omega
  refine call73 (by simp) ?_
  simp only [strip,bodyOf,Tryz.f73,getD_body,keepN,bareOp_mk,lessOp_mk,lapp_cons,lapp_nil,List.map_cons,List.map_nil,array_toList,↓reduceIte,Nat.reduceEqDiff,Bool.false_eq_true]
  simp (disch := first | assumption | simp) only [↓sbD,sbU,tyB,Nat.reduceMul,Nat.reduceSub,Int.reduceEq,Int.reduceLT,Int.reduceLE,Int.reduceNe,Nat.reduceBneDiff,Nat.reduceBEq,decide_false,gt_iff_lt,Bool.or_self,Bool.false_eq_true,Nat.mul_one,Nat.one_mul,Nat.zero_mul,↓reduceIte,Nat.reduceEqDiff,Nat.reduceLT,Nat.reduceAdd,Nat.reduceLeDiff,reduceCtorEq,goInt,pairs,isConst,TI.isAgg,splice,Edp,dpv,Nat.beq_eq,ZV.val,List.any_cons,List.any_nil,Bool.false_and,hbx,AS_new,zeMs,bytes_dec,h0,h00,h1,h2,h3,eq_true hk,eq_true g1p,g2n,hvc.1,hvc.2]
  intro b hb
  try simp (disch := first | assumption | simp) only [↓sbD,sbU,tyB,Nat.reduceMul,Nat.reduceSub,Int.reduceEq,Int.reduceLT,Int.reduceLE,Int.reduceNe,Nat.reduceBneDiff,Nat.reduceBEq,decide_false,gt_iff_lt,Bool.or_self,Bool.false_eq_true,Nat.mul_one,Nat.one_mul,Nat.zero_mul,↓reduceIte,Nat.reduceEqDiff,Nat.reduceLT,Nat.reduceAdd,Nat.reduceLeDiff,reduceCtorEq,goInt,pairs,isConst,TI.isAgg,splice,boxS,Edp,dpv,Nat.beq_eq,ZV.val,List.any_cons,List.any_nil,Bool.false_and,AHeap.get_set_same,bytes_dec,h0,h00,h1,h2,h3,eq_true hk,eq_true g1p,g2n,hvc.1,hvc.2]
  rw [hn] at hq
  exact downS_here (hq _ (((Kept.refl σ []).setD hb).setD hb))
 have g2p : o.m.n = o.n := by first | exact Decidable.not_not.1 g2 | omega
 by_cases g3 : o.m.q < 0
 ·have hn : decide (mayO o) = false := decide_eq_false (by rintro ⟨a1,a2,a3,a4,a5,a6⟩; have := (a6 hk).2.2.1; omega)
  have g3n : ¬ (0 : Int) ≤ o.m.q := by first | exact g3 | omega
  refine call73 (by simp) ?_
  simp only [strip,bodyOf,Tryz.f73,getD_body,keepN,bareOp_mk,lessOp_mk,lapp_cons,lapp_nil,List.map_cons,List.map_nil,array_toList,↓reduceIte,Nat.reduceEqDiff,Bool.false_eq_true]
  simp (disch := first | assumption | simp) only [↓sbD,sbU,tyB,Nat.reduceMul,Nat.reduceSub,Int.reduceEq,Int.reduceLT,Int.reduceLE,Int.reduceNe,Nat.reduceBneDiff,Nat.reduceBEq,decide_false,gt_iff_lt,Bool.or_self,Bool.false_eq_true,Nat.mul_one,Nat.one_mul,Nat.zero_mul,↓reduceIte,Nat.reduceEqDiff,Nat.reduceLT,Nat.reduceAdd,Nat.reduceLeDiff,reduceCtorEq,goInt,pairs,isConst,TI.isAgg,splice,Edp,dpv,Nat.beq_eq,ZV.val,List.any_cons,List.any_nil,Bool.false_and,hbx,AS_new,zeMs,bytes_dec,h0,h00,h1,h2,h3,eq_true hk,eq_true g1p,eq_true g2p,g3n,hvc.1,hvc.2]
  intro b hb
  try simp (disch := first | assumption | simp) only [↓sbD,sbU,tyB,Nat.reduceMul,Nat.reduceSub,Int.reduceEq,Int.reduceLT,Int.reduceLE,Int.reduceNe,Nat.reduceBneDiff,Nat.reduceBEq,decide_false,gt_iff_lt,Bool.or_self,Bool.false_eq_true,Nat.mul_one,Nat.one_mul,Nat.zero_mul,↓reduceIte,Nat.reduceEqDiff,Nat.reduceLT,Nat.reduceAdd,Nat.reduceLeDiff,reduceCtorEq,goInt,pairs,isConst,TI.isAgg,splice,boxS,Edp,dpv,Nat.beq_eq,ZV.val,List.any_cons,List.any_nil,Bool.false_and,AHeap.get_set_same,bytes_dec,h0,h00,h1,h2,h3,eq_true hk,eq_true g1p,eq_true g2p,g3n,hvc.1,hvc.2]
  rw [hn] at hq
  exact downS_here (hq _ (((Kept.refl σ []).setD hb).setD hb))
 have g3p : (0 : Int) ≤ o.m.q := by first | exact Decidable.not_not.1 g3 | omega
 by_cases g4 : 2 < o.m.q
 ·have hn : decide (mayO o) = false := decide_eq_false (by rintro ⟨a1,a2,a3,a4,a5,a6⟩; have := (a6 hk).2.2.2.1; omega)
  have g4n : ¬ o.m.q ≤ 2 := by first | exact g4 | omega
  refine call73 (by simp) ?_
  simp only [strip,bodyOf,Tryz.f73,getD_body,keepN,bareOp_mk,lessOp_mk,lapp_cons,lapp_nil,List.map_cons,List.map_nil,array_toList,↓reduceIte,Nat.reduceEqDiff,Bool.false_eq_true]
  simp (disch := first | assumption | simp) only [↓sbD,sbU,tyB,Nat.reduceMul,Nat.reduceSub,Int.reduceEq,Int.reduceLT,Int.reduceLE,Int.reduceNe,Nat.reduceBneDiff,Nat.reduceBEq,decide_false,gt_iff_lt,Bool.or_self,Bool.false_eq_true,Nat.mul_one,Nat.one_mul,Nat.zero_mul,↓reduceIte,Nat.reduceEqDiff,Nat.reduceLT,Nat.reduceAdd,Nat.reduceLeDiff,reduceCtorEq,goInt,pairs,isConst,TI.isAgg,splice,Edp,dpv,Nat.beq_eq,ZV.val,List.any_cons,List.any_nil,Bool.false_and,hbx,AS_new,zeMs,bytes_dec,h0,h00,h1,h2,h3,eq_true hk,eq_true g1p,eq_true g2p,g3p,g4n,hvc.1,hvc.2]
  intro b hb
  try simp (disch := first | assumption | simp) only [↓sbD,sbU,tyB,Nat.reduceMul,Nat.reduceSub,Int.reduceEq,Int.reduceLT,Int.reduceLE,Int.reduceNe,Nat.reduceBneDiff,Nat.reduceBEq,decide_false,gt_iff_lt,Bool.or_self,Bool.false_eq_true,Nat.mul_one,Nat.one_mul,Nat.zero_mul,↓reduceIte,Nat.reduceEqDiff,Nat.reduceLT,Nat.reduceAdd,Nat.reduceLeDiff,reduceCtorEq,goInt,pairs,isConst,TI.isAgg,splice,boxS,Edp,dpv,Nat.beq_eq,ZV.val,List.any_cons,List.any_nil,Bool.false_and,AHeap.get_set_same,bytes_dec,h0,h00,h1,h2,h3,eq_true hk,eq_true g1p,eq_true g2p,g3p,g4n,hvc.1,hvc.2]
  rw [hn] at hq
  exact downS_here (hq _ (((Kept.refl σ []).setD hb).setD hb))
 have g4p : o.m.q ≤ 2 := by first | exact Decidable.not_not.1 g4 | omega
 by_cases g5 : o.m.u < 0
 ·have hn : decide (mayO o) = false := decide_eq_false (by rintro ⟨a1,a2,a3,a4,a5,a6⟩; have := (a6 hk).2.2.2.2.1; omega)
  have g5n : ¬ (0 : Int) ≤ o.m.u := by first | exact g5 | omega
  refine call73 (by simp) ?_
  simp only [strip,bodyOf,Tryz.f73,getD_body,keepN,bareOp_mk,lessOp_mk,lapp_cons,lapp_nil,List.map_cons,List.map_nil,array_toList,↓reduceIte,Nat.reduceEqDiff,Bool.false_eq_true]
  simp (disch := first | assumption | simp) only [↓sbD,sbU,tyB,Nat.reduceMul,Nat.reduceSub,Int.reduceEq,Int.reduceLT,Int.reduceLE,Int.reduceNe,Nat.reduceBneDiff,Nat.reduceBEq,decide_false,gt_iff_lt,Bool.or_self,Bool.false_eq_true,Nat.mul_one,Nat.one_mul,Nat.zero_mul,↓reduceIte,Nat.reduceEqDiff,Nat.reduceLT,Nat.reduceAdd,Nat.reduceLeDiff,reduceCtorEq,goInt,pairs,isConst,TI.isAgg,splice,Edp,dpv,Nat.beq_eq,ZV.val,List.any_cons,List.any_nil,Bool.false_and,hbx,AS_new,zeMs,bytes_dec,h0,h00,h1,h2,h3,eq_true hk,eq_true g1p,eq_true g2p,g3p,g4p,g5n,hvc.1,hvc.2]
  intro b hb
  try simp (disch := first | assumption | simp) only [↓sbD,sbU,tyB,Nat.reduceMul,Nat.reduceSub,Int.reduceEq,Int.reduceLT,Int.reduceLE,Int.reduceNe,Nat.reduceBneDiff,Nat.reduceBEq,decide_false,gt_iff_lt,Bool.or_self,Bool.false_eq_true,Nat.mul_one,Nat.one_mul,Nat.zero_mul,↓reduceIte,Nat.reduceEqDiff,Nat.reduceLT,Nat.reduceAdd,Nat.reduceLeDiff,reduceCtorEq,goInt,pairs,isConst,TI.isAgg,splice,boxS,Edp,dpv,Nat.beq_eq,ZV.val,List.any_cons,List.any_nil,Bool.false_and,AHeap.get_set_same,bytes_dec,h0,h00,h1,h2,h3,eq_true hk,eq_true g1p,eq_true g2p,g3p,g4p,g5n,hvc.1,hvc.2]
  rw [hn] at hq
  exact downS_here (hq _ (((Kept.refl σ []).setD hb).setD hb))
 have g5p : (0 : Int) ≤ o.m.u := by first | exact Decidable.not_not.1 g5 | omega
 by_cases g6 : 9007199254740992 < o.m.u
 ·have hn : decide (mayO o) = false := decide_eq_false (by rintro ⟨a1,a2,a3,a4,a5,a6⟩; have := (a6 hk).2.2.2.2.2; omega)
  have g6n : ¬ o.m.u ≤ 9007199254740992 := by first | exact g6 | omega
  refine call73 (by simp) ?_
  simp only [strip,bodyOf,Tryz.f73,getD_body,keepN,bareOp_mk,lessOp_mk,lapp_cons,lapp_nil,List.map_cons,List.map_nil,array_toList,↓reduceIte,Nat.reduceEqDiff,Bool.false_eq_true]
  simp (disch := first | assumption | simp) only [↓sbD,sbU,tyB,Nat.reduceMul,Nat.reduceSub,Int.reduceEq,Int.reduceLT,Int.reduceLE,Int.reduceNe,Nat.reduceBneDiff,Nat.reduceBEq,decide_false,gt_iff_lt,Bool.or_self,Bool.false_eq_true,Nat.mul_one,Nat.one_mul,Nat.zero_mul,↓reduceIte,Nat.reduceEqDiff,Nat.reduceLT,Nat.reduceAdd,Nat.reduceLeDiff,reduceCtorEq,goInt,pairs,isConst,TI.isAgg,splice,Edp,dpv,Nat.beq_eq,ZV.val,List.any_cons,List.any_nil,Bool.false_and,hbx,AS_new,zeMs,bytes_dec,h0,h00,h1,h2,h3,eq_true hk,eq_true g1p,eq_true g2p,g3p,g4p,g5p,g6n,hvc.1,hvc.2]
  intro b hb
  try simp (disch := first | assumption | simp) only [↓sbD,sbU,tyB,Nat.reduceMul,Nat.reduceSub,Int.reduceEq,Int.reduceLT,Int.reduceLE,Int.reduceNe,Nat.reduceBneDiff,Nat.reduceBEq,decide_false,gt_iff_lt,Bool.or_self,Bool.false_eq_true,Nat.mul_one,Nat.one_mul,Nat.zero_mul,↓reduceIte,Nat.reduceEqDiff,Nat.reduceLT,Nat.reduceAdd,Nat.reduceLeDiff,reduceCtorEq,goInt,pairs,isConst,TI.isAgg,splice,boxS,Edp,dpv,Nat.beq_eq,ZV.val,List.any_cons,List.any_nil,Bool.false_and,AHeap.get_set_same,bytes_dec,h0,h00,h1,h2,h3,eq_true hk,eq_true g1p,eq_true g2p,g3p,g4p,g5p,g6n,hvc.1,hvc.2]
  rw [hn] at hq
  exact downS_here (hq _ (((Kept.refl σ []).setD hb).setD hb))
 have g6p : o.m.u ≤ 9007199254740992 := by first | exact Decidable.not_not.1 g6 | omega
 have hn : decide (mayO o) = true := decide_eq_true ⟨by omega,by omega,h1,by omega,by omega,fun _ => ⟨g1p,g2p,g3p,by omega,g5p,g6p⟩⟩
 refine call73 (by simp) ?_
 simp only [strip,bodyOf,Tryz.f73,getD_body,keepN,bareOp_mk,lessOp_mk,lapp_cons,lapp_nil,List.map_cons,List.map_nil,array_toList,↓reduceIte,Nat.reduceEqDiff,Bool.false_eq_true]
 simp (disch := first | assumption | simp) only [↓sbD,sbU,tyB,Nat.reduceMul,Nat.reduceSub,Int.reduceEq,Int.reduceLT,Int.reduceLE,Int.reduceNe,Nat.reduceBneDiff,Nat.reduceBEq,decide_false,gt_iff_lt,Bool.or_self,Bool.false_eq_true,Nat.mul_one,Nat.one_mul,Nat.zero_mul,↓reduceIte,Nat.reduceEqDiff,Nat.reduceLT,Nat.reduceAdd,Nat.reduceLeDiff,reduceCtorEq,goInt,pairs,isConst,TI.isAgg,splice,Edp,dpv,Nat.beq_eq,ZV.val,List.any_cons,List.any_nil,Bool.false_and,hbx,AS_new,zeMs,bytes_dec,h0,h00,h1,h2,h3,eq_true hk,eq_true g1p,eq_true g2p,g3p,g4p,g5p,g6p,hvc.1,hvc.2]
 intro b hb
 try simp (disch := first | assumption | simp) only [↓sbD,sbU,tyB,Nat.reduceMul,Nat.reduceSub,Int.reduceEq,Int.reduceLT,Int.reduceLE,Int.reduceNe,Nat.reduceBneDiff,Nat.reduceBEq,decide_false,gt_iff_lt,Bool.or_self,Bool.false_eq_true,Nat.mul_one,Nat.one_mul,Nat.zero_mul,↓reduceIte,Nat.reduceEqDiff,Nat.reduceLT,Nat.reduceAdd,Nat.reduceLeDiff,reduceCtorEq,goInt,pairs,isConst,TI.isAgg,splice,boxS,Edp,dpv,Nat.beq_eq,ZV.val,List.any_cons,List.any_nil,Bool.false_and,AHeap.get_set_same,bytes_dec,h0,h00,h1,h2,h3,eq_true hk,eq_true g1p,eq_true g2p,g3p,g4p,g5p,g6p,hvc.1,hvc.2]
 rw [hn] at hq
 exact downS_here (hq _ (((Kept.refl σ []).setD hb).setD hb))
end
section
variable {σ : AHeap} {Q : Value → AHeap → Prop} {s : ByteArray} {r : Nat} {st : RSt}
theorem bits256 : ∀ n,n < 256 → (n &&& 3 = n % 4) ∧ ((n &&& 4 = 4 ∧ n / 4 % 2 = 1) ∨ (n &&& 4 = 0 ∧ n / 4 % 2 = 0)) := by decide +kernel
theorem shl32 {h : Int} {τ : AHeap} : abin E τ .shl 3 true (.int .i64 h) (.int .u64 32) = some (.int .i64 (IntKind.i64.wrap (h * 4294967296))) := by
 have : abin E τ .shl 3 true (.int .i64 h) (.int .u64 32) = some (.int .i64 (IntKind.i64.wrap (h * 2 ^ 32))) := rfl
 rw [this]
 rfl
theorem specTRead {g : ByteArray} {n : Nat} (hr : IsRS σ r s st) (hs : s.size ≤ 100000000)
  (hok : ∀ m b q,RdM s g n st (.ok (m,b,q)) → ∀ v σ',DL propC 4 v m.l → Kept σ [r] σ' [r] → IsRS σ' r s (.ok q) → Q (.tuple #[.agg ⟨msC m v⟩,.int .i64 (b : Int),.nilIface]) σ')
  (hbad : ∀ k rr a : Nat,RdM s g n st (.error (k,rr,a)) → ∀ m v b σ' d z,DL propC 4 v m.l → Kept σ [r] σ' [r] → d ≤ 3 → ErN d (fv rr a z) k → Q (.tuple #[.agg ⟨msC m v⟩,.int .i64 b,fv rr a z]) σ') :
  CallS E B 64 [.pointer (some ⟨r,0,none⟩),.string g,.int .i64 (n : Int)] σ Q := by
 unfold RdM M3 M4 M5 M6 M7 M8 at hok hbad
 have hra := hr.alive
 refine call64 (by simp) ?_
 simp only [strip,bodyOf,Tryz.f64,getD_body,keepN,bareOp_mk,lessOp_mk,lapp_cons,lapp_nil,List.map_cons,List.map_nil,array_toList,↓reduceIte,Nat.reduceEqDiff,Bool.false_eq_true]
 simp (disch := first | assumption | simp) only [↓sbD,sbU,tyB,Nat.reduceMul,Nat.reduceSub,Int.reduceEq,Int.reduceLT,Int.reduceLE,Int.reduceNe,Nat.reduceBneDiff,Nat.reduceBEq,decide_false,gt_iff_lt,Bool.or_self,Bool.false_eq_true,Nat.mul_one,Nat.one_mul,Nat.zero_mul,↓reduceIte,Nat.reduceEqDiff,Nat.reduceLT,Nat.reduceAdd,Nat.reduceLeDiff,reduceCtorEq,goInt,pairs,isConst,TI.isAgg,splice,boxS,Edp,dpv,Nat.beq_eq,ZV.val,List.any_cons,List.any_nil,Bool.false_and,AS_new,zeMs]
 intro a ha
 have har : a ≠ r := by rintro rfl; exact hra ha
 generalize hσ1 : AHeap.set σ a _ = σ1
 have k1 : Kept σ [] σ1 [] := by rw [← hσ1]; exact (Kept.refl σ []).setD ha
 have K1 : Kept σ [r] σ1 [r] := k1.wid (fun _ h => by cases h) (fun _ h => .inr h)
 have r1 := hr.kept k1 (by simp)
 have ga1 : σ1.get a = .cells [.string emp,.string emp,.int .i64 0,.bool false,.slice none 0 0,.string emp,.int .i64 0,.int .i64 0,.string emp] true 0 := by rw [← hσ1]; exact AHeap.get_set_same _ _ _
 clear hσ1
 try simp (disch := first | assumption | simp) only [↓sbD,sbU,tyB,Nat.reduceMul,Nat.reduceSub,Int.reduceEq,Int.reduceLT,Int.reduceLE,Int.reduceNe,Nat.reduceBneDiff,Nat.reduceBEq,decide_false,gt_iff_lt,Bool.or_self,Bool.false_eq_true,Nat.mul_one,Nat.one_mul,Nat.zero_mul,↓reduceIte,Nat.reduceEqDiff,Nat.reduceLT,Nat.reduceAdd,Nat.reduceLeDiff,reduceCtorEq,goInt,pairs,isConst,TI.isAgg,splice,boxS,Edp,dpv,Nat.beq_eq,ZV.val,List.any_cons,List.any_nil,Bool.false_and]
 refine specSBin r1 hs fun σ2 k2 r2 => ?_
 obtain ⟨t,s2,ht⟩ : ∃ t s2,binS s st = (t,s2) := ⟨_,_,rfl⟩
 simp only [ht] at hok hbad r2 ⊢
 have K2 := K1.trans k2
 have ga2 := (k2.at ga1 (by simp) (by simp [har])).1
 simp (disch := first | assumption | simp) only [↓sbD,sbU,tyB,Nat.reduceMul,Nat.reduceSub,Int.reduceEq,Int.reduceLT,Int.reduceLE,Int.reduceNe,Nat.reduceBneDiff,Nat.reduceBEq,decide_false,gt_iff_lt,Bool.or_self,Bool.false_eq_true,Nat.mul_one,Nat.one_mul,Nat.zero_mul,↓reduceIte,Nat.reduceEqDiff,Nat.reduceLT,Nat.reduceAdd,Nat.reduceLeDiff,reduceCtorEq,goInt,pairs,isConst,TI.isAgg,splice,boxS,Edp,dpv,Nat.beq_eq,ZV.val,List.any_cons,List.any_nil,Bool.false_and]
 refine specSBin r2 hs fun σ3 k3 r3 => ?_
 obtain ⟨p,s3,hp⟩ : ∃ p s3,binS s s2 = (p,s3) := ⟨_,_,rfl⟩
 simp only [hp] at hok hbad r3 ⊢
 have K3 := K2.trans k3
 have ga3 := (k3.at ga2 (by simp) (by simp [har])).1
 simp (disch := first | assumption | simp) only [↓sbD,sbU,tyB,Nat.reduceMul,Nat.reduceSub,Int.reduceEq,Int.reduceLT,Int.reduceLE,Int.reduceNe,Nat.reduceBneDiff,Nat.reduceBEq,decide_false,gt_iff_lt,Bool.or_self,Bool.false_eq_true,Nat.mul_one,Nat.one_mul,Nat.zero_mul,↓reduceIte,Nat.reduceEqDiff,Nat.reduceLT,Nat.reduceAdd,Nat.reduceLeDiff,reduceCtorEq,goInt,pairs,isConst,TI.isAgg,splice,boxS,Edp,dpv,Nat.beq_eq,ZV.val,List.any_cons,List.any_nil,Bool.false_and,AS_new,zeMs]
 intro e he3
 have hae : a ≠ e := by rintro rfl; rw [ga3] at he3; cases he3
 have her : e ≠ r := by rintro rfl; exact r3.alive he3
 have he : σ.get e = .dead := by
  by_cases h : σ.get e = .dead
  ·exact h
  ·have := K3.get e h (by simp [her])
   rw [he3] at this; exact this.symm
 generalize hσ4 : AHeap.set (AHeap.set σ3 e _) e _ = σ4
 have K4 : Kept σ [r] σ4 [r] := by rw [← hσ4]; exact (K3.setD he).setD he
 have k4 : Kept σ3 [] σ4 [] := by rw [← hσ4]; exact ((Kept.refl _ []).setD he3).setD he3
 have r4 := r3.kept k4 (by simp)
 have ge4 : σ4.get e = .cells [.string t,.string p,.int .i64 0,.bool false,.slice none 0 0,.string emp,.int .i64 0,.int .i64 (n : Int),.string g] true 0 := by rw [← hσ4]; exact AHeap.get_set_same _ _ _
 have ga4 := (k4.at ga3 (by simp) (by simp)).1
 clear hσ4
 try simp (disch := first | assumption | simp) only [↓sbD,sbU,tyB,Nat.reduceMul,Nat.reduceSub,Int.reduceEq,Int.reduceLT,Int.reduceLE,Int.reduceNe,Nat.reduceBneDiff,Nat.reduceBEq,decide_false,gt_iff_lt,Bool.or_self,Bool.false_eq_true,Nat.mul_one,Nat.one_mul,Nat.zero_mul,↓reduceIte,Nat.reduceEqDiff,Nat.reduceLT,Nat.reduceAdd,Nat.reduceLeDiff,reduceCtorEq,goInt,pairs,isConst,TI.isAgg,splice,boxS,Edp,dpv,Nat.beq_eq,ZV.val,List.any_cons,List.any_nil,Bool.false_and]
 refine specSU8 r4 hs fun σ5 k5 r5 => ?_
 obtain ⟨b,s5,hb⟩ : ∃ b s5,u8S s s3 = (b,s5) := ⟨_,_,rfl⟩
 simp only [hb] at hok hbad r5 ⊢
 have K5 := K4.trans k5
 have ga5 := (k5.at ga4 (by simp) (by simp [har])).1
 have ge5 := (k5.at ge4 (by simp) (by simp [her])).1
 have hb256 : b < 256 := by have := u8S_lt (s := s) (st := s3); rw [hb] at this; exact this
 obtain ⟨b3,b4⟩ := bits256 b hb256
 have ha3 : aint .and .i64 (b : Int) 3 = some (.int .i64 ((b % 4 : Nat) : Int)) := by
  have := and_nat (n := b) (m := 3) (by omega) (by omega)
  rw [b3] at this
  exact this
 have C4 : (aint .and .i64 (b : Int) 4 = some (.int .i64 4) ∧ decide (b / 4 % 2 = 1) = true) ∨ (aint .and .i64 (b : Int) 4 = some (.int .i64 0) ∧ decide (b / 4 % 2 = 1) = false) := by
  have := and_nat (n := b) (m := 4) (by omega) (by omega)
  rcases b4 with ⟨b4,q⟩ | ⟨b4,q⟩
  ·exact .inl ⟨by rw [b4] at this; exact this,decide_eq_true q⟩
  ·exact .inr ⟨by rw [b4] at this; exact this,decide_eq_false (by omega)⟩
 clear b3 b4
 rcases C4 with ⟨ha4,d4⟩ | ⟨ha4,d4⟩
 all_goals
  simp (disch := first | assumption | simp) only [↓sbD,sbU,tyB,Nat.reduceMul,Nat.reduceSub,Int.reduceEq,Int.reduceLT,Int.reduceLE,Int.reduceNe,Nat.reduceBneDiff,Nat.reduceBEq,decide_false,gt_iff_lt,Bool.or_self,Bool.false_eq_true,Nat.mul_one,Nat.one_mul,Nat.zero_mul,↓reduceIte,Nat.reduceEqDiff,Nat.reduceLT,Nat.reduceAdd,Nat.reduceLeDiff,reduceCtorEq,goInt,pairs,isConst,TI.isAgg,splice,boxS,Edp,dpv,Nat.beq_eq,ZV.val,List.any_cons,List.any_nil,Bool.false_and,ha3,ha4,ge5,List.length_cons,List.length_nil,List.cons_append,List.nil_append,List.drop_succ_cons,List.drop_zero,List.set_cons_zero,List.set_cons_succ,decide_true]
  generalize hσ6 : AHeap.set (AHeap.set σ5 e _) e _ = σ6
  have K6 : Kept σ [r] σ6 [r] := by rw [← hσ6]; exact (K5.setD he).setD he
  have k6 : Kept σ5 [e] σ6 [e] := by rw [← hσ6]; exact (Kept.set (by simp)).trans (Kept.set (by simp))
  have r6 := r5.kept k6 (by simp [her.symm])
  have ge6 : σ6.get e = .cells [.string t,.string p,.int .i64 ((b % 4 : Nat) : Int),.bool (decide (b / 4 % 2 = 1)),.slice none 0 0,.string emp,.int .i64 0,.int .i64 (n : Int),.string g] true 0 := by rw [← hσ6,d4]; exact AHeap.get_set_same _ _ _
  have ga6 := (k6.at ga5 (by simp) (by simp [hae])).1
  clear hσ6
  try simp (disch := first | assumption | simp) only [↓sbD,sbU,tyB,Nat.reduceMul,Nat.reduceSub,Int.reduceEq,Int.reduceLT,Int.reduceLE,Int.reduceNe,Nat.reduceBneDiff,Nat.reduceBEq,decide_false,gt_iff_lt,Bool.or_self,Bool.false_eq_true,Nat.mul_one,Nat.one_mul,Nat.zero_mul,↓reduceIte,Nat.reduceEqDiff,Nat.reduceLT,Nat.reduceAdd,Nat.reduceLeDiff,reduceCtorEq,goInt,pairs,isConst,TI.isAgg,splice,boxS,Edp,dpv,Nat.beq_eq,ZV.val,List.any_cons,List.any_nil,Bool.false_and]
  refine specSBin r6 hs fun σ7 k7 r7 => ?_
  obtain ⟨f,s7,hf⟩ : ∃ f s7,binS s s5 = (f,s7) := ⟨_,_,rfl⟩
  simp only [hf] at hok hbad r7 ⊢
  have K7 := K6.trans k7
  have ga7 := (k7.at ga6 (by simp) (by simp [har])).1
  have ge7 := (k7.at ge6 (by simp) (by simp [her])).1
  simp (disch := first | assumption | simp) only [↓sbD,sbU,tyB,Nat.reduceMul,Nat.reduceSub,Int.reduceEq,Int.reduceLT,Int.reduceLE,Int.reduceNe,Nat.reduceBneDiff,Nat.reduceBEq,decide_false,gt_iff_lt,Bool.or_self,Bool.false_eq_true,Nat.mul_one,Nat.one_mul,Nat.zero_mul,↓reduceIte,Nat.reduceEqDiff,Nat.reduceLT,Nat.reduceAdd,Nat.reduceLeDiff,reduceCtorEq,goInt,pairs,isConst,TI.isAgg,splice,boxS,Edp,dpv,Nat.beq_eq,ZV.val,List.any_cons,List.any_nil,Bool.false_and,ge7,List.length_cons,List.length_nil,List.cons_append,List.nil_append,List.drop_succ_cons,List.drop_zero,List.set_cons_zero,List.set_cons_succ,decide_true]
  generalize hσ8 : AHeap.set σ7 e _ = σ8
  have K8 : Kept σ [r] σ8 [r] := by rw [← hσ8]; exact K7.setD he
  have k8 : Kept σ7 [e] σ8 [e] := by rw [← hσ8]; exact Kept.set (by simp)
  have r8 := r7.kept k8 (by simp [her.symm])
  have ge8 : σ8.get e = .cells [.string t,.string p,.int .i64 ((b % 4 : Nat) : Int),.bool (decide (b / 4 % 2 = 1)),.slice none 0 0,.string f,.int .i64 0,.int .i64 (n : Int),.string g] true 0 := by rw [← hσ8]; exact AHeap.get_set_same _ _ _
  have ga8 := (k8.at ga7 (by simp) (by simp [hae])).1
  clear hσ8
  try simp (disch := first | assumption | simp) only [↓sbD,sbU,tyB,Nat.reduceMul,Nat.reduceSub,Int.reduceEq,Int.reduceLT,Int.reduceLE,Int.reduceNe,Nat.reduceBneDiff,Nat.reduceBEq,decide_false,gt_iff_lt,Bool.or_self,Bool.false_eq_true,Nat.mul_one,Nat.one_mul,Nat.zero_mul,↓reduceIte,Nat.reduceEqDiff,Nat.reduceLT,Nat.reduceAdd,Nat.reduceLeDiff,reduceCtorEq,goInt,pairs,isConst,TI.isAgg,splice,boxS,Edp,dpv,Nat.beq_eq,ZV.val,List.any_cons,List.any_nil,Bool.false_and]
  refine specSU32 r8 hs fun σ9 k9 r9 => ?_
  obtain ⟨h,s9,hh⟩ : ∃ h s9,u32S s s7 = (h,s9) := ⟨_,_,rfl⟩
  simp only [hh] at hok hbad r9 ⊢
  have K9 := K8.trans k9
  have ga9 := (k9.at ga8 (by simp) (by simp [har])).1
  have ge9 := (k9.at ge8 (by simp) (by simp [her])).1
  simp (disch := first | assumption | simp) only [↓sbD,sbU,tyB,Nat.reduceMul,Nat.reduceSub,Int.reduceEq,Int.reduceLT,Int.reduceLE,Int.reduceNe,Nat.reduceBneDiff,Nat.reduceBEq,decide_false,gt_iff_lt,Bool.or_self,Bool.false_eq_true,Nat.mul_one,Nat.one_mul,Nat.zero_mul,↓reduceIte,Nat.reduceEqDiff,Nat.reduceLT,Nat.reduceAdd,Nat.reduceLeDiff,reduceCtorEq,goInt,pairs,isConst,TI.isAgg,splice,boxS,Edp,dpv,Nat.beq_eq,ZV.val,List.any_cons,List.any_nil,Bool.false_and,ge9,shl32,List.length_cons,List.length_nil,List.cons_append,List.nil_append,List.drop_succ_cons,List.drop_zero,List.set_cons_zero,List.set_cons_succ,decide_true]
  generalize hσ10 : AHeap.set σ9 e _ = σ10
  have K10 : Kept σ [r] σ10 [r] := by rw [← hσ10]; exact K9.setD he
  have k10 : Kept σ9 [e] σ10 [e] := by rw [← hσ10]; exact Kept.set (by simp)
  have r10 := r9.kept k10 (by simp [her.symm])
  have ge10 : σ10.get e = .cells [.string t,.string p,.int .i64 ((b % 4 : Nat) : Int),.bool (decide (b / 4 % 2 = 1)),.slice none 0 0,.string f,.int .i64 (IntKind.i64.wrap ((h : Int) * 4294967296)),.int .i64 (n : Int),.string g] true 0 := by rw [← hσ10]; exact AHeap.get_set_same _ _ _
  have ga10 := (k10.at ga9 (by simp) (by simp [hae])).1
  clear hσ10
  try simp (disch := first | assumption | simp) only [↓sbD,sbU,tyB,Nat.reduceMul,Nat.reduceSub,Int.reduceEq,Int.reduceLT,Int.reduceLE,Int.reduceNe,Nat.reduceBneDiff,Nat.reduceBEq,decide_false,gt_iff_lt,Bool.or_self,Bool.false_eq_true,Nat.mul_one,Nat.one_mul,Nat.zero_mul,↓reduceIte,Nat.reduceEqDiff,Nat.reduceLT,Nat.reduceAdd,Nat.reduceLeDiff,reduceCtorEq,goInt,pairs,isConst,TI.isAgg,splice,boxS,Edp,dpv,Nat.beq_eq,ZV.val,List.any_cons,List.any_nil,Bool.false_and,ge10]
  refine specSU32 r10 hs fun σ11 k11 r11 => ?_
  obtain ⟨w,s11,hw⟩ : ∃ w s11,u32S s s9 = (w,s11) := ⟨_,_,rfl⟩
  simp only [hw] at hok hbad r11 ⊢
  have K11 := K10.trans k11
  have ga11 := (k11.at ga10 (by simp) (by simp [har])).1
  have ge11 := (k11.at ge10 (by simp) (by simp [her])).1
  have hw32 : w < 4294967296 := by have := u32S_lt (s := s) (st := s9); rw [hw] at this; exact this
  have hor := or_hi (hi := h) (lo := w) hw32
  simp (disch := first | assumption | simp) only [↓sbD,sbU,tyB,Nat.reduceMul,Nat.reduceSub,Int.reduceEq,Int.reduceLT,Int.reduceLE,Int.reduceNe,Nat.reduceBneDiff,Nat.reduceBEq,decide_false,gt_iff_lt,Bool.or_self,Bool.false_eq_true,Nat.mul_one,Nat.one_mul,Nat.zero_mul,↓reduceIte,Nat.reduceEqDiff,Nat.reduceLT,Nat.reduceAdd,Nat.reduceLeDiff,reduceCtorEq,goInt,pairs,isConst,TI.isAgg,splice,boxS,Edp,dpv,Nat.beq_eq,ZV.val,List.any_cons,List.any_nil,Bool.false_and,ge10,ge11,hor,List.length_cons,List.length_nil,List.cons_append,List.nil_append,List.drop_succ_cons,List.drop_zero,List.set_cons_zero,List.set_cons_succ,decide_true]
  refine drawS_l (fl := [(1,3)]) (by kernel_rfl) ?_ ?_
  rotate_left; simp only [lastP_cc,lastP_one]; rotate_left
  ·simp only [List.all_cons,List.all_nil,floatS,List.getElem?_cons_succ,List.getElem?_cons_zero,List.getElem?_toArray,Region.wanted,Bool.not_true,Bool.not_false,Bool.false_or,Bool.true_or,Bool.or_true,Bool.true_and,reads,looksWeak,aev_tmp,aev_const,upd_at,↓reduceIte,Nat.reduceEqDiff,Nat.reduceLT,Nat.reduceAdd,ofL_zero,ofL_succ,blkOf,oeq_refl,oeq_of,dead_cells,dead_map,Bool.and_true,Bool.and_self,Bool.false_eq_true,Bool.not_false,ge10,ge11]
   try rfl
  try simp (disch := first | assumption | simp) only [↓sbD,sbU,tyB,Nat.reduceMul,Nat.reduceSub,Int.reduceEq,Int.reduceLT,Int.reduceLE,Int.reduceNe,Nat.reduceBneDiff,Nat.reduceBEq,decide_false,gt_iff_lt,Bool.or_self,Bool.false_eq_true,Nat.mul_one,Nat.one_mul,Nat.zero_mul,↓reduceIte,Nat.reduceEqDiff,Nat.reduceLT,Nat.reduceAdd,Nat.reduceLeDiff,reduceCtorEq,goInt,pairs,isConst,TI.isAgg,splice,boxS,Edp,dpv,Nat.beq_eq,ZV.val,List.any_cons,List.any_nil,Bool.false_and]
  generalize hσ12 : AHeap.set σ11 e _ = σ12
  have K12 : Kept σ [r] σ12 [r] := by rw [← hσ12]; exact K11.setD he
  have k12 : Kept σ11 [e] σ12 [e] := by rw [← hσ12]; exact Kept.set (by simp)
  have r12 := r11.kept k12 (by simp [her.symm])
  have ge12 : σ12.get e = .cells [.string t,.string p,.int .i64 ((b % 4 : Nat) : Int),.bool (decide (b / 4 % 2 = 1)),.slice none 0 0,.string f,.int .i64 (IntKind.i64.wrap ((h : Int) * 4294967296 + (w : Int))),.int .i64 (n : Int),.string g] true 0 := by rw [← hσ12]; exact AHeap.get_set_same _ _ _
  have ga12 := (k12.at ga11 (by simp) (by simp [hae])).1
  clear hσ12
  try simp (disch := first | assumption | simp) only [↓sbD,sbU,tyB,Nat.reduceMul,Nat.reduceSub,Int.reduceEq,Int.reduceLT,Int.reduceLE,Int.reduceNe,Nat.reduceBneDiff,Nat.reduceBEq,decide_false,gt_iff_lt,Bool.or_self,Bool.false_eq_true,Nat.mul_one,Nat.one_mul,Nat.zero_mul,↓reduceIte,Nat.reduceEqDiff,Nat.reduceLT,Nat.reduceAdd,Nat.reduceLeDiff,reduceCtorEq,goInt,pairs,isConst,TI.isAgg,splice,boxS,Edp,dpv,Nat.beq_eq,ZV.val,List.any_cons,List.any_nil,Bool.false_and]
  refine specSRead r12 hs (fun l q hrd v σ13 hv k13 r13 => ?_) fun k rr a' hrd σ13 d z k13 hd her' => ?_
  ·have hvc := dl_vc hv
   have ga13 := (k13.at ga12 (by simp) (by simp [har])).1
   have ge13 := (k13.at ge12 (by simp) (by simp [her])).1
   have K13 := K12.trans k13
   simp (disch := first | assumption | simp) only [↓sbD,sbU,tyB,Nat.reduceMul,Nat.reduceSub,Int.reduceEq,Int.reduceLT,Int.reduceLE,Int.reduceNe,Nat.reduceBneDiff,Nat.reduceBEq,decide_false,gt_iff_lt,Bool.or_self,Bool.false_eq_true,Nat.mul_one,Nat.one_mul,Nat.zero_mul,↓reduceIte,Nat.reduceEqDiff,Nat.reduceLT,Nat.reduceAdd,Nat.reduceLeDiff,reduceCtorEq,goInt,pairs,isConst,TI.isAgg,splice,boxS,Edp,dpv,Nat.beq_eq,ZV.val,List.any_cons,List.any_nil,Bool.false_and,ge13,hvc.1,hvc.2,List.length_cons,List.length_nil,List.cons_append,List.nil_append,List.drop_succ_cons,List.drop_zero,List.set_cons_zero,List.set_cons_succ,decide_true]
   generalize hσ14 : AHeap.set σ13 e _ = σ14
   have ge14 : σ14.get e = .cells [.string t,.string p,.int .i64 ((b % 4 : Nat) : Int),.bool (decide (b / 4 % 2 = 1)),v,.string f,.int .i64 (IntKind.i64.wrap ((h : Int) * 4294967296 + (w : Int))),.int .i64 (n : Int),.string g] true 0 := by rw [← hσ14]; exact AHeap.get_set_same _ _ _
   have k14 : Kept σ13 [e] σ14 [e] := by rw [← hσ14]; exact Kept.set (by simp)
   have K14 : Kept σ [r] σ14 [r] := by rw [← hσ14]; exact K13.setD he
   have r14 := r13.kept k14 (by simp [her.symm])
   have ga14 := (k14.at ga13 (by simp) (by simp [hae])).1
   clear hσ14
   simp (disch := first | assumption | simp) only [↓sbD,sbU,tyB,Nat.reduceMul,Nat.reduceSub,Int.reduceEq,Int.reduceLT,Int.reduceLE,Int.reduceNe,Nat.reduceBneDiff,Nat.reduceBEq,decide_false,gt_iff_lt,Bool.or_self,Bool.false_eq_true,Nat.mul_one,Nat.one_mul,Nat.zero_mul,↓reduceIte,Nat.reduceEqDiff,Nat.reduceLT,Nat.reduceAdd,Nat.reduceLeDiff,reduceCtorEq,goInt,pairs,isConst,TI.isAgg,splice,boxS,Edp,dpv,Nat.beq_eq,ZV.val,List.any_cons,List.any_nil,Bool.false_and,ge14,ga14,hvc.1,hvc.2,AHeap.get_set_same,res_cellc,resC_some]
   exact downS_here (hok (mOf g n t p b f h w l) b q ⟨_,hrd,rfl⟩ v _ hv (K14.setD ha) (r14.set har))
  ·have ga13 := (k13.at ga12 (by simp) (by simp [har])).1
   have ge13 := (k13.at ge12 (by simp) (by simp [her])).1
   have K13 := K12.trans k13
   have v0 : vcells (.slice none 0 0) = [.slice none 0 0] ∧ oneCell (.slice none 0 0) = true := ⟨rfl,rfl⟩
   simp (disch := first | assumption | simp) only [↓sbD,sbU,tyB,Nat.reduceMul,Nat.reduceSub,Int.reduceEq,Int.reduceLT,Int.reduceLE,Int.reduceNe,Nat.reduceBneDiff,Nat.reduceBEq,decide_false,gt_iff_lt,Bool.or_self,Bool.false_eq_true,Nat.mul_one,Nat.one_mul,Nat.zero_mul,↓reduceIte,Nat.reduceEqDiff,Nat.reduceLT,Nat.reduceAdd,Nat.reduceLeDiff,reduceCtorEq,goInt,pairs,isConst,TI.isAgg,splice,boxS,Edp,dpv,Nat.beq_eq,ZV.val,List.any_cons,List.any_nil,Bool.false_and,ge13,v0.1,v0.2,List.length_cons,List.length_nil,List.cons_append,List.nil_append,List.drop_succ_cons,List.drop_zero,List.set_cons_zero,List.set_cons_succ,decide_true]
   generalize hσ14 : AHeap.set σ13 e _ = σ14
   have ge14 : σ14.get e = .cells [.string t,.string p,.int .i64 ((b % 4 : Nat) : Int),.bool (decide (b / 4 % 2 = 1)),.slice none 0 0,.string f,.int .i64 (IntKind.i64.wrap ((h : Int) * 4294967296 + (w : Int))),.int .i64 (n : Int),.string g] true 0 := by rw [← hσ14]; exact AHeap.get_set_same _ _ _
   have k14 : Kept σ13 [e] σ14 [e] := by rw [← hσ14]; exact Kept.set (by simp)
   have K14 : Kept σ [r] σ14 [r] := by rw [← hσ14]; exact K13.setD he
   have ga14 := (k14.at ga13 (by simp) (by simp [hae])).1
   clear hσ14
   simp (disch := first | assumption | simp) only [↓sbD,sbU,tyB,Nat.reduceMul,Nat.reduceSub,Int.reduceEq,Int.reduceLT,Int.reduceLE,Int.reduceNe,Nat.reduceBneDiff,Nat.reduceBEq,decide_false,gt_iff_lt,Bool.or_self,Bool.false_eq_true,Nat.mul_one,Nat.one_mul,Nat.zero_mul,↓reduceIte,Nat.reduceEqDiff,Nat.reduceLT,Nat.reduceAdd,Nat.reduceLeDiff,reduceCtorEq,goInt,pairs,isConst,TI.isAgg,splice,boxS,Edp,dpv,Nat.beq_eq,ZV.val,List.any_cons,List.any_nil,Bool.false_and,ge14,ga14,AHeap.get_set_same,res_cellc,resC_some]
   exact downS_here (hbad k rr a' ⟨_,hrd,rfl⟩ (mOf g n t p b f h w []) (.slice none 0 0) b _ d z (.inl ⟨rfl,rfl⟩) (K14.setD ha) hd her')
end
section
variable {σ : AHeap} {Q : Value → AHeap → Prop} {s : ByteArray}
abbrev opZ : List Value := [.int .i64 0,.string emp,.int .i64 0,.string emp,.string emp,.int .i64 0,.bool false,.slice none 0 0,.string emp,.int .i64 0,.int .i64 0,.string emp]
theorem specTTake (hs : s.size ≤ 100000000)
  (hok : ∀ o,DecO s (.ok o) → ∀ v σ',DL propC 4 v o.m.l → Kept σ [] σ' [] → Q (.tuple #[.agg ⟨opC o v⟩,.nilIface]) σ')
  (hbad : ∀ k rr a : Nat,DecO s (.error (k,rr,a)) → ∀ σ' d z,Kept σ [] σ' [] → d ≤ 3 → ErN d (fv rr a z) k → Q (.tuple #[.agg ⟨[.int .i64 0,.string emp,.int .i64 0,.string emp,.string emp,.int .i64 0,.bool false,.slice none 0 0,.string emp,.int .i64 0,.int .i64 0,.string emp]⟩,fv rr a z]) σ') :
  CallS E B 16 [.string s] σ Q := by
 unfold DecO O0 at hok hbad
 refine call16 (by simp) ?_
 simp only [strip,bodyOf,Tryz.f16,getD_body,keepN,bareOp_mk,lessOp_mk,lapp_cons,lapp_nil,List.map_cons,List.map_nil,array_toList,↓reduceIte,Nat.reduceEqDiff,Bool.false_eq_true]
 simp (disch := first | assumption | simp) only [↓sbD,sbU,tyB,Nat.reduceMul,Nat.reduceSub,Int.reduceEq,Int.reduceLT,Int.reduceLE,Int.reduceNe,Nat.reduceBneDiff,Nat.reduceBEq,decide_false,gt_iff_lt,Bool.or_self,Bool.false_eq_true,Nat.mul_one,Nat.one_mul,Nat.zero_mul,↓reduceIte,Nat.reduceEqDiff,Nat.reduceLT,Nat.reduceAdd,Nat.reduceLeDiff,reduceCtorEq,goInt,pairs,isConst,TI.isAgg,splice,boxS,Edp,dpv,Nat.beq_eq,ZV.val,List.any_cons,List.any_nil,Bool.false_and,AS_new,zeOp]
 intro a ha
 generalize hσ1 : AHeap.set σ a _ = σ1
 have K1 : Kept σ [] σ1 [] := by rw [← hσ1]; exact (Kept.refl σ []).setD ha
 have ga1 : σ1.get a = .cells opZ true 0 := by rw [← hσ1]; exact AHeap.get_set_same _ _ _
 clear hσ1
 try simp (disch := first | assumption | simp) only [↓sbD,sbU,tyB,Nat.reduceMul,Nat.reduceSub,Int.reduceEq,Int.reduceLT,Int.reduceLE,Int.reduceNe,Nat.reduceBneDiff,Nat.reduceBEq,decide_false,gt_iff_lt,Bool.or_self,Bool.false_eq_true,Nat.mul_one,Nat.one_mul,Nat.zero_mul,↓reduceIte,Nat.reduceEqDiff,Nat.reduceLT,Nat.reduceAdd,Nat.reduceLeDiff,reduceCtorEq,goInt,pairs,isConst,TI.isAgg,splice,boxS,Edp,dpv,Nat.beq_eq,ZV.val,List.any_cons,List.any_nil,Bool.false_and]
 refine specRNew fun r σ2 hr k2 i2 => ?_
 have r2 : IsRS σ2 r s (.ok 0) := ⟨Nat.zero_le _,i2⟩
 have har : a ≠ r := by rintro rfl; rw [ga1] at hr; cases hr
 have K2 := K1.trans k2
 have ga2 := (k2.at ga1 (by simp) (by simp)).1
 have hrd : σ.get r = .dead := by
  by_cases h : σ.get r = .dead
  ·exact h
  ·have := K1.get r h (by simp); rw [hr] at this; exact this.symm
 simp (disch := first | assumption | simp) only [↓sbD,sbU,tyB,Nat.reduceMul,Nat.reduceSub,Int.reduceEq,Int.reduceLT,Int.reduceLE,Int.reduceNe,Nat.reduceBneDiff,Nat.reduceBEq,decide_false,gt_iff_lt,Bool.or_self,Bool.false_eq_true,Nat.mul_one,Nat.one_mul,Nat.zero_mul,↓reduceIte,Nat.reduceEqDiff,Nat.reduceLT,Nat.reduceAdd,Nat.reduceLeDiff,reduceCtorEq,goInt,pairs,isConst,TI.isAgg,splice,boxS,Edp,dpv,Nat.beq_eq,ZV.val,List.any_cons,List.any_nil,Bool.false_and]
 refine specSU8 r2 hs fun σ3 k3 r3 => ?_
 obtain ⟨k,s3,hk⟩ : ∃ k s3,u8S s (.ok 0) = (k,s3) := ⟨_,_,rfl⟩
 simp only [hk,O1] at hok hbad r3 ⊢
 have K3 := K2.trans k3
 have ga3 := (k3.at ga2 (by simp) (by simp [har])).1
 simp (disch := first | assumption | simp) only [↓sbD,sbU,tyB,Nat.reduceMul,Nat.reduceSub,Int.reduceEq,Int.reduceLT,Int.reduceLE,Int.reduceNe,Nat.reduceBneDiff,Nat.reduceBEq,decide_false,gt_iff_lt,Bool.or_self,Bool.false_eq_true,Nat.mul_one,Nat.one_mul,Nat.zero_mul,↓reduceIte,Nat.reduceEqDiff,Nat.reduceLT,Nat.reduceAdd,Nat.reduceLeDiff,reduceCtorEq,goInt,pairs,isConst,TI.isAgg,splice,boxS,Edp,dpv,Nat.beq_eq,ZV.val,List.any_cons,List.any_nil,Bool.false_and]
 refine specSBin r3 hs fun σ4 k4 r4 => ?_
 obtain ⟨g,s4,hg⟩ : ∃ g s4,binS s s3 = (g,s4) := ⟨_,_,rfl⟩
 simp only [hg,O2] at hok hbad r4 ⊢
 have K4 := K3.trans k4
 have ga4 := (k4.at ga3 (by simp) (by simp [har])).1
 simp (disch := first | assumption | simp) only [↓sbD,sbU,tyB,Nat.reduceMul,Nat.reduceSub,Int.reduceEq,Int.reduceLT,Int.reduceLE,Int.reduceNe,Nat.reduceBneDiff,Nat.reduceBEq,decide_false,gt_iff_lt,Bool.or_self,Bool.false_eq_true,Nat.mul_one,Nat.one_mul,Nat.zero_mul,↓reduceIte,Nat.reduceEqDiff,Nat.reduceLT,Nat.reduceAdd,Nat.reduceLeDiff,reduceCtorEq,goInt,pairs,isConst,TI.isAgg,splice,boxS,Edp,dpv,Nat.beq_eq,ZV.val,List.any_cons,List.any_nil,Bool.false_and]
 refine specSU32 r4 hs fun σ5 k5 r5 => ?_
 obtain ⟨n,s5,hn⟩ : ∃ n s5,u32S s s4 = (n,s5) := ⟨_,_,rfl⟩
 simp only [hn] at hok hbad r5 ⊢
 have K5 := K4.trans k5
 have ga5 := (k5.at ga4 (by simp) (by simp [har])).1
 simp (disch := first | assumption | simp) only [↓sbD,sbU,tyB,Nat.reduceMul,Nat.reduceSub,Int.reduceEq,Int.reduceLT,Int.reduceLE,Int.reduceNe,Nat.reduceBneDiff,Nat.reduceBEq,decide_false,gt_iff_lt,Bool.or_self,Bool.false_eq_true,Nat.mul_one,Nat.one_mul,Nat.zero_mul,↓reduceIte,Nat.reduceEqDiff,Nat.reduceLT,Nat.reduceAdd,Nat.reduceLeDiff,reduceCtorEq,goInt,pairs,isConst,TI.isAgg,splice,boxS,Edp,dpv,Nat.beq_eq,ZV.val,List.any_cons,List.any_nil,Bool.false_and,AS_new,zeOp]
 intro e he
 have hae : a ≠ e := by rintro rfl; rw [ga5] at he; cases he
 have her : e ≠ r := by rintro rfl; exact r5.alive he
 generalize hσ6 : AHeap.set (AHeap.set σ5 e _) e _ = σ6
 have k6 : Kept σ5 [] σ6 [] := by rw [← hσ6]; exact ((Kept.refl _ []).setD he).setD he
 have K6 : Kept σ [] σ6 [r] := K5.trans (k6.wid (fun _ h => by cases h) (fun _ h => .inr h))
 have r6 := r5.kept k6 (by simp)
 have ga6 := (k6.at ga5 (by simp) (by simp)).1
 have ge6 : σ6.get e = .cells [.int .i64 (k : Int),.string g,.int .i64 (n : Int),.string emp,.string emp,.int .i64 0,.bool false,.slice none 0 0,.string emp,.int .i64 0,.int .i64 0,.string emp] true 0 := by rw [← hσ6]; exact AHeap.get_set_same _ _ _
 clear hσ6
 by_cases hk1 : k = 1
 focus
  subst hk1
  have h11 : ((1 : Nat) : Int) = 1 := rfl
  simp only [if_true] at hok hbad
  simp (disch := first | assumption | simp) only [↓sbD,sbU,tyB,Nat.reduceMul,Nat.reduceSub,Int.reduceEq,Int.reduceLT,Int.reduceLE,Int.reduceNe,Nat.reduceBneDiff,Nat.reduceBEq,decide_false,gt_iff_lt,Bool.or_self,Bool.false_eq_true,Nat.mul_one,Nat.one_mul,Nat.zero_mul,↓reduceIte,Nat.reduceEqDiff,Nat.reduceLT,Nat.reduceAdd,Nat.reduceLeDiff,reduceCtorEq,goInt,pairs,isConst,TI.isAgg,splice,boxS,Edp,dpv,Nat.beq_eq,ZV.val,List.any_cons,List.any_nil,Bool.false_and,ge6,h11]
  refine specTRead r6 hs (fun m b q hrd' v σ7 hv k7 r7 => ?_) fun kk rr aa hrd' m v b σ7 d z hv k7 hd her' => ?_
  rotate_left
  ·have ga7 := (k7.at ga6 (by simp) (by simp [har])).1
   have hvc := dl_vc hv
   simp only [msC]
   simp (disch := first | assumption | simp) only [↓sbD,sbU,tyB,Nat.reduceMul,Nat.reduceSub,Int.reduceEq,Int.reduceLT,Int.reduceLE,Int.reduceNe,Nat.reduceBneDiff,Nat.reduceBEq,decide_false,gt_iff_lt,Bool.or_self,Bool.false_eq_true,Nat.mul_one,Nat.one_mul,Nat.zero_mul,↓reduceIte,Nat.reduceEqDiff,Nat.reduceLT,Nat.reduceAdd,Nat.reduceLeDiff,reduceCtorEq,goInt,pairs,isConst,TI.isAgg,splice,boxS,Edp,dpv,Nat.beq_eq,ZV.val,List.any_cons,List.any_nil,Bool.false_and,AS_new,zeMs,zeOp,hvc.1,hvc.2]
   intro c hc
   have hac : a ≠ c := by rintro rfl; rw [ga7] at hc; cases hc
   have ca : ∀ (τ : AHeap) o,(AHeap.set τ c o).get a = τ.get a := fun τ o => AHeap.get_set_ne _ _ hac.symm
   have hfin : ∀ o1 o2 o3,Kept σ [] (((σ7.set c o1).set c o2).set a o3) [] := fun o1 o2 o3 => (((K6.trans k7).trans (((Kept.refl σ7 [r]).setD hc).setD hc)).none).setD ha
   try simp (disch := first | assumption | simp) only [↓sbD,sbU,tyB,Nat.reduceMul,Nat.reduceSub,Int.reduceEq,Int.reduceLT,Int.reduceLE,Int.reduceNe,Nat.reduceBneDiff,Nat.reduceBEq,decide_false,gt_iff_lt,Bool.or_self,Bool.false_eq_true,Nat.mul_one,Nat.one_mul,Nat.zero_mul,↓reduceIte,Nat.reduceEqDiff,Nat.reduceLT,Nat.reduceAdd,Nat.reduceLeDiff,reduceCtorEq,goInt,pairs,isConst,TI.isAgg,splice,boxS,Edp,dpv,Nat.beq_eq,ZV.val,List.any_cons,List.any_nil,Bool.false_and,ca,ga7,zeOp,AHeap.get_set_same,res_cellc,resC_some]
   try simp (disch := first | assumption | simp) only [↓sbD,sbU,tyB,Nat.reduceMul,Nat.reduceSub,Int.reduceEq,Int.reduceLT,Int.reduceLE,Int.reduceNe,Nat.reduceBneDiff,Nat.reduceBEq,decide_false,gt_iff_lt,Bool.or_self,Bool.false_eq_true,Nat.mul_one,Nat.one_mul,Nat.zero_mul,↓reduceIte,Nat.reduceEqDiff,Nat.reduceLT,Nat.reduceAdd,Nat.reduceLeDiff,reduceCtorEq,goInt,pairs,isConst,TI.isAgg,splice,boxS,Edp,dpv,Nat.beq_eq,ZV.val,List.any_cons,List.any_nil,Bool.false_and,ca,ga7,zeOp,AHeap.get_set_same,res_cellc,resC_some]
   exact downS_here (hbad kk rr aa ⟨_,hrd',rfl⟩ _ d z (hfin _ _ _) hd her')
  focus
   have ga7 := (k7.at ga6 (by simp) (by simp [har])).1
   have ge7 := (k7.at ge6 (by simp) (by simp [her])).1
   have hvc := dl_vc hv
   simp only [msC]
   simp (disch := first | assumption | simp) only [↓sbD,sbU,tyB,Nat.reduceMul,Nat.reduceSub,Int.reduceEq,Int.reduceLT,Int.reduceLE,Int.reduceNe,Nat.reduceBneDiff,Nat.reduceBEq,decide_false,gt_iff_lt,Bool.or_self,Bool.false_eq_true,Nat.mul_one,Nat.one_mul,Nat.zero_mul,↓reduceIte,Nat.reduceEqDiff,Nat.reduceLT,Nat.reduceAdd,Nat.reduceLeDiff,reduceCtorEq,goInt,pairs,isConst,TI.isAgg,splice,boxS,Edp,dpv,Nat.beq_eq,ZV.val,List.any_cons,List.any_nil,Bool.false_and,AS_new,zeMs,hvc.1,hvc.2]
   intro c hc
   have hac : a ≠ c := by rintro rfl; rw [ga7] at hc; cases hc
   have hec : e ≠ c := by rintro rfl; rw [ge7] at hc; cases hc
   generalize hσ8 : AHeap.set (AHeap.set σ7 c _) c _ = σ8
   have k8 : Kept σ7 [] σ8 [] := by rw [← hσ8]; exact ((Kept.refl _ []).setD hc).setD hc
   have gc8 : σ8.get c = .cells [.string m.t,.string m.p,.int .i64 m.q,.bool m.r,v,.string m.f,.int .i64 m.u,.int .i64 m.n,.string m.g] true 0 := by rw [← hσ8]; exact AHeap.get_set_same _ _ _
   have ga8 := (k8.at ga7 (by simp) (by simp)).1
   have ge8 := (k8.at ge7 (by simp) (by simp)).1
   have r8 := r7.kept k8 (by simp)
   have K8 : Kept σ [] σ8 [r] := (K6.trans k7).trans (k8.wid (fun _ h => by cases h) (fun _ h => .inr h))
   clear hσ8
   simp (disch := first | assumption | simp) only [↓sbD,sbU,tyB,Nat.reduceMul,Nat.reduceSub,Int.reduceEq,Int.reduceLT,Int.reduceLE,Int.reduceNe,Nat.reduceBneDiff,Nat.reduceBEq,decide_false,gt_iff_lt,Bool.or_self,Bool.false_eq_true,Nat.mul_one,Nat.one_mul,Nat.zero_mul,↓reduceIte,Nat.reduceEqDiff,Nat.reduceLT,Nat.reduceAdd,Nat.reduceLeDiff,reduceCtorEq,goInt,pairs,isConst,TI.isAgg,splice,boxS,Edp,dpv,Nat.beq_eq,ZV.val,List.any_cons,List.any_nil,Bool.false_and,gc8,ge8,hvc.1,hvc.2,List.length_cons,List.length_nil,List.cons_append,List.nil_append,List.drop_succ_cons,List.drop_zero,List.set_cons_zero,List.set_cons_succ,decide_true]
   generalize hσ9 : AHeap.set σ8 e _ = σ9
   have k9 : Kept σ8 [e] σ9 [e] := by rw [← hσ9]; exact Kept.set (by simp)
   have K9 : Kept σ [] σ9 [r] := by
    rw [← hσ9]
    refine ⟨fun x hx hn => ?_,K8.new⟩
    have hxe : e ≠ x := by
     rintro rfl
     have := K5.get e hx (by simp)
     rw [he] at this; exact hx this.symm
    rw [AHeap.get_set_ne _ _ hxe]; exact K8.get x hx hn
   have r9 := r8.kept k9 (by simp [her.symm])
   have ga9 := (k9.at ga8 (by simp) (by simp [hae])).1
   obtain ⟨o,ho⟩ : ∃ o : Op1,o = ⟨1,g,n,m⟩ := ⟨_,rfl⟩
   have hvo : DL propC 4 v o.m.l := by rw [ho]; exact hv
   have ge9 : σ9.get e = .cells (opC o v) true 0 := by rw [← hσ9,ho]; exact AHeap.get_set_same _ _ _
   have hok' : ∀ o',finO s o b (.ok q) = .ok o' → ∀ v σ',DL propC 4 v o'.m.l → Kept σ [] σ' [] → Q (.tuple #[.agg ⟨opC o' v⟩,.nilIface]) σ' := fun o' h => hok o' ⟨_,hrd',by rw [← h,ho]; rfl⟩
   have hbad' : ∀ k rr a : Nat,finO s o b (.ok q) = .error (k,rr,a) → ∀ σ' d z,Kept σ [] σ' [] → d ≤ 3 → ErN d (fv rr a z) k → Q (.tuple #[.agg ⟨[.int .i64 0,.string emp,.int .i64 0,.string emp,.string emp,.int .i64 0,.bool false,.slice none 0 0,.string emp,.int .i64 0,.int .i64 0,.string emp]⟩,fv rr a z]) σ' := fun k rr a h => hbad k rr a ⟨_,hrd',by rw [← h,ho]; rfl⟩
   generalize (Except.ok q : RSt) = stt at r9 hok' hbad'
   generalize hfl : b = fl at hok' hbad'
   clear hσ9
   try simp (disch := first | assumption | simp) only [↓sbD,sbU,tyB,Nat.reduceMul,Nat.reduceSub,Int.reduceEq,Int.reduceLT,Int.reduceLE,Int.reduceNe,Nat.reduceBneDiff,Nat.reduceBEq,decide_false,gt_iff_lt,Bool.or_self,Bool.false_eq_true,Nat.mul_one,Nat.one_mul,Nat.zero_mul,↓reduceIte,Nat.reduceEqDiff,Nat.reduceLT,Nat.reduceAdd,Nat.reduceLeDiff,reduceCtorEq,goInt,pairs,isConst,TI.isAgg,splice,boxS,Edp,dpv,Nat.beq_eq,ZV.val,List.any_cons,List.any_nil,Bool.false_and,hfl]
 rotate_left
 focus
  have hk1' : ¬ (k : Int) = 1 := by omega
  simp only [if_neg hk1] at hok hbad
  simp (disch := first | assumption | simp) only [↓sbD,sbU,tyB,Nat.reduceMul,Nat.reduceSub,Int.reduceEq,Int.reduceLT,Int.reduceLE,Int.reduceNe,Nat.reduceBneDiff,Nat.reduceBEq,decide_false,gt_iff_lt,Bool.or_self,Bool.false_eq_true,Nat.mul_one,Nat.one_mul,Nat.zero_mul,↓reduceIte,Nat.reduceEqDiff,Nat.reduceLT,Nat.reduceAdd,Nat.reduceLeDiff,reduceCtorEq,goInt,pairs,isConst,TI.isAgg,splice,boxS,Edp,dpv,Nat.beq_eq,ZV.val,List.any_cons,List.any_nil,Bool.false_and,ge6,hk1']
  have K9 := K6
  have r9 := r6
  have ga9 := ga6
  obtain ⟨o,ho⟩ : ∃ o : Op1,o = ⟨k,g,n,mz⟩ := ⟨_,rfl⟩
  obtain ⟨v,hve⟩ : ∃ v : Value,v = .slice none 0 0 := ⟨_,rfl⟩
  have hvo : DL propC 4 v o.m.l := by rw [ho,hve]; exact .inl ⟨rfl,rfl⟩
  have ge9 : σ6.get e = .cells (opC o v) true 0 := by rw [ge6,ho,hve]; rfl
  obtain ⟨fl,hfl⟩ : ∃ fl : Nat,fl = 0 := ⟨_,rfl⟩
  have hok' : ∀ o',finO s o fl s5 = .ok o' → ∀ v σ',DL propC 4 v o'.m.l → Kept σ [] σ' [] → Q (.tuple #[.agg ⟨opC o' v⟩,.nilIface]) σ' := fun o' h => hok o' (by rw [← h,ho,hfl])
  have hbad' : ∀ k rr a : Nat,finO s o fl s5 = .error (k,rr,a) → ∀ σ' d z,Kept σ [] σ' [] → d ≤ 3 → ErN d (fv rr a z) k → Q (.tuple #[.agg ⟨[.int .i64 0,.string emp,.int .i64 0,.string emp,.string emp,.int .i64 0,.bool false,.slice none 0 0,.string emp,.int .i64 0,.int .i64 0,.string emp]⟩,fv rr a z]) σ' := fun k rr a h => hbad k rr a (by rw [← h,ho,hfl])
 all_goals
  unfold finO at hok' hbad'
  refine specSDone r9 hs (fun hend => ?_) fun k q d z hend hd her' => ?_
  rotate_left
  ·rw [hend] at hbad'
   simp (disch := first | assumption | simp) only [↓sbD,sbU,tyB,Nat.reduceMul,Nat.reduceSub,Int.reduceEq,Int.reduceLT,Int.reduceLE,Int.reduceNe,Nat.reduceBneDiff,Nat.reduceBEq,decide_false,gt_iff_lt,Bool.or_self,Bool.false_eq_true,Nat.mul_one,Nat.one_mul,Nat.zero_mul,↓reduceIte,Nat.reduceEqDiff,Nat.reduceLT,Nat.reduceAdd,Nat.reduceLeDiff,reduceCtorEq,goInt,pairs,isConst,TI.isAgg,splice,boxS,Edp,dpv,Nat.beq_eq,ZV.val,List.any_cons,List.any_nil,Bool.false_and,ga9,zeOp,AHeap.get_set_same,res_cellc,resC_some]
   exact downS_here (hbad' k 129 q rfl _ d z (K9.none.setD ha) (by omega) her')
  rw [hend] at hok' hbad'
  simp only at hok' hbad'
  have hvoc := dl_vc hvo
  have ge9' := ge9
  simp only [opC] at ge9'
  simp (disch := first | assumption | simp) only [↓sbD,sbU,tyB,Nat.reduceMul,Nat.reduceSub,Int.reduceEq,Int.reduceLT,Int.reduceLE,Int.reduceNe,Nat.reduceBneDiff,Nat.reduceBEq,decide_false,gt_iff_lt,Bool.or_self,Bool.false_eq_true,Nat.mul_one,Nat.one_mul,Nat.zero_mul,↓reduceIte,Nat.reduceEqDiff,Nat.reduceLT,Nat.reduceAdd,Nat.reduceLeDiff,reduceCtorEq,goInt,pairs,isConst,TI.isAgg,splice,boxS,Edp,dpv,Nat.beq_eq,ZV.val,List.any_cons,List.any_nil,Bool.false_and,ge9']
  refine specTMay hvo fun σ10 k10 => ?_
  have ga10 := (k10.at ga9 (by simp) (by simp)).1
  have ge10 := (k10.at ge9' (by simp) (by simp)).1
  have K10 : Kept σ [] σ10 [] := K9.none.trans k10
  by_cases hm : mayO o
  ·by_cases hf : fl ≤ 7
   ·have hf' : ¬ (7 : Int) < (fl : Int) := by omega
    rw [if_pos ⟨hm,hf⟩] at hok'
    simp (disch := first | assumption | simp) only [↓sbD,sbU,tyB,Nat.reduceMul,Nat.reduceSub,Int.reduceEq,Int.reduceLT,Int.reduceLE,Int.reduceNe,Nat.reduceBneDiff,Nat.reduceBEq,decide_false,gt_iff_lt,Bool.or_self,Bool.false_eq_true,Nat.mul_one,Nat.one_mul,Nat.zero_mul,↓reduceIte,Nat.reduceEqDiff,Nat.reduceLT,Nat.reduceAdd,Nat.reduceLeDiff,reduceCtorEq,goInt,pairs,isConst,TI.isAgg,splice,boxS,Edp,dpv,Nat.beq_eq,ZV.val,List.any_cons,List.any_nil,Bool.false_and,eq_true hm,decide_true,not_bool,Bool.not_true,hfl,hf',ge10,ga10,hvoc.1,hvoc.2,AHeap.get_set_same,res_cellc,resC_some]
    exact downS_here (hok' o rfl v _ hvo (K10.setD ha))
   ·first
     | (exfalso; omega)
     | (have hf' : (7 : Int) < (fl : Int) := by omega
        rw [if_neg (fun h => hf h.2)] at hbad'
        simp (disch := first | assumption | simp) only [↓sbD,sbU,tyB,Nat.reduceMul,Nat.reduceSub,Int.reduceEq,Int.reduceLT,Int.reduceLE,Int.reduceNe,Nat.reduceBneDiff,Nat.reduceBEq,decide_false,gt_iff_lt,Bool.or_self,Bool.false_eq_true,Nat.mul_one,Nat.one_mul,Nat.zero_mul,↓reduceIte,Nat.reduceEqDiff,Nat.reduceLT,Nat.reduceAdd,Nat.reduceLeDiff,reduceCtorEq,goInt,pairs,isConst,TI.isAgg,splice,boxS,Edp,dpv,Nat.beq_eq,ZV.val,List.any_cons,List.any_nil,Bool.false_and,eq_true hm,decide_true,not_bool,Bool.not_true,hfl,hf',gk2]
        refine specNew (n := 2) ⟨by omega,by omega⟩ ?_
        simp (disch := first | assumption | simp) only [↓sbD,sbU,tyB,Nat.reduceMul,Nat.reduceSub,Int.reduceEq,Int.reduceLT,Int.reduceLE,Int.reduceNe,Nat.reduceBneDiff,Nat.reduceBEq,decide_false,gt_iff_lt,Bool.or_self,Bool.false_eq_true,Nat.mul_one,Nat.one_mul,Nat.zero_mul,↓reduceIte,Nat.reduceEqDiff,Nat.reduceLT,Nat.reduceAdd,Nat.reduceLeDiff,reduceCtorEq,goInt,pairs,isConst,TI.isAgg,splice,boxS,Edp,dpv,Nat.beq_eq,ZV.val,List.any_cons,List.any_nil,Bool.false_and,ga10,zeOp,AHeap.get_set_same,res_cellc,resC_some]
        exact downS_here (hbad' 2 129 0 rfl _ 1 _ (K10.setD ha) (by omega) (ErN.new _ _ ⟨by omega,by omega⟩)))
  ·rw [if_neg (fun h => hm h.1)] at hbad'
   simp (disch := first | assumption | simp) only [↓sbD,sbU,tyB,Nat.reduceMul,Nat.reduceSub,Int.reduceEq,Int.reduceLT,Int.reduceLE,Int.reduceNe,Nat.reduceBneDiff,Nat.reduceBEq,decide_false,gt_iff_lt,Bool.or_self,Bool.false_eq_true,Nat.mul_one,Nat.one_mul,Nat.zero_mul,↓reduceIte,Nat.reduceEqDiff,Nat.reduceLT,Nat.reduceAdd,Nat.reduceLeDiff,reduceCtorEq,goInt,pairs,isConst,TI.isAgg,splice,boxS,Edp,dpv,Nat.beq_eq,ZV.val,List.any_cons,List.any_nil,Bool.false_and,hm,decide_false,not_bool,Bool.not_false,gk2]
   refine specNew (n := 2) ⟨by omega,by omega⟩ ?_
   simp (disch := first | assumption | simp) only [↓sbD,sbU,tyB,Nat.reduceMul,Nat.reduceSub,Int.reduceEq,Int.reduceLT,Int.reduceLE,Int.reduceNe,Nat.reduceBneDiff,Nat.reduceBEq,decide_false,gt_iff_lt,Bool.or_self,Bool.false_eq_true,Nat.mul_one,Nat.one_mul,Nat.zero_mul,↓reduceIte,Nat.reduceEqDiff,Nat.reduceLT,Nat.reduceAdd,Nat.reduceLeDiff,reduceCtorEq,goInt,pairs,isConst,TI.isAgg,splice,boxS,Edp,dpv,Nat.beq_eq,ZV.val,List.any_cons,List.any_nil,Bool.false_and,ga10,zeOp,AHeap.get_set_same,res_cellc,resC_some]
   exact downS_here (hbad' 2 129 0 rfl _ 1 _ (K10.setD ha) (by omega) (ErN.new _ _ ⟨by omega,by omega⟩))
end
end Go.Proofs.YtkhcbbpfchgemaaGreatDoor.AbsA
