/-
  Parts of a law's proof.
-/
import Derived.Test.YtkhcbbpfchgemaaDoorAVaqfJ
import Derived.Test.YtkhcbbpfchgemaaDoorARsqbJ
import Derived.Test.YtkhcbbpfchgemaaDoorAPrqjJ
import Derived.Test.YtkhcbbpfchgemaaDoorAYrqeJ
namespace Go.Proofs.YtkhcbbpfchgemaaDoor.AbsB
open Go AbsYtkhcbbpfchgemaaDoor
theorem wrap_spec (x : Int) : ∃ k : Int,IntKind.i64.wrap x = x + k * 18446744073709551616 := by
 have h : ∃ m : Int,m = x % 18446744073709551616 ∧ (IntKind.i64.wrap x = m ∨ IntKind.i64.wrap x = m - 18446744073709551616) := by
  refine ⟨_,rfl,?_⟩
  show (if _ then x % 18446744073709551616 - 18446744073709551616 else x % 18446744073709551616) = _ ∨ (if _ then x % 18446744073709551616 - 18446744073709551616 else x % 18446744073709551616) = _
  split
  ·exact .inr rfl
  ·exact .inl rfl
 obtain ⟨m,hm,h | h⟩ := h
 ·exact ⟨-(x / 18446744073709551616),by omega⟩
 ·exact ⟨-(x / 18446744073709551616) - 1,by omega⟩
theorem wrap_mod {x y : Int} (k : Int) (h : x = y + k * 18446744073709551616) : IntKind.i64.wrap x = IntKind.i64.wrap y := by
 have e : x % 18446744073709551616 = y % 18446744073709551616 := by omega
 have g : ∀ z,IntKind.i64.wrap z = (fun m : Int => if (IntKind.i64.signed && decide (m ≥ (2 ^ (IntKind.i64.bits - 1) : Int))) = true then m - (2 ^ IntKind.i64.bits : Int) else m) (z % 18446744073709551616) := fun z => rfl
 rw [g,g,e]
theorem or_hi {hi lo : Nat} (hlo : lo < 4294967296) : aint .or .i64 (IntKind.i64.wrap ((hi : Int) * 4294967296)) (lo : Int) = some (.int .i64 (IntKind.i64.wrap ((hi : Int) * 4294967296 + lo))) := by
 obtain ⟨k,hk⟩ := wrap_spec ((hi : Int) * 4294967296)
 generalize IntKind.i64.wrap ((hi : Int) * 4294967296) = u at hk
 have e1 : (BitVec.ofInt 64 u).toNat = hi * 4294967296 % 18446744073709551616 := by
  rw [BitVec.toNat_ofInt,hk]
  simp only [Nat.reducePow]
  omega
 have e2 : (BitVec.ofInt 64 (lo : Int)).toNat = lo := by
  rw [BitVec.toNat_ofInt]
  simp only [Nat.reducePow]
  omega
 show some (Value.int .i64 (IntKind.i64.wrap ((BitVec.ofInt 64 u ||| BitVec.ofInt 64 (lo : Int)).toNat : Int))) = _
 have h := Nat.shiftLeft_add_eq_or_of_lt (i := 32) (b := lo) (by simpa using hlo) (hi % 4294967296)
 rw [Nat.shiftLeft_eq] at h
 simp only [Nat.reducePow] at h
 rw [BitVec.toNat_or,e1,e2,show hi * 4294967296 % 18446744073709551616 = hi % 4294967296 * 4294967296 by omega,← h]
 refine congrArg (fun x => some (Value.int .i64 x)) (wrap_mod (-((hi / 4294967296 : Nat) : Int)) ?_)
 omega
end Go.Proofs.YtkhcbbpfchgemaaDoor.AbsB
namespace Go.Proofs.YtkhcbbpfchgemaaDoor.AbsB
open Go AbsYtkhcbbpfchgemaaDoor Abs
set_option maxRecDepth 100000
set_option maxHeartbeats 8000000
set_option linter.unusedSimpArgs false
set_option linter.unusedVariables false
attribute [local irreducible] afterS afterOpS opSK OpsS TrS CodeS condS condW thenS thenQ guardS guardTS outS drawS trSK consS
section
variable {σ : AHeap} {Q : Value → AHeap → Prop} {s : ByteArray}
theorem zeMs : azero E 30 = some [.string emp,.string emp,.int .i64 0,.bool false,.slice none 0 0,.string emp,.int .i64 0,.int .i64 0,.string emp] := rfl
theorem zeOp : azero E 32 = some [.int .i64 0,.string emp,.int .i64 0,.string emp,.string emp,.int .i64 0,.bool false,.slice none 0 0,.string emp,.int .i64 0,.int .i64 0,.string emp] := rfl
theorem boxOp {o : Op1} {v : Value} (d : DL propC 4 v o.m.l) : ∃ u,DL propC 4 u o.m.l ∧ ∀ σ,boxS 32 E (opC o v) σ = .val (dptr (opC o u)) σ := by
 by_cases hz : frzL E.ng E.nb (opC o v) = true
 ·exact ⟨v,d,fun σ => box_deep (by rw [hz]; rfl)⟩
 ·have hb : bareL (opC o v) = opC o (bare v) := rfl
  have hf : frzL E.ng E.nb (opC o (bare v)) = true := by
   simp only [opC,frzL,frz_int,frz_bool,frz_str,d.bareF.2,Bool.and_self,Bool.and_true]
  refine ⟨_,d.bareF.1,fun σ => ?_⟩
  unfold boxS
  rw [if_neg (by simp [hz]),hb,if_pos (by rw [hf]; rfl)]
theorem boxMs {m : Ms} {v : Value} (d : DL propC 4 v m.l) : ∃ u,DL propC 4 u m.l ∧ ∀ σ,boxS 30 E (msC m v) σ = .val (dptr (msC m u)) σ := by
 by_cases hz : frzL E.ng E.nb (msC m v) = true
 ·exact ⟨v,d,fun σ => box_deep (by rw [hz]; rfl)⟩
 ·have hb : bareL (msC m v) = msC m (bare v) := rfl
  have hf : frzL E.ng E.nb (msC m (bare v)) = true := by
   simp only [msC,frzL,frz_int,frz_bool,frz_str,d.bareF.2,Bool.and_self,Bool.and_true]
  refine ⟨_,d.bareF.1,fun σ => ?_⟩
  unfold boxS
  rw [if_neg (by simp [hz]),hb,if_pos (by rw [hf]; rfl)]
theorem specTMay {o : Op1} {v : Value} (hv : DL propC 4 v o.m.l) (hq : ∀ σ',Kept σ [] σ' [] → Q (.bool (decide (mayO o))) σ') : CallS E B 21 [.agg ⟨opC o v⟩] σ Q := by
 obtain ⟨u,hu,hbx⟩ := boxOp hv
 have hvc := dl_vc hu
 simp only [opC] at hbx ⊢
 by_cases h1 : o.g = (⟨#[]⟩ : ByteArray)
 ·have hn : decide (mayO o) = false := decide_eq_false (by rintro ⟨a1,a2,a3,a4,a5,a6⟩; exact a3 h1)
  refine call21 (by simp) ?_
  simp only [strip,bodyOf,Tryd.f21,getD_body,keepN,bareOp_mk,lessOp_mk,lapp_cons,lapp_nil,List.map_cons,List.map_nil,array_toList,↓reduceIte,Nat.reduceEqDiff,Bool.false_eq_true]
  simp (disch := first | assumption | simp) only [↓sbD,sbU,tyB,Nat.reduceMul,Nat.reduceSub,Int.reduceEq,Int.reduceLT,Int.reduceLE,Int.reduceNe,Nat.reduceBneDiff,Nat.reduceBEq,decide_false,gt_iff_lt,Bool.or_self,Bool.false_eq_true,Nat.mul_one,Nat.one_mul,Nat.zero_mul,↓reduceIte,Nat.reduceEqDiff,Nat.reduceLT,Nat.reduceAdd,Nat.reduceLeDiff,reduceCtorEq,goInt,pairs,isConst,TI.isAgg,splice,Edp,dpv,Nat.beq_eq,ZV.val,List.any_cons,List.any_nil,Bool.false_and,hbx,bytes_dec,eq_true h1]
  rw [hn] at hq
  exact downS_here (hq _ (Kept.refl σ []))
 by_cases h2 : o.n < 1
 ·have hn : decide (mayO o) = false := decide_eq_false (by rintro ⟨a1,a2,a3,a4,a5,a6⟩; omega)
  refine call21 (by simp) ?_
  simp only [strip,bodyOf,Tryd.f21,getD_body,keepN,bareOp_mk,lessOp_mk,lapp_cons,lapp_nil,List.map_cons,List.map_nil,array_toList,↓reduceIte,Nat.reduceEqDiff,Bool.false_eq_true]
  simp (disch := first | assumption | simp) only [↓sbD,sbU,tyB,Nat.reduceMul,Nat.reduceSub,Int.reduceEq,Int.reduceLT,Int.reduceLE,Int.reduceNe,Nat.reduceBneDiff,Nat.reduceBEq,decide_false,gt_iff_lt,Bool.or_self,Bool.false_eq_true,Nat.mul_one,Nat.one_mul,Nat.zero_mul,↓reduceIte,Nat.reduceEqDiff,Nat.reduceLT,Nat.reduceAdd,Nat.reduceLeDiff,reduceCtorEq,goInt,pairs,isConst,TI.isAgg,splice,Edp,dpv,Nat.beq_eq,ZV.val,List.any_cons,List.any_nil,Bool.false_and,hbx,bytes_dec,h1,h2]
  rw [hn] at hq
  exact downS_here (hq _ (Kept.refl σ []))
 by_cases h3 : 4294967295 < o.n
 ·have hn : decide (mayO o) = false := decide_eq_false (by rintro ⟨a1,a2,a3,a4,a5,a6⟩; omega)
  refine call21 (by simp) ?_
  simp only [strip,bodyOf,Tryd.f21,getD_body,keepN,bareOp_mk,lessOp_mk,lapp_cons,lapp_nil,List.map_cons,List.map_nil,array_toList,↓reduceIte,Nat.reduceEqDiff,Bool.false_eq_true]
  simp (disch := first | assumption | simp) only [↓sbD,sbU,tyB,Nat.reduceMul,Nat.reduceSub,Int.reduceEq,Int.reduceLT,Int.reduceLE,Int.reduceNe,Nat.reduceBneDiff,Nat.reduceBEq,decide_false,gt_iff_lt,Bool.or_self,Bool.false_eq_true,Nat.mul_one,Nat.one_mul,Nat.zero_mul,↓reduceIte,Nat.reduceEqDiff,Nat.reduceLT,Nat.reduceAdd,Nat.reduceLeDiff,reduceCtorEq,goInt,pairs,isConst,TI.isAgg,splice,Edp,dpv,Nat.beq_eq,ZV.val,List.any_cons,List.any_nil,Bool.false_and,hbx,bytes_dec,h1,h2,h3]
  rw [hn] at hq
  exact downS_here (hq _ (Kept.refl σ []))
 by_cases hk : o.k = 1
 rotate_left
 ·by_cases k2 : o.k = 2
  ·have hn : decide (mayO o) = true := decide_eq_true ⟨by omega,by omega,h1,by omega,by omega,fun h => absurd h hk⟩
   refine call21 (by simp) ?_
   simp only [strip,bodyOf,Tryd.f21,getD_body,keepN,bareOp_mk,lessOp_mk,lapp_cons,lapp_nil,List.map_cons,List.map_nil,array_toList,↓reduceIte,Nat.reduceEqDiff,Bool.false_eq_true]
   simp (disch := first | assumption | simp) only [↓sbD,sbU,tyB,Nat.reduceMul,Nat.reduceSub,Int.reduceEq,Int.reduceLT,Int.reduceLE,Int.reduceNe,Nat.reduceBneDiff,Nat.reduceBEq,decide_false,gt_iff_lt,Bool.or_self,Bool.false_eq_true,Nat.mul_one,Nat.one_mul,Nat.zero_mul,↓reduceIte,Nat.reduceEqDiff,Nat.reduceLT,Nat.reduceAdd,Nat.reduceLeDiff,reduceCtorEq,goInt,pairs,isConst,TI.isAgg,splice,Edp,dpv,Nat.beq_eq,ZV.val,List.any_cons,List.any_nil,Bool.false_and,hbx,bytes_dec,h1,h2,h3,hk,eq_true k2]
   rw [hn] at hq
   exact downS_here (hq _ (Kept.refl σ []))
  by_cases k3 : o.k = 3
  ·have hn : decide (mayO o) = true := decide_eq_true ⟨by omega,by omega,h1,by omega,by omega,fun h => absurd h hk⟩
   refine call21 (by simp) ?_
   simp only [strip,bodyOf,Tryd.f21,getD_body,keepN,bareOp_mk,lessOp_mk,lapp_cons,lapp_nil,List.map_cons,List.map_nil,array_toList,↓reduceIte,Nat.reduceEqDiff,Bool.false_eq_true]
   simp (disch := first | assumption | simp) only [↓sbD,sbU,tyB,Nat.reduceMul,Nat.reduceSub,Int.reduceEq,Int.reduceLT,Int.reduceLE,Int.reduceNe,Nat.reduceBneDiff,Nat.reduceBEq,decide_false,gt_iff_lt,Bool.or_self,Bool.false_eq_true,Nat.mul_one,Nat.one_mul,Nat.zero_mul,↓reduceIte,Nat.reduceEqDiff,Nat.reduceLT,Nat.reduceAdd,Nat.reduceLeDiff,reduceCtorEq,goInt,pairs,isConst,TI.isAgg,splice,Edp,dpv,Nat.beq_eq,ZV.val,List.any_cons,List.any_nil,Bool.false_and,hbx,bytes_dec,h1,h2,h3,hk,k2,eq_true k3]
   rw [hn] at hq
   exact downS_here (hq _ (Kept.refl σ []))
  ·have hn : decide (mayO o) = false := decide_eq_false (by rintro ⟨a1,a2,a3,a4,a5,a6⟩; omega)
   refine call21 (by simp) ?_
   simp only [strip,bodyOf,Tryd.f21,getD_body,keepN,bareOp_mk,lessOp_mk,lapp_cons,lapp_nil,List.map_cons,List.map_nil,array_toList,↓reduceIte,Nat.reduceEqDiff,Bool.false_eq_true]
   simp (disch := first | assumption | simp) only [↓sbD,sbU,tyB,Nat.reduceMul,Nat.reduceSub,Int.reduceEq,Int.reduceLT,Int.reduceLE,Int.reduceNe,Nat.reduceBneDiff,Nat.reduceBEq,decide_false,gt_iff_lt,Bool.or_self,Bool.false_eq_true,Nat.mul_one,Nat.one_mul,Nat.zero_mul,↓reduceIte,Nat.reduceEqDiff,Nat.reduceLT,Nat.reduceAdd,Nat.reduceLeDiff,reduceCtorEq,goInt,pairs,isConst,TI.isAgg,splice,Edp,dpv,Nat.beq_eq,ZV.val,List.any_cons,List.any_nil,Bool.false_and,hbx,bytes_dec,h1,h2,h3,hk,k2,k3]
   rw [hn] at hq
   exact downS_here (hq _ (Kept.refl σ []))
 by_cases g1 : ¬ o.m.g = o.g
 ·have hn : decide (mayO o) = false := decide_eq_false (by rintro ⟨a1,a2,a3,a4,a5,a6⟩; exact g1 (a6 hk).1)
  have g1n : ¬ o.m.g = o.g := by first | exact g1 | omega
  refine call21 (by simp) ?_
  simp only [strip,bodyOf,Tryd.f21,getD_body,keepN,bareOp_mk,lessOp_mk,lapp_cons,lapp_nil,List.map_cons,List.map_nil,array_toList,↓reduceIte,Nat.reduceEqDiff,Bool.false_eq_true]
  simp (disch := first | assumption | simp) only [↓sbD,sbU,tyB,Nat.reduceMul,Nat.reduceSub,Int.reduceEq,Int.reduceLT,Int.reduceLE,Int.reduceNe,Nat.reduceBneDiff,Nat.reduceBEq,decide_false,gt_iff_lt,Bool.or_self,Bool.false_eq_true,Nat.mul_one,Nat.one_mul,Nat.zero_mul,↓reduceIte,Nat.reduceEqDiff,Nat.reduceLT,Nat.reduceAdd,Nat.reduceLeDiff,reduceCtorEq,goInt,pairs,isConst,TI.isAgg,splice,Edp,dpv,Nat.beq_eq,ZV.val,List.any_cons,List.any_nil,Bool.false_and,hbx,AS_new,zeMs,bytes_dec,h1,h2,h3,eq_true hk,g1n,hvc.1,hvc.2]
  intro b hb
  try simp (disch := first | assumption | simp) only [↓sbD,sbU,tyB,Nat.reduceMul,Nat.reduceSub,Int.reduceEq,Int.reduceLT,Int.reduceLE,Int.reduceNe,Nat.reduceBneDiff,Nat.reduceBEq,decide_false,gt_iff_lt,Bool.or_self,Bool.false_eq_true,Nat.mul_one,Nat.one_mul,Nat.zero_mul,↓reduceIte,Nat.reduceEqDiff,Nat.reduceLT,Nat.reduceAdd,Nat.reduceLeDiff,reduceCtorEq,goInt,pairs,isConst,TI.isAgg,splice,boxS,Edp,dpv,Nat.beq_eq,ZV.val,List.any_cons,List.any_nil,Bool.false_and,AHeap.get_set_same,bytes_dec,h1,h2,h3,eq_true hk,g1n,hvc.1,hvc.2]
  rw [hn] at hq
  exact downS_here (hq _ (((Kept.refl σ []).setD hb).setD hb))
 have g1p : o.m.g = o.g := by first | exact Decidable.not_not.1 g1 | omega
 by_cases g2 : ¬ o.m.n = o.n
 ·have hn : decide (mayO o) = false := decide_eq_false (by rintro ⟨a1,a2,a3,a4,a5,a6⟩; exact g2 (a6 hk).2.1)
  have g2n : ¬ o.m.n = o.n := by first | exact g2 | omega
  refine call21 (by simp) ?_
  simp only [strip,bodyOf,Tryd.f21,getD_body,keepN,bareOp_mk,lessOp_mk,lapp_cons,lapp_nil,List.map_cons,List.map_nil,array_toList,↓reduceIte,Nat.reduceEqDiff,Bool.false_eq_true]
  simp (disch := first | assumption | simp) only [↓sbD,sbU,tyB,Nat.reduceMul,Nat.reduceSub,Int.reduceEq,Int.reduceLT,Int.reduceLE,Int.reduceNe,Nat.reduceBneDiff,Nat.reduceBEq,decide_false,gt_iff_lt,Bool.or_self,Bool.false_eq_true,Nat.mul_one,Nat.one_mul,Nat.zero_mul,↓reduceIte,Nat.reduceEqDiff,Nat.reduceLT,Nat.reduceAdd,Nat.reduceLeDiff,reduceCtorEq,goInt,pairs,isConst,TI.isAgg,splice,Edp,dpv,Nat.beq_eq,ZV.val,List.any_cons,List.any_nil,Bool.false_and,hbx,AS_new,zeMs,bytes_dec,h1,h2,h3,eq_true hk,eq_true g1p,g2n,hvc.1,hvc.2]
  intro b hb
  try simp (disch := first | assumption | simp) only [↓sbD,sbU,tyB,Nat.reduceMul,Nat.reduceSub,Int.reduceEq,Int.reduceLT,Int.reduceLE,Int.reduceNe,Nat.reduceBneDiff,Nat.reduceBEq,decide_false,gt_iff_lt,Bool.or_self,Bool.false_eq_true,Nat.mul_one,Nat.one_mul,Nat.zero_mul,↓reduceIte,Nat.reduceEqDiff,Nat.reduceLT,Nat.reduceAdd,Nat.reduceLeDiff,reduceCtorEq,goInt,pairs,isConst,TI.isAgg,splice,boxS,Edp,dpv,Nat.beq_eq,ZV.val,List.any_cons,List.any_nil,Bool.false_and,AHeap.get_set_same,bytes_dec,h1,h2,h3,eq_true hk,eq_true g1p,g2n,hvc.1,hvc.2]
  rw [hn] at hq
  exact downS_here (hq _ (((Kept.refl σ []).setD hb).setD hb))
 have g2p : o.m.n = o.n := by first | exact Decidable.not_not.1 g2 | omega
 by_cases g3 : o.m.q < 0
 ·have hn : decide (mayO o) = false := decide_eq_false (by rintro ⟨a1,a2,a3,a4,a5,a6⟩; have := (a6 hk).2.2.1; omega)
  have g3n : ¬ (0 : Int) ≤ o.m.q := by first | exact g3 | omega
  refine call21 (by simp) ?_
  simp only [strip,bodyOf,Tryd.f21,getD_body,keepN,bareOp_mk,lessOp_mk,lapp_cons,lapp_nil,List.map_cons,List.map_nil,array_toList,↓reduceIte,Nat.reduceEqDiff,Bool.false_eq_true]
  simp (disch := first | assumption | simp) only [↓sbD,sbU,tyB,Nat.reduceMul,Nat.reduceSub,Int.reduceEq,Int.reduceLT,Int.reduceLE,Int.reduceNe,Nat.reduceBneDiff,Nat.reduceBEq,decide_false,gt_iff_lt,Bool.or_self,Bool.false_eq_true,Nat.mul_one,Nat.one_mul,Nat.zero_mul,↓reduceIte,Nat.reduceEqDiff,Nat.reduceLT,Nat.reduceAdd,Nat.reduceLeDiff,reduceCtorEq,goInt,pairs,isConst,TI.isAgg,splice,Edp,dpv,Nat.beq_eq,ZV.val,List.any_cons,List.any_nil,Bool.false_and,hbx,AS_new,zeMs,bytes_dec,h1,h2,h3,eq_true hk,eq_true g1p,eq_true g2p,g3n,hvc.1,hvc.2]
  intro b hb
  try simp (disch := first | assumption | simp) only [↓sbD,sbU,tyB,Nat.reduceMul,Nat.reduceSub,Int.reduceEq,Int.reduceLT,Int.reduceLE,Int.reduceNe,Nat.reduceBneDiff,Nat.reduceBEq,decide_false,gt_iff_lt,Bool.or_self,Bool.false_eq_true,Nat.mul_one,Nat.one_mul,Nat.zero_mul,↓reduceIte,Nat.reduceEqDiff,Nat.reduceLT,Nat.reduceAdd,Nat.reduceLeDiff,reduceCtorEq,goInt,pairs,isConst,TI.isAgg,splice,boxS,Edp,dpv,Nat.beq_eq,ZV.val,List.any_cons,List.any_nil,Bool.false_and,AHeap.get_set_same,bytes_dec,h1,h2,h3,eq_true hk,eq_true g1p,eq_true g2p,g3n,hvc.1,hvc.2]
  rw [hn] at hq
  exact downS_here (hq _ (((Kept.refl σ []).setD hb).setD hb))
 have g3p : (0 : Int) ≤ o.m.q := by first | exact Decidable.not_not.1 g3 | omega
 by_cases g4 : 2 < o.m.q
 ·have hn : decide (mayO o) = false := decide_eq_false (by rintro ⟨a1,a2,a3,a4,a5,a6⟩; have := (a6 hk).2.2.2.1; omega)
  have g4n : ¬ o.m.q < 3 := by first | exact g4 | omega
  refine call21 (by simp) ?_
  simp only [strip,bodyOf,Tryd.f21,getD_body,keepN,bareOp_mk,lessOp_mk,lapp_cons,lapp_nil,List.map_cons,List.map_nil,array_toList,↓reduceIte,Nat.reduceEqDiff,Bool.false_eq_true]
  simp (disch := first | assumption | simp) only [↓sbD,sbU,tyB,Nat.reduceMul,Nat.reduceSub,Int.reduceEq,Int.reduceLT,Int.reduceLE,Int.reduceNe,Nat.reduceBneDiff,Nat.reduceBEq,decide_false,gt_iff_lt,Bool.or_self,Bool.false_eq_true,Nat.mul_one,Nat.one_mul,Nat.zero_mul,↓reduceIte,Nat.reduceEqDiff,Nat.reduceLT,Nat.reduceAdd,Nat.reduceLeDiff,reduceCtorEq,goInt,pairs,isConst,TI.isAgg,splice,Edp,dpv,Nat.beq_eq,ZV.val,List.any_cons,List.any_nil,Bool.false_and,hbx,AS_new,zeMs,bytes_dec,h1,h2,h3,eq_true hk,eq_true g1p,eq_true g2p,g3p,g4n,hvc.1,hvc.2]
  intro b hb
  try simp (disch := first | assumption | simp) only [↓sbD,sbU,tyB,Nat.reduceMul,Nat.reduceSub,Int.reduceEq,Int.reduceLT,Int.reduceLE,Int.reduceNe,Nat.reduceBneDiff,Nat.reduceBEq,decide_false,gt_iff_lt,Bool.or_self,Bool.false_eq_true,Nat.mul_one,Nat.one_mul,Nat.zero_mul,↓reduceIte,Nat.reduceEqDiff,Nat.reduceLT,Nat.reduceAdd,Nat.reduceLeDiff,reduceCtorEq,goInt,pairs,isConst,TI.isAgg,splice,boxS,Edp,dpv,Nat.beq_eq,ZV.val,List.any_cons,List.any_nil,Bool.false_and,AHeap.get_set_same,bytes_dec,h1,h2,h3,eq_true hk,eq_true g1p,eq_true g2p,g3p,g4n,hvc.1,hvc.2]
  rw [hn] at hq
  exact downS_here (hq _ (((Kept.refl σ []).setD hb).setD hb))
 have g4p : o.m.q < 3 := by first | exact Decidable.not_not.1 g4 | omega
 by_cases g5 : o.m.u < 0
 ·have hn : decide (mayO o) = false := decide_eq_false (by rintro ⟨a1,a2,a3,a4,a5,a6⟩; have := (a6 hk).2.2.2.2.1; omega)
  have g5n : ¬ (0 : Int) ≤ o.m.u := by first | exact g5 | omega
  refine call21 (by simp) ?_
  simp only [strip,bodyOf,Tryd.f21,getD_body,keepN,bareOp_mk,lessOp_mk,lapp_cons,lapp_nil,List.map_cons,List.map_nil,array_toList,↓reduceIte,Nat.reduceEqDiff,Bool.false_eq_true]
  simp (disch := first | assumption | simp) only [↓sbD,sbU,tyB,Nat.reduceMul,Nat.reduceSub,Int.reduceEq,Int.reduceLT,Int.reduceLE,Int.reduceNe,Nat.reduceBneDiff,Nat.reduceBEq,decide_false,gt_iff_lt,Bool.or_self,Bool.false_eq_true,Nat.mul_one,Nat.one_mul,Nat.zero_mul,↓reduceIte,Nat.reduceEqDiff,Nat.reduceLT,Nat.reduceAdd,Nat.reduceLeDiff,reduceCtorEq,goInt,pairs,isConst,TI.isAgg,splice,Edp,dpv,Nat.beq_eq,ZV.val,List.any_cons,List.any_nil,Bool.false_and,hbx,AS_new,zeMs,bytes_dec,h1,h2,h3,eq_true hk,eq_true g1p,eq_true g2p,g3p,g4p,g5n,hvc.1,hvc.2]
  intro b hb
  try simp (disch := first | assumption | simp) only [↓sbD,sbU,tyB,Nat.reduceMul,Nat.reduceSub,Int.reduceEq,Int.reduceLT,Int.reduceLE,Int.reduceNe,Nat.reduceBneDiff,Nat.reduceBEq,decide_false,gt_iff_lt,Bool.or_self,Bool.false_eq_true,Nat.mul_one,Nat.one_mul,Nat.zero_mul,↓reduceIte,Nat.reduceEqDiff,Nat.reduceLT,Nat.reduceAdd,Nat.reduceLeDiff,reduceCtorEq,goInt,pairs,isConst,TI.isAgg,splice,boxS,Edp,dpv,Nat.beq_eq,ZV.val,List.any_cons,List.any_nil,Bool.false_and,AHeap.get_set_same,bytes_dec,h1,h2,h3,eq_true hk,eq_true g1p,eq_true g2p,g3p,g4p,g5n,hvc.1,hvc.2]
  rw [hn] at hq
  exact downS_here (hq _ (((Kept.refl σ []).setD hb).setD hb))
 have g5p : (0 : Int) ≤ o.m.u := by first | exact Decidable.not_not.1 g5 | omega
 by_cases g6 : 9007199254740992 < o.m.u
 ·have hn : decide (mayO o) = false := decide_eq_false (by rintro ⟨a1,a2,a3,a4,a5,a6⟩; have := (a6 hk).2.2.2.2.2; omega)
  have g6n : ¬ o.m.u ≤ 9007199254740992 := by first | exact g6 | omega
  refine call21 (by simp) ?_
  simp only [strip,bodyOf,Tryd.f21,getD_body,keepN,bareOp_mk,lessOp_mk,lapp_cons,lapp_nil,List.map_cons,List.map_nil,array_toList,↓reduceIte,Nat.reduceEqDiff,Bool.false_eq_true]
  simp (disch := first | assumption | simp) only [↓sbD,sbU,tyB,Nat.reduceMul,Nat.reduceSub,Int.reduceEq,Int.reduceLT,Int.reduceLE,Int.reduceNe,Nat.reduceBneDiff,Nat.reduceBEq,decide_false,gt_iff_lt,Bool.or_self,Bool.false_eq_true,Nat.mul_one,Nat.one_mul,Nat.zero_mul,↓reduceIte,Nat.reduceEqDiff,Nat.reduceLT,Nat.reduceAdd,Nat.reduceLeDiff,reduceCtorEq,goInt,pairs,isConst,TI.isAgg,splice,Edp,dpv,Nat.beq_eq,ZV.val,List.any_cons,List.any_nil,Bool.false_and,hbx,AS_new,zeMs,bytes_dec,h1,h2,h3,eq_true hk,eq_true g1p,eq_true g2p,g3p,g4p,g5p,g6n,hvc.1,hvc.2]
  intro b hb
  try simp (disch := first | assumption | simp) only [↓sbD,sbU,tyB,Nat.reduceMul,Nat.reduceSub,Int.reduceEq,Int.reduceLT,Int.reduceLE,Int.reduceNe,Nat.reduceBneDiff,Nat.reduceBEq,decide_false,gt_iff_lt,Bool.or_self,Bool.false_eq_true,Nat.mul_one,Nat.one_mul,Nat.zero_mul,↓reduceIte,Nat.reduceEqDiff,Nat.reduceLT,Nat.reduceAdd,Nat.reduceLeDiff,reduceCtorEq,goInt,pairs,isConst,TI.isAgg,splice,boxS,Edp,dpv,Nat.beq_eq,ZV.val,List.any_cons,List.any_nil,Bool.false_and,AHeap.get_set_same,bytes_dec,h1,h2,h3,eq_true hk,eq_true g1p,eq_true g2p,g3p,g4p,g5p,g6n,hvc.1,hvc.2]
  rw [hn] at hq
  exact downS_here (hq _ (((Kept.refl σ []).setD hb).setD hb))
 have g6p : o.m.u ≤ 9007199254740992 := by first | exact Decidable.not_not.1 g6 | omega
 have hn : decide (mayO o) = true := decide_eq_true ⟨by omega,by omega,h1,by omega,by omega,fun _ => ⟨g1p,g2p,g3p,by omega,g5p,g6p⟩⟩
 refine call21 (by simp) ?_
 simp only [strip,bodyOf,Tryd.f21,getD_body,keepN,bareOp_mk,lessOp_mk,lapp_cons,lapp_nil,List.map_cons,List.map_nil,array_toList,↓reduceIte,Nat.reduceEqDiff,Bool.false_eq_true]
 simp (disch := first | assumption | simp) only [↓sbD,sbU,tyB,Nat.reduceMul,Nat.reduceSub,Int.reduceEq,Int.reduceLT,Int.reduceLE,Int.reduceNe,Nat.reduceBneDiff,Nat.reduceBEq,decide_false,gt_iff_lt,Bool.or_self,Bool.false_eq_true,Nat.mul_one,Nat.one_mul,Nat.zero_mul,↓reduceIte,Nat.reduceEqDiff,Nat.reduceLT,Nat.reduceAdd,Nat.reduceLeDiff,reduceCtorEq,goInt,pairs,isConst,TI.isAgg,splice,Edp,dpv,Nat.beq_eq,ZV.val,List.any_cons,List.any_nil,Bool.false_and,hbx,AS_new,zeMs,bytes_dec,h1,h2,h3,eq_true hk,eq_true g1p,eq_true g2p,g3p,g4p,g5p,g6p,hvc.1,hvc.2]
 intro b hb
 try simp (disch := first | assumption | simp) only [↓sbD,sbU,tyB,Nat.reduceMul,Nat.reduceSub,Int.reduceEq,Int.reduceLT,Int.reduceLE,Int.reduceNe,Nat.reduceBneDiff,Nat.reduceBEq,decide_false,gt_iff_lt,Bool.or_self,Bool.false_eq_true,Nat.mul_one,Nat.one_mul,Nat.zero_mul,↓reduceIte,Nat.reduceEqDiff,Nat.reduceLT,Nat.reduceAdd,Nat.reduceLeDiff,reduceCtorEq,goInt,pairs,isConst,TI.isAgg,splice,boxS,Edp,dpv,Nat.beq_eq,ZV.val,List.any_cons,List.any_nil,Bool.false_and,AHeap.get_set_same,bytes_dec,h1,h2,h3,eq_true hk,eq_true g1p,eq_true g2p,g3p,g4p,g5p,g6p,hvc.1,hvc.2]
 rw [hn] at hq
 exact downS_here (hq _ (((Kept.refl σ []).setD hb).setD hb))
end
section
variable {σ : AHeap} {Q : Value → AHeap → Prop} {s : ByteArray} {r : Nat} {st : RSt}
theorem bits256 : ∀ n,n < 256 → (n &&& 3 = n % 4) ∧ ((n &&& 4 = 4 ∧ n / 4 % 2 = 1) ∨ (n &&& 4 = 0 ∧ n / 4 % 2 = 0)) := by decide +kernel
theorem shl32 {h : Int} {τ : AHeap} : abin E τ .shl 3 true (.int .i64 h) (.int .u64 32) = some (.int .i64 (IntKind.i64.wrap (h * 4294967296))) := by
 have : abin E τ .shl 3 true (.int .i64 h) (.int .u64 32) = some (.int .i64 (IntKind.i64.wrap (h * 2 ^ 32))) := rfl
 rw [this]
 rfl
theorem specTRead {g : ByteArray} {n : Nat} (hr : IsRS σ r s st) (hs : s.size ≤ 100000000)
  (hok : ∀ m b q,RdM s g n st (.ok (m,b,q)) → ∀ v σ',DL propC 4 v m.l → Kept σ [r] σ' [r] → IsRS σ' r s (.ok q) → Q (.tuple #[.agg ⟨msC m v⟩,.int .i64 (b : Int),.nilIface]) σ')
  (hbad : ∀ k rr a : Nat,RdM s g n st (.error (k,rr,a)) → ∀ m v b σ' d z,DL propC 4 v m.l → Kept σ [r] σ' [r] → d ≤ 3 → ErN d (fv rr a z) k → Q (.tuple #[.agg ⟨msC m v⟩,.int .i64 b,fv rr a z]) σ') :
  CallS E B 19 [.pointer (some ⟨r,0,none⟩),.string g,.int .i64 (n : Int)] σ Q := by
 unfold RdM M3 M4 M5 M6 M7 M8 at hok hbad
 have hra := hr.alive
 refine call19 (by simp) ?_
 simp only [strip,bodyOf,Tryd.f19,getD_body,keepN,bareOp_mk,lessOp_mk,lapp_cons,lapp_nil,List.map_cons,List.map_nil,array_toList,↓reduceIte,Nat.reduceEqDiff,Bool.false_eq_true]
 simp (disch := first | assumption | simp) only [↓sbD,sbU,tyB,Nat.reduceMul,Nat.reduceSub,Int.reduceEq,Int.reduceLT,Int.reduceLE,Int.reduceNe,Nat.reduceBneDiff,Nat.reduceBEq,decide_false,gt_iff_lt,Bool.or_self,Bool.false_eq_true,Nat.mul_one,Nat.one_mul,Nat.zero_mul,↓reduceIte,Nat.reduceEqDiff,Nat.reduceLT,Nat.reduceAdd,Nat.reduceLeDiff,reduceCtorEq,goInt,pairs,isConst,TI.isAgg,splice,boxS,Edp,dpv,Nat.beq_eq,ZV.val,List.any_cons,List.any_nil,Bool.false_and,AS_new,zeMs]
 intro a ha
 have har : a ≠ r := by rintro rfl; exact hra ha
 generalize hσ1 : AHeap.set σ a _ = σ1
 have k1 : Kept σ [] σ1 [] := by rw [← hσ1]; exact (Kept.refl σ []).setD ha
 have K1 : Kept σ [r] σ1 [r] := k1.wid (fun _ h => by cases h) (fun _ h => .inr h)
 have r1 := hr.kept k1 (by simp)
 have ga1 : σ1.get a = .cells [.string emp,.string emp,.int .i64 0,.bool false,.slice none 0 0,.string emp,.int .i64 0,.int .i64 0,.string emp] true 0 := by rw [← hσ1]; exact AHeap.get_set_same _ _ _
 clear hσ1
 try simp (disch := first | assumption | simp) only [↓sbD,sbU,tyB,Nat.reduceMul,Nat.reduceSub,Int.reduceEq,Int.reduceLT,Int.reduceLE,Int.reduceNe,Nat.reduceBneDiff,Nat.reduceBEq,decide_false,gt_iff_lt,Bool.or_self,Bool.false_eq_true,Nat.mul_one,Nat.one_mul,Nat.zero_mul,↓reduceIte,Nat.reduceEqDiff,Nat.reduceLT,Nat.reduceAdd,Nat.reduceLeDiff,reduceCtorEq,goInt,pairs,isConst,TI.isAgg,splice,boxS,Edp,dpv,Nat.beq_eq,ZV.val,List.any_cons,List.any_nil,Bool.false_and]
 refine specSBin r1 hs fun σ2 k2 r2 => ?_
 obtain ⟨t,s2,ht⟩ : ∃ t s2,binS s st = (t,s2) := ⟨_,_,rfl⟩
 simp only [ht] at hok hbad r2 ⊢
 have K2 := K1.trans k2
 have ga2 := (k2.at ga1 (by simp) (by simp [har])).1
 simp (disch := first | assumption | simp) only [↓sbD,sbU,tyB,Nat.reduceMul,Nat.reduceSub,Int.reduceEq,Int.reduceLT,Int.reduceLE,Int.reduceNe,Nat.reduceBneDiff,Nat.reduceBEq,decide_false,gt_iff_lt,Bool.or_self,Bool.false_eq_true,Nat.mul_one,Nat.one_mul,Nat.zero_mul,↓reduceIte,Nat.reduceEqDiff,Nat.reduceLT,Nat.reduceAdd,Nat.reduceLeDiff,reduceCtorEq,goInt,pairs,isConst,TI.isAgg,splice,boxS,Edp,dpv,Nat.beq_eq,ZV.val,List.any_cons,List.any_nil,Bool.false_and]
 refine specSBin r2 hs fun σ3 k3 r3 => ?_
 obtain ⟨p,s3,hp⟩ : ∃ p s3,binS s s2 = (p,s3) := ⟨_,_,rfl⟩
 simp only [hp] at hok hbad r3 ⊢
 have K3 := K2.trans k3
 have ga3 := (k3.at ga2 (by simp) (by simp [har])).1
 simp (disch := first | assumption | simp) only [↓sbD,sbU,tyB,Nat.reduceMul,Nat.reduceSub,Int.reduceEq,Int.reduceLT,Int.reduceLE,Int.reduceNe,Nat.reduceBneDiff,Nat.reduceBEq,decide_false,gt_iff_lt,Bool.or_self,Bool.false_eq_true,Nat.mul_one,Nat.one_mul,Nat.zero_mul,↓reduceIte,Nat.reduceEqDiff,Nat.reduceLT,Nat.reduceAdd,Nat.reduceLeDiff,reduceCtorEq,goInt,pairs,isConst,TI.isAgg,splice,boxS,Edp,dpv,Nat.beq_eq,ZV.val,List.any_cons,List.any_nil,Bool.false_and,AS_new,zeMs]
 intro e he3
 have hae : a ≠ e := by rintro rfl; rw [ga3] at he3; cases he3
 have her : e ≠ r := by rintro rfl; exact r3.alive he3
 have he : σ.get e = .dead := by
  by_cases h : σ.get e = .dead
  ·exact h
  ·have := K3.get e h (by simp [her])
   rw [he3] at this; exact this.symm
 generalize hσ4 : AHeap.set (AHeap.set σ3 e _) e _ = σ4
 have K4 : Kept σ [r] σ4 [r] := by rw [← hσ4]; exact (K3.setD he).setD he
 have k4 : Kept σ3 [] σ4 [] := by rw [← hσ4]; exact ((Kept.refl _ []).setD he3).setD he3
 have r4 := r3.kept k4 (by simp)
 have ge4 : σ4.get e = .cells [.string t,.string p,.int .i64 0,.bool false,.slice none 0 0,.string emp,.int .i64 0,.int .i64 (n : Int),.string g] true 0 := by rw [← hσ4]; exact AHeap.get_set_same _ _ _
 have ga4 := (k4.at ga3 (by simp) (by simp)).1
 clear hσ4
 try simp (disch := first | assumption | simp) only [↓sbD,sbU,tyB,Nat.reduceMul,Nat.reduceSub,Int.reduceEq,Int.reduceLT,Int.reduceLE,Int.reduceNe,Nat.reduceBneDiff,Nat.reduceBEq,decide_false,gt_iff_lt,Bool.or_self,Bool.false_eq_true,Nat.mul_one,Nat.one_mul,Nat.zero_mul,↓reduceIte,Nat.reduceEqDiff,Nat.reduceLT,Nat.reduceAdd,Nat.reduceLeDiff,reduceCtorEq,goInt,pairs,isConst,TI.isAgg,splice,boxS,Edp,dpv,Nat.beq_eq,ZV.val,List.any_cons,List.any_nil,Bool.false_and]
 refine specSU8 r4 hs fun σ5 k5 r5 => ?_
 obtain ⟨b,s5,hb⟩ : ∃ b s5,u8S s s3 = (b,s5) := ⟨_,_,rfl⟩
 simp only [hb] at hok hbad r5 ⊢
 have K5 := K4.trans k5
 have ga5 := (k5.at ga4 (by simp) (by simp [har])).1
 have ge5 := (k5.at ge4 (by simp) (by simp [her])).1
 have hb256 : b < 256 := by have := u8S_lt (s := s) (st := s3); rw [hb] at this; exact this
 obtain ⟨b3,b4⟩ := bits256 b hb256
 have ha3 : aint .and .i64 (b : Int) 3 = some (.int .i64 ((b % 4 : Nat) : Int)) := by
  have := and_nat (n := b) (m := 3) (by omega) (by omega)
  rw [b3] at this
  exact this
 have C4 : (aint .and .i64 (b : Int) 4 = some (.int .i64 4) ∧ decide (b / 4 % 2 = 1) = true) ∨ (aint .and .i64 (b : Int) 4 = some (.int .i64 0) ∧ decide (b / 4 % 2 = 1) = false) := by
  have := and_nat (n := b) (m := 4) (by omega) (by omega)
  rcases b4 with ⟨b4,q⟩ | ⟨b4,q⟩
  ·exact .inl ⟨by rw [b4] at this; exact this,decide_eq_true q⟩
  ·exact .inr ⟨by rw [b4] at this; exact this,decide_eq_false (by omega)⟩
 clear b3 b4
 rcases C4 with ⟨ha4,d4⟩ | ⟨ha4,d4⟩
 all_goals
  simp (disch := first | assumption | simp) only [↓sbD,sbU,tyB,Nat.reduceMul,Nat.reduceSub,Int.reduceEq,Int.reduceLT,Int.reduceLE,Int.reduceNe,Nat.reduceBneDiff,Nat.reduceBEq,decide_false,gt_iff_lt,Bool.or_self,Bool.false_eq_true,Nat.mul_one,Nat.one_mul,Nat.zero_mul,↓reduceIte,Nat.reduceEqDiff,Nat.reduceLT,Nat.reduceAdd,Nat.reduceLeDiff,reduceCtorEq,goInt,pairs,isConst,TI.isAgg,splice,boxS,Edp,dpv,Nat.beq_eq,ZV.val,List.any_cons,List.any_nil,Bool.false_and,ha3,ha4,ge5,List.length_cons,List.length_nil,List.cons_append,List.nil_append,List.drop_succ_cons,List.drop_zero,List.set_cons_zero,List.set_cons_succ,decide_true]
  generalize hσ6 : AHeap.set (AHeap.set σ5 e _) e _ = σ6
  have K6 : Kept σ [r] σ6 [r] := by rw [← hσ6]; exact (K5.setD he).setD he
  have k6 : Kept σ5 [e] σ6 [e] := by rw [← hσ6]; exact (Kept.set (by simp)).trans (Kept.set (by simp))
  have r6 := r5.kept k6 (by simp [her.symm])
  have ge6 : σ6.get e = .cells [.string t,.string p,.int .i64 ((b % 4 : Nat) : Int),.bool (decide (b / 4 % 2 = 1)),.slice none 0 0,.string emp,.int .i64 0,.int .i64 (n : Int),.string g] true 0 := by rw [← hσ6,d4]; exact AHeap.get_set_same _ _ _
  have ga6 := (k6.at ga5 (by simp) (by simp [hae])).1
  clear hσ6
  try simp (disch := first | assumption | simp) only [↓sbD,sbU,tyB,Nat.reduceMul,Nat.reduceSub,Int.reduceEq,Int.reduceLT,Int.reduceLE,Int.reduceNe,Nat.reduceBneDiff,Nat.reduceBEq,decide_false,gt_iff_lt,Bool.or_self,Bool.false_eq_true,Nat.mul_one,Nat.one_mul,Nat.zero_mul,↓reduceIte,Nat.reduceEqDiff,Nat.reduceLT,Nat.reduceAdd,Nat.reduceLeDiff,reduceCtorEq,goInt,pairs,isConst,TI.isAgg,splice,boxS,Edp,dpv,Nat.beq_eq,ZV.val,List.any_cons,List.any_nil,Bool.false_and]
  refine specSBin r6 hs fun σ7 k7 r7 => ?_
  obtain ⟨f,s7,hf⟩ : ∃ f s7,binS s s5 = (f,s7) := ⟨_,_,rfl⟩
  simp only [hf] at hok hbad r7 ⊢
  have K7 := K6.trans k7
  have ga7 := (k7.at ga6 (by simp) (by simp [har])).1
  have ge7 := (k7.at ge6 (by simp) (by simp [her])).1
  simp (disch := first | assumption | simp) only [↓sbD,sbU,tyB,Nat.reduceMul,Nat.reduceSub,Int.reduceEq,Int.reduceLT,Int.reduceLE,Int.reduceNe,Nat.reduceBneDiff,Nat.reduceBEq,decide_false,gt_iff_lt,Bool.or_self,Bool.false_eq_true,Nat.mul_one,Nat.one_mul,Nat.zero_mul,↓reduceIte,Nat.reduceEqDiff,Nat.reduceLT,Nat.reduceAdd,Nat.reduceLeDiff,reduceCtorEq,goInt,pairs,isConst,TI.isAgg,splice,boxS,Edp,dpv,Nat.beq_eq,ZV.val,List.any_cons,List.any_nil,Bool.false_and,ge7,List.length_cons,List.length_nil,List.cons_append,List.nil_append,List.drop_succ_cons,List.drop_zero,List.set_cons_zero,List.set_cons_succ,decide_true]
  generalize hσ8 : AHeap.set σ7 e _ = σ8
  have K8 : Kept σ [r] σ8 [r] := by rw [← hσ8]; exact K7.setD he
  have k8 : Kept σ7 [e] σ8 [e] := by rw [← hσ8]; exact Kept.set (by simp)
  have r8 := r7.kept k8 (by simp [her.symm])
  have ge8 : σ8.get e = .cells [.string t,.string p,.int .i64 ((b % 4 : Nat) : Int),.bool (decide (b / 4 % 2 = 1)),.slice none 0 0,.string f,.int .i64 0,.int .i64 (n : Int),.string g] true 0 := by rw [← hσ8]; exact AHeap.get_set_same _ _ _
  have ga8 := (k8.at ga7 (by simp) (by simp [hae])).1
  clear hσ8
  try simp (disch := first | assumption | simp) only [↓sbD,sbU,tyB,Nat.reduceMul,Nat.reduceSub,Int.reduceEq,Int.reduceLT,Int.reduceLE,Int.reduceNe,Nat.reduceBneDiff,Nat.reduceBEq,decide_false,gt_iff_lt,Bool.or_self,Bool.false_eq_true,Nat.mul_one,Nat.one_mul,Nat.zero_mul,↓reduceIte,Nat.reduceEqDiff,Nat.reduceLT,Nat.reduceAdd,Nat.reduceLeDiff,reduceCtorEq,goInt,pairs,isConst,TI.isAgg,splice,boxS,Edp,dpv,Nat.beq_eq,ZV.val,List.any_cons,List.any_nil,Bool.false_and]
  refine specSU32 r8 hs fun σ9 k9 r9 => ?_
  obtain ⟨h,s9,hh⟩ : ∃ h s9,u32S s s7 = (h,s9) := ⟨_,_,rfl⟩
  simp only [hh] at hok hbad r9 ⊢
  have K9 := K8.trans k9
  have ga9 := (k9.at ga8 (by simp) (by simp [har])).1
  have ge9 := (k9.at ge8 (by simp) (by simp [her])).1
  simp (disch := first | assumption | simp) only [↓sbD,sbU,tyB,Nat.reduceMul,Nat.reduceSub,Int.reduceEq,Int.reduceLT,Int.reduceLE,Int.reduceNe,Nat.reduceBneDiff,Nat.reduceBEq,decide_false,gt_iff_lt,Bool.or_self,Bool.false_eq_true,Nat.mul_one,Nat.one_mul,Nat.zero_mul,↓reduceIte,Nat.reduceEqDiff,Nat.reduceLT,Nat.reduceAdd,Nat.reduceLeDiff,reduceCtorEq,goInt,pairs,isConst,TI.isAgg,splice,boxS,Edp,dpv,Nat.beq_eq,ZV.val,List.any_cons,List.any_nil,Bool.false_and,ge9,shl32,List.length_cons,List.length_nil,List.cons_append,List.nil_append,List.drop_succ_cons,List.drop_zero,List.set_cons_zero,List.set_cons_succ,decide_true]
  generalize hσ10 : AHeap.set σ9 e _ = σ10
  have K10 : Kept σ [r] σ10 [r] := by rw [← hσ10]; exact K9.setD he
  have k10 : Kept σ9 [e] σ10 [e] := by rw [← hσ10]; exact Kept.set (by simp)
  have r10 := r9.kept k10 (by simp [her.symm])
  have ge10 : σ10.get e = .cells [.string t,.string p,.int .i64 ((b % 4 : Nat) : Int),.bool (decide (b / 4 % 2 = 1)),.slice none 0 0,.string f,.int .i64 (IntKind.i64.wrap ((h : Int) * 4294967296)),.int .i64 (n : Int),.string g] true 0 := by rw [← hσ10]; exact AHeap.get_set_same _ _ _
  have ga10 := (k10.at ga9 (by simp) (by simp [hae])).1
  clear hσ10
  try simp (disch := first | assumption | simp) only [↓sbD,sbU,tyB,Nat.reduceMul,Nat.reduceSub,Int.reduceEq,Int.reduceLT,Int.reduceLE,Int.reduceNe,Nat.reduceBneDiff,Nat.reduceBEq,decide_false,gt_iff_lt,Bool.or_self,Bool.false_eq_true,Nat.mul_one,Nat.one_mul,Nat.zero_mul,↓reduceIte,Nat.reduceEqDiff,Nat.reduceLT,Nat.reduceAdd,Nat.reduceLeDiff,reduceCtorEq,goInt,pairs,isConst,TI.isAgg,splice,boxS,Edp,dpv,Nat.beq_eq,ZV.val,List.any_cons,List.any_nil,Bool.false_and,ge10]
  refine specSU32 r10 hs fun σ11 k11 r11 => ?_
  obtain ⟨w,s11,hw⟩ : ∃ w s11,u32S s s9 = (w,s11) := ⟨_,_,rfl⟩
  simp only [hw] at hok hbad r11 ⊢
  have K11 := K10.trans k11
  have ga11 := (k11.at ga10 (by simp) (by simp [har])).1
  have ge11 := (k11.at ge10 (by simp) (by simp [her])).1
  have hw32 : w < 4294967296 := by have := u32S_lt (s := s) (st := s9); rw [hw] at this; exact this
  have hor := or_hi (hi := h) (lo := w) hw32
  simp (disch := first | assumption | simp) only [↓sbD,sbU,tyB,Nat.reduceMul,Nat.reduceSub,Int.reduceEq,Int.reduceLT,Int.reduceLE,Int.reduceNe,Nat.reduceBneDiff,Nat.reduceBEq,decide_false,gt_iff_lt,Bool.or_self,Bool.false_eq_true,Nat.mul_one,Nat.one_mul,Nat.zero_mul,↓reduceIte,Nat.reduceEqDiff,Nat.reduceLT,Nat.reduceAdd,Nat.reduceLeDiff,reduceCtorEq,goInt,pairs,isConst,TI.isAgg,splice,boxS,Edp,dpv,Nat.beq_eq,ZV.val,List.any_cons,List.any_nil,Bool.false_and,ge10,ge11,hor,List.length_cons,List.length_nil,List.cons_append,List.nil_append,List.drop_succ_cons,List.drop_zero,List.set_cons_zero,List.set_cons_succ,decide_true]
  refine drawS_l (fl := [(1,3)]) (by kernel_rfl) ?_ ?_
  rotate_left; simp only [lastP_cc,lastP_one]; rotate_left
  ·simp only [List.all_cons,List.all_nil,floatS,List.getElem?_cons_succ,List.getElem?_cons_zero,List.getElem?_toArray,Region.wanted,Bool.not_true,Bool.not_false,Bool.false_or,Bool.true_or,Bool.or_true,Bool.true_and,reads,looksWeak,aev_tmp,aev_const,upd_at,↓reduceIte,Nat.reduceEqDiff,Nat.reduceLT,Nat.reduceAdd,ofL_zero,ofL_succ,blkOf,oeq_refl,oeq_of,dead_cells,dead_map,Bool.and_true,Bool.and_self,Bool.false_eq_true,Bool.not_false,ge10,ge11]
   try rfl
  try simp (disch := first | assumption | simp) only [↓sbD,sbU,tyB,Nat.reduceMul,Nat.reduceSub,Int.reduceEq,Int.reduceLT,Int.reduceLE,Int.reduceNe,Nat.reduceBneDiff,Nat.reduceBEq,decide_false,gt_iff_lt,Bool.or_self,Bool.false_eq_true,Nat.mul_one,Nat.one_mul,Nat.zero_mul,↓reduceIte,Nat.reduceEqDiff,Nat.reduceLT,Nat.reduceAdd,Nat.reduceLeDiff,reduceCtorEq,goInt,pairs,isConst,TI.isAgg,splice,boxS,Edp,dpv,Nat.beq_eq,ZV.val,List.any_cons,List.any_nil,Bool.false_and]
  generalize hσ12 : AHeap.set σ11 e _ = σ12
  have K12 : Kept σ [r] σ12 [r] := by rw [← hσ12]; exact K11.setD he
  have k12 : Kept σ11 [e] σ12 [e] := by rw [← hσ12]; exact Kept.set (by simp)
  have r12 := r11.kept k12 (by simp [her.symm])
  have ge12 : σ12.get e = .cells [.string t,.string p,.int .i64 ((b % 4 : Nat) : Int),.bool (decide (b / 4 % 2 = 1)),.slice none 0 0,.string f,.int .i64 (IntKind.i64.wrap ((h : Int) * 4294967296 + (w : Int))),.int .i64 (n : Int),.string g] true 0 := by rw [← hσ12]; exact AHeap.get_set_same _ _ _
  have ga12 := (k12.at ga11 (by simp) (by simp [hae])).1
  clear hσ12
  try simp (disch := first | assumption | simp) only [↓sbD,sbU,tyB,Nat.reduceMul,Nat.reduceSub,Int.reduceEq,Int.reduceLT,Int.reduceLE,Int.reduceNe,Nat.reduceBneDiff,Nat.reduceBEq,decide_false,gt_iff_lt,Bool.or_self,Bool.false_eq_true,Nat.mul_one,Nat.one_mul,Nat.zero_mul,↓reduceIte,Nat.reduceEqDiff,Nat.reduceLT,Nat.reduceAdd,Nat.reduceLeDiff,reduceCtorEq,goInt,pairs,isConst,TI.isAgg,splice,boxS,Edp,dpv,Nat.beq_eq,ZV.val,List.any_cons,List.any_nil,Bool.false_and]
  refine specSRead r12 hs (fun l q hrd v σ13 hv k13 r13 => ?_) fun k rr a' hrd σ13 d z k13 hd her' => ?_
  ·have hvc := dl_vc hv
   have ga13 := (k13.at ga12 (by simp) (by simp [har])).1
   have ge13 := (k13.at ge12 (by simp) (by simp [her])).1
   have K13 := K12.trans k13
   simp (disch := first | assumption | simp) only [↓sbD,sbU,tyB,Nat.reduceMul,Nat.reduceSub,Int.reduceEq,Int.reduceLT,Int.reduceLE,Int.reduceNe,Nat.reduceBneDiff,Nat.reduceBEq,decide_false,gt_iff_lt,Bool.or_self,Bool.false_eq_true,Nat.mul_one,Nat.one_mul,Nat.zero_mul,↓reduceIte,Nat.reduceEqDiff,Nat.reduceLT,Nat.reduceAdd,Nat.reduceLeDiff,reduceCtorEq,goInt,pairs,isConst,TI.isAgg,splice,boxS,Edp,dpv,Nat.beq_eq,ZV.val,List.any_cons,List.any_nil,Bool.false_and,ge13,hvc.1,hvc.2,List.length_cons,List.length_nil,List.cons_append,List.nil_append,List.drop_succ_cons,List.drop_zero,List.set_cons_zero,List.set_cons_succ,decide_true]
   generalize hσ14 : AHeap.set σ13 e _ = σ14
   have ge14 : σ14.get e = .cells [.string t,.string p,.int .i64 ((b % 4 : Nat) : Int),.bool (decide (b / 4 % 2 = 1)),v,.string f,.int .i64 (IntKind.i64.wrap ((h : Int) * 4294967296 + (w : Int))),.int .i64 (n : Int),.string g] true 0 := by rw [← hσ14]; exact AHeap.get_set_same _ _ _
   have k14 : Kept σ13 [e] σ14 [e] := by rw [← hσ14]; exact Kept.set (by simp)
   have K14 : Kept σ [r] σ14 [r] := by rw [← hσ14]; exact K13.setD he
   have r14 := r13.kept k14 (by simp [her.symm])
   have ga14 := (k14.at ga13 (by simp) (by simp [hae])).1
   clear hσ14
   simp (disch := first | assumption | simp) only [↓sbD,sbU,tyB,Nat.reduceMul,Nat.reduceSub,Int.reduceEq,Int.reduceLT,Int.reduceLE,Int.reduceNe,Nat.reduceBneDiff,Nat.reduceBEq,decide_false,gt_iff_lt,Bool.or_self,Bool.false_eq_true,Nat.mul_one,Nat.one_mul,Nat.zero_mul,↓reduceIte,Nat.reduceEqDiff,Nat.reduceLT,Nat.reduceAdd,Nat.reduceLeDiff,reduceCtorEq,goInt,pairs,isConst,TI.isAgg,splice,boxS,Edp,dpv,Nat.beq_eq,ZV.val,List.any_cons,List.any_nil,Bool.false_and,ge14,ga14,hvc.1,hvc.2,AHeap.get_set_same,res_cellc,resC_some]
   exact downS_here (hok (mOf g n t p b f h w l) b q ⟨_,hrd,rfl⟩ v _ hv (K14.setD ha) (r14.set har))
  ·have ga13 := (k13.at ga12 (by simp) (by simp [har])).1
   have ge13 := (k13.at ge12 (by simp) (by simp [her])).1
   have K13 := K12.trans k13
   have v0 : vcells (.slice none 0 0) = [.slice none 0 0] ∧ oneCell (.slice none 0 0) = true := ⟨rfl,rfl⟩
   simp (disch := first | assumption | simp) only [↓sbD,sbU,tyB,Nat.reduceMul,Nat.reduceSub,Int.reduceEq,Int.reduceLT,Int.reduceLE,Int.reduceNe,Nat.reduceBneDiff,Nat.reduceBEq,decide_false,gt_iff_lt,Bool.or_self,Bool.false_eq_true,Nat.mul_one,Nat.one_mul,Nat.zero_mul,↓reduceIte,Nat.reduceEqDiff,Nat.reduceLT,Nat.reduceAdd,Nat.reduceLeDiff,reduceCtorEq,goInt,pairs,isConst,TI.isAgg,splice,boxS,Edp,dpv,Nat.beq_eq,ZV.val,List.any_cons,List.any_nil,Bool.false_and,ge13,v0.1,v0.2,List.length_cons,List.length_nil,List.cons_append,List.nil_append,List.drop_succ_cons,List.drop_zero,List.set_cons_zero,List.set_cons_succ,decide_true]
   generalize hσ14 : AHeap.set σ13 e _ = σ14
   have ge14 : σ14.get e = .cells [.string t,.string p,.int .i64 ((b % 4 : Nat) : Int),.bool (decide (b / 4 % 2 = 1)),.slice none 0 0,.string f,.int .i64 (IntKind.i64.wrap ((h : Int) * 4294967296 + (w : Int))),.int .i64 (n : Int),.string g] true 0 := by rw [← hσ14]; exact AHeap.get_set_same _ _ _
   have k14 : Kept σ13 [e] σ14 [e] := by rw [← hσ14]; exact Kept.set (by simp)
   have K14 : Kept σ [r] σ14 [r] := by rw [← hσ14]; exact K13.setD he
   have ga14 := (k14.at ga13 (by simp) (by simp [hae])).1
   clear hσ14
   simp (disch := first | assumption | simp) only [↓sbD,sbU,tyB,Nat.reduceMul,Nat.reduceSub,Int.reduceEq,Int.reduceLT,Int.reduceLE,Int.reduceNe,Nat.reduceBneDiff,Nat.reduceBEq,decide_false,gt_iff_lt,Bool.or_self,Bool.false_eq_true,Nat.mul_one,Nat.one_mul,Nat.zero_mul,↓reduceIte,Nat.reduceEqDiff,Nat.reduceLT,Nat.reduceAdd,Nat.reduceLeDiff,reduceCtorEq,goInt,pairs,isConst,TI.isAgg,splice,boxS,Edp,dpv,Nat.beq_eq,ZV.val,List.any_cons,List.any_nil,Bool.false_and,ge14,ga14,AHeap.get_set_same,res_cellc,resC_some]
   exact downS_here (hbad k rr a' ⟨_,hrd,rfl⟩ (mOf g n t p b f h w []) (.slice none 0 0) b _ d z (.inl ⟨rfl,rfl⟩) (K14.setD ha) hd her')
end
section
variable {σ : AHeap} {Q : Value → AHeap → Prop} {s : ByteArray}
abbrev opZ : List Value := [.int .i64 0,.string emp,.int .i64 0,.string emp,.string emp,.int .i64 0,.bool false,.slice none 0 0,.string emp,.int .i64 0,.int .i64 0,.string emp]
theorem specTTake (hs : s.size ≤ 100000000)
  (hok : ∀ o,DecO s (.ok o) → ∀ v σ',DL propC 4 v o.m.l → Kept σ [] σ' [] → Q (.tuple #[.agg ⟨opC o v⟩,.nilIface]) σ')
  (hbad : ∀ k rr a : Nat,DecO s (.error (k,rr,a)) → ∀ σ' d z,Kept σ [] σ' [] → d ≤ 3 → ErN d (fv rr a z) k → Q (.tuple #[.agg ⟨[.int .i64 0,.string emp,.int .i64 0,.string emp,.string emp,.int .i64 0,.bool false,.slice none 0 0,.string emp,.int .i64 0,.int .i64 0,.string emp]⟩,fv rr a z]) σ') :
  CallS E B 7 [.string s] σ Q := by
 unfold DecO O0 at hok hbad
 refine call7 (by simp) ?_
 simp only [strip,bodyOf,Tryd.f7,getD_body,keepN,bareOp_mk,lessOp_mk,lapp_cons,lapp_nil,List.map_cons,List.map_nil,array_toList,↓reduceIte,Nat.reduceEqDiff,Bool.false_eq_true]
 simp (disch := first | assumption | simp) only [↓sbD,sbU,tyB,Nat.reduceMul,Nat.reduceSub,Int.reduceEq,Int.reduceLT,Int.reduceLE,Int.reduceNe,Nat.reduceBneDiff,Nat.reduceBEq,decide_false,gt_iff_lt,Bool.or_self,Bool.false_eq_true,Nat.mul_one,Nat.one_mul,Nat.zero_mul,↓reduceIte,Nat.reduceEqDiff,Nat.reduceLT,Nat.reduceAdd,Nat.reduceLeDiff,reduceCtorEq,goInt,pairs,isConst,TI.isAgg,splice,boxS,Edp,dpv,Nat.beq_eq,ZV.val,List.any_cons,List.any_nil,Bool.false_and,AS_new,zeOp]
 intro a ha
 generalize hσ1 : AHeap.set σ a _ = σ1
 have K1 : Kept σ [] σ1 [] := by rw [← hσ1]; exact (Kept.refl σ []).setD ha
 have ga1 : σ1.get a = .cells opZ true 0 := by rw [← hσ1]; exact AHeap.get_set_same _ _ _
 clear hσ1
 try simp (disch := first | assumption | simp) only [↓sbD,sbU,tyB,Nat.reduceMul,Nat.reduceSub,Int.reduceEq,Int.reduceLT,Int.reduceLE,Int.reduceNe,Nat.reduceBneDiff,Nat.reduceBEq,decide_false,gt_iff_lt,Bool.or_self,Bool.false_eq_true,Nat.mul_one,Nat.one_mul,Nat.zero_mul,↓reduceIte,Nat.reduceEqDiff,Nat.reduceLT,Nat.reduceAdd,Nat.reduceLeDiff,reduceCtorEq,goInt,pairs,isConst,TI.isAgg,splice,boxS,Edp,dpv,Nat.beq_eq,ZV.val,List.any_cons,List.any_nil,Bool.false_and]
 refine specRNew fun r σ2 hr k2 i2 => ?_
 have r2 : IsRS σ2 r s (.ok 0) := ⟨Nat.zero_le _,i2⟩
 have har : a ≠ r := by rintro rfl; rw [ga1] at hr; cases hr
 have K2 := K1.trans k2
 have ga2 := (k2.at ga1 (by simp) (by simp)).1
 have hrd : σ.get r = .dead := by
  by_cases h : σ.get r = .dead
  ·exact h
  ·have := K1.get r h (by simp); rw [hr] at this; exact this.symm
 simp (disch := first | assumption | simp) only [↓sbD,sbU,tyB,Nat.reduceMul,Nat.reduceSub,Int.reduceEq,Int.reduceLT,Int.reduceLE,Int.reduceNe,Nat.reduceBneDiff,Nat.reduceBEq,decide_false,gt_iff_lt,Bool.or_self,Bool.false_eq_true,Nat.mul_one,Nat.one_mul,Nat.zero_mul,↓reduceIte,Nat.reduceEqDiff,Nat.reduceLT,Nat.reduceAdd,Nat.reduceLeDiff,reduceCtorEq,goInt,pairs,isConst,TI.isAgg,splice,boxS,Edp,dpv,Nat.beq_eq,ZV.val,List.any_cons,List.any_nil,Bool.false_and]
 refine specSU8 r2 hs fun σ3 k3 r3 => ?_
 obtain ⟨k,s3,hk⟩ : ∃ k s3,u8S s (.ok 0) = (k,s3) := ⟨_,_,rfl⟩
 simp only [hk,O1] at hok hbad r3 ⊢
 have K3 := K2.trans k3
 have ga3 := (k3.at ga2 (by simp) (by simp [har])).1
 simp (disch := first | assumption | simp) only [↓sbD,sbU,tyB,Nat.reduceMul,Nat.reduceSub,Int.reduceEq,Int.reduceLT,Int.reduceLE,Int.reduceNe,Nat.reduceBneDiff,Nat.reduceBEq,decide_false,gt_iff_lt,Bool.or_self,Bool.false_eq_true,Nat.mul_one,Nat.one_mul,Nat.zero_mul,↓reduceIte,Nat.reduceEqDiff,Nat.reduceLT,Nat.reduceAdd,Nat.reduceLeDiff,reduceCtorEq,goInt,pairs,isConst,TI.isAgg,splice,boxS,Edp,dpv,Nat.beq_eq,ZV.val,List.any_cons,List.any_nil,Bool.false_and]
 refine specSBin r3 hs fun σ4 k4 r4 => ?_
 obtain ⟨g,s4,hg⟩ : ∃ g s4,binS s s3 = (g,s4) := ⟨_,_,rfl⟩
 simp only [hg,O2] at hok hbad r4 ⊢
 have K4 := K3.trans k4
 have ga4 := (k4.at ga3 (by simp) (by simp [har])).1
 simp (disch := first | assumption | simp) only [↓sbD,sbU,tyB,Nat.reduceMul,Nat.reduceSub,Int.reduceEq,Int.reduceLT,Int.reduceLE,Int.reduceNe,Nat.reduceBneDiff,Nat.reduceBEq,decide_false,gt_iff_lt,Bool.or_self,Bool.false_eq_true,Nat.mul_one,Nat.one_mul,Nat.zero_mul,↓reduceIte,Nat.reduceEqDiff,Nat.reduceLT,Nat.reduceAdd,Nat.reduceLeDiff,reduceCtorEq,goInt,pairs,isConst,TI.isAgg,splice,boxS,Edp,dpv,Nat.beq_eq,ZV.val,List.any_cons,List.any_nil,Bool.false_and]
 refine specSU32 r4 hs fun σ5 k5 r5 => ?_
 obtain ⟨n,s5,hn⟩ : ∃ n s5,u32S s s4 = (n,s5) := ⟨_,_,rfl⟩
 simp only [hn] at hok hbad r5 ⊢
 have K5 := K4.trans k5
 have ga5 := (k5.at ga4 (by simp) (by simp [har])).1
 simp (disch := first | assumption | simp) only [↓sbD,sbU,tyB,Nat.reduceMul,Nat.reduceSub,Int.reduceEq,Int.reduceLT,Int.reduceLE,Int.reduceNe,Nat.reduceBneDiff,Nat.reduceBEq,decide_false,gt_iff_lt,Bool.or_self,Bool.false_eq_true,Nat.mul_one,Nat.one_mul,Nat.zero_mul,↓reduceIte,Nat.reduceEqDiff,Nat.reduceLT,Nat.reduceAdd,Nat.reduceLeDiff,reduceCtorEq,goInt,pairs,isConst,TI.isAgg,splice,boxS,Edp,dpv,Nat.beq_eq,ZV.val,List.any_cons,List.any_nil,Bool.false_and,AS_new,zeOp]
 intro e he
 have hae : a ≠ e := by rintro rfl; rw [ga5] at he; cases he
 have her : e ≠ r := by rintro rfl; exact r5.alive he
 generalize hσ6 : AHeap.set (AHeap.set σ5 e _) e _ = σ6
 have k6 : Kept σ5 [] σ6 [] := by rw [← hσ6]; exact ((Kept.refl _ []).setD he).setD he
 have K6 : Kept σ [] σ6 [r] := K5.trans (k6.wid (fun _ h => by cases h) (fun _ h => .inr h))
 have r6 := r5.kept k6 (by simp)
 have ga6 := (k6.at ga5 (by simp) (by simp)).1
 have ge6 : σ6.get e = .cells [.int .i64 (k : Int),.string g,.int .i64 (n : Int),.string emp,.string emp,.int .i64 0,.bool false,.slice none 0 0,.string emp,.int .i64 0,.int .i64 0,.string emp] true 0 := by rw [← hσ6]; exact AHeap.get_set_same _ _ _
 clear hσ6
 by_cases hk1 : k = 1
 focus
  subst hk1
  have h11 : ((1 : Nat) : Int) = 1 := rfl
  simp only [if_true] at hok hbad
  simp (disch := first | assumption | simp) only [↓sbD,sbU,tyB,Nat.reduceMul,Nat.reduceSub,Int.reduceEq,Int.reduceLT,Int.reduceLE,Int.reduceNe,Nat.reduceBneDiff,Nat.reduceBEq,decide_false,gt_iff_lt,Bool.or_self,Bool.false_eq_true,Nat.mul_one,Nat.one_mul,Nat.zero_mul,↓reduceIte,Nat.reduceEqDiff,Nat.reduceLT,Nat.reduceAdd,Nat.reduceLeDiff,reduceCtorEq,goInt,pairs,isConst,TI.isAgg,splice,boxS,Edp,dpv,Nat.beq_eq,ZV.val,List.any_cons,List.any_nil,Bool.false_and,ge6,h11]
  refine specTRead r6 hs (fun m b q hrd' v σ7 hv k7 r7 => ?_) fun kk rr aa hrd' m v b σ7 d z hv k7 hd her' => ?_
  rotate_left
  ·have ga7 := (k7.at ga6 (by simp) (by simp [har])).1
   have hvc := dl_vc hv
   simp only [msC]
   simp (disch := first | assumption | simp) only [↓sbD,sbU,tyB,Nat.reduceMul,Nat.reduceSub,Int.reduceEq,Int.reduceLT,Int.reduceLE,Int.reduceNe,Nat.reduceBneDiff,Nat.reduceBEq,decide_false,gt_iff_lt,Bool.or_self,Bool.false_eq_true,Nat.mul_one,Nat.one_mul,Nat.zero_mul,↓reduceIte,Nat.reduceEqDiff,Nat.reduceLT,Nat.reduceAdd,Nat.reduceLeDiff,reduceCtorEq,goInt,pairs,isConst,TI.isAgg,splice,boxS,Edp,dpv,Nat.beq_eq,ZV.val,List.any_cons,List.any_nil,Bool.false_and,AS_new,zeMs,zeOp,hvc.1,hvc.2]
   intro c hc
   have hac : a ≠ c := by rintro rfl; rw [ga7] at hc; cases hc
   have ca : ∀ (τ : AHeap) o,(AHeap.set τ c o).get a = τ.get a := fun τ o => AHeap.get_set_ne _ _ hac.symm
   have hfin : ∀ o1 o2 o3,Kept σ [] (((σ7.set c o1).set c o2).set a o3) [] := fun o1 o2 o3 => (((K6.trans k7).trans (((Kept.refl σ7 [r]).setD hc).setD hc)).none).setD ha
   try simp (disch := first | assumption | simp) only [↓sbD,sbU,tyB,Nat.reduceMul,Nat.reduceSub,Int.reduceEq,Int.reduceLT,Int.reduceLE,Int.reduceNe,Nat.reduceBneDiff,Nat.reduceBEq,decide_false,gt_iff_lt,Bool.or_self,Bool.false_eq_true,Nat.mul_one,Nat.one_mul,Nat.zero_mul,↓reduceIte,Nat.reduceEqDiff,Nat.reduceLT,Nat.reduceAdd,Nat.reduceLeDiff,reduceCtorEq,goInt,pairs,isConst,TI.isAgg,splice,boxS,Edp,dpv,Nat.beq_eq,ZV.val,List.any_cons,List.any_nil,Bool.false_and,ca,ga7,zeOp,AHeap.get_set_same,res_cellc,resC_some]
   try simp (disch := first | assumption | simp) only [↓sbD,sbU,tyB,Nat.reduceMul,Nat.reduceSub,Int.reduceEq,Int.reduceLT,Int.reduceLE,Int.reduceNe,Nat.reduceBneDiff,Nat.reduceBEq,decide_false,gt_iff_lt,Bool.or_self,Bool.false_eq_true,Nat.mul_one,Nat.one_mul,Nat.zero_mul,↓reduceIte,Nat.reduceEqDiff,Nat.reduceLT,Nat.reduceAdd,Nat.reduceLeDiff,reduceCtorEq,goInt,pairs,isConst,TI.isAgg,splice,boxS,Edp,dpv,Nat.beq_eq,ZV.val,List.any_cons,List.any_nil,Bool.false_and,ca,ga7,zeOp,AHeap.get_set_same,res_cellc,resC_some]
   exact downS_here (hbad kk rr aa ⟨_,hrd',rfl⟩ _ d z (hfin _ _ _) hd her')
  focus
   have ga7 := (k7.at ga6 (by simp) (by simp [har])).1
   have ge7 := (k7.at ge6 (by simp) (by simp [her])).1
   have hvc := dl_vc hv
   simp only [msC]
   simp (disch := first | assumption | simp) only [↓sbD,sbU,tyB,Nat.reduceMul,Nat.reduceSub,Int.reduceEq,Int.reduceLT,Int.reduceLE,Int.reduceNe,Nat.reduceBneDiff,Nat.reduceBEq,decide_false,gt_iff_lt,Bool.or_self,Bool.false_eq_true,Nat.mul_one,Nat.one_mul,Nat.zero_mul,↓reduceIte,Nat.reduceEqDiff,Nat.reduceLT,Nat.reduceAdd,Nat.reduceLeDiff,reduceCtorEq,goInt,pairs,isConst,TI.isAgg,splice,boxS,Edp,dpv,Nat.beq_eq,ZV.val,List.any_cons,List.any_nil,Bool.false_and,AS_new,zeMs,hvc.1,hvc.2]
   intro c hc
   have hac : a ≠ c := by rintro rfl; rw [ga7] at hc; cases hc
   have hec : e ≠ c := by rintro rfl; rw [ge7] at hc; cases hc
   generalize hσ8 : AHeap.set (AHeap.set σ7 c _) c _ = σ8
   have k8 : Kept σ7 [] σ8 [] := by rw [← hσ8]; exact ((Kept.refl _ []).setD hc).setD hc
   have gc8 : σ8.get c = .cells [.string m.t,.string m.p,.int .i64 m.q,.bool m.r,v,.string m.f,.int .i64 m.u,.int .i64 m.n,.string m.g] true 0 := by rw [← hσ8]; exact AHeap.get_set_same _ _ _
   have ga8 := (k8.at ga7 (by simp) (by simp)).1
   have ge8 := (k8.at ge7 (by simp) (by simp)).1
   have r8 := r7.kept k8 (by simp)
   have K8 : Kept σ [] σ8 [r] := (K6.trans k7).trans (k8.wid (fun _ h => by cases h) (fun _ h => .inr h))
   clear hσ8
   simp (disch := first | assumption | simp) only [↓sbD,sbU,tyB,Nat.reduceMul,Nat.reduceSub,Int.reduceEq,Int.reduceLT,Int.reduceLE,Int.reduceNe,Nat.reduceBneDiff,Nat.reduceBEq,decide_false,gt_iff_lt,Bool.or_self,Bool.false_eq_true,Nat.mul_one,Nat.one_mul,Nat.zero_mul,↓reduceIte,Nat.reduceEqDiff,Nat.reduceLT,Nat.reduceAdd,Nat.reduceLeDiff,reduceCtorEq,goInt,pairs,isConst,TI.isAgg,splice,boxS,Edp,dpv,Nat.beq_eq,ZV.val,List.any_cons,List.any_nil,Bool.false_and,gc8,ge8,hvc.1,hvc.2,List.length_cons,List.length_nil,List.cons_append,List.nil_append,List.drop_succ_cons,List.drop_zero,List.set_cons_zero,List.set_cons_succ,decide_true]
   generalize hσ9 : AHeap.set σ8 e _ = σ9
   have k9 : Kept σ8 [e] σ9 [e] := by rw [← hσ9]; exact Kept.set (by simp)
   have K9 : Kept σ [] σ9 [r] := by
    rw [← hσ9]
    refine ⟨fun x hx hn => ?_,K8.new⟩
    have hxe : e ≠ x := by
     rintro rfl
     have := K5.get e hx (by simp)
     rw [he] at this; exact hx this.symm
    rw [AHeap.get_set_ne _ _ hxe]; exact K8.get x hx hn
   have r9 := r8.kept k9 (by simp [her.symm])
   have ga9 := (k9.at ga8 (by simp) (by simp [hae])).1
   obtain ⟨o,ho⟩ : ∃ o : Op1,o = ⟨1,g,n,m⟩ := ⟨_,rfl⟩
   have hvo : DL propC 4 v o.m.l := by rw [ho]; exact hv
   have ge9 : σ9.get e = .cells (opC o v) true 0 := by rw [← hσ9,ho]; exact AHeap.get_set_same _ _ _
   have hok' : ∀ o',finO s o b (.ok q) = .ok o' → ∀ v σ',DL propC 4 v o'.m.l → Kept σ [] σ' [] → Q (.tuple #[.agg ⟨opC o' v⟩,.nilIface]) σ' := fun o' h => hok o' ⟨_,hrd',by rw [← h,ho]; rfl⟩
   have hbad' : ∀ k rr a : Nat,finO s o b (.ok q) = .error (k,rr,a) → ∀ σ' d z,Kept σ [] σ' [] → d ≤ 3 → ErN d (fv rr a z) k → Q (.tuple #[.agg ⟨[.int .i64 0,.string emp,.int .i64 0,.string emp,.string emp,.int .i64 0,.bool false,.slice none 0 0,.string emp,.int .i64 0,.int .i64 0,.string emp]⟩,fv rr a z]) σ' := fun k rr a h => hbad k rr a ⟨_,hrd',by rw [← h,ho]; rfl⟩
   generalize (Except.ok q : RSt) = stt at r9 hok' hbad'
   generalize hfl : b = fl at hok' hbad'
   clear hσ9
   try simp (disch := first | assumption | simp) only [↓sbD,sbU,tyB,Nat.reduceMul,Nat.reduceSub,Int.reduceEq,Int.reduceLT,Int.reduceLE,Int.reduceNe,Nat.reduceBneDiff,Nat.reduceBEq,decide_false,gt_iff_lt,Bool.or_self,Bool.false_eq_true,Nat.mul_one,Nat.one_mul,Nat.zero_mul,↓reduceIte,Nat.reduceEqDiff,Nat.reduceLT,Nat.reduceAdd,Nat.reduceLeDiff,reduceCtorEq,goInt,pairs,isConst,TI.isAgg,splice,boxS,Edp,dpv,Nat.beq_eq,ZV.val,List.any_cons,List.any_nil,Bool.false_and,hfl]
 rotate_left
 focus
  have hk1' : ¬ (k : Int) = 1 := by omega
  simp only [if_neg hk1] at hok hbad
  simp (disch := first | assumption | simp) only [↓sbD,sbU,tyB,Nat.reduceMul,Nat.reduceSub,Int.reduceEq,Int.reduceLT,Int.reduceLE,Int.reduceNe,Nat.reduceBneDiff,Nat.reduceBEq,decide_false,gt_iff_lt,Bool.or_self,Bool.false_eq_true,Nat.mul_one,Nat.one_mul,Nat.zero_mul,↓reduceIte,Nat.reduceEqDiff,Nat.reduceLT,Nat.reduceAdd,Nat.reduceLeDiff,reduceCtorEq,goInt,pairs,isConst,TI.isAgg,splice,boxS,Edp,dpv,Nat.beq_eq,ZV.val,List.any_cons,List.any_nil,Bool.false_and,ge6,hk1']
  have K9 := K6
  have r9 := r6
  have ga9 := ga6
  obtain ⟨o,ho⟩ : ∃ o : Op1,o = ⟨k,g,n,mz⟩ := ⟨_,rfl⟩
  obtain ⟨v,hve⟩ : ∃ v : Value,v = .slice none 0 0 := ⟨_,rfl⟩
  have hvo : DL propC 4 v o.m.l := by rw [ho,hve]; exact .inl ⟨rfl,rfl⟩
  have ge9 : σ6.get e = .cells (opC o v) true 0 := by rw [ge6,ho,hve]; rfl
  obtain ⟨fl,hfl⟩ : ∃ fl : Nat,fl = 0 := ⟨_,rfl⟩
  have hok' : ∀ o',finO s o fl s5 = .ok o' → ∀ v σ',DL propC 4 v o'.m.l → Kept σ [] σ' [] → Q (.tuple #[.agg ⟨opC o' v⟩,.nilIface]) σ' := fun o' h => hok o' (by rw [← h,ho,hfl])
  have hbad' : ∀ k rr a : Nat,finO s o fl s5 = .error (k,rr,a) → ∀ σ' d z,Kept σ [] σ' [] → d ≤ 3 → ErN d (fv rr a z) k → Q (.tuple #[.agg ⟨[.int .i64 0,.string emp,.int .i64 0,.string emp,.string emp,.int .i64 0,.bool false,.slice none 0 0,.string emp,.int .i64 0,.int .i64 0,.string emp]⟩,fv rr a z]) σ' := fun k rr a h => hbad k rr a (by rw [← h,ho,hfl])
 all_goals
  unfold finO at hok' hbad'
  refine specSDone r9 hs (fun hend => ?_) fun k q d z hend hd her' => ?_
  rotate_left
  ·rw [hend] at hbad'
   simp (disch := first | assumption | simp) only [↓sbD,sbU,tyB,Nat.reduceMul,Nat.reduceSub,Int.reduceEq,Int.reduceLT,Int.reduceLE,Int.reduceNe,Nat.reduceBneDiff,Nat.reduceBEq,decide_false,gt_iff_lt,Bool.or_self,Bool.false_eq_true,Nat.mul_one,Nat.one_mul,Nat.zero_mul,↓reduceIte,Nat.reduceEqDiff,Nat.reduceLT,Nat.reduceAdd,Nat.reduceLeDiff,reduceCtorEq,goInt,pairs,isConst,TI.isAgg,splice,boxS,Edp,dpv,Nat.beq_eq,ZV.val,List.any_cons,List.any_nil,Bool.false_and,ga9,zeOp,AHeap.get_set_same,res_cellc,resC_some]
   exact downS_here (hbad' k 129 q rfl _ d z (K9.none.setD ha) (by omega) her')
  rw [hend] at hok' hbad'
  simp only at hok' hbad'
  have hvoc := dl_vc hvo
  have ge9' := ge9
  simp only [opC] at ge9'
  simp (disch := first | assumption | simp) only [↓sbD,sbU,tyB,Nat.reduceMul,Nat.reduceSub,Int.reduceEq,Int.reduceLT,Int.reduceLE,Int.reduceNe,Nat.reduceBneDiff,Nat.reduceBEq,decide_false,gt_iff_lt,Bool.or_self,Bool.false_eq_true,Nat.mul_one,Nat.one_mul,Nat.zero_mul,↓reduceIte,Nat.reduceEqDiff,Nat.reduceLT,Nat.reduceAdd,Nat.reduceLeDiff,reduceCtorEq,goInt,pairs,isConst,TI.isAgg,splice,boxS,Edp,dpv,Nat.beq_eq,ZV.val,List.any_cons,List.any_nil,Bool.false_and,ge9']
  refine specTMay hvo fun σ10 k10 => ?_
  have ga10 := (k10.at ga9 (by simp) (by simp)).1
  have ge10 := (k10.at ge9' (by simp) (by simp)).1
  have K10 : Kept σ [] σ10 [] := K9.none.trans k10
  by_cases hm : mayO o
  ·by_cases hf : fl ≤ 7
   ·have hf' : ¬ (7 : Int) < (fl : Int) := by omega
    rw [if_pos ⟨hm,hf⟩] at hok'
    simp (disch := first | assumption | simp) only [↓sbD,sbU,tyB,Nat.reduceMul,Nat.reduceSub,Int.reduceEq,Int.reduceLT,Int.reduceLE,Int.reduceNe,Nat.reduceBneDiff,Nat.reduceBEq,decide_false,gt_iff_lt,Bool.or_self,Bool.false_eq_true,Nat.mul_one,Nat.one_mul,Nat.zero_mul,↓reduceIte,Nat.reduceEqDiff,Nat.reduceLT,Nat.reduceAdd,Nat.reduceLeDiff,reduceCtorEq,goInt,pairs,isConst,TI.isAgg,splice,boxS,Edp,dpv,Nat.beq_eq,ZV.val,List.any_cons,List.any_nil,Bool.false_and,eq_true hm,decide_true,not_bool,Bool.not_true,hfl,hf',ge10,ga10,hvoc.1,hvoc.2,AHeap.get_set_same,res_cellc,resC_some]
    exact downS_here (hok' o rfl v _ hvo (K10.setD ha))
   ·first
     | (exfalso; omega)
     | (have hf' : (7 : Int) < (fl : Int) := by omega
        rw [if_neg (fun h => hf h.2)] at hbad'
        simp (disch := first | assumption | simp) only [↓sbD,sbU,tyB,Nat.reduceMul,Nat.reduceSub,Int.reduceEq,Int.reduceLT,Int.reduceLE,Int.reduceNe,Nat.reduceBneDiff,Nat.reduceBEq,decide_false,gt_iff_lt,Bool.or_self,Bool.false_eq_true,Nat.mul_one,Nat.one_mul,Nat.zero_mul,↓reduceIte,Nat.reduceEqDiff,Nat.reduceLT,Nat.reduceAdd,Nat.reduceLeDiff,reduceCtorEq,goInt,pairs,isConst,TI.isAgg,splice,boxS,Edp,dpv,Nat.beq_eq,ZV.val,List.any_cons,List.any_nil,Bool.false_and,eq_true hm,decide_true,not_bool,Bool.not_true,hfl,hf',gk2]
        refine specNew (n := 2) ⟨by omega,by omega⟩ ?_
        simp (disch := first | assumption | simp) only [↓sbD,sbU,tyB,Nat.reduceMul,Nat.reduceSub,Int.reduceEq,Int.reduceLT,Int.reduceLE,Int.reduceNe,Nat.reduceBneDiff,Nat.reduceBEq,decide_false,gt_iff_lt,Bool.or_self,Bool.false_eq_true,Nat.mul_one,Nat.one_mul,Nat.zero_mul,↓reduceIte,Nat.reduceEqDiff,Nat.reduceLT,Nat.reduceAdd,Nat.reduceLeDiff,reduceCtorEq,goInt,pairs,isConst,TI.isAgg,splice,boxS,Edp,dpv,Nat.beq_eq,ZV.val,List.any_cons,List.any_nil,Bool.false_and,ga10,zeOp,AHeap.get_set_same,res_cellc,resC_some]
        exact downS_here (hbad' 2 129 0 rfl _ 1 _ (K10.setD ha) (by omega) (ErN.new _ _ ⟨by omega,by omega⟩)))
  ·rw [if_neg (fun h => hm h.1)] at hbad'
   simp (disch := first | assumption | simp) only [↓sbD,sbU,tyB,Nat.reduceMul,Nat.reduceSub,Int.reduceEq,Int.reduceLT,Int.reduceLE,Int.reduceNe,Nat.reduceBneDiff,Nat.reduceBEq,decide_false,gt_iff_lt,Bool.or_self,Bool.false_eq_true,Nat.mul_one,Nat.one_mul,Nat.zero_mul,↓reduceIte,Nat.reduceEqDiff,Nat.reduceLT,Nat.reduceAdd,Nat.reduceLeDiff,reduceCtorEq,goInt,pairs,isConst,TI.isAgg,splice,boxS,Edp,dpv,Nat.beq_eq,ZV.val,List.any_cons,List.any_nil,Bool.false_and,hm,decide_false,not_bool,Bool.not_false,gk2]
   refine specNew (n := 2) ⟨by omega,by omega⟩ ?_
   simp (disch := first | assumption | simp) only [↓sbD,sbU,tyB,Nat.reduceMul,Nat.reduceSub,Int.reduceEq,Int.reduceLT,Int.reduceLE,Int.reduceNe,Nat.reduceBneDiff,Nat.reduceBEq,decide_false,gt_iff_lt,Bool.or_self,Bool.false_eq_true,Nat.mul_one,Nat.one_mul,Nat.zero_mul,↓reduceIte,Nat.reduceEqDiff,Nat.reduceLT,Nat.reduceAdd,Nat.reduceLeDiff,reduceCtorEq,goInt,pairs,isConst,TI.isAgg,splice,boxS,Edp,dpv,Nat.beq_eq,ZV.val,List.any_cons,List.any_nil,Bool.false_and,ga10,zeOp,AHeap.get_set_same,res_cellc,resC_some]
   exact downS_here (hbad' 2 129 0 rfl _ 1 _ (K10.setD ha) (by omega) (ErN.new _ _ ⟨by omega,by omega⟩))
end
end Go.Proofs.YtkhcbbpfchgemaaDoor.AbsB
namespace Go.Proofs.YtkhcbbpfchgemaaDoor.AbsB
open Go AbsYtkhcbbpfchgemaaDoor Abs
set_option maxRecDepth 100000
set_option maxHeartbeats 4000000
set_option linter.unusedSimpArgs false
set_option linter.unusedVariables false
section
variable {E : Env} {B : AHeap} {α : Type} {enc : α → List Value} {sz : Nat}
theorem fm_len (hsz : ∀ a,(enc a).length = sz) : ∀ l : List α,(l.flatMap enc).length = l.length * sz
 | [] => by simp
 | a :: l => by rw [List.flatMap_cons,List.length_append,hsz,fm_len hsz l,List.length_cons,Nat.succ_mul]; omega
theorem fm_drop (hsz : ∀ a,(enc a).length = sz) : ∀ (l : List α) (i : Nat),i ≤ l.length → (l.flatMap enc).drop (i * sz) = (l.drop i).flatMap enc
 | l,0,_ => by simp
 | [],i + 1,h => by simp at h
 | a :: l,i + 1,h => by
  rw [List.flatMap_cons,List.drop_succ_cons,← fm_drop hsz l i (by simpa using h),Nat.succ_mul,Nat.add_comm,← List.drop_drop,List.drop_left' (hsz a)]
theorem fm_take (hsz : ∀ a,(enc a).length = sz) : ∀ (l : List α) (i : Nat),i ≤ l.length → (l.flatMap enc).take (i * sz) = (l.take i).flatMap enc
 | l,0,_ => by simp
 | [],i + 1,h => by simp at h
 | a :: l,i + 1,h => by
  rw [List.take_succ_cons,List.flatMap_cons,List.flatMap_cons,← fm_take hsz l i (by simpa using h),Nat.succ_mul,Nat.add_comm,← hsz a]
  exact List.take_length_add_append ..
theorem fm_at (hsz : ∀ a,(enc a).length = sz) {l : List α} {i : Nat} (hi : i < l.length) {pre cs : List Value} : ((pre ++ (l.flatMap enc ++ cs)).drop (pre.length + i * sz)).take sz = enc l[i] := by
 rw [← List.drop_drop,List.drop_left' rfl,List.drop_append_of_le_length (by rw [fm_len hsz]; exact Nat.mul_le_mul_right _ (by omega)),fm_drop hsz l i (by omega),List.drop_eq_getElem_cons hi,List.flatMap_cons,List.append_assoc]
 exact List.take_left' (hsz _)
theorem fm_le (hsz : ∀ a,(enc a).length = sz) {l : List α} {i : Nat} (hi : i < l.length) {pre cs : List Value} : pre.length + i * sz + sz ≤ (pre ++ (l.flatMap enc ++ cs)).length := by
 have : (i + 1) * sz ≤ l.length * sz := Nat.mul_le_mul_right _ hi
 rw [List.length_append,List.length_append,fm_len hsz]
 rw [Nat.succ_mul] at this
 omega
def GS (enc : α → List Value) (sz : Nat) (σ : AHeap) (v : Value) (l : List α) (fp : List Nat) : Prop :=
 (l = [] ∧ v = .slice none 0 0 ∧ fp = []) ∨ ∃ (d : Nat) (ex : Option Nat) (c : Nat) (pre cs : List Value),v = .slice (some ⟨d,pre.length,ex⟩) l.length c ∧ σ.get d = .cells (pre ++ (l.flatMap enc ++ cs)) true sz ∧ l.length ≤ c ∧ (l.flatMap enc ++ cs).length = c * sz ∧ (ex = none ∨ ex = some 1) ∧ fp = [d]
variable {σ : AHeap} {v : Value} {l : List α} {fp : List Nat}
theorem GS.kept {σ' : AHeap} {gp gp' : List Nat} (h : GS enc sz σ v l fp) (k : Kept σ gp σ' gp') (hd : ∀ b ∈ fp,b ∉ gp) : GS enc sz σ' v l fp := by
 rcases h with h | ⟨d,ex,c,pre,cs,h1,h2,h3,h4,h5,rfl⟩
 ·exact .inl h
 ·exact .inr ⟨d,ex,c,pre,cs,h1,(k.at h2 (by simp) (hd d (by simp))).1,h3,h4,h5,rfl⟩
theorem GS.set {b : Nat} {o : AObj} (h : GS enc sz σ v l fp) (hd : b ∉ fp) : GS enc sz (σ.set b o) v l fp := by
 rcases h with h | ⟨d,ex,c,pre,cs,h1,h2,h3,h4,h5,rfl⟩
 ·exact .inl h
 ·exact .inr ⟨d,ex,c,pre,cs,h1,by rw [AHeap.get_set_ne _ _ (by intro e; exact hd (by simp [e]))]; exact h2,h3,h4,h5,rfl⟩
theorem GS.live (h : GS enc sz σ v l fp) : ∀ b ∈ fp,∃ cs,σ.get b = .cells cs true sz := by
 rcases h with ⟨_,_,rfl⟩ | ⟨d,ex,c,pre,cs,h1,h2,h3,h4,h5,rfl⟩ <;> intro b hb
 ·cases hb
 ·obtain rfl := List.mem_singleton.1 hb; exact ⟨_,h2⟩
theorem GS.off (h : GS enc sz σ v l fp) {b : Nat} {xs : List Value} {w : Bool} {z : Nat} (hg : σ.get b = .cells xs w z) (hz : z ≠ sz) : b ∉ fp := fun hb => by
 obtain ⟨cs,h1⟩ := h.live b hb
 rw [hg] at h1; injection h1 with _ _ h2; exact hz h2
theorem GS.vc (h : GS enc sz σ v l fp) : vcells v = [v] ∧ oneCell v = true := by
 rcases h with ⟨_,rfl,_⟩ | ⟨d,ex,c,pre,cs,rfl,_⟩ <;> exact ⟨rfl,rfl⟩
theorem GS.nil : GS enc sz σ (.slice none 0 0) ([] : List α) [] := .inl ⟨rfl,rfl,rfl⟩
theorem GS.len (h : GS enc sz σ v l fp) {τ : AHeap} {t e : Nat} {a1 a2 : Nat} {z : Option (List ZV)} {q : Bool} (ht : E.ty.get t = some ⟨.slice e,a1,a2,z,q⟩) : abuiltin E τ .len [t] [v] = some (.int .i64 (l.length : Int),τ) := by
 rcases h with ⟨rfl,rfl,_⟩ | ⟨d,ex,c,pre,cs,rfl,_⟩ <;> simp only [abuiltin,ht,goInt]
 rfl
theorem GS.at (h : GS enc sz σ v l fp) (hsz : ∀ a,(enc a).length = sz) {i : Nat} (hi : i < l.length) {t e a1 a2 b2 : Nat} {z z2 : Option (List ZV)} {q q2 : Bool} {k2 : TK} (ht : E.ty.get t = some ⟨.slice e,a1,a2,z,q⟩) (he : E.ty.get e = some ⟨k2,sz,b2,z2,q2⟩) :
  ∃ d o xs,aindexAddr E t v (.int .i64 (i : Int)) = some (.pointer (some ⟨d,o,none⟩)) ∧ σ.get d = .cells xs true sz ∧ o + sz ≤ xs.length ∧ (xs.drop o).take sz = enc l[i] ∧ fp = [d] ∧ (∀ y,GS enc sz (σ.set d (.cells (xs.take o ++ enc y ++ xs.drop (o + sz)) true sz)) v (l.set i y) fp) := by
 rcases h with ⟨rfl,rfl,_⟩ | ⟨d,ex,c,pre,cs,rfl,h2,h3,h4,h5,rfl⟩
 ·simp at hi
 ·refine ⟨d,pre.length + i * sz,_,?_,h2,fm_le hsz hi,fm_at hsz hi,rfl,fun y => .inr ⟨d,ex,c,pre,cs,by rw [List.length_set],?_,by rw [List.length_set]; exact h3,?_,h5,rfl⟩⟩
  ·simp only [aindexAddr,ht,he]
   rw [if_pos ⟨by omega,by omega⟩]
   simp
  ·rw [AHeap.get_set_same]
   have e1 : (pre ++ (l.flatMap enc ++ cs)).take (pre.length + i * sz) = pre ++ (l.take i).flatMap enc := by
    rw [List.take_length_add_append,List.take_append_of_le_length (by rw [fm_len hsz]; exact Nat.mul_le_mul_right _ (by omega)),fm_take hsz l i (by omega)]
   have e2 : (pre ++ (l.flatMap enc ++ cs)).drop (pre.length + i * sz + sz) = (l.drop (i + 1)).flatMap enc ++ cs := by
    rw [Nat.add_assoc,← Nat.succ_mul,← List.drop_drop,List.drop_left' rfl,List.drop_append_of_le_length (by rw [fm_len hsz]; exact Nat.mul_le_mul_right _ hi),fm_drop hsz l (i + 1) hi]
   rw [e1,e2,List.set_eq_take_append_cons_drop,if_pos hi,List.flatMap_append,List.flatMap_cons]
   simp only [List.append_assoc]
  ·rw [List.length_append,fm_len hsz,List.length_set,← fm_len hsz,← List.length_append]; exact h4
theorem fm_oc (ho : ∀ a,(enc a).all oneCell = true) (l : List α) : (l.flatMap enc).all oneCell = true := by
 rw [List.all_flatMap,List.all_eq_true]
 intro a _
 exact ho a
theorem dead_any {b : Nat} (hb0 : ∀ c,σ.get c ≠ .dead → c < b) : σ.get b = .dead := by
 rcases hg : σ.get b with _ | _ | _
 ·rfl
 ·exact absurd (hb0 b (by rw [hg]; simp)) (Nat.lt_irrefl _)
 ·exact absurd (hb0 b (by rw [hg]; simp)) (Nat.lt_irrefl _)
theorem GS.src (h : GS enc sz σ v l fp) (hsz : ∀ a,(enc a).length = sz) : srcCells σ sz v = some (l.length,l.flatMap enc) := by
 rcases h with ⟨rfl,rfl,_⟩ | ⟨d,ex,c,pre,cs,rfl,h2,h3,h4,h5,rfl⟩
 ·rfl
 ·have hle : pre.length + l.length * sz ≤ (pre ++ (l.flatMap enc ++ cs)).length := by rw [List.length_append,List.length_append,fm_len hsz]; omega
  simp only [srcCells,takeCells,h2]
  rw [if_pos hle,List.drop_left' rfl]
  simp only [Option.map_some]
  rw [List.take_left' (fm_len hsz l)]
theorem GS.app {K : Value → AHeap → Prop} {x : Value} {xs : List α} {t e u by_ a1 a2 : Nat} {z1 : Option (List ZV)} {q1 q2 : Bool} {k2 : TK} {zs : List ZV} {iu : TI}
  (hv : GS enc sz σ v l fp)
  (ht : E.ty.get t = some ⟨.slice e,a1,a2,z1,q1⟩) (he : E.ty.get e = some ⟨k2,sz,by_,some zs,q2⟩) (hz : zs.length = sz) (hs0 : 0 < sz) (hby : 0 < by_) (hu : E.ty.get u = some iu) (hki : iu.k.isInt = false) (hdp : E.dp t = false)
  (hsz : ∀ a,(enc a).length = sz) (ho : ∀ a,(enc a).all oneCell = true)
  (hx : srcCells σ sz x = some (xs.length,xs.flatMap enc)) (hn : (l.length + xs.length) * by_ ≤ 140737488355328) (hone : xs.length = 1 ∨ ∃ d n c,v = .slice (some ⟨d,0,some 1⟩) n c) (hq : ∀ σ' v' fp',Kept σ fp σ' fp' → GS enc sz σ' v' (l ++ xs) fp' → K v' σ') :
  afterOpS E B (some (.any fun b => aappend E (σ.resize b) [t,u] [v,x])) σ K := by
 intro b hb0
 have hbd := dead_any hb0
 have hz5 : azero E e = some (zs.map ZV.val) := by unfold azero; rw [he]; rfl
 have hsrc : srcCells (σ.resize b) sz x = some (xs.length,xs.flatMap enc) := hx
 have hoc := fm_oc ho xs
 have c0 : (decide (sz = 0) || decide (by_ = 0) || (zs.map ZV.val).length != sz || iu.k.isInt) = false := by
  rw [List.length_map,hz,hki]
  have h1 : decide (sz = 0) = false := by simp; omega
  have h2 : decide (by_ = 0) = false := by simp; omega
  rw [h1,h2]; simp
 have hnew : ∀ (τ : AHeap) (old : List Value),τ.size = b → old = (l ++ xs).flatMap enc → (∀ c,c ∉ fp → τ.get c = σ.get c) → Kept σ fp ((τ.alloc (.cells old true sz)).resize σ.size) [b] ∧ GS enc sz ((τ.alloc (.cells old true sz)).resize σ.size) (.slice (some ⟨b,0,none⟩) (l.length + xs.length) (l.length + xs.length)) (l ++ xs) [b] := by
  intro τ old hτ ho hg
  subst hτ ho
  refine ⟨⟨fun c hc hn => ?_,fun c hc => ?_⟩,.inr ⟨τ.size,none,l.length + xs.length,[],[],by rw [List.length_append]; rfl,?_,by rw [List.length_append]; exact Nat.le_refl _,by rw [List.append_nil,fm_len hsz,List.length_append],.inl rfl,rfl⟩⟩
  ·show (τ.alloc _).get c = σ.get c
   rw [AHeap.get_alloc_ne _ _ (by rintro rfl; exact hc hbd)]
   exact hg c hn
  ·obtain rfl := List.mem_singleton.1 hc; exact .inr hbd
  ·show (τ.alloc _).get τ.size = _
   rw [AHeap.get_alloc_same,List.append_nil,List.nil_append]
 rcases hv with ⟨rfl,rfl,rfl⟩ | ⟨d,ex,c,pre,cs,rfl,h2,h3,h4,h5,rfl⟩
 ·by_cases h0 : xs.length = 0
  ·refine ⟨.slice none 0 0,σ.resize b,?_,hq _ _ [] ⟨fun c _ _ => rfl,fun _ h => by cases h⟩ (.inl ⟨by rw [List.nil_append]; exact List.eq_nil_of_length_eq_zero h0,rfl,rfl⟩)⟩
   simp only [aappend,ht,hu,he,hz5,hsrc,c0,h0,Bool.false_eq_true,if_false,if_true,decide_true]
  ·obtain ⟨g1,g2⟩ := hnew (σ.resize b) (xs.flatMap enc) rfl rfl (fun c _ => rfl)
   refine ⟨_,_,?_,hq _ _ _ g1 g2⟩
   have c1 : xs.length * by_ ≤ 140737488355328 := by simpa using hn
   simp only [aappend,ht,hu,he,hz5,hsrc,c0,h0,hoc,hdp,c1,Bool.false_eq_true,if_false,if_true,decide_true,Bool.and_self,List.nil_append,List.length_nil,Nat.zero_add]
   rfl
 ·by_cases hfull : l.length + xs.length ≤ c
  ·by_cases h0 : xs.length = 0
   ·have hx0 := List.eq_nil_of_length_eq_zero h0
    subst hx0
    refine ⟨_,σ.resize b,?_,hq _ (.slice (some ⟨d,pre.length,ex⟩) l.length c) [d] ⟨fun c _ _ => rfl,fun _ h => .inl h⟩ (.inr ⟨d,ex,c,pre,cs,by rw [List.append_nil],by rw [List.append_nil]; exact h2,by rw [List.append_nil]; exact h3,by rw [List.append_nil]; exact h4,h5,rfl⟩)⟩
    simp only [aappend,ht,hu,he,hz5,hsrc,c0,get_resize,h2,h3,List.length_nil,Nat.add_zero,Bool.false_eq_true,if_false,if_true,decide_true]
   ·have hlen : (l.flatMap enc).length + (xs.flatMap enc).length ≤ (l.flatMap enc ++ cs).length := by
     rw [h4,fm_len hsz,fm_len hsz,← Nat.add_mul]; exact Nat.mul_le_mul_right _ hfull
    have hle : pre.length + l.length * sz + (xs.flatMap enc).length ≤ (pre ++ (l.flatMap enc ++ cs)).length := by
     rw [List.length_append]; rw [fm_len hsz l] at hlen; omega
    have hst : astoreAt (σ.resize b) d (pre.length + l.length * sz) (xs.flatMap enc) = some ((σ.resize b).set d (.cells (splice (pre ++ (l.flatMap enc ++ cs)) (pre.length + l.length * sz) (xs.flatMap enc)) true sz)) := by
     simp only [astoreAt,get_resize,h2,hoc,Bool.true_and]
     rw [if_pos (by simpa using hle)]
    have hsp : splice (pre ++ (l.flatMap enc ++ cs)) (pre.length + l.length * sz) (xs.flatMap enc) = pre ++ ((l ++ xs).flatMap enc ++ cs.drop (xs.flatMap enc).length) := by
     have hcs : (xs.flatMap enc).length ≤ cs.length := by rw [List.length_append] at hlen; omega
     rw [splice,List.take_length_add_append,← fm_len hsz l,List.take_left' rfl,Nat.add_assoc,← List.drop_drop,List.drop_left' rfl,← List.drop_drop,List.drop_left' rfl,List.flatMap_append]
     simp only [List.append_assoc]
    refine ⟨.slice (some ⟨d,pre.length,ex⟩) (l.length + xs.length) c,(σ.resize b).set d (.cells (splice (pre ++ (l.flatMap enc ++ cs)) (pre.length + l.length * sz) (xs.flatMap enc)) true sz),?_,hq _ _ [d] ⟨fun c' hc' hne => ?_,fun _ h => .inl h⟩ (.inr ⟨d,ex,c,pre,cs.drop (xs.flatMap enc).length,by rw [List.length_append],?_,by rw [List.length_append]; exact hfull,?_,h5,rfl⟩)⟩
    ·simp only [aappend,ht,hu,he,hz5,hsrc,c0,hfull,get_resize,h2,h0,hst,Bool.false_eq_true,if_false,if_true,decide_true,Option.map_some]
    ·show ((σ.resize b).set d _).get c' = σ.get c'
     rw [AHeap.get_set_ne _ _ (by rintro rfl; exact hne (by simp))]; rfl
    ·show ((σ.resize b).set d _).get d = _
     rw [AHeap.get_set_same,hsp]
    ·rw [List.length_append,List.length_drop,← h4,List.length_append,List.flatMap_append,List.length_append]
     rw [List.length_append] at hlen
     omega
  ·have hne : ¬ xs.length = 0 := fun h0 => hfull (by omega)
   rcases h5 with rfl | rfl
   ·by_cases hc : c = l.length
    ·subst hc
     have hcs : cs = [] := by
      have : cs.length = 0 := by rw [List.length_append,fm_len hsz] at h4; omega
      exact List.eq_nil_of_length_eq_zero this
     subst hcs
     obtain ⟨g1,g2⟩ := hnew ((σ.resize b).set d .dead) ((l ++ xs).flatMap enc) rfl rfl (fun c hc => by rw [AHeap.get_set_ne _ _ (by rintro rfl; exact hc (by simp))]; rfl)
     refine ⟨_,_,?_,hq _ _ _ g1 g2⟩
     have hcl : pre.length + l.length * sz = (pre ++ (l.flatMap enc ++ [])).length := by rw [List.length_append,List.append_nil,fm_len hsz]
     have hdr : (pre ++ (l.flatMap enc ++ [])).drop pre.length ++ xs.flatMap enc = (l ++ xs).flatMap enc := by rw [List.drop_left' rfl,List.append_nil,List.flatMap_append]
     simp only [aappend,ht,hu,he,hz5,hsrc,c0,hfull,get_resize,h2,hn,hoc,Bool.false_eq_true,if_false,if_true,decide_true,Bool.and_self]
     rw [if_pos ⟨trivial,hcl⟩,hdr]
     rfl
    ·exfalso
     rcases hone with h | ⟨d',n',c',h⟩
     ·omega
     ·injection h with h; injection h with h; injection h with _ _ h; cases h
   ·obtain ⟨g1,g2⟩ := hnew (σ.resize b) ((l ++ xs).flatMap enc) rfl rfl (fun c _ => rfl)
    refine ⟨_,_,?_,hq _ _ _ (g1.wid (fun _ h => h) fun c hc => .inl hc) g2⟩
    have hle : pre.length + l.length * sz ≤ (pre ++ (l.flatMap enc ++ cs)).length := by rw [List.length_append,List.length_append,fm_len hsz]; omega
    have htk : takeCells (σ.resize b) d pre.length (l.length * sz) = some (l.flatMap enc) := by
     simp only [takeCells,get_resize,h2]
     rw [if_pos hle,List.drop_left' rfl,List.take_left' (fm_len hsz l)]
    simp only [aappend,ht,hu,he,hz5,hsrc,c0,hfull,hn,hoc,htk,Bool.false_eq_true,if_false,if_true,decide_true,Bool.and_self,Option.map_some,List.flatMap_append]
    rfl
end
section
variable {E : Env} {B : AHeap} {α : Type} {enc : α → List Value} {sz : Nat} {σ : AHeap} {v : Value} {l : List α} {fp : List Nat}
theorem GS.drop (h : GS enc sz σ v l fp) (hsz : ∀ a,(enc a).length = sz) {i : Nat} (hi : i ≤ l.length) {t e a1 a2 b2 : Nat} {z z2 : Option (List ZV)} {q q2 : Bool} {k2 : TK} (ht : E.ty.get t = some ⟨.slice e,a1,a2,z,q⟩) (he : E.ty.get e = some ⟨k2,sz,b2,z2,q2⟩) :
  ∃ v',aslice E σ t v (some (.int .i64 (i : Int))) none none = some v' ∧ GS enc sz σ v' (l.drop i) fp := by
 rcases h with ⟨rfl,rfl,rfl⟩ | ⟨d,ex,c,pre,cs,rfl,h2,h3,h4,h5,rfl⟩
 ·obtain rfl : i = 0 := by simpa using hi
  refine ⟨.slice none 0 0,?_,.inl ⟨rfl,rfl,rfl⟩⟩
  simp only [aslice,ht,he]
  rfl
 ·have hso : szOk σ d sz = true := by simp only [szOk,h2,Nat.beq_refl,Bool.or_true]
  refine ⟨.slice (some ⟨d,pre.length + i * sz,ex⟩) (l.length - i) (c - i),?_,.inr ⟨d,ex,c - i,pre ++ (l.take i).flatMap enc,cs,?_,?_,?_,?_,h5,rfl⟩⟩
  ·have c1 : (0 : Int) ≤ (i : Int) ∧ (i : Int) ≤ (l.length : Int) := by omega
   simp only [aslice,ht,he,hso,abound,Option.isSome_none,Bool.false_and,Bool.not_true,Bool.or_false,Bool.false_eq_true,if_false,if_pos c1,Int.toNat_natCast]
  ·rw [List.length_drop,List.length_append,fm_len hsz,List.length_take,Nat.min_eq_left hi]
  ·rw [h2,List.append_assoc,← List.append_assoc (List.flatMap enc (l.take i)),← List.flatMap_append,List.take_append_drop]
  ·rw [List.length_drop]; omega
  ·have : (l.flatMap enc ++ cs).length = l.length * sz + cs.length := by rw [List.length_append,fm_len hsz]
   rw [List.length_append,fm_len hsz,List.length_drop,Nat.sub_mul,Nat.sub_mul]
   have h6 : i * sz ≤ l.length * sz := Nat.mul_le_mul_right _ hi
   have h7 : l.length * sz ≤ c * sz := Nat.mul_le_mul_right _ h3
   omega
theorem reps_length (z : List Value) (k : Nat) : (reps z k).length = k * z.length := by
 induction k with
 | zero => simp [reps]
 | succ k ih => simp only [reps,List.length_append,ih,Nat.succ_mul]; omega
theorem GS.del (h : GS enc sz σ v l fp) (hsz : ∀ a,(enc a).length = sz) (ho : ∀ a,(enc a).all oneCell = true) {i : Nat} (hi : i < l.length) {t e u by_ a1 a2 : Nat} {z1 : Option (List ZV)} {q1 q2 : Bool} {k2 : TK} {zs : List ZV} {iu : TI}
  (ht : E.ty.get t = some ⟨.slice e,a1,a2,z1,q1⟩) (he : E.ty.get e = some ⟨k2,sz,by_,some zs,q2⟩) (hz : zs.length = sz) (hzo : (zs.map ZV.val).all oneCell = true) (hs0 : 0 < sz) (hby : 0 < by_) (hu : E.ty.get u = some iu) (hki : iu.k.isInt = false) :
  ∃ va vb vd v1 vc σ1 o2 d,aslice E σ t v (some (.int .i64 (i : Int))) (some (.int .i64 ((i + 1 : Nat) : Int))) (some (.int .i64 (l.length : Int))) = some vd ∧ aslice E σ t v none (some (.int .i64 (i : Int))) none = some va ∧ aslice E σ t v (some (.int .i64 ((i + 1 : Nat) : Int))) none none = some vb ∧
   (∀ b,aappend E (σ.resize b) [t,u] [va,vb] = some (v1,σ1.resize b)) ∧ (∀ b,(σ1.resize b).resize σ.size = σ1) ∧ abuiltin E σ1 .len [t] [v1] = some (.int .i64 ((l.length - 1 : Nat) : Int),σ1) ∧ aslice E σ1 t v1 (some (.int .i64 ((l.length - 1 : Nat) : Int))) (some (.int .i64 (l.length : Int))) none = some vc ∧
   abuiltin E σ1 .clear [t] [vc] = some (.tuple #[],σ1.set d o2) ∧ fp = [d] ∧ (∀ c,c ≠ d → σ1.get c = σ.get c) ∧ GS enc sz (σ1.set d o2) v1 (l.eraseIdx i) [d] := by
 rcases h with ⟨rfl,rfl,rfl⟩ | ⟨d,ex,c,pre,cs,rfl,h2,h3,h4,h5,rfl⟩
 ·simp at hi
 have hz5 : azero E e = some (zs.map ZV.val) := by unfold azero; rw [he]; rfl
 have hso : szOk σ d sz = true := by simp only [szOk,h2,Nat.beq_refl,Bool.or_true]
 have hlenA : (pre ++ (l.flatMap enc ++ cs)).length = pre.length + c * sz := by rw [List.length_append,h4]
 have m1 : i * sz + sz ≤ l.length * sz := by rw [← Nat.succ_mul]; exact Nat.mul_le_mul_right _ hi
 have m2 : l.length * sz ≤ c * sz := Nat.mul_le_mul_right _ h3
 have e1 : (l.length - 1) * sz + sz = l.length * sz := by rw [← Nat.succ_mul]; congr 1; omega
 have e2 : (l.length - (i + 1)) * sz = l.length * sz - (i * sz + sz) := by rw [Nat.sub_mul,Nat.succ_mul]
 have hmv : ((pre ++ (l.flatMap enc ++ cs)).drop (pre.length + (i + 1) * sz)).take ((l.length - (i + 1)) * sz) = (l.drop (i + 1)).flatMap enc := by
  rw [← List.drop_drop,List.drop_left' rfl,List.drop_append_of_le_length (by rw [fm_len hsz]; exact Nat.mul_le_mul_right _ hi),fm_drop hsz l (i + 1) hi]
  exact List.take_left' (by rw [fm_len hsz,List.length_drop])
 have hbig : (l.eraseIdx i).flatMap enc = (l.take i).flatMap enc ++ (l.drop (i + 1)).flatMap enc := by rw [List.eraseIdx_eq_take_drop_succ,List.flatMap_append]
 have hel : (l.eraseIdx i).length = l.length - 1 := by rw [List.length_eraseIdx,if_pos hi]
 have hml : ((l.drop (i + 1)).flatMap enc).length = (l.length - (i + 1)) * sz := by rw [fm_len hsz,List.length_drop]
 have hoc := fm_oc ho (l.drop (i + 1))
 have hsp : splice (pre ++ (l.flatMap enc ++ cs)) (pre.length + i * sz) ((l.drop (i + 1)).flatMap enc) = pre ++ ((l.eraseIdx i).flatMap enc ++ (pre ++ (l.flatMap enc ++ cs)).drop (pre.length + (l.length - 1) * sz)) := by
  rw [splice,hml,List.take_length_add_append,List.take_append_of_le_length (by rw [fm_len hsz]; omega),fm_take hsz l i (by omega),hbig]
  have : pre.length + i * sz + (l.length - (i + 1)) * sz = pre.length + (l.length - 1) * sz := by rw [e2]; omega
  rw [this]
  simp only [List.append_assoc]
 have hA2 : ∀ X : List Value,(pre ++ ((l.eraseIdx i).flatMap enc ++ X)).take (pre.length + (l.length - 1) * sz) = pre ++ (l.eraseIdx i).flatMap enc := fun X => by
  rw [List.take_length_add_append,List.take_left' (by rw [fm_len hsz,hel])]
 generalize hX : (pre ++ (l.flatMap enc ++ cs)).drop (pre.length + (l.length - 1) * sz) = X at hsp
 have hXl : X.length = c * sz - (l.length - 1) * sz := by rw [← hX,List.length_drop,hlenA]; omega
 obtain ⟨σ1,g1,gs,gr,gn⟩ : ∃ σ1 : AHeap,σ1.get d = .cells (pre ++ ((l.eraseIdx i).flatMap enc ++ X)) true sz ∧ (∀ b,(l.length - (i + 1) = 0 ∧ σ1 = σ) ∨ (¬ l.length - (i + 1) = 0 ∧ astoreAt (σ.resize b) d (pre.length + i * sz) ((l.drop (i + 1)).flatMap enc) = some (σ1.resize b))) ∧ (∀ b,(σ1.resize b).resize σ.size = σ1) ∧ ∀ c,c ≠ d → σ1.get c = σ.get c := by
  by_cases h0 : l.length - (i + 1) = 0
  ·refine ⟨σ,?_,fun b => .inl ⟨h0,rfl⟩,fun b => rfl,fun c _ => rfl⟩
   rw [h2,← hsp]
   have hd0 : l.drop (i + 1) = [] := List.drop_eq_nil_of_le (by omega)
   rw [hd0,List.flatMap_nil,splice,List.length_nil,Nat.add_zero,List.append_nil,List.take_append_drop]
  ·refine ⟨σ.set d (.cells (pre ++ ((l.eraseIdx i).flatMap enc ++ X)) true sz),AHeap.get_set_same _ _ _,fun b => .inr ⟨h0,?_⟩,fun b => rfl,fun c hc => AHeap.get_set_ne _ _ hc.symm⟩
   have hle : pre.length + i * sz + ((l.drop (i + 1)).flatMap enc).length ≤ (pre ++ (l.flatMap enc ++ cs)).length := by rw [hml,hlenA,e2]; omega
   simp only [astoreAt,get_resize,h2,hoc,Bool.true_and]
   rw [if_pos (by simpa using hle),hsp]
   rfl
 have hclr : astoreAt σ1 d (pre.length + (l.length - 1) * sz) (reps (zs.map ZV.val) 1) = some (σ1.set d (.cells (pre ++ ((l.eraseIdx i).flatMap enc ++ (zs.map ZV.val ++ X.drop sz))) true sz)) := by
  have hr1 : reps (zs.map ZV.val) 1 = zs.map ZV.val := by simp [reps]
  have hle : pre.length + (l.length - 1) * sz + (zs.map ZV.val).length ≤ (pre ++ ((l.eraseIdx i).flatMap enc ++ X)).length := by
   rw [List.length_map,hz,List.length_append,List.length_append,fm_len hsz,hel,hXl]; omega
  rw [hr1]
  simp only [astoreAt,g1,hzo,Bool.true_and]
  rw [if_pos (by simpa using hle)]
  congr 3
  rw [splice,hA2,List.length_map,hz,Nat.add_assoc,← List.drop_drop,List.drop_left' rfl,← List.drop_drop,List.drop_left' (by rw [fm_len hsz,hel])]
  simp only [List.append_assoc]
 refine ⟨.slice (some ⟨d,pre.length,ex⟩) i c,.slice (some ⟨d,pre.length + (i + 1) * sz,ex⟩) (l.length - (i + 1)) (c - (i + 1)),.slice (some ⟨d,pre.length + i * sz,some 1⟩) (i + 1 - i) (l.length - i),.slice (some ⟨d,pre.length,ex⟩) (l.length - 1) c,.slice (some ⟨d,pre.length + (l.length - 1) * sz,ex⟩) (l.length - (l.length - 1)) (c - (l.length - 1)),σ1,.cells (pre ++ ((l.eraseIdx i).flatMap enc ++ (zs.map ZV.val ++ X.drop sz))) true sz,d,?_,?_,?_,fun b => ?_,gr,?_,?_,?_,rfl,gn,?_⟩
 ·have c1 : (0 : Int) ≤ (l.length : Int) ∧ (l.length : Int) ≤ (c : Int) := by omega
  have c2 : (0 : Int) ≤ ((i + 1 : Nat) : Int) ∧ ((i + 1 : Nat) : Int) ≤ (l.length : Int) := by omega
  have c3 : (0 : Int) ≤ (i : Int) ∧ (i : Int) ≤ ((i + 1 : Nat) : Int) := by omega
  simp only [aslice,ht,he,hso,abound,Option.isSome_some,Option.isNone_some,Bool.and_false,Bool.not_true,Bool.or_false,Bool.false_eq_true,if_false,if_true,if_pos c1,if_pos c2,if_pos c3,Int.toNat_natCast]
 ·have c1 : (0 : Int) ≤ (i : Int) ∧ (i : Int) ≤ (c : Int) := by omega
  simp only [aslice,ht,he,hso,abound,Option.isSome_none,Bool.false_and,Bool.not_true,Bool.or_false,Bool.false_eq_true,if_false,if_pos c1,Int.toNat_natCast,Nat.zero_mul,Nat.add_zero,Nat.sub_zero]
 ·have c1 : (0 : Int) ≤ ((i + 1 : Nat) : Int) ∧ ((i + 1 : Nat) : Int) ≤ (l.length : Int) := by omega
  simp only [aslice,ht,he,hso,abound,Option.isSome_none,Bool.false_and,Bool.not_true,Bool.or_false,Bool.false_eq_true,if_false,if_pos c1,Int.toNat_natCast]
 ·have c0 : (decide (sz = 0) || decide (by_ = 0) || (zs.map ZV.val).length != sz || iu.k.isInt) = false := by
   rw [List.length_map,hz,hki]
   have h1 : decide (sz = 0) = false := by simp; omega
   have h2 : decide (by_ = 0) = false := by simp; omega
   rw [h1,h2]; simp
  have hsrc : srcCells (σ.resize b) sz (.slice (some ⟨d,pre.length + (i + 1) * sz,ex⟩) (l.length - (i + 1)) (c - (i + 1))) = some (l.length - (i + 1),(l.drop (i + 1)).flatMap enc) := by
   have hle : pre.length + (i + 1) * sz + (l.length - (i + 1)) * sz ≤ (pre ++ (l.flatMap enc ++ cs)).length := by rw [hlenA,e2,Nat.succ_mul]; omega
   simp only [srcCells,takeCells,get_resize,h2]
   rw [if_pos hle,hmv]
   rfl
  have hfull : i + (l.length - (i + 1)) ≤ c := by omega
  have hil : i + (l.length - (i + 1)) = l.length - 1 := by omega
  have hc1 : l.length - 1 ≤ c := by omega
  rcases gs b with ⟨h0,e⟩ | ⟨h0,e⟩
  ·have hil' : l.length - 1 = i := by omega
   subst e
   rw [h0] at hsrc
   rw [h0]
   have hic : i ≤ c := by omega
   simp only [aappend,ht,hu,he,hz5,hsrc,c0,get_resize,h2,hil',hic,Nat.add_zero,Bool.false_eq_true,if_false,if_true,decide_true]
  ·simp only [aappend,ht,hu,he,hz5,hsrc,c0,hfull,get_resize,h2,h0,e,Bool.false_eq_true,if_false,if_true,decide_true,Option.map_some]
   rw [hil]
 ·simp only [abuiltin,ht,goInt]
 ·have c1 : (0 : Int) ≤ (l.length : Int) ∧ (l.length : Int) ≤ (c : Int) := by omega
  have c2 : (0 : Int) ≤ ((l.length - 1 : Nat) : Int) ∧ ((l.length - 1 : Nat) : Int) ≤ (l.length : Int) := by omega
  have hso2 : szOk σ1 d sz = true := by simp only [szOk,g1,Nat.beq_refl,Bool.or_true]
  simp only [aslice,ht,he,hso2,abound,Option.isSome_none,Bool.false_and,Bool.not_true,Bool.or_false,Bool.false_eq_true,if_false,if_pos c1,if_pos c2,Int.toNat_natCast]
 ·have c0 : (decide (sz = 0) || (zs.map ZV.val).length != sz || decide (l.length - (l.length - 1) = 0)) = false := by
   rw [List.length_map,hz]
   have h1 : decide (sz = 0) = false := by simp; omega
   have h2 : decide (l.length - (l.length - 1) = 0) = false := by simp; omega
   rw [h1,h2]; simp
  have h1 : l.length - (l.length - 1) = 1 := by omega
  rw [h1] at c0 ⊢
  simp only [abuiltin,ht,he,hz5,c0,hclr,Bool.false_eq_true,if_false,Option.map_some]
 ·refine .inr ⟨d,ex,c,pre,zs.map ZV.val ++ X.drop sz,by rw [hel],AHeap.get_set_same _ _ _,by rw [hel]; omega,?_,h5,rfl⟩
  rw [List.length_append,fm_len hsz,hel,List.length_append,List.length_map,hz,List.length_drop,hXl]
  omega
end
end Go.Proofs.YtkhcbbpfchgemaaDoor.AbsB
