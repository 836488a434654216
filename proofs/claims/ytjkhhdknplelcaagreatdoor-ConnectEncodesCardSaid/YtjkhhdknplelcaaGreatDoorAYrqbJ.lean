/-
  Parts of a law's proof.
-/
import Derived.Test.YtjkhhdknplelcaaGreatDoorAPrqeJ
import Derived.Test.YtjkhhdknplelcaaGreatDoorAPraJ
import Derived.Test.YtjkhhdknplelcaaGreatDoorAFwqdJ
import Derived.Test.YtjkhhdknplelcaaGreatDoorAFrqbJ
namespace Go.Proofs.YtjkhhdknplelcaaGreatDoor.AbsA
open Go AbsYtjkhhdknplelcaaGreatDoor Abs
set_option maxRecDepth 100000
set_option maxHeartbeats 2000000
set_option linter.unusedSimpArgs false
set_option linter.unusedVariables false
attribute [local irreducible] afterS afterOpS opSK OpsS TrS CodeS condS condW thenS thenQ guardS guardTS outS drawS trSK consS
def IsY (σ : AHeap) (r : Nat) (s : ByteArray) (p : Nat) (e a : Int) : Prop := σ.get r = .cells [.string s,.int .i64 (p : Int),.int .i64 e,.int .i64 a] true 0
section
variable {σ : AHeap} {Q : Value → AHeap → Prop} {r p : Nat} {s : ByteArray}
theorem IsY.kept {σ' : AHeap} {e a : Int} {gp gp' : List Nat} (h : IsY σ r s p e a) (k : Kept σ gp σ' gp') (hd : r ∉ gp) : IsY σ' r s p e a := (k.at h (by simp) hd).1
theorem rawR_k {n : Int} {k q : Nat} (h : rawR s p n = .error (k,q)) : k ≠ 0 := by
 unfold rawR at h
 split at h
 ·simp only [Except.error.injEq,Prod.mk.injEq] at h; omega
 split at h
 ·simp only [Except.error.injEq,Prod.mk.injEq] at h; omega
 ·cases h
theorem numR_k {m k q : Nat} (h : numR s p m = .error (k,q)) : k ≠ 0 := by
 unfold numR at h
 cases hb : rawR s p (m : Int) with
 | ok a => rw [hb] at h; cases h
 | error e => obtain ⟨j,q'⟩ := e; rw [hb] at h; simp only [Except.error.injEq,Prod.mk.injEq] at h; have := rawR_k hb; omega
theorem specYFail {e a n : Int} {q : Int} (hr : IsY σ r s p e a) (h : Q unit (σ.set r (.cells [.string s,.int .i64 (p : Int),.int .i64 n,.int .i64 q] true 0))) : CallS E B 140 [.pointer (some ⟨r,0,none⟩),.int .i64 n,.int .i64 q] σ Q := by
 unfold IsY at hr
 refine call140 (by simp) ?_
 simp only [strip,bodyOf,Tryz.f140,getD_body,keepN,bareOp_mk,List.map_cons,List.map_nil,↓reduceIte,Bool.false_eq_true]
 simp only [↓sbD,sbU,tyB,↓reduceIte,Nat.reduceEqDiff,Nat.reduceLT,Nat.reduceAdd,Nat.reduceLeDiff,reduceCtorEq,splice,hr]
 have hle : Le (σ.set r (.cells [.string s,.int .i64 (p : Int),.int .i64 n,.int .i64 q] true 0)) ((σ.set r (.cells [.string s,.int .i64 (p : Int),.int .i64 n,.int .i64 a] true 0)).set r (.cells [.string s,.int .i64 (p : Int),.int .i64 n,.int .i64 q] true 0)) := by
  intro b hb
  by_cases hbr : b = r
  ·subst hbr; rw [AHeap.get_set_same,AHeap.get_set_same]
  ·rw [AHeap.get_set_ne _ _ (Ne.symm hbr),AHeap.get_set_ne _ _ (Ne.symm hbr),AHeap.get_set_ne _ _ (Ne.symm hbr)]
 exact downS_le hle h
theorem specYTakeE {n k a : Int} (hr : IsY σ r s p k a) (hk : k ≠ 0) (h : Q (.tuple #[.string emp,.bool false]) σ) : CallS E B 163 [.pointer (some ⟨r,0,none⟩),.int .i64 n] σ Q := by
 unfold IsY at hr
 refine call163 (by simp) ?_
 simp only [strip,bodyOf,Tryz.f163,getD_body,keepN,bareOp_mk,List.map_cons,List.map_nil,↓reduceIte,Bool.false_eq_true]
 simp only [↓sbD,sbU,tyB,↓reduceIte,Nat.reduceEqDiff,Nat.reduceLT,reduceCtorEq,isConst,hr,hk]
 exact downS_here h
theorem specYTake {n a : Int} (hr : IsY σ r s p 0 a) (hp : p ≤ s.size) (hs : s.size ≤ 1000000000)
  (hok : ∀ v q,rawR s p n = .ok (v,q) → ∀ σ',Kept σ [r] σ' [r] → IsY σ' r s q 0 a → Q (.tuple #[.string v,.bool true]) σ')
  (hbad : ∀ k q,rawR s p n = .error (k,q) → ∀ σ',Kept σ [r] σ' [r] → IsY σ' r s p (k : Int) (q : Int) → Q (.tuple #[.string emp,.bool false]) σ') : CallS E B 163 [.pointer (some ⟨r,0,none⟩),.int .i64 n] σ Q := by
 have hr' := hr
 unfold IsY at hr'
 have hw : IntKind.i64.wrap ((s.size : Int) - (p : Int)) = (s.size : Int) - (p : Int) := wrap64 ⟨by omega,by omega⟩
 refine call163 (by simp) ?_
 simp only [strip,bodyOf,Tryz.f163,getD_body,keepN,bareOp_mk,List.map_cons,List.map_nil,↓reduceIte,Bool.false_eq_true]
 by_cases h0 : n < 0
 ·simp only [↓sbD,sbU,tyB,decide_false,↓reduceIte,Nat.reduceEqDiff,Nat.reduceLT,reduceCtorEq,isConst,hr',h0]
  refine specYFail hr ?_
  simp only [↓sbD,sbU,↓reduceIte,Nat.reduceEqDiff,Nat.reduceLT]
  exact downS_here (hbad 4 p (by unfold rawR; rw [if_pos h0]) _ (Kept.set (by simp)) (AHeap.get_set_same _ _ _))
 ·obtain ⟨N,rfl⟩ : ∃ N : Nat,n = N := ⟨n.toNat,by omega⟩
  by_cases h1 : (s.size : Int) - (p : Int) < (N : Int)
  ·simp only [↓sbD,sbU,tyB,decide_false,Bool.or_self,↓reduceIte,Nat.reduceEqDiff,Nat.reduceLT,reduceCtorEq,goInt,isConst,hr',h0,hw,h1]
   refine specYFail hr ?_
   simp only [↓sbD,sbU,↓reduceIte,Nat.reduceEqDiff,Nat.reduceLT]
   exact downS_here (hbad 1 s.size (by unfold rawR; rw [if_neg h0,if_pos (by simp only [Int.toNat_natCast]; omega)]) _ (Kept.set (by simp)) (AHeap.get_set_same _ _ _))
  ·have hw2 : IntKind.i64.wrap ((p : Int) + (N : Int)) = ((p + N : Nat) : Int) := by rw [wrap64 ⟨by omega,by omega⟩]; omega
   have sl1 : ∀ τ : AHeap,aslice E τ 9 (.string s) (some (.int .i64 (p : Int))) (some (.int .i64 ((p + N : Nat) : Int))) none = some (.string (s.extract p (p + N))) := fun τ => slice_str ty9 (by omega) (by omega)
   simp only [↓sbD,sbU,tyB,decide_false,Bool.or_self,↓reduceIte,Nat.reduceEqDiff,Nat.reduceLT,Nat.reduceAdd,Nat.reduceLeDiff,reduceCtorEq,goInt,isConst,splice,hr',h0,hw,h1,hw2,sl1]
   exact downS_here (hok (s.extract p (p + N)) (p + N) (by unfold rawR; rw [if_neg h0,if_neg (by simp only [Int.toNat_natCast]; omega)]; simp only [Int.toNat_natCast]) _ (Kept.set (by simp)) (AHeap.get_set_same _ _ _))
theorem specYNum {k : Nat} {a : Int} (hk : k ≤ 4) (hr : IsY σ r s p 0 a) (hp : p ≤ s.size) (hs : s.size ≤ 1000000000)
  (hok : ∀ n q,numR s p k = .ok (n,q) → ∀ σ',Kept σ [r] σ' [r] → IsY σ' r s q 0 a → Q (.int .i64 (n : Int)) σ')
  (hbad : ∀ e q,numR s p k = .error (e,q) → ∀ σ',Kept σ [r] σ' [r] → IsY σ' r s p (e : Int) (q : Int) → Q (.int .i64 0) σ') : CallS E B 141 [.pointer (some ⟨r,0,none⟩),.int .i64 (k : Int)] σ Q := by
 unfold numR at hok hbad
 refine call141 (by simp) ?_
 simp only [strip,bodyOf,Tryz.f141,getD_body,keepN,bareOp_mk,List.map_cons,List.map_nil,↓reduceIte,Bool.false_eq_true]
 simp (disch := first | assumption | simp) only [↓sbD,sbU,↓reduceIte,Nat.reduceEqDiff,Nat.reduceLT,reduceCtorEq]
 refine specYTake hr hp hs (fun v q hv σ1 k1 i1 => ?_) fun e q hv σ1 k1 i1 => ?_
 ·rw [hv] at hok
  have hvz := rawR_ok' (by omega) hv
  rw [Int.toNat_natCast] at hvz
  simp (disch := first | assumption | simp) only [↓sbD,sbU,↓reduceIte,Nat.reduceEqDiff,Nat.reduceLT]
  refine S_loop (fun m f σ' => σ' = σ1 ∧ ∃ i : Nat,m + i = v.size ∧ f 8 = .int .i64 i ∧ f 7 = .int .i64 ((beF v i : Nat) : Int)) v.size (Le.refl _) ⟨rfl,0,rfl,by simp (disch := first | assumption | simp) only [sbU,↓reduceIte]; rfl,by simp (disch := first | assumption | simp) only [sbU,↓reduceIte,Nat.reduceEqDiff]; rfl⟩ ?_
  rintro m f σ' ⟨rfl,i,hm,f8,f7⟩ hf
  have f5 := hf 5 (by decide) (notMem_wr (by kernel_rfl))
  have f6 := hf 6 (by decide) (notMem_wr (by kernel_rfl))
  simp (disch := first | assumption | simp) only [sbU,↓reduceIte,Nat.reduceEqDiff] at f5 f6
  clear hf
  by_cases hi : (i : Int) < (v.size : Int)
  ·have hbl := beF_lt v i
   have hpow : 256 ^ i ≤ 256 ^ 4 := Nat.pow_le_pow_right (by omega) (by omega)
   have hbt := bt_lt v i
   have hidx : aindex E 9 (.string v) (.int .i64 (i : Int)) = some (.int .u8 ((bt v i : Nat) : Int)) := idx_str (by omega)
   have hwb : IntKind.i64.wrap ((bt v i : Nat) : Int) = ((bt v i : Nat) : Int) := wrap64 ⟨by omega,by omega⟩
   have hwm : IntKind.i64.wrap (((beF v i : Nat) : Int) * 256) = ((beF v i * 256 : Nat) : Int) := by rw [wrap64 ⟨by omega,by omega⟩]; omega
   have hwa : IntKind.i64.wrap (((beF v i * 256 : Nat) : Int) + ((bt v i : Nat) : Int)) = ((beF v (i + 1) : Nat) : Int) := by
    rw [wrap64 ⟨by omega,by omega⟩]; simp only [beF]; omega
   have hw := wrap_suc (n := i) (by omega)
   simp (disch := first | assumption | simp) only [↓sbD,sbU,tyB,Bool.or_self,↓reduceIte,Nat.reduceEqDiff,Nat.reduceLT,goInt,isConst,f5,f6,f7,f8,hi,hidx,hwb,hwm,hwa,hw]
   exact ⟨_,m - 1,_,rfl,by omega,Le.refl _,rfl,i + 1,by omega,by simp (disch := first | assumption | simp) only [sbU,↓reduceIte],by simp (disch := first | assumption | simp) only [sbU,↓reduceIte,Nat.reduceEqDiff]⟩
  ·obtain rfl : i = v.size := by omega
   simp (disch := first | assumption | simp) only [↓sbD,sbU,tyB,decide_false,Bool.or_self,↓reduceIte,Nat.reduceEqDiff,Nat.reduceLT,goInt,isConst,f5,f7,f8,hi]
   exact downS_here (hok _ q rfl _ k1 i1)
 ·rw [hv] at hbad
  simp (disch := first | assumption | simp) only [↓sbD,sbU,↓reduceIte,Nat.reduceEqDiff,Nat.reduceLT]
  refine S_loop (fun m f σ' => σ' = σ1 ∧ f 7 = .int .i64 0 ∧ f 8 = .int .i64 0) 1 (Le.refl _) ⟨rfl,by simp (disch := first | assumption | simp) only [sbU,↓reduceIte,Nat.reduceEqDiff],by simp (disch := first | assumption | simp) only [sbU,↓reduceIte]⟩ ?_
  rintro m f σ' ⟨rfl,f7,f8⟩ hf
  have f5 := hf 5 (by decide) (notMem_wr (by kernel_rfl))
  have f6 := hf 6 (by decide) (notMem_wr (by kernel_rfl))
  simp (disch := first | assumption | simp) only [sbU,↓reduceIte,Nat.reduceEqDiff] at f5 f6
  clear hf
  have he0 : ((emp.size : Nat) : Int) = 0 := rfl
  simp (disch := first | assumption | simp) only [↓sbD,sbU,tyB,Int.reduceLT,decide_false,Bool.or_self,↓reduceIte,Nat.reduceEqDiff,Nat.reduceLT,goInt,isConst,f5,f7,f8,he0]
  exact downS_here (hbad e q rfl _ k1 i1)
theorem specYNumE {k : Nat} {e a : Int} (hr : IsY σ r s p e a) (he : e ≠ 0) (h : Q (.int .i64 0) σ) : CallS E B 141 [.pointer (some ⟨r,0,none⟩),.int .i64 (k : Int)] σ Q := by
 refine call141 (by simp) ?_
 simp only [strip,bodyOf,Tryz.f141,getD_body,keepN,bareOp_mk,List.map_cons,List.map_nil,↓reduceIte,Bool.false_eq_true]
 simp (disch := first | assumption | simp) only [↓sbD,sbU,↓reduceIte,Nat.reduceEqDiff,Nat.reduceLT,reduceCtorEq]
 refine specYTakeE hr he ?_
 simp (disch := first | assumption | simp) only [↓sbD,sbU,↓reduceIte,Nat.reduceEqDiff,Nat.reduceLT]
 refine S_loop (fun m f σ' => σ' = σ ∧ f 7 = .int .i64 0 ∧ f 8 = .int .i64 0) 1 (Le.refl _) ⟨rfl,by simp (disch := first | assumption | simp) only [sbU,↓reduceIte,Nat.reduceEqDiff],by simp (disch := first | assumption | simp) only [sbU,↓reduceIte]⟩ ?_
 rintro m f σ' ⟨rfl,f7,f8⟩ hf
 have f5 := hf 5 (by decide) (notMem_wr (by kernel_rfl))
 have f6 := hf 6 (by decide) (notMem_wr (by kernel_rfl))
 simp (disch := first | assumption | simp) only [sbU,↓reduceIte,Nat.reduceEqDiff] at f5 f6
 clear hf
 have he0 : ((emp.size : Nat) : Int) = 0 := rfl
 simp (disch := first | assumption | simp) only [↓sbD,sbU,tyB,Int.reduceLT,decide_false,Bool.or_self,↓reduceIte,Nat.reduceEqDiff,Nat.reduceLT,goInt,isConst,f5,f7,f8,he0]
 exact downS_here h
theorem specYU8 {a : Int} (hr : IsY σ r s p 0 a) (hp : p ≤ s.size) (hs : s.size ≤ 1000000000)
  (hok : ∀ n q,numR s p 1 = .ok (n,q) → ∀ σ',Kept σ [r] σ' [r] → IsY σ' r s q 0 a → Q (.int .i64 (n : Int)) σ')
  (hbad : ∀ e q,numR s p 1 = .error (e,q) → ∀ σ',Kept σ [r] σ' [r] → IsY σ' r s p (e : Int) (q : Int) → Q (.int .i64 0) σ') : CallS E B 121 [.pointer (some ⟨r,0,none⟩)] σ Q := by
 refine call121 (by simp) ?_
 simp only [strip,bodyOf,Tryz.f121,getD_body,keepN,bareOp_mk,List.map_cons,List.map_nil,↓reduceIte,Bool.false_eq_true]
 simp only [↓sbD,sbU,↓reduceIte,Nat.reduceLT,reduceCtorEq]
 refine specYNum (k := 1) (by omega) hr hp hs (fun n q hn σ' k1 i1 => ?_) fun e q hn σ' k1 i1 => ?_
 ·simp only [↓sbD,sbU,↓reduceIte,Nat.reduceLT]
  exact downS_here (hok n q hn σ' k1 i1)
 ·simp only [↓sbD,sbU,↓reduceIte,Nat.reduceLT]
  exact downS_here (hbad e q hn σ' k1 i1)
theorem specYU16 {a : Int} (hr : IsY σ r s p 0 a) (hp : p ≤ s.size) (hs : s.size ≤ 1000000000)
  (hok : ∀ n q,numR s p 2 = .ok (n,q) → ∀ σ',Kept σ [r] σ' [r] → IsY σ' r s q 0 a → Q (.int .i64 (n : Int)) σ')
  (hbad : ∀ e q,numR s p 2 = .error (e,q) → ∀ σ',Kept σ [r] σ' [r] → IsY σ' r s p (e : Int) (q : Int) → Q (.int .i64 0) σ') : CallS E B 104 [.pointer (some ⟨r,0,none⟩)] σ Q := by
 refine call104 (by simp) ?_
 simp only [strip,bodyOf,Tryz.f104,getD_body,keepN,bareOp_mk,List.map_cons,List.map_nil,↓reduceIte,Bool.false_eq_true]
 simp only [↓sbD,sbU,↓reduceIte,Nat.reduceLT,reduceCtorEq]
 refine specYNum (k := 2) (by omega) hr hp hs (fun n q hn σ' k1 i1 => ?_) fun e q hn σ' k1 i1 => ?_
 ·simp only [↓sbD,sbU,↓reduceIte,Nat.reduceLT]
  exact downS_here (hok n q hn σ' k1 i1)
 ·simp only [↓sbD,sbU,↓reduceIte,Nat.reduceLT]
  exact downS_here (hbad e q hn σ' k1 i1)
theorem specYU32 {a : Int} (hr : IsY σ r s p 0 a) (hp : p ≤ s.size) (hs : s.size ≤ 1000000000)
  (hok : ∀ n q,numR s p 4 = .ok (n,q) → ∀ σ',Kept σ [r] σ' [r] → IsY σ' r s q 0 a → Q (.int .i64 (n : Int)) σ')
  (hbad : ∀ e q,numR s p 4 = .error (e,q) → ∀ σ',Kept σ [r] σ' [r] → IsY σ' r s p (e : Int) (q : Int) → Q (.int .i64 0) σ') : CallS E B 174 [.pointer (some ⟨r,0,none⟩)] σ Q := by
 refine call174 (by simp) ?_
 simp only [strip,bodyOf,Tryz.f174,getD_body,keepN,bareOp_mk,List.map_cons,List.map_nil,↓reduceIte,Bool.false_eq_true]
 simp only [↓sbD,sbU,↓reduceIte,Nat.reduceLT,reduceCtorEq]
 refine specYNum (k := 4) (by omega) hr hp hs (fun n q hn σ' k1 i1 => ?_) fun e q hn σ' k1 i1 => ?_
 ·simp only [↓sbD,sbU,↓reduceIte,Nat.reduceLT]
  exact downS_here (hok n q hn σ' k1 i1)
 ·simp only [↓sbD,sbU,↓reduceIte,Nat.reduceLT]
  exact downS_here (hbad e q hn σ' k1 i1)
theorem specYU8E {e a : Int} (hr : IsY σ r s p e a) (he : e ≠ 0) (h : Q (.int .i64 0) σ) : CallS E B 121 [.pointer (some ⟨r,0,none⟩)] σ Q := by
 refine call121 (by simp) ?_
 simp only [strip,bodyOf,Tryz.f121,getD_body,keepN,bareOp_mk,List.map_cons,List.map_nil,↓reduceIte,Bool.false_eq_true]
 simp only [↓sbD,sbU,↓reduceIte,Nat.reduceLT,reduceCtorEq]
 refine specYNumE (k := 1) hr he ?_
 simp only [↓sbD,sbU,↓reduceIte,Nat.reduceLT]
 exact downS_here h
theorem specYU16E {e a : Int} (hr : IsY σ r s p e a) (he : e ≠ 0) (h : Q (.int .i64 0) σ) : CallS E B 104 [.pointer (some ⟨r,0,none⟩)] σ Q := by
 refine call104 (by simp) ?_
 simp only [strip,bodyOf,Tryz.f104,getD_body,keepN,bareOp_mk,List.map_cons,List.map_nil,↓reduceIte,Bool.false_eq_true]
 simp only [↓sbD,sbU,↓reduceIte,Nat.reduceLT,reduceCtorEq]
 refine specYNumE (k := 2) hr he ?_
 simp only [↓sbD,sbU,↓reduceIte,Nat.reduceLT]
 exact downS_here h
theorem specYRaw {n a : Int} (hr : IsY σ r s p 0 a) (hp : p ≤ s.size) (hs : s.size ≤ 1000000000)
  (hok : ∀ v q,rawR s p n = .ok (v,q) → ∀ σ',Kept σ [r] σ' [r] → IsY σ' r s q 0 a → Q (.string v) σ')
  (hbad : ∀ k q,rawR s p n = .error (k,q) → ∀ σ',Kept σ [r] σ' [r] → IsY σ' r s p (k : Int) (q : Int) → Q (.string emp) σ') : CallS E B 142 [.pointer (some ⟨r,0,none⟩),.int .i64 n] σ Q := by
 refine call142 (by simp) ?_
 simp only [strip,bodyOf,Tryz.f142,getD_body,keepN,bareOp_mk,List.map_cons,List.map_nil,↓reduceIte,Bool.false_eq_true]
 simp only [↓sbD,sbU,↓reduceIte,Nat.reduceEqDiff,Nat.reduceLT,reduceCtorEq]
 refine specYTake hr hp hs (fun v q hv σ' k1 i1 => ?_) fun e q hv σ' k1 i1 => ?_
 ·simp only [↓sbD,sbU,↓reduceIte,Nat.reduceEqDiff,Nat.reduceLT]
  exact downS_here (hok v q hv σ' k1 i1)
 ·simp only [↓sbD,sbU,↓reduceIte,Nat.reduceEqDiff,Nat.reduceLT]
  exact downS_here (hbad e q hv σ' k1 i1)
theorem specYRawE {n e a : Int} (hr : IsY σ r s p e a) (he : e ≠ 0) (h : Q (.string emp) σ) : CallS E B 142 [.pointer (some ⟨r,0,none⟩),.int .i64 n] σ Q := by
 refine call142 (by simp) ?_
 simp only [strip,bodyOf,Tryz.f142,getD_body,keepN,bareOp_mk,List.map_cons,List.map_nil,↓reduceIte,Bool.false_eq_true]
 simp only [↓sbD,sbU,↓reduceIte,Nat.reduceEqDiff,Nat.reduceLT,reduceCtorEq]
 refine specYTakeE hr he ?_
 simp only [↓sbD,sbU,↓reduceIte,Nat.reduceEqDiff,Nat.reduceLT]
 exact downS_here h
theorem specYBin {a : Int} (hr : IsY σ r s p 0 a) (hp : p ≤ s.size) (hs : s.size ≤ 1000000000)
  (hok : ∀ v q,binR s p = .ok (v,q) → ∀ σ',Kept σ [r] σ' [r] → IsY σ' r s q 0 a → Q (.string v) σ')
  (hbad : ∀ k q,binR s p = .error (k,q) → ∀ σ',Kept σ [r] σ' [r] → IsY σ' r s p (k : Int) (q : Int) → Q (.string emp) σ') : CallS E B 119 [.pointer (some ⟨r,0,none⟩)] σ Q := by
 unfold binR at hok hbad
 have hr' := hr
 unfold IsY at hr'
 refine call119 (by simp) ?_
 simp only [strip,bodyOf,Tryz.f119,getD_body,keepN,bareOp_mk,List.map_cons,List.map_nil,↓reduceIte,Bool.false_eq_true]
 simp only [↓sbD,sbU,tyB,↓reduceIte,Nat.reduceLT,reduceCtorEq,hr']
 refine specYU16 hr hp hs (fun n q hn σ1 k1 i1 => ?_) fun e q hn σ1 k1 i1 => ?_
 ·rw [hn] at hok hbad
  have hq := numR_le hn
  simp only [↓sbD,sbU,↓reduceIte,Nat.reduceEqDiff,Nat.reduceLT]
  refine specYRaw i1 hq.2 hs (fun v q2 hv σ2 k2 i2 => ?_) fun e q2 hv σ2 k2 i2 => ?_
  ·have i2' := i2
   unfold IsY at i2'
   simp only [↓sbD,sbU,tyB,decide_false,↓reduceIte,Nat.reduceEqDiff,Nat.reduceLT,reduceCtorEq,isConst,i2']
   exact downS_here (hok v q2 hv _ (k1.trans k2) i2)
  ·have hk0 : ¬ (e : Int) = 0 := by have := rawR_k hv; omega
   have i2' := i2
   unfold IsY at i2'
   simp only [↓sbD,sbU,tyB,↓reduceIte,Nat.reduceEqDiff,Nat.reduceLT,Nat.reduceAdd,Nat.reduceLeDiff,reduceCtorEq,isConst,splice,i2',hk0]
   exact downS_here (hbad e q2 hv _ ((k1.trans k2).trans (Kept.set (by simp))) (AHeap.get_set_same _ _ _))
 ·rw [hn] at hbad
  have hk0 : ¬ (e : Int) = 0 := by have := numR_k hn; omega
  simp only [↓sbD,sbU,↓reduceIte,Nat.reduceEqDiff,Nat.reduceLT]
  refine specYRawE i1 hk0 ?_
  have i1' := i1
  unfold IsY at i1'
  simp only [↓sbD,sbU,tyB,↓reduceIte,Nat.reduceEqDiff,Nat.reduceLT,Nat.reduceAdd,Nat.reduceLeDiff,reduceCtorEq,isConst,splice,i1',hk0]
  exact downS_here (hbad e q rfl _ (k1.trans (Kept.set (by simp))) (AHeap.get_set_same _ _ _))
theorem specYBinE {e a : Int} (hr : IsY σ r s p e a) (he : e ≠ 0) (h : ∀ σ',Kept σ [r] σ' [r] → IsY σ' r s p e a → Q (.string emp) σ') : CallS E B 119 [.pointer (some ⟨r,0,none⟩)] σ Q := by
 have hr' := hr
 unfold IsY at hr'
 refine call119 (by simp) ?_
 simp only [strip,bodyOf,Tryz.f119,getD_body,keepN,bareOp_mk,List.map_cons,List.map_nil,↓reduceIte,Bool.false_eq_true]
 simp only [↓sbD,sbU,tyB,↓reduceIte,Nat.reduceLT,reduceCtorEq,hr']
 refine specYU16E hr he ?_
 simp only [↓sbD,sbU,↓reduceIte,Nat.reduceEqDiff,Nat.reduceLT]
 refine specYRawE hr he ?_
 simp only [↓sbD,sbU,tyB,↓reduceIte,Nat.reduceEqDiff,Nat.reduceLT,Nat.reduceAdd,Nat.reduceLeDiff,reduceCtorEq,isConst,splice,hr',he]
 exact downS_here (h _ (Kept.set (by simp)) (AHeap.get_set_same _ _ _))
theorem specYDone {e a : Int} (hr : IsY σ r s p e a) (hend : e = 0 → p = s.size → Q (.tuple #[.int .i64 0,.int .i64 a]) σ) (hmore : e = 0 → p < s.size → Q (.tuple #[.int .i64 2,.int .i64 (p : Int)]) σ) (hbad : e ≠ 0 → Q (.tuple #[.int .i64 e,.int .i64 a]) σ) (hp : p ≤ s.size) : CallS E B 147 [.pointer (some ⟨r,0,none⟩)] σ Q := by
 unfold IsY at hr
 refine call147 (by simp) ?_
 simp only [strip,bodyOf,Tryz.f147,getD_body,keepN,bareOp_mk,List.map_cons,List.map_nil,↓reduceIte,Bool.false_eq_true]
 by_cases he : e = 0
 ·subst he
  by_cases hlt : (p : Int) < (s.size : Int)
  ·simp only [↓sbD,sbU,tyB,Bool.or_self,↓reduceIte,Nat.reduceEqDiff,Nat.reduceLT,reduceCtorEq,goInt,isConst,hr,hlt]
   exact downS_here (hmore rfl (by omega))
  ·simp only [↓sbD,sbU,tyB,decide_false,Bool.or_self,↓reduceIte,Nat.reduceEqDiff,Nat.reduceLT,reduceCtorEq,goInt,isConst,hr,hlt]
   exact downS_here (hend rfl (by omega))
 ·simp only [↓sbD,sbU,tyB,decide_false,↓reduceIte,Nat.reduceEqDiff,Nat.reduceLT,reduceCtorEq,isConst,hr,he]
  exact downS_here (hbad he)
end
section
variable {σ : AHeap} {Q : Value → AHeap → Prop} {r p : Nat} {s : ByteArray}
theorem varR_k {k q : Nat} (h : varR s p = .error (k,q)) : k ≠ 0 := by
 unfold varR at h
 cases ht : takeF (s.extract p s.size) 4 0 0 with
 | inl a => obtain ⟨m,j⟩ := a; rw [ht] at h; cases h
 | inr e => obtain ⟨j,q'⟩ := e; rw [ht] at h; simp only [Except.error.injEq,Prod.mk.injEq] at h; omega
theorem textR_k {k q : Nat} (h : textR s p = .error (k,q)) : k ≠ 0 := by
 unfold textR at h
 cases hb : binR s p with
 | error e =>
  obtain ⟨j,q'⟩ := e
  rw [hb] at h
  simp only [Except.error.injEq,Prod.mk.injEq] at h
  unfold binR at hb
  cases hn : numR s p 2 with
  | ok a => obtain ⟨n,q2⟩ := a; rw [hn] at hb; have := rawR_k hb; omega
  | error e => obtain ⟨j2,q2⟩ := e; rw [hn] at hb; simp only [Except.error.injEq,Prod.mk.injEq] at hb; have := numR_k hn; omega
 | ok a =>
  obtain ⟨b,q'⟩ := a
  rw [hb] at h
  simp only at h
  cases ht : textF b with
  | inl m => rw [ht] at h; cases h
  | inr e => obtain ⟨j,i⟩ := e; rw [ht] at h; simp only [Except.error.injEq,Prod.mk.injEq] at h; omega
theorem specYVar (hr : IsY σ r s p 0 0) (hp : p ≤ s.size) (hs : s.size ≤ 100000000)
  (hok : ∀ n q,varR s p = .ok (n,q) → ∀ σ',Kept σ [r] σ' [r] → IsY σ' r s q 0 0 → Q (.int .i64 (n : Int)) σ')
  (hbad : ∀ e q,varR s p = .error (e,q) → ∀ σ',Kept σ [r] σ' [r] → IsY σ' r s p (e : Int) (q : Int) → Q (.int .i64 0) σ') : CallS E B 143 [.pointer (some ⟨r,0,none⟩)] σ Q := by
 unfold varR at hok hbad
 have hr' := hr
 unfold IsY at hr'
 have hsl : ∀ τ : AHeap,aslice E τ 9 (.string s) (some (.int .i64 (p : Int))) none none = some (.string (s.extract p s.size)) := fun τ => slice_from ty9 hp
 have hbs : (s.extract p s.size).size ≤ 100000000 := by rw [ByteArray.size_extract]; omega
 have hez : (s.extract p s.size).size = s.size - p := by rw [ByteArray.size_extract]; omega
 have hk := takeF_k (s.extract p s.size) 4 0 0 (by omega)
 refine call143 (by simp) ?_
 simp only [strip,bodyOf,Tryz.f143,getD_body,keepN,bareOp_mk,List.map_cons,List.map_nil,↓reduceIte,Bool.false_eq_true]
 simp only [↓sbD,sbU,tyB,decide_false,↓reduceIte,Nat.reduceEqDiff,Nat.reduceLT,reduceCtorEq,isConst,hr',hsl]
 refine specRTake hbs (fun n k ht => ?_) fun k q ht => ?_
 ·rw [ht] at hk hok
  have hk : k ≤ (s.extract p s.size).size := hk
  have hw : IntKind.i64.wrap ((p : Int) + (k : Int)) = ((p + k : Nat) : Int) := by rw [wrap64 ⟨by omega,by omega⟩]; omega
  simp only [↓sbD,sbU,tyB,decide_false,Bool.or_self,↓reduceIte,Nat.reduceEqDiff,Nat.reduceLT,Nat.reduceAdd,Nat.reduceLeDiff,reduceCtorEq,isConst,splice,hr',hw]
  exact downS_here (hok n (p + k) rfl _ (Kept.set (by simp)) (AHeap.get_set_same _ _ _))
 ·rw [ht] at hk hbad
  have hk : q ≤ (s.extract p s.size).size + 3 := hk
  have hk0 : ¬ ((k : Int) + 1 = 0) := by omega
  have hw : IntKind.i64.wrap ((p : Int) + (q : Int)) = ((p + q : Nat) : Int) := by rw [wrap64 ⟨by omega,by omega⟩]; omega
  simp only [↓sbD,sbU,tyB,Bool.or_self,↓reduceIte,Nat.reduceEqDiff,Nat.reduceLT,reduceCtorEq,isConst,hr',hk0,hw]
  refine specYFail hr ?_
  simp only [↓sbD,sbU,↓reduceIte,Nat.reduceLT]
  exact downS_here (hbad (k + 1) (p + q) rfl _ (Kept.set (by simp)) (AHeap.get_set_same _ _ _))
theorem specYVarE {e a : Int} (hr : IsY σ r s p e a) (he : e ≠ 0) (h : Q (.int .i64 0) σ) : CallS E B 143 [.pointer (some ⟨r,0,none⟩)] σ Q := by
 unfold IsY at hr
 refine call143 (by simp) ?_
 simp only [strip,bodyOf,Tryz.f143,getD_body,keepN,bareOp_mk,List.map_cons,List.map_nil,↓reduceIte,Bool.false_eq_true]
 simp only [↓sbD,sbU,tyB,↓reduceIte,Nat.reduceLT,reduceCtorEq,isConst,hr,he]
 exact downS_here h
theorem specYText (hr : IsY σ r s p 0 0) (hp : p ≤ s.size) (hs : s.size ≤ 100000000)
  (hok : ∀ v q,textR s p = .ok (v,q) → ∀ σ',Kept σ [r] σ' [r] → IsY σ' r s q 0 0 → Q (.string v) σ')
  (hbad : ∀ k q,textR s p = .error (k,q) → ∀ σ',Kept σ [r] σ' [r] → IsY σ' r s p (k : Int) (q : Int) → Q (.string emp) σ') : CallS E B 103 [.pointer (some ⟨r,0,none⟩)] σ Q := by
 unfold textR at hok hbad
 have hr' := hr
 unfold IsY at hr'
 refine call103 (by simp) ?_
 simp only [strip,bodyOf,Tryz.f103,getD_body,keepN,bareOp_mk,List.map_cons,List.map_nil,↓reduceIte,Bool.false_eq_true]
 simp (disch := first | assumption | simp) only [↓sbD,sbU,tyB,↓reduceIte,Nat.reduceLT,reduceCtorEq,hr']
 refine specYBin hr hp (by omega) (fun v q hv σ1 k1 i1 => ?_) fun k q hv σ1 k1 i1 => ?_
 ·rw [hv] at hok hbad
  simp only at hok hbad
  have hb := binR_ok hv
  have i1' := i1
  unfold IsY at i1'
  simp (disch := first | assumption | simp) only [↓sbD,sbU,tyB,decide_false,↓reduceIte,Nat.reduceEqDiff,Nat.reduceLT,reduceCtorEq,isConst,i1']
  refine specRCheck (by omega) (fun m hm => ?_) fun k j hm => ?_
  ·rw [hm] at hok
   simp (disch := first | assumption | simp) only [↓sbD,sbU,decide_false,↓reduceIte,Nat.reduceEqDiff,Nat.reduceLT,isConst]
   exact downS_here (hok v q rfl _ k1 i1)
  ·rw [hm] at hbad
   have hj := textF_p hm
   have hk0 : ¬ ((k : Int) + 1 = 0) := by omega
   have hw1 : IntKind.i64.wrap ((p : Int) + 2) = ((p + 2 : Nat) : Int) := by rw [wrap64 ⟨by omega,by omega⟩]; omega
   have hw2 : IntKind.i64.wrap (((p + 2 : Nat) : Int) + (j : Int)) = ((p + 2 + j : Nat) : Int) := by rw [wrap64 ⟨by omega,by omega⟩]; omega
   simp (disch := first | assumption | simp) only [↓sbD,sbU,tyB,Bool.or_self,↓reduceIte,Nat.reduceEqDiff,Nat.reduceLT,Nat.reduceAdd,Nat.reduceLeDiff,reduceCtorEq,isConst,splice,hk0,i1',hw1,hw2]
   refine specYFail (p := p) (s := s) (AHeap.get_set_same _ _ _) ?_
   simp (disch := first | assumption | simp) only [↓sbD,sbU,↓reduceIte,Nat.reduceLT]
   exact downS_here (hbad (k + 1) (p + 2 + j) rfl _ ((k1.trans (Kept.set (by simp))).trans (Kept.set (by simp))) (AHeap.get_set_same _ _ _))
 ·rw [hv] at hbad
  simp only at hbad
  have hk0 : ¬ (k : Int) = 0 := by
   have := textR_k (s := s) (p := p) (k := k) (q := q) (by unfold textR; rw [hv])
   omega
  have i1' := i1
  unfold IsY at i1'
  simp (disch := first | assumption | simp) only [↓sbD,sbU,tyB,↓reduceIte,Nat.reduceLT,reduceCtorEq,isConst,i1',hk0]
  exact downS_here (hbad k q rfl _ k1 i1)
theorem specYTextE {e a : Int} (hr : IsY σ r s p e a) (he : e ≠ 0) (h : ∀ σ',Kept σ [r] σ' [r] → IsY σ' r s p e a → Q (.string emp) σ') : CallS E B 103 [.pointer (some ⟨r,0,none⟩)] σ Q := by
 have hr' := hr
 unfold IsY at hr'
 refine call103 (by simp) ?_
 simp only [strip,bodyOf,Tryz.f103,getD_body,keepN,bareOp_mk,List.map_cons,List.map_nil,↓reduceIte,Bool.false_eq_true]
 simp only [↓sbD,sbU,tyB,↓reduceIte,Nat.reduceLT,reduceCtorEq,hr']
 refine specYBinE hr he fun σ1 k1 i1 => ?_
 have i1' := i1
 unfold IsY at i1'
 simp only [↓sbD,sbU,tyB,↓reduceIte,Nat.reduceLT,reduceCtorEq,isConst,i1',he]
 exact downS_here (h σ1 k1 i1)
theorem rdA_k {T : Int} {k q : Nat} (h : rdA T s p = .error (k,q)) : k ≠ 0 := by
 unfold rdA at h
 have mN : ∀ r : Rd Nat,mapN r = .error (k,q) → r = .error (k,q) := by
  intro r hr
  unfold mapN at hr
  split at hr
  ·cases hr
  ·simp only [Except.error.injEq] at hr ⊢; exact hr
 have mS : ∀ r : Rd ByteArray,mapS r = .error (k,q) → r = .error (k,q) := by
  intro r hr
  unfold mapS at hr
  split at hr
  ·cases hr
  ·simp only [Except.error.injEq] at hr ⊢; exact hr
 split at h
 ·exact numR_k (mN _ h)
 split at h
 ·exact numR_k (mN _ h)
 split at h
 ·exact numR_k (mN _ h)
 split at h
 ·exact varR_k (mN _ h)
 split at h
 ·exact textR_k (mS _ h)
 ·have h := mS _ h
  unfold binR at h
  cases hn : numR s p 2 with
  | ok a => obtain ⟨n,q2⟩ := a; rw [hn] at h; exact rawR_k h
  | error e => obtain ⟨j2,q2⟩ := e; rw [hn] at h; simp only [Except.error.injEq,Prod.mk.injEq] at h; have := numR_k hn; omega
theorem specYDo {T n : Int} {b : ByteArray} (hk : kindOk T) (hr : IsY σ r s p 0 0) (hp : p ≤ s.size) (hs : s.size ≤ 100000000)
  (hok : ∀ n v q,rdA T s p = .ok ((n,v),q) → ∀ σ',Kept σ [r] σ' [r] → IsY σ' r s q 0 0 → Q (.tuple #[.int .i64 n,.string v]) σ')
  (hbad : ∀ e q,rdA T s p = .error (e,q) → ∀ σ',Kept σ [r] σ' [r] → IsY σ' r s p (e : Int) (q : Int) → Q (.tuple #[.int .i64 0,.string emp]) σ') : CallS E B 165 [.pointer (some ⟨r,0,none⟩),.agg ⟨actC ⟨T,n,b⟩⟩] σ Q := by
 simp only [actC]
 unfold rdA at hok hbad
 refine call165 (by simp) ?_
 simp only [strip,bodyOf,Tryz.f165,getD_body,keepN,bareOp_mk,List.map_cons,List.map_nil,↓reduceIte,Bool.false_eq_true]
 rcases hk with rfl | rfl | rfl | rfl | rfl | rfl
 ·simp only [Int.reduceEq,if_true,if_false] at hok hbad
  simp only [↓sbD,sbU,tyB,↓reduceIte,Nat.reduceEqDiff,Nat.reduceLT,reduceCtorEq,isConst,boxS,Edp,dpv]
  refine specYU8 hr hp (by omega) (fun n q hn σ1 k1 i1 => ?_) fun k q hn σ1 k1 i1 => ?_
  ·simp only [↓sbD,sbU,↓reduceIte,Nat.reduceEqDiff,Nat.reduceLT]
   exact downS_here (hok n emp q (by rw [hn]; rfl) σ1 k1 i1)
  ·simp only [↓sbD,sbU,↓reduceIte,Nat.reduceEqDiff,Nat.reduceLT]
   exact downS_here (hbad k q (by rw [hn]; rfl) σ1 k1 i1)
 ·simp only [Int.reduceEq,if_true,if_false] at hok hbad
  simp only [↓sbD,sbU,tyB,Int.reduceEq,decide_false,↓reduceIte,Nat.reduceEqDiff,Nat.reduceLT,reduceCtorEq,isConst,boxS,Edp,dpv]
  refine specYU16 hr hp (by omega) (fun n q hn σ1 k1 i1 => ?_) fun k q hn σ1 k1 i1 => ?_
  ·simp only [↓sbD,sbU,↓reduceIte,Nat.reduceEqDiff,Nat.reduceLT]
   exact downS_here (hok n emp q (by rw [hn]; rfl) σ1 k1 i1)
  ·simp only [↓sbD,sbU,↓reduceIte,Nat.reduceEqDiff,Nat.reduceLT]
   exact downS_here (hbad k q (by rw [hn]; rfl) σ1 k1 i1)
 ·simp only [Int.reduceEq,if_true,if_false] at hok hbad
  simp only [↓sbD,sbU,tyB,Int.reduceEq,decide_false,↓reduceIte,Nat.reduceEqDiff,Nat.reduceLT,reduceCtorEq,isConst,boxS,Edp,dpv]
  refine specYU32 hr hp (by omega) (fun n q hn σ1 k1 i1 => ?_) fun k q hn σ1 k1 i1 => ?_
  ·simp only [↓sbD,sbU,↓reduceIte,Nat.reduceEqDiff,Nat.reduceLT]
   exact downS_here (hok n emp q (by rw [hn]; rfl) σ1 k1 i1)
  ·simp only [↓sbD,sbU,↓reduceIte,Nat.reduceEqDiff,Nat.reduceLT]
   exact downS_here (hbad k q (by rw [hn]; rfl) σ1 k1 i1)
 ·simp only [Int.reduceEq,if_true,if_false] at hok hbad
  simp only [↓sbD,sbU,tyB,Int.reduceEq,decide_false,↓reduceIte,Nat.reduceEqDiff,Nat.reduceLT,reduceCtorEq,isConst,boxS,Edp,dpv]
  refine specYVar hr hp (by omega) (fun n q hn σ1 k1 i1 => ?_) fun k q hn σ1 k1 i1 => ?_
  ·simp only [↓sbD,sbU,↓reduceIte,Nat.reduceEqDiff,Nat.reduceLT]
   exact downS_here (hok n emp q (by rw [hn]; rfl) σ1 k1 i1)
  ·simp only [↓sbD,sbU,↓reduceIte,Nat.reduceEqDiff,Nat.reduceLT]
   exact downS_here (hbad k q (by rw [hn]; rfl) σ1 k1 i1)
 ·simp only [Int.reduceEq,if_true,if_false] at hok hbad
  simp only [↓sbD,sbU,tyB,Int.reduceEq,decide_false,↓reduceIte,Nat.reduceEqDiff,Nat.reduceLT,reduceCtorEq,isConst,boxS,Edp,dpv]
  refine specYText hr hp (by omega) (fun n q hn σ1 k1 i1 => ?_) fun k q hn σ1 k1 i1 => ?_
  ·simp only [↓sbD,sbU,↓reduceIte,Nat.reduceEqDiff,Nat.reduceLT]
   exact downS_here (hok 0 n q (by rw [hn]; rfl) σ1 k1 i1)
  ·simp only [↓sbD,sbU,↓reduceIte,Nat.reduceEqDiff,Nat.reduceLT]
   exact downS_here (hbad k q (by rw [hn]; rfl) σ1 k1 i1)
 ·simp only [Int.reduceEq,if_false] at hok hbad
  simp only [↓sbD,sbU,tyB,Int.reduceEq,decide_false,↓reduceIte,Nat.reduceEqDiff,Nat.reduceLT,reduceCtorEq,isConst,boxS,Edp,dpv]
  refine specYBin hr hp (by omega) (fun n q hn σ1 k1 i1 => ?_) fun k q hn σ1 k1 i1 => ?_
  ·simp only [↓sbD,sbU,↓reduceIte,Nat.reduceEqDiff,Nat.reduceLT]
   exact downS_here (hok 0 n q (by rw [hn]; rfl) σ1 k1 i1)
  ·simp only [↓sbD,sbU,↓reduceIte,Nat.reduceEqDiff,Nat.reduceLT]
   exact downS_here (hbad k q (by rw [hn]; rfl) σ1 k1 i1)
end
section
variable {σ : AHeap} {Q : Value → AHeap → Prop} {r p : Nat} {s : ByteArray}
theorem specYValue {id : Int} (ht0 : typI id ≠ 0) (hr : IsY σ r s p 0 0) (hp : p ≤ s.size) (hs : s.size ≤ 100000000)
  (hok : ∀ x q,valueR id s p = .ok (x,q) → ∀ σ',Kept σ [r] σ' [r] → IsY σ' r s q 0 0 → Q (.agg ⟨propC x⟩) σ')
  (hbad : ∀ k q,valueR id s p = .error (k,q) → k ≠ 0 → ∀ σ' p' y,Kept σ [r] σ' [r] → IsY σ' r s p' (k : Int) (q : Int) → Q (.agg ⟨propC y⟩) σ') :
  CallS E B 144 [.pointer (some ⟨r,0,none⟩),.int .i64 id] σ Q := by
 unfold valueR at hok hbad
 refine call144 (by simp) ?_
 simp only [strip,bodyOf,Tryz.f144,getD_body,keepN,bareOp_mk,List.map_cons,List.map_nil,↓reduceIte,Bool.false_eq_true]
 simp only [↓sbD,sbU,tyB,↓reduceIte,Nat.reduceEqDiff,Nat.reduceLT,Nat.reduceAdd,Nat.reduceLeDiff,pairs,splice,ZV.val,AS_new,zePr]
 intro c hc d hd
 have hlive : σ.get r ≠ .dead := by rw [show σ.get r = _ from hr]; simp
 have hcr : c ≠ r := by rintro rfl; exact hlive hc
 have hdc : d ≠ c := by rintro rfl; rw [AHeap.get_set_same] at hd; cases hd
 have hd0 : σ.get d = .dead := by rw [AHeap.get_set_ne _ _ hdc.symm] at hd; exact hd
 have hdr : d ≠ r := by rintro rfl; exact hlive hd0
 generalize hσ1 : AHeap.set (AHeap.set (AHeap.set σ c _) d _) d _ = σ1
 have k1 : Kept σ [r] σ1 [r] := by rw [← hσ1]; exact (((Kept.refl σ [r]).setD hc).setD hd0).setD hd0
 have g1 : σ1.get d = .cells [.int .i64 id,.int .i64 0,.string ⟨#[]⟩,.string ⟨#[]⟩] true 0 := by rw [← hσ1]; exact AHeap.get_set_same _ _ _
 have gc1 : σ1.get c = .cells [.int .i64 0,.int .i64 0,.string ⟨#[]⟩,.string ⟨#[]⟩] true 0 := by rw [← hσ1,AHeap.get_set_ne _ _ hdc,AHeap.get_set_ne _ _ hdc]; exact AHeap.get_set_same _ _ _
 have i1 : IsY σ1 r s p 0 0 := by rw [← hσ1]; unfold IsY; rw [AHeap.get_set_ne _ _ hdr,AHeap.get_set_ne _ _ hdr,AHeap.get_set_ne _ _ hcr]; exact hr
 clear hσ1 hd
 have dc : ∀ (τ : AHeap) o,(AHeap.set τ d o).get c = τ.get c := fun τ o => AHeap.get_set_ne _ _ hdc
 have xr : ∀ (τ : AHeap) o o',(AHeap.set (AHeap.set τ d o) c o').get r = τ.get r := fun τ o o' => by rw [AHeap.get_set_ne _ _ hcr,AHeap.get_set_ne _ _ hdr]
 have dr : ∀ (τ : AHeap) o,(AHeap.set τ d o).get r = τ.get r := fun τ o => AHeap.get_set_ne _ _ hdr
 have cr : ∀ (τ : AHeap) o,(AHeap.set τ c o).get r = τ.get r := fun τ o => AHeap.get_set_ne _ _ hcr
 refine specRType ?_
 by_cases h9 : typI id = 9
 ·rw [if_pos h9] at hok hbad
  simp only [↓sbD,sbU,↓reduceIte,Nat.reduceLT,reduceCtorEq,isConst,h9]
  refine specYText i1 hp hs (fun a q ha σ2 k2 i2 => ?_) fun k q ha σ2 k2 i2 => ?_
  ·have hq := textR_ok ha
   rw [ha] at hok hbad
   simp only at hok hbad
   have g2 := (k2.at g1 (by simp) (by simpa using hdr)).1
   have gc2 := (k2.at gc1 (by simp) (by simpa using hcr)).1
   simp only [↓sbD,sbU,tyB,↓reduceIte,Nat.reduceEqDiff,Nat.reduceLT,Nat.reduceAdd,Nat.reduceLeDiff,reduceCtorEq,splice,g2]
   generalize hσ3 : AHeap.set σ2 d _ = σ3
   have g3 : σ3.get d = .cells [.int .i64 id,.int .i64 0,.string a,.string ⟨#[]⟩] true 0 := by rw [← hσ3]; exact AHeap.get_set_same _ _ _
   have gc3 : σ3.get c = .cells [.int .i64 0,.int .i64 0,.string ⟨#[]⟩,.string ⟨#[]⟩] true 0 := by rw [← hσ3,dc]; exact gc2
   have k3 : Kept σ [r] σ3 [r] := by rw [← hσ3]; exact (k1.trans k2).setD hd0
   have i3 : IsY σ3 r s q 0 0 := by rw [← hσ3]; unfold IsY; rw [dr]; exact i2
   clear hσ3
   refine specYText i3 hq.2 hs (fun b q2 hb σ4 k4 i4 => ?_) fun k q2 hb σ4 k4 i4 => ?_
   ·rw [hb] at hok
    have g4 := (k4.at g3 (by simp) (by simpa using hdr)).1
    have gc4 := (k4.at gc3 (by simp) (by simpa using hcr)).1
    simp only [↓sbD,sbU,tyB,↓reduceIte,Nat.reduceEqDiff,Nat.reduceLT,Nat.reduceAdd,Nat.reduceLeDiff,reduceCtorEq,splice,g4,gc4,dc]
    exact downS_here (hok ⟨id,0,a,b⟩ q2 rfl _ (((k3.trans k4).setD hd0).setD hc) (by unfold IsY; rw [cr,dr]; exact i4))
   ·rw [hb] at hbad
    have g4 := (k4.at g3 (by simp) (by simpa using hdr)).1
    have gc4 := (k4.at gc3 (by simp) (by simpa using hcr)).1
    simp only [↓sbD,sbU,tyB,↓reduceIte,Nat.reduceEqDiff,Nat.reduceLT,Nat.reduceAdd,Nat.reduceLeDiff,reduceCtorEq,splice,g4,gc4,dc]
    exact downS_here (hbad k q2 rfl (textR_k hb) _ q ⟨id,0,a,emp⟩ (((k3.trans k4).setD hd0).setD hc) (by unfold IsY; rw [cr,dr]; exact i4))
  ·rw [ha] at hbad
   have hk0 := textR_k ha
   have g2 := (k2.at g1 (by simp) (by simpa using hdr)).1
   have gc2 := (k2.at gc1 (by simp) (by simpa using hcr)).1
   simp only [↓sbD,sbU,tyB,↓reduceIte,Nat.reduceEqDiff,Nat.reduceLT,Nat.reduceAdd,Nat.reduceLeDiff,reduceCtorEq,splice,g2]
   generalize hσ3 : AHeap.set σ2 d _ = σ3
   have g3 : σ3.get d = .cells [.int .i64 id,.int .i64 0,.string emp,.string ⟨#[]⟩] true 0 := by rw [← hσ3]; exact AHeap.get_set_same _ _ _
   have gc3 : σ3.get c = .cells [.int .i64 0,.int .i64 0,.string ⟨#[]⟩,.string ⟨#[]⟩] true 0 := by rw [← hσ3,dc]; exact gc2
   have k3 : Kept σ [r] σ3 [r] := by rw [← hσ3]; exact (k1.trans k2).setD hd0
   have i3 : IsY σ3 r s p (k : Int) (q : Int) := by rw [← hσ3]; unfold IsY; rw [dr]; exact i2
   clear hσ3
   refine specYTextE i3 (by omega) fun σ4 k4 i4 => ?_
   have g4 := (k4.at g3 (by simp) (by simpa using hdr)).1
   have gc4 := (k4.at gc3 (by simp) (by simpa using hcr)).1
   simp only [↓sbD,sbU,tyB,↓reduceIte,Nat.reduceEqDiff,Nat.reduceLT,Nat.reduceAdd,Nat.reduceLeDiff,reduceCtorEq,splice,g4,gc4,dc]
   exact downS_here (hbad k q rfl hk0 _ p ⟨id,0,emp,emp⟩ (((k3.trans k4).setD hd0).setD hc) (by unfold IsY; rw [cr,dr]; exact i4))
 ·rw [if_neg h9] at hok hbad
  have hk : kindOk (typI id) := by
   have := typ_cases id
   unfold kindOk; omega
  simp only [↓sbD,sbU,tyB,decide_false,↓reduceIte,Nat.reduceEqDiff,Nat.reduceLT,Nat.reduceAdd,Nat.reduceLeDiff,reduceCtorEq,pairs,isConst,splice,ZV.val,h9]
  refine specYDo (T := typI id) (n := 0) (b := emp) hk i1 hp hs (fun n a q ha σ2 k2 i2 => ?_) fun k q ha σ2 k2 i2 => ?_
  ·rw [ha] at hok
   have g2 := (k2.at g1 (by simp) (by simpa using hdr)).1
   have gc2 := (k2.at gc1 (by simp) (by simpa using hcr)).1
   simp only [↓sbD,sbU,tyB,↓reduceIte,Nat.reduceEqDiff,Nat.reduceLT,Nat.reduceAdd,Nat.reduceLeDiff,reduceCtorEq,splice,g2,gc2,dc]
   exact downS_here (hok ⟨id,n,a,emp⟩ q rfl _ ((((k1.trans k2).setD hd0).setD hd0).setD hc) (by unfold IsY; rw [cr,dr,dr]; exact i2))
  ·rw [ha] at hbad
   have g2 := (k2.at g1 (by simp) (by simpa using hdr)).1
   have gc2 := (k2.at gc1 (by simp) (by simpa using hcr)).1
   simp only [↓sbD,sbU,tyB,↓reduceIte,Nat.reduceEqDiff,Nat.reduceLT,Nat.reduceAdd,Nat.reduceLeDiff,reduceCtorEq,splice,g2,gc2,dc]
   exact downS_here (hbad k q rfl (rdA_k ha) _ p ⟨id,0,emp,emp⟩ ((((k1.trans k2).setD hd0).setD hd0).setD hc) (by unfold IsY; rw [cr,dr,dr]; exact i2))
end
set_option maxHeartbeats 4000000
section
variable {σ : AHeap} {Q : Value → AHeap → Prop} {r p : Nat} {s : ByteArray}
theorem dpRd : dp 129 = false := rfl
theorem nd {τ : AHeap} {b x : Nat} {o : AObj} (hb : τ.get b = .dead) (hx : τ.get x = o) (ho : o ≠ .dead) : b ≠ x := by rintro rfl; rw [hx] at hb; exact ho hb
theorem specYRead {pl : Int} (hr : IsY σ r s p 0 0) (hp : p ≤ s.size) (hs : s.size ≤ 100000000)
  (hok : ∀ l q,ReadP pl s p (.ok (l,q)) → ∀ v σ',DL propC 4 v l → Kept σ [r] σ' [r] → IsY σ' r s q 0 0 → q ≤ s.size → Q (.tuple #[v,flt 0 0 0]) σ')
  (hbad : ∀ k rr a : Nat,ReadP pl s p (.error (k,rr,a)) → ∀ σ',Kept σ [r] σ' [r] → Q (.tuple #[.slice none 0 0,flt k rr a]) σ') :
  CallS E B 106 [.pointer (some ⟨r,0,none⟩),.int .i64 pl] σ Q := by
 unfold ReadP at hok hbad
 refine call106 (by simp) ?_
 simp only [strip,bodyOf,Tryz.f106,getD_body,keepN,bareOp_mk,lapp_cons,lapp_nil,List.map_cons,List.map_nil,↓reduceIte,Bool.false_eq_true]
 simp only [↓sbD,sbU,↓reduceIte,Nat.reduceLT,reduceCtorEq,AS_new,zeFlt]
 intro c hc
 have hcr : c ≠ r := nd hc hr (by simp)
 generalize hσ1 : AHeap.set σ c _ = σ1
 have k1 : Kept σ [r] σ1 [r] := by rw [← hσ1]; exact (Kept.refl σ [r]).setD hc
 have gc1 : σ1.get c = .cells [.int .i64 0,.int .i64 0,.int .i64 0] true 0 := by rw [← hσ1]; exact AHeap.get_set_same _ _ _
 have i1 : IsY σ1 r s p 0 0 := by rw [← hσ1]; unfold IsY; rw [AHeap.get_set_ne _ _ hcr]; exact hr
 clear hσ1
 refine specYVar i1 hp hs (fun n q hn σ2 k2 i2 => ?_) fun k q hn σ2 k2 i2 => ?_
 rotate_left
 ·rw [hn] at hbad
  have hk0 : ¬ (k : Int) = 0 := by have := varR_k hn; omega
  have gc2 := (k2.at gc1 (by simp) (by simpa using hcr)).1
  have i2' := i2
  unfold IsY at i2'
  simp only [↓sbD,sbU,↓reduceIte,Nat.reduceEqDiff,Nat.reduceLT]
  refine specYRawE i2 hk0 ?_
  simp only [↓sbD,sbU,tyB,↓reduceIte,Nat.reduceEqDiff,Nat.reduceLT,Nat.reduceAdd,Nat.reduceLeDiff,reduceCtorEq,pairs,isConst,splice,ZV.val,i2',hk0,gc2,res_cellc,resC_some]
  exact downS_here (hbad k 129 q rfl _ ((k1.trans k2).setD hc))
 have hv := varR_le hp hn
 rw [hn] at hok hbad
 simp only at hok hbad
 simp only [↓sbD,sbU,↓reduceIte,Nat.reduceEqDiff,Nat.reduceLT]
 refine specYRaw i2 hv.2.1 (by omega) (fun all q2 ha σ3 k3 i3 => ?_) fun k q2 ha σ3 k3 i3 => ?_
 rotate_left
 ·rw [ha] at hbad
  have hk0 : ¬ (k : Int) = 0 := by have := rawR_k ha; omega
  have gc3 := ((k2.trans k3).at gc1 (by simp) (by simpa using hcr)).1
  have i3' := i3
  unfold IsY at i3'
  simp only [↓sbD,sbU,tyB,↓reduceIte,Nat.reduceEqDiff,Nat.reduceLT,Nat.reduceAdd,Nat.reduceLeDiff,reduceCtorEq,pairs,isConst,splice,ZV.val,i3',hk0,gc3,res_cellc,resC_some]
  exact downS_here (hbad k 129 q2 rfl _ (((k1.trans k2).trans k3).setD hc))
 have hq2 := rawR_ok' (by omega) ha
 rw [Int.toNat_natCast] at hq2
 rw [ha] at hok hbad
 simp only at hok hbad
 have gc3 := ((k2.trans k3).at gc1 (by simp) (by simpa using hcr)).1
 have i3' := i3
 unfold IsY at i3'
 have hwf : IntKind.i64.wrap ((q2 : Int) - (all.size : Int)) = ((q2 - all.size : Nat) : Int) := by rw [wrap64 ⟨by omega,by omega⟩]; omega
 simp only [↓sbD,sbU,tyB,decide_false,Bool.or_self,Bool.false_eq_true,↓reduceIte,Nat.reduceEqDiff,Nat.reduceLT,Nat.reduceAdd,Nat.reduceLeDiff,reduceCtorEq,goInt,pairs,isConst,splice,boxS,Edp,ZV.val,Bool.false_and,i3',hwf,AS_new,dpRd]
 intro x hx
 have hxr : x ≠ r := nd hx i3 (by simp)
 have hxc : x ≠ c := nd hx gc3 (by simp)
 generalize hσ4 : AHeap.set σ3 x _ = σ4
 have k4 : Kept σ3 [] σ4 [x] := by rw [← hσ4]; exact Kept.new' hx
 have i4 : IsY σ4 x all 0 0 0 := by rw [← hσ4]; exact AHeap.get_set_same _ _ _
 clear hσ4
 have K3 := (k1.trans k2).trans k3
 refine S_loop (fun m f σ' => ∃ (p' : Nat) (l : List Pr) (v : Value) (fp : List Nat),m + p' = all.size ∧ p' ≤ all.size ∧ f 9 = v ∧ DG propC 4 σ' v l fp ∧ x ∉ fp ∧ l.length ≤ 64 ∧ IsY σ' x all p' 0 0 ∧ Kept σ3 [] σ' (x :: fp) ∧ ∀ R,AllP pl all p' l R → AllP pl all 0 [] R) all.size (Le.refl _) ⟨0,[],_,[],rfl,Nat.zero_le _,rfl,by simp only [sbU,↓reduceIte]; exact DG.nil,by simp,by simp,i4,k4,fun R h => h⟩ ?_
 clear k4 i4
 rintro m f σ5 ⟨p',l,v,fp,hm,hp',f9,hg,hxf,hl64,ix,hk,hback⟩ hf
 have f0 := hf 0 (by decide) (notMem_wr (by kernel_rfl))
 have f1 := hf 1 (by decide) (notMem_wr (by kernel_rfl))
 have f5 := hf 5 (by decide) (notMem_wr (by kernel_rfl))
 have f6 := hf 6 (by decide) (notMem_wr (by kernel_rfl))
 have f7 := hf 7 (by decide) (notMem_wr (by kernel_rfl))
 have f8 := hf 8 (by decide) (notMem_wr (by kernel_rfl))
 simp only [sbU,↓reduceIte,Nat.reduceEqDiff,reduceCtorEq] at f0 f1 f5 f6 f7 f8
 clear hf
 have ir := (hk.at i3 (by simp) (by simp)).1
 have gc5 := (hk.at gc3 (by simp) (by simp)).1
 have ix' := ix
 unfold IsY at ix'
 have fin : ∀ {τ : AHeap} {o : AObj},Kept σ5 [x] τ [x] → Kept σ [r] (τ.set c o) [r] := fun {τ o} kt => by
  have h1 : Kept σ3 [] σ5 [] := hk.wid (fun _ h => by cases h) (fun _ h => by cases h)
  have h2 : Kept σ3 [] τ [] := (hk.wid (gp := []) (gp' := x :: fp) (fun _ h => by cases h) (fun _ h => .inl h)).trans (kt.wid (gp := x :: fp) (gp' := []) (fun b hb => by simp at hb; simp [hb]) (fun _ h => by cases h))
  exact (K3.trans h2.fst).setD hc
 by_cases hlt : p' < all.size
 ·have h0 : (p' : Int) < (all.size : Int) := by omega
  simp only [↓sbD,sbU,tyB,Bool.or_self,↓reduceIte,Nat.reduceEqDiff,Nat.reduceLT,reduceCtorEq,goInt,isConst,f6,f8,ix',h0]
  refine specYVar ix hp' (by omega) (fun id q3 hid σ6 k6 i6 => ?_) fun k q3 hid σ6 k6 i6 => ?_
  rotate_left
  ·have hk0 : ¬ (k : Int) = 0 := by have := varR_k hid; omega
   have hqe := varR_er hp' hid
   have i6' := i6
   unfold IsY at i6'
   have gc6 := (k6.at gc5 (by simp) (by simpa using hxc.symm)).1
   have hwa : IntKind.i64.wrap (((q2 - all.size : Nat) : Int) + (q3 : Int)) = ((q2 - all.size + q3 : Nat) : Int) := by rw [wrap64 ⟨by omega,by omega⟩]; omega
   simp only [↓sbD,sbU,tyB,↓reduceIte,Nat.reduceEqDiff,Nat.reduceLT,Nat.reduceAdd,Nat.reduceLeDiff,pairs,splice,ZV.val,AS_new,zeFlt,zePr]
   intro b hb d hd
   have hbx : b ≠ x := nd hb i6 (by simp)
   have hbc : b ≠ c := nd hb gc6 (by simp)
   have hdb : d ≠ b := by rintro rfl; rw [AHeap.get_set_same] at hd; cases hd
   have hd6 : σ6.get d = .dead := by rw [AHeap.get_set_ne _ _ hdb.symm,AHeap.get_set_ne _ _ hdb.symm] at hd; exact hd
   have hdx : d ≠ x := nd hd6 i6 (by simp)
   have hdc : d ≠ c := nd hd6 gc6 (by simp)
   have bx : ∀ (τ : AHeap) o,(AHeap.set τ b o).get x = τ.get x := fun τ o => AHeap.get_set_ne _ _ hbx
   have dx : ∀ (τ : AHeap) o,(AHeap.set τ d o).get x = τ.get x := fun τ o => AHeap.get_set_ne _ _ hdx
   have bc : ∀ (τ : AHeap) o,(AHeap.set τ b o).get c = τ.get c := fun τ o => AHeap.get_set_ne _ _ hbc
   have dc : ∀ (τ : AHeap) o,(AHeap.set τ d o).get c = τ.get c := fun τ o => AHeap.get_set_ne _ _ hdc
   simp only [↓sbD,sbU,tyB,decide_false,Bool.or_self,↓reduceIte,Nat.reduceEqDiff,Nat.reduceLT,Nat.reduceAdd,Nat.reduceLeDiff,reduceCtorEq,pairs,isConst,splice,ZV.val,f5,f7,f8,bx,dx,i6',hk0,hwa,bc,dc,gc6,res_cellc,resC_some]
   have ho : oneR pl all p' l = .error (k,129,q3) := by unfold oneR; rw [hid]
   exact downS_le (Le.set (Le.new' (Le.new' (Le.new' (Le.new' (Le.refl _) hb) hb) hd6) hd6)) (hbad k 129 _ ⟨.error (k,129,q3),hback _ (.bad hlt ho),rfl⟩ _ (fin k6))
  ·have hv3 := varR_le hp' hid
   have gc6 := (k6.at gc5 (by simp) (by simpa using hxc.symm)).1
   have hg6 := hg.kept k6 (fun b hb hm => hxf (by obtain rfl := List.mem_singleton.1 hm; exact hb))
   simp only [↓sbD,sbU,tyB,↓reduceIte,Nat.reduceEqDiff,Nat.reduceLT,Nat.reduceAdd,Nat.reduceLeDiff,pairs,splice,ZV.val,AS_new,zeFlt,zePr]
   intro b hb d hd
   have hbx : b ≠ x := nd hb i6 (by simp)
   have hbc : b ≠ c := nd hb gc6 (by simp)
   have hdb : d ≠ b := by rintro rfl; rw [AHeap.get_set_same] at hd; cases hd
   have hd6 : σ6.get d = .dead := by rw [AHeap.get_set_ne _ _ hdb.symm,AHeap.get_set_ne _ _ hdb.symm] at hd; exact hd
   have hdx : d ≠ x := nd hd6 i6 (by simp)
   have hdc : d ≠ c := nd hd6 gc6 (by simp)
   have hb5 : σ5.get b = .dead := by
    by_cases hh : σ5.get b = .dead
    ·exact hh
    ·rw [k6.get b hh (by simpa using hbx)] at hb; exact absurd hb hh
   have hd5 : σ5.get d = .dead := by
    by_cases hh : σ5.get d = .dead
    ·exact hh
    ·rw [k6.get d hh (by simpa using hdx)] at hd6; exact absurd hd6 hh
   have bc : ∀ (τ : AHeap) o,(AHeap.set τ b o).get c = τ.get c := fun τ o => AHeap.get_set_ne _ _ hbc
   have dc : ∀ (τ : AHeap) o,(AHeap.set τ d o).get c = τ.get c := fun τ o => AHeap.get_set_ne _ _ hdc
   have bx : ∀ (τ : AHeap) o,(AHeap.set τ b o).get x = τ.get x := fun τ o => AHeap.get_set_ne _ _ hbx
   have dx : ∀ (τ : AHeap) o,(AHeap.set τ d o).get x = τ.get x := fun τ o => AHeap.get_set_ne _ _ hdx
   have bd : ∀ (τ : AHeap) o,(AHeap.set τ b o).get d = τ.get d := fun τ o => AHeap.get_set_ne _ _ hdb.symm
   have db : ∀ (τ : AHeap) o,(AHeap.set τ d o).get b = τ.get b := fun τ o => AHeap.get_set_ne _ _ hdb
   generalize hσ7 : AHeap.set (AHeap.set (AHeap.set (AHeap.set σ6 b _) b _) d _) d _ = σ7
   have kb : Kept σ6 [] σ7 [] := by rw [← hσ7]; exact ((((Kept.refl σ6 []).setD hb).setD hb).setD hd6).setD hd6
   have K7 : Kept σ5 [x] σ7 [x] := k6.trans (kb.wid (gp := [x]) (gp' := [x]) (fun _ h => by cases h) (fun _ h => .inr h))
   have i7 : IsY σ7 x all q3 0 0 := i6.kept kb (by simp)
   have i7' := i7
   unfold IsY at i7'
   have gc7 := (kb.at gc6 (by simp) (by simp)).1
   have gb7 : σ7.get b = .cells [.int .i64 0,.int .i64 0,.int .i64 0] true 0 := by rw [← hσ7,db,db]; exact AHeap.get_set_same _ _ _
   have gd7 : σ7.get d = .cells [.int .i64 0,.int .i64 0,.string ⟨#[]⟩,.string ⟨#[]⟩] true 0 := by rw [← hσ7]; exact AHeap.get_set_same _ _ _
   have hg7 := hg6.kept kb (fun _ _ h => by cases h)
   clear hσ7 hd
   simp only [↓sbD,sbU,tyB,↓reduceIte,Nat.reduceEqDiff,Nat.reduceLT,reduceCtorEq,isConst,f1,f8,f9,i7']
   refine specRGround hg.dl (by omega) ?_
   cases hgr : groundP pl l (id : Int) with
   | some e =>
    obtain ⟨k,rr⟩ := e
    have hk := groundP_k hgr
    have hk0 : ¬ (k : Int) = 0 := by omega
    have hwa : IntKind.i64.wrap (((q2 - all.size : Nat) : Int) + (p' : Int)) = ((q2 - all.size + p' : Nat) : Int) := by rw [wrap64 ⟨by omega,by omega⟩]; omega
    simp only [fltG]
    simp only [↓sbD,sbU,tyB,decide_false,Bool.or_self,↓reduceIte,Nat.reduceEqDiff,Nat.reduceLT,Nat.reduceAdd,Nat.reduceLeDiff,reduceCtorEq,pairs,isConst,splice,ZV.val,f5,f7,f8,gb7,bx,i7',hk0,hwa,bc,gc7,res_cellc,resC_some]
    have ho : oneR pl all p' l = .error (k,rr,p') := by unfold oneR; rw [hid]; simp only [hgr]
    exact downS_here (hbad k rr _ ⟨.error (k,rr,p'),hback _ (.bad hlt ho),rfl⟩ _ (fin (K7.setD hb5)))
   | none =>
    have ht0 := (groundP_typ hgr).1
    simp only [fltG]
    simp only [↓sbD,sbU,tyB,↓reduceIte,Nat.reduceEqDiff,Nat.reduceLT,Nat.reduceAdd,Nat.reduceLeDiff,reduceCtorEq,isConst,splice,f8,gb7]
    refine specYValue ht0 (by unfold IsY; rw [bx]; exact i7') hv3.2.1 (by omega) (fun y q4 hy σ8 k8 i8 => ?_) fun k q4 hy hk0 σ8 p8 y k8 i8 => ?_
    ·have hac : propC y = [.int .i64 y.id,.int .i64 y.n,.string y.s,.string y.v] := rfl
     have i8' := i8
     unfold IsY at i8'
     have gd8 := (k8.at (show (AHeap.set σ7 b (.cells [.int .i64 0,.int .i64 0,.int .i64 0] true 0)).get d = _ from (bd _ _).trans gd7) (by simp) (by simpa using hdx)).1
     have gb8 := (k8.at (show (AHeap.set σ7 b (.cells [.int .i64 0,.int .i64 0,.int .i64 0] true 0)).get b = _ from AHeap.get_set_same _ _ _) (by simp) (by simpa using hbx)).1
     have gc8 := (k8.at (show (AHeap.set σ7 b (.cells [.int .i64 0,.int .i64 0,.int .i64 0] true 0)).get c = _ from (bc _ _).trans gc7) (by simp) (by simpa using hxc.symm)).1
     have K8 : Kept σ5 [x] σ8 [x] := (K7.setD hb5).trans k8
     simp only [↓sbD,sbU,tyB,decide_false,↓reduceIte,Nat.reduceEqDiff,Nat.reduceLT,Nat.reduceAdd,Nat.reduceLeDiff,reduceCtorEq,isConst,splice,f8,hac,gd8,gb8,dx,db,i8']
     rw [propC_ag]
     refine specRNumbered (p := y) ?_
     cases hnm : numOk y with
     | false =>
      have hwa : IntKind.i64.wrap (((q2 - all.size : Nat) : Int) + (p' : Int)) = ((q2 - all.size + p' : Nat) : Int) := by rw [wrap64 ⟨by omega,by omega⟩]; omega
      have ho : oneR pl all p' l = .error (3,130,p') := by unfold oneR; rw [hid]; simp only [hgr,hy,hnm]; rfl
      simp only [↓sbD,sbU,tyB,Int.reduceEq,Bool.or_self,↓reduceIte,Nat.reduceEqDiff,Nat.reduceLT,Nat.reduceAdd,Nat.reduceLeDiff,reduceCtorEq,pairs,isConst,splice,ZV.val,not_bool,f5,f7,gb8,db,hwa,bc,dc,gc8,res_cellc,resC_some]
      exact downS_here (hbad 3 130 _ ⟨.error (3,130,p'),hback _ (.bad hlt ho),rfl⟩ _ (fin ((K8.setD hd5).setD hb5)))
     | true =>
      have ho : oneR pl all p' l = .ok (y,q4) := by unfold oneR; rw [hid]; simp only [hgr,hy,hnm,if_true]
      have hoq := oneR_ok hp' ho
      have hg9 : DG propC 4 (AHeap.set σ8 d (.cells [.int .i64 y.id,.int .i64 y.n,.string y.s,.string y.v] true 0)) v l fp := hg.kept (K8.setD hd5) (fun b hb hm => hxf (by obtain rfl := List.mem_singleton.1 hm; exact hb))
      simp only [↓sbD,sbU,tyB,Nat.reduceBneDiff,decide_false,gt_iff_lt,Bool.or_self,Bool.false_eq_true,Nat.one_mul,Nat.zero_mul,↓reduceIte,Nat.reduceEqDiff,Nat.reduceLT,Nat.reduceAdd,Nat.reduceLeDiff,reduceCtorEq,pairs,isConst,splice,Edp,dpv,ZV.val,not_bool,f9,gb8,db]
      refine app_pr (xs := [y]) hg9 (.inr ⟨1,rfl⟩) (by simp only [List.length_cons,List.length_nil]; omega) fun σA vA fpA kA gA => ?_
      have iA := kA.at (show (AHeap.set σ8 d (.cells [.int .i64 y.id,.int .i64 y.n,.string y.s,.string y.v] true 0)).get x = _ from (dx _ _).trans i8') (by simp) hxf
      simp only [↓sbD,sbU,↓reduceIte,Nat.reduceLT]
      refine ⟨_,m - (q4 - p'),σA,rfl,by omega,Le.refl _,q4,l ++ [y],vA,fpA,by omega,by omega,rfl,gA,iA.2,by rw [List.length_append]; simp only [List.length_cons,List.length_nil]; omega,iA.1,?_,fun R h => hback R (.step hlt ho h)⟩
      exact hk.trans (((K8.setD hd5).wid (gp := x :: fp) (gp' := x :: fp) (fun b hb => by simp at hb; simp [hb]) (fun b hb => .inr hb)).trans (kA.wid (gp := x :: fp) (gp' := x :: fpA) (fun b hb => by simp [hb]) (fun b hb => by simp only [List.mem_cons] at hb ⊢; rcases hb with hb | hb <;> simp [hb])))
    ·have hac : propC y = [.int .i64 y.id,.int .i64 y.n,.string y.s,.string y.v] := rfl
     have i8' := i8
     unfold IsY at i8'
     have hk0' : ¬ (k : Int) = 0 := by omega
     have hqe := valueR_er hv3.2.1 hy
     have gd8 := (k8.at (show (AHeap.set σ7 b (.cells [.int .i64 0,.int .i64 0,.int .i64 0] true 0)).get d = _ from (bd _ _).trans gd7) (by simp) (by simpa using hdx)).1
     have gc8 := (k8.at (show (AHeap.set σ7 b (.cells [.int .i64 0,.int .i64 0,.int .i64 0] true 0)).get c = _ from (bc _ _).trans gc7) (by simp) (by simpa using hxc.symm)).1
     have K8 : Kept σ5 [x] σ8 [x] := (K7.setD hb5).trans k8
     have hwa : IntKind.i64.wrap (((q2 - all.size : Nat) : Int) + (q4 : Int)) = ((q2 - all.size + q4 : Nat) : Int) := by rw [wrap64 ⟨by omega,by omega⟩]; omega
     have ho : oneR pl all p' l = .error (k,129,q4) := by unfold oneR; rw [hid]; simp only [hgr,hy]
     simp only [↓sbD,sbU,tyB,Bool.or_self,↓reduceIte,Nat.reduceEqDiff,Nat.reduceLT,Nat.reduceAdd,Nat.reduceLeDiff,reduceCtorEq,pairs,isConst,splice,ZV.val,f5,f7,f8,hac,gd8,dx,i8',hk0',hwa,dc,gc8,res_cellc,resC_some]
     exact downS_here (hbad k 129 _ ⟨.error (k,129,q4),hback _ (.bad hlt ho),rfl⟩ _ (fin (K8.setD hd5)))
 ·have h0 : ¬ (p' : Int) < (all.size : Int) := by omega
  simp only [↓sbD,sbU,tyB,decide_false,Bool.or_self,↓reduceIte,Nat.reduceEqDiff,Nat.reduceLT,Nat.reduceAdd,Nat.reduceLeDiff,reduceCtorEq,goInt,pairs,isConst,splice,ZV.val,f5,f6,f8,f9,ix',h0,gc5,res_cellc,resC_some]
  exact downS_here (hok l q2 ⟨.ok l,hback _ (.nil (by omega)),rfl⟩ v _ hg.dl (fin (Kept.refl _ _)) (by unfold IsY; rw [AHeap.get_set_ne _ _ hcr]; exact ir) hq2.2.1)
end
end Go.Proofs.YtjkhhdknplelcaaGreatDoor.AbsA
namespace Go.Proofs.YtjkhhdknplelcaaGreatDoor.AbsA
open Go AbsYtjkhhdknplelcaaGreatDoor Abs
set_option maxRecDepth 100000
set_option maxHeartbeats 4000000
set_option linter.unusedSimpArgs false
set_option linter.unusedVariables false
structure Sb where
 f : ByteArray
 q : Int
 nl : Bool
 ai : Bool
 rt : Int
def subC (x : Sb) : List Value := [.string x.f,.int .i64 x.q,.bool x.nl,.bool x.ai,.int .i64 x.rt]
structure Wl where
 has : Bool
 topic : ByteArray
 pay : ByteArray
 qos : Int
 ret : Bool
 props : List Pr
structure Pk where
 kind : Int
 id : Int
 rea : Int
 props : List Pr
 clean : Bool
 keep : Int
 client : ByteArray
 will : Wl
 hasU : Bool
 user : ByteArray
 hasP : Bool
 pass : ByteArray
 present : Bool
 topic : ByteArray
 pay : ByteArray
 qos : Int
 ret : Bool
 dup : Bool
 subs : List Sb
 filts : List ByteArray
 codes : List Int
def strC1 (s : ByteArray) : List Value := [.string s]
def wlC (w : Wl) (vw : Value) : List Value := [.bool w.has,.string w.topic,.string w.pay,.int .i64 w.qos,.bool w.ret,vw]
def pkC (p : Pk) (vp vw vs vf vc : Value) : List Value := [.int .i64 p.kind,.int .i64 p.id,.int .i64 p.rea,vp,.bool p.clean,.int .i64 p.keep,.string p.client,.bool p.will.has,.string p.will.topic,.string p.will.pay,.int .i64 p.will.qos,.bool p.will.ret,vw,.bool p.hasU,.string p.user,.bool p.hasP,.string p.pass,.bool p.present,.string p.topic,.string p.pay,.int .i64 p.qos,.bool p.ret,.bool p.dup,vs,vf,vc]
def PkV (p : Pk) (v : Value) : Prop := ∃ vp vw vs vf vc,DL propC 4 vp p.props ∧ DL propC 4 vw p.will.props ∧ DL subC 5 vs p.subs ∧ DL strC1 1 vf p.filts ∧ DL intC 1 vc p.codes ∧ v = .agg ⟨pkC p vp vw vs vf vc⟩
theorem typed_b {H : AHeap} {d : Nat} {xs : List Value} (h : Typed E H d 4 xs) : ∃ b,xs = [.bool b] := by
 cases d with
 | zero => exact h.elim
 | succ d => simpa only [Typed,ty4] using h
theorem typedL_pr {H : AHeap} {d : Nat} {xs : List Value} (h : Typed E H d 22 xs) : ∃ v l,xs = [v] ∧ DL propC 4 v (l : List Pr) ∧ frz E.ng E.nb v = true := by
 cases d with
 | zero => exact h.elim
 | succ d =>
  simp only [Typed,ty22] at h
  rcases h with rfl | ⟨h2,_⟩ | ⟨_,n,j,cs,hj,rfl,hl,hk⟩
  ·exact ⟨_,[],rfl,.inl ⟨rfl,rfl⟩,frz_nils⟩
  ·cases h2
  ·rw [ty104] at hj; injection hj with hj; subst hj
   obtain ⟨l,h3,h4⟩ := chunks (enc := propC) (fun a => rfl) n cs hl fun k hk' => typed_pr (hk k hk')
   exact ⟨_,l,rfl,.inr ⟨0,by rw [h3,← h4]⟩,by rw [frz_dsl]; rfl⟩
theorem typedL_s {H : AHeap} {d : Nat} {xs : List Value} (h : Typed E H d 26 xs) : ∃ v l,xs = [v] ∧ DL strC1 1 v (l : List ByteArray) ∧ frz E.ng E.nb v = true := by
 cases d with
 | zero => exact h.elim
 | succ d =>
  simp only [Typed,ty26] at h
  rcases h with rfl | ⟨h2,_⟩ | ⟨_,n,j,cs,hj,rfl,hl,hk⟩
  ·exact ⟨_,[],rfl,.inl ⟨rfl,rfl⟩,frz_nils⟩
  ·cases h2
  ·rw [ty9] at hj; injection hj with hj; subst hj
   obtain ⟨l,h3,h4⟩ := chunks (enc := strC1) (fun a => rfl) n cs hl fun k hk' => by obtain ⟨s,hs,_⟩ := typed_str (hk k hk'); exact ⟨s,hs⟩
   exact ⟨_,l,rfl,.inr ⟨0,by rw [h3,← h4]⟩,by rw [frz_dsl]; rfl⟩
theorem typedL_i {H : AHeap} {d : Nat} {xs : List Value} (h : Typed E H d 27 xs) : ∃ v l,xs = [v] ∧ DL intC 1 v (l : List Int) ∧ frz E.ng E.nb v = true := by
 cases d with
 | zero => exact h.elim
 | succ d =>
  simp only [Typed,ty27] at h
  rcases h with rfl | ⟨h2,_⟩ | ⟨_,n,j,cs,hj,rfl,hl,hk⟩
  ·exact ⟨_,[],rfl,.inl ⟨rfl,rfl⟩,frz_nils⟩
  ·cases h2
  ·rw [ty3] at hj; injection hj with hj; subst hj
   obtain ⟨l,h3,h4⟩ := chunks (enc := intC) (fun a => rfl) n cs hl fun k hk' => by obtain ⟨s,hs,_⟩ := typed_int (hk k hk'); exact ⟨s,hs⟩
   exact ⟨_,l,rfl,.inr ⟨0,by rw [h3,← h4]⟩,by rw [frz_dsl]; rfl⟩
theorem typed_sb {H : AHeap} {d : Nat} {xs : List Value} (h : Typed E H d 50 xs) : ∃ a : Sb,xs = subC a := by
 cases d with
 | zero => exact h.elim
 | succ d =>
  simp only [Typed,ty50] at h
  obtain ⟨hl,hp⟩ := h
  match xs,hl with
  | [x0,x1,x2,x3,x4],_ =>
   obtain ⟨j,j1,j2⟩ := hp (0,9,false) (by simp)
   rw [ty9] at j1; injection j1 with j1; subst j1
   obtain ⟨af,eaf,_⟩ := typed_str (by simpa using j2)
   obtain ⟨j,j1,j2⟩ := hp (1,3,false) (by simp)
   rw [ty3] at j1; injection j1 with j1; subst j1
   obtain ⟨aq,eaq,_⟩ := typed_int (by simpa using j2)
   obtain ⟨j,j1,j2⟩ := hp (2,4,false) (by simp)
   rw [ty4] at j1; injection j1 with j1; subst j1
   obtain ⟨anl,eanl⟩ := typed_b (by simpa using j2)
   obtain ⟨j,j1,j2⟩ := hp (3,4,false) (by simp)
   rw [ty4] at j1; injection j1 with j1; subst j1
   obtain ⟨aai,eaai⟩ := typed_b (by simpa using j2)
   obtain ⟨j,j1,j2⟩ := hp (4,3,false) (by simp)
   rw [ty3] at j1; injection j1 with j1; subst j1
   obtain ⟨art,eart,_⟩ := typed_int (by simpa using j2)
   simp only [List.cons.injEq,and_true] at eaf eaq eanl eaai eart
   exact ⟨⟨af,aq,anl,aai,art⟩,by rw [eaf,eaq,eanl,eaai,eart]; rfl⟩
theorem typedL_sb {H : AHeap} {d : Nat} {xs : List Value} (h : Typed E H d 25 xs) : ∃ v l,xs = [v] ∧ DL subC 5 v (l : List Sb) ∧ frz E.ng E.nb v = true := by
 cases d with
 | zero => exact h.elim
 | succ d =>
  simp only [Typed,ty25] at h
  rcases h with rfl | ⟨h2,_⟩ | ⟨_,n,j,cs,hj,rfl,hl,hk⟩
  ·exact ⟨_,[],rfl,.inl ⟨rfl,rfl⟩,frz_nils⟩
  ·cases h2
  ·rw [ty50] at hj; injection hj with hj; subst hj
   obtain ⟨l,h3,h4⟩ := chunks (enc := subC) (fun a => rfl) n cs hl fun k hk' => typed_sb (hk k hk')
   exact ⟨_,l,rfl,.inr ⟨0,by rw [h3,← h4]⟩,by rw [frz_dsl]; rfl⟩
theorem typed_wl {H : AHeap} {d : Nat} {xs : List Value} (h : Typed E H d 24 xs) : ∃ (w : Wl) (vw : Value),DL propC 4 vw w.props ∧ xs = wlC w vw ∧ frz E.ng E.nb vw = true := by
 cases d with
 | zero => exact h.elim
 | succ d =>
  simp only [Typed,ty24] at h
  obtain ⟨hl,hp⟩ := h
  match xs,hl with
  | [x0,x1,x2,x3,x4,x5],_ =>
   obtain ⟨j,j1,j2⟩ := hp (0,4,false) (by simp)
   rw [ty4] at j1; injection j1 with j1; subst j1
   obtain ⟨ahas,eahas⟩ := typed_b (by simpa using j2)
   obtain ⟨j,j1,j2⟩ := hp (1,9,false) (by simp)
   rw [ty9] at j1; injection j1 with j1; subst j1
   obtain ⟨atopic,eatopic,_⟩ := typed_str (by simpa using j2)
   obtain ⟨j,j1,j2⟩ := hp (2,9,false) (by simp)
   rw [ty9] at j1; injection j1 with j1; subst j1
   obtain ⟨apay,eapay,_⟩ := typed_str (by simpa using j2)
   obtain ⟨j,j1,j2⟩ := hp (3,3,false) (by simp)
   rw [ty3] at j1; injection j1 with j1; subst j1
   obtain ⟨aqos,eaqos,_⟩ := typed_int (by simpa using j2)
   obtain ⟨j,j1,j2⟩ := hp (4,4,false) (by simp)
   rw [ty4] at j1; injection j1 with j1; subst j1
   obtain ⟨aret,earet⟩ := typed_b (by simpa using j2)
   obtain ⟨j,j1,j2⟩ := hp (5,22,false) (by simp)
   rw [ty22] at j1; injection j1 with j1; subst j1
   obtain ⟨vaprops,aprops,eaprops,daprops,zaprops⟩ := typedL_pr (by simpa using j2)
   simp only [List.cons.injEq,and_true] at eahas eatopic eapay eaqos earet eaprops
   exact ⟨⟨ahas,atopic,apay,aqos,aret,aprops⟩,vaprops,daprops,by rw [eahas,eatopic,eapay,eaqos,earet,eaprops]; rfl,zaprops⟩
theorem typed_pk {H : AHeap} {d : Nat} {v : Value} (h : ArgTyped E H d 29 v) : ∃ p : Pk,PkV p v ∧ ∀ cs,v = .agg ⟨cs⟩ → frzL E.ng E.nb cs = true := by
 obtain ⟨xs,h1,rfl⟩ := h.agg ty29 rfl
 cases d with
 | zero => exact h1.elim
 | succ d =>
  simp only [Typed,ty29] at h1
  obtain ⟨hl,hp⟩ := h1
  match xs,hl with
  | [x0,x1,x2,x3,x4,x5,x6,x7,x8,x9,x10,x11,x12,x13,x14,x15,x16,x17,x18,x19,x20,x21,x22,x23,x24,x25],_ =>
   obtain ⟨j,j1,j2⟩ := hp (0,3,false) (by simp)
   rw [ty3] at j1; injection j1 with j1; subst j1
   obtain ⟨akind,eakind,_⟩ := typed_int (by simpa using j2)
   obtain ⟨j,j1,j2⟩ := hp (1,3,false) (by simp)
   rw [ty3] at j1; injection j1 with j1; subst j1
   obtain ⟨aid,eaid,_⟩ := typed_int (by simpa using j2)
   obtain ⟨j,j1,j2⟩ := hp (2,3,false) (by simp)
   rw [ty3] at j1; injection j1 with j1; subst j1
   obtain ⟨area,earea,_⟩ := typed_int (by simpa using j2)
   obtain ⟨j,j1,j2⟩ := hp (3,22,false) (by simp)
   rw [ty22] at j1; injection j1 with j1; subst j1
   obtain ⟨vaprops,aprops,eaprops,daprops,zaprops⟩ := typedL_pr (by simpa using j2)
   obtain ⟨j,j1,j2⟩ := hp (4,4,false) (by simp)
   rw [ty4] at j1; injection j1 with j1; subst j1
   obtain ⟨aclean,eaclean⟩ := typed_b (by simpa using j2)
   obtain ⟨j,j1,j2⟩ := hp (5,3,false) (by simp)
   rw [ty3] at j1; injection j1 with j1; subst j1
   obtain ⟨akeep,eakeep,_⟩ := typed_int (by simpa using j2)
   obtain ⟨j,j1,j2⟩ := hp (6,9,false) (by simp)
   rw [ty9] at j1; injection j1 with j1; subst j1
   obtain ⟨aclient,eaclient,_⟩ := typed_str (by simpa using j2)
   obtain ⟨j,j1,j2⟩ := hp (7,24,false) (by simp)
   rw [ty24] at j1; injection j1 with j1; subst j1
   obtain ⟨w,vw,dw,ew,zw⟩ := typed_wl (by simpa using j2)
   obtain ⟨j,j1,j2⟩ := hp (13,4,false) (by simp)
   rw [ty4] at j1; injection j1 with j1; subst j1
   obtain ⟨ahasU,eahasU⟩ := typed_b (by simpa using j2)
   obtain ⟨j,j1,j2⟩ := hp (14,9,false) (by simp)
   rw [ty9] at j1; injection j1 with j1; subst j1
   obtain ⟨auser,eauser,_⟩ := typed_str (by simpa using j2)
   obtain ⟨j,j1,j2⟩ := hp (15,4,false) (by simp)
   rw [ty4] at j1; injection j1 with j1; subst j1
   obtain ⟨ahasP,eahasP⟩ := typed_b (by simpa using j2)
   obtain ⟨j,j1,j2⟩ := hp (16,9,false) (by simp)
   rw [ty9] at j1; injection j1 with j1; subst j1
   obtain ⟨apass,eapass,_⟩ := typed_str (by simpa using j2)
   obtain ⟨j,j1,j2⟩ := hp (17,4,false) (by simp)
   rw [ty4] at j1; injection j1 with j1; subst j1
   obtain ⟨apresent,eapresent⟩ := typed_b (by simpa using j2)
   obtain ⟨j,j1,j2⟩ := hp (18,9,false) (by simp)
   rw [ty9] at j1; injection j1 with j1; subst j1
   obtain ⟨atopic,eatopic,_⟩ := typed_str (by simpa using j2)
   obtain ⟨j,j1,j2⟩ := hp (19,9,false) (by simp)
   rw [ty9] at j1; injection j1 with j1; subst j1
   obtain ⟨apay,eapay,_⟩ := typed_str (by simpa using j2)
   obtain ⟨j,j1,j2⟩ := hp (20,3,false) (by simp)
   rw [ty3] at j1; injection j1 with j1; subst j1
   obtain ⟨aqos,eaqos,_⟩ := typed_int (by simpa using j2)
   obtain ⟨j,j1,j2⟩ := hp (21,4,false) (by simp)
   rw [ty4] at j1; injection j1 with j1; subst j1
   obtain ⟨aret,earet⟩ := typed_b (by simpa using j2)
   obtain ⟨j,j1,j2⟩ := hp (22,4,false) (by simp)
   rw [ty4] at j1; injection j1 with j1; subst j1
   obtain ⟨adup,eadup⟩ := typed_b (by simpa using j2)
   obtain ⟨j,j1,j2⟩ := hp (23,25,false) (by simp)
   rw [ty25] at j1; injection j1 with j1; subst j1
   obtain ⟨vasubs,asubs,easubs,dasubs,zasubs⟩ := typedL_sb (by simpa using j2)
   obtain ⟨j,j1,j2⟩ := hp (24,26,false) (by simp)
   rw [ty26] at j1; injection j1 with j1; subst j1
   obtain ⟨vafilts,afilts,eafilts,dafilts,zafilts⟩ := typedL_s (by simpa using j2)
   obtain ⟨j,j1,j2⟩ := hp (25,27,false) (by simp)
   rw [ty27] at j1; injection j1 with j1; subst j1
   obtain ⟨vacodes,acodes,eacodes,dacodes,zacodes⟩ := typedL_i (by simpa using j2)
   simp only [List.cons.injEq,and_true,wlC] at ew eakind eaid earea eaprops eaclean eakeep eaclient eahasU eauser eahasP eapass eapresent eatopic eapay eaqos earet eadup easubs eafilts eacodes
   obtain ⟨w0,w1,w2,w3,w4,w5⟩ := ew
   subst eakind eaid earea eaprops eaclean eakeep eaclient eahasU eauser eahasP eapass eapresent eatopic eapay eaqos earet eadup easubs eafilts eacodes w0 w1 w2 w3 w4 w5
   refine ⟨⟨akind,aid,area,aprops,aclean,akeep,aclient,w,ahasU,auser,ahasP,apass,apresent,atopic,apay,aqos,aret,adup,asubs,afilts,acodes⟩,⟨_,_,_,_,_,daprops,dw,dasubs,dafilts,dacodes,rfl⟩,?_⟩
   intro cs hcs
   have hcs2 := congrArg (fun v => match v with | Value.agg ⟨xs⟩ => xs | _ => []) hcs
   simp only [] at hcs2
   rw [← hcs2]
   simp only [frzL,frz_int,frz_bool,frz_str,zaprops,zw,zasubs,zafilts,zacodes,Bool.and_self]
attribute [local irreducible] afterS afterOpS opSK OpsS TrS CodeS condS condW thenS thenQ guardS guardTS outS drawS trSK consS
section
variable {σ : AHeap} {Q : Value → AHeap → Prop}
theorem DLsb.len {v : Value} {l : List Sb} (h : DL subC 5 v l) (σ : AHeap) : abuiltin E σ .len [25] [v] = some (.int .i64 (l.length : Int),σ) := by
 rcases h with ⟨rfl,rfl⟩ | ⟨m,rfl⟩ <;> rfl
theorem DLsb.at {v : Value} {l : List Sb} (h : DL subC 5 v l) {i : Nat} (hi : i < l.length) : aindexAddr E 25 v (.int .i64 (i : Int)) = some (dptr (subC l[i] ++ (l.drop (i + 1)).flatMap subC)) := by
 rcases h with ⟨rfl,rfl⟩ | ⟨m,rfl⟩
 ·simp at hi
 ·rw [ia_dsl hi,drop_flat (enc := subC) (sz := 5) (fun a => rfl) hi]; rfl
theorem DLst.len {v : Value} {l : List ByteArray} (h : DL strC1 1 v l) (σ : AHeap) : abuiltin E σ .len [26] [v] = some (.int .i64 (l.length : Int),σ) := by
 rcases h with ⟨rfl,rfl⟩ | ⟨m,rfl⟩ <;> rfl
theorem DLst.at {v : Value} {l : List ByteArray} (h : DL strC1 1 v l) {i : Nat} (hi : i < l.length) : aindexAddr E 26 v (.int .i64 (i : Int)) = some (dptr (strC1 l[i] ++ (l.drop (i + 1)).flatMap strC1)) := by
 rcases h with ⟨rfl,rfl⟩ | ⟨m,rfl⟩
 ·simp at hi
 ·rw [ia_dsl hi,drop_flat (enc := strC1) (sz := 1) (fun a => rfl) hi]; rfl
theorem DL.fz {α : Type} {enc : α → List Value} {sz : Nat} {v : Value} {l : List α} (h : DL enc sz v l) (hm : ∀ m,v = dsl m sz l.length (l.flatMap enc) → m ≤ 1) : frz E.ng E.nb v = true := by
 rcases h with ⟨_,rfl⟩ | ⟨m,rfl⟩
 ·exact frz_nils
 ·rw [frz_dsl]; simp [hm m rfl]
structure fewPk (p : Pk) : Prop where
 subs : p.subs.length ≤ 40
 sub : ∀ x ∈ p.subs,x.f.size ≤ 200
 filts : p.filts.length ≤ 40
 filt : ∀ x ∈ p.filts,x.size ≤ 200
 codes : p.codes.length ≤ 40
 props : fewPr p.props
 wprops : fewPr p.will.props
 client : p.client.size ≤ 200
 wtopic : p.will.topic.size ≤ 200
 wpay : p.will.pay.size ≤ 200
 user : p.user.size ≤ 200
 pass : p.pass.size ≤ 200
 topic : p.topic.size ≤ 200
 pay : p.pay.size ≤ 200
theorem specKFew {p : Pk} {v : Value} (hp : PkV p v) (hfz : ∀ cs,v = .agg ⟨cs⟩ → frzL E.ng E.nb cs = true) (hq : ∀ b : Bool,(b = true → fewPk p) → Q (.bool b) σ) : CallS E B 11 [v] σ Q := by
 obtain ⟨vp,vw,vs,vf,vc,d1,d2,d3,d4,d5,rfl⟩ := hp
 have hz := hfz _ rfl
 clear hfz
 simp only [pkC] at hz ⊢
 have l3 := DLsb.len d3
 have l4 := DLst.len d4
 have l5 := DLi.len d5
 have hno : ∀ τ : AHeap,τ = σ → downS Q (.bool false) τ := fun τ h => by subst h; exact downS_here (hq false (fun h => by cases h))
 refine call11 (by simp) ?_
 simp only [strip,bodyOf,Tryz.f11,getD_body,keepN,bareOp_mk,lapp_cons,lapp_nil,List.map_cons,List.map_nil,↓reduceIte,Bool.false_eq_true]
 simp only [↓sbD,sbU,↓reduceIte,Nat.reduceLT,boxS,Edp,dpv,hz]
 refine S_loop (fun k f σ' => σ' = σ ∧ ∃ i : Nat,i ≤ 40 ∧ i ≤ p.subs.length ∧ k + i = p.subs.length ∧ f 3 = .int .i64 i ∧ ∀ j (hj : j < p.subs.length),j < i → (p.subs[j]).f.size ≤ 200) p.subs.length (Le.refl _) ⟨rfl,0,by omega,by omega,rfl,by simp only [sbU,↓reduceIte]; rfl,fun j _ hj => by omega⟩ ?_
 rintro k f σ' ⟨rfl,i,h20,hil,hk,f3,hall⟩ hf
 have f1 := hf 1 (by decide) (notMem_wr (by kernel_rfl))
 simp only [sbU,↓reduceIte,Nat.reduceEqDiff] at f1
 clear hf
 have next : ∀ (P : Prop),(((i : Int) < (p.subs.length : Int) ∧ (i : Int) < 40) → P) → ((¬ ((i : Int) < (p.subs.length : Int)) ∨ (((i : Int) < (p.subs.length : Int)) ∧ ¬ ((i : Int) < 40))) → P) → P := fun P a b => by
  by_cases h1 : (i : Int) < (p.subs.length : Int)
  ·by_cases h2 : (i : Int) < 40
   ·exact a ⟨h1,h2⟩
   ·exact b (.inr ⟨h1,h2⟩)
  ·exact b (.inl h1)
 refine next _ (fun ⟨h1,h2⟩ => ?_) fun hend => ?_
 ·have hi : i < p.subs.length := by omega
  have hia := DLsb.at d3 hi
  have hw := wrap_suc (n := i) (by omega)
  generalize hy : p.subs[i] = y at hia
  have hac : subC y = [.string y.f,.int .i64 y.q,.bool y.nl,.bool y.ai,.int .i64 y.rt] := rfl
  by_cases hb : (200 : Int) < (y.f.size : Int)
  ·simp only [↓sbD,sbU,tyB,Bool.or_self,↓reduceIte,Nat.reduceEqDiff,Nat.reduceLT,reduceCtorEq,goInt,isConst,f1,f3,l3,h1,h2,hia,hac,hb]
   exact hno _ rfl
  ·simp only [↓sbD,sbU,tyB,decide_false,Bool.or_self,↓reduceIte,Nat.reduceEqDiff,Nat.reduceLT,reduceCtorEq,goInt,isConst,f1,f3,l3,h1,h2,hia,hac,hb,hw]
   refine ⟨_,k - 1,_,rfl,by omega,Le.refl _,rfl,i + 1,by omega,by omega,by omega,by simp only [sbU,↓reduceIte],fun j hj hji => ?_⟩
   rcases (by omega : j < i ∨ j = i) with h3 | rfl
   ·exact hall j hj h3
   ·rw [hy]; omega
 have hsub : p.subs.length ≤ 40 → ∀ x ∈ p.subs,x.f.size ≤ 200 := fun h x hx => by
  obtain ⟨j,hj,rfl⟩ := List.getElem_of_mem hx
  exact hall j hj (by omega)
 clear hall next
 rcases hend.imp (fun h => And.intro h h) id with ⟨h1,h2⟩ | ⟨h1,h2⟩
 all_goals
  simp only [↓sbD,sbU,tyB,decide_false,Bool.or_self,↓reduceIte,Nat.reduceEqDiff,Nat.reduceLT,reduceCtorEq,isConst,f1,f3,l3,h1,h2]
  refine S_loop (fun k f σ'' => σ'' = σ' ∧ ∃ i : Nat,i ≤ 40 ∧ i ≤ p.filts.length ∧ k + i = p.filts.length ∧ f 4 = .int .i64 i ∧ ∀ j (hj : j < p.filts.length),j < i → (p.filts[j]).size ≤ 200) p.filts.length (Le.refl _) ⟨rfl,0,by omega,by omega,rfl,by simp only [sbU,↓reduceIte]; rfl,fun j _ hj => by omega⟩ ?_
  have F1 := f1
  clear h1 hk hil h20 f3 f1
  rintro k f σ'' ⟨rfl,i,h20,hil,hk,f4,hall⟩ hf
  have f1 := hf 1 (by decide) (notMem_wr (by kernel_rfl))
  simp only [sbU,↓reduceIte,Nat.reduceEqDiff,F1] at f1
  clear hf
  have next : ∀ (P : Prop),(((i : Int) < (p.filts.length : Int) ∧ (i : Int) < 40) → P) → ((¬ ((i : Int) < (p.filts.length : Int)) ∨ (((i : Int) < (p.filts.length : Int)) ∧ ¬ ((i : Int) < 40))) → P) → P := fun P a b => by
   by_cases h1 : (i : Int) < (p.filts.length : Int)
   ·by_cases h2 : (i : Int) < 40
    ·exact a ⟨h1,h2⟩
    ·exact b (.inr ⟨h1,h2⟩)
   ·exact b (.inl h1)
  refine next _ (fun ⟨h1,h2⟩ => ?_) fun hend => ?_
  ·have hi : i < p.filts.length := by omega
   have hia := DLst.at d4 hi
   have hw := wrap_suc (n := i) (by omega)
   generalize hy : p.filts[i] = y at hia
   have hac : strC1 y = [.string y] := rfl
   by_cases hb : (200 : Int) < (y.size : Int)
   ·simp only [↓sbD,sbU,tyB,Bool.or_self,↓reduceIte,Nat.reduceEqDiff,Nat.reduceLT,reduceCtorEq,goInt,isConst,f1,f4,l4,h1,h2,hia,hac,hb]
    exact hno _ rfl
   ·simp only [↓sbD,sbU,tyB,decide_false,Bool.or_self,↓reduceIte,Nat.reduceEqDiff,Nat.reduceLT,reduceCtorEq,goInt,isConst,f1,f4,l4,h1,h2,hia,hac,hb,hw]
    refine ⟨_,k - 1,_,rfl,by omega,Le.refl _,rfl,i + 1,by omega,by omega,by omega,by simp only [sbU,↓reduceIte],fun j hj hji => ?_⟩
    rcases (by omega : j < i ∨ j = i) with h3 | rfl
    ·exact hall j hj h3
    ·rw [hy]; omega
  have hfilt : p.filts.length ≤ 40 → ∀ x ∈ p.filts,x.size ≤ 200 := fun h x hx => by
   obtain ⟨j,hj,rfl⟩ := List.getElem_of_mem hx
   exact hall j hj (by omega)
  clear hall next
  rcases hend.imp (fun h => And.intro h h) id with ⟨h1,h2⟩ | ⟨h1,h2⟩
  all_goals
   by_cases c1 : (p.subs.length : Int) ≤ 40
   rotate_left
   ·simp only [↓sbD,sbU,tyB,decide_false,Bool.or_self,↓reduceIte,Nat.reduceEqDiff,Nat.reduceLT,reduceCtorEq,isConst,f1,f4,h1,h2,l3,l4,c1]
    exact hno _ rfl
   by_cases c2 : (p.filts.length : Int) ≤ 40
   rotate_left
   ·simp only [↓sbD,sbU,tyB,decide_false,Bool.or_self,↓reduceIte,Nat.reduceEqDiff,Nat.reduceLT,reduceCtorEq,isConst,f1,f4,h1,h2,l3,l4,c1,c2]
    exact hno _ rfl
   by_cases c3 : (p.codes.length : Int) ≤ 40
   rotate_left
   ·simp only [↓sbD,sbU,tyB,decide_false,Bool.or_self,↓reduceIte,Nat.reduceEqDiff,Nat.reduceLT,reduceCtorEq,isConst,f1,f4,h1,h2,l3,l4,l5,c1,c2,c3]
    exact hno _ rfl
   simp only [↓sbD,sbU,tyB,decide_false,Bool.or_self,↓reduceIte,Nat.reduceEqDiff,Nat.reduceLT,reduceCtorEq,isConst,f1,f4,h1,h2,l3,l4,l5,c1,c2,c3]
   refine specFewP d1 fun few hfew => ?_
   cases few with
   | false =>
    simp only [↓sbD,sbU,↓reduceIte,Nat.reduceEqDiff,Nat.reduceLT]
    exact hno _ rfl
   | true =>
    simp only [↓sbD,sbU,tyB,↓reduceIte,Nat.reduceEqDiff,Nat.reduceLT,reduceCtorEq,f1]
    refine specFewP d2 fun few2 hfew2 => ?_
    cases few2 with
    | false =>
     simp only [↓sbD,sbU,↓reduceIte,Nat.reduceEqDiff,Nat.reduceLT]
     exact hno _ rfl
    | true =>
     by_cases e0 : (p.client.size : Int) ≤ 200
     rotate_left
     ·simp only [↓sbD,sbU,tyB,decide_false,↓reduceIte,Nat.reduceEqDiff,Nat.reduceLT,reduceCtorEq,goInt,isConst,f1,e0]
      exact hno _ rfl
     by_cases e1 : (p.will.topic.size : Int) ≤ 200
     rotate_left
     ·simp only [↓sbD,sbU,tyB,decide_false,↓reduceIte,Nat.reduceEqDiff,Nat.reduceLT,reduceCtorEq,goInt,isConst,f1,e0,e1]
      exact hno _ rfl
     by_cases e2 : (p.will.pay.size : Int) ≤ 200
     rotate_left
     ·simp only [↓sbD,sbU,tyB,decide_false,↓reduceIte,Nat.reduceEqDiff,Nat.reduceLT,reduceCtorEq,goInt,isConst,f1,e0,e1,e2]
      exact hno _ rfl
     by_cases e3 : (p.user.size : Int) ≤ 200
     rotate_left
     ·simp only [↓sbD,sbU,tyB,decide_false,↓reduceIte,Nat.reduceEqDiff,Nat.reduceLT,reduceCtorEq,goInt,isConst,f1,e0,e1,e2,e3]
      exact hno _ rfl
     by_cases e4 : (p.pass.size : Int) ≤ 200
     rotate_left
     ·simp only [↓sbD,sbU,tyB,decide_false,↓reduceIte,Nat.reduceEqDiff,Nat.reduceLT,reduceCtorEq,goInt,isConst,f1,e0,e1,e2,e3,e4]
      exact hno _ rfl
     by_cases e5 : (p.topic.size : Int) ≤ 200
     rotate_left
     ·simp only [↓sbD,sbU,tyB,decide_false,↓reduceIte,Nat.reduceEqDiff,Nat.reduceLT,reduceCtorEq,goInt,isConst,f1,e0,e1,e2,e3,e4,e5]
      exact hno _ rfl
     by_cases e6 : (p.pay.size : Int) ≤ 200
     rotate_left
     ·simp only [↓sbD,sbU,tyB,decide_false,↓reduceIte,Nat.reduceEqDiff,Nat.reduceLT,reduceCtorEq,goInt,isConst,f1,e0,e1,e2,e3,e4,e5,e6]
      exact hno _ rfl
     simp only [↓sbD,sbU,tyB,↓reduceIte,Nat.reduceEqDiff,Nat.reduceLT,reduceCtorEq,goInt,isConst,f1,e0,e1,e2,e3,e4,e5,e6]
     exact downS_here (hq true fun _ => ⟨by omega,hsub (by omega),by omega,hfilt (by omega),by omega,hfew rfl,hfew2 rfl,by omega,by omega,by omega,by omega,by omega,by omega,by omega⟩)
end
end Go.Proofs.YtjkhhdknplelcaaGreatDoor.AbsA
