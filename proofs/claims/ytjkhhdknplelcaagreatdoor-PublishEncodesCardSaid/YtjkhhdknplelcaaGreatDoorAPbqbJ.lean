/-
  Parts of a law's proof.
-/
import Derived.Test.YtjkhhdknplelcaaGreatDoorAApqbJ
import Derived.Test.YtjkhhdknplelcaaGreatDoorABxqbJ
namespace Go.Proofs.YtjkhhdknplelcaaGreatDoor.AbsA
open Go AbsYtjkhhdknplelcaaGreatDoor Abs
set_option maxRecDepth 100000
set_option maxHeartbeats 4000000
set_option linter.unusedSimpArgs false
set_option linter.unusedVariables false
def okP : RSt → Bool
 | .ok _ => true
 | .error _ => false
def plc : RSt → Nat
 | .ok p => p
 | .error _ => 0
def idS (q : Int) (s : ByteArray) (st : RSt) : Nat × RSt := if 0 < q then u16S s st else (0,st)
def pbP (f : Int) (t : ByteArray) (id : Nat) (l : List Pr) (pay : ByteArray) : Pk := { pkz with kind := 3,topic := t,id := id,qos := f / 2 % 4,dup := decide (f / 8 % 2 = 1),ret := decide (f % 2 = 1),props := l,pay := pay }
def restM (s : ByteArray) (g : List Pr → ByteArray → Pk) : Except E3 (List Pr × Nat) → Except E3 Pk
 | .error e => .error e
 | .ok (l,q) => .ok (g l (s.extract q s.size))
def pbBad (f : Int) : Prop := f < 48 ∨ 63 < f ∨ f / 2 % 4 = 3 ∨ (f / 8 % 2 = 1 ∧ f / 2 % 4 = 0)
instance (f : Int) : Decidable (pbBad f) := by unfold pbBad; infer_instance
def DecB (f : Int) (s : ByteArray) (a : ByteArray × RSt) (b : Nat × RSt) (r : Except E3 Pk) : Prop :=
 if 0 < f / 2 % 4 ∧ okP b.2 = true ∧ b.1 = 0 then r = .error (3,130,plc a.2)
 else ∃ x,ReadPS 3 s b.2 x ∧ r = restM s (pbP f a.1 b.1) x
def DecP (f : Int) (s : ByteArray) (r : Except E3 Pk) : Prop :=
 if pbBad f then r = .error (2,129,0) else DecB f s (textS s (.ok 0)) (idS (f / 2 % 4) s (textS s (.ok 0)).2) r
theorem DecP.det {f : Int} {s : ByteArray} {r r' : Except E3 Pk} (h : DecP f s r) (h' : DecP f s r') : r = r' := by
 unfold DecP DecB at h h'
 split at h
 ·rename_i h1
  rw [if_pos h1] at h'
  exact h.trans h'.symm
 ·rename_i h1
  rw [if_neg h1] at h'
  split at h
  ·rename_i h2
   rw [if_pos h2] at h'
   exact h.trans h'.symm
  ·rename_i h2
   rw [if_neg h2] at h'
   obtain ⟨x,h3,rfl⟩ := h
   obtain ⟨y,h4,rfl⟩ := h'
   rw [h3.det h4]
def firstP (p : Pk) : Int := 48 + 2 * p.qos + (if p.dup then 8 else 0) + (if p.ret then 1 else 0)
def actsPb (p : Pk) (s : ByteArray) : List Act := if 0 < p.qos then [⟨6,0,p.topic⟩,⟨2,p.id,emp⟩,⟨8,0,s⟩,⟨8,0,p.pay⟩] else [⟨6,0,p.topic⟩,⟨8,0,s⟩,⟨8,0,p.pay⟩]
def preP (p : Pk) : Option E3 := if p.qos < 0 ∨ 3 < p.qos then some (2,129,0) else none
abbrev EncP' (p : Pk) (r : Except E3 (Int × ByteArray)) : Prop := EncG (preP p) (encP 3 p.props) (firstP p) (DecP (firstP p)) (actsPb p) r
theorem EncP'.det {p : Pk} {r r' : Except E3 (Int × ByteArray)} (h : EncP' p r) (h' : EncP' p r') : r = r' := EncG.det (D := DecP (firstP p)) (fun _ _ _ h1 h2 => h1.det h2) h h'
set_option maxHeartbeats 8000000
attribute [local irreducible] afterS afterOpS opSK OpsS TrS CodeS condS condW thenS thenQ guardS guardTS outS drawS trSK consS
section
variable {σ : AHeap} {Q : Value → AHeap → Prop} {s : ByteArray}
theorem bits64 : ∀ n,n < 64 → (n / 2 &&& 3 = n / 2 % 4) ∧ ((n &&& 8 = 8 ∧ n / 8 % 2 = 1) ∨ (n &&& 8 = 0 ∧ n / 8 % 2 = 0)) ∧ ((n &&& 1 = 1 ∧ n % 2 = 1) ∨ (n &&& 1 = 0 ∧ n % 2 = 0)) := by decide
theorem quoK {σ : AHeap} {f k : Int} {t : Nat} {cs : Bool} (hk : ¬ k = 0) : abin E σ .quo t cs (.int .i64 f) (.int .i64 k) = some (.int .i64 (IntKind.i64.wrap (f.tdiv k))) := by
 show (if k = 0 then none else some (Value.int .i64 (IntKind.i64.wrap (f.tdiv k)))) = _
 rw [if_neg hk]
theorem specPbDec {f : Int} (hs : s.size ≤ 100000000)
  (hok : ∀ p,DecP f s (.ok p) → ∀ v σ',PkV p v → Kept σ [] σ' [] → Q (.tuple #[v,.nilIface]) σ')
  (hbad : ∀ k rr a : Nat,DecP f s (.error (k,rr,a)) → ∀ σ' d z,Kept σ [] σ' [] → d ≤ 3 → ErN d (fv rr a z) k → Q (.tuple #[.agg ⟨zeL⟩,fv rr a z]) σ') :
  CallS E B 16 [.agg ⟨[.int .i64 f,.string s]⟩] σ Q := by
 unfold DecP at hok hbad
 refine call16 (by simp) ?_
 simp only [strip,bodyOf,Tryz.f16,getD_body,keepN,bareOp_mk,lapp_cons,lapp_nil,List.map_cons,List.map_nil,↓reduceIte,Bool.false_eq_true]
 by_cases hr : 48 ≤ f ∧ f ≤ 63
 rotate_left
 ·have hbd : pbBad f := by unfold pbBad; omega
  simp only [if_pos hbd] at hbad
  have hq0 : ∀ (τ : AHeap) (t : Nat) (cs : Bool),abin E τ .quo t cs (.int .i64 f) (.int .i64 2) = some (.int .i64 (IntKind.i64.wrap (f.tdiv 2))) := fun τ t cs => quoK (by decide)
  obtain ⟨y3,hy3⟩ : ∃ y,aint .and .i64 (IntKind.i64.wrap (f.tdiv 2)) 3 = some (.int .i64 y) := ⟨_,rfl⟩
  obtain ⟨y8,hy8⟩ : ∃ y,aint .and .i64 f 8 = some (.int .i64 y) := ⟨_,rfl⟩
  obtain ⟨y1,hy1⟩ : ∃ y,aint .and .i64 f 1 = some (.int .i64 y) := ⟨_,rfl⟩
  have OUT : ∀ {P : Prop},(f < 48 → P) → (¬ f < 48 → 64 ≤ f → P) → P := fun a b => by
   by_cases h : f < 48
   ·exact a h
   ·exact b h (by omega)
  refine OUT (fun h1 => ?_) fun h1 h2 => ?_
  focus simp only [↓sbD,sbU,tyB,↓reduceIte,Nat.reduceEqDiff,Nat.reduceLT,Nat.reduceAdd,Nat.reduceLeDiff,reduceCtorEq,pairs,isConst,splice,boxS,Edp,dpv,ZV.val,AS_new,zePk,hq0,hy3,hy8,hy1,h1,gk2]
  rotate_left
  focus simp only [↓sbD,sbU,tyB,decide_false,↓reduceIte,Nat.reduceEqDiff,Nat.reduceLT,Nat.reduceAdd,Nat.reduceLeDiff,reduceCtorEq,pairs,isConst,splice,boxS,Edp,dpv,ZV.val,AS_new,zePk,hq0,hy3,hy8,hy1,h1,h2,gk2]
  all_goals
   intro b hb d hd
   have hdb : d ≠ b := by rintro rfl; rw [AHeap.get_set_same] at hd; cases hd
   replace hd : σ.get d = .dead := by rw [AHeap.get_set_ne _ _ hdb.symm] at hd; exact hd
   have db : ∀ (τ : AHeap) o,(AHeap.set τ d o).get b = τ.get b := fun τ o => AHeap.get_set_ne _ _ hdb
   have bd : ∀ (τ : AHeap) o,(AHeap.set τ b o).get d = τ.get d := fun τ o => AHeap.get_set_ne _ _ hdb.symm
   try simp only [↓sbD,sbU,tyB,Nat.reduceMul,Nat.reduceSub,Int.reduceEq,Int.reduceLT,Int.reduceLE,Int.reduceNe,Nat.reduceBneDiff,Nat.reduceBEq,decide_false,gt_iff_lt,Bool.or_self,Bool.false_eq_true,Nat.mul_one,Nat.one_mul,Nat.zero_mul,↓reduceIte,Nat.reduceEqDiff,Nat.reduceLT,Nat.reduceAdd,Nat.reduceLeDiff,reduceCtorEq,goInt,pairs,isConst,TI.isAgg,splice,boxS,Edp,dpv,Nat.beq_eq,ZV.val,List.any_cons,List.any_nil,Bool.false_and,AHeap.get_set_same,db,bd]
   refine specNew (n := 2) ⟨by omega,by omega⟩ ?_
   simp only [↓sbD,sbU,tyB,↓reduceIte,Nat.reduceEqDiff,Nat.reduceLT,Nat.reduceAdd,Nat.reduceLeDiff,splice,db,res_cellc,resC_some]
   exact downS_here (hbad 2 129 0 rfl _ 1 _ (((((Kept.refl σ []).setD hb).setD hd).setD hd).setD hb) (by omega) (ErN.new _ _ ⟨by omega,by omega⟩))
 have hf0 : f = (f.toNat : Int) := by omega
 have hn64 : f.toNat < 64 := by omega
 have hq0 : ∀ (τ : AHeap) (t : Nat) (cs : Bool),abin E τ .quo t cs (.int .i64 f) (.int .i64 2) = some (.int .i64 (f / 2)) := fun τ t cs => by
  rw [quoK (by decide),Int.tdiv_eq_ediv_of_nonneg (by omega),wrap64 ⟨by omega,by omega⟩]
 obtain ⟨b3,b8,b1⟩ := bits64 f.toNat hn64
 have ha3 : aint .and .i64 (f / 2) 3 = some (.int .i64 (f / 2 % 4)) := by
  have := and_nat (n := f.toNat / 2) (m := 3) (by omega) (by omega)
  rw [b3] at this
  have e1 : ((f.toNat / 2 : Nat) : Int) = f / 2 := by omega
  have e2 : ((f.toNat / 2 % 4 : Nat) : Int) = f / 2 % 4 := by omega
  rw [e1,e2] at this
  exact this
 have C8 : (aint .and .i64 f 8 = some (.int .i64 8) ∧ decide (f / 8 % 2 = 1) = true) ∨ (aint .and .i64 f 8 = some (.int .i64 0) ∧ decide (f / 8 % 2 = 1) = false) := by
  have := and_nat (n := f.toNat) (m := 8) (by omega) (by omega)
  rw [← hf0] at this
  rcases b8 with ⟨b8,q⟩ | ⟨b8,q⟩
  ·exact .inl ⟨by rw [b8] at this; exact this,by simp only [decide_eq_true_eq]; omega⟩
  ·exact .inr ⟨by rw [b8] at this; exact this,by simp only [decide_eq_false_iff_not]; omega⟩
 have C1 : (aint .and .i64 f 1 = some (.int .i64 1) ∧ decide (f % 2 = 1) = true) ∨ (aint .and .i64 f 1 = some (.int .i64 0) ∧ decide (f % 2 = 1) = false) := by
  have := and_nat (n := f.toNat) (m := 1) (by omega) (by omega)
  rw [← hf0] at this
  rcases b1 with ⟨b1,q⟩ | ⟨b1,q⟩
  ·exact .inl ⟨by rw [b1] at this; exact this,by simp only [decide_eq_true_eq]; omega⟩
  ·exact .inr ⟨by rw [b1] at this; exact this,by simp only [decide_eq_false_iff_not]; omega⟩
 have h48 : ¬ f < 48 := by omega
 have h64 : ¬ 64 ≤ f := by omega
 clear b3 b8 b1
 rcases C1 with ⟨ha1,d1⟩ | ⟨ha1,d1⟩
 all_goals
  by_cases h3 : f / 2 % 4 = 3
  ·simp only [if_pos (show pbBad f from .inr (.inr (.inl h3)))] at hbad
   obtain ⟨y8,hy8⟩ : ∃ y,aint .and .i64 f 8 = some (.int .i64 y) := ⟨_,rfl⟩
   simp only [↓sbD,sbU,tyB,Int.reduceEq,decide_false,↓reduceIte,Nat.reduceEqDiff,Nat.reduceLT,Nat.reduceAdd,Nat.reduceLeDiff,reduceCtorEq,pairs,isConst,splice,boxS,Edp,dpv,ZV.val,AS_new,zePk,hq0,ha3,hy8,ha1,h48,h64,h3,gk2]
   intro b hb d hd
   have hdb : d ≠ b := by rintro rfl; rw [AHeap.get_set_same] at hd; cases hd
   replace hd : σ.get d = .dead := by rw [AHeap.get_set_ne _ _ hdb.symm] at hd; exact hd
   have db : ∀ (τ : AHeap) o,(AHeap.set τ d o).get b = τ.get b := fun τ o => AHeap.get_set_ne _ _ hdb
   have bd : ∀ (τ : AHeap) o,(AHeap.set τ b o).get d = τ.get d := fun τ o => AHeap.get_set_ne _ _ hdb.symm
   try simp only [↓sbD,sbU,tyB,Nat.reduceMul,Nat.reduceSub,Int.reduceEq,Int.reduceLT,Int.reduceLE,Int.reduceNe,Nat.reduceBneDiff,Nat.reduceBEq,decide_false,gt_iff_lt,Bool.or_self,Bool.false_eq_true,Nat.mul_one,Nat.one_mul,Nat.zero_mul,↓reduceIte,Nat.reduceEqDiff,Nat.reduceLT,Nat.reduceAdd,Nat.reduceLeDiff,reduceCtorEq,goInt,pairs,isConst,TI.isAgg,splice,boxS,Edp,dpv,Nat.beq_eq,ZV.val,List.any_cons,List.any_nil,Bool.false_and,AHeap.get_set_same,db,bd]
   refine specNew (n := 2) ⟨by omega,by omega⟩ ?_
   simp only [↓sbD,sbU,tyB,↓reduceIte,Nat.reduceEqDiff,Nat.reduceLT,Nat.reduceAdd,Nat.reduceLeDiff,splice,db,res_cellc,resC_some]
   exact downS_here (hbad 2 129 0 rfl _ 1 _ (((((Kept.refl σ []).setD hb).setD hd).setD hd).setD hb) (by omega) (ErN.new _ _ ⟨by omega,by omega⟩))
  rcases C8 with ⟨ha8,d8⟩ | ⟨ha8,d8⟩
  focus
   by_cases h0 : f / 2 % 4 = 0
   ·simp only [if_pos (show pbBad f from .inr (.inr (.inr ⟨by simpa using d8,h0⟩)))] at hbad
    simp only [↓sbD,sbU,tyB,Int.reduceEq,decide_false,↓reduceIte,Nat.reduceEqDiff,Nat.reduceLT,Nat.reduceAdd,Nat.reduceLeDiff,reduceCtorEq,pairs,isConst,splice,boxS,Edp,dpv,ZV.val,AS_new,zePk,hq0,ha3,ha8,ha1,h48,h64,h0,gk2]
    intro b hb d hd
    have hdb : d ≠ b := by rintro rfl; rw [AHeap.get_set_same] at hd; cases hd
    replace hd : σ.get d = .dead := by rw [AHeap.get_set_ne _ _ hdb.symm] at hd; exact hd
    have db : ∀ (τ : AHeap) o,(AHeap.set τ d o).get b = τ.get b := fun τ o => AHeap.get_set_ne _ _ hdb
    have bd : ∀ (τ : AHeap) o,(AHeap.set τ b o).get d = τ.get d := fun τ o => AHeap.get_set_ne _ _ hdb.symm
    try simp only [↓sbD,sbU,tyB,Nat.reduceMul,Nat.reduceSub,Int.reduceEq,Int.reduceLT,Int.reduceLE,Int.reduceNe,Nat.reduceBneDiff,Nat.reduceBEq,decide_false,gt_iff_lt,Bool.or_self,Bool.false_eq_true,Nat.mul_one,Nat.one_mul,Nat.zero_mul,↓reduceIte,Nat.reduceEqDiff,Nat.reduceLT,Nat.reduceAdd,Nat.reduceLeDiff,reduceCtorEq,goInt,pairs,isConst,TI.isAgg,splice,boxS,Edp,dpv,Nat.beq_eq,ZV.val,List.any_cons,List.any_nil,Bool.false_and,AHeap.get_set_same,db,bd]
    refine specNew (n := 2) ⟨by omega,by omega⟩ ?_
    simp only [↓sbD,sbU,tyB,↓reduceIte,Nat.reduceEqDiff,Nat.reduceLT,Nat.reduceAdd,Nat.reduceLeDiff,splice,db,res_cellc,resC_some]
    exact downS_here (hbad 2 129 0 rfl _ 1 _ (((((Kept.refl σ []).setD hb).setD hd).setD hd).setD hb) (by omega) (ErN.new _ _ ⟨by omega,by omega⟩))
   have hgood : ¬ pbBad f := fun h => h.elim h48 fun h => h.elim (fun h => by omega) fun h => h.elim h3 fun h => h0 h.2
   simp only [if_neg hgood] at hok hbad
   simp only [↓sbD,sbU,tyB,Int.reduceEq,decide_false,↓reduceIte,Nat.reduceEqDiff,Nat.reduceLT,Nat.reduceAdd,Nat.reduceLeDiff,reduceCtorEq,pairs,isConst,splice,boxS,Edp,dpv,ZV.val,AS_new,zePk,hq0,ha3,ha8,ha1,h48,h64,h3,h0]
  rotate_left
  focus
   have hgood : ¬ pbBad f := fun h => h.elim h48 fun h => h.elim (fun h => by omega) fun h => h.elim h3 fun h => by simp only [decide_eq_false_iff_not] at d8; exact d8 h.1
   simp only [if_neg hgood] at hok hbad
   simp only [↓sbD,sbU,tyB,Int.reduceEq,decide_false,↓reduceIte,Nat.reduceEqDiff,Nat.reduceLT,Nat.reduceAdd,Nat.reduceLeDiff,reduceCtorEq,pairs,isConst,splice,boxS,Edp,dpv,ZV.val,AS_new,zePk,hq0,ha3,ha8,ha1,h48,h64,h3]
  all_goals
   intro b hb d hd
   have hdb : d ≠ b := by rintro rfl; rw [AHeap.get_set_same] at hd; cases hd
   replace hd : σ.get d = .dead := by rw [AHeap.get_set_ne _ _ hdb.symm] at hd; exact hd
   have db : ∀ (τ : AHeap) o,(AHeap.set τ d o).get b = τ.get b := fun τ o => AHeap.get_set_ne _ _ hdb
   have bd : ∀ (τ : AHeap) o,(AHeap.set τ b o).get d = τ.get d := fun τ o => AHeap.get_set_ne _ _ hdb.symm
   try simp only [↓sbD,sbU,tyB,Nat.reduceMul,Nat.reduceSub,Int.reduceEq,Int.reduceLT,Int.reduceLE,Int.reduceNe,Nat.reduceBneDiff,Nat.reduceBEq,decide_false,gt_iff_lt,Bool.or_self,Bool.false_eq_true,Nat.mul_one,Nat.one_mul,Nat.zero_mul,↓reduceIte,Nat.reduceEqDiff,Nat.reduceLT,Nat.reduceAdd,Nat.reduceLeDiff,reduceCtorEq,goInt,pairs,isConst,TI.isAgg,splice,boxS,Edp,dpv,Nat.beq_eq,ZV.val,List.any_cons,List.any_nil,Bool.false_and,AHeap.get_set_same,db,bd]
   generalize hσ1 : AHeap.set _ d _ = σ1
   have K1 : Kept σ [] σ1 [] := by rw [← hσ1]; exact (((Kept.refl σ []).setD hb).setD hd).setD hd
   have gb1 : σ1.get b = .cells [.int .i64 0,.int .i64 0,.int .i64 0,.slice none 0 0,.bool false,.int .i64 0,.string emp,.bool false,.string emp,.string emp,.int .i64 0,.bool false,.slice none 0 0,.bool false,.string emp,.bool false,.string emp,.bool false,.string emp,.string emp,.int .i64 0,.bool false,.bool false,.slice none 0 0,.slice none 0 0,.slice none 0 0] true 0 := by rw [← hσ1,db,db]; exact AHeap.get_set_same _ _ _
   have gd1 : σ1.get d = .cells [.int .i64 3,.int .i64 0,.int .i64 0,.slice none 0 0,.bool false,.int .i64 0,.string emp,.bool false,.string emp,.string emp,.int .i64 0,.bool false,.slice none 0 0,.bool false,.string emp,.bool false,.string emp,.bool false,.string emp,.string emp,.int .i64 (f / 2 % 4),.bool (decide (f % 2 = 1)),.bool (decide (f / 8 % 2 = 1)),.slice none 0 0,.slice none 0 0,.slice none 0 0] true 0 := by rw [← hσ1,d8,d1]; exact AHeap.get_set_same _ _ _
   clear hσ1
   try simp only [↓sbD,sbU,tyB,Nat.reduceMul,Nat.reduceSub,Int.reduceEq,Int.reduceLT,Int.reduceLE,Int.reduceNe,Nat.reduceBneDiff,Nat.reduceBEq,decide_false,gt_iff_lt,Bool.or_self,Bool.false_eq_true,Nat.mul_one,Nat.one_mul,Nat.zero_mul,↓reduceIte,Nat.reduceEqDiff,Nat.reduceLT,Nat.reduceAdd,Nat.reduceLeDiff,reduceCtorEq,goInt,pairs,isConst,TI.isAgg,splice,boxS,Edp,dpv,Nat.beq_eq,ZV.val,List.any_cons,List.any_nil,Bool.false_and]
   refine specRNew fun x σ2 hx k2 i2 => ?_
   have r2 : IsRS σ2 x s (.ok 0) := ⟨Nat.zero_le _,i2⟩
   have hbx : b ≠ x := by rintro rfl; rw [gb1] at hx; cases hx
   have hdx : d ≠ x := by rintro rfl; rw [gd1] at hx; cases hx
   have K2 := K1.trans k2
   have gb2 := (k2.at gb1 (by simp) (by simp)).1
   have gd2 := (k2.at gd1 (by simp) (by simp)).1
   simp only [↓sbD,sbU,↓reduceIte,Nat.reduceLT]
   refine specSText r2 hs fun σ3 k3 r3 => ?_
   obtain ⟨t,st1,hT⟩ : ∃ t st1,textS s (.ok 0) = (t,st1) := ⟨_,_,rfl⟩
   simp only [hT] at hok hbad r3 ⊢
   have K3 := K2.trans k3
   have gb3 := (k3.at gb2 (by simp) (by simp [hbx])).1
   have gd3 := (k3.at gd2 (by simp) (by simp [hdx])).1
   simp only [↓sbD,sbU,tyB,↓reduceIte,Nat.reduceEqDiff,Nat.reduceLT,Nat.reduceAdd,Nat.reduceLeDiff,reduceCtorEq,splice,gd3]
   generalize hσ4 : AHeap.set σ3 d _ = σ4
   have K4 : Kept σ [] σ4 [x] := by rw [← hσ4]; exact K3.setD hd
   have k4 : Kept σ3 [d] σ4 [d] := by rw [← hσ4]; exact Kept.set (by simp)
   have r4 := r3.kept k4 (by simp [hdx.symm])
   have gd4 : σ4.get d = .cells [.int .i64 3,.int .i64 0,.int .i64 0,.slice none 0 0,.bool false,.int .i64 0,.string emp,.bool false,.string emp,.string emp,.int .i64 0,.bool false,.slice none 0 0,.bool false,.string emp,.bool false,.string emp,.bool false,.string t,.string emp,.int .i64 (f / 2 % 4),.bool (decide (f % 2 = 1)),.bool (decide (f / 8 % 2 = 1)),.slice none 0 0,.slice none 0 0,.slice none 0 0] true 0 := by rw [← hσ4]; exact AHeap.get_set_same _ _ _
   have gb4 := (k4.at gb3 (by simp) (by simp [Ne.symm hdb])).1
   clear hσ4
   try simp only [↓sbD,sbU,tyB,Nat.reduceMul,Nat.reduceSub,Int.reduceEq,Int.reduceLT,Int.reduceLE,Int.reduceNe,Nat.reduceBneDiff,Nat.reduceBEq,decide_false,gt_iff_lt,Bool.or_self,Bool.false_eq_true,Nat.mul_one,Nat.one_mul,Nat.zero_mul,↓reduceIte,Nat.reduceEqDiff,Nat.reduceLT,Nat.reduceAdd,Nat.reduceLeDiff,reduceCtorEq,goInt,pairs,isConst,TI.isAgg,splice,boxS,Edp,dpv,Nat.beq_eq,ZV.val,List.any_cons,List.any_nil,Bool.false_and]
   refine specSAt r4 fun a ha => ?_
   by_cases hq : 0 < f / 2 % 4
   focus
    simp only [idS,if_pos hq] at hok hbad
    simp only [↓sbD,sbU,tyB,↓reduceIte,Nat.reduceEqDiff,Nat.reduceLT,reduceCtorEq,isConst,gd4,hq]
    refine specSU16 r4 hs fun σ5 k5 r5 => ?_
    obtain ⟨id,st2,hU⟩ : ∃ id st2,u16S s st1 = (id,st2) := ⟨_,_,rfl⟩
    simp only [hU] at hok hbad r5 ⊢
    have K5 := K4.trans k5
    have gb5 := (k5.at gb4 (by simp) (by simp [hbx])).1
    have gd5 := (k5.at gd4 (by simp) (by simp [hdx])).1
    simp only [↓sbD,sbU,tyB,↓reduceIte,Nat.reduceEqDiff,Nat.reduceLT,Nat.reduceAdd,Nat.reduceLeDiff,reduceCtorEq,splice,gd5]
    generalize hσ6 : AHeap.set σ5 d _ = σ6
    have K6 : Kept σ [] σ6 [x] := by rw [← hσ6]; exact K5.setD hd
    have k6 : Kept σ5 [d] σ6 [d] := by rw [← hσ6]; exact Kept.set (by simp)
    have r6 := r5.kept k6 (by simp [hdx.symm])
    have gd6 : σ6.get d = .cells [.int .i64 3,.int .i64 (id : Int),.int .i64 0,.slice none 0 0,.bool false,.int .i64 0,.string emp,.bool false,.string emp,.string emp,.int .i64 0,.bool false,.slice none 0 0,.bool false,.string emp,.bool false,.string emp,.bool false,.string t,.string emp,.int .i64 (f / 2 % 4),.bool (decide (f % 2 = 1)),.bool (decide (f / 8 % 2 = 1)),.slice none 0 0,.slice none 0 0,.slice none 0 0] true 0 := by rw [← hσ6]; exact AHeap.get_set_same _ _ _
    have gb6 := (k6.at gb5 (by simp) (by simp [Ne.symm hdb])).1
    clear hσ6
    try simp only [↓sbD,sbU,tyB,Nat.reduceMul,Nat.reduceSub,Int.reduceEq,Int.reduceLT,Int.reduceLE,Int.reduceNe,Nat.reduceBneDiff,Nat.reduceBEq,decide_false,gt_iff_lt,Bool.or_self,Bool.false_eq_true,Nat.mul_one,Nat.one_mul,Nat.zero_mul,↓reduceIte,Nat.reduceEqDiff,Nat.reduceLT,Nat.reduceAdd,Nat.reduceLeDiff,reduceCtorEq,goInt,pairs,isConst,TI.isAgg,splice,boxS,Edp,dpv,Nat.beq_eq,ZV.val,List.any_cons,List.any_nil,Bool.false_and]
    refine specSErr r6 (fun p hp => ?_) fun k q d' z hp hd' he => ?_
    focus
     subst hp
     have hp1 : ∃ p1,st1 = .ok p1 := (okS_u16 hU).2.2
     obtain ⟨p1,hp1⟩ := hp1
     have hap := ha p1 hp1
     by_cases h0 : id = 0
     ·have h0' : (id : Int) = 0 := by omega
      have hc : 0 < f / 2 % 4 ∧ okP (.ok p) = true ∧ id = 0 := ⟨hq,rfl,h0⟩
      subst hap hp1
      simp only [DecB,if_pos hc,plc] at hbad
      simp only [↓sbD,sbU,tyB,↓reduceIte,Nat.reduceEqDiff,Nat.reduceLT,reduceCtorEq,pairs,isConst,ZV.val,gd6,h0',gk3]
      refine specNew (n := 3) ⟨by omega,by omega⟩ ?_
      simp only [↓sbD,sbU,tyB,↓reduceIte,Nat.reduceEqDiff,Nat.reduceLT,Nat.reduceAdd,Nat.reduceLeDiff,splice,gb6,res_cellc,resC_some]
      exact downS_here (hbad 3 130 _ rfl _ 1 _ ((K6.wid (gp := []) (gp' := []) (fun _ h => by cases h) (fun _ h => by cases h)).setD hb) (by omega) (ErN.new _ _ ⟨by omega,by omega⟩))
     have h0' : ¬ (id : Int) = 0 := by omega
     have hne : ¬ (0 < f / 2 % 4 ∧ okP (.ok p) = true ∧ id = 0) := fun h => h0 h.2.2
     simp only [DecB,if_neg hne] at hok hbad
     clear hU
     simp only [↓sbD,sbU,tyB,decide_false,↓reduceIte,Nat.reduceEqDiff,Nat.reduceLT,reduceCtorEq,isConst,gd6,h0']
     generalize (Except.ok p : RSt) = st2 at hok hbad r6
    rotate_left
    focus
     subst hp
     have hne : ¬ (0 < f / 2 % 4 ∧ okP (.error (k,q)) = true ∧ id = 0) := fun h => by cases h.2.1
     simp only [DecB,if_neg hne] at hok hbad
     clear hU he
     simp only [↓sbD,sbU,tyB,↓reduceIte,Nat.reduceEqDiff,Nat.reduceLT,isConst]
     generalize (Except.error (k,q) : RSt) = st2 at hok hbad r6
   rotate_left
   rotate_left
   focus
    simp only [idS,if_neg hq] at hok hbad
    simp only [DecB,hq,false_and,if_false] at hok hbad
    simp only [↓sbD,sbU,tyB,decide_false,↓reduceIte,Nat.reduceEqDiff,Nat.reduceLT,reduceCtorEq,isConst,gd4,hq]
    have K6 := K4
    have gb6 := gb4
    have gd6 : σ4.get d = .cells [.int .i64 3,.int .i64 ((0 : Nat) : Int),.int .i64 0,.slice none 0 0,.bool false,.int .i64 0,.string emp,.bool false,.string emp,.string emp,.int .i64 0,.bool false,.slice none 0 0,.bool false,.string emp,.bool false,.string emp,.bool false,.string t,.string emp,.int .i64 (f / 2 % 4),.bool (decide (f % 2 = 1)),.bool (decide (f / 8 % 2 = 1)),.slice none 0 0,.slice none 0 0,.slice none 0 0] true 0 := gd4
    have r6 := r4
    clear K4 gb4 gd4 r4
   all_goals
    refine specSRead r6 hs (fun l q2 hrd v σ7 hv k7 r7 => ?_) fun k rr a hrd σ7 d' z k7 hd' he => ?_
    rotate_left
    ·have gb7 := (k7.at gb6 (by simp) (by simp [hbx])).1
     simp only [↓sbD,sbU,tyB,↓reduceIte,Nat.reduceEqDiff,Nat.reduceLT,Nat.reduceAdd,Nat.reduceLeDiff,pairs,isConst,splice,ZV.val,gb7,res_cellc,resC_some]
     exact downS_here (hbad k rr a ⟨_,hrd,rfl⟩ _ d' z (((K6.trans k7).wid (gp := []) (gp' := []) (fun _ h => by cases h) (fun _ h => by cases h)).setD hb) hd' he)
    focus
     have gb7 := (k7.at gb6 (by simp) (by simp [hbx])).1
     have gd7 := (k7.at gd6 (by simp) (by simp [hdx])).1
     have hvc := dl_vc hv
     simp only [↓sbD,sbU,tyB,↓reduceIte,Nat.reduceEqDiff,Nat.reduceLT,isConst]
     refine specRRest r7.2 r7.1 hs fun σ8 k8 r8 => ?_
     have gb8 := (k8.at gb7 (by simp) (by simp [hbx])).1
     have gd8 := (k8.at gd7 (by simp) (by simp [hdx])).1
     have T8 := ((K6.trans k7).trans k8).wid (gp := []) (gp' := []) (fun _ h => by cases h) (fun _ h => by cases h)
     simp only [↓sbD,sbU,tyB,↓reduceIte,Nat.reduceEqDiff,Nat.reduceLT,Nat.reduceAdd,Nat.reduceLeDiff,reduceCtorEq,splice,gd8,gb8,db,hvc.1,hvc.2,res_cellc,resC_some]
     exact downS_here (hok _ ⟨_,hrd,rfl⟩ _ _ ⟨_,_,_,_,_,hv,.inl ⟨rfl,rfl⟩,.inl ⟨rfl,rfl⟩,.inl ⟨rfl,rfl⟩,.inl ⟨rfl,rfl⟩,rfl⟩ (((T8.setD hd).setD hd).setD hb))
theorem first_or {p : Pk} (hq : ¬ (p.qos < 0 ∨ 3 < p.qos)) : ∃ F0 F1 : Int,IntKind.i64.wrap (p.qos * 2) = p.qos * 2 ∧ aint .or .i64 48 (p.qos * 2) = some (.int .i64 F0) ∧ (p.dup = true → aint .or .i64 F0 8 = some (.int .i64 F1)) ∧ (p.dup = false → F1 = F0) ∧ (p.ret = true → aint .or .i64 F1 1 = some (.int .i64 (firstP p))) ∧ (p.ret = false → firstP p = F1) := by
 refine ⟨48 + p.qos * 2,48 + p.qos * 2 + (if p.dup then 8 else 0),by rw [wrap64 ⟨by omega,by omega⟩],?_,?_,?_,?_,?_⟩
 ·obtain h | h | h | h : p.qos = 0 ∨ p.qos = 1 ∨ p.qos = 2 ∨ p.qos = 3 := by omega
  all_goals (rw [h]; kernel_rfl)
 ·intro hd
  rw [hd]
  obtain h | h | h | h : p.qos = 0 ∨ p.qos = 1 ∨ p.qos = 2 ∨ p.qos = 3 := by omega
  all_goals (rw [h]; kernel_rfl)
 ·intro hd; rw [hd]; simp
 ·intro hr
  unfold firstP
  rw [hr]
  obtain h | h | h | h : p.qos = 0 ∨ p.qos = 1 ∨ p.qos = 2 ∨ p.qos = 3 := by omega
  all_goals (rw [h]; cases p.dup <;> kernel_rfl)
 ·intro hr
  unfold firstP
  rw [hr]
  cases p.dup <;> simp <;> omega
theorem specPbEnc {p : Pk} {v : Value} (hp : PkV p v) (hm : bigPk p)
  (hok : ∀ fb,EncP' p (.ok fb) → ∀ σ',Kept σ [] σ' [] → Q (.tuple #[.agg ⟨[.int .i64 fb.1,.string fb.2]⟩,.nilIface]) σ')
  (hbad : ∀ k rr a : Nat,EncP' p (.error (k,rr,a)) → ∀ σ' d z,Kept σ [] σ' [] → d ≤ 3 → ErN d (fv rr a z) k → Q (.tuple #[.agg ⟨[.int .i64 0,.string emp]⟩,fv rr a z]) σ') :
  CallS E B 13 [v] σ Q := by
 obtain ⟨vp,vw,vs,vf,vc,d1,d2,d3,d4,d5,rfl⟩ := hp
 obtain ⟨up,uw,us,uf,uc,d1,d2,d3,d4,d5,-,hbx⟩ := boxPk d1 d2 d3 d4 d5
 simp only [pkC] at hbx ⊢
 have eml : (emp).size = 0 := rfl
 unfold EncP' EncG at hok hbad
 have h1 := hm.topic
 have h2 := hm.pay
 by_cases hq : p.qos < 0 ∨ 3 < p.qos
 ·have hpre : preP p = some (2,129,0) := if_pos hq
  simp only [hpre] at hbad
  refine call13 (by simp) ?_
  simp only [strip,bodyOf,Tryz.f13,getD_body,keepN,bareOp_mk,lapp_cons,lapp_nil,List.map_cons,List.map_nil,↓reduceIte,Bool.false_eq_true]
  have OUT : ∀ {P : Prop},(p.qos < 0 → P) → (¬ p.qos < 0 → 3 < p.qos → P) → P := fun a b => by
   by_cases h : p.qos < 0
   ·exact a h
   ·exact b h (by omega)
  refine OUT (fun h3 => ?_) fun h3 h4 => ?_
  focus simp only [↓sbD,sbU,tyB,↓reduceIte,Nat.reduceEqDiff,Nat.reduceLT,reduceCtorEq,pairs,isConst,ZV.val,hbx,AS_new,zeFra,h3,gk2]
  rotate_left
  focus simp only [↓sbD,sbU,tyB,decide_false,↓reduceIte,Nat.reduceEqDiff,Nat.reduceLT,reduceCtorEq,pairs,isConst,ZV.val,hbx,AS_new,zeFra,h3,h4,gk2]
  all_goals
   intro b hb
   refine specNew (n := 2) ⟨by omega,by omega⟩ ?_
   simp only [↓sbD,sbU,tyB,↓reduceIte,Nat.reduceEqDiff,Nat.reduceLT,Nat.reduceAdd,Nat.reduceLeDiff,splice,res_cellc,resC_some]
   exact downS_here (hbad 2 129 0 rfl _ 1 _ (((Kept.refl σ []).setD hb).setD hb) (by omega) (ErN.new _ _ ⟨by omega,by omega⟩))
 have hpre : preP p = none := if_neg hq
 simp only [hpre] at hok hbad
 have h3 : ¬ p.qos < 0 := by omega
 have h4 : ¬ 3 < p.qos := by omega
 obtain ⟨F0,F1,hw,o1,o2,e2,o3,e3⟩ := first_or hq
 have hdc : p.dup = false ∨ p.dup = true := by cases p.dup <;> simp
 have hrc : p.ret = false ∨ p.ret = true := by cases p.ret <;> simp
 rcases hdc with hd | hd <;> rcases hrc with hr | hr <;> simp only [hd,hr] at hbx ⊢
 all_goals
  refine call13 (by simp) ?_
  simp only [strip,bodyOf,Tryz.f13,getD_body,keepN,bareOp_mk,lapp_cons,lapp_nil,List.map_cons,List.map_nil,↓reduceIte,Bool.false_eq_true]
 focus
  have e4 := e3 hr
  have e5 := e2 hd
  rw [← e5,← e4] at o1
  simp only [↓sbD,sbU,tyB,decide_false,↓reduceIte,Nat.reduceEqDiff,Nat.reduceLT,reduceCtorEq,isConst,hbx,AS_new,zeFra,h3,h4,hw,o1]
 rotate_left
 focus
  have e5 := e2 hd
  rw [← e5] at o1
  have o4 := o3 hr
  simp only [↓sbD,sbU,tyB,decide_false,↓reduceIte,Nat.reduceEqDiff,Nat.reduceLT,reduceCtorEq,isConst,hbx,AS_new,zeFra,h3,h4,hw,o1,o4]
 rotate_left
 focus
  have e4 := e3 hr
  have o4 := o2 hd
  rw [← e4] at o4
  simp only [↓sbD,sbU,tyB,decide_false,↓reduceIte,Nat.reduceEqDiff,Nat.reduceLT,reduceCtorEq,isConst,hbx,AS_new,zeFra,h3,h4,hw,o1,o4]
 rotate_left
 focus
  have o4 := o2 hd
  have o5 := o3 hr
  simp only [↓sbD,sbU,tyB,decide_false,↓reduceIte,Nat.reduceEqDiff,Nat.reduceLT,reduceCtorEq,isConst,hbx,AS_new,zeFra,h3,h4,hw,o1,o4,o5]
 all_goals
  intro b hb
  generalize hσ1 : AHeap.set σ b _ = σ1
  have k1 : Kept σ [] σ1 [] := by rw [← hσ1]; exact (Kept.refl σ []).setD hb
  have gb1 : σ1.get b = .cells [.int .i64 0,.string emp] true 0 := by rw [← hσ1]; exact AHeap.get_set_same _ _ _
  clear hσ1
  refine specPEncode d1 hm.props (fun c hce hcz => ?_) fun k r a d z hce hd he => ?_
  rotate_left
  ·simp only [hce] at hbad
   simp only [↓sbD,sbU,tyB,↓reduceIte,Nat.reduceEqDiff,Nat.reduceLT,Nat.reduceAdd,Nat.reduceLeDiff,pairs,isConst,splice,ZV.val,gb1,res_cellc,resC_some]
   exact downS_here (hbad k r a rfl _ d z (k1.setD hb) (by omega) he)
  simp only [hce] at hok hbad
  simp only [↓sbD,sbU,tyB,Bool.false_eq_true,↓reduceIte,Nat.reduceEqDiff,Nat.reduceLT,reduceCtorEq,pairs,isConst,boxS,Edp,ZV.val,Bool.false_and,AS_new,dpW]
  intro w hw
  have hwb : w ≠ b := nd hw gb1 (by simp)
  generalize hσ2 : AHeap.set σ1 w _ = σ2
  have gw : σ2.get w = .cells [.slice none 0 0,.nilIface] true 0 := by rw [← hσ2]; exact AHeap.get_set_same _ _ _
  have k2 : Kept σ1 [] σ2 [w] := by rw [← hσ2]; exact Kept.new' hw
  have w2 : WRun σ2 w (runW emp []) [w] := ⟨_,[],gw,.inl ⟨rfl,rfl,rfl⟩,rfl,by simp⟩
  have z2 : leW (runW emp []) 0 := fun b hb => by injection hb with hb; subst hb; exact Nat.le_refl _
  clear gw hσ2
  refine specTextR (n := 0) w2 (fun b hb => by have := z2 b hb; omega) (by omega) fun σ3 fp3 k3 w3 => ?_
  have z3 := leW_step (a := ⟨6,0,p.topic⟩) z2
  simp only at z3
  by_cases hq0 : 0 < p.qos
  focus
   simp only [↓sbD,sbU,tyB,↓reduceIte,Nat.reduceEqDiff,Nat.reduceLT,reduceCtorEq,isConst,hq0]
   refine specU16R (s := emp) w3 (fun b hb => by have := z3 b hb; omega) fun σ4 fp4 k4 w4 => ?_
   have z4 := leW_step (a := ⟨2,p.id,emp⟩) z3
   simp only [eml] at z4
   have hR : stepW (stepW (stepW (stepW (runW emp []) [⟨6,0,p.topic⟩]) [⟨2,p.id,emp⟩]) [⟨8,0,c⟩]) [⟨8,0,p.pay⟩] = runW emp (actsPb p c) := by rw [stepW_app,stepW_app,stepW_app]; unfold actsPb; rw [if_pos hq0]; rfl
   generalize stepW (stepW (runW emp []) [⟨6,0,p.topic⟩]) [⟨2,p.id,emp⟩] = R4 at hR w4 z4
   have K4 := k2.trans (k3.trans k4)
   simp only [↓sbD,sbU,↓reduceIte,Nat.reduceEqDiff,Nat.reduceLT]
  rotate_left
  focus
   simp only [↓sbD,sbU,tyB,decide_false,↓reduceIte,Nat.reduceEqDiff,Nat.reduceLT,reduceCtorEq,isConst,hq0]
   have hR : stepW (stepW (stepW (runW emp []) [⟨6,0,p.topic⟩]) [⟨8,0,c⟩]) [⟨8,0,p.pay⟩] = runW emp (actsPb p c) := by rw [stepW_app,stepW_app]; unfold actsPb; rw [if_neg hq0]; rfl
   have w4 := w3
   have z4 : leW _ (0 + (p.topic.size + 4) + (0 + 4)) := fun b hb => by have := z3 b hb; omega
   generalize stepW (runW emp []) [⟨6,0,p.topic⟩] = R4 at hR w4 z4
   have K4 := k2.trans k3
   clear w3 z3 k3
  all_goals
   refine specRawR (n := 0) w4 (fun b hb => by have := z4 b hb; omega) (by omega) fun σ5 fp5 k5 w5 => ?_
   have z5 := leW_step (a := ⟨8,0,c⟩) z4
   simp only at z5
   simp only [↓sbD,sbU,tyB,↓reduceIte,Nat.reduceEqDiff,Nat.reduceLT,reduceCtorEq]
   refine specRawR (n := 0) w5 (fun b hb => by have := z5 b hb; omega) (by omega) fun σ6 fp6 k6 w6 => ?_
   have z6 := leW_step (a := ⟨8,0,p.pay⟩) z5
   simp only at z6
   rw [hR] at w6 z6
   have K6 := K4.trans (k5.trans k6)
   simp only [↓sbD,sbU,↓reduceIte,Nat.reduceEqDiff,Nat.reduceLT]
   refine specBytesR w6 (fun bb hbb => ?_) fun k q d z hr hd he => ?_
   ·have gbn := (K6.at gb1 (by simp) (by simp)).1
    have hle := z6 bb hbb
    simp only [↓sbD,sbU,tyB,↓reduceIte,Nat.reduceEqDiff,Nat.reduceLT,Nat.reduceAdd,Nat.reduceLeDiff,pairs,isConst,splice,ZV.val,AS_new,zeFra]
    intro c hc
    have hcb : c ≠ b := nd hc gbn (by simp)
    generalize hσc : AHeap.set _ c _ = σc
    have kc : Kept σ6 [] σc [] := by rw [← hσc]; exact ((Kept.refl _ []).setD hc).setD hc
    have gc : σc.get c = .cells [.int .i64 (firstP p),.string bb] true 0 := by rw [← hσc]; exact AHeap.get_set_same _ _ _
    clear hσc
    try simp only [↓sbD,sbU,tyB,Nat.reduceMul,Nat.reduceSub,Int.reduceEq,Int.reduceLT,Int.reduceLE,Int.reduceNe,Nat.reduceBneDiff,Nat.reduceBEq,decide_false,gt_iff_lt,Bool.or_self,Bool.false_eq_true,Nat.mul_one,Nat.one_mul,Nat.zero_mul,↓reduceIte,Nat.reduceEqDiff,Nat.reduceLT,Nat.reduceAdd,Nat.reduceLeDiff,reduceCtorEq,goInt,pairs,isConst,TI.isAgg,splice,boxS,Edp,dpv,Nat.beq_eq,ZV.val,List.any_cons,List.any_nil,Bool.false_and,gc]
    refine specPbDec (by omega) (fun y hy v2 σd hv2 kd => ?_) fun k rr a hy σd d z kd hd he => ?_
    ·have gbd := ((kc.trans kd).at gbn (by simp) (by simp)).1
     have gcd := (kd.at gc (by simp) (by simp)).1
     simp only [↓sbD,sbU,tyB,↓reduceIte,Nat.reduceEqDiff,Nat.reduceLT,Nat.reduceAdd,Nat.reduceLeDiff,isConst,splice,gcd,gbd,res_cellc,resC_some]
     exact downS_here (hok (firstP p,bb) (by unfold MadeR; rw [hbb]; exact ⟨_,hy,rfl⟩) _ ((k1.trans ((K6.wid (gp := []) (gp' := []) (fun _ h => by cases h) (fun _ h => by cases h)).trans (kc.trans kd))).setD hb))
    ·have gbd := ((kc.trans kd).at gbn (by simp) (by simp)).1
     simp only [↓sbD,sbU,tyB,↓reduceIte,Nat.reduceEqDiff,Nat.reduceLT,Nat.reduceAdd,Nat.reduceLeDiff,pairs,isConst,splice,ZV.val,gbd,res_cellc,resC_some]
     exact downS_here (hbad k rr a (by unfold MadeR; rw [hbb]; exact ⟨_,hy,rfl⟩) _ d z ((k1.trans ((K6.wid (gp := []) (gp' := []) (fun _ h => by cases h) (fun _ h => by cases h)).trans (kc.trans kd))).setD hb) hd he)
   ·have gbn := (K6.at gb1 (by simp) (by simp)).1
    simp only [↓sbD,sbU,tyB,↓reduceIte,Nat.reduceEqDiff,Nat.reduceLT,Nat.reduceAdd,Nat.reduceLeDiff,pairs,isConst,splice,ZV.val,AS_new,zeFra]
    intro c hc
    have hcb : c ≠ b := nd hc gbn (by simp)
    have bc : ∀ (τ : AHeap) o,(AHeap.set τ c o).get b = τ.get b := fun τ o => AHeap.get_set_ne _ _ hcb
    simp only [↓sbD,sbU,tyB,↓reduceIte,Nat.reduceEqDiff,Nat.reduceLT,Nat.reduceAdd,Nat.reduceLeDiff,splice,bc,gbn,res_cellc,resC_some]
    exact downS_here (hbad k 129 q (by unfold MadeR; rw [hr]) _ d z ((k1.trans ((K6.wid (gp := []) (gp' := []) (fun _ h => by cases h) (fun _ h => by cases h)).trans (((Kept.refl _ []).setD hc).setD hc))).setD hb) (by omega) he)
end
section
variable {σ : AHeap} {Q : Value → AHeap → Prop} {s : ByteArray}
theorem remZ {f k : Int} (hk : 0 < k) (h : 0 ≤ f) : aint .rem .i64 f k = some (.int .i64 (f % k)) := rem_pos h hk
theorem divP {f k : Int} {t : Nat} {cs : Bool} (ha : 0 ≤ f) (hb : f < 1000) (hk : k = 2 ∨ k = 8) : abin E σ .quo t cs (.int .i64 f) (.int .i64 k) = some (.int .i64 (f / k)) := by
 rw [quoK (by omega),Int.tdiv_eq_ediv_of_nonneg ha,wrap64 (by rcases hk with rfl | rfl <;> constructor <;> omega)]
theorem IsYS.cells {r : Nat} {st : RSt} (h : IsYS σ r s st) : ∃ (p : Nat) (k a : Int),σ.get r = .cells [.string s,.int .i64 (p : Int),.int .i64 k,.int .i64 a] true 0 ∧ (∀ q,st = .ok q → p = q ∧ k = 0) ∧ (∀ e,st = .error e → k ≠ 0) := by
 cases st with
 | ok p => exact ⟨p,0,0,h.2,(fun q hq => by injection hq with hq; exact ⟨hq,rfl⟩),(fun e he => by cases he)⟩
 | error e =>
  obtain ⟨k,q⟩ := e
  obtain ⟨h1,p,h2,h3⟩ := h
  exact ⟨p,k,q,h3,(fun q hq => by cases hq),(fun e he => by omega)⟩
theorem specDPbDec {f : Int} (hs : s.size ≤ 100000000)
  (hok : ∀ p,DecP f s (.ok p) → ∀ v σ',PkV p v → Kept σ [] σ' [] → Q (.tuple #[v,flt 0 0 0]) σ')
  (hbad : ∀ k rr a : Nat,DecP f s (.error (k,rr,a)) → k ≠ 0 → ∀ σ',Kept σ [] σ' [] → Q (.tuple #[.agg ⟨zeL⟩,flt k rr a]) σ') :
  CallS E B 50 [.agg ⟨[.int .i64 f,.string s]⟩] σ Q := by
 unfold DecP at hok hbad
 refine call50 (by simp) ?_
 simp only [strip,bodyOf,Tryz.f50,getD_body,keepN,bareOp_mk,lessOp_mk,lapp_cons,lapp_nil,List.map_cons,List.map_nil,↓reduceIte,Nat.reduceEqDiff,Bool.false_eq_true]
 by_cases hr : 48 ≤ f ∧ f ≤ 63
 rotate_left
 ·have hbd : pbBad f := by unfold pbBad; omega
  simp only [if_pos hbd] at hbad
  have hq2 : ∀ (τ : AHeap) (t : Nat) (cs : Bool),abin E τ .quo t cs (.int .i64 f) (.int .i64 2) = some (.int .i64 (IntKind.i64.wrap (f.tdiv 2))) := fun τ t cs => quoK (by decide)
  have hq8 : ∀ (τ : AHeap) (t : Nat) (cs : Bool),abin E τ .quo t cs (.int .i64 f) (.int .i64 8) = some (.int .i64 (IntKind.i64.wrap (f.tdiv 8))) := fun τ t cs => quoK (by decide)
  obtain ⟨y4,hr4⟩ : ∃ y,aint .rem .i64 (IntKind.i64.wrap (f.tdiv 2)) 4 = some (.int .i64 y) := ⟨_,rfl⟩
  obtain ⟨y2,hr2⟩ : ∃ y,aint .rem .i64 (IntKind.i64.wrap (f.tdiv 8)) 2 = some (.int .i64 y) := ⟨_,rfl⟩
  have OUT : ∀ {P : Prop},(f < 48 → P) → (¬ f < 48 → 63 < f → P) → P := fun a b => by
   by_cases h : f < 48
   ·exact a h
   ·exact b h (by omega)
  refine OUT (fun h1 => ?_) fun h1 h2 => ?_
  focus simp (disch := first | assumption | simp) only [↓sbD,sbU,tyB,↓reduceIte,Nat.reduceEqDiff,Nat.reduceLT,reduceCtorEq,pairs,isConst,boxS,Edp,dpv,ZV.val,AS_new,zePk,zeFlt,hq2,hq8,hr4,hr2,h1]
  rotate_left
  focus simp (disch := first | assumption | simp) only [↓sbD,sbU,tyB,decide_false,↓reduceIte,Nat.reduceEqDiff,Nat.reduceLT,reduceCtorEq,pairs,isConst,boxS,Edp,dpv,ZV.val,AS_new,zePk,zeFlt,hq2,hq8,hr4,hr2,h1,h2]
  all_goals
   intro b hb c hc
   have hcb : c ≠ b := by rintro rfl; rw [AHeap.get_set_same] at hc; cases hc
   have hcd : σ.get c = .dead := by rw [AHeap.get_set_ne _ _ hcb.symm] at hc; exact hc
   have cb : ∀ (τ : AHeap) o,(AHeap.set τ c o).get b = τ.get b := fun τ o => AHeap.get_set_ne _ _ hcb
   have bc : ∀ (τ : AHeap) o,(AHeap.set τ b o).get c = τ.get c := fun τ o => AHeap.get_set_ne _ _ hcb.symm
   clear hc
   refine specKBad (n := 0) ?_
   simp (disch := first | assumption | simp) only [↓sbD,sbU,tyB,↓reduceIte,Nat.reduceEqDiff,Nat.reduceLT,Nat.reduceAdd,Nat.reduceLeDiff,splice,bc,cb,res_cellc,resC_some]
   exact downS_here (hbad 2 129 0 rfl (by omega) _ (((((Kept.refl σ []).setD hb).setD hcd).setD hb).setD hcd))
 have hq2 : ∀ (τ : AHeap) (t : Nat) (cs : Bool),abin E τ .quo t cs (.int .i64 f) (.int .i64 2) = some (.int .i64 (f / 2)) := fun τ t cs => divP (by omega) (by omega) (.inl rfl)
 have hq8 : ∀ (τ : AHeap) (t : Nat) (cs : Bool),abin E τ .quo t cs (.int .i64 f) (.int .i64 8) = some (.int .i64 (f / 8)) := fun τ t cs => divP (by omega) (by omega) (.inr rfl)
 have hr4 : aint .rem .i64 (f / 2) 4 = some (.int .i64 (f / 2 % 4)) := remZ (by omega) (by omega)
 have hr8 : aint .rem .i64 (f / 8) 2 = some (.int .i64 (f / 8 % 2)) := remZ (by omega) (by omega)
 have hr1 : aint .rem .i64 f 2 = some (.int .i64 (f % 2)) := remZ (by omega) (by omega)
 have h48 : ¬ f < 48 := by omega
 have h64 : ¬ 63 < f := by omega
 have hf1 : f % 2 = 1 ∨ f % 2 = 0 := by omega
 have hf8 : f / 8 % 2 = 1 ∨ f / 8 % 2 = 0 := by omega
 by_cases h3 : f / 2 % 4 = 3
 ·simp only [if_pos (show pbBad f from .inr (.inr (.inl h3)))] at hbad
  simp (disch := first | assumption | simp) only [↓sbD,sbU,tyB,decide_false,↓reduceIte,Nat.reduceEqDiff,Nat.reduceLT,reduceCtorEq,pairs,isConst,boxS,Edp,dpv,ZV.val,AS_new,zePk,zeFlt,hq2,hq8,hr4,hr8,h48,h64,h3]
  intro b hb c hc
  have hcb : c ≠ b := by rintro rfl; rw [AHeap.get_set_same] at hc; cases hc
  have hcd : σ.get c = .dead := by rw [AHeap.get_set_ne _ _ hcb.symm] at hc; exact hc
  have cb : ∀ (τ : AHeap) o,(AHeap.set τ c o).get b = τ.get b := fun τ o => AHeap.get_set_ne _ _ hcb
  have bc : ∀ (τ : AHeap) o,(AHeap.set τ b o).get c = τ.get c := fun τ o => AHeap.get_set_ne _ _ hcb.symm
  clear hc
  refine specKBad (n := 0) ?_
  simp (disch := first | assumption | simp) only [↓sbD,sbU,tyB,↓reduceIte,Nat.reduceEqDiff,Nat.reduceLT,Nat.reduceAdd,Nat.reduceLeDiff,splice,bc,cb,res_cellc,resC_some]
  exact downS_here (hbad 2 129 0 rfl (by omega) _ (((((Kept.refl σ []).setD hb).setD hcd).setD hb).setD hcd))
 rcases hf8 with d8 | d8
 focus
  by_cases h0 : f / 2 % 4 = 0
  ·simp only [if_pos (show pbBad f from .inr (.inr (.inr ⟨d8,h0⟩)))] at hbad
   simp (disch := first | assumption | simp) only [↓sbD,sbU,tyB,Int.reduceEq,decide_false,↓reduceIte,Nat.reduceEqDiff,Nat.reduceLT,reduceCtorEq,pairs,isConst,boxS,Edp,dpv,ZV.val,AS_new,zePk,zeFlt,hq2,hq8,hr4,hr8,h48,h64,d8,h0]
   intro b hb c hc
   have hcb : c ≠ b := by rintro rfl; rw [AHeap.get_set_same] at hc; cases hc
   have hcd : σ.get c = .dead := by rw [AHeap.get_set_ne _ _ hcb.symm] at hc; exact hc
   have cb : ∀ (τ : AHeap) o,(AHeap.set τ c o).get b = τ.get b := fun τ o => AHeap.get_set_ne _ _ hcb
   have bc : ∀ (τ : AHeap) o,(AHeap.set τ b o).get c = τ.get c := fun τ o => AHeap.get_set_ne _ _ hcb.symm
   clear hc
   refine specKBad (n := 0) ?_
   simp (disch := first | assumption | simp) only [↓sbD,sbU,tyB,↓reduceIte,Nat.reduceEqDiff,Nat.reduceLT,Nat.reduceAdd,Nat.reduceLeDiff,splice,bc,cb,res_cellc,resC_some]
   exact downS_here (hbad 2 129 0 rfl (by omega) _ (((((Kept.refl σ []).setD hb).setD hcd).setD hb).setD hcd))
  have hgood : ¬ pbBad f := fun h => h.elim h48 fun h => h.elim (fun h => by omega) fun h => h.elim h3 fun h => h0 h.2
  simp only [if_neg hgood] at hok hbad
  rcases hf1 with d1 | d1
  focus simp (disch := first | assumption | simp) only [↓sbD,sbU,tyB,decide_false,↓reduceIte,Nat.reduceEqDiff,Nat.reduceLT,Nat.reduceAdd,Nat.reduceLeDiff,reduceCtorEq,pairs,isConst,splice,boxS,Edp,dpv,ZV.val,AS_new,zePk,zeFlt,hq2,hq8,hr4,hr8,h48,h64,h3,d8,h0]
  rotate_left
  focus simp (disch := first | assumption | simp) only [↓sbD,sbU,tyB,decide_false,↓reduceIte,Nat.reduceEqDiff,Nat.reduceLT,Nat.reduceAdd,Nat.reduceLeDiff,reduceCtorEq,pairs,isConst,splice,boxS,Edp,dpv,ZV.val,AS_new,zePk,zeFlt,hq2,hq8,hr4,hr8,h48,h64,h3,d8,h0]
 rotate_left 2
 focus
  have hgood : ¬ pbBad f := fun h => h.elim h48 fun h => h.elim (fun h => by omega) fun h => h.elim h3 fun h => by omega
  simp only [if_neg hgood] at hok hbad
  rcases hf1 with d1 | d1
  focus simp (disch := first | assumption | simp) only [↓sbD,sbU,tyB,Int.reduceEq,decide_false,↓reduceIte,Nat.reduceEqDiff,Nat.reduceLT,Nat.reduceAdd,Nat.reduceLeDiff,reduceCtorEq,pairs,isConst,splice,boxS,Edp,dpv,ZV.val,AS_new,zePk,zeFlt,hq2,hq8,hr4,hr8,h48,h64,h3,d8]
  rotate_left
  focus simp (disch := first | assumption | simp) only [↓sbD,sbU,tyB,Int.reduceEq,decide_false,↓reduceIte,Nat.reduceEqDiff,Nat.reduceLT,Nat.reduceAdd,Nat.reduceLeDiff,reduceCtorEq,pairs,isConst,splice,boxS,Edp,dpv,ZV.val,AS_new,zePk,zeFlt,hq2,hq8,hr4,hr8,h48,h64,h3,d8]
 all_goals
  intro b hb c hc
  have hcb : c ≠ b := by rintro rfl; rw [AHeap.get_set_same] at hc; cases hc
  have hcd : σ.get c = .dead := by rw [AHeap.get_set_ne _ _ hcb.symm] at hc; exact hc
  have cb : ∀ (τ : AHeap) o,(AHeap.set τ c o).get b = τ.get b := fun τ o => AHeap.get_set_ne _ _ hcb
  have bc : ∀ (τ : AHeap) o,(AHeap.set τ b o).get c = τ.get c := fun τ o => AHeap.get_set_ne _ _ hcb.symm
  clear hc
  generalize hσ1 : AHeap.set (AHeap.set σ b _) c _ = σ1
  have k1 : Kept σ [] σ1 [] := by rw [← hσ1]; exact ((Kept.refl σ []).setD hb).setD hcd
  have gb1 : σ1.get b = .cells zeL true 0 := by rw [← hσ1,cb]; exact AHeap.get_set_same _ _ _
  have gc1 : σ1.get c = .cells [.int .i64 0,.int .i64 0,.int .i64 0] true 0 := by rw [← hσ1]; exact AHeap.get_set_same _ _ _
  clear hσ1
  have FIN : ∀ {τ : AHeap} {o o' : AObj},Kept σ1 [] τ [] → Kept σ [] ((τ.set b o).set c o') [] := fun kt => ((k1.trans kt).setD hb).setD hcd
  simp (disch := first | assumption | simp) only [↓sbD,sbU,tyB,Bool.false_eq_true,↓reduceIte,Nat.reduceEqDiff,Nat.reduceLT,reduceCtorEq,isConst,Bool.false_and,AS_new,dpRd]
  intro x hx
  have hbx : b ≠ x := (nd hx gb1 (by simp)).symm
  have hcx : c ≠ x := (nd hx gc1 (by simp)).symm
  generalize hσ2 : AHeap.set σ1 x _ = σ2
  have k2 : Kept σ1 [] σ2 [x] := by rw [← hσ2]; exact Kept.new' hx
  have r2 : IsYS σ2 x s (.ok 0) := ⟨Nat.zero_le _,by rw [← hσ2]; exact AHeap.get_set_same _ _ _⟩
  clear hσ2
  simp (disch := first | assumption | simp) only [↓sbD,sbU,tyB,Int.reduceEq,decide_false,↓reduceIte,Nat.reduceEqDiff,Nat.reduceLT,Nat.reduceAdd,Nat.reduceLeDiff,pairs,isConst,splice,ZV.val,AS_new,zePk,hr1,d1]
  intro y hy
  have hyx : y ≠ x := by rintro rfl; rw [r2.2] at hy; cases hy
  generalize hσ3 : AHeap.set (AHeap.set σ2 y _) y _ = σ3
  have M3 : Kept σ2 [x] σ3 [x] := by rw [← hσ3]; exact ((Kept.refl _ _).setD hy).setD hy
  have r3 : IsYS σ3 x s (.ok 0) := r2.kept (show Kept σ2 [] σ3 [] by rw [← hσ3]; exact ((Kept.refl _ []).setD hy).setD hy) (by simp)
  have gy3 : σ3.get y = .cells [.int .i64 3,.int .i64 0,.int .i64 0,.slice none 0 0,.bool false,.int .i64 0,.string emp,.bool false,.string emp,.string emp,.int .i64 0,.bool false,.slice none 0 0,.bool false,.string emp,.bool false,.string emp,.bool false,.string emp,.string emp,.int .i64 (f / 2 % 4),.bool (decide (f % 2 = 1)),.bool (decide (f / 8 % 2 = 1)),.slice none 0 0,.slice none 0 0,.slice none 0 0] true 0 := by rw [← hσ3,d8,d1]; exact AHeap.get_set_same _ _ _
  clear hσ3
  try simp (disch := first | assumption | simp) only [↓sbD,sbU,tyB,Nat.reduceMul,Nat.reduceSub,Int.reduceEq,Int.reduceLT,Int.reduceLE,Int.reduceNe,Nat.reduceBneDiff,Nat.reduceBEq,decide_false,gt_iff_lt,Bool.or_self,Bool.false_eq_true,Nat.mul_one,Nat.one_mul,Nat.zero_mul,↓reduceIte,Nat.reduceEqDiff,Nat.reduceLT,Nat.reduceAdd,Nat.reduceLeDiff,reduceCtorEq,goInt,pairs,isConst,TI.isAgg,splice,boxS,Edp,dpv,Nat.beq_eq,ZV.val,List.any_cons,List.any_nil,Bool.false_and]
  refine specZText r3 hs fun σ4 k4 r4 => ?_
  obtain ⟨t,st1,hT⟩ : ∃ t st1,textS s (.ok 0) = (t,st1) := ⟨_,_,rfl⟩
  simp only [hT] at hok hbad r4 ⊢
  have M4 := M3.trans k4
  have gy4 := (k4.at gy3 (by simp) (by simp [hyx])).1
  simp (disch := first | assumption | simp) only [↓sbD,sbU,tyB,↓reduceIte,Nat.reduceEqDiff,Nat.reduceLT,Nat.reduceAdd,Nat.reduceLeDiff,reduceCtorEq,splice,gy4]
  generalize hσ5 : AHeap.set σ4 y _ = σ5
  have M5 : Kept σ2 [x] σ5 [x] := by rw [← hσ5]; exact M4.setD hy
  have r5 := r4.kept (show Kept σ4 [y] σ5 [y] by rw [← hσ5]; exact Kept.set (by simp)) (by simp [Ne.symm hyx])
  have gy5 : σ5.get y = .cells [.int .i64 3,.int .i64 0,.int .i64 0,.slice none 0 0,.bool false,.int .i64 0,.string emp,.bool false,.string emp,.string emp,.int .i64 0,.bool false,.slice none 0 0,.bool false,.string emp,.bool false,.string emp,.bool false,.string t,.string emp,.int .i64 (f / 2 % 4),.bool (decide (f % 2 = 1)),.bool (decide (f / 8 % 2 = 1)),.slice none 0 0,.slice none 0 0,.slice none 0 0] true 0 := by rw [← hσ5]; exact AHeap.get_set_same _ _ _
  clear hσ5
  obtain ⟨pa,ea,aa,gx5,ok5,bad5⟩ := r5.cells
  simp (disch := first | assumption | simp) only [↓sbD,sbU,↓reduceIte,Nat.reduceEqDiff,Nat.reduceLT,isConst,gx5]
  by_cases hq : 0 < f / 2 % 4
  focus
   simp only [idS,if_pos hq] at hok hbad
   simp (disch := first | assumption | simp) only [↓sbD,sbU,↓reduceIte,Nat.reduceEqDiff,Nat.reduceLT,hq]
   refine specZU16 r5 hs fun σ6 k6 r6 => ?_
   obtain ⟨id,st2,hU⟩ : ∃ id st2,u16S s st1 = (id,st2) := ⟨_,_,rfl⟩
   simp only [hU] at hok hbad r6 ⊢
   have M6 := M5.trans k6
   have gy6 := (k6.at gy5 (by simp) (by simp [hyx])).1
   simp (disch := first | assumption | simp) only [↓sbD,sbU,tyB,↓reduceIte,Nat.reduceEqDiff,Nat.reduceLT,Nat.reduceAdd,Nat.reduceLeDiff,reduceCtorEq,splice,gy6]
   generalize hσ7 : AHeap.set σ6 y _ = σ7
   have M7 : Kept σ2 [x] σ7 [x] := by rw [← hσ7]; exact M6.setD hy
   have r7 := r6.kept (show Kept σ6 [y] σ7 [y] by rw [← hσ7]; exact Kept.set (by simp)) (by simp [Ne.symm hyx])
   have gy7 : σ7.get y = .cells [.int .i64 3,.int .i64 (id : Int),.int .i64 0,.slice none 0 0,.bool false,.int .i64 0,.string emp,.bool false,.string emp,.string emp,.int .i64 0,.bool false,.slice none 0 0,.bool false,.string emp,.bool false,.string emp,.bool false,.string t,.string emp,.int .i64 (f / 2 % 4),.bool (decide (f % 2 = 1)),.bool (decide (f / 8 % 2 = 1)),.slice none 0 0,.slice none 0 0,.slice none 0 0] true 0 := by rw [← hσ7]; exact AHeap.get_set_same _ _ _
   clear hσ7
   obtain ⟨pb,eb,ab,gx7,ok7,bad7⟩ := r7.cells
   obtain ⟨e,hst⟩ | ⟨p,hst⟩ : (∃ e,st2 = .error e) ∨ (∃ p,st2 = .ok p) := by cases st2 <;> simp
   focus
    have he7 := bad7 e hst
    have hne : ¬ (0 < f / 2 % 4 ∧ okP st2 = true ∧ id = 0) := fun h => by rw [hst] at h; cases h.2.1
    simp only [DecB,if_neg hne] at hok hbad
    simp (disch := first | assumption | simp) only [↓sbD,sbU,decide_false,↓reduceIte,Nat.reduceEqDiff,Nat.reduceLT,isConst,gx7,he7]
    clear hst hU
   rotate_left
   focus
    have he7 := (ok7 p hst).2
    obtain ⟨p1,hp1⟩ : ∃ p1,st1 = .ok p1 := by rw [hst] at hU; exact (okS_u16 hU).2.2
    have hap := (ok5 p1 hp1).1
    by_cases h0 : id = 0
    ·have h0' : (id : Int) = 0 := by omega
     have hc : 0 < f / 2 % 4 ∧ okP (.ok p) = true ∧ id = 0 := ⟨hq,rfl,h0⟩
     rw [hst] at hbad
     simp only [DecB,if_pos hc,plc,hp1] at hbad
     rw [← hap] at hbad
     have K7 := k2.trans M7
     have T7 := K7.wid (gp := []) (gp' := []) (fun _ h => by cases h) (fun _ h => by cases h)
     have gb7 := (K7.at gb1 (by simp) (by simp)).1
     have gc7 := (K7.at gc1 (by simp) (by simp)).1
     simp only [zeL,pkC,pkz] at gb7
     simp (disch := first | assumption | simp) only [↓sbD,sbU,tyB,↓reduceIte,Nat.reduceEqDiff,Nat.reduceLT,reduceCtorEq,pairs,isConst,ZV.val,gx7,he7,gy7,h0']
     refine specKAgainst (n := pa) ?_
     simp (disch := first | assumption | simp) only [↓sbD,sbU,tyB,↓reduceIte,Nat.reduceEqDiff,Nat.reduceLT,Nat.reduceAdd,Nat.reduceLeDiff,splice,gb7,gc7,bc,cb,res_cellc,resC_some]
     exact downS_here (hbad 3 130 pa rfl (by omega) _ (FIN T7))
    have h0' : ¬ (id : Int) = 0 := by omega
    have hne : ¬ (0 < f / 2 % 4 ∧ okP st2 = true ∧ id = 0) := fun h => h0 h.2.2
    simp only [DecB,if_neg hne] at hok hbad
    simp (disch := first | assumption | simp) only [↓sbD,sbU,tyB,decide_false,↓reduceIte,Nat.reduceEqDiff,Nat.reduceLT,reduceCtorEq,isConst,gx7,he7,gy7,h0']
    clear hst hU
   rotate_left
  rotate_left 2
  focus
   simp only [idS,if_neg hq] at hok hbad
   simp only [DecB,hq,false_and,if_false] at hok hbad
   simp (disch := first | assumption | simp) only [↓sbD,sbU,decide_false,↓reduceIte,Nat.reduceEqDiff,Nat.reduceLT,hq]
   obtain ⟨id,hid0⟩ : ∃ id : Nat,(0 : Nat) = id := ⟨0,rfl⟩
   have hG : pbP f t 0 = pbP f t id := by rw [← hid0]
   rw [hG] at hok hbad
   have M7 := M5
   have r7 := r5
   have gy7 : σ5.get y = .cells [.int .i64 3,.int .i64 (id : Int),.int .i64 0,.slice none 0 0,.bool false,.int .i64 0,.string emp,.bool false,.string emp,.string emp,.int .i64 0,.bool false,.slice none 0 0,.bool false,.string emp,.bool false,.string emp,.bool false,.string t,.string emp,.int .i64 (f / 2 % 4),.bool (decide (f % 2 = 1)),.bool (decide (f / 8 % 2 = 1)),.slice none 0 0,.slice none 0 0,.slice none 0 0] true 0 := by rw [← hid0]; exact gy5
   clear M5 r5 gy5 gx5 hid0 hG
  all_goals
   refine specZRead r7 hs (fun l q2 hrd v σ8 hv k8 r8 => ?_) fun k rr a hrd hk σ8 k8 => ?_
   rotate_left
   ·have M8 := M7.trans k8
    have K8 := k2.trans M8
    have T8 := K8.wid (gp := []) (gp' := []) (fun _ h => by cases h) (fun _ h => by cases h)
    have gb8 := (K8.at gb1 (by simp) (by simp)).1
    have gc8 := (K8.at gc1 (by simp) (by simp)).1
    simp only [zeL,pkC,pkz] at gb8
    have hk0 : ¬ (k : Int) = 0 := by omega
    simp (disch := first | assumption | simp) only [↓sbD,sbU,tyB,↓reduceIte,Nat.reduceEqDiff,Nat.reduceLT,Nat.reduceAdd,Nat.reduceLeDiff,reduceCtorEq,isConst,splice,AS_new,zeFlt]
    intro g hg
    have hgb : b ≠ g := (nd hg gb8 (by simp)).symm
    have hgc : c ≠ g := (nd hg gc8 (by simp)).symm
    have gb : ∀ (τ : AHeap) o,(AHeap.set τ g o).get b = τ.get b := fun τ o => AHeap.get_set_ne _ _ hgb.symm
    have gc : ∀ (τ : AHeap) o,(AHeap.set τ g o).get c = τ.get c := fun τ o => AHeap.get_set_ne _ _ hgc.symm
    have bg : ∀ (τ : AHeap) o,(AHeap.set τ b o).get g = τ.get g := fun τ o => AHeap.get_set_ne _ _ hgb
    simp (disch := first | assumption | simp) only [↓sbD,sbU,tyB,↓reduceIte,Nat.reduceEqDiff,Nat.reduceLT,Nat.reduceAdd,Nat.reduceLeDiff,pairs,splice,ZV.val,gb,gc,bc,gb8,gc8,hk0]
    refine drawS_l (fl := [(1,2)]) (by kernel_rfl) ?_ ?_
    rotate_left; simp only [lastP_cc,lastP_one]; rotate_left
    ·simp only [List.all_cons,List.all_nil,floatS,List.getElem?_cons_succ,List.getElem?_cons_zero,List.getElem?_toArray,Region.wanted,Bool.not_true,Bool.not_false,Bool.or_true,reads,looksWeak,aev_tmp,upd_at,↓reduceIte,Nat.reduceEqDiff,Nat.reduceLT,Nat.reduceAdd,blkOf,oeq_refl,dead_cells,Bool.and_self,Bool.false_eq_true,Bool.not_false,bg,AHeap.get_set_same]
     try rfl
    simp (disch := first | assumption | simp) only [↓sbD,sbU,tyB,↓reduceIte,Nat.reduceEqDiff,Nat.reduceLT,Nat.reduceAdd,Nat.reduceLeDiff,cb,res_cellc,resC_some]
    exact downS_here (hbad k rr a ⟨_,hrd,rfl⟩ hk _ (FIN (T8.trans (((Kept.refl _ []).setD hg).setD hg))))
   focus
    have M8 := M7.trans k8
    have gy8 := (k8.at gy7 (by simp) (by simp [hyx])).1
    have K8 := k2.trans M8
    have gb8 := (K8.at gb1 (by simp) (by simp)).1
    have gc8 := (K8.at gc1 (by simp) (by simp)).1
    simp only [zeL,pkC,pkz] at gb8
    simp (disch := first | assumption | simp) only [↓sbD,sbU,tyB,decide_false,↓reduceIte,Nat.reduceEqDiff,Nat.reduceLT,Nat.reduceAdd,Nat.reduceLeDiff,reduceCtorEq,isConst,splice,AS_new,zeFlt]
    intro g hg
    have hgb : b ≠ g := (nd hg gb8 (by simp)).symm
    have hgc : c ≠ g := (nd hg gc8 (by simp)).symm
    have gb : ∀ (τ : AHeap) o,(AHeap.set τ g o).get b = τ.get b := fun τ o => AHeap.get_set_ne _ _ hgb.symm
    have gc : ∀ (τ : AHeap) o,(AHeap.set τ g o).get c = τ.get c := fun τ o => AHeap.get_set_ne _ _ hgc.symm
    have bg : ∀ (τ : AHeap) o,(AHeap.set τ b o).get g = τ.get g := fun τ o => AHeap.get_set_ne _ _ hgb
    generalize hσ9 : AHeap.set (AHeap.set σ8 g _) g _ = σ9
    have k9 : Kept σ8 [] σ9 [] := by rw [← hσ9]; exact ((Kept.refl _ []).setD hg).setD hg
    have gg9 : σ9.get g = .cells [.int .i64 0,.int .i64 0,.int .i64 0] true 0 := by rw [← hσ9]; exact AHeap.get_set_same _ _ _
    clear hσ9
    have M9 : Kept σ2 [x] σ9 [x] := M8.trans (k9.wid (gp := [x]) (gp' := [x]) (fun _ h => by cases h) (fun _ h => .inr h))
    have gy9 := (k9.at gy8 (by simp) (by simp)).1
    have r9 := r8.kept k9 (by simp)
    have hvc := dl_vc hv
    simp (disch := first | assumption | simp) only [↓sbD,sbU,↓reduceIte,Nat.reduceEqDiff,Nat.reduceLT,Nat.reduceAdd,Nat.reduceLeDiff,splice,gy9,hvc.1,hvc.2]
    generalize hσ10 : AHeap.set σ9 y _ = σ10
    have M10 : Kept σ2 [x] σ10 [x] := by rw [← hσ10]; exact M9.setD hy
    have r10 := r9.kept (show Kept σ9 [y] σ10 [y] by rw [← hσ10]; exact Kept.set (by simp)) (by simp [Ne.symm hyx])
    have gy10 : σ10.get y = .cells [.int .i64 3,.int .i64 (id : Int),.int .i64 0,v,.bool false,.int .i64 0,.string emp,.bool false,.string emp,.string emp,.int .i64 0,.bool false,.slice none 0 0,.bool false,.string emp,.bool false,.string emp,.bool false,.string t,.string emp,.int .i64 (f / 2 % 4),.bool (decide (f % 2 = 1)),.bool (decide (f / 8 % 2 = 1)),.slice none 0 0,.slice none 0 0,.slice none 0 0] true 0 := by rw [← hσ10]; exact AHeap.get_set_same _ _ _
    clear hσ10
    try simp (disch := first | assumption | simp) only [↓sbD,sbU,tyB,Nat.reduceMul,Nat.reduceSub,Int.reduceEq,Int.reduceLT,Int.reduceLE,Int.reduceNe,Nat.reduceBneDiff,Nat.reduceBEq,decide_false,gt_iff_lt,Bool.or_self,Bool.false_eq_true,Nat.mul_one,Nat.one_mul,Nat.zero_mul,↓reduceIte,Nat.reduceEqDiff,Nat.reduceLT,Nat.reduceAdd,Nat.reduceLeDiff,reduceCtorEq,goInt,pairs,isConst,TI.isAgg,splice,boxS,Edp,dpv,Nat.beq_eq,ZV.val,List.any_cons,List.any_nil,Bool.false_and]
    refine specYRest r10.2 r10.1 hs fun σ11 k11 r11 => ?_
    have M11 := M10.trans k11
    have gy11 := (k11.at gy10 (by simp) (by simp [hyx])).1
    simp (disch := first | assumption | simp) only [↓sbD,sbU,tyB,↓reduceIte,Nat.reduceEqDiff,Nat.reduceLT,Nat.reduceAdd,Nat.reduceLeDiff,reduceCtorEq,pairs,splice,ZV.val,gy11]
    generalize hσ12 : AHeap.set σ11 y _ = σ12
    have M12 : Kept σ2 [x] σ12 [x] := by rw [← hσ12]; exact M11.setD hy
    have r12 := (show IsYS σ11 x s (.ok s.size) from ⟨Nat.le_refl _,r11⟩).kept (show Kept σ11 [y] σ12 [y] by rw [← hσ12]; exact Kept.set (by simp)) (by simp [Ne.symm hyx])
    have gy12 : σ12.get y = .cells [.int .i64 3,.int .i64 (id : Int),.int .i64 0,v,.bool false,.int .i64 0,.string emp,.bool false,.string emp,.string emp,.int .i64 0,.bool false,.slice none 0 0,.bool false,.string emp,.bool false,.string emp,.bool false,.string t,.string (s.extract q2 s.size),.int .i64 (f / 2 % 4),.bool (decide (f % 2 = 1)),.bool (decide (f / 8 % 2 = 1)),.slice none 0 0,.slice none 0 0,.slice none 0 0] true 0 := by rw [← hσ12]; exact AHeap.get_set_same _ _ _
    clear hσ12
    have K12 := k2.trans M12
    have gb12 := (K12.at gb1 (by simp) (by simp)).1
    have gc12 := (K12.at gc1 (by simp) (by simp)).1
    simp only [zeL,pkC,pkz] at gb12
    have T12 := K12.wid (gp := []) (gp' := []) (fun _ h => by cases h) (fun _ h => by cases h)
    simp (disch := first | assumption | simp) only [↓sbD,sbU,tyB,↓reduceIte,Nat.reduceEqDiff,Nat.reduceLT,Nat.reduceAdd,Nat.reduceLeDiff,splice,gb12,gc12,bc,cb,hvc.2,res_cellc,resC_some]
    exact downS_here (hok _ ⟨_,hrd,rfl⟩ _ _ ⟨_,_,_,_,_,hv,.inl ⟨rfl,rfl⟩,.inl ⟨rfl,rfl⟩,.inl ⟨rfl,rfl⟩,.inl ⟨rfl,rfl⟩,rfl⟩ (FIN T12))
end
section
variable {σ : AHeap} {Q : Value → AHeap → Prop} {s : ByteArray}
theorem first_add {p : Pk} (hq : ¬ (p.qos < 0 ∨ 3 < p.qos)) : ∃ F0 F1 : Int,IntKind.i64.wrap (2 * p.qos) = 2 * p.qos ∧ IntKind.i64.wrap (48 + 2 * p.qos) = F0 ∧ (p.dup = true → IntKind.i64.wrap (F0 + 8) = F1) ∧ (p.dup = false → F1 = F0) ∧ (p.ret = true → IntKind.i64.wrap (F1 + 1) = firstP p) ∧ (p.ret = false → firstP p = F1) := by
 refine ⟨48 + 2 * p.qos,48 + 2 * p.qos + (if p.dup then 8 else 0),by rw [wrap64 ⟨by omega,by omega⟩],by rw [wrap64 ⟨by omega,by omega⟩],?_,?_,?_,?_⟩
 ·intro hd
  rw [hd,wrap64 ⟨by omega,by omega⟩]
  simp
 ·intro hd; rw [hd]; simp
 ·intro hr
  unfold firstP
  rw [hr]
  cases p.dup <;> simp only [if_true,if_false,Bool.false_eq_true] <;> rw [wrap64 ⟨by omega,by omega⟩]
 ·intro hr
  unfold firstP
  rw [hr]
  cases p.dup <;> simp
theorem specDPbEnc {p : Pk} {v : Value} (hp : PkV p v) (hf : fewPk p)
  (hok : ∀ fb,EncP' p (.ok fb) → ∀ σ',Kept σ [] σ' [] → Q (.tuple #[.agg ⟨[.int .i64 fb.1,.string fb.2]⟩,flt 0 0 0]) σ')
  (hbad : ∀ k rr a : Nat,EncP' p (.error (k,rr,a)) → k ≠ 0 → ∀ σ',Kept σ [] σ' [] → Q (.tuple #[.agg ⟨[.int .i64 0,.string emp]⟩,flt k rr a]) σ') :
  CallS E B 14 [v] σ Q := by
 obtain ⟨vp,vw,vs,vf,vc,d1,d2,d3,d4,d5,rfl⟩ := hp
 obtain ⟨up,uw,us,uf,uc,d1,d2,d3,d4,d5,-,hbx⟩ := boxPk d1 d2 d3 d4 d5
 simp only [pkC] at hbx ⊢
 have hm := hf.big
 have eml : (emp).size = 0 := rfl
 unfold EncP' EncG at hok hbad
 have h1 := hm.topic
 have h2 := hm.pay
 by_cases hq : p.qos < 0 ∨ 3 < p.qos
 ·have hpre : preP p = some (2,129,0) := if_pos hq
  simp only [hpre] at hbad
  refine call14 (by simp) ?_
  simp only [strip,bodyOf,Tryz.f14,getD_body,keepN,bareOp_mk,lessOp_mk,lapp_cons,lapp_nil,List.map_cons,List.map_nil,↓reduceIte,Nat.reduceEqDiff,Bool.false_eq_true]
  have OUT : ∀ {P : Prop},(p.qos < 0 → P) → (¬ p.qos < 0 → 3 < p.qos → P) → P := fun a b => by
   by_cases h : p.qos < 0
   ·exact a h
   ·exact b h (by omega)
  refine OUT (fun h3 => ?_) fun h3 h4 => ?_
  focus simp only [↓sbD,sbU,tyB,↓reduceIte,Nat.reduceEqDiff,Nat.reduceLT,reduceCtorEq,pairs,isConst,ZV.val,hbx,AS_new,zeFra,zeFlt,h3]
  rotate_left
  focus simp only [↓sbD,sbU,tyB,decide_false,↓reduceIte,Nat.reduceEqDiff,Nat.reduceLT,reduceCtorEq,pairs,isConst,ZV.val,hbx,AS_new,zeFra,zeFlt,h3,h4]
  all_goals
   intro b hb c hc
   have hcb : c ≠ b := by rintro rfl; rw [AHeap.get_set_same] at hc; cases hc
   have hcd : σ.get c = .dead := by rw [AHeap.get_set_ne _ _ hcb.symm] at hc; exact hc
   have cb : ∀ (τ : AHeap) o,(AHeap.set τ c o).get b = τ.get b := fun τ o => AHeap.get_set_ne _ _ hcb
   have bc : ∀ (τ : AHeap) o,(AHeap.set τ b o).get c = τ.get c := fun τ o => AHeap.get_set_ne _ _ hcb.symm
   clear hc
   refine specKBad (n := 0) ?_
   simp only [↓sbD,sbU,tyB,↓reduceIte,Nat.reduceEqDiff,Nat.reduceLT,Nat.reduceAdd,Nat.reduceLeDiff,splice,bc,cb,res_cellc,resC_some]
   exact downS_here (hbad 2 129 0 rfl (by omega) _ (((((Kept.refl σ []).setD hb).setD hcd).setD hb).setD hcd))
 have hpre : preP p = none := if_neg hq
 simp only [hpre] at hok hbad
 have h3 : ¬ p.qos < 0 := by omega
 have h4 : ¬ 3 < p.qos := by omega
 obtain ⟨F0,F1,w1,w2,o2,e2,o3,e3⟩ := first_add hq
 have hdc : p.dup = false ∨ p.dup = true := by cases p.dup <;> simp
 have hrc : p.ret = false ∨ p.ret = true := by cases p.ret <;> simp
 rcases hdc with hd | hd <;> rcases hrc with hr | hr <;> simp only [hd,hr] at hbx ⊢
 all_goals
  refine call14 (by simp) ?_
  simp only [strip,bodyOf,Tryz.f14,getD_body,keepN,bareOp_mk,lessOp_mk,lapp_cons,lapp_nil,List.map_cons,List.map_nil,↓reduceIte,Nat.reduceEqDiff,Bool.false_eq_true]
 focus
  rw [← e2 hd,← e3 hr] at w2
  simp only [↓sbD,sbU,tyB,decide_false,↓reduceIte,Nat.reduceEqDiff,Nat.reduceLT,reduceCtorEq,isConst,hbx,AS_new,zeFra,zeFlt,h3,h4,w1,w2]
 rotate_left
 focus
  rw [← e2 hd] at w2
  have o4 := o3 hr
  simp only [↓sbD,sbU,tyB,decide_false,↓reduceIte,Nat.reduceEqDiff,Nat.reduceLT,reduceCtorEq,isConst,hbx,AS_new,zeFra,zeFlt,h3,h4,w1,w2,o4]
 rotate_left
 focus
  have o4 := o2 hd
  rw [← e3 hr] at o4
  simp only [↓sbD,sbU,tyB,decide_false,↓reduceIte,Nat.reduceEqDiff,Nat.reduceLT,reduceCtorEq,isConst,hbx,AS_new,zeFra,zeFlt,h3,h4,w1,w2,o4]
 rotate_left
 focus
  have o4 := o2 hd
  have o5 := o3 hr
  simp only [↓sbD,sbU,tyB,decide_false,↓reduceIte,Nat.reduceEqDiff,Nat.reduceLT,reduceCtorEq,isConst,hbx,AS_new,zeFra,zeFlt,h3,h4,w1,w2,o4,o5]
 all_goals
  intro b hb c hc
  have hcb : c ≠ b := by rintro rfl; rw [AHeap.get_set_same] at hc; cases hc
  have hcd : σ.get c = .dead := by rw [AHeap.get_set_ne _ _ hcb.symm] at hc; exact hc
  have cb : ∀ (τ : AHeap) o,(AHeap.set τ c o).get b = τ.get b := fun τ o => AHeap.get_set_ne _ _ hcb
  have bc : ∀ (τ : AHeap) o,(AHeap.set τ b o).get c = τ.get c := fun τ o => AHeap.get_set_ne _ _ hcb.symm
  clear hc
  generalize hσ1 : AHeap.set (AHeap.set σ b _) c _ = σ1
  have k1 : Kept σ [] σ1 [] := by rw [← hσ1]; exact ((Kept.refl σ []).setD hb).setD hcd
  have gb1 : σ1.get b = .cells [.int .i64 0,.string emp] true 0 := by rw [← hσ1,cb]; exact AHeap.get_set_same _ _ _
  have gc1 : σ1.get c = .cells [.int .i64 0,.int .i64 0,.int .i64 0] true 0 := by rw [← hσ1]; exact AHeap.get_set_same _ _ _
  clear hσ1
  have FIN : ∀ {τ : AHeap} {o o' : AObj},Kept σ1 [] τ [] → Kept σ [] ((τ.set b o).set c o') [] := fun kt => ((k1.trans kt).setD hb).setD hcd
  refine specREncode d1 hm.props (fun cc hce => ?_) fun k r a hce => ?_
  rotate_left
  ·rw [hce] at hok hbad
   simp only at hok hbad
   have hk := encP_k hce
   have T1 : Kept σ1 [] σ1 [] := Kept.refl _ _
   have hk0 : ¬ (k : Int) = 0 := by omega
   simp only [↓sbD,sbU,tyB,↓reduceIte,Nat.reduceEqDiff,Nat.reduceLT,Nat.reduceAdd,Nat.reduceLeDiff,reduceCtorEq,isConst,splice,AS_new,zeFlt]
   intro g hg
   have hgb : b ≠ g := (nd hg gb1 (by simp)).symm
   have hgc : c ≠ g := (nd hg gc1 (by simp)).symm
   have gb : ∀ (τ : AHeap) o,(AHeap.set τ g o).get b = τ.get b := fun τ o => AHeap.get_set_ne _ _ hgb.symm
   have gc : ∀ (τ : AHeap) o,(AHeap.set τ g o).get c = τ.get c := fun τ o => AHeap.get_set_ne _ _ hgc.symm
   have bg : ∀ (τ : AHeap) o,(AHeap.set τ b o).get g = τ.get g := fun τ o => AHeap.get_set_ne _ _ hgb
   simp only [↓sbD,sbU,tyB,↓reduceIte,Nat.reduceEqDiff,Nat.reduceLT,Nat.reduceAdd,Nat.reduceLeDiff,pairs,splice,ZV.val,gb,gc,bc,gb1,gc1,hk0]
   refine drawS_l (fl := [(1,2)]) (by kernel_rfl) ?_ ?_
   rotate_left; simp only [lastP_cc,lastP_one]; rotate_left
   ·simp only [List.all_cons,List.all_nil,floatS,List.getElem?_cons_succ,List.getElem?_cons_zero,List.getElem?_toArray,Region.wanted,Bool.not_true,Bool.not_false,Bool.or_true,reads,looksWeak,aev_tmp,upd_at,↓reduceIte,Nat.reduceEqDiff,Nat.reduceLT,Nat.reduceAdd,blkOf,oeq_refl,dead_cells,Bool.and_self,Bool.false_eq_true,Bool.not_false,bg,AHeap.get_set_same]
    try rfl
   simp only [↓sbD,sbU,tyB,↓reduceIte,Nat.reduceEqDiff,Nat.reduceLT,Nat.reduceAdd,Nat.reduceLeDiff,cb,res_cellc,resC_some]
   exact downS_here (hbad k r a rfl hk _ (FIN (T1.trans (((Kept.refl _ []).setD hg).setD hg))))
  rw [hce] at hok hbad
  simp only at hok hbad
  have hcz := encP_size hf.props hce
  simp only [↓sbD,sbU,tyB,decide_false,↓reduceIte,Nat.reduceEqDiff,Nat.reduceLT,Nat.reduceAdd,Nat.reduceLeDiff,reduceCtorEq,pairs,isConst,splice,boxS,Edp,ZV.val,AS_new,zeFlt]
  intro g hg
  have hgb : b ≠ g := (nd hg gb1 (by simp)).symm
  have hgc : c ≠ g := (nd hg gc1 (by simp)).symm
  have gb : ∀ (τ : AHeap) o,(AHeap.set τ g o).get b = τ.get b := fun τ o => AHeap.get_set_ne _ _ hgb.symm
  have gc : ∀ (τ : AHeap) o,(AHeap.set τ g o).get c = τ.get c := fun τ o => AHeap.get_set_ne _ _ hgc.symm
  have bg : ∀ (τ : AHeap) o,(AHeap.set τ b o).get g = τ.get g := fun τ o => AHeap.get_set_ne _ _ hgb
  generalize hσ2 : AHeap.set (AHeap.set σ1 g _) g _ = σ2
  have k2 : Kept σ1 [] σ2 [] := by rw [← hσ2]; exact ((Kept.refl _ []).setD hg).setD hg
  have gg2 : σ2.get g = .cells [.int .i64 0,.int .i64 0,.int .i64 0] true 0 := by rw [← hσ2]; exact AHeap.get_set_same _ _ _
  clear hσ2
  have gb2 := (k2.at gb1 (by simp) (by simp)).1
  have gc2 := (k2.at gc1 (by simp) (by simp)).1
  simp only [↓sbD,sbU,tyB,Bool.false_eq_true,↓reduceIte,Nat.reduceEqDiff,Nat.reduceLT,Nat.reduceAdd,Nat.reduceLeDiff,reduceCtorEq,pairs,splice,ZV.val,Bool.false_and,AS_new,dpX]
  intro x hx
  generalize hσ3 : AHeap.set σ2 x _ = σ3
  have x3 : XRun σ3 x (runW emp []) := by rw [← hσ3]; exact AHeap.get_set_same _ _ _
  have k3 : Kept σ1 [] σ3 [x] := k2.trans (by rw [← hσ3]; exact Kept.new' hx)
  have z3 : leW (runW emp []) 0 := fun b hb => by injection hb with hb; subst hb; exact Nat.le_refl _
  clear hσ3
  refine specDoR (a := ⟨6,0,p.topic⟩) x3 (fun b hb => by have := z3 b hb; omega) (by simp only; omega) fun σ4 k4 x4 => ?_
  have z4 := leW_step (a := ⟨6,0,p.topic⟩) z3
  simp only at z4
  by_cases hq0 : 0 < p.qos
  focus
   simp only [↓sbD,sbU,tyB,↓reduceIte,Nat.reduceEqDiff,Nat.reduceLT,Nat.reduceAdd,Nat.reduceLeDiff,reduceCtorEq,pairs,isConst,splice,ZV.val,hq0]
   refine specDoR (a := ⟨2,p.id,emp⟩) x4 (fun b hb => by have := z4 b hb; omega) (by simp only [eml]; omega) fun σ5 k5 x5 => ?_
   have z5 := leW_step (a := ⟨2,p.id,emp⟩) z4
   simp only [eml] at z5
   have hR : stepW (stepW (stepW (stepW (runW emp []) [⟨6,0,p.topic⟩]) [⟨2,p.id,emp⟩]) [⟨8,0,cc⟩]) [⟨8,0,p.pay⟩] = runW emp (actsPb p cc) := by rw [stepW_app,stepW_app,stepW_app]; unfold actsPb; rw [if_pos hq0]; rfl
   generalize stepW (stepW (runW emp []) [⟨6,0,p.topic⟩]) [⟨2,p.id,emp⟩] = R5 at hR x5 z5
   have K5 := k3.trans (k4.trans k5)
   simp only [↓sbD,sbU,tyB,↓reduceIte,Nat.reduceEqDiff,Nat.reduceLT,Nat.reduceAdd,Nat.reduceLeDiff,pairs,splice,ZV.val]
  rotate_left
  focus
   simp only [↓sbD,sbU,tyB,decide_false,↓reduceIte,Nat.reduceEqDiff,Nat.reduceLT,Nat.reduceAdd,Nat.reduceLeDiff,reduceCtorEq,pairs,isConst,splice,ZV.val,hq0]
   have hR : stepW (stepW (stepW (runW emp []) [⟨6,0,p.topic⟩]) [⟨8,0,cc⟩]) [⟨8,0,p.pay⟩] = runW emp (actsPb p cc) := by rw [stepW_app,stepW_app]; unfold actsPb; rw [if_neg hq0]; rfl
   have x5 := x4
   have z5 : leW _ (0 + (p.topic.size + 4) + (0 + 4)) := fun b hb => by have := z4 b hb; omega
   generalize stepW (runW emp []) [⟨6,0,p.topic⟩] = R5 at hR x5 z5
   have K5 := k3.trans k4
   clear x4 z4 k4
  all_goals
   refine specDoR (a := ⟨8,0,cc⟩) x5 (fun b hb => by have := z5 b hb; omega) (by simp only; omega) fun σA kA xA => ?_
   have zA := leW_step (a := ⟨8,0,cc⟩) z5
   simp only at zA
   simp only [↓sbD,sbU,tyB,↓reduceIte,Nat.reduceEqDiff,Nat.reduceLT,Nat.reduceAdd,Nat.reduceLeDiff,reduceCtorEq,pairs,splice,ZV.val]
   refine specDoR (a := ⟨8,0,p.pay⟩) xA (fun b hb => by have := zA b hb; omega) (by simp only; omega) fun σ6 k6 x6 => ?_
   have z6 := leW_step (a := ⟨8,0,p.pay⟩) zA
   simp only at z6
   rw [hR] at x6 z6
   have K6 := K5.trans (kA.trans k6)
   simp only [↓sbD,sbU,↓reduceIte,Nat.reduceEqDiff,Nat.reduceLT]
   have gb6 := (K6.at gb1 (by simp) (by simp)).1
   have gc6 := (K6.at gc1 (by simp) (by simp)).1
   refine specKMade x6 (fun bb hbb => ?_) fun k q hr hk => ?_
   ·have hle := z6 bb hbb
    simp only [↓sbD,sbU,tyB,↓reduceIte,Nat.reduceEqDiff,Nat.reduceLT,AS_new,zeFra,zeFlt]
    intro d hd e he
    have hed : e ≠ d := by rintro rfl; rw [AHeap.get_set_same] at he; cases he
    replace he : (σ6).get e = .dead := by rw [AHeap.get_set_ne _ _ hed.symm] at he; exact he
    have ed : ∀ (τ : AHeap) o,(AHeap.set τ e o).get d = τ.get d := fun τ o => AHeap.get_set_ne _ _ hed
    have de : ∀ (τ : AHeap) o,(AHeap.set τ d o).get e = τ.get e := fun τ o => AHeap.get_set_ne _ _ hed.symm
    simp only [↓sbD,sbU,tyB,decide_false,↓reduceIte,Nat.reduceEqDiff,Nat.reduceLT,Nat.reduceAdd,Nat.reduceLeDiff,reduceCtorEq,isConst,splice,ed,de]
    generalize hσ7 : AHeap.set (AHeap.set (AHeap.set (AHeap.set σ6 d _) e _) d _) e _ = σ7
    have k7 : Kept σ6 [x] σ7 [x] := by rw [← hσ7]; exact ((((Kept.refl _ _).setD hd).setD he).setD hd).setD he
    have gd7 : σ7.get d = .cells [.int .i64 (firstP p),.string bb] true 0 := by rw [← hσ7,ed]; exact AHeap.get_set_same _ _ _
    have ge7 : σ7.get e = .cells [.int .i64 0,.int .i64 0,.int .i64 0] true 0 := by rw [← hσ7]; exact AHeap.get_set_same _ _ _
    have K7 := (K6.trans k7).wid (gp := []) (gp' := []) (fun _ h => by cases h) (fun _ h => by cases h)
    clear hσ7
    refine specDPbDec (by omega) (fun y hy v2 σ8 hv2 k8 => ?_) fun k rr a hy hk σ8 k8 => ?_
    ·obtain ⟨up,uw,us,uf,uc,e1,e2,e3,e4,e5,rfl⟩ := hv2
     have K8 := K7.trans k8
     have gb8 := (K8.at gb1 (by simp) (by simp)).1
     have gc8 := (K8.at gc1 (by simp) (by simp)).1
     have gd8 := (k8.at gd7 (by simp) (by simp)).1
     simp only [pkC]
     have c1 := dl_vc e1
     have c2 := dl_vc e2
     have c3 := dl_vc e3
     have c4 := dl_vc e4
     have c5 := dl_vc e5
     simp only [↓sbD,sbU,tyB,↓reduceIte,Nat.reduceEqDiff,Nat.reduceLT,AS_new,zePk,zeFlt]
     intro i hi j hj
     have hji : j ≠ i := by rintro rfl; rw [AHeap.get_set_same] at hj; cases hj
     replace hj : (σ8).get j = .dead := by rw [AHeap.get_set_ne _ _ hji.symm] at hj; exact hj
     have ji : ∀ (τ : AHeap) o,(AHeap.set τ j o).get i = τ.get i := fun τ o => AHeap.get_set_ne _ _ hji
     have ij : ∀ (τ : AHeap) o,(AHeap.set τ i o).get j = τ.get j := fun τ o => AHeap.get_set_ne _ _ hji.symm
     simp only [↓sbD,sbU,tyB,decide_false,↓reduceIte,Nat.reduceEqDiff,Nat.reduceLT,Nat.reduceAdd,Nat.reduceLeDiff,reduceCtorEq,isConst,splice,ji,ij,c1.2,c2.2,c3.2,c4.2,c5.2]
     have hib : b ≠ i := (nd hi gb8 (by simp)).symm
     have hic : c ≠ i := (nd hi gc8 (by simp)).symm
     have hjb : b ≠ j := (nd hj gb8 (by simp)).symm
     have hjc : c ≠ j := (nd hj gc8 (by simp)).symm
     have hid : d ≠ i := (nd hi gd8 (by simp)).symm
     have hjd : d ≠ j := (nd hj gd8 (by simp)).symm
     generalize hσ9 : AHeap.set (AHeap.set (AHeap.set (AHeap.set σ8 i _) j _) i _) j _ = σ9
     have k9 : Kept σ8 [] σ9 [] := by rw [← hσ9]; exact ((((Kept.refl _ _).setD hi).setD hj).setD hi).setD hj
     have gj9 : σ9.get j = .cells [.int .i64 0,.int .i64 0,.int .i64 0] true 0 := by rw [← hσ9]; exact AHeap.get_set_same _ _ _
     have gd9 := (k9.at gd8 (by simp) (by simp)).1
     have K9 := K8.trans k9
     have gb9 := (K9.at gb1 (by simp) (by simp)).1
     have gc9 := (K9.at gc1 (by simp) (by simp)).1
     clear hσ9
     simp only [↓sbD,sbU,tyB,↓reduceIte,Nat.reduceEqDiff,Nat.reduceLT,Nat.reduceAdd,Nat.reduceLeDiff,pairs,splice,ZV.val,gd9,bc,cb,gb9,gc9,res_cellc,resC_some]
     exact downS_here (hok (firstP p,bb) (by unfold MadeR; rw [hbb]; exact ⟨_,hy,rfl⟩) _ (FIN K9))
    ·have hk0 : ¬ (k : Int) = 0 := by omega
     have K8 := K7.trans k8
     have gb8 := (K8.at gb1 (by simp) (by simp)).1
     have gc8 := (K8.at gc1 (by simp) (by simp)).1
     simp only [zeL,pkC,pkz]
     simp only [↓sbD,sbU,tyB,↓reduceIte,Nat.reduceEqDiff,Nat.reduceLT,AS_new,zePk,zeFlt]
     intro i hi j hj
     have hji : j ≠ i := by rintro rfl; rw [AHeap.get_set_same] at hj; cases hj
     replace hj : (σ8).get j = .dead := by rw [AHeap.get_set_ne _ _ hji.symm] at hj; exact hj
     have ji : ∀ (τ : AHeap) o,(AHeap.set τ j o).get i = τ.get i := fun τ o => AHeap.get_set_ne _ _ hji
     have ij : ∀ (τ : AHeap) o,(AHeap.set τ i o).get j = τ.get j := fun τ o => AHeap.get_set_ne _ _ hji.symm
     simp only [↓sbD,sbU,tyB,↓reduceIte,Nat.reduceEqDiff,Nat.reduceLT,Nat.reduceAdd,Nat.reduceLeDiff,reduceCtorEq,pairs,isConst,splice,ZV.val,ji,ij,hk0]
     generalize hσ9 : AHeap.set (AHeap.set (AHeap.set (AHeap.set σ8 i _) j _) i _) j _ = σ9
     have k9 : Kept σ8 [] σ9 [] := by rw [← hσ9]; exact ((((Kept.refl _ _).setD hi).setD hj).setD hi).setD hj
     have gj9 : σ9.get j = .cells [.int .i64 (k : Int),.int .i64 (rr : Int),.int .i64 (a : Int)] true 0 := by rw [← hσ9]; exact AHeap.get_set_same _ _ _
     have K9 := K8.trans k9
     have gb9 := (K9.at gb1 (by simp) (by simp)).1
     have gc9 := (K9.at gc1 (by simp) (by simp)).1
     have hjb : b ≠ j := by rintro rfl; rw [gb9] at gj9; cases gj9
     clear hσ9
     have bj : ∀ (τ : AHeap) o,(AHeap.set τ b o).get j = τ.get j := fun τ o => AHeap.get_set_ne _ _ hjb
     simp only [↓sbD,sbU,tyB,↓reduceIte,Nat.reduceEqDiff,Nat.reduceLT,Nat.reduceAdd,Nat.reduceLeDiff,splice,bc,gb9,gc9]
     refine drawS_l (fl := [(1,2)]) (by kernel_rfl) ?_ ?_
     rotate_left; simp only [lastP_cc,lastP_one]; rotate_left
     ·simp only [List.all_cons,List.all_nil,floatS,List.getElem?_cons_succ,List.getElem?_cons_zero,List.getElem?_toArray,Region.wanted,Bool.not_true,Bool.not_false,Bool.or_true,reads,looksWeak,aev_tmp,upd_at,↓reduceIte,Nat.reduceEqDiff,Nat.reduceLT,Nat.reduceAdd,blkOf,oeq_refl,dead_cells,Bool.and_self,Bool.false_eq_true,Bool.not_false,gj9,bj]
      try rfl
     simp only [↓sbD,sbU,tyB,↓reduceIte,Nat.reduceEqDiff,Nat.reduceLT,Nat.reduceAdd,Nat.reduceLeDiff,cb,res_cellc,resC_some]
     exact downS_here (hbad k rr a (by unfold MadeR; rw [hbb]; exact ⟨_,hy,rfl⟩) hk _ (FIN K9))
   ·have hk0 : ¬ (k : Int) = 0 := by omega
    simp only [↓sbD,sbU,tyB,↓reduceIte,Nat.reduceEqDiff,Nat.reduceLT,AS_new,zeFra,zeFlt]
    intro d hd e he
    have hed : e ≠ d := by rintro rfl; rw [AHeap.get_set_same] at he; cases he
    replace he : (σ6).get e = .dead := by rw [AHeap.get_set_ne _ _ hed.symm] at he; exact he
    have ed : ∀ (τ : AHeap) o,(AHeap.set τ e o).get d = τ.get d := fun τ o => AHeap.get_set_ne _ _ hed
    have de : ∀ (τ : AHeap) o,(AHeap.set τ d o).get e = τ.get e := fun τ o => AHeap.get_set_ne _ _ hed.symm
    simp only [↓sbD,sbU,tyB,↓reduceIte,Nat.reduceEqDiff,Nat.reduceLT,Nat.reduceAdd,Nat.reduceLeDiff,reduceCtorEq,isConst,splice,ed,de,hk0]
    generalize hσ7 : AHeap.set (AHeap.set (AHeap.set (AHeap.set σ6 d _) e _) d _) e _ = σ7
    have k7 : Kept σ6 [x] σ7 [x] := by rw [← hσ7]; exact ((((Kept.refl _ _).setD hd).setD he).setD hd).setD he
    have gd7 : σ7.get d = .cells [.int .i64 0,.string emp] true 0 := by rw [← hσ7,ed]; exact AHeap.get_set_same _ _ _
    have ge7 : σ7.get e = .cells [.int .i64 (k : Int),.int .i64 129,.int .i64 (q : Int)] true 0 := by rw [← hσ7]; exact AHeap.get_set_same _ _ _
    have K7 := (K6.trans k7).wid (gp := []) (gp' := []) (fun _ h => by cases h) (fun _ h => by cases h)
    clear hσ7
    have gb7 := (K7.at gb1 (by simp) (by simp)).1
    have gc7 := (K7.at gc1 (by simp) (by simp)).1
    have heb : b ≠ e := by rintro rfl; rw [gb7] at ge7; cases ge7
    have be : ∀ (τ : AHeap) o,(AHeap.set τ b o).get e = τ.get e := fun τ o => AHeap.get_set_ne _ _ heb
    simp only [↓sbD,sbU,tyB,↓reduceIte,Nat.reduceEqDiff,Nat.reduceLT,Nat.reduceAdd,Nat.reduceLeDiff,splice,bc,gb7,gc7]
    refine drawS_l (fl := [(1,2)]) (by kernel_rfl) ?_ ?_
    rotate_left; simp only [lastP_cc,lastP_one]; rotate_left
    ·simp only [List.all_cons,List.all_nil,floatS,List.getElem?_cons_succ,List.getElem?_cons_zero,List.getElem?_toArray,Region.wanted,Bool.not_true,Bool.not_false,Bool.or_true,reads,looksWeak,aev_tmp,upd_at,↓reduceIte,Nat.reduceEqDiff,Nat.reduceLT,Nat.reduceAdd,blkOf,oeq_refl,dead_cells,Bool.and_self,Bool.false_eq_true,Bool.not_false,ge7,be]
     try rfl
    simp only [↓sbD,sbU,tyB,↓reduceIte,Nat.reduceEqDiff,Nat.reduceLT,Nat.reduceAdd,Nat.reduceLeDiff,cb,res_cellc,resC_some]
    exact downS_here (hbad k 129 q (by unfold MadeR; rw [hr]) hk _ (FIN K7))
end
set_option maxHeartbeats 4000000
section
variable {σ : AHeap} {Q : Value → AHeap → Prop}
theorem fraEq {cs : Bool} {f : Int} {a : ByteArray} : abin E σ .eql 33 cs (.agg ⟨[.int .i64 f,.string a]⟩) (.agg ⟨[.int .i64 f,.string a]⟩) = some (.bool true) := by
 simp only [abin,nonNum,eqAsk,aeq,aeqs,apart,ty33,ty3,ty9,TI.isAgg,Bool.and_self,Bool.false_eq_true,List.getElem?_cons_zero,List.getElem?_cons_succ,↓reduceIte,beq_self_eq_true]
 have e1 : (a == a) = true := by rw [bytes_dec]; simp
 rw [e1]
 rfl
theorem specLsameNil (h : Q (.bool true) σ) : CallS E B 15 [.nilIface,flt 0 0 0] σ Q := by
 refine call15 (by simp) ?_
 simp only [strip,bodyOf,Tryz.f15,getD_body,keepN,bareOp_mk,lessOp_mk,List.map_cons,List.map_nil,↓reduceIte,Nat.reduceEqDiff,Bool.false_eq_true]
 simp only [↓sbD,sbU,↓reduceIte,Nat.reduceLT,reduceCtorEq,boxS,Edp,dpv]
 refine specNumberNil ?_
 simp only [↓sbD,sbU,tyB,Bool.or_self,↓reduceIte,Nat.reduceEqDiff,Nat.reduceLT,reduceCtorEq,isConst,eq_self]
 refine drawS_l (fl := [(3,1),(13,11),(19,17)]) (by kernel_rfl) ?_ ?_
 rotate_left; simp only [lastP_cc,lastP_one]; rotate_left
 ·simp only [List.all_cons,List.all_nil,floatS,List.getElem?_cons_succ,List.getElem?_cons_zero,List.getElem?_toArray,Region.wanted,Bool.not_true,Bool.or_true,Bool.true_and,reads,looksWeak,aev_tmp,upd_at,↓reduceIte,Nat.reduceEqDiff,Nat.reduceLT,Nat.reduceAdd,blkOf,oeq_refl,Bool.and_true,Bool.and_self,Bool.false_eq_true,yield_list,yield_here,yield_next,truth_bool]
  try rfl
 simp only [↓sbD,sbU,↓reduceIte,Nat.reduceLT]
 exact downS_here h
theorem specLsameE {d k r a : Nat} {z : Value} (he : ErN d (fv r a z) k) (hd : d ≤ 4) (h : Q (.bool true) σ) : CallS E B 15 [fv r a z,flt k r a] σ Q := by
 have hk := he.val
 have hk0 : ¬ (k : Int) = 0 := by omega
 refine call15 (by simp) ?_
 simp only [strip,bodyOf,Tryz.f15,getD_body,keepN,bareOp_mk,lessOp_mk,List.map_cons,List.map_nil,↓reduceIte,Nat.reduceEqDiff,Bool.false_eq_true]
 simp only [↓sbD,sbU,↓reduceIte,Nat.reduceLT,reduceCtorEq,boxS,Edp,dpv]
 refine specNumber he hd ?_
 simp only [↓sbD,sbU,tyB,decide_false,Bool.or_self,↓reduceIte,Nat.reduceEqDiff,Nat.reduceLT,reduceCtorEq,isConst,eq_self,hk0]
 refine specReason ?_
 simp only [↓sbD,sbU,tyB,Bool.or_self,↓reduceIte,Nat.reduceEqDiff,Nat.reduceLT,reduceCtorEq,isConst,eq_self]
 refine specAt ?_
 simp only [↓sbD,sbU,tyB,Bool.or_self,↓reduceIte,Nat.reduceEqDiff,Nat.reduceLT,reduceCtorEq,isConst,eq_self]
 refine drawS_l (fl := [(3,1),(13,11),(19,17)]) (by kernel_rfl) ?_ ?_
 rotate_left; simp only [lastP_cc,lastP_one]; rotate_left
 ·simp only [List.all_cons,List.all_nil,floatS,List.getElem?_cons_succ,List.getElem?_cons_zero,List.getElem?_toArray,Region.wanted,Bool.not_true,Bool.or_true,reads,looksWeak,aev_tmp,upd_at,↓reduceIte,Nat.reduceEqDiff,Nat.reduceLT,Nat.reduceAdd,blkOf,oeq_refl,Bool.and_true,Bool.and_self,Bool.false_eq_true,yield_list,yield_here,yield_next,truth_bool]
  try rfl
 simp only [↓sbD,sbU,↓reduceIte,Nat.reduceLT]
 exact downS_here h
end
theorem law7 {H : AHeap} {vs : List Value} (hB0 : Ext B H) (h : ArgsTyped E H 8 [29] vs) : CallW E 3 vs H fun r _ => r = .bool true := by
 obtain ⟨u,vs1,rfl,t1,e1⟩ := h.cons'
 obtain rfl := e1.nil'
 obtain ⟨p,hp,hfz⟩ := typed_pk t1
 clear t1 e1 h
 have key : CallS E B 3 [u] .empty fun r _ => r = .bool true := by
  have hp' := hp
  obtain ⟨vp,vw,vs,vf,vc,d1,d2,d3,d4,d5,rfl⟩ := hp'
  have hz := hfz _ rfl
  simp only [pkC] at hz hp hfz ⊢
  refine call3 (by simp) ?_
  simp only [strip,bodyOf,Tryz.f3,getD_body,keepN,bareOp_mk,List.map_cons,List.map_nil,↓reduceIte,Bool.false_eq_true]
  simp only [↓sbD,sbU,tyB,↓reduceIte,Nat.reduceEqDiff,Nat.reduceLT,Nat.reduceAdd,Nat.reduceLeDiff,boxS,Edp,dpv,hz]
  refine specKFew hp hfz fun few hfew => ?_
  cases few with
  | false =>
   simp only [↓sbD,sbU,↓reduceIte,Nat.reduceLT,not_bool]
   refine specS12 ?_
   simp only [↓sbD,sbU,↓reduceIte,Nat.reduceLT]
   exact downS_here rfl
  | true =>
   have hf := hfew rfl
   simp only [↓sbD,sbU,tyB,↓reduceIte,Nat.reduceEqDiff,Nat.reduceLT,Nat.reduceAdd,Nat.reduceLeDiff,not_bool]
   refine specPbEnc hp hf.big (fun fb he σ1 k1 => ?_) fun k rr a he σ1 d z k1 hd hn => ?_
   ·simp only [↓sbD,sbU,tyB,↓reduceIte,Nat.reduceEqDiff,Nat.reduceLT,Nat.reduceAdd,Nat.reduceLeDiff,splice,AS_new,zeFra]
    intro b hb
    generalize hσ2 : AHeap.set (AHeap.set σ1 b _) b _ = σ2
    have gb : σ2.get b = .cells [.int .i64 fb.1,.string fb.2] true 0 := by rw [← hσ2]; exact AHeap.get_set_same _ _ _
    clear hσ2
    refine specDPbEnc hp hf (fun fc he' σ3 k3 => ?_) fun k rr a he' hk σ3 k3 => by cases he.det he'
    have hfc := he.det he'
    simp only [Except.ok.injEq] at hfc
    subst hfc
    have gb3 := (k3.at gb (by simp) (by simp)).1
    simp only [↓sbD,sbU,tyB,↓reduceIte,Nat.reduceEqDiff,Nat.reduceLT,AS_new,zeFra,zeFlt]
    intro c hc e he2
    have hbc : b ≠ c := (nd hc gb3 (by simp)).symm
    have hec : e ≠ c := by rintro rfl; rw [AHeap.get_set_same] at he2; cases he2
    replace he2 : σ3.get e = .dead := by rw [AHeap.get_set_ne _ _ hec.symm] at he2; exact he2
    have hbe : b ≠ e := (nd he2 gb3 (by simp)).symm
    have ec : ∀ (τ : AHeap) o,(AHeap.set τ e o).get c = τ.get c := fun τ o => AHeap.get_set_ne _ _ hec
    have ce : ∀ (τ : AHeap) o,(AHeap.set τ c o).get e = τ.get e := fun τ o => AHeap.get_set_ne _ _ hec.symm
    have cb : ∀ (τ : AHeap) o,(AHeap.set τ c o).get b = τ.get b := fun τ o => AHeap.get_set_ne _ _ hbc.symm
    have eb : ∀ (τ : AHeap) o,(AHeap.set τ e o).get b = τ.get b := fun τ o => AHeap.get_set_ne _ _ hbe.symm
    simp only [↓sbD,sbU,tyB,Bool.or_self,↓reduceIte,Nat.reduceEqDiff,Nat.reduceLT,Nat.reduceAdd,Nat.reduceLeDiff,isConst,splice,ec,ce,cb,eb,gb3,eq_self,fraEq]
    refine specLsameNil ?_
    simp only [↓sbD,sbU,↓reduceIte,Nat.reduceEqDiff,Nat.reduceLT]
    refine specS12 ?_
    simp only [↓sbD,sbU,↓reduceIte,Nat.reduceEqDiff,Nat.reduceLT]
    exact downS_here rfl
   ·simp only [↓sbD,sbU,tyB,↓reduceIte,Nat.reduceEqDiff,Nat.reduceLT,Nat.reduceAdd,Nat.reduceLeDiff,splice,AS_new,zeFra]
    intro b hb
    generalize hσ2 : AHeap.set (AHeap.set σ1 b _) b _ = σ2
    have gb : σ2.get b = .cells [.int .i64 0,.string emp] true 0 := by rw [← hσ2]; exact AHeap.get_set_same _ _ _
    clear hσ2
    refine specDPbEnc hp hf (fun fc he' σ3 k3 => by cases he.det he') fun k' rr' a' he' hk σ3 k3 => ?_
    have hfc := he.det he'
    simp only [Except.error.injEq,Prod.mk.injEq] at hfc
    obtain ⟨rfl,rfl,rfl⟩ := hfc
    have gb3 := (k3.at gb (by simp) (by simp)).1
    simp only [↓sbD,sbU,tyB,↓reduceIte,Nat.reduceEqDiff,Nat.reduceLT,AS_new,zeFra,zeFlt]
    intro c hc e he2
    have hbc : b ≠ c := (nd hc gb3 (by simp)).symm
    have hec : e ≠ c := by rintro rfl; rw [AHeap.get_set_same] at he2; cases he2
    replace he2 : σ3.get e = .dead := by rw [AHeap.get_set_ne _ _ hec.symm] at he2; exact he2
    have hbe : b ≠ e := (nd he2 gb3 (by simp)).symm
    have ec : ∀ (τ : AHeap) o,(AHeap.set τ e o).get c = τ.get c := fun τ o => AHeap.get_set_ne _ _ hec
    have ce : ∀ (τ : AHeap) o,(AHeap.set τ c o).get e = τ.get e := fun τ o => AHeap.get_set_ne _ _ hec.symm
    have cb : ∀ (τ : AHeap) o,(AHeap.set τ c o).get b = τ.get b := fun τ o => AHeap.get_set_ne _ _ hbc.symm
    have eb : ∀ (τ : AHeap) o,(AHeap.set τ e o).get b = τ.get b := fun τ o => AHeap.get_set_ne _ _ hbe.symm
    simp only [↓sbD,sbU,tyB,Bool.or_self,↓reduceIte,Nat.reduceEqDiff,Nat.reduceLT,Nat.reduceAdd,Nat.reduceLeDiff,isConst,splice,ec,ce,cb,eb,gb3,eq_self,fraEq]
    refine specLsameE hn (by omega) ?_
    simp only [↓sbD,sbU,↓reduceIte,Nat.reduceEqDiff,Nat.reduceLT]
    refine specS12 ?_
    simp only [↓sbD,sbU,↓reduceIte,Nat.reduceEqDiff,Nat.reduceLT]
    exact downS_here rfl
 exact (key H (ext_holds hB0)).mono fun r H' ⟨σ',_,h⟩ => h
end Go.Proofs.YtjkhhdknplelcaaGreatDoor.AbsA
