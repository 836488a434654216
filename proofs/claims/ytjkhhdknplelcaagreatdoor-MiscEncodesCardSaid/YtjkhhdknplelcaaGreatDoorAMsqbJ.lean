/-
  Parts of a law's proof.
-/
import Derived.Test.YtjkhhdknplelcaaGreatDoorAApqbJ
import Derived.Test.YtjkhhdknplelcaaGreatDoorABxqbJ
namespace Go.Proofs.YtjkhhdknplelcaaGreatDoor.AbsA
open Go AbsYtjkhhdknplelcaaGreatDoor Abs
set_option maxRecDepth 100000
set_option maxHeartbeats 4000000
set_option linter.unusedSimpArgs false
set_option linter.unusedVariables false
def firstM (k : Int) : Int := if k = 12 ∨ k = 13 ∨ k = 14 ∨ k = 15 then 16 * k else 0
def msP (kind rea : Int) (l : List Pr) : Pk := { pkz with kind := kind,rea := rea,props := l }
def msM (kind : Int) : Except E3 (Int × List Pr) → Except E3 Pk
 | .error e => .error e
 | .ok (c,l) => .ok (msP kind c l)
def msEnd (kind : Int) (s : ByteArray) : Except E3 Pk := if s.size = 0 then .ok (msP kind 0 []) else .error (2,129,0)
def DecM (f : Int) (s : ByteArray) (r : Except E3 Pk) : Prop :=
 if f ≤ 0 ∨ f ≠ firstM (f / 16) then r = .error (2,129,0)
 else if f / 16 < 14 then r = msEnd (f / 16) s
 else ∃ x,TailA (f / 16) 0 s 0 x ∧ r = msM (f / 16) x
theorem DecM.det {f : Int} {s : ByteArray} {r r' : Except E3 Pk} (h : DecM f s r) (h' : DecM f s r') : r = r' := by
 unfold DecM at h h'
 split at h
 ·rename_i h1
  rw [if_pos h1] at h'
  exact h.trans h'.symm
 ·rename_i h1
  rw [if_neg h1] at h'
  split at h
  ·rename_i h2
   rw [if_pos h2] at h'
   exact h.trans h'.symm
  ·rename_i h2
   rw [if_neg h2] at h'
   obtain ⟨x,h3,rfl⟩ := h
   obtain ⟨y,h4,rfl⟩ := h'
   rw [h3.det h4]
def actsM (p : Pk) (s : ByteArray) : List Act := if p.kind < 14 then [] else if p.props = [] then (if p.rea = 0 then [] else [⟨1,p.rea,emp⟩]) else [⟨1,p.rea,emp⟩,⟨8,0,s⟩]
def preM (p : Pk) : Option E3 := if firstM p.kind = 0 then some (7,128,0) else none
def propsM (p : Pk) : Except E3 ByteArray := if p.kind < 14 then .ok emp else propsB p.kind p.props
abbrev EncM (p : Pk) (r : Except E3 (Int × ByteArray)) : Prop := EncG (preM p) (propsM p) (firstM p.kind) (DecM (firstM p.kind)) (actsM p) r
theorem EncM.det {p : Pk} {r r' : Except E3 (Int × ByteArray)} (h : EncM p r) (h' : EncM p r') : r = r' := EncG.det (D := DecM (firstM p.kind)) (fun _ _ _ h1 h2 => h1.det h2) h h'
theorem firstM_kind {k : Int} (h : firstM k ≠ 0) : firstM k / 16 = k ∧ 0 < firstM k ∧ (k = 12 ∨ k = 13 ∨ k = 14 ∨ k = 15) := by
 unfold firstM at h ⊢
 split
 ·rename_i h1; omega
 ·rename_i h1; rw [if_neg h1] at h; exact absurd rfl h
theorem alw_0 {k : Int} (h : k = 14 ∨ k = 15) : alw k ((0 : Nat) : Int) = true := by
 rcases h with rfl | rfl <;> decide
set_option maxHeartbeats 8000000
attribute [local irreducible] afterS afterOpS opSK OpsS TrS CodeS condS condW thenS thenQ guardS guardTS outS drawS trSK consS
theorem shl_12 {σ : AHeap} {t : Nat} {cs : Bool} : abin E σ .shl t cs (.int .i64 12) (.int .u64 4) = some (.int .i64 192) := rfl
theorem shl_13 {σ : AHeap} {t : Nat} {cs : Bool} : abin E σ .shl t cs (.int .i64 13) (.int .u64 4) = some (.int .i64 208) := rfl
theorem shl_14 {σ : AHeap} {t : Nat} {cs : Bool} : abin E σ .shl t cs (.int .i64 14) (.int .u64 4) = some (.int .i64 224) := rfl
theorem shl_15 {σ : AHeap} {t : Nat} {cs : Bool} : abin E σ .shl t cs (.int .i64 15) (.int .u64 4) = some (.int .i64 240) := rfl
section
variable {σ : AHeap} {Q : Value → AHeap → Prop} {s : ByteArray}
theorem specMsFirst {k : Int} (h : Q (.int .i64 (firstM k)) σ) : CallS E B 78 [.int .i64 k] σ Q := by
 refine call78 (by simp) ?_
 simp only [strip,bodyOf,Tryz.f78,getD_body,keepN,bareOp_mk,List.map_cons,List.map_nil,↓reduceIte,Bool.false_eq_true]
 by_cases hm : k = 12 ∨ k = 13 ∨ k = 14 ∨ k = 15
 ·rcases hm with rfl | rfl | rfl | rfl <;>
   (simp only [↓sbD,sbU,Int.reduceEq,decide_false,↓reduceIte,Nat.reduceEqDiff,Nat.reduceLT,reduceCtorEq,isConst,shl_12,shl_13,shl_14,shl_15]
    exact downS_here h)
 ·have e : firstM k = 0 := if_neg hm
  simp only [not_or] at hm
  rw [e] at h
  obtain ⟨n1,n2,n3,n4⟩ := hm
  simp only [↓sbD,sbU,decide_false,↓reduceIte,Nat.reduceEqDiff,Nat.reduceLT,reduceCtorEq,isConst,n1,n2,n3,n4]
  exact downS_here h
theorem firstM_le (k : Int) : 0 ≤ firstM k ∧ firstM k ≤ 240 := by
 unfold firstM
 split <;> omega
theorem specTells {k : Int} (h : Q (.bool (decide (k = 14 ∨ k = 15))) σ) : CallS E B 79 [.int .i64 k] σ Q := by
 refine call79 (by simp) ?_
 simp only [strip,bodyOf,Tryz.f79,getD_body,keepN,bareOp_mk,List.map_cons,List.map_nil,↓reduceIte,Bool.false_eq_true]
 by_cases h1 : k = 14
 ·have e : decide (k = 14 ∨ k = 15) = true := decide_eq_true (.inl h1)
  rw [e] at h
  simp only [↓sbD,sbU,↓reduceIte,Nat.reduceEqDiff,Nat.reduceLT,reduceCtorEq,isConst,h1]
  exact downS_here h
 by_cases h2 : k = 15
 ·have e : decide (k = 14 ∨ k = 15) = true := decide_eq_true (.inr h2)
  rw [e] at h
  simp only [↓sbD,sbU,Int.reduceEq,decide_false,↓reduceIte,Nat.reduceEqDiff,Nat.reduceLT,reduceCtorEq,isConst,h2]
  exact downS_here h
 have e : decide (k = 14 ∨ k = 15) = false := decide_eq_false (fun h => h.elim h1 h2)
 rw [e] at h
 simp only [↓sbD,sbU,decide_false,↓reduceIte,Nat.reduceEqDiff,Nat.reduceLT,reduceCtorEq,isConst,h1,h2]
 exact downS_here h
theorem Kept.addD {σ σ' : AHeap} {fp : List Nat} {x d : Nat} (k : Kept σ fp σ' [x]) (hd : σ.get d = .dead) : Kept σ fp σ' [x,d] := ⟨k.get,fun b hb => by
 simp only [List.mem_cons,List.not_mem_nil,or_false] at hb
 rcases hb with rfl | rfl
 ·exact k.new b (by simp)
 ·exact .inr hd⟩
theorem specAlwR' {k c c' : Int} (e : c' = c) (h : Q (.bool (alw k c)) σ) : CallS E B 123 [.int .i64 k,.int .i64 c'] σ Q := by
 subst e; exact specAlwR h
theorem specMsRead {k : Int} {r y : Nat} (hk : k = 14 ∨ k = 15) (hr : IsR σ r s 0 .nilIface) (hs : s.size ≤ 100000000) (hyr : y ≠ r) (gy : σ.get y = .cells [.int .i64 k,.int .i64 0,.int .i64 0,.slice none 0 0,.bool false,.int .i64 0,.string emp,.bool false,.string emp,.string emp,.int .i64 0,.bool false,.slice none 0 0,.bool false,.string emp,.bool false,.string emp,.bool false,.string emp,.string emp,.int .i64 0,.bool false,.bool false,.slice none 0 0,.slice none 0 0,.slice none 0 0] true 0)
  (hok : ∀ (c : Nat) l q,q ≤ s.size → TailA k 0 s 0 (tailE s c (.ok (l,q))) → ∀ v σ',DL propC 4 v l → Kept σ [r,y] σ' [r,y] → IsR σ' r s q .nilIface → σ'.get y = .cells [.int .i64 k,.int .i64 0,.int .i64 (c : Int),v,.bool false,.int .i64 0,.string emp,.bool false,.string emp,.string emp,.int .i64 0,.bool false,.slice none 0 0,.bool false,.string emp,.bool false,.string emp,.bool false,.string emp,.string emp,.int .i64 0,.bool false,.bool false,.slice none 0 0,.slice none 0 0,.slice none 0 0] true 0 → Q .nilIface σ')
  (hbad : ∀ kk rr a : Nat,TailA k 0 s 0 (.error (kk,rr,a)) → ∀ σ' d z,Kept σ [r,y] σ' [r,y] → d ≤ 3 → ErN d (fv rr a z) kk → Q (fv rr a z) σ') :
  CallS E B 83 [.pointer (some ⟨r,0,none⟩),.pointer (some ⟨y,0,none⟩)] σ Q := by
 have WI : ∀ {τ τ' : AHeap},Kept τ [r] τ' [r] → Kept τ [r,y] τ' [r,y] := fun k => k.wid (fun _ h => by simp only [List.mem_cons,List.not_mem_nil,or_false] at h ⊢; exact .inl h) (fun _ h => by simp only [List.mem_cons,List.not_mem_nil,or_false] at h ⊢; exact .inr h)
 unfold TailA at hok hbad
 refine call83 (by simp) ?_
 simp only [strip,bodyOf,Tryz.f83,getD_body,keepN,bareOp_mk,List.map_cons,List.map_nil,↓reduceIte,Bool.false_eq_true]
 simp (disch := first | assumption | simp) only [↓sbD,sbU,↓reduceIte,Nat.reduceLT,reduceCtorEq]
 refine specRLeft hr (Nat.zero_le _) (by omega) ?_
 obtain ⟨n,q,hcq⟩ : ∃ n q,codeR s 0 = (n,q) := ⟨_,_,rfl⟩
 rw [hcq] at hok hbad
 simp only at hok hbad
 by_cases hlt : 0 < s.size
 focus
  have h0 : (0 : Int) < ((s.size - 0 : Nat) : Int) := by omega
  obtain ⟨n0,hn⟩ := numR_one (q := 0) hlt
  have hc : codeR s 0 = (n0,0 + 1) := by unfold codeR; rw [hn]
  rw [hcq] at hc
  simp only [Prod.mk.injEq] at hc
  obtain ⟨rfl,hq0⟩ := hc
  simp (disch := first | assumption | simp) only [↓sbD,sbU,↓reduceIte,Nat.reduceEqDiff,Nat.reduceLT,reduceCtorEq,isConst,h0]
  refine specRU8 hr (Nat.zero_le _) (by omega) (fun n' q' hn' σ1 k1 i1 => ?_) fun k q' hn' σ1 k1 i1 => by rw [hn] at hn'; cases hn'
  rw [hn] at hn'
  simp only [Except.ok.injEq,Prod.mk.injEq] at hn'
  obtain ⟨rfl,rfl⟩ := hn'
  have gy1 := (k1.at gy (by simp) (by simp [hyr])).1
  simp (disch := first | assumption | simp) only [↓sbD,sbU,tyB,↓reduceIte,Nat.reduceEqDiff,Nat.reduceLT,Nat.reduceAdd,Nat.reduceLeDiff,reduceCtorEq,splice,gy1]
  generalize hσ2 : AHeap.set σ1 y _ = σ2
  have K2 : Kept σ [r,y] σ2 [r,y] := (WI k1).trans (by rw [← hσ2]; exact Kept.set (by simp))
  have i2 : IsR σ2 r s q .nilIface := by rw [hq0,← hσ2]; unfold IsR; rw [AHeap.get_set_ne _ _ hyr]; exact i1
  have gy2 : σ2.get y = .cells [.int .i64 k,.int .i64 0,.int .i64 (n : Int),.slice none 0 0,.bool false,.int .i64 0,.string emp,.bool false,.string emp,.string emp,.int .i64 0,.bool false,.slice none 0 0,.bool false,.string emp,.bool false,.string emp,.bool false,.string emp,.string emp,.int .i64 0,.bool false,.bool false,.slice none 0 0,.slice none 0 0,.slice none 0 0] true 0 := by rw [← hσ2]; exact AHeap.get_set_same _ _ _
  clear hσ2
  have hq1 : q ≤ s.size := by omega
  try simp (disch := first | assumption | simp) only [↓sbD,sbU,tyB,Nat.reduceMul,Nat.reduceSub,Int.reduceEq,Int.reduceLT,Int.reduceLE,Int.reduceNe,Nat.reduceBneDiff,Nat.reduceBEq,decide_false,gt_iff_lt,Bool.or_self,Bool.false_eq_true,Nat.mul_one,Nat.one_mul,Nat.zero_mul,↓reduceIte,Nat.reduceEqDiff,Nat.reduceLT,Nat.reduceAdd,Nat.reduceLeDiff,reduceCtorEq,goInt,pairs,isConst,TI.isAgg,splice,boxS,Edp,dpv,Nat.beq_eq,ZV.val,List.any_cons,List.any_nil,Bool.false_and,gy2]
  clear hn
  have hN : (n : Int) = (n : Int) := rfl
 rotate_left
 focus
  have h0 : ¬ (0 : Int) < ((s.size - 0 : Nat) : Int) := by omega
  obtain ⟨hn0,hq0⟩ : n = 0 ∧ q = 0 := by rw [codeR_at hlt] at hcq; simp only [Prod.mk.injEq] at hcq; exact ⟨hcq.1.symm,hcq.2.symm⟩
  simp (disch := first | assumption | simp) only [↓sbD,sbU,tyB,decide_false,↓reduceIte,Nat.reduceEqDiff,Nat.reduceLT,reduceCtorEq,isConst,h0,gy]
  have gy2 : σ.get y = .cells [.int .i64 k,.int .i64 0,.int .i64 (n : Int),.slice none 0 0,.bool false,.int .i64 0,.string emp,.bool false,.string emp,.string emp,.int .i64 0,.bool false,.slice none 0 0,.bool false,.string emp,.bool false,.string emp,.bool false,.string emp,.string emp,.int .i64 0,.bool false,.bool false,.slice none 0 0,.slice none 0 0,.slice none 0 0] true 0 := by rw [hn0]; exact gy
  have hN : (0 : Int) = (n : Int) := by omega
  have i2 : IsR σ r s q .nilIface := by rw [hq0]; exact hr
  have hq1 : q ≤ s.size := by omega
  have K2 : Kept σ [r,y] σ [r,y] := Kept.refl _ _
 all_goals
  refine specAlwR' hN ?_
  cases ha : alw k (n : Int) with
  | false =>
   simp only [ha,if_true] at hbad
   simp (disch := first | assumption | simp) only [↓sbD,sbU,tyB,↓reduceIte,Nat.reduceLT,not_bool,gk2]
   refine specNew (n := 2) ⟨by omega,by omega⟩ ?_
   simp (disch := first | assumption | simp) only [↓sbD,sbU,↓reduceIte,Nat.reduceLT]
   exact downS_here (hbad 2 129 _ rfl _ 1 _ K2 (by omega) (ErN.new _ _ ⟨by omega,by omega⟩))
  | true =>
   simp only [ha,Bool.true_eq_false,if_false] at hok hbad
   simp (disch := first | assumption | simp) only [↓sbD,sbU,↓reduceIte,Nat.reduceLT,reduceCtorEq,not_bool]
   refine specRLeft i2 hq1 (by omega) ?_
   by_cases hl2 : q < s.size
   ·have h2 : ¬ ((s.size - q : Nat) : Int) = 0 := by omega
    simp only [hl2,if_true] at hok hbad
    simp (disch := first | assumption | simp) only [↓sbD,sbU,tyB,decide_false,↓reduceIte,Nat.reduceEqDiff,Nat.reduceLT,reduceCtorEq,isConst,h2,gy2]
    refine specPRead i2 hq1 hs (fun l q2 hrd v σ3 hv k3 i3 hq2 => ?_) fun kk rr a hrd σ3 d z k3 hd he => ?_
    all_goals
     have gy3 := (k3.at gy2 (by simp) (by simp [hyr])).1
    ·have hvc := dl_vc hv
     simp (disch := first | assumption | simp) only [↓sbD,sbU,tyB,↓reduceIte,Nat.reduceEqDiff,Nat.reduceLT,Nat.reduceAdd,Nat.reduceLeDiff,reduceCtorEq,splice,gy3,hvc.1,hvc.2]
     generalize hσ4 : AHeap.set σ3 y _ = σ4
     have K4 : Kept σ [r,y] σ4 [r,y] := (K2.trans (WI k3)).trans (by rw [← hσ4]; exact Kept.set (by simp))
     have i4 : IsR σ4 r s q2 .nilIface := by rw [← hσ4]; unfold IsR; rw [AHeap.get_set_ne _ _ hyr]; exact i3
     have gy4 : σ4.get y = .cells [.int .i64 k,.int .i64 0,.int .i64 (n : Int),v,.bool false,.int .i64 0,.string emp,.bool false,.string emp,.string emp,.int .i64 0,.bool false,.slice none 0 0,.bool false,.string emp,.bool false,.string emp,.bool false,.string emp,.string emp,.int .i64 0,.bool false,.bool false,.slice none 0 0,.slice none 0 0,.slice none 0 0] true 0 := by rw [← hσ4]; exact AHeap.get_set_same _ _ _
     clear hσ4
     try simp (disch := first | assumption | simp) only [↓sbD,sbU,tyB,Nat.reduceMul,Nat.reduceSub,Int.reduceEq,Int.reduceLT,Int.reduceLE,Int.reduceNe,Nat.reduceBneDiff,Nat.reduceBEq,decide_false,gt_iff_lt,Bool.or_self,Bool.false_eq_true,Nat.mul_one,Nat.one_mul,Nat.zero_mul,↓reduceIte,Nat.reduceEqDiff,Nat.reduceLT,Nat.reduceAdd,Nat.reduceLeDiff,reduceCtorEq,goInt,pairs,isConst,TI.isAgg,splice,boxS,Edp,dpv,Nat.beq_eq,ZV.val,List.any_cons,List.any_nil,Bool.false_and]
     exact downS_here (hok n l q2 hq2 ⟨_,hrd,rfl⟩ v _ hv K4 i4 gy4)
    ·simp (disch := first | assumption | simp) only [↓sbD,sbU,tyB,↓reduceIte,Nat.reduceEqDiff,Nat.reduceLT,Nat.reduceAdd,Nat.reduceLeDiff,reduceCtorEq,splice,gy3]
     exact downS_here (hbad kk rr a ⟨_,hrd,rfl⟩ _ d z ((K2.trans (WI k3)).trans (Kept.set (by simp))) hd he)
   ·have h2 : ((s.size - q : Nat) : Int) = 0 := by omega
    simp only [hl2,if_false] at hok hbad
    simp (disch := first | assumption | simp) only [↓sbD,sbU,↓reduceIte,Nat.reduceLT,isConst,h2]
    have hqe : q = s.size := by omega
    exact downS_here (hok n [] q hq1 (by simp only [tailE]; rw [if_pos hqe]) _ _ (.inl ⟨rfl,rfl⟩) K2 i2 gy2)
theorem specMsDec {f : Int} (hs : s.size ≤ 100000000)
  (hok : ∀ p,DecM f s (.ok p) → ∀ v σ',PkV p v → Kept σ [] σ' [] → Q (.tuple #[v,.nilIface]) σ')
  (hbad : ∀ k rr a : Nat,DecM f s (.error (k,rr,a)) → ∀ σ' d z,Kept σ [] σ' [] → d ≤ 3 → ErN d (fv rr a z) k → Q (.tuple #[.agg ⟨zeL⟩,fv rr a z]) σ') :
  CallS E B 35 [.agg ⟨[.int .i64 f,.string s]⟩] σ Q := by
 unfold DecM at hok hbad
 refine call35 (by simp) ?_
 simp only [strip,bodyOf,Tryz.f35,getD_body,keepN,bareOp_mk,lessOp_mk,List.map_cons,List.map_nil,↓reduceIte,Nat.reduceEqDiff,Bool.false_eq_true]
 have hsh : ∀ (σ : AHeap) (t : Nat) (cs : Bool),abin E σ .shr t cs (.int .i64 f) (.int .u64 4) = some (.int .i64 (f / 16)) := fun σ t cs => shr4
 by_cases h1 : f ≤ 0
 ·simp only [if_pos (show f ≤ 0 ∨ f ≠ firstM (f / 16) from .inl h1)] at hbad
  simp (disch := first | assumption | simp) only [↓sbD,sbU,tyB,↓reduceIte,Nat.reduceEqDiff,Nat.reduceLT,Nat.reduceAdd,Nat.reduceLeDiff,reduceCtorEq,pairs,isConst,splice,boxS,Edp,dpv,ZV.val,AS_new,zePk,hsh,h1]
  intro b hb d hd
  have hdb : d ≠ b := by rintro rfl; rw [AHeap.get_set_same] at hd; cases hd
  replace hd : σ.get d = .dead := by rw [AHeap.get_set_ne _ _ hdb.symm] at hd; exact hd
  have db : ∀ (τ : AHeap) o,(AHeap.set τ d o).get b = τ.get b := fun τ o => AHeap.get_set_ne _ _ hdb
  have bd : ∀ (τ : AHeap) o,(AHeap.set τ b o).get d = τ.get d := fun τ o => AHeap.get_set_ne _ _ hdb.symm
  try simp (disch := first | assumption | simp) only [↓sbD,sbU,tyB,Nat.reduceMul,Nat.reduceSub,Int.reduceEq,Int.reduceLT,Int.reduceLE,Int.reduceNe,Nat.reduceBneDiff,Nat.reduceBEq,decide_false,gt_iff_lt,Bool.or_self,Bool.false_eq_true,Nat.mul_one,Nat.one_mul,Nat.zero_mul,↓reduceIte,Nat.reduceEqDiff,Nat.reduceLT,Nat.reduceAdd,Nat.reduceLeDiff,reduceCtorEq,goInt,pairs,isConst,TI.isAgg,splice,boxS,Edp,dpv,Nat.beq_eq,ZV.val,List.any_cons,List.any_nil,Bool.false_and,AHeap.get_set_same,db,bd,h1]
  refine drawS_l (fl := [(5,8)]) (by kernel_rfl) ?_ ?_
  rotate_left; simp only [lastP_cc,lastP_one]; rotate_left
  ·simp only [List.all_cons,List.all_nil,floatS,List.getElem?_cons_succ,List.getElem?_cons_zero,List.getElem?_toArray,Region.wanted,reads,looksWeak,aev_tmp,upd_at,↓reduceIte,Nat.reduceEqDiff,Nat.reduceLT,Nat.reduceAdd,blkOf,oeq_refl,Bool.and_true,Bool.and_self,Bool.false_eq_true,yield_list,yield_here,yield_next,truth_bool]
   try rfl
  simp (disch := first | assumption | simp) only [↓sbD,sbU,tyB,↓reduceIte,Nat.reduceLT,pairs,ZV.val,gk2]
  refine specNew (n := 2) ⟨by omega,by omega⟩ ?_
  simp (disch := first | assumption | simp) only [↓sbD,sbU,tyB,↓reduceIte,Nat.reduceEqDiff,Nat.reduceLT,Nat.reduceAdd,Nat.reduceLeDiff,splice,db,res_cellc,resC_some]
  exact downS_here (hbad 2 129 0 rfl _ 1 _ (((((Kept.refl σ []).setD hb).setD hd).setD hd).setD hb) (by omega) (ErN.new _ _ ⟨by omega,by omega⟩))
 simp (disch := first | assumption | simp) only [↓sbD,sbU,tyB,decide_false,↓reduceIte,Nat.reduceEqDiff,Nat.reduceLT,Nat.reduceAdd,Nat.reduceLeDiff,reduceCtorEq,pairs,isConst,splice,boxS,Edp,dpv,ZV.val,AS_new,zePk,hsh,h1]
 intro b hb d hd
 have hdb : d ≠ b := by rintro rfl; rw [AHeap.get_set_same] at hd; cases hd
 replace hd : σ.get d = .dead := by rw [AHeap.get_set_ne _ _ hdb.symm] at hd; exact hd
 have db : ∀ (τ : AHeap) o,(AHeap.set τ d o).get b = τ.get b := fun τ o => AHeap.get_set_ne _ _ hdb
 have bd : ∀ (τ : AHeap) o,(AHeap.set τ b o).get d = τ.get d := fun τ o => AHeap.get_set_ne _ _ hdb.symm
 try simp (disch := first | assumption | simp) only [↓sbD,sbU,tyB,Nat.reduceMul,Nat.reduceSub,Int.reduceEq,Int.reduceLT,Int.reduceLE,Int.reduceNe,Nat.reduceBneDiff,Nat.reduceBEq,decide_false,gt_iff_lt,Bool.or_self,Bool.false_eq_true,Nat.mul_one,Nat.one_mul,Nat.zero_mul,↓reduceIte,Nat.reduceEqDiff,Nat.reduceLT,Nat.reduceAdd,Nat.reduceLeDiff,reduceCtorEq,goInt,pairs,isConst,TI.isAgg,splice,boxS,Edp,dpv,Nat.beq_eq,ZV.val,List.any_cons,List.any_nil,Bool.false_and,AHeap.get_set_same,db,bd,h1]
 refine specMsFirst ?_
 by_cases h2 : f = firstM (f / 16)
 rotate_left
 ·simp only [if_pos (show f ≤ 0 ∨ f ≠ firstM (f / 16) from .inr h2)] at hbad
  simp (disch := first | assumption | simp) only [↓sbD,sbU,Bool.or_self,↓reduceIte,Nat.reduceEqDiff,Nat.reduceLT,isConst,h2]
  refine drawS_l (fl := [(5,8)]) (by kernel_rfl) ?_ ?_
  rotate_left; simp only [lastP_cc,lastP_one]; rotate_left
  ·simp only [List.all_cons,List.all_nil,floatS,List.getElem?_cons_succ,List.getElem?_cons_zero,List.getElem?_toArray,Region.wanted,Bool.or_true,reads,looksWeak,aev_tmp,upd_at,↓reduceIte,Nat.reduceEqDiff,Nat.reduceLT,Nat.reduceAdd,blkOf,oeq_refl,Bool.and_true,Bool.and_self,Bool.false_eq_true,yield_list,yield_here,yield_next,truth_bool]
   try rfl
  simp (disch := first | assumption | simp) only [↓sbD,sbU,tyB,↓reduceIte,Nat.reduceLT,pairs,ZV.val,gk2]
  refine specNew (n := 2) ⟨by omega,by omega⟩ ?_
  simp (disch := first | assumption | simp) only [↓sbD,sbU,tyB,↓reduceIte,Nat.reduceEqDiff,Nat.reduceLT,Nat.reduceAdd,Nat.reduceLeDiff,splice,db,res_cellc,resC_some]
  exact downS_here (hbad 2 129 0 rfl _ 1 _ (((((Kept.refl σ []).setD hb).setD hd).setD hd).setD hb) (by omega) (ErN.new _ _ ⟨by omega,by omega⟩))
 have hne : ¬ (f ≤ 0 ∨ f ≠ firstM (f / 16)) := fun h => h.elim h1 fun h => h h2
 simp only [if_neg hne] at hok hbad
 simp (disch := first | assumption | simp) only [↓sbD,sbU,decide_false,Bool.or_self,↓reduceIte,Nat.reduceEqDiff,Nat.reduceLT,isConst,← h2]
 refine drawS_l (fl := [(5,8)]) (by kernel_rfl) ?_ ?_
 rotate_left; simp only [lastP_cc,lastP_one]; rotate_left
 ·simp only [List.all_cons,List.all_nil,floatS,List.getElem?_cons_succ,List.getElem?_cons_zero,List.getElem?_toArray,Region.wanted,Bool.or_true,reads,looksWeak,aev_tmp,upd_at,↓reduceIte,Nat.reduceEqDiff,Nat.reduceLT,Nat.reduceAdd,blkOf,oeq_refl,Bool.and_true,Bool.and_self,Bool.false_eq_true,yield_list,yield_here,yield_next,truth_bool]
  try rfl
 generalize hσ1 : AHeap.set _ d _ = σ1
 have K1 : Kept σ [] σ1 [] := by rw [← hσ1]; exact (((Kept.refl σ []).setD hb).setD hd).setD hd
 have gb1 : σ1.get b = .cells [.int .i64 0,.int .i64 0,.int .i64 0,.slice none 0 0,.bool false,.int .i64 0,.string emp,.bool false,.string emp,.string emp,.int .i64 0,.bool false,.slice none 0 0,.bool false,.string emp,.bool false,.string emp,.bool false,.string emp,.string emp,.int .i64 0,.bool false,.bool false,.slice none 0 0,.slice none 0 0,.slice none 0 0] true 0 := by rw [← hσ1,db,db]; exact AHeap.get_set_same _ _ _
 have gd1 : σ1.get d = .cells [.int .i64 (f / 16),.int .i64 0,.int .i64 0,.slice none 0 0,.bool false,.int .i64 0,.string emp,.bool false,.string emp,.string emp,.int .i64 0,.bool false,.slice none 0 0,.bool false,.string emp,.bool false,.string emp,.bool false,.string emp,.string emp,.int .i64 0,.bool false,.bool false,.slice none 0 0,.slice none 0 0,.slice none 0 0] true 0 := by rw [← hσ1]; exact AHeap.get_set_same _ _ _
 clear hσ1
 have kge : f / 16 = 12 ∨ f / 16 = 13 ∨ f / 16 = 14 ∨ f / 16 = 15 := by
  by_cases h : f / 16 = 12 ∨ f / 16 = 13 ∨ f / 16 = 14 ∨ f / 16 = 15
  ·exact h
  ·rw [firstM,if_neg h] at h2; exact absurd h2 (by omega)
 simp (disch := first | assumption | simp) only [↓sbD,sbU,tyB,↓reduceIte,Nat.reduceEqDiff,Nat.reduceLT,reduceCtorEq]
 refine specRNew fun x σ2 hx k2 i2 => ?_
 have hbx : b ≠ x := by rintro rfl; rw [gb1] at hx; cases hx
 have hdx : d ≠ x := by rintro rfl; rw [gd1] at hx; cases hx
 have K2 := K1.trans k2
 have gb2 := (k2.at gb1 (by simp) (by simp)).1
 have gd2 := (k2.at gd1 (by simp) (by simp)).1
 simp (disch := first | assumption | simp) only [↓sbD,sbU,tyB,↓reduceIte,Nat.reduceEqDiff,Nat.reduceLT,reduceCtorEq,gd2]
 refine specTells ?_
 by_cases h14 : f / 16 < 14
 ·have hd0 : decide (f / 16 = 14 ∨ f / 16 = 15) = false := decide_eq_false (by omega)
  simp only [if_pos h14] at hok hbad
  unfold msEnd at hok hbad
  simp (disch := first | assumption | simp) only [↓sbD,sbU,tyB,↓reduceIte,Nat.reduceEqDiff,Nat.reduceLT,isConst,hd0]
  refine specRDone i2 (Nat.zero_le _) (by omega) (fun hend => ?_) fun hmore => ?_
  ·simp only [if_pos hend.symm] at hok
   simp (disch := first | assumption | simp) only [↓sbD,sbU,tyB,↓reduceIte,Nat.reduceEqDiff,Nat.reduceLT,Nat.reduceAdd,Nat.reduceLeDiff,isConst,splice,gb2,gd2,res_cellc,resC_some]
   exact downS_here (hok _ rfl _ _ ⟨_,_,_,_,_,.inl ⟨rfl,rfl⟩,.inl ⟨rfl,rfl⟩,.inl ⟨rfl,rfl⟩,.inl ⟨rfl,rfl⟩,.inl ⟨rfl,rfl⟩,rfl⟩ ((K2.wid (gp := []) (gp' := []) (fun _ h => by cases h) (fun _ h => by cases h)).setD hb))
  ·simp only [if_neg (show ¬ s.size = 0 by omega)] at hbad
   simp (disch := first | assumption | simp) only [↓sbD,sbU,tyB,↓reduceIte,Nat.reduceEqDiff,Nat.reduceLT,Nat.reduceAdd,Nat.reduceLeDiff,pairs,isConst,splice,ZV.val,gb2,res_cellc,resC_some]
   exact downS_here (hbad 2 129 0 rfl _ 1 _ ((K2.wid (gp := []) (gp' := []) (fun _ h => by cases h) (fun _ h => by cases h)).setD hb) (by omega) (ErN.new _ _ ⟨by omega,by omega⟩))
 have TT : ∀ {σ' : AHeap},Kept σ2 [x,d] σ' [x,d] → Kept σ [] σ' [] := fun k3 => ((K2.addD hd).trans k3).none
 have hd1 : decide (f / 16 = 14 ∨ f / 16 = 15) = true := decide_eq_true (by omega)
 simp only [if_neg h14] at hok hbad
 simp (disch := first | assumption | simp) only [↓sbD,sbU,↓reduceIte,Nat.reduceEqDiff,Nat.reduceLT,hd1]
 refine specMsRead (by omega) i2 hs hdx gd2 (fun c l q hq ht v σ3 hv k3 i3 gd3 => ?_) fun kk rr a ht σ3 d' z k3 hd' he => ?_
 all_goals
  have gb3 := (k3.at gb2 (by simp) (by simp [hbx,Ne.symm hdb])).1
 rotate_left
 ·simp (disch := first | assumption | simp) only [↓sbD,sbU,tyB,↓reduceIte,Nat.reduceEqDiff,Nat.reduceLT,Nat.reduceAdd,Nat.reduceLeDiff,pairs,isConst,splice,ZV.val,gb3,res_cellc,resC_some]
  exact downS_here (hbad kk rr a ⟨_,ht,rfl⟩ _ d' z ((TT k3).setD hb) hd' he)
 have hvc := dl_vc hv
 simp (disch := first | assumption | simp) only [↓sbD,sbU,tyB,↓reduceIte,Nat.reduceEqDiff,Nat.reduceLT,isConst]
 refine specRDone i3 hq (by omega) (fun hend => ?_) fun hmore => ?_
 ·simp (disch := first | assumption | simp) only [↓sbD,sbU,tyB,↓reduceIte,Nat.reduceEqDiff,Nat.reduceLT,Nat.reduceAdd,Nat.reduceLeDiff,isConst,splice,gb3,gd3,hvc.2,res_cellc,resC_some]
  exact downS_here (hok _ ⟨_,by simp only [tailE,if_pos hend] at ht; exact ht,rfl⟩ _ _ ⟨_,_,_,_,_,hv,.inl ⟨rfl,rfl⟩,.inl ⟨rfl,rfl⟩,.inl ⟨rfl,rfl⟩,.inl ⟨rfl,rfl⟩,rfl⟩ ((TT k3).setD hb))
 ·simp (disch := first | assumption | simp) only [↓sbD,sbU,tyB,↓reduceIte,Nat.reduceEqDiff,Nat.reduceLT,Nat.reduceAdd,Nat.reduceLeDiff,pairs,isConst,splice,ZV.val,gb3,res_cellc,resC_some]
  exact downS_here (hbad 2 129 q ⟨_,by simp only [tailE,if_neg (show ¬ q = s.size by omega)] at ht; exact ht,rfl⟩ _ 1 _ ((TT k3).setD hb) (by omega) (ErN.new _ _ ⟨by omega,by omega⟩))
theorem specMsWrite {p : Pk} {v : Value} {w : Nat} (hp : PkV p v) (hsm : smallP p.props) (h14 : ¬ p.kind < 14) (w2 : WRun σ w (runW emp []) [w])
  (hok : ∀ c,propsB p.kind p.props = .ok c → ∀ σ' fp',Kept σ [w] σ' fp' → WRun σ' w (runW emp (actsM p c)) fp' → leW (runW emp (actsM p c)) 800000 → Q .nilIface σ')
  (hbad : ∀ k r a d z,propsB p.kind p.props = .error (k,r,a) → d ≤ 2 → ErN d (fv r a z) k → ∀ σ' fp',Kept σ [w] σ' fp' → Q (fv r a z) σ') :
  CallS E B 80 [.pointer (some ⟨w,0,none⟩),v] σ Q := by
 obtain ⟨vp,vw,vs,vf,vc,d1,d2,d3,d4,d5,rfl⟩ := hp
 obtain ⟨up,uw,us,uf,uc,d1,d2,d3,d4,d5,_,hbx⟩ := boxPk d1 d2 d3 d4 d5
 simp only [pkC] at hbx ⊢
 have hlen := DLp.len d1
 have eml : (emp).size = 0 := rfl
 have z2 : leW (runW emp []) 0 := fun b hb => by injection hb with hb; subst hb; exact Nat.le_refl _
 by_cases hpn : p.props = []
 ·have hl0 : ¬ (0 : Int) < (p.props.length : Int) := by rw [hpn]; exact fun h => by cases h
  have hpb : propsB p.kind p.props = .ok emp := by unfold propsB; rw [if_pos hpn]
  by_cases hr0 : p.rea = 0
  ·have hac : actsM p emp = [] := by unfold actsM; rw [if_neg h14,if_pos hpn,if_pos hr0]
   simp only [hr0] at hbx ⊢
   refine call80 (by simp) ?_
   simp only [strip,bodyOf,Tryz.f80,getD_body,keepN,bareOp_mk,List.map_cons,List.map_nil,↓reduceIte,Bool.false_eq_true]
   simp only [↓sbD,sbU,tyB,decide_false,↓reduceIte,Nat.reduceEqDiff,Nat.reduceLT,reduceCtorEq,isConst,hbx,hlen,hl0]
   exact downS_here (hok emp hpb _ _ (Kept.refl _ _) (by rw [hac]; exact w2) (by rw [hac]; exact fun b hb => by have := z2 b hb; omega))
  ·have hac : actsM p emp = [⟨1,p.rea,emp⟩] := by unfold actsM; rw [if_neg h14,if_pos hpn,if_neg hr0]
   refine call80 (by simp) ?_
   simp only [strip,bodyOf,Tryz.f80,getD_body,keepN,bareOp_mk,List.map_cons,List.map_nil,↓reduceIte,Bool.false_eq_true]
   simp only [↓sbD,sbU,tyB,decide_false,↓reduceIte,Nat.reduceEqDiff,Nat.reduceLT,reduceCtorEq,isConst,hbx,hlen,hl0,hr0]
   refine specU8R (s := emp) w2 (fun b hb => by have := z2 b hb; omega) fun σ3 fp3 k3 w3 => ?_
   have z3 := leW_step (a := ⟨1,p.rea,emp⟩) z2
   simp only [eml] at z3
   simp only [↓sbD,sbU,↓reduceIte,Nat.reduceEqDiff,Nat.reduceLT]
   exact downS_here (hok emp hpb _ _ k3 (by rw [hac]; exact w3) (by rw [hac]; exact fun b hb => by have := z3 b hb; omega))
 ·have hl0 : (0 : Int) < (p.props.length : Int) := by
   have : p.props.length ≠ 0 := fun h => hpn (List.length_eq_zero_iff.1 h)
   omega
  refine call80 (by simp) ?_
  simp only [strip,bodyOf,Tryz.f80,getD_body,keepN,bareOp_mk,List.map_cons,List.map_nil,↓reduceIte,Bool.false_eq_true]
  simp only [↓sbD,sbU,tyB,↓reduceIte,Nat.reduceEqDiff,Nat.reduceLT,reduceCtorEq,isConst,hbx,hlen,hl0]
  refine specU8R (s := emp) w2 (fun b hb => by have := z2 b hb; omega) fun σ3 fp3 k3 w3 => ?_
  have z3 := leW_step (a := ⟨1,p.rea,emp⟩) z2
  simp only [eml] at z3
  simp only [↓sbD,sbU,tyB,↓reduceIte,Nat.reduceEqDiff,Nat.reduceLT,reduceCtorEq]
  refine specPEncode d1 hsm (fun c hce hcz => ?_) fun k r a d z hce hd he => ?_
  ·have hpb : propsB p.kind p.props = .ok c := by unfold propsB; rw [if_neg hpn,hce]
   have hR : stepW (stepW (runW emp []) [⟨1,p.rea,emp⟩]) [⟨8,0,c⟩] = runW emp (actsM p c) := by rw [stepW_app]; unfold actsM; rw [if_neg h14,if_neg hpn]; rfl
   simp only [↓sbD,sbU,tyB,↓reduceIte,Nat.reduceEqDiff,Nat.reduceLT,reduceCtorEq,isConst]
   refine specRawR (n := 0) w3 (fun b hb => by have := z3 b hb; omega) (by omega) fun σ4 fp4 k4 w4 => ?_
   have z4 := leW_step (a := ⟨8,0,c⟩) z3
   simp only at z4
   rw [hR] at w4 z4
   simp only [↓sbD,sbU,↓reduceIte,Nat.reduceLT]
   exact downS_here (hok c hpb _ _ (k3.trans k4) w4 (fun b hb => by have := z4 b hb; omega))
  ·have hpb : propsB p.kind p.props = .error (k,r,a) := by unfold propsB; rw [if_neg hpn,hce]
   simp only [↓sbD,sbU,tyB,↓reduceIte,Nat.reduceEqDiff,Nat.reduceLT,isConst]
   exact downS_here (hbad k r a d z hpb hd he _ _ k3)
theorem specMsEnc {p : Pk} {v : Value} (hp : PkV p v) (hm : bigPk p)
  (hok : ∀ fb,EncM p (.ok fb) → ∀ σ',Kept σ [] σ' [] → Q (.tuple #[.agg ⟨[.int .i64 fb.1,.string fb.2]⟩,.nilIface]) σ')
  (hbad : ∀ k rr a : Nat,EncM p (.error (k,rr,a)) → ∀ σ' d z,Kept σ [] σ' [] → d ≤ 3 → ErN d (fv rr a z) k → Q (.tuple #[.agg ⟨[.int .i64 0,.string emp]⟩,fv rr a z]) σ') :
  CallS E B 32 [v] σ Q := by
 obtain ⟨vp,vw,vs,vf,vc,d1,d2,d3,d4,d5,rfl⟩ := hp
 obtain ⟨up,uw,us,uf,uc,d1,d2,d3,d4,d5,-,hbx⟩ := boxPk d1 d2 d3 d4 d5
 simp only [pkC] at hbx ⊢
 have eml : (emp).size = 0 := rfl
 unfold EncM EncG at hok hbad
 have fle := firstM_le p.kind
 have hpv : PkV p (.agg ⟨pkC p up uw us uf uc⟩) := ⟨_,_,_,_,_,d1,d2,d3,d4,d5,rfl⟩
 simp only [pkC] at hpv
 refine call32 (by simp) ?_
 simp only [strip,bodyOf,Tryz.f32,getD_body,keepN,bareOp_mk,List.map_cons,List.map_nil,↓reduceIte,Bool.false_eq_true]
 simp (disch := first | assumption | simp) only [↓sbD,sbU,tyB,↓reduceIte,Nat.reduceEqDiff,Nat.reduceLT,reduceCtorEq,AS_new,zeFra,hbx]
 intro b hb
 refine specMsFirst ?_
 by_cases h0 : firstM p.kind = 0
 ·have hpre : preM p = some (7,128,0) := if_pos h0
  simp only [hpre] at hbad
  simp (disch := first | assumption | simp) only [↓sbD,sbU,tyB,↓reduceIte,Nat.reduceLT,pairs,isConst,ZV.val,h0,gk7]
  refine specNew (n := 7) ⟨by omega,by omega⟩ ?_
  simp (disch := first | assumption | simp) only [↓sbD,sbU,tyB,↓reduceIte,Nat.reduceEqDiff,Nat.reduceLT,Nat.reduceAdd,Nat.reduceLeDiff,splice,res_cellc,resC_some]
  exact downS_here (hbad 7 128 0 rfl _ 1 _ (((Kept.refl σ []).setD hb).setD hb) (by omega) (ErN.new _ _ ⟨by omega,by omega⟩))
 have hpre : preM p = none := if_neg h0
 obtain ⟨_,_,kge⟩ := firstM_kind h0
 simp only [hpre] at hok hbad
 simp (disch := first | assumption | simp) only [↓sbD,sbU,tyB,decide_false,Bool.false_eq_true,↓reduceIte,Nat.reduceEqDiff,Nat.reduceLT,reduceCtorEq,pairs,isConst,boxS,Edp,ZV.val,Bool.false_and,h0,AS_new,dpW]
 generalize hσ1 : AHeap.set σ b _ = σ1
 have k1 : Kept σ [] σ1 [] := by rw [← hσ1]; exact (Kept.refl σ []).setD hb
 have gb1 : σ1.get b = .cells [.int .i64 0,.string emp] true 0 := by rw [← hσ1]; exact AHeap.get_set_same _ _ _
 clear hσ1
 intro w hw
 have hwb : w ≠ b := nd hw gb1 (by simp)
 generalize hσ2 : AHeap.set σ1 w _ = σ2
 have gw : σ2.get w = .cells [.slice none 0 0,.nilIface] true 0 := by rw [← hσ2]; exact AHeap.get_set_same _ _ _
 have k2 : Kept σ1 [] σ2 [w] := by rw [← hσ2]; exact Kept.new' hw
 have w2 : WRun σ2 w (runW emp []) [w] := ⟨_,[],gw,.inl ⟨rfl,rfl,rfl⟩,rfl,by simp⟩
 have z2 : leW (runW emp []) 0 := fun b hb => by injection hb with hb; subst hb; exact Nat.le_refl _
 clear gw hσ2
 refine specTells ?_
 by_cases h14 : p.kind < 14
 focus
  have hd0 : decide (p.kind = 14 ∨ p.kind = 15) = false := decide_eq_false (by omega)
  have hpm : propsM p = .ok emp := if_pos h14
  have hac : actsM p emp = [] := if_pos h14
  rw [hpm] at hok hbad
  simp only [hac] at hok hbad
  simp (disch := first | assumption | simp) only [↓sbD,sbU,↓reduceIte,Nat.reduceEqDiff,Nat.reduceLT,hd0]
  have K6 := k2
  have w6 := w2
  have z6 : leW (runW emp []) 800000 := fun b hb => by have := z2 b hb; omega
  refine specBytesR w6 (fun bb hbb => ?_) fun k q d z hr hd he => ?_
  ·have gbn := (K6.at gb1 (by simp) (by simp)).1
   have hle := z6 bb hbb
   simp (disch := first | assumption | simp) only [↓sbD,sbU,tyB,↓reduceIte,Nat.reduceEqDiff,Nat.reduceLT,reduceCtorEq]
   refine specMsFirst ?_
   simp (disch := first | assumption | simp) only [↓sbD,sbU,tyB,↓reduceIte,Nat.reduceEqDiff,Nat.reduceLT,Nat.reduceAdd,Nat.reduceLeDiff,pairs,isConst,splice,ZV.val,AS_new,zeFra]
   intro c hc
   have hcb : c ≠ b := nd hc gbn (by simp)
   generalize hσc : AHeap.set _ c _ = σc
   have kc : Kept σ2 [] σc [] := by rw [← hσc]; exact ((Kept.refl _ []).setD hc).setD hc
   have gc : σc.get c = .cells [.int .i64 (firstM p.kind),.string bb] true 0 := by rw [← hσc]; exact AHeap.get_set_same _ _ _
   clear hσc
   try simp (disch := first | assumption | simp) only [↓sbD,sbU,tyB,Nat.reduceMul,Nat.reduceSub,Int.reduceEq,Int.reduceLT,Int.reduceLE,Int.reduceNe,Nat.reduceBneDiff,Nat.reduceBEq,decide_false,gt_iff_lt,Bool.or_self,Bool.false_eq_true,Nat.mul_one,Nat.one_mul,Nat.zero_mul,↓reduceIte,Nat.reduceEqDiff,Nat.reduceLT,Nat.reduceAdd,Nat.reduceLeDiff,reduceCtorEq,goInt,pairs,isConst,TI.isAgg,splice,boxS,Edp,dpv,Nat.beq_eq,ZV.val,List.any_cons,List.any_nil,Bool.false_and,gc]
   refine specMsDec (by omega) (fun y hy v2 σd hv2 kd => ?_) fun k rr a hy σd d z kd hd he => ?_
   ·have gbd := ((kc.trans kd).at gbn (by simp) (by simp)).1
    have gcd := (kd.at gc (by simp) (by simp)).1
    simp (disch := first | assumption | simp) only [↓sbD,sbU,tyB,↓reduceIte,Nat.reduceEqDiff,Nat.reduceLT,Nat.reduceAdd,Nat.reduceLeDiff,isConst,splice,gcd,gbd,res_cellc,resC_some]
    exact downS_here (hok (firstM p.kind,bb) (by unfold MadeR; rw [hbb]; exact ⟨_,hy,rfl⟩) _ ((k1.trans ((K6.wid (gp := []) (gp' := []) (fun _ h => by cases h) (fun _ h => by cases h)).trans (kc.trans kd))).setD hb))
   ·have gbd := ((kc.trans kd).at gbn (by simp) (by simp)).1
    simp (disch := first | assumption | simp) only [↓sbD,sbU,tyB,↓reduceIte,Nat.reduceEqDiff,Nat.reduceLT,Nat.reduceAdd,Nat.reduceLeDiff,pairs,isConst,splice,ZV.val,gbd,res_cellc,resC_some]
    exact downS_here (hbad k rr a (by unfold MadeR; rw [hbb]; exact ⟨_,hy,rfl⟩) _ d z ((k1.trans ((K6.wid (gp := []) (gp' := []) (fun _ h => by cases h) (fun _ h => by cases h)).trans (kc.trans kd))).setD hb) hd he)
  ·have gbn := (K6.at gb1 (by simp) (by simp)).1
   simp (disch := first | assumption | simp) only [↓sbD,sbU,tyB,↓reduceIte,Nat.reduceEqDiff,Nat.reduceLT,reduceCtorEq]
   refine specMsFirst ?_
   simp (disch := first | assumption | simp) only [↓sbD,sbU,tyB,↓reduceIte,Nat.reduceEqDiff,Nat.reduceLT,Nat.reduceAdd,Nat.reduceLeDiff,pairs,isConst,splice,ZV.val,AS_new,zeFra]
   intro c hc
   have hcb : c ≠ b := nd hc gbn (by simp)
   have bc : ∀ (τ : AHeap) o,(AHeap.set τ c o).get b = τ.get b := fun τ o => AHeap.get_set_ne _ _ hcb
   simp (disch := first | assumption | simp) only [↓sbD,sbU,tyB,↓reduceIte,Nat.reduceEqDiff,Nat.reduceLT,Nat.reduceAdd,Nat.reduceLeDiff,splice,bc,gbn,res_cellc,resC_some]
   exact downS_here (hbad k 129 q (by unfold MadeR; rw [hr]) _ d z ((k1.trans ((K6.wid (gp := []) (gp' := []) (fun _ h => by cases h) (fun _ h => by cases h)).trans (((Kept.refl _ []).setD hc).setD hc))).setD hb) (by omega) he)
 have hd1 : decide (p.kind = 14 ∨ p.kind = 15) = true := decide_eq_true (by omega)
 have hpm : propsM p = propsB p.kind p.props := if_neg h14
 rw [hpm] at hok hbad
 simp (disch := first | assumption | simp) only [↓sbD,sbU,tyB,↓reduceIte,Nat.reduceEqDiff,Nat.reduceLT,Nat.reduceAdd,Nat.reduceLeDiff,hd1]
 refine specMsWrite hpv hm.props h14 w2 (fun c hpb σ6 fp6 k6 w6 z6 => ?_) fun k r a d z hpb hd he σ6 fp6 k6 => ?_
 all_goals
  rw [hpb] at hok hbad
  simp only at hok hbad
  have K6 := k2.trans k6
 rotate_left
 ·have gbn := (K6.at gb1 (by simp) (by simp)).1
  simp (disch := first | assumption | simp) only [↓sbD,sbU,tyB,↓reduceIte,Nat.reduceEqDiff,Nat.reduceLT,Nat.reduceAdd,Nat.reduceLeDiff,pairs,isConst,splice,ZV.val,gbn,res_cellc,resC_some]
  exact downS_here (hbad k r a rfl _ d z ((k1.trans (K6.wid (gp := []) (gp' := []) (fun _ h => by cases h) (fun _ h => by cases h))).setD hb) (by omega) he)
 simp (disch := first | assumption | simp) only [↓sbD,sbU,tyB,↓reduceIte,Nat.reduceEqDiff,Nat.reduceLT,isConst]
 refine specBytesR w6 (fun bb hbb => ?_) fun k q d z hr hd he => ?_
 ·have gbn := (K6.at gb1 (by simp) (by simp)).1
  have hle := z6 bb hbb
  simp (disch := first | assumption | simp) only [↓sbD,sbU,tyB,↓reduceIte,Nat.reduceEqDiff,Nat.reduceLT,reduceCtorEq]
  refine specMsFirst ?_
  simp (disch := first | assumption | simp) only [↓sbD,sbU,tyB,↓reduceIte,Nat.reduceEqDiff,Nat.reduceLT,Nat.reduceAdd,Nat.reduceLeDiff,pairs,isConst,splice,ZV.val,AS_new,zeFra]
  intro c hc
  have hcb : c ≠ b := nd hc gbn (by simp)
  generalize hσc : AHeap.set _ c _ = σc
  have kc : Kept σ6 [] σc [] := by rw [← hσc]; exact ((Kept.refl _ []).setD hc).setD hc
  have gc : σc.get c = .cells [.int .i64 (firstM p.kind),.string bb] true 0 := by rw [← hσc]; exact AHeap.get_set_same _ _ _
  clear hσc
  try simp (disch := first | assumption | simp) only [↓sbD,sbU,tyB,Nat.reduceMul,Nat.reduceSub,Int.reduceEq,Int.reduceLT,Int.reduceLE,Int.reduceNe,Nat.reduceBneDiff,Nat.reduceBEq,decide_false,gt_iff_lt,Bool.or_self,Bool.false_eq_true,Nat.mul_one,Nat.one_mul,Nat.zero_mul,↓reduceIte,Nat.reduceEqDiff,Nat.reduceLT,Nat.reduceAdd,Nat.reduceLeDiff,reduceCtorEq,goInt,pairs,isConst,TI.isAgg,splice,boxS,Edp,dpv,Nat.beq_eq,ZV.val,List.any_cons,List.any_nil,Bool.false_and,gc]
  refine specMsDec (by omega) (fun y hy v2 σd hv2 kd => ?_) fun k rr a hy σd d z kd hd he => ?_
  ·have gbd := ((kc.trans kd).at gbn (by simp) (by simp)).1
   have gcd := (kd.at gc (by simp) (by simp)).1
   simp (disch := first | assumption | simp) only [↓sbD,sbU,tyB,↓reduceIte,Nat.reduceEqDiff,Nat.reduceLT,Nat.reduceAdd,Nat.reduceLeDiff,isConst,splice,gcd,gbd,res_cellc,resC_some]
   exact downS_here (hok (firstM p.kind,bb) (by unfold MadeR; rw [hbb]; exact ⟨_,hy,rfl⟩) _ ((k1.trans ((K6.wid (gp := []) (gp' := []) (fun _ h => by cases h) (fun _ h => by cases h)).trans (kc.trans kd))).setD hb))
  ·have gbd := ((kc.trans kd).at gbn (by simp) (by simp)).1
   simp (disch := first | assumption | simp) only [↓sbD,sbU,tyB,↓reduceIte,Nat.reduceEqDiff,Nat.reduceLT,Nat.reduceAdd,Nat.reduceLeDiff,pairs,isConst,splice,ZV.val,gbd,res_cellc,resC_some]
   exact downS_here (hbad k rr a (by unfold MadeR; rw [hbb]; exact ⟨_,hy,rfl⟩) _ d z ((k1.trans ((K6.wid (gp := []) (gp' := []) (fun _ h => by cases h) (fun _ h => by cases h)).trans (kc.trans kd))).setD hb) hd he)
 ·have gbn := (K6.at gb1 (by simp) (by simp)).1
  simp (disch := first | assumption | simp) only [↓sbD,sbU,tyB,↓reduceIte,Nat.reduceEqDiff,Nat.reduceLT,reduceCtorEq]
  refine specMsFirst ?_
  simp (disch := first | assumption | simp) only [↓sbD,sbU,tyB,↓reduceIte,Nat.reduceEqDiff,Nat.reduceLT,Nat.reduceAdd,Nat.reduceLeDiff,pairs,isConst,splice,ZV.val,AS_new,zeFra]
  intro c hc
  have hcb : c ≠ b := nd hc gbn (by simp)
  have bc : ∀ (τ : AHeap) o,(AHeap.set τ c o).get b = τ.get b := fun τ o => AHeap.get_set_ne _ _ hcb
  simp (disch := first | assumption | simp) only [↓sbD,sbU,tyB,↓reduceIte,Nat.reduceEqDiff,Nat.reduceLT,Nat.reduceAdd,Nat.reduceLeDiff,splice,bc,gbn,res_cellc,resC_some]
  exact downS_here (hbad k 129 q (by unfold MadeR; rw [hr]) _ d z ((k1.trans ((K6.wid (gp := []) (gp' := []) (fun _ h => by cases h) (fun _ h => by cases h)).trans (((Kept.refl _ []).setD hc).setD hc))).setD hb) (by omega) he)
end
section
variable {σ : AHeap} {Q : Value → AHeap → Prop} {s : ByteArray}
theorem quoM {f : Int} {t : Nat} {cs : Bool} (h1 : 0 < f) (h2 : f ≤ 1000000000000) : abin E σ .quo t cs (.int .i64 f) (.int .i64 16) = some (.int .i64 (f / 16)) := by
 have h0 : ¬ (16 : Int) = 0 := by decide
 show (if (16 : Int) = 0 then none else some (Value.int .i64 (IntKind.i64.wrap (f.tdiv 16)))) = _
 rw [if_neg h0,Int.tdiv_eq_ediv_of_nonneg (by omega),wrap64 ⟨by omega,by omega⟩]
theorem quoMn {f : Int} {t : Nat} {cs : Bool} : abin E σ .quo t cs (.int .i64 f) (.int .i64 16) = some (.int .i64 (IntKind.i64.wrap (f.tdiv 16))) := by
 have h0 : ¬ (16 : Int) = 0 := by decide
 show (if (16 : Int) = 0 then none else some (Value.int .i64 (IntKind.i64.wrap (f.tdiv 16)))) = _
 rw [if_neg h0]
theorem specRFirstM {k : Int} (h : Q (.int .i64 (firstM k)) σ) : CallS E B 81 [.int .i64 k] σ Q := by
 refine call81 (by simp) ?_
 simp only [strip,bodyOf,Tryz.f81,getD_body,keepN,bareOp_mk,List.map_cons,List.map_nil,↓reduceIte,Bool.false_eq_true]
 by_cases hm : k = 12 ∨ k = 13 ∨ k = 14 ∨ k = 15
 ·rcases hm with rfl | rfl | rfl | rfl <;>
   (simp only [↓sbD,sbU,Int.reduceEq,decide_false,↓reduceIte,Nat.reduceEqDiff,Nat.reduceLT,reduceCtorEq,isConst]
    exact downS_here h)
 ·have e : firstM k = 0 := if_neg hm
  simp only [not_or] at hm
  rw [e] at h
  obtain ⟨n1,n2,n3,n4⟩ := hm
  simp only [↓sbD,sbU,decide_false,↓reduceIte,Nat.reduceEqDiff,Nat.reduceLT,reduceCtorEq,isConst,n1,n2,n3,n4]
  exact downS_here h
theorem specDMsDec {f : Int} (hf2 : f ≤ 1000000000000) (hs : s.size ≤ 100000000)
  (hok : ∀ p,DecM f s (.ok p) → ∀ v σ',PkV p v → Kept σ [] σ' [] → Q (.tuple #[v,flt 0 0 0]) σ')
  (hbad : ∀ k rr a : Nat,DecM f s (.error (k,rr,a)) → k ≠ 0 → ∀ σ',Kept σ [] σ' [] → Q (.tuple #[.agg ⟨zeL⟩,flt k rr a]) σ') :
  CallS E B 82 [.agg ⟨[.int .i64 f,.string s]⟩] σ Q := by
 unfold DecM at hok hbad
 refine call82 (by simp) ?_
 simp only [strip,bodyOf,Tryz.f82,getD_body,keepN,bareOp_mk,lessOp_mk,lapp_cons,lapp_nil,List.map_cons,List.map_nil,↓reduceIte,Nat.reduceEqDiff,Bool.false_eq_true]
 by_cases h1 : f ≤ 0
 ·simp only [if_pos (show f ≤ 0 ∨ f ≠ firstM (f / 16) from .inl h1)] at hbad
  have hq : ∀ (τ : AHeap) (t : Nat) (cs : Bool),abin E τ .quo t cs (.int .i64 f) (.int .i64 16) = some (.int .i64 (IntKind.i64.wrap (f.tdiv 16))) := fun τ t cs => quoMn
  simp (disch := first | assumption | simp) only [↓sbD,sbU,tyB,↓reduceIte,Nat.reduceEqDiff,Nat.reduceLT,reduceCtorEq,isConst,boxS,Edp,dpv,AS_new,zePk,zeFlt,hq,h1]
  intro b hb c hc
  have hcb : c ≠ b := by rintro rfl; rw [AHeap.get_set_same] at hc; cases hc
  have hcd : σ.get c = .dead := by rw [AHeap.get_set_ne _ _ hcb.symm] at hc; exact hc
  have cb : ∀ (τ : AHeap) o,(AHeap.set τ c o).get b = τ.get b := fun τ o => AHeap.get_set_ne _ _ hcb
  have bc : ∀ (τ : AHeap) o,(AHeap.set τ b o).get c = τ.get c := fun τ o => AHeap.get_set_ne _ _ hcb.symm
  clear hc
  refine drawS_l (fl := [(5,7)]) (by kernel_rfl) ?_ ?_
  rotate_left; simp only [lastP_cc,lastP_one]; rotate_left
  ·simp only [List.all_cons,List.all_nil,floatS,List.getElem?_cons_succ,List.getElem?_cons_zero,List.getElem?_toArray,Region.wanted,reads,looksWeak,aev_tmp,upd_at,↓reduceIte,Nat.reduceEqDiff,Nat.reduceLT,Nat.reduceAdd,blkOf,oeq_refl,Bool.and_true,Bool.and_self,Bool.false_eq_true,yield_list,yield_here,yield_next,truth_bool]
   try rfl
  simp (disch := first | assumption | simp) only [↓sbD,sbU,tyB,↓reduceIte,Nat.reduceLT,pairs,ZV.val]
  refine specKBad (n := 0) ?_
  simp (disch := first | assumption | simp) only [↓sbD,sbU,tyB,↓reduceIte,Nat.reduceEqDiff,Nat.reduceLT,Nat.reduceAdd,Nat.reduceLeDiff,splice,bc,cb,res_cellc,resC_some]
  exact downS_here (hbad 2 129 0 rfl (by omega) _ (((((Kept.refl σ []).setD hb).setD hcd).setD hb).setD hcd))
 have hq : ∀ (τ : AHeap) (t : Nat) (cs : Bool),abin E τ .quo t cs (.int .i64 f) (.int .i64 16) = some (.int .i64 (f / 16)) := fun τ t cs => quoM (by omega) hf2
 simp (disch := first | assumption | simp) only [↓sbD,sbU,tyB,decide_false,↓reduceIte,Nat.reduceEqDiff,Nat.reduceLT,reduceCtorEq,isConst,boxS,Edp,dpv,AS_new,zePk,zeFlt,hq,h1]
 intro b hb c hc
 have hcb : c ≠ b := by rintro rfl; rw [AHeap.get_set_same] at hc; cases hc
 have hcd : σ.get c = .dead := by rw [AHeap.get_set_ne _ _ hcb.symm] at hc; exact hc
 have cb : ∀ (τ : AHeap) o,(AHeap.set τ c o).get b = τ.get b := fun τ o => AHeap.get_set_ne _ _ hcb
 have bc : ∀ (τ : AHeap) o,(AHeap.set τ b o).get c = τ.get c := fun τ o => AHeap.get_set_ne _ _ hcb.symm
 clear hc
 refine specRFirstM ?_
 by_cases h2 : f = firstM (f / 16)
 rotate_left
 ·simp only [if_pos (show f ≤ 0 ∨ f ≠ firstM (f / 16) from .inr h2)] at hbad
  simp (disch := first | assumption | simp) only [↓sbD,sbU,Bool.or_self,↓reduceIte,Nat.reduceEqDiff,Nat.reduceLT,isConst,h2]
  refine drawS_l (fl := [(5,7)]) (by kernel_rfl) ?_ ?_
  rotate_left; simp only [lastP_cc,lastP_one]; rotate_left
  ·simp only [List.all_cons,List.all_nil,floatS,List.getElem?_cons_succ,List.getElem?_cons_zero,List.getElem?_toArray,Region.wanted,Bool.or_true,reads,looksWeak,aev_tmp,upd_at,↓reduceIte,Nat.reduceEqDiff,Nat.reduceLT,Nat.reduceAdd,blkOf,oeq_refl,Bool.and_true,Bool.and_self,Bool.false_eq_true,yield_list,yield_here,yield_next,truth_bool]
   try rfl
  simp (disch := first | assumption | simp) only [↓sbD,sbU,tyB,↓reduceIte,Nat.reduceLT,pairs,ZV.val]
  refine specKBad (n := 0) ?_
  simp (disch := first | assumption | simp) only [↓sbD,sbU,tyB,↓reduceIte,Nat.reduceEqDiff,Nat.reduceLT,Nat.reduceAdd,Nat.reduceLeDiff,splice,bc,cb,res_cellc,resC_some]
  exact downS_here (hbad 2 129 0 rfl (by omega) _ (((((Kept.refl σ []).setD hb).setD hcd).setD hb).setD hcd))
 have hne : ¬ (f ≤ 0 ∨ f ≠ firstM (f / 16)) := fun h => h.elim h1 fun h => h h2
 simp only [if_neg hne] at hok hbad
 have kge : f / 16 = 12 ∨ f / 16 = 13 ∨ f / 16 = 14 ∨ f / 16 = 15 := by
  by_cases h : f / 16 = 12 ∨ f / 16 = 13 ∨ f / 16 = 14 ∨ f / 16 = 15
  ·exact h
  ·rw [firstM,if_neg h] at h2; exact absurd h2 (by omega)
 simp (disch := first | assumption | simp) only [↓sbD,sbU,decide_false,Bool.or_self,↓reduceIte,Nat.reduceEqDiff,Nat.reduceLT,isConst,← h2]
 refine drawS_l (fl := [(5,7)]) (by kernel_rfl) ?_ ?_
 rotate_left; simp only [lastP_cc,lastP_one]; rotate_left
 ·simp only [List.all_cons,List.all_nil,floatS,List.getElem?_cons_succ,List.getElem?_cons_zero,List.getElem?_toArray,Region.wanted,Bool.or_true,reads,looksWeak,aev_tmp,upd_at,↓reduceIte,Nat.reduceEqDiff,Nat.reduceLT,Nat.reduceAdd,blkOf,oeq_refl,Bool.and_true,Bool.and_self,Bool.false_eq_true,yield_list,yield_here,yield_next,truth_bool]
  try rfl
 generalize hσ1 : AHeap.set (AHeap.set σ b _) c _ = σ1
 have k1 : Kept σ [] σ1 [] := by rw [← hσ1]; exact ((Kept.refl σ []).setD hb).setD hcd
 have gb1 : σ1.get b = .cells zeL true 0 := by rw [← hσ1,cb]; exact AHeap.get_set_same _ _ _
 have gc1 : σ1.get c = .cells [.int .i64 0,.int .i64 0,.int .i64 0] true 0 := by rw [← hσ1]; exact AHeap.get_set_same _ _ _
 clear hσ1
 have FIN : ∀ {τ : AHeap} {o o' : AObj},Kept σ1 [] τ [] → Kept σ [] ((τ.set b o).set c o') [] := fun kt => ((k1.trans kt).setD hb).setD hcd
 simp (disch := first | assumption | simp) only [↓sbD,sbU,tyB,Bool.false_eq_true,↓reduceIte,Nat.reduceEqDiff,Nat.reduceLT,Nat.reduceAdd,Nat.reduceLeDiff,reduceCtorEq,pairs,splice,boxS,Edp,ZV.val,Bool.false_and,AS_new,dpRd]
 intro x hx
 have hbx : b ≠ x := (nd hx gb1 (by simp)).symm
 have hcx : c ≠ x := (nd hx gc1 (by simp)).symm
 generalize hσ2 : AHeap.set σ1 x _ = σ2
 have k2 : Kept σ1 [] σ2 [x] := by rw [← hσ2]; exact Kept.new' hx
 have i2 : IsY σ2 x s 0 0 0 := by rw [← hσ2]; exact AHeap.get_set_same _ _ _
 clear hσ2
 simp (disch := first | assumption | simp) only [↓sbD,sbU,tyB,↓reduceIte,Nat.reduceEqDiff,Nat.reduceLT,Nat.reduceAdd,Nat.reduceLeDiff,isConst,splice,AS_new,zePk]
 intro y hy
 have hyx : y ≠ x := by rintro rfl; rw [i2] at hy; cases hy
 generalize hσ3 : AHeap.set (AHeap.set σ2 y _) y _ = σ3
 have M3 : Kept σ2 [x] σ3 [x] := by rw [← hσ3]; exact ((Kept.refl _ _).setD hy).setD hy
 have i3 : IsY σ3 x s 0 0 0 := i2.kept (show Kept σ2 [] σ3 [] by rw [← hσ3]; exact ((Kept.refl _ []).setD hy).setD hy) (by simp)
 have gy3 : σ3.get y = .cells [.int .i64 (f / 16),.int .i64 0,.int .i64 0,.slice none 0 0,.bool false,.int .i64 0,.string emp,.bool false,.string emp,.string emp,.int .i64 0,.bool false,.slice none 0 0,.bool false,.string emp,.bool false,.string emp,.bool false,.string emp,.string emp,.int .i64 0,.bool false,.bool false,.slice none 0 0,.slice none 0 0,.slice none 0 0] true 0 := by rw [← hσ3]; exact AHeap.get_set_same _ _ _
 clear hσ3
 try simp (disch := first | assumption | simp) only [↓sbD,sbU,tyB,Nat.reduceMul,Nat.reduceSub,Int.reduceEq,Int.reduceLT,Int.reduceLE,Int.reduceNe,Nat.reduceBneDiff,Nat.reduceBEq,decide_false,gt_iff_lt,Bool.or_self,Bool.false_eq_true,Nat.mul_one,Nat.one_mul,Nat.zero_mul,↓reduceIte,Nat.reduceEqDiff,Nat.reduceLT,Nat.reduceAdd,Nat.reduceLeDiff,reduceCtorEq,goInt,pairs,isConst,TI.isAgg,splice,boxS,Edp,dpv,Nat.beq_eq,ZV.val,List.any_cons,List.any_nil,Bool.false_and]
 by_cases h14 : f / 16 < 14
 ·have h14' : ¬ (14 : Int) ≤ f / 16 := by omega
  simp only [if_pos h14] at hok hbad
  unfold msEnd at hok hbad
  have hq3 := Nat.zero_le s.size
  simp (disch := first | assumption | simp) only [↓sbD,sbU,decide_false,↓reduceIte,Nat.reduceEqDiff,Nat.reduceLT,isConst,h14']
  have K3 := k2.trans M3
  have gb3 := (K3.at gb1 (by simp) (by simp)).1
  have gc3 := (K3.at gc1 (by simp) (by simp)).1
  simp only [zeL,pkC,pkz] at gb3
  have T3 := K3.wid (gp := []) (gp' := []) (fun _ h => by cases h) (fun _ h => by cases h)
  refine specKOf i3 hq3 (fun hend => ?_) fun hmore => ?_
  ·simp (disch := first | assumption | simp) only [↓sbD,sbU,tyB,decide_false,↓reduceIte,Nat.reduceEqDiff,Nat.reduceLT,Nat.reduceAdd,Nat.reduceLeDiff,reduceCtorEq,isConst,splice,AS_new,zeFlt]
   intro g hg
   have hgb : b ≠ g := (nd hg gb3 (by simp)).symm
   have hgc : c ≠ g := (nd hg gc3 (by simp)).symm
   have gb : ∀ (τ : AHeap) o,(AHeap.set τ g o).get b = τ.get b := fun τ o => AHeap.get_set_ne _ _ hgb.symm
   have gc : ∀ (τ : AHeap) o,(AHeap.set τ g o).get c = τ.get c := fun τ o => AHeap.get_set_ne _ _ hgc.symm
   have bg : ∀ (τ : AHeap) o,(AHeap.set τ b o).get g = τ.get g := fun τ o => AHeap.get_set_ne _ _ hgb
   generalize hσ4 : AHeap.set (AHeap.set σ3 g _) g _ = σ4
   have k4 : Kept σ3 [] σ4 [] := by rw [← hσ4]; exact ((Kept.refl _ []).setD hg).setD hg
   have gg4 : σ4.get g = .cells [.int .i64 0,.int .i64 0,.int .i64 0] true 0 := by rw [← hσ4]; exact AHeap.get_set_same _ _ _
   clear hσ4
   have M4 : Kept σ2 [x] σ4 [x] := M3.trans (k4.wid (gp := [x]) (gp' := [x]) (fun _ h => by cases h) (fun _ h => .inr h))
   have gy4 := (k4.at gy3 (by simp) (by simp)).1
   have K4 := k2.trans M4
   have gb4 := (K4.at gb1 (by simp) (by simp)).1
   have gc4 := (K4.at gc1 (by simp) (by simp)).1
   simp only [zeL,pkC,pkz] at gb4
   have T4 := K4.wid (gp := []) (gp' := []) (fun _ h => by cases h) (fun _ h => by cases h)
   simp (disch := first | assumption | simp) only [↓sbD,sbU,tyB,↓reduceIte,Nat.reduceEqDiff,Nat.reduceLT,Nat.reduceAdd,Nat.reduceLeDiff,pairs,splice,ZV.val,gy4,gb4,gc4,bc,cb,res_cellc,resC_some]
   exact downS_here (hok _ (by rw [if_pos hend.symm]) _ _ ⟨_,_,_,_,_,.inl ⟨rfl,rfl⟩,.inl ⟨rfl,rfl⟩,.inl ⟨rfl,rfl⟩,.inl ⟨rfl,rfl⟩,.inl ⟨rfl,rfl⟩,rfl⟩ (FIN T4))
  ·have hk0 : ¬ (2 : Int) = 0 := by omega
   simp (disch := first | assumption | simp) only [↓sbD,sbU,tyB,Int.reduceEq,↓reduceIte,Nat.reduceEqDiff,Nat.reduceLT,Nat.reduceAdd,Nat.reduceLeDiff,reduceCtorEq,pairs,isConst,splice,ZV.val,AS_new,zeFlt]
   intro g hg
   have hgb : b ≠ g := (nd hg gb3 (by simp)).symm
   have hgc : c ≠ g := (nd hg gc3 (by simp)).symm
   have gb : ∀ (τ : AHeap) o,(AHeap.set τ g o).get b = τ.get b := fun τ o => AHeap.get_set_ne _ _ hgb.symm
   have gc : ∀ (τ : AHeap) o,(AHeap.set τ g o).get c = τ.get c := fun τ o => AHeap.get_set_ne _ _ hgc.symm
   have bg : ∀ (τ : AHeap) o,(AHeap.set τ b o).get g = τ.get g := fun τ o => AHeap.get_set_ne _ _ hgb
   simp (disch := first | assumption | simp) only [↓sbD,sbU,tyB,↓reduceIte,Nat.reduceEqDiff,Nat.reduceLT,Nat.reduceAdd,Nat.reduceLeDiff,splice,gb,gc,bc,gb3,gc3]
   refine drawS_l (fl := [(1,2)]) (by kernel_rfl) ?_ ?_
   rotate_left; simp only [lastP_cc,lastP_one]; rotate_left
   ·simp only [List.all_cons,List.all_nil,floatS,List.getElem?_cons_succ,List.getElem?_cons_zero,List.getElem?_toArray,Region.wanted,Bool.not_true,Bool.not_false,Bool.or_true,reads,looksWeak,aev_tmp,upd_at,↓reduceIte,Nat.reduceEqDiff,Nat.reduceLT,Nat.reduceAdd,blkOf,oeq_refl,dead_cells,Bool.and_self,Bool.false_eq_true,Bool.not_false,bg,AHeap.get_set_same]
    try rfl
   simp (disch := first | assumption | simp) only [↓sbD,sbU,tyB,↓reduceIte,Nat.reduceEqDiff,Nat.reduceLT,Nat.reduceAdd,Nat.reduceLeDiff,cb,res_cellc,resC_some]
   exact downS_here (hbad 2 129 _ (by rw [if_neg (show ¬ s.size = 0 by omega)]) (by omega) _ (FIN (T3.trans (((Kept.refl _ []).setD hg).setD hg))))
 have h14' : (14 : Int) ≤ f / 16 := by omega
 simp only [if_neg h14] at hok hbad
 by_cases hlt : 0 < s.size
 focus
  have h0 : (0 : Int) < (s.size : Int) := by omega
  obtain ⟨n,hn⟩ := numR_one (q := 0) hlt
  have hcode : codeR s 0 = (n,0 + 1) := by unfold codeR; rw [hn]
  simp only [TailA,hcode] at hok hbad
  simp (disch := first | assumption | simp) only [↓sbD,sbU,tyB,↓reduceIte,Nat.reduceEqDiff,Nat.reduceLT,reduceCtorEq,goInt,isConst,h14',h0]
  refine specYU8 i3 (Nat.zero_le _) (by omega) (fun n' q' hn' σ4 k4 i4 => ?_) fun k q' hn' σ4 k4 i4 => by rw [hn] at hn'; cases hn'
  rw [hn] at hn'
  simp only [Except.ok.injEq,Prod.mk.injEq] at hn'
  obtain ⟨rfl,rfl⟩ := hn'
  have M4 := M3.trans k4
  have gy4 := (k4.at gy3 (by simp) (by simp [hyx])).1
  simp (disch := first | assumption | simp) only [↓sbD,sbU,tyB,↓reduceIte,Nat.reduceEqDiff,Nat.reduceLT,Nat.reduceAdd,Nat.reduceLeDiff,reduceCtorEq,splice,gy4]
  generalize hσ5 : AHeap.set σ4 y _ = σ5
  have M5 : Kept σ2 [x] σ5 [x] := by rw [← hσ5]; exact M4.setD hy
  have i5 : IsY σ5 x s (0 + 1) 0 0 := by rw [← hσ5]; unfold IsY; rw [AHeap.get_set_ne _ _ hyx]; exact i4
  have gy5 : σ5.get y = .cells [.int .i64 (f / 16),.int .i64 0,.int .i64 (n : Int),.slice none 0 0,.bool false,.int .i64 0,.string emp,.bool false,.string emp,.string emp,.int .i64 0,.bool false,.slice none 0 0,.bool false,.string emp,.bool false,.string emp,.bool false,.string emp,.string emp,.int .i64 0,.bool false,.bool false,.slice none 0 0,.slice none 0 0,.slice none 0 0] true 0 := by rw [← hσ5]; exact AHeap.get_set_same _ _ _
  clear hσ5
  have K5 := k2.trans M5
  have gb5 := (K5.at gb1 (by simp) (by simp)).1
  have gc5 := (K5.at gc1 (by simp) (by simp)).1
  simp only [zeL,pkC,pkz] at gb5
  have T5 := K5.wid (gp := []) (gp' := []) (fun _ h => by cases h) (fun _ h => by cases h)
  try simp (disch := first | assumption | simp) only [↓sbD,sbU,tyB,Nat.reduceMul,Nat.reduceSub,Int.reduceEq,Int.reduceLT,Int.reduceLE,Int.reduceNe,Nat.reduceBneDiff,Nat.reduceBEq,decide_false,gt_iff_lt,Bool.or_self,Bool.false_eq_true,Nat.mul_one,Nat.one_mul,Nat.zero_mul,↓reduceIte,Nat.reduceEqDiff,Nat.reduceLT,Nat.reduceAdd,Nat.reduceLeDiff,reduceCtorEq,goInt,pairs,isConst,TI.isAgg,splice,boxS,Edp,dpv,Nat.beq_eq,ZV.val,List.any_cons,List.any_nil,Bool.false_and,gy5]
  refine specAlwC ?_
  cases ha : alw (f / 16) (n : Int) with
  | false =>
   simp only [ha,if_true] at hbad
   simp (disch := first | assumption | simp) only [↓sbD,sbU,tyB,↓reduceIte,Nat.reduceLT,pairs,ZV.val,not_bool]
   refine specKBad (n := 0) ?_
   simp (disch := first | assumption | simp) only [↓sbD,sbU,tyB,↓reduceIte,Nat.reduceEqDiff,Nat.reduceLT,Nat.reduceAdd,Nat.reduceLeDiff,splice,gb5,gc5,bc,cb,res_cellc,resC_some]
   exact downS_here (hbad 2 129 0 ⟨_,rfl,rfl⟩ (by omega) _ (FIN T5))
  | true =>
   simp only [ha,Bool.true_eq_false,if_false] at hok hbad
   by_cases hl2 : 0 + 1 < s.size
   ·have hl1 : (1 : Int) < (s.size : Int) := by omega
    simp only [hl2,if_true] at hok hbad
    simp (disch := first | assumption | simp) only [↓sbD,sbU,tyB,↓reduceIte,Nat.reduceEqDiff,Nat.reduceLT,reduceCtorEq,goInt,isConst,not_bool,h14',hl1]
    refine specYRead i5 (by omega) hs (fun l q2 hrd v σ6 hv k6 i6 hq6 => ?_) fun k rr a hrd σ6 k6 => ?_
    all_goals
     have M6 := M5.trans k6
     have gy6 := (k6.at gy5 (by simp) (by simp [hyx])).1
     have K6 := k2.trans M6
     have gb6 := (K6.at gb1 (by simp) (by simp)).1
     have gc6 := (K6.at gc1 (by simp) (by simp)).1
     simp only [zeL,pkC,pkz] at gb6
     have T6 := K6.wid (gp := []) (gp' := []) (fun _ h => by cases h) (fun _ h => by cases h)
    rotate_left
    ·have hk := ReadP_k hrd
     have hk0 : ¬ (k : Int) = 0 := by omega
     simp (disch := first | assumption | simp) only [↓sbD,sbU,tyB,↓reduceIte,Nat.reduceEqDiff,Nat.reduceLT,Nat.reduceAdd,Nat.reduceLeDiff,reduceCtorEq,isConst,splice,AS_new,zeFlt]
     intro g hg
     have hgb : b ≠ g := (nd hg gb6 (by simp)).symm
     have hgc : c ≠ g := (nd hg gc6 (by simp)).symm
     have gb : ∀ (τ : AHeap) o,(AHeap.set τ g o).get b = τ.get b := fun τ o => AHeap.get_set_ne _ _ hgb.symm
     have gc : ∀ (τ : AHeap) o,(AHeap.set τ g o).get c = τ.get c := fun τ o => AHeap.get_set_ne _ _ hgc.symm
     have bg : ∀ (τ : AHeap) o,(AHeap.set τ b o).get g = τ.get g := fun τ o => AHeap.get_set_ne _ _ hgb
     simp (disch := first | assumption | simp) only [↓sbD,sbU,tyB,↓reduceIte,Nat.reduceEqDiff,Nat.reduceLT,Nat.reduceAdd,Nat.reduceLeDiff,pairs,splice,ZV.val,gb,gc,bc,gb6,gc6,hk0]
     refine drawS_l (fl := [(1,2)]) (by kernel_rfl) ?_ ?_
     rotate_left; simp only [lastP_cc,lastP_one]; rotate_left
     ·simp only [List.all_cons,List.all_nil,floatS,List.getElem?_cons_succ,List.getElem?_cons_zero,List.getElem?_toArray,Region.wanted,Bool.not_true,Bool.not_false,Bool.or_true,reads,looksWeak,aev_tmp,upd_at,↓reduceIte,Nat.reduceEqDiff,Nat.reduceLT,Nat.reduceAdd,blkOf,oeq_refl,dead_cells,Bool.and_self,Bool.false_eq_true,Bool.not_false,bg,AHeap.get_set_same]
      try rfl
     simp (disch := first | assumption | simp) only [↓sbD,sbU,tyB,↓reduceIte,Nat.reduceEqDiff,Nat.reduceLT,Nat.reduceAdd,Nat.reduceLeDiff,cb,res_cellc,resC_some]
     exact downS_here (hbad k rr a ⟨_,⟨_,hrd,rfl⟩,rfl⟩ hk _ (FIN (T6.trans (((Kept.refl _ []).setD hg).setD hg))))
    have hvc := dl_vc hv
    simp (disch := first | assumption | simp) only [↓sbD,sbU,tyB,decide_false,↓reduceIte,Nat.reduceEqDiff,Nat.reduceLT,Nat.reduceAdd,Nat.reduceLeDiff,reduceCtorEq,isConst,splice,AS_new,zeFlt]
    intro g hg
    have hgb : b ≠ g := (nd hg gb6 (by simp)).symm
    have hgc : c ≠ g := (nd hg gc6 (by simp)).symm
    have gb : ∀ (τ : AHeap) o,(AHeap.set τ g o).get b = τ.get b := fun τ o => AHeap.get_set_ne _ _ hgb.symm
    have gc : ∀ (τ : AHeap) o,(AHeap.set τ g o).get c = τ.get c := fun τ o => AHeap.get_set_ne _ _ hgc.symm
    have bg : ∀ (τ : AHeap) o,(AHeap.set τ b o).get g = τ.get g := fun τ o => AHeap.get_set_ne _ _ hgb
    generalize hσ7 : AHeap.set (AHeap.set σ6 g _) g _ = σ7
    have k7 : Kept σ6 [] σ7 [] := by rw [← hσ7]; exact ((Kept.refl _ []).setD hg).setD hg
    have gg7 : σ7.get g = .cells [.int .i64 0,.int .i64 0,.int .i64 0] true 0 := by rw [← hσ7]; exact AHeap.get_set_same _ _ _
    clear hσ7
    have M7 : Kept σ2 [x] σ7 [x] := M6.trans (k7.wid (gp := [x]) (gp' := [x]) (fun _ h => by cases h) (fun _ h => .inr h))
    have gy7 := (k7.at gy6 (by simp) (by simp)).1
    have i7 := i6.kept k7 (by simp)
    simp (disch := first | assumption | simp) only [↓sbD,sbU,↓reduceIte,Nat.reduceEqDiff,Nat.reduceLT,Nat.reduceAdd,Nat.reduceLeDiff,splice,gy7,hvc.1,hvc.2]
    generalize hσ8 : AHeap.set σ7 y _ = σ8
    have M8 : Kept σ2 [x] σ8 [x] := by rw [← hσ8]; exact M7.setD hy
    have i8 : IsY σ8 x s q2 0 0 := by rw [← hσ8]; unfold IsY; rw [AHeap.get_set_ne _ _ hyx]; exact i7
    have gy8 : σ8.get y = .cells [.int .i64 (f / 16),.int .i64 0,.int .i64 (n : Int),v,.bool false,.int .i64 0,.string emp,.bool false,.string emp,.string emp,.int .i64 0,.bool false,.slice none 0 0,.bool false,.string emp,.bool false,.string emp,.bool false,.string emp,.string emp,.int .i64 0,.bool false,.bool false,.slice none 0 0,.slice none 0 0,.slice none 0 0] true 0 := by rw [← hσ8]; exact AHeap.get_set_same _ _ _
    clear hσ8
    have hq8 := hq6
    try simp (disch := first | assumption | simp) only [↓sbD,sbU,tyB,Nat.reduceMul,Nat.reduceSub,Int.reduceEq,Int.reduceLT,Int.reduceLE,Int.reduceNe,Nat.reduceBneDiff,Nat.reduceBEq,decide_false,gt_iff_lt,Bool.or_self,Bool.false_eq_true,Nat.mul_one,Nat.one_mul,Nat.zero_mul,↓reduceIte,Nat.reduceEqDiff,Nat.reduceLT,Nat.reduceAdd,Nat.reduceLeDiff,reduceCtorEq,goInt,pairs,isConst,TI.isAgg,splice,boxS,Edp,dpv,Nat.beq_eq,ZV.val,List.any_cons,List.any_nil,Bool.false_and]
    have K8 := k2.trans M8
    have gb8 := (K8.at gb1 (by simp) (by simp)).1
    have gc8 := (K8.at gc1 (by simp) (by simp)).1
    simp only [zeL,pkC,pkz] at gb8
    have T8 := K8.wid (gp := []) (gp' := []) (fun _ h => by cases h) (fun _ h => by cases h)
    refine specKOf i8 hq8 (fun hend => ?_) fun hmore => ?_
    ·simp (disch := first | assumption | simp) only [↓sbD,sbU,tyB,decide_false,↓reduceIte,Nat.reduceEqDiff,Nat.reduceLT,Nat.reduceAdd,Nat.reduceLeDiff,reduceCtorEq,isConst,splice,AS_new,zeFlt]
     intro g hg
     have hgb : b ≠ g := (nd hg gb8 (by simp)).symm
     have hgc : c ≠ g := (nd hg gc8 (by simp)).symm
     have gb : ∀ (τ : AHeap) o,(AHeap.set τ g o).get b = τ.get b := fun τ o => AHeap.get_set_ne _ _ hgb.symm
     have gc : ∀ (τ : AHeap) o,(AHeap.set τ g o).get c = τ.get c := fun τ o => AHeap.get_set_ne _ _ hgc.symm
     have bg : ∀ (τ : AHeap) o,(AHeap.set τ b o).get g = τ.get g := fun τ o => AHeap.get_set_ne _ _ hgb
     generalize hσ9 : AHeap.set (AHeap.set σ8 g _) g _ = σ9
     have k9 : Kept σ8 [] σ9 [] := by rw [← hσ9]; exact ((Kept.refl _ []).setD hg).setD hg
     have gg9 : σ9.get g = .cells [.int .i64 0,.int .i64 0,.int .i64 0] true 0 := by rw [← hσ9]; exact AHeap.get_set_same _ _ _
     clear hσ9
     have M9 : Kept σ2 [x] σ9 [x] := M8.trans (k9.wid (gp := [x]) (gp' := [x]) (fun _ h => by cases h) (fun _ h => .inr h))
     have gy9 := (k9.at gy8 (by simp) (by simp)).1
     have K9 := k2.trans M9
     have gb9 := (K9.at gb1 (by simp) (by simp)).1
     have gc9 := (K9.at gc1 (by simp) (by simp)).1
     simp only [zeL,pkC,pkz] at gb9
     have T9 := K9.wid (gp := []) (gp' := []) (fun _ h => by cases h) (fun _ h => by cases h)
     simp (disch := first | assumption | simp) only [↓sbD,sbU,tyB,↓reduceIte,Nat.reduceEqDiff,Nat.reduceLT,Nat.reduceAdd,Nat.reduceLeDiff,pairs,splice,ZV.val,gy9,gb9,gc9,bc,cb,res_cellc,resC_some,hvc.2]
     exact downS_here (hok _ ⟨_,⟨_,hrd,rfl⟩,by simp only [tailE,if_pos hend]; rfl⟩ _ _ ⟨_,_,_,_,_,hv,.inl ⟨rfl,rfl⟩,.inl ⟨rfl,rfl⟩,.inl ⟨rfl,rfl⟩,.inl ⟨rfl,rfl⟩,rfl⟩ (FIN T9))
    ·have hk0 : ¬ (2 : Int) = 0 := by omega
     simp (disch := first | assumption | simp) only [↓sbD,sbU,tyB,Int.reduceEq,↓reduceIte,Nat.reduceEqDiff,Nat.reduceLT,Nat.reduceAdd,Nat.reduceLeDiff,reduceCtorEq,pairs,isConst,splice,ZV.val,AS_new,zeFlt]
     intro g hg
     have hgb : b ≠ g := (nd hg gb8 (by simp)).symm
     have hgc : c ≠ g := (nd hg gc8 (by simp)).symm
     have gb : ∀ (τ : AHeap) o,(AHeap.set τ g o).get b = τ.get b := fun τ o => AHeap.get_set_ne _ _ hgb.symm
     have gc : ∀ (τ : AHeap) o,(AHeap.set τ g o).get c = τ.get c := fun τ o => AHeap.get_set_ne _ _ hgc.symm
     have bg : ∀ (τ : AHeap) o,(AHeap.set τ b o).get g = τ.get g := fun τ o => AHeap.get_set_ne _ _ hgb
     simp (disch := first | assumption | simp) only [↓sbD,sbU,tyB,↓reduceIte,Nat.reduceEqDiff,Nat.reduceLT,Nat.reduceAdd,Nat.reduceLeDiff,splice,gb,gc,bc,gb8,gc8]
     refine drawS_l (fl := [(1,2)]) (by kernel_rfl) ?_ ?_
     rotate_left; simp only [lastP_cc,lastP_one]; rotate_left
     ·simp only [List.all_cons,List.all_nil,floatS,List.getElem?_cons_succ,List.getElem?_cons_zero,List.getElem?_toArray,Region.wanted,Bool.not_true,Bool.not_false,Bool.or_true,reads,looksWeak,aev_tmp,upd_at,↓reduceIte,Nat.reduceEqDiff,Nat.reduceLT,Nat.reduceAdd,blkOf,oeq_refl,dead_cells,Bool.and_self,Bool.false_eq_true,Bool.not_false,bg,AHeap.get_set_same]
      try rfl
     simp (disch := first | assumption | simp) only [↓sbD,sbU,tyB,↓reduceIte,Nat.reduceEqDiff,Nat.reduceLT,Nat.reduceAdd,Nat.reduceLeDiff,cb,res_cellc,resC_some]
     exact downS_here (hbad 2 129 _ ⟨_,⟨_,hrd,rfl⟩,by simp only [tailE]; rw [if_neg (by omega)]; rfl⟩ (by omega) _ (FIN (T8.trans (((Kept.refl _ []).setD hg).setD hg))))
   ·have hl1 : ¬ (1 : Int) < (s.size : Int) := by omega
    simp only [hl2,if_false] at hok hbad
    simp (disch := first | assumption | simp) only [↓sbD,sbU,tyB,decide_false,↓reduceIte,Nat.reduceEqDiff,Nat.reduceLT,reduceCtorEq,goInt,isConst,not_bool,h14',hl1]
    have hq5 : 0 + 1 ≤ s.size := by omega
    refine specKOf i5 hq5 (fun hend => ?_) fun hmore => absurd hmore (by omega)
    simp (disch := first | assumption | simp) only [↓sbD,sbU,tyB,decide_false,↓reduceIte,Nat.reduceEqDiff,Nat.reduceLT,Nat.reduceAdd,Nat.reduceLeDiff,reduceCtorEq,isConst,splice,AS_new,zeFlt]
    intro g hg
    have hgb : b ≠ g := (nd hg gb5 (by simp)).symm
    have hgc : c ≠ g := (nd hg gc5 (by simp)).symm
    have gb : ∀ (τ : AHeap) o,(AHeap.set τ g o).get b = τ.get b := fun τ o => AHeap.get_set_ne _ _ hgb.symm
    have gc : ∀ (τ : AHeap) o,(AHeap.set τ g o).get c = τ.get c := fun τ o => AHeap.get_set_ne _ _ hgc.symm
    have bg : ∀ (τ : AHeap) o,(AHeap.set τ b o).get g = τ.get g := fun τ o => AHeap.get_set_ne _ _ hgb
    generalize hσ6 : AHeap.set (AHeap.set σ5 g _) g _ = σ6
    have k6 : Kept σ5 [] σ6 [] := by rw [← hσ6]; exact ((Kept.refl _ []).setD hg).setD hg
    have gg6 : σ6.get g = .cells [.int .i64 0,.int .i64 0,.int .i64 0] true 0 := by rw [← hσ6]; exact AHeap.get_set_same _ _ _
    clear hσ6
    have M6 : Kept σ2 [x] σ6 [x] := M5.trans (k6.wid (gp := [x]) (gp' := [x]) (fun _ h => by cases h) (fun _ h => .inr h))
    have gy6 := (k6.at gy5 (by simp) (by simp)).1
    have K6 := k2.trans M6
    have gb6 := (K6.at gb1 (by simp) (by simp)).1
    have gc6 := (K6.at gc1 (by simp) (by simp)).1
    simp only [zeL,pkC,pkz] at gb6
    have T6 := K6.wid (gp := []) (gp' := []) (fun _ h => by cases h) (fun _ h => by cases h)
    simp (disch := first | assumption | simp) only [↓sbD,sbU,tyB,↓reduceIte,Nat.reduceEqDiff,Nat.reduceLT,Nat.reduceAdd,Nat.reduceLeDiff,pairs,splice,ZV.val,gy6,gb6,gc6,bc,cb,res_cellc,resC_some]
    exact downS_here (hok _ ⟨_,rfl,rfl⟩ _ _ ⟨_,_,_,_,_,.inl ⟨rfl,rfl⟩,.inl ⟨rfl,rfl⟩,.inl ⟨rfl,rfl⟩,.inl ⟨rfl,rfl⟩,.inl ⟨rfl,rfl⟩,rfl⟩ (FIN T6))
 have h0 : ¬ (0 : Int) < (s.size : Int) := by omega
 have hl1 : ¬ (1 : Int) < (s.size : Int) := by omega
 have ha : alw (f / 16) ((0 : Nat) : Int) = true := alw_0 (by omega)
 simp only [TailA,codeR_at hlt,ha,Bool.true_eq_false,hlt,if_false] at hok hbad
 simp (disch := first | assumption | simp) only [↓sbD,sbU,tyB,decide_false,↓reduceIte,Nat.reduceEqDiff,Nat.reduceLT,reduceCtorEq,goInt,isConst,h14',h0,hl1]
 have hq3 := Nat.zero_le s.size
 have K3 := k2.trans M3
 have gb3 := (K3.at gb1 (by simp) (by simp)).1
 have gc3 := (K3.at gc1 (by simp) (by simp)).1
 simp only [zeL,pkC,pkz] at gb3
 have T3 := K3.wid (gp := []) (gp' := []) (fun _ h => by cases h) (fun _ h => by cases h)
 refine specKOf i3 hq3 (fun hend => ?_) fun hmore => absurd hmore (by omega)
 simp (disch := first | assumption | simp) only [↓sbD,sbU,tyB,decide_false,↓reduceIte,Nat.reduceEqDiff,Nat.reduceLT,Nat.reduceAdd,Nat.reduceLeDiff,reduceCtorEq,isConst,splice,AS_new,zeFlt]
 intro g hg
 have hgb : b ≠ g := (nd hg gb3 (by simp)).symm
 have hgc : c ≠ g := (nd hg gc3 (by simp)).symm
 have gb : ∀ (τ : AHeap) o,(AHeap.set τ g o).get b = τ.get b := fun τ o => AHeap.get_set_ne _ _ hgb.symm
 have gc : ∀ (τ : AHeap) o,(AHeap.set τ g o).get c = τ.get c := fun τ o => AHeap.get_set_ne _ _ hgc.symm
 have bg : ∀ (τ : AHeap) o,(AHeap.set τ b o).get g = τ.get g := fun τ o => AHeap.get_set_ne _ _ hgb
 generalize hσ4 : AHeap.set (AHeap.set σ3 g _) g _ = σ4
 have k4 : Kept σ3 [] σ4 [] := by rw [← hσ4]; exact ((Kept.refl _ []).setD hg).setD hg
 have gg4 : σ4.get g = .cells [.int .i64 0,.int .i64 0,.int .i64 0] true 0 := by rw [← hσ4]; exact AHeap.get_set_same _ _ _
 clear hσ4
 have M4 : Kept σ2 [x] σ4 [x] := M3.trans (k4.wid (gp := [x]) (gp' := [x]) (fun _ h => by cases h) (fun _ h => .inr h))
 have gy4 := (k4.at gy3 (by simp) (by simp)).1
 have K4 := k2.trans M4
 have gb4 := (K4.at gb1 (by simp) (by simp)).1
 have gc4 := (K4.at gc1 (by simp) (by simp)).1
 simp only [zeL,pkC,pkz] at gb4
 have T4 := K4.wid (gp := []) (gp' := []) (fun _ h => by cases h) (fun _ h => by cases h)
 simp (disch := first | assumption | simp) only [↓sbD,sbU,tyB,↓reduceIte,Nat.reduceEqDiff,Nat.reduceLT,Nat.reduceAdd,Nat.reduceLeDiff,pairs,splice,ZV.val,gy4,gb4,gc4,bc,cb,res_cellc,resC_some]
 exact downS_here (hok _ ⟨_,rfl,rfl⟩ _ _ ⟨_,_,_,_,_,.inl ⟨rfl,rfl⟩,.inl ⟨rfl,rfl⟩,.inl ⟨rfl,rfl⟩,.inl ⟨rfl,rfl⟩,.inl ⟨rfl,rfl⟩,rfl⟩ (FIN T4))
theorem specDMsEnc {p : Pk} {v : Value} (hp : PkV p v) (hf : fewPk p)
  (hok : ∀ fb,EncM p (.ok fb) → ∀ σ',Kept σ [] σ' [] → Q (.tuple #[.agg ⟨[.int .i64 fb.1,.string fb.2]⟩,flt 0 0 0]) σ')
  (hbad : ∀ k rr a : Nat,EncM p (.error (k,rr,a)) → k ≠ 0 → ∀ σ',Kept σ [] σ' [] → Q (.tuple #[.agg ⟨[.int .i64 0,.string emp]⟩,flt k rr a]) σ') :
  CallS E B 33 [v] σ Q := by
 obtain ⟨vp,vw,vs,vf,vc,d1,d2,d3,d4,d5,rfl⟩ := hp
 obtain ⟨up,uw,us,uf,uc,d1,d2,d3,d4,d5,-,hbx⟩ := boxPk d1 d2 d3 d4 d5
 simp only [pkC] at hbx ⊢
 have hm := hf.big
 have eml : (emp).size = 0 := rfl
 unfold EncM EncG at hok hbad
 have fle := firstM_le p.kind
 have hlen := DLp.len d1
 refine call33 (by simp) ?_
 simp only [strip,bodyOf,Tryz.f33,getD_body,keepN,bareOp_mk,lessOp_mk,lapp_cons,lapp_nil,List.map_cons,List.map_nil,↓reduceIte,Nat.reduceEqDiff,Bool.false_eq_true]
 simp (disch := first | assumption | simp) only [↓sbD,sbU,tyB,↓reduceIte,Nat.reduceEqDiff,Nat.reduceLT,reduceCtorEq,AS_new,zeFra,zeFlt,hbx]
 intro b hb c hc
 have hcb : c ≠ b := by rintro rfl; rw [AHeap.get_set_same] at hc; cases hc
 have hcd : σ.get c = .dead := by rw [AHeap.get_set_ne _ _ hcb.symm] at hc; exact hc
 have cb : ∀ (τ : AHeap) o,(AHeap.set τ c o).get b = τ.get b := fun τ o => AHeap.get_set_ne _ _ hcb
 have bc : ∀ (τ : AHeap) o,(AHeap.set τ b o).get c = τ.get c := fun τ o => AHeap.get_set_ne _ _ hcb.symm
 clear hc
 refine specRFirstM ?_
 by_cases h0 : firstM p.kind = 0
 ·have hpre : preM p = some (7,128,0) := if_pos h0
  simp only [hpre] at hbad
  simp (disch := first | assumption | simp) only [↓sbD,sbU,tyB,↓reduceIte,Nat.reduceEqDiff,Nat.reduceLT,Nat.reduceAdd,Nat.reduceLeDiff,pairs,isConst,splice,ZV.val,h0,bc,cb,res_cellc,resC_some]
  exact downS_here (hbad 7 128 0 rfl (by omega) _ (((((Kept.refl σ []).setD hb).setD hcd).setD hb).setD hcd))
 have hpre : preM p = none := if_neg h0
 obtain ⟨_,_,kge⟩ := firstM_kind h0
 simp only [hpre] at hok hbad
 simp (disch := first | assumption | simp) only [↓sbD,sbU,tyB,decide_false,↓reduceIte,Nat.reduceLT,pairs,isConst,boxS,Edp,ZV.val,h0]
 generalize hσ1 : AHeap.set (AHeap.set σ b _) c _ = σ1
 have k1 : Kept σ [] σ1 [] := by rw [← hσ1]; exact ((Kept.refl σ []).setD hb).setD hcd
 have gb1 : σ1.get b = .cells [.int .i64 0,.string emp] true 0 := by rw [← hσ1,cb]; exact AHeap.get_set_same _ _ _
 have gc1 : σ1.get c = .cells [.int .i64 0,.int .i64 0,.int .i64 0] true 0 := by rw [← hσ1]; exact AHeap.get_set_same _ _ _
 clear hσ1
 have FIN : ∀ {τ : AHeap} {o o' : AObj},Kept σ1 [] τ [] → Kept σ [] ((τ.set b o).set c o') [] := fun kt => ((k1.trans kt).setD hb).setD hcd
 have k2 : Kept σ1 [] σ1 [] := Kept.refl _ _
 simp (disch := first | assumption | simp) only [↓sbD,sbU,tyB,Bool.false_eq_true,↓reduceIte,Nat.reduceEqDiff,Nat.reduceLT,reduceCtorEq,isConst,Bool.false_and,AS_new,dpX]
 intro x hx
 generalize hσ3 : AHeap.set σ1 x _ = σ3
 have x3 : XRun σ3 x (runW emp []) := by rw [← hσ3]; exact AHeap.get_set_same _ _ _
 have k3 : Kept σ1 [] σ3 [x] := k2.trans (by rw [← hσ3]; exact Kept.new' hx)
 have z3 : leW (runW emp []) 0 := fun b hb => by injection hb with hb; subst hb; exact Nat.le_refl _
 clear hσ3
 by_cases h14 : p.kind < 14
 focus
  have h14' : ¬ (14 : Int) ≤ p.kind := by omega
  have hpm : propsM p = .ok emp := if_pos h14
  have hac : actsM p emp = [] := if_pos h14
  rw [hpm] at hok hbad
  simp only [hac] at hok hbad
  simp (disch := first | assumption | simp) only [↓sbD,sbU,tyB,decide_false,↓reduceIte,Nat.reduceEqDiff,Nat.reduceLT,reduceCtorEq,isConst,h14']
  obtain ⟨σ6,rfl⟩ : ∃ τ,τ = σ3 := ⟨_,rfl⟩
  have K6 := k3
  have x6 := x3
  have z6 : leW (runW emp []) 800000 := fun b hb => by have := z3 b hb; omega
 rotate_left
 have h14' : (14 : Int) ≤ p.kind := by omega
 have hpm : propsM p = propsB p.kind p.props := if_neg h14
 rw [hpm] at hok hbad
 by_cases hpn : p.props = []
 focus
  have hl0 : ¬ (0 : Int) < (p.props.length : Int) := by rw [hpn]; exact fun h => by cases h
  have hpb : propsB p.kind p.props = .ok emp := by unfold propsB; rw [if_pos hpn]
  rw [hpb] at hok hbad
  simp only at hok hbad
  by_cases hr0 : p.rea = 0
  focus
   have hac : actsM p emp = [] := by unfold actsM; rw [if_neg h14,if_pos hpn,if_pos hr0]
   rw [hac] at hok hbad
   simp (disch := first | assumption | simp) only [↓sbD,sbU,tyB,decide_false,↓reduceIte,Nat.reduceEqDiff,Nat.reduceLT,reduceCtorEq,isConst,h14',hlen,hl0,hr0]
   obtain ⟨σ6,rfl⟩ : ∃ τ,τ = σ3 := ⟨_,rfl⟩
   have K6 := k3
   have x6 := x3
   have z6 : leW (runW emp []) 800000 := fun b hb => by have := z3 b hb; omega
  rotate_left
  focus
   have hac : actsM p emp = [⟨1,p.rea,emp⟩] := by unfold actsM; rw [if_neg h14,if_pos hpn,if_neg hr0]
   rw [hac] at hok hbad
   simp (disch := first | assumption | simp) only [↓sbD,sbU,tyB,↓reduceIte,Nat.reduceEqDiff,Nat.reduceLT,Nat.reduceAdd,Nat.reduceLeDiff,reduceCtorEq,pairs,isConst,splice,ZV.val,h14',hr0]
   refine specDoR (a := ⟨1,p.rea,emp⟩) x3 (fun b hb => by have := z3 b hb; omega) (by simp only [eml]; omega) fun σ6 k6 x6 => ?_
   have z6' := leW_step (a := ⟨1,p.rea,emp⟩) z3
   simp only [eml] at z6'
   have z6 : leW (stepW (runW emp []) [⟨1,p.rea,emp⟩]) 800000 := fun b hb => by have := z6' b hb; omega
   have hR : stepW (runW emp []) [⟨1,p.rea,emp⟩] = runW emp [⟨1,p.rea,emp⟩] := rfl
   rw [hR] at x6 z6
   have K6 := k3.trans k6
   simp (disch := first | assumption | simp) only [↓sbD,sbU,tyB,decide_false,↓reduceIte,Nat.reduceEqDiff,Nat.reduceLT,reduceCtorEq,isConst,h14',hlen,hl0]
 rotate_left 2
 focus
  have hl0 : (0 : Int) < (p.props.length : Int) := by
   have : p.props.length ≠ 0 := fun h => hpn (List.length_eq_zero_iff.1 h)
   omega
  have RO : ∀ {P : Prop},(p.rea = 0 → P) → (¬ p.rea = 0 → P) → P := fun a b => by
   by_cases h : p.rea = 0
   ·exact a h
   ·exact b h
  refine RO (fun hr0 => ?_) fun hr0 => ?_
  focus
   have hr0' := eq_true hr0
   simp (disch := first | assumption | simp) only [↓sbD,sbU,tyB,decide_false,↓reduceIte,Nat.reduceEqDiff,Nat.reduceLT,Nat.reduceAdd,Nat.reduceLeDiff,reduceCtorEq,pairs,isConst,splice,ZV.val,h14',hlen,hl0,hr0']
  rotate_left
  focus
   have hr0' := eq_false hr0
   simp (disch := first | assumption | simp) only [↓sbD,sbU,tyB,↓reduceIte,Nat.reduceEqDiff,Nat.reduceLT,Nat.reduceAdd,Nat.reduceLeDiff,reduceCtorEq,pairs,isConst,splice,ZV.val,h14',hr0']
  all_goals
   refine specDoR (a := ⟨1,p.rea,emp⟩) x3 (fun b hb => by have := z3 b hb; omega) (by simp only [eml]; omega) fun σ4 k4 x4 => ?_
   have z4 := leW_step (a := ⟨1,p.rea,emp⟩) z3
   simp only [eml] at z4
   simp (disch := first | assumption | simp) only [↓sbD,sbU,tyB,↓reduceIte,Nat.reduceEqDiff,Nat.reduceLT,reduceCtorEq,isConst,h14',hlen,hl0]
   have K4 := k3.trans k4
   have gb4 := (K4.at gb1 (by simp) (by simp)).1
   have gc4 := (K4.at gc1 (by simp) (by simp)).1
   refine specREncode d1 hm.props (fun cc hce => ?_) fun k r a hce => ?_
   rotate_left
   ·have hpb : propsB p.kind p.props = .error (k,r,a) := by unfold propsB; rw [if_neg hpn,hce]
    rw [hpb] at hok hbad
    simp only at hok hbad
    have hk := encP_k hce
    have T4 := K4.wid (gp := []) (gp' := []) (fun _ h => by cases h) (fun _ h => by cases h)
    have hk0 : ¬ (k : Int) = 0 := by omega
    simp (disch := first | assumption | simp) only [↓sbD,sbU,tyB,↓reduceIte,Nat.reduceEqDiff,Nat.reduceLT,Nat.reduceAdd,Nat.reduceLeDiff,reduceCtorEq,isConst,splice,AS_new,zeFlt]
    intro g hg
    have hgb : b ≠ g := (nd hg gb4 (by simp)).symm
    have hgc : c ≠ g := (nd hg gc4 (by simp)).symm
    have gb : ∀ (τ : AHeap) o,(AHeap.set τ g o).get b = τ.get b := fun τ o => AHeap.get_set_ne _ _ hgb.symm
    have gc : ∀ (τ : AHeap) o,(AHeap.set τ g o).get c = τ.get c := fun τ o => AHeap.get_set_ne _ _ hgc.symm
    have bg : ∀ (τ : AHeap) o,(AHeap.set τ b o).get g = τ.get g := fun τ o => AHeap.get_set_ne _ _ hgb
    simp (disch := first | assumption | simp) only [↓sbD,sbU,tyB,↓reduceIte,Nat.reduceEqDiff,Nat.reduceLT,Nat.reduceAdd,Nat.reduceLeDiff,pairs,splice,ZV.val,gb,gc,bc,gb4,gc4,hk0]
    refine drawS_l (fl := [(1,2)]) (by kernel_rfl) ?_ ?_
    rotate_left; simp only [lastP_cc,lastP_one]; rotate_left
    ·simp only [List.all_cons,List.all_nil,floatS,List.getElem?_cons_succ,List.getElem?_cons_zero,List.getElem?_toArray,Region.wanted,Bool.not_true,Bool.not_false,Bool.or_true,reads,looksWeak,aev_tmp,upd_at,↓reduceIte,Nat.reduceEqDiff,Nat.reduceLT,Nat.reduceAdd,blkOf,oeq_refl,dead_cells,Bool.and_self,Bool.false_eq_true,Bool.not_false,bg,AHeap.get_set_same]
     try rfl
    simp (disch := first | assumption | simp) only [↓sbD,sbU,tyB,↓reduceIte,Nat.reduceEqDiff,Nat.reduceLT,Nat.reduceAdd,Nat.reduceLeDiff,cb,res_cellc,resC_some]
    exact downS_here (hbad k r a rfl hk _ (FIN (T4.trans (((Kept.refl _ []).setD hg).setD hg))))
   have hcz := encP_size hf.props hce
   have hpb : propsB p.kind p.props = .ok cc := by unfold propsB; rw [if_neg hpn,hce]
   rw [hpb] at hok hbad
   simp only at hok hbad
   have hR : stepW (stepW (runW emp []) [⟨1,p.rea,emp⟩]) [⟨8,0,cc⟩] = runW emp (actsM p cc) := by rw [stepW_app]; unfold actsM; rw [if_neg h14,if_neg hpn]; rfl
   simp (disch := first | assumption | simp) only [↓sbD,sbU,tyB,decide_false,↓reduceIte,Nat.reduceEqDiff,Nat.reduceLT,Nat.reduceAdd,Nat.reduceLeDiff,reduceCtorEq,pairs,isConst,splice,ZV.val,AS_new,zeFlt]
   intro g hg
   have hgb : b ≠ g := (nd hg gb4 (by simp)).symm
   have hgc : c ≠ g := (nd hg gc4 (by simp)).symm
   have gb : ∀ (τ : AHeap) o,(AHeap.set τ g o).get b = τ.get b := fun τ o => AHeap.get_set_ne _ _ hgb.symm
   have gc : ∀ (τ : AHeap) o,(AHeap.set τ g o).get c = τ.get c := fun τ o => AHeap.get_set_ne _ _ hgc.symm
   have bg : ∀ (τ : AHeap) o,(AHeap.set τ b o).get g = τ.get g := fun τ o => AHeap.get_set_ne _ _ hgb
   generalize hσ5 : AHeap.set (AHeap.set σ4 g _) g _ = σ5
   have k5 : Kept σ4 [] σ5 [] := by rw [← hσ5]; exact ((Kept.refl _ []).setD hg).setD hg
   have gg5 : σ5.get g = .cells [.int .i64 0,.int .i64 0,.int .i64 0] true 0 := by rw [← hσ5]; exact AHeap.get_set_same _ _ _
   clear hσ5
   have x5 : XRun σ5 x (stepW (runW emp []) [⟨1,p.rea,emp⟩]) := x4.kept k5 (by simp)
   try simp (disch := first | assumption | simp) only [↓sbD,sbU,tyB,Nat.reduceMul,Nat.reduceSub,Int.reduceEq,Int.reduceLT,Int.reduceLE,Int.reduceNe,Nat.reduceBneDiff,Nat.reduceBEq,decide_false,gt_iff_lt,Bool.or_self,Bool.false_eq_true,Nat.mul_one,Nat.one_mul,Nat.zero_mul,↓reduceIte,Nat.reduceEqDiff,Nat.reduceLT,Nat.reduceAdd,Nat.reduceLeDiff,reduceCtorEq,goInt,pairs,isConst,TI.isAgg,splice,boxS,Edp,dpv,Nat.beq_eq,ZV.val,List.any_cons,List.any_nil,Bool.false_and,gg5]
   refine specDoR (a := ⟨8,0,cc⟩) x5 (fun b hb => by have := z4 b hb; omega) (by simp only; omega) fun σ6 k6 x6 => ?_
   have z6' := leW_step (a := ⟨8,0,cc⟩) z4
   simp only at z6'
   have z6 : leW (stepW (stepW (runW emp []) [⟨1,p.rea,emp⟩]) [⟨8,0,cc⟩]) 800000 := fun b hb => by have := z6' b hb; omega
   rw [hR] at x6 z6
   have K6 := (K4.trans (k5.wid (gp := [x]) (gp' := [x]) (fun _ h => by cases h) (fun _ h => .inr h))).trans k6
   simp (disch := first | assumption | simp) only [↓sbD,sbU,tyB,↓reduceIte,Nat.reduceEqDiff,Nat.reduceLT,reduceCtorEq]
 all_goals
  refine specRFirstM ?_
  simp (disch := first | assumption | simp) only [↓sbD,sbU,↓reduceIte,Nat.reduceEqDiff,Nat.reduceLT]
  have gb6 := (K6.at gb1 (by simp) (by simp)).1
  have gc6 := (K6.at gc1 (by simp) (by simp)).1
  refine specKMade x6 (fun bb hbb => ?_) fun k q hr hk => ?_
  ·have hle := z6 bb hbb
   simp (disch := first | assumption | simp) only [↓sbD,sbU,tyB,↓reduceIte,Nat.reduceEqDiff,Nat.reduceLT,AS_new,zeFra,zeFlt]
   intro d hd e he
   have hed : e ≠ d := by rintro rfl; rw [AHeap.get_set_same] at he; cases he
   replace he : (σ6).get e = .dead := by rw [AHeap.get_set_ne _ _ hed.symm] at he; exact he
   have ed : ∀ (τ : AHeap) o,(AHeap.set τ e o).get d = τ.get d := fun τ o => AHeap.get_set_ne _ _ hed
   have de : ∀ (τ : AHeap) o,(AHeap.set τ d o).get e = τ.get e := fun τ o => AHeap.get_set_ne _ _ hed.symm
   simp (disch := first | assumption | simp) only [↓sbD,sbU,tyB,decide_false,↓reduceIte,Nat.reduceEqDiff,Nat.reduceLT,Nat.reduceAdd,Nat.reduceLeDiff,reduceCtorEq,isConst,splice,ed,de]
   generalize hσ7 : AHeap.set (AHeap.set (AHeap.set (AHeap.set σ6 d _) e _) d _) e _ = σ7
   have k7 : Kept σ6 [x] σ7 [x] := by rw [← hσ7]; exact ((((Kept.refl _ _).setD hd).setD he).setD hd).setD he
   have gd7 : σ7.get d = .cells [.int .i64 (firstM p.kind),.string bb] true 0 := by rw [← hσ7,ed]; exact AHeap.get_set_same _ _ _
   have ge7 : σ7.get e = .cells [.int .i64 0,.int .i64 0,.int .i64 0] true 0 := by rw [← hσ7]; exact AHeap.get_set_same _ _ _
   have K7 := (K6.trans k7).wid (gp := []) (gp' := []) (fun _ h => by cases h) (fun _ h => by cases h)
   clear hσ7
   refine specDMsDec (by omega) (by omega) (fun y hy v2 σ8 hv2 k8 => ?_) fun k rr a hy hk σ8 k8 => ?_
   ·obtain ⟨up,uw,us,uf,uc,e1,e2,e3,e4,e5,rfl⟩ := hv2
    have K8 := K7.trans k8
    have gb8 := (K8.at gb1 (by simp) (by simp)).1
    have gc8 := (K8.at gc1 (by simp) (by simp)).1
    have gd8 := (k8.at gd7 (by simp) (by simp)).1
    simp only [pkC]
    have c1 := dl_vc e1
    have c2 := dl_vc e2
    have c3 := dl_vc e3
    have c4 := dl_vc e4
    have c5 := dl_vc e5
    simp (disch := first | assumption | simp) only [↓sbD,sbU,tyB,↓reduceIte,Nat.reduceEqDiff,Nat.reduceLT,AS_new,zePk,zeFlt]
    intro i hi j hj
    have hji : j ≠ i := by rintro rfl; rw [AHeap.get_set_same] at hj; cases hj
    replace hj : (σ8).get j = .dead := by rw [AHeap.get_set_ne _ _ hji.symm] at hj; exact hj
    have ji : ∀ (τ : AHeap) o,(AHeap.set τ j o).get i = τ.get i := fun τ o => AHeap.get_set_ne _ _ hji
    have ij : ∀ (τ : AHeap) o,(AHeap.set τ i o).get j = τ.get j := fun τ o => AHeap.get_set_ne _ _ hji.symm
    simp (disch := first | assumption | simp) only [↓sbD,sbU,tyB,decide_false,↓reduceIte,Nat.reduceEqDiff,Nat.reduceLT,Nat.reduceAdd,Nat.reduceLeDiff,reduceCtorEq,isConst,splice,ji,ij,c1.2,c2.2,c3.2,c4.2,c5.2]
    have hib : b ≠ i := (nd hi gb8 (by simp)).symm
    have hic : c ≠ i := (nd hi gc8 (by simp)).symm
    have hjb : b ≠ j := (nd hj gb8 (by simp)).symm
    have hjc : c ≠ j := (nd hj gc8 (by simp)).symm
    have hid : d ≠ i := (nd hi gd8 (by simp)).symm
    have hjd : d ≠ j := (nd hj gd8 (by simp)).symm
    generalize hσ9 : AHeap.set (AHeap.set (AHeap.set (AHeap.set σ8 i _) j _) i _) j _ = σ9
    have k9 : Kept σ8 [] σ9 [] := by rw [← hσ9]; exact ((((Kept.refl _ _).setD hi).setD hj).setD hi).setD hj
    have gj9 : σ9.get j = .cells [.int .i64 0,.int .i64 0,.int .i64 0] true 0 := by rw [← hσ9]; exact AHeap.get_set_same _ _ _
    have gd9 := (k9.at gd8 (by simp) (by simp)).1
    have K9 := K8.trans k9
    have gb9 := (K9.at gb1 (by simp) (by simp)).1
    have gc9 := (K9.at gc1 (by simp) (by simp)).1
    clear hσ9
    simp (disch := first | assumption | simp) only [↓sbD,sbU,tyB,↓reduceIte,Nat.reduceEqDiff,Nat.reduceLT,Nat.reduceAdd,Nat.reduceLeDiff,pairs,splice,ZV.val,gd9,bc,cb,gb9,gc9,res_cellc,resC_some]
    exact downS_here (hok (firstM p.kind,bb) (by unfold MadeR; rw [hbb]; exact ⟨_,hy,rfl⟩) _ (FIN K9))
   ·have hk0 : ¬ (k : Int) = 0 := by omega
    have K8 := K7.trans k8
    have gb8 := (K8.at gb1 (by simp) (by simp)).1
    have gc8 := (K8.at gc1 (by simp) (by simp)).1
    simp only [zeL,pkC,pkz]
    simp (disch := first | assumption | simp) only [↓sbD,sbU,tyB,↓reduceIte,Nat.reduceEqDiff,Nat.reduceLT,AS_new,zePk,zeFlt]
    intro i hi j hj
    have hji : j ≠ i := by rintro rfl; rw [AHeap.get_set_same] at hj; cases hj
    replace hj : (σ8).get j = .dead := by rw [AHeap.get_set_ne _ _ hji.symm] at hj; exact hj
    have ji : ∀ (τ : AHeap) o,(AHeap.set τ j o).get i = τ.get i := fun τ o => AHeap.get_set_ne _ _ hji
    have ij : ∀ (τ : AHeap) o,(AHeap.set τ i o).get j = τ.get j := fun τ o => AHeap.get_set_ne _ _ hji.symm
    simp (disch := first | assumption | simp) only [↓sbD,sbU,tyB,↓reduceIte,Nat.reduceEqDiff,Nat.reduceLT,Nat.reduceAdd,Nat.reduceLeDiff,reduceCtorEq,pairs,isConst,splice,ZV.val,ji,ij,hk0]
    generalize hσ9 : AHeap.set (AHeap.set (AHeap.set (AHeap.set σ8 i _) j _) i _) j _ = σ9
    have k9 : Kept σ8 [] σ9 [] := by rw [← hσ9]; exact ((((Kept.refl _ _).setD hi).setD hj).setD hi).setD hj
    have gj9 : σ9.get j = .cells [.int .i64 (k : Int),.int .i64 (rr : Int),.int .i64 (a : Int)] true 0 := by rw [← hσ9]; exact AHeap.get_set_same _ _ _
    have K9 := K8.trans k9
    have gb9 := (K9.at gb1 (by simp) (by simp)).1
    have gc9 := (K9.at gc1 (by simp) (by simp)).1
    have hjb : b ≠ j := by rintro rfl; rw [gb9] at gj9; cases gj9
    clear hσ9
    have bj : ∀ (τ : AHeap) o,(AHeap.set τ b o).get j = τ.get j := fun τ o => AHeap.get_set_ne _ _ hjb
    simp (disch := first | assumption | simp) only [↓sbD,sbU,tyB,↓reduceIte,Nat.reduceEqDiff,Nat.reduceLT,Nat.reduceAdd,Nat.reduceLeDiff,splice,bc,gb9,gc9]
    refine drawS_l (fl := [(1,2)]) (by kernel_rfl) ?_ ?_
    rotate_left; simp only [lastP_cc,lastP_one]; rotate_left
    ·simp only [List.all_cons,List.all_nil,floatS,List.getElem?_cons_succ,List.getElem?_cons_zero,List.getElem?_toArray,Region.wanted,Bool.not_true,Bool.not_false,Bool.or_true,reads,looksWeak,aev_tmp,upd_at,↓reduceIte,Nat.reduceEqDiff,Nat.reduceLT,Nat.reduceAdd,blkOf,oeq_refl,dead_cells,Bool.and_self,Bool.false_eq_true,Bool.not_false,gj9,bj]
     try rfl
    simp (disch := first | assumption | simp) only [↓sbD,sbU,tyB,↓reduceIte,Nat.reduceEqDiff,Nat.reduceLT,Nat.reduceAdd,Nat.reduceLeDiff,cb,res_cellc,resC_some]
    exact downS_here (hbad k rr a (by unfold MadeR; rw [hbb]; exact ⟨_,hy,rfl⟩) hk _ (FIN K9))
  ·have hk0 : ¬ (k : Int) = 0 := by omega
   simp (disch := first | assumption | simp) only [↓sbD,sbU,tyB,↓reduceIte,Nat.reduceEqDiff,Nat.reduceLT,AS_new,zeFra,zeFlt]
   intro d hd e he
   have hed : e ≠ d := by rintro rfl; rw [AHeap.get_set_same] at he; cases he
   replace he : (σ6).get e = .dead := by rw [AHeap.get_set_ne _ _ hed.symm] at he; exact he
   have ed : ∀ (τ : AHeap) o,(AHeap.set τ e o).get d = τ.get d := fun τ o => AHeap.get_set_ne _ _ hed
   have de : ∀ (τ : AHeap) o,(AHeap.set τ d o).get e = τ.get e := fun τ o => AHeap.get_set_ne _ _ hed.symm
   simp (disch := first | assumption | simp) only [↓sbD,sbU,tyB,↓reduceIte,Nat.reduceEqDiff,Nat.reduceLT,Nat.reduceAdd,Nat.reduceLeDiff,reduceCtorEq,isConst,splice,ed,de,hk0]
   generalize hσ7 : AHeap.set (AHeap.set (AHeap.set (AHeap.set σ6 d _) e _) d _) e _ = σ7
   have k7 : Kept σ6 [x] σ7 [x] := by rw [← hσ7]; exact ((((Kept.refl _ _).setD hd).setD he).setD hd).setD he
   have gd7 : σ7.get d = .cells [.int .i64 0,.string emp] true 0 := by rw [← hσ7,ed]; exact AHeap.get_set_same _ _ _
   have ge7 : σ7.get e = .cells [.int .i64 (k : Int),.int .i64 129,.int .i64 (q : Int)] true 0 := by rw [← hσ7]; exact AHeap.get_set_same _ _ _
   have K7 := (K6.trans k7).wid (gp := []) (gp' := []) (fun _ h => by cases h) (fun _ h => by cases h)
   clear hσ7
   have gb7 := (K7.at gb1 (by simp) (by simp)).1
   have gc7 := (K7.at gc1 (by simp) (by simp)).1
   have heb : b ≠ e := by rintro rfl; rw [gb7] at ge7; cases ge7
   have be : ∀ (τ : AHeap) o,(AHeap.set τ b o).get e = τ.get e := fun τ o => AHeap.get_set_ne _ _ heb
   simp (disch := first | assumption | simp) only [↓sbD,sbU,tyB,↓reduceIte,Nat.reduceEqDiff,Nat.reduceLT,Nat.reduceAdd,Nat.reduceLeDiff,splice,bc,gb7,gc7]
   refine drawS_l (fl := [(1,2)]) (by kernel_rfl) ?_ ?_
   rotate_left; simp only [lastP_cc,lastP_one]; rotate_left
   ·simp only [List.all_cons,List.all_nil,floatS,List.getElem?_cons_succ,List.getElem?_cons_zero,List.getElem?_toArray,Region.wanted,Bool.not_true,Bool.not_false,Bool.or_true,reads,looksWeak,aev_tmp,upd_at,↓reduceIte,Nat.reduceEqDiff,Nat.reduceLT,Nat.reduceAdd,blkOf,oeq_refl,dead_cells,Bool.and_self,Bool.false_eq_true,Bool.not_false,ge7,be]
    try rfl
   simp (disch := first | assumption | simp) only [↓sbD,sbU,tyB,↓reduceIte,Nat.reduceEqDiff,Nat.reduceLT,Nat.reduceAdd,Nat.reduceLeDiff,cb,res_cellc,resC_some]
   exact downS_here (hbad k 129 q (by unfold MadeR; rw [hr]) hk _ (FIN K7))
end
set_option maxHeartbeats 4000000
section
variable {σ : AHeap} {Q : Value → AHeap → Prop}
theorem fraEq {cs : Bool} {f : Int} {a : ByteArray} : abin E σ .eql 33 cs (.agg ⟨[.int .i64 f,.string a]⟩) (.agg ⟨[.int .i64 f,.string a]⟩) = some (.bool true) := by
 simp only [abin,nonNum,eqAsk,aeq,aeqs,apart,ty33,ty3,ty9,TI.isAgg,Bool.and_self,Bool.false_eq_true,List.getElem?_cons_zero,List.getElem?_cons_succ,↓reduceIte,beq_self_eq_true]
 have e1 : (a == a) = true := by rw [bytes_dec]; simp
 rw [e1]
 rfl
theorem specLsameNil (h : Q (.bool true) σ) : CallS E B 34 [.nilIface,flt 0 0 0] σ Q := by
 refine call34 (by simp) ?_
 simp only [strip,bodyOf,Tryz.f34,getD_body,keepN,bareOp_mk,lessOp_mk,List.map_cons,List.map_nil,↓reduceIte,Nat.reduceEqDiff,Bool.false_eq_true]
 simp only [↓sbD,sbU,↓reduceIte,Nat.reduceLT,reduceCtorEq,boxS,Edp,dpv]
 refine specNumberNil ?_
 simp only [↓sbD,sbU,tyB,Bool.or_self,↓reduceIte,Nat.reduceEqDiff,Nat.reduceLT,reduceCtorEq,isConst,eq_self]
 refine drawS_l (fl := [(3,1),(13,11),(19,17)]) (by kernel_rfl) ?_ ?_
 rotate_left; simp only [lastP_cc,lastP_one]; rotate_left
 ·simp only [List.all_cons,List.all_nil,floatS,List.getElem?_cons_succ,List.getElem?_cons_zero,List.getElem?_toArray,Region.wanted,Bool.not_true,Bool.or_true,Bool.true_and,reads,looksWeak,aev_tmp,upd_at,↓reduceIte,Nat.reduceEqDiff,Nat.reduceLT,Nat.reduceAdd,blkOf,oeq_refl,Bool.and_true,Bool.and_self,Bool.false_eq_true,yield_list,yield_here,yield_next,truth_bool]
  try rfl
 simp only [↓sbD,sbU,↓reduceIte,Nat.reduceLT]
 exact downS_here h
theorem specLsameE {d k r a : Nat} {z : Value} (he : ErN d (fv r a z) k) (hd : d ≤ 4) (h : Q (.bool true) σ) : CallS E B 34 [fv r a z,flt k r a] σ Q := by
 have hk := he.val
 have hk0 : ¬ (k : Int) = 0 := by omega
 refine call34 (by simp) ?_
 simp only [strip,bodyOf,Tryz.f34,getD_body,keepN,bareOp_mk,lessOp_mk,List.map_cons,List.map_nil,↓reduceIte,Nat.reduceEqDiff,Bool.false_eq_true]
 simp only [↓sbD,sbU,↓reduceIte,Nat.reduceLT,reduceCtorEq,boxS,Edp,dpv]
 refine specNumber he hd ?_
 simp only [↓sbD,sbU,tyB,decide_false,Bool.or_self,↓reduceIte,Nat.reduceEqDiff,Nat.reduceLT,reduceCtorEq,isConst,eq_self,hk0]
 refine specReason ?_
 simp only [↓sbD,sbU,tyB,Bool.or_self,↓reduceIte,Nat.reduceEqDiff,Nat.reduceLT,reduceCtorEq,isConst,eq_self]
 refine specAt ?_
 simp only [↓sbD,sbU,tyB,Bool.or_self,↓reduceIte,Nat.reduceEqDiff,Nat.reduceLT,reduceCtorEq,isConst,eq_self]
 refine drawS_l (fl := [(3,1),(13,11),(19,17)]) (by kernel_rfl) ?_ ?_
 rotate_left; simp only [lastP_cc,lastP_one]; rotate_left
 ·simp only [List.all_cons,List.all_nil,floatS,List.getElem?_cons_succ,List.getElem?_cons_zero,List.getElem?_toArray,Region.wanted,Bool.not_true,Bool.or_true,reads,looksWeak,aev_tmp,upd_at,↓reduceIte,Nat.reduceEqDiff,Nat.reduceLT,Nat.reduceAdd,blkOf,oeq_refl,Bool.and_true,Bool.and_self,Bool.false_eq_true,yield_list,yield_here,yield_next,truth_bool]
  try rfl
 simp only [↓sbD,sbU,↓reduceIte,Nat.reduceLT]
 exact downS_here h
end
theorem law6 {H : AHeap} {vs : List Value} (hB0 : Ext B H) (h : ArgsTyped E H 8 [29] vs) : CallW E 9 vs H fun r _ => r = .bool true := by
 obtain ⟨u,vs1,rfl,t1,e1⟩ := h.cons'
 obtain rfl := e1.nil'
 obtain ⟨p,hp,hfz⟩ := typed_pk t1
 clear t1 e1 h
 have key : CallS E B 9 [u] .empty fun r _ => r = .bool true := by
  have hp' := hp
  obtain ⟨vp,vw,vs,vf,vc,d1,d2,d3,d4,d5,rfl⟩ := hp'
  have hz := hfz _ rfl
  simp only [pkC] at hz hp hfz ⊢
  refine call9 (by simp) ?_
  simp only [strip,bodyOf,Tryz.f9,getD_body,keepN,bareOp_mk,List.map_cons,List.map_nil,↓reduceIte,Bool.false_eq_true]
  simp only [↓sbD,sbU,tyB,↓reduceIte,Nat.reduceEqDiff,Nat.reduceLT,Nat.reduceAdd,Nat.reduceLeDiff,boxS,Edp,dpv,hz]
  refine specKFew hp hfz fun few hfew => ?_
  cases few with
  | false =>
   simp only [↓sbD,sbU,↓reduceIte,Nat.reduceLT,not_bool]
   refine specS31 ?_
   simp only [↓sbD,sbU,↓reduceIte,Nat.reduceLT]
   exact downS_here rfl
  | true =>
   have hf := hfew rfl
   simp only [↓sbD,sbU,tyB,↓reduceIte,Nat.reduceEqDiff,Nat.reduceLT,Nat.reduceAdd,Nat.reduceLeDiff,not_bool]
   refine specMsEnc hp hf.big (fun fb he σ1 k1 => ?_) fun k rr a he σ1 d z k1 hd hn => ?_
   ·simp only [↓sbD,sbU,tyB,↓reduceIte,Nat.reduceEqDiff,Nat.reduceLT,Nat.reduceAdd,Nat.reduceLeDiff,splice,AS_new,zeFra]
    intro b hb
    generalize hσ2 : AHeap.set (AHeap.set σ1 b _) b _ = σ2
    have gb : σ2.get b = .cells [.int .i64 fb.1,.string fb.2] true 0 := by rw [← hσ2]; exact AHeap.get_set_same _ _ _
    clear hσ2
    refine specDMsEnc hp hf (fun fc he' σ3 k3 => ?_) fun k rr a he' hk σ3 k3 => by cases he.det he'
    have hfc := he.det he'
    simp only [Except.ok.injEq] at hfc
    subst hfc
    have gb3 := (k3.at gb (by simp) (by simp)).1
    simp only [↓sbD,sbU,tyB,↓reduceIte,Nat.reduceEqDiff,Nat.reduceLT,AS_new,zeFra,zeFlt]
    intro c hc e he2
    have hbc : b ≠ c := (nd hc gb3 (by simp)).symm
    have hec : e ≠ c := by rintro rfl; rw [AHeap.get_set_same] at he2; cases he2
    replace he2 : σ3.get e = .dead := by rw [AHeap.get_set_ne _ _ hec.symm] at he2; exact he2
    have hbe : b ≠ e := (nd he2 gb3 (by simp)).symm
    have ec : ∀ (τ : AHeap) o,(AHeap.set τ e o).get c = τ.get c := fun τ o => AHeap.get_set_ne _ _ hec
    have ce : ∀ (τ : AHeap) o,(AHeap.set τ c o).get e = τ.get e := fun τ o => AHeap.get_set_ne _ _ hec.symm
    have cb : ∀ (τ : AHeap) o,(AHeap.set τ c o).get b = τ.get b := fun τ o => AHeap.get_set_ne _ _ hbc.symm
    have eb : ∀ (τ : AHeap) o,(AHeap.set τ e o).get b = τ.get b := fun τ o => AHeap.get_set_ne _ _ hbe.symm
    simp only [↓sbD,sbU,tyB,Bool.or_self,↓reduceIte,Nat.reduceEqDiff,Nat.reduceLT,Nat.reduceAdd,Nat.reduceLeDiff,isConst,splice,ec,ce,cb,eb,gb3,eq_self,fraEq]
    refine specLsameNil ?_
    simp only [↓sbD,sbU,↓reduceIte,Nat.reduceEqDiff,Nat.reduceLT]
    refine specS31 ?_
    simp only [↓sbD,sbU,↓reduceIte,Nat.reduceEqDiff,Nat.reduceLT]
    exact downS_here rfl
   ·simp only [↓sbD,sbU,tyB,↓reduceIte,Nat.reduceEqDiff,Nat.reduceLT,Nat.reduceAdd,Nat.reduceLeDiff,splice,AS_new,zeFra]
    intro b hb
    generalize hσ2 : AHeap.set (AHeap.set σ1 b _) b _ = σ2
    have gb : σ2.get b = .cells [.int .i64 0,.string emp] true 0 := by rw [← hσ2]; exact AHeap.get_set_same _ _ _
    clear hσ2
    refine specDMsEnc hp hf (fun fc he' σ3 k3 => by cases he.det he') fun k' rr' a' he' hk σ3 k3 => ?_
    have hfc := he.det he'
    simp only [Except.error.injEq,Prod.mk.injEq] at hfc
    obtain ⟨rfl,rfl,rfl⟩ := hfc
    have gb3 := (k3.at gb (by simp) (by simp)).1
    simp only [↓sbD,sbU,tyB,↓reduceIte,Nat.reduceEqDiff,Nat.reduceLT,AS_new,zeFra,zeFlt]
    intro c hc e he2
    have hbc : b ≠ c := (nd hc gb3 (by simp)).symm
    have hec : e ≠ c := by rintro rfl; rw [AHeap.get_set_same] at he2; cases he2
    replace he2 : σ3.get e = .dead := by rw [AHeap.get_set_ne _ _ hec.symm] at he2; exact he2
    have hbe : b ≠ e := (nd he2 gb3 (by simp)).symm
    have ec : ∀ (τ : AHeap) o,(AHeap.set τ e o).get c = τ.get c := fun τ o => AHeap.get_set_ne _ _ hec
    have ce : ∀ (τ : AHeap) o,(AHeap.set τ c o).get e = τ.get e := fun τ o => AHeap.get_set_ne _ _ hec.symm
    have cb : ∀ (τ : AHeap) o,(AHeap.set τ c o).get b = τ.get b := fun τ o => AHeap.get_set_ne _ _ hbc.symm
    have eb : ∀ (τ : AHeap) o,(AHeap.set τ e o).get b = τ.get b := fun τ o => AHeap.get_set_ne _ _ hbe.symm
    simp only [↓sbD,sbU,tyB,Bool.or_self,↓reduceIte,Nat.reduceEqDiff,Nat.reduceLT,Nat.reduceAdd,Nat.reduceLeDiff,isConst,splice,ec,ce,cb,eb,gb3,eq_self,fraEq]
    refine specLsameE hn (by omega) ?_
    simp only [↓sbD,sbU,↓reduceIte,Nat.reduceEqDiff,Nat.reduceLT]
    refine specS31 ?_
    simp only [↓sbD,sbU,↓reduceIte,Nat.reduceEqDiff,Nat.reduceLT]
    exact downS_here rfl
 exact (key H (ext_holds hB0)).mono fun r H' ⟨σ',_,h⟩ => h
end Go.Proofs.YtjkhhdknplelcaaGreatDoor.AbsA
