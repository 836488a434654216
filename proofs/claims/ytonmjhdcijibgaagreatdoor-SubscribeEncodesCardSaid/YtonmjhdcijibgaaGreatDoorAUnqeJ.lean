/-
  Parts of a law's proof.
-/
import Derived.Test.YtonmjhdcijibgaaGreatDoorAAkqhJ
import Derived.Test.YtonmjhdcijibgaaGreatDoorAAkqcJ
namespace Go.Proofs.YtonmjhdcijibgaaGreatDoor.AbsA
open Go AbsYtonmjhdcijibgaaGreatDoor Abs
set_option maxRecDepth 100000
set_option maxHeartbeats 8000000
set_option linter.unusedSimpArgs false
set_option linter.unusedVariables false
attribute [local irreducible] afterS afterOpS opSK OpsS TrS CodeS condS condW thenS thenQ guardS guardTS outS drawS trSK consS
section
variable {σ : AHeap} {Q : Value → AHeap → Prop}
end
section
variable {σ : AHeap} {Q : Value → AHeap → Prop} {r q p : Nat} {s : ByteArray}
theorem specDId (hr : IsY σ r s 0 0 0) (hs : s.size ≤ 100000000)
  (hok : ∀ id q,numR s 0 2 = .ok (id,q) → id ≠ 0 → ∀ σ',Kept σ [r] σ' [r] → IsY σ' r s q 0 0 → Q (.tuple #[.int .i64 (id : Int),flt 0 0 0]) σ')
  (hz : ∀ q,numR s 0 2 = .ok (0,q) → ∀ σ',Kept σ [r] σ' [r] → Q (.tuple #[.int .i64 0,flt 3 130 0]) σ')
  (hbad : ∀ k q,numR s 0 2 = .error (k,q) → k ≠ 0 → ∀ σ',Kept σ [r] σ' [r] → Q (.tuple #[.int .i64 0,flt k 129 q]) σ') :
  CallS E B 142 [.pointer (some ⟨r,0,none⟩)] σ Q := by
 refine call142 (by simp) ?_
 simp only [strip,bodyOf,Tryz.f142,getD_body,keepN,bareOp_mk,List.map_cons,List.map_nil,↓reduceIte,Bool.false_eq_true]
 simp only [↓sbD,sbU,↓reduceIte,Nat.reduceLT,reduceCtorEq,AS_new,zeFlt]
 intro c hc
 have hcr : c ≠ r := nd hc hr (by simp)
 generalize hσ1 : AHeap.set σ c _ = σ1
 have k1 : Kept σ [r] σ1 [r] := by rw [← hσ1]; exact (Kept.refl σ [r]).setD hc
 have gc1 : σ1.get c = .cells [.int .i64 0,.int .i64 0,.int .i64 0] true 0 := by rw [← hσ1]; exact AHeap.get_set_same _ _ _
 have i1 : IsY σ1 r s 0 0 0 := by rw [← hσ1]; unfold IsY; rw [AHeap.get_set_ne _ _ hcr]; exact hr
 clear hσ1
 refine specYU16 i1 (Nat.zero_le _) (by omega) (fun id q hid σ2 k2 i2 => ?_) fun k q hid σ2 k2 i2 => ?_
 ·have gc2 := (k2.at gc1 (by simp) (by simpa using hcr)).1
  have i2' := i2
  unfold IsY at i2'
  by_cases h0 : id = 0
  ·subst h0
   simp only [↓sbD,sbU,tyB,decide_false,↓reduceIte,Nat.reduceEqDiff,Nat.reduceLT,reduceCtorEq,isConst,i2',show ((0 : Nat) : Int) = 0 from rfl]
   refine specKAgainst (n := 0) ?_
   simp only [↓sbD,sbU,tyB,↓reduceIte,Nat.reduceEqDiff,Nat.reduceLT,Nat.reduceAdd,Nat.reduceLeDiff,splice,gc2,res_cellc,resC_some]
   exact downS_here (hz q hid _ ((k1.trans k2).setD hc))
  ·have h0' : ¬ (id : Int) = 0 := by omega
   simp only [↓sbD,sbU,tyB,decide_false,↓reduceIte,Nat.reduceEqDiff,Nat.reduceLT,Nat.reduceAdd,Nat.reduceLeDiff,reduceCtorEq,pairs,isConst,splice,ZV.val,i2',h0',gc2,res_cellc,resC_some]
   exact downS_here (hok id q hid h0 _ ((k1.trans k2).setD hc) (by unfold IsY; rw [AHeap.get_set_ne _ _ hcr]; exact i2))
 ·have hk := numR_k hid
  have hk0 : ¬ (k : Int) = 0 := by omega
  have gc2 := (k2.at gc1 (by simp) (by simpa using hcr)).1
  have i2' := i2
  unfold IsY at i2'
  simp only [↓sbD,sbU,tyB,↓reduceIte,Nat.reduceLT,reduceCtorEq,isConst,i2',hk0]
  refine specKOfE hk i2 (Nat.zero_le _) ?_
  simp only [↓sbD,sbU,tyB,↓reduceIte,Nat.reduceEqDiff,Nat.reduceLT,Nat.reduceAdd,Nat.reduceLeDiff,splice,gc2,res_cellc,resC_some]
  exact downS_here (hbad k q hid hk _ ((k1.trans k2).setD hc))
theorem specDCodes {kind : Int} (hr : IsY σ r s p 0 0) (hp : p ≤ s.size) (hs : s.size ≤ 100000000)
  (hok : ∀ l,Parts s.size (codeO kind s) p [] (.ok l) → ∀ v σ',DL intC 1 v l → Kept σ [r] σ' [r] → Q (.tuple #[v,flt 0 0 0]) σ')
  (hbad : ∀ k rr a : Nat,Parts s.size (codeO kind s) p [] (.error (k,rr,a)) → k ≠ 0 → ∀ σ',Kept σ [r] σ' [r] → Q (.tuple #[.slice none 0 0,flt k rr a]) σ') :
  CallS E B 143 [.pointer (some ⟨r,0,none⟩),.int .i64 kind] σ Q := by
 refine call143 (by simp) ?_
 simp only [strip,bodyOf,Tryz.f143,getD_body,keepN,bareOp_mk,List.map_cons,List.map_nil,↓reduceIte,Bool.false_eq_true]
 simp only [↓sbD,sbU,AS_new,zeFlt]
 intro c hc
 have hcr : c ≠ r := nd hc hr (by simp)
 generalize hσ1 : AHeap.set σ c _ = σ1
 have k1 : Kept σ [r] σ1 [r] := by rw [← hσ1]; exact (Kept.refl σ [r]).setD hc
 have gc1 : σ1.get c = .cells [.int .i64 0,.int .i64 0,.int .i64 0] true 0 := by rw [← hσ1]; exact AHeap.get_set_same _ _ _
 have i1 : IsY σ1 r s p 0 0 := by rw [← hσ1]; unfold IsY; rw [AHeap.get_set_ne _ _ hcr]; exact hr
 clear hσ1
 refine S_loop (fun m f σ' => ∃ (p' : Nat) (l : List Int) (v : Value) (fp : List Nat),m + l.length = 32 ∧ p' ≤ s.size ∧ f 6 = v ∧ DG intC 1 σ' v l fp ∧ IsY σ' r s p' 0 0 ∧ Kept σ1 [r] σ' (r :: fp) ∧ ∀ R,Parts s.size (codeO kind s) p' l R → Parts s.size (codeO kind s) p [] R) 32 (Le.refl _) ⟨p,[],_,[],rfl,hp,rfl,by simp only [sbU,↓reduceIte]; exact DG.nil,i1,Kept.refl _ _,fun R h => h⟩ ?_
 rintro m f σ2 ⟨p',l,v,fp,hm,hp',fl,hg,i2,k2,hback⟩ hf
 have f0 := hf 0 (by decide) (notMem_wr (by kernel_rfl))
 have f1 := hf 1 (by decide) (notMem_wr (by kernel_rfl))
 have f5 := hf 5 (by decide) (notMem_wr (by kernel_rfl))
 simp only [sbU,↓reduceIte,Nat.reduceEqDiff,reduceCtorEq] at f0 f1 f5
 clear hf
 have hlen := DLi.len hg.dl
 have gc2 := (k2.at gc1 (by simp) (by simpa using hcr)).1
 have hrf := hg.nin i2
 have hcf := hg.nin gc2
 have K2 : Kept σ [r] σ2 [r] := k1.trans (k2.wid (fun _ h => h) (fun b h => by simp only [List.mem_cons,List.not_mem_nil,or_false] at h; exact .inr (by simp [h])))
 have i2' := i2
 unfold IsY at i2'
 by_cases hlt : p' < s.size
 ·have h0 : (p' : Int) < (s.size : Int) := by omega
  by_cases h32 : l.length = 32
  ·have h32' : (l.length : Int) = 32 := by omega
   simp only [↓sbD,sbU,tyB,Bool.or_self,↓reduceIte,Nat.reduceEqDiff,Nat.reduceLT,Nat.reduceAdd,Nat.reduceLeDiff,reduceCtorEq,goInt,pairs,isConst,splice,ZV.val,f0,f5,fl,i2',h0,hlen,h32',gc2,res_cellc,resC_some]
   exact downS_here (hbad 4 149 p' (hback _ (.many hlt h32)) (by omega) _ (K2.setD hc))
  ·have h32' : ¬ (l.length : Int) = 32 := by omega
   simp only [↓sbD,sbU,tyB,decide_false,Bool.or_self,↓reduceIte,Nat.reduceEqDiff,Nat.reduceLT,reduceCtorEq,goInt,isConst,f0,fl,i2',h0,hlen,h32']
   obtain ⟨n,hn⟩ := numR_one hlt
   refine specYU8 i2 hp' (by omega) (fun n' q hn' σ3 k3 i3 => ?_) fun k q hn' σ3 k3 i3 => by rw [hn] at hn'; cases hn'
   rw [hn] at hn'
   simp only [Except.ok.injEq,Prod.mk.injEq] at hn'
   obtain ⟨rfl,rfl⟩ := hn'
   have gc3 := (k3.at gc2 (by simp) (by simpa using hcr)).1
   simp only [↓sbD,sbU,↓reduceIte,Nat.reduceEqDiff,Nat.reduceLT,f1]
   refine specAlwC ?_
   cases ha : alw kind (n : Int) with
   | false =>
    simp only [↓sbD,sbU,↓reduceIte,Nat.reduceEqDiff,Nat.reduceLT,not_bool]
    refine specKBad (n := p') ?_
    simp only [↓sbD,sbU,tyB,↓reduceIte,Nat.reduceEqDiff,Nat.reduceLT,Nat.reduceAdd,Nat.reduceLeDiff,splice,f5,gc3,res_cellc,resC_some]
    exact downS_here (hbad 2 129 p' (hback _ (.bad hlt h32 (by unfold codeO; rw [hn]; simp only [ha,Bool.false_eq_true,if_false]))) (by omega) _ ((K2.trans k3).setD hc))
   | true =>
    simp only [↓sbD,sbU,tyB,Nat.reduceBneDiff,decide_false,gt_iff_lt,Bool.or_self,Bool.false_eq_true,Nat.mul_one,↓reduceIte,Nat.reduceEqDiff,Nat.reduceLT,Nat.reduceLeDiff,reduceCtorEq,pairs,splice,Edp,dpv,ZV.val,not_bool]
    have hg3 := hg.kept k3 (fun b hb hm => hrf (by obtain rfl := List.mem_singleton.1 hm; exact hb))
    simp only [fl]
    refine app_in (xs := [(n : Int)]) hg3 (.inr ⟨1,rfl⟩) (by simp only [List.length_cons,List.length_nil]; omega) fun σ4 v4 fp4 k4 g4 => ?_
    have i4 := (k4.at i3 (by simp) hrf).1
    simp only [↓sbD,sbU,↓reduceIte,Nat.reduceLT]
    refine ⟨_,m - 1,σ4,rfl,by omega,Le.refl _,p' + 1,l ++ [(n : Int)],v4,fp4,by rw [List.length_append]; simp only [List.length_cons,List.length_nil]; omega,by omega,rfl,g4,i4,?_,fun R h => hback R (.step hlt h32 (by unfold codeO; rw [hn]; simp only [ha,if_true]) h)⟩
    exact (k2.trans (k3.wid (gp := r :: fp) (gp' := r :: fp) (fun b hb => by simp at hb; simp [hb]) (fun b hb => .inr hb))).trans (k4.wid (gp := r :: fp) (gp' := r :: fp4) (fun b hb => by simp [hb]) (fun b hb => by simp only [List.mem_cons] at hb ⊢; rcases hb with hb | hb <;> simp [hb]))
 ·have h0 : ¬ (p' : Int) < (s.size : Int) := by omega
  by_cases hn : l = []
  ·subst hn
   simp only [↓sbD,sbU,tyB,decide_false,Bool.or_self,↓reduceIte,Nat.reduceEqDiff,Nat.reduceLT,reduceCtorEq,goInt,isConst,f0,fl,i2',h0,hlen,show ((0 : Nat) : Int) = 0 from rfl]
   refine specKAgainst (n := p') ?_
   simp only [↓sbD,sbU,tyB,↓reduceIte,Nat.reduceEqDiff,Nat.reduceLT,Nat.reduceAdd,Nat.reduceLeDiff,splice,f5,gc2,res_cellc,resC_some]
   exact downS_here (hbad 3 130 p' (hback _ (.none (by omega))) (by omega) _ (K2.setD hc))
  ·have hn' : ¬ (l.length : Int) = 0 := fun h => hn (List.length_eq_zero_iff.1 (by omega))
   simp only [↓sbD,sbU,tyB,decide_false,Bool.or_self,↓reduceIte,Nat.reduceEqDiff,Nat.reduceLT,Nat.reduceAdd,Nat.reduceLeDiff,reduceCtorEq,goInt,pairs,isConst,splice,ZV.val,f0,f5,fl,i2',h0,hlen,hn',gc2,res_cellc,resC_some]
   exact downS_here (hok l (hback _ (.done (by omega) hn)) v _ hg.dl (K2.setD hc))
end
section
variable {σ : AHeap} {Q : Value → AHeap → Prop} {r q p : Nat} {s : ByteArray}
end
def optI (x : Sb) : Int := if x.q < 0 ∨ 3 < x.q ∨ x.rt < 0 ∨ 3 < x.rt then -1 else x.q + 16 * x.rt + (if x.nl then 4 else 0) + (if x.ai then 8 else 0)
def subA (x : Sb) : List Act := [⟨6,0,x.f⟩,⟨1,optI x,emp⟩]
def subN (t : ByteArray) (n : Nat) : Sb := ⟨t,((n % 4 : Nat) : Int),decide (n / 4 % 2 = 1),decide (n / 8 % 2 = 1),((n / 16 : Nat) : Int)⟩
def subO (s : ByteArray) (p : Nat) : Except E3 (Sb × Nat) := match textR s p with
 | .error (k,q) => .error (k,129,q)
 | .ok (t,q) => match numR s q 1 with
  | .error (k,q') => .error (k,129,q')
  | .ok (n,q') => if 63 < n then .error (2,129,q) else if n % 4 = 3 ∨ n / 16 = 3 then .error (3,130,q) else .ok (subN t n,q')
def sbsP (kind id : Int) (l : List Pr) (x : List Sb) (c : List Int) : Pk := { pkz with kind := kind,id := id,props := l,subs := x,codes := c }
def DecS (f : Int) (s : ByteArray) (r : Except E3 Pk) : Prop :=
 if f ≠ 130 ∧ f ≠ 144 then r = .error (2,129,0) else ∃ h,HeadP (f / 16) s h ∧ match h with
  | .error e => r = .error e
  | .ok (id,l,q) => if f = 144 then ∃ c,Parts s.size (codeO 9 s) q [] c ∧ r = mapE (fun c => sbsP 9 id l [] c) c
   else ∃ c,Parts s.size (subO s) q [] c ∧ r = mapE (fun c => sbsP 8 id l c []) c
theorem DecS.det {f : Int} {s : ByteArray} {r r' : Except E3 Pk} (h : DecS f s r) (h' : DecS f s r') : r = r' := by
 unfold DecS at h h'
 split at h
 ·rename_i h1
  rw [if_pos h1] at h'
  exact h.trans h'.symm
 ·rename_i h1
  rw [if_neg h1] at h'
  obtain ⟨x,h2,h3⟩ := h
  obtain ⟨y,h4,h5⟩ := h'
  obtain rfl := h2.det h4
  cases x with
  | error e => exact h3.trans h5.symm
  | ok a =>
   obtain ⟨id,l,q⟩ := a
   simp only at h3 h5
   split at h3
   ·rename_i h6
    rw [if_pos h6] at h5
    obtain ⟨c,h7,rfl⟩ := h3
    obtain ⟨d,h8,rfl⟩ := h5
    rw [h7.det h8]
   ·rename_i h6
    rw [if_neg h6] at h5
    obtain ⟨c,h7,rfl⟩ := h3
    obtain ⟨d,h8,rfl⟩ := h5
    rw [h7.det h8]
def firstS (k : Int) : Int := if k = 8 then 130 else if k = 9 then 144 else 0
def actsS (p : Pk) (s : ByteArray) : List Act := ⟨2,p.id,emp⟩ :: ⟨8,0,s⟩ :: (if p.kind = 8 then p.subs.flatMap subA else p.codes.flatMap codA)
def EncS (p : Pk) (r : Except E3 (Int × ByteArray)) : Prop :=
 if firstS p.kind = 0 then r = .error (7,128,0) else match encP p.kind p.props with
 | .error e => r = .error e
 | .ok s => MadeR (firstS p.kind) (DecS (firstS p.kind)) (runW emp (actsS p s)) r
theorem EncS.det {p : Pk} {r r' : Except E3 (Int × ByteArray)} (h : EncS p r) (h' : EncS p r') : r = r' := by
 unfold EncS at h h'
 split at h
 ·rename_i h1
  rw [if_pos h1] at h'
  exact h.trans h'.symm
 ·rename_i h1
  rw [if_neg h1] at h'
  cases hb : encP p.kind p.props with
  | error e => rw [hb] at h h'; exact h.trans h'.symm
  | ok s =>
   rw [hb] at h h'
   simp only at h h'
   exact MadeR.det (D := DecS (firstS p.kind)) (fun _ _ _ h1 h2 => h1.det h2) h h'
def sbsC (kind id : Int) (vp vs vc : Value) : List Value := [.int .i64 kind,.int .i64 id,.int .i64 0,vp,.bool false,.int .i64 0,.string emp,.bool false,.string emp,.string emp,.int .i64 0,.bool false,.slice none 0 0,.bool false,.string emp,.bool false,.string emp,.bool false,.string emp,.string emp,.int .i64 0,.bool false,.bool false,vs,.slice none 0 0,vc]
theorem sbsC_pk {kind id : Int} {l : List Pr} {x : List Sb} {c : List Int} {vp vs vc : Value} (h1 : DL propC 4 vp l) (h2 : DL subC 5 vs x) (h3 : DL intC 1 vc c) : PkV (sbsP kind id l x c) (.agg ⟨sbsC kind id vp vs vc⟩) := ⟨vp,.slice none 0 0,vs,.slice none 0 0,vc,h1,.inl ⟨rfl,rfl⟩,h2,.inl ⟨rfl,rfl⟩,h3,rfl⟩
theorem subC_frz (a : Sb) : frzL E.ng E.nb (subC a) = true := by simp [subC,frzL,frz]
theorem subC_bare (a : Sb) : bareL (subC a) = subC a := by simp [subC,bareL,bare]
theorem subC_oc (a : Sb) : (subC a).all oneCell = true := rfl
theorem zeSb : azero E 98 = some [.string emp,.int .i64 0,.bool false,.bool false,.int .i64 0] := rfl
section
variable {σ : AHeap} {Q : Value → AHeap → Prop}
theorem app_sb {K : Value → AHeap → Prop} {v y : Value} {l xs : List Sb} {fp : List Nat} (hv : DG subC 5 σ v l fp) (hx : DL subC 5 y xs) (hn : l.length + xs.length ≤ 1000000) (hq : ∀ σ' v' fp',Kept σ fp σ' fp' → DG subC 5 σ' v' (l ++ xs) fp' → K v' σ') :
  afterOpS E B (some (.any fun b => aappend E (σ.resize b) [50,50] [v,y])) σ K :=
 app_deep (by_ := 40) ty50 ty98 rfl (by omega) (by omega) ty50 rfl rfl subC_bare subC_frz subC_oc hv hx (by omega) hq
end
theorem or_nat {n m : Nat} (hn : n < 2 ^ 62) (hm : m < 2 ^ 62) : aint .or .i64 (n : Int) (m : Int) = some (.int .i64 ((n ||| m : Nat) : Int)) := by
 have key : ((BitVec.ofInt 64 (n : Int)) ||| (BitVec.ofInt 64 (m : Int))).toNat = n ||| m := by
  rw [BitVec.toNat_or,BitVec.ofInt_natCast,BitVec.ofInt_natCast,BitVec.toNat_ofNat,BitVec.toNat_ofNat]
  rw [Nat.mod_eq_of_lt (by omega),Nat.mod_eq_of_lt (by omega)]
 have hle : n ||| m < 2 ^ 62 := Nat.or_lt_two_pow hn hm
 show some (Value.int .i64 (IntKind.i64.wrap ((((BitVec.ofInt 64 (n : Int)) ||| (BitVec.ofInt 64 (m : Int))).toNat : Nat) : Int))) = _
 rw [key,wrap64 ⟨by omega,by omega⟩]
theorem bits_and : ∀ n,n < 256 → (n &&& 3 = n % 4) ∧ ((n &&& 4 = 0) ↔ ¬ n / 4 % 2 = 1) ∧ ((n &&& 8 = 0) ↔ ¬ n / 8 % 2 = 1) := by decide +kernel
section
variable {σ : AHeap} {Q : Value → AHeap → Prop} {r q p : Nat} {s : ByteArray}
theorem specSFirst {k : Int} (h : Q (.int .i64 (firstS k)) σ) : CallS E B 93 [.int .i64 k] σ Q := by
 refine call93 (by simp) ?_
 simp only [strip,bodyOf,Tryz.f93,getD_body,keepN,bareOp_mk,List.map_cons,List.map_nil,↓reduceIte,Bool.false_eq_true]
 by_cases hm : k = 8 ∨ k = 9
 ·rcases hm with rfl | rfl <;>
   (simp only [↓sbD,sbU,Int.reduceEq,decide_false,↓reduceIte,Nat.reduceEqDiff,Nat.reduceLT,reduceCtorEq,isConst]
    exact downS_here h)
 ·simp only [not_or] at hm
  have e : firstS k = 0 := by simp [firstS,hm]
  rw [e] at h
  obtain ⟨n1,n2⟩ := hm
  simp only [↓sbD,sbU,decide_false,↓reduceIte,Nat.reduceEqDiff,Nat.reduceLT,reduceCtorEq,isConst,n1,n2]
  exact downS_here h
theorem opt_or : ∀ a,a < 4 → ∀ b,b < 4 → ((a ||| b * 16) = a + 16 * b) ∧ ((a ||| b * 16) ||| 4) = a + 16 * b + 4 ∧ ((a ||| b * 16) ||| 8) = a + 16 * b + 8 ∧ (((a ||| b * 16) ||| 4) ||| 8) = a + 16 * b + 4 + 8 := by decide +kernel
theorem specSOpt {x : Sb} (h : Q (.int .i64 (optI x)) σ) : CallS E B 94 [.agg ⟨subC x⟩] σ Q := by
 obtain ⟨g,q,nl,ai,rt⟩ := x
 simp only [subC]
 unfold optI at h
 simp only at h
 refine call94 (by simp) ?_
 simp only [strip,bodyOf,Tryz.f94,getD_body,keepN,bareOp_mk,List.map_cons,List.map_nil,↓reduceIte,Bool.false_eq_true]
 by_cases c1 : q < 0
 ·rw [if_pos (.inl c1)] at h
  simp only [↓sbD,sbU,tyB,↓reduceIte,Nat.reduceEqDiff,Nat.reduceLT,reduceCtorEq,isConst,boxS,Edp,dpv,c1]
  exact downS_here h
 by_cases c2 : 3 < q
 ·rw [if_pos (.inr (.inl c2))] at h
  simp only [↓sbD,sbU,tyB,decide_false,↓reduceIte,Nat.reduceEqDiff,Nat.reduceLT,reduceCtorEq,isConst,boxS,Edp,dpv,c1,c2]
  exact downS_here h
 by_cases c3 : rt < 0
 ·rw [if_pos (.inr (.inr (.inl c3)))] at h
  simp only [↓sbD,sbU,tyB,decide_false,↓reduceIte,Nat.reduceEqDiff,Nat.reduceLT,reduceCtorEq,isConst,boxS,Edp,dpv,c1,c2,c3]
  exact downS_here h
 by_cases c4 : 3 < rt
 ·rw [if_pos (.inr (.inr (.inr c4)))] at h
  simp only [↓sbD,sbU,tyB,decide_false,↓reduceIte,Nat.reduceEqDiff,Nat.reduceLT,reduceCtorEq,isConst,boxS,Edp,dpv,c1,c2,c3,c4]
  exact downS_here h
 ·rw [if_neg (by omega)] at h
  obtain ⟨a,rfl⟩ : ∃ a : Nat,q = a := ⟨q.toNat,by omega⟩
  obtain ⟨b,rfl⟩ : ∃ b : Nat,rt = b := ⟨rt.toNat,by omega⟩
  have hwm : IntKind.i64.wrap ((b : Int) * 16) = ((b * 16 : Nat) : Int) := by rw [wrap64 ⟨by omega,by omega⟩]; omega
  obtain ⟨o1,o2,o3,o4⟩ := opt_or a (by omega) b (by omega)
  have f1 := or_nat (n := a) (m := b * 16) (by omega) (by omega)
  rw [o1] at f1 o2 o3 o4
  have f2 : aint .or .i64 ((a + 16 * b : Nat) : Int) 4 = _ := or_nat (n := a + 16 * b) (m := 4) (by omega) (by omega)
  have f3 : aint .or .i64 ((a + 16 * b : Nat) : Int) 8 = _ := or_nat (n := a + 16 * b) (m := 8) (by omega) (by omega)
  have f4 : aint .or .i64 ((a + 16 * b + 4 : Nat) : Int) 8 = _ := or_nat (n := a + 16 * b + 4) (m := 8) (by omega) (by omega)
  rw [o2] at f2
  rw [o3] at f3
  rw [← o2,o4] at f4
  rw [o2] at f4
  cases nl <;> cases ai <;>
   (simp only [↓sbD,sbU,tyB,decide_false,Bool.or_self,↓reduceIte,Nat.reduceEqDiff,Nat.reduceLT,reduceCtorEq,isConst,boxS,Edp,dpv,c1,c2,c3,c4,hwm,f1,f2,f3,f4]
    refine downS_here ?_
    simpa using h)
theorem specDOpt {x : Sb} (h : Q (.int .i64 (optI x)) σ) : CallS E B 97 [.agg ⟨subC x⟩] σ Q := by
 obtain ⟨g,q,nl,ai,rt⟩ := x
 simp only [subC]
 unfold optI at h
 simp only at h
 refine call97 (by simp) ?_
 simp only [strip,bodyOf,Tryz.f97,getD_body,keepN,bareOp_mk,List.map_cons,List.map_nil,↓reduceIte,Bool.false_eq_true]
 by_cases c1 : q < 0
 ·rw [if_pos (.inl c1)] at h
  simp only [↓sbD,sbU,tyB,↓reduceIte,Nat.reduceEqDiff,Nat.reduceLT,reduceCtorEq,isConst,boxS,Edp,dpv,c1]
  exact downS_here h
 by_cases c2 : 3 < q
 ·rw [if_pos (.inr (.inl c2))] at h
  simp only [↓sbD,sbU,tyB,decide_false,↓reduceIte,Nat.reduceEqDiff,Nat.reduceLT,reduceCtorEq,isConst,boxS,Edp,dpv,c1,c2]
  exact downS_here h
 by_cases c3 : rt < 0
 ·rw [if_pos (.inr (.inr (.inl c3)))] at h
  simp only [↓sbD,sbU,tyB,decide_false,↓reduceIte,Nat.reduceEqDiff,Nat.reduceLT,reduceCtorEq,isConst,boxS,Edp,dpv,c1,c2,c3]
  exact downS_here h
 by_cases c4 : 3 < rt
 ·rw [if_pos (.inr (.inr (.inr c4)))] at h
  simp only [↓sbD,sbU,tyB,decide_false,↓reduceIte,Nat.reduceEqDiff,Nat.reduceLT,reduceCtorEq,isConst,boxS,Edp,dpv,c1,c2,c3,c4]
  exact downS_here h
 ·rw [if_neg (by omega)] at h
  obtain ⟨a,rfl⟩ : ∃ a : Nat,q = a := ⟨q.toNat,by omega⟩
  obtain ⟨b,rfl⟩ : ∃ b : Nat,rt = b := ⟨rt.toNat,by omega⟩
  have w1 : IntKind.i64.wrap (16 * (b : Int)) = 16 * (b : Int) := wrap64 ⟨by omega,by omega⟩
  have w2 : IntKind.i64.wrap ((a : Int) + 16 * (b : Int)) = (a : Int) + 16 * (b : Int) := wrap64 ⟨by omega,by omega⟩
  have w3 : IntKind.i64.wrap ((a : Int) + 16 * (b : Int) + 4) = (a : Int) + 16 * (b : Int) + 4 := wrap64 ⟨by omega,by omega⟩
  have w4 : IntKind.i64.wrap ((a : Int) + 16 * (b : Int) + 8) = (a : Int) + 16 * (b : Int) + 8 := wrap64 ⟨by omega,by omega⟩
  have w5 : IntKind.i64.wrap ((a : Int) + 16 * (b : Int) + 4 + 8) = (a : Int) + 16 * (b : Int) + 4 + 8 := wrap64 ⟨by omega,by omega⟩
  cases nl <;> cases ai <;>
   (simp only [↓sbD,sbU,tyB,decide_false,Bool.or_self,↓reduceIte,Nat.reduceEqDiff,Nat.reduceLT,reduceCtorEq,isConst,boxS,Edp,dpv,c1,c2,c3,c4,w1,w2,w3,w4,w5]
    refine downS_here ?_
    simpa using h)
theorem specSCode (hr : IsR σ r s p .nilIface) (hp : p < s.size) (hs : s.size ≤ 100000000)
  (hok : ∀ c q,codeO 9 s p = .ok (c,q) → ∀ σ',Kept σ [r] σ' [r] → IsR σ' r s q .nilIface → p < q → q ≤ s.size → Q (.tuple #[.int .i64 c,.nilIface]) σ')
  (hbad : ∀ k rr a : Nat,codeO 9 s p = .error (k,rr,a) → ∀ σ' d z,Kept σ [r] σ' [r] → d ≤ 3 → ErN d (fv rr a z) k → Q (.tuple #[.int .i64 0,fv rr a z]) σ') :
  CallS E B 139 [.pointer (some ⟨r,0,none⟩)] σ Q := by
 obtain ⟨n,hn⟩ := numR_one hp
 unfold codeO at hok hbad
 simp only [hn] at hok hbad
 refine call139 (by simp) ?_
 simp only [strip,bodyOf,Tryz.f139,getD_body,keepN,bareOp_mk,List.map_cons,List.map_nil,↓reduceIte,Bool.false_eq_true]
 simp only [↓sbD,sbU,↓reduceIte,Nat.reduceLT,reduceCtorEq]
 refine specRAt hr ?_
 simp only [↓sbD,sbU,↓reduceIte,Nat.reduceLT,reduceCtorEq]
 refine specRU8 hr (by omega) (by omega) (fun n' q' hn' σ1 k1 i1 => ?_) fun k q' hn' σ1 k1 i1 => by rw [hn] at hn'; cases hn'
 rw [hn] at hn'
 simp only [Except.ok.injEq,Prod.mk.injEq] at hn'
 obtain ⟨rfl,rfl⟩ := hn'
 simp only [↓sbD,sbU,↓reduceIte,Nat.reduceLT,reduceCtorEq]
 refine specRErr i1 ?_
 simp only [↓sbD,sbU,tyB,↓reduceIte,Nat.reduceEqDiff,Nat.reduceLT,isConst]
 refine specAlwR ?_
 cases ha : alw 9 (n : Int) with
 | false =>
  simp only [ha,Bool.false_eq_true,if_false] at hbad
  simp only [↓sbD,sbU,tyB,↓reduceIte,Nat.reduceEqDiff,Nat.reduceLT,not_bool,gk2]
  refine specNew (n := 2) ⟨by omega,by omega⟩ ?_
  simp only [↓sbD,sbU,↓reduceIte,Nat.reduceEqDiff,Nat.reduceLT]
  exact downS_here (hbad 2 129 p rfl _ 1 _ k1 (by omega) (ErN.new _ _ ⟨by omega,by omega⟩))
 | true =>
  simp only [ha,if_true] at hok
  simp only [↓sbD,sbU,↓reduceIte,Nat.reduceEqDiff,Nat.reduceLT,reduceCtorEq,not_bool]
  refine specRErr i1 ?_
  simp only [↓sbD,sbU,↓reduceIte,Nat.reduceEqDiff,Nat.reduceLT]
  exact downS_here (hok _ _ rfl _ k1 i1 (by omega) (by omega))
theorem specSOne (hr : IsR σ r s p .nilIface) (hp : p ≤ s.size) (hs : s.size ≤ 100000000)
  (hok : ∀ x q,subO s p = .ok (x,q) → ∀ σ',Kept σ [r] σ' [r] → IsR σ' r s q .nilIface → q ≤ s.size → Q (.tuple #[.agg ⟨subC x⟩,.nilIface]) σ')
  (hbad : ∀ k rr a : Nat,subO s p = .error (k,rr,a) → ∀ x σ' d z,Kept σ [r] σ' [r] → d ≤ 3 → ErN d (fv rr a z) k → Q (.tuple #[.agg ⟨subC x⟩,fv rr a z]) σ') :
  CallS E B 141 [.pointer (some ⟨r,0,none⟩)] σ Q := by
 unfold subO at hok hbad
 refine call141 (by simp) ?_
 simp only [strip,bodyOf,Tryz.f141,getD_body,keepN,bareOp_mk,lessOp_mk,List.map_cons,List.map_nil,↓reduceIte,Nat.reduceEqDiff,Bool.false_eq_true]
 simp only [↓sbD,sbU,↓reduceIte,Nat.reduceLT,reduceCtorEq,AS_new,zeSb]
 intro b hb
 have hbr : b ≠ r := nd hb hr (by simp)
 generalize hσ1 : AHeap.set σ b _ = σ1
 have k1 : Kept σ [r] σ1 [r] := by rw [← hσ1]; exact (Kept.refl σ [r]).setD hb
 have gb1 : σ1.get b = .cells [.string emp,.int .i64 0,.bool false,.bool false,.int .i64 0] true 0 := by rw [← hσ1]; exact AHeap.get_set_same _ _ _
 have i1 : IsR σ1 r s p .nilIface := by rw [← hσ1]; unfold IsR; rw [AHeap.get_set_ne _ _ hbr]; exact hr
 clear hσ1
 refine specDText i1 hp (by omega) (fun t q ht σ2 k2 i2 => ?_) fun k q ht σ2 k2 i2 => ?_
 rotate_left
 ·simp only [ht] at hok hbad
  obtain ⟨d,z,hd,he,i3⟩ := i2
  have gb2 := (k2.at gb1 (by simp) (by simpa using hbr)).1
  simp only [↓sbD,sbU,tyB,↓reduceIte,Nat.reduceEqDiff,Nat.reduceLT,Nat.reduceAdd,Nat.reduceLeDiff,reduceCtorEq,pairs,splice,ZV.val,AS_new,zeSb]
  intro y hy
  have hyb : y ≠ b := nd hy gb2 (by simp)
  have hyr : y ≠ r := nd hy i3 (by simp)
  generalize hσ3 : AHeap.set (AHeap.set σ2 y _) y _ = σ3
  have k3 : Kept σ2 [] σ3 [] := by rw [← hσ3]; exact ((Kept.refl _ []).setD hy).setD hy
  have i4 := i3.kept k3 (by simp)
  have gy3 : σ3.get y = .cells [.string emp,.int .i64 0,.bool false,.bool false,.int .i64 0] true 0 := by rw [← hσ3]; exact AHeap.get_set_same _ _ _
  have gb3 := (k3.at gb2 (by simp) (by simp)).1
  have M3 : Kept σ2 [r] σ3 [r] := k3.wid (fun _ h => by cases h) (fun _ h => .inr h)
  have K3 := k1.trans (k2.trans M3)
  clear hσ3
  refine specRAt i4 ?_
  simp only [↓sbD,sbU,↓reduceIte,Nat.reduceLT,reduceCtorEq]
  refine specRU8E i4 ?_
  simp only [↓sbD,sbU,↓reduceIte,Nat.reduceLT,reduceCtorEq]
  refine specRErr i4 ?_
  simp only [↓sbD,sbU,tyB,↓reduceIte,Nat.reduceEqDiff,Nat.reduceLT,Nat.reduceAdd,Nat.reduceLeDiff,isConst,splice,gy3,gb3,res_cellc,resC_some]
  exact downS_here (hbad k 129 q rfl ⟨emp,0,false,false,0⟩ _ d z (K3.setD hb) (by omega) he)
 have hq := textR_ok ht
 simp only [ht] at hok hbad
 have gb2 := (k2.at gb1 (by simp) (by simpa using hbr)).1
 have i3 := i2
 simp only [↓sbD,sbU,tyB,↓reduceIte,Nat.reduceEqDiff,Nat.reduceLT,Nat.reduceAdd,Nat.reduceLeDiff,reduceCtorEq,pairs,splice,ZV.val,AS_new,zeSb]
 intro y hy
 have hyb : y ≠ b := nd hy gb2 (by simp)
 have hyr : y ≠ r := nd hy i3 (by simp)
 generalize hσ3 : AHeap.set (AHeap.set σ2 y _) y _ = σ3
 have k3 : Kept σ2 [] σ3 [] := by rw [← hσ3]; exact ((Kept.refl _ []).setD hy).setD hy
 have i4 := i3.kept k3 (by simp)
 have gy3 : σ3.get y = .cells [.string t,.int .i64 0,.bool false,.bool false,.int .i64 0] true 0 := by rw [← hσ3]; exact AHeap.get_set_same _ _ _
 have gb3 := (k3.at gb2 (by simp) (by simp)).1
 have M3 : Kept σ2 [r] σ3 [r] := k3.wid (fun _ h => by cases h) (fun _ h => .inr h)
 have K3 := k1.trans (k2.trans M3)
 clear hσ3
 refine specRAt i4 ?_
 simp only [↓sbD,sbU,↓reduceIte,Nat.reduceLT,reduceCtorEq]
 refine specRU8 i4 hq.2 (by omega) (fun n q2 hn σ5 k5 i5 => ?_) fun k q2 hn σ5 k5 i5 => ?_
 rotate_left
 ·simp only [hn] at hok hbad
  obtain ⟨d,z,hd,he,i6⟩ := i5
  have gy5 := (k5.at gy3 (by simp) (by simpa using hyr)).1
  have gb5 := (k5.at gb3 (by simp) (by simpa using hbr)).1
  simp only [↓sbD,sbU,↓reduceIte,Nat.reduceLT,reduceCtorEq]
  refine specRErr i6 ?_
  simp only [↓sbD,sbU,tyB,↓reduceIte,Nat.reduceEqDiff,Nat.reduceLT,Nat.reduceAdd,Nat.reduceLeDiff,isConst,splice,gy5,gb5,res_cellc,resC_some]
  exact downS_here (hbad k 129 q2 rfl ⟨t,0,false,false,0⟩ _ d z ((K3.trans k5).setD hb) (by omega) he)
 have hnz := numR_lt hn
 have hq2 := numR_ok hn
 simp only [hn] at hok hbad
 have gy5 := (k5.at gy3 (by simp) (by simpa using hyr)).1
 have gb5 := (k5.at gb3 (by simp) (by simpa using hbr)).1
 have yb : ∀ (τ : AHeap) o,(AHeap.set τ y o).get b = τ.get b := fun τ o => AHeap.get_set_ne _ _ hyb
 have by' : ∀ (τ : AHeap) o,(AHeap.set τ b o).get y = τ.get y := fun τ o => AHeap.get_set_ne _ _ hyb.symm
 simp only [↓sbD,sbU,↓reduceIte,Nat.reduceLT,reduceCtorEq]
 refine specRErr i5 ?_
 obtain ⟨b3,b4,b8⟩ := bits_and n (by omega)
 have a3 : aint .and .i64 (n : Int) 3 = _ := and_nat (n := n) (m := 3) (by omega) (by omega)
 rw [b3] at a3
 have a4 : aint .and .i64 (n : Int) 4 = _ := and_nat (n := n) (m := 4) (by omega) (by omega)
 have a8 : aint .and .i64 (n : Int) 8 = _ := and_nat (n := n) (m := 8) (by omega) (by omega)
 have a16 : aint .quo .i64 (n : Int) 16 = some (.int .i64 ((n / 16 : Nat) : Int)) := by
  show (if (16 : Int) = 0 then none else some (Value.int .i64 (IntKind.i64.wrap ((n : Int).tdiv 16)))) = _
  rw [if_neg (by decide),Int.tdiv_eq_ediv_of_nonneg (by omega),wrap64 ⟨by omega,by omega⟩]
  rfl
 have e4 : (((n &&& 4 : Nat) : Int) = 0) = (¬ n / 4 % 2 = 1) := by rw [← b4]; exact propext ⟨fun h => by omega,fun h => by omega⟩
 have e8 : (((n &&& 8 : Nat) : Int) = 0) = (¬ n / 8 % 2 = 1) := by rw [← b8]; exact propext ⟨fun h => by omega,fun h => by omega⟩
 have hsub : ∀ B4 B8 : Bool,(n / 4 % 2 = 1 ↔ B4 = true) → (n / 8 % 2 = 1 ↔ B8 = true) → subN t n = ⟨t,((n % 4 : Nat) : Int),B4,B8,((n / 16 : Nat) : Int)⟩ := fun B4 B8 h1 h2 => by
  unfold subN
  congr 1
  ·cases B4 <;> simp_all
  ·cases B8 <;> simp_all
 rcases Classical.em (n / 4 % 2 = 1) with h4 | h4 <;> rcases Classical.em (n / 8 % 2 = 1) with h8 | h8
 all_goals
  rw [show (n / 4 % 2 = 1) = _ from by first | exact eq_true h4 | exact eq_false h4] at e4
  rw [show (n / 8 % 2 = 1) = _ from by first | exact eq_true h8 | exact eq_false h8] at e8
  have hsb := hsub _ _ (by first | exact iff_of_true h4 rfl | exact iff_of_false h4 Bool.false_ne_true) (by first | exact iff_of_true h8 rfl | exact iff_of_false h8 Bool.false_ne_true)
  simp only [↓sbD,sbU,tyB,decide_false,↓reduceIte,Nat.reduceEqDiff,Nat.reduceLT,Nat.reduceAdd,Nat.reduceLeDiff,reduceCtorEq,isConst,splice,a3,a4,a8,a16,e4,e8,decide_false,gy5]
  generalize hσ6 : AHeap.set (AHeap.set (AHeap.set (AHeap.set σ5 y _) y _) y _) y _ = σ6
  have M6 : Kept σ2 [r] σ6 [r] := by rw [← hσ6]; exact ((((M3.trans k5).setD hy).setD hy).setD hy).setD hy
  have gb6 : σ6.get b = .cells [.string emp,.int .i64 0,.bool false,.bool false,.int .i64 0] true 0 := by rw [← hσ6,yb,yb,yb,yb]; exact gb5
  have i6 : IsR σ6 r s q2 .nilIface := by rw [← hσ6]; unfold IsR; rw [AHeap.get_set_ne _ _ hyr,AHeap.get_set_ne _ _ hyr,AHeap.get_set_ne _ _ hyr,AHeap.get_set_ne _ _ hyr]; exact i5
  have gy6 : σ6.get y = .cells (subC (subN t n)) true 0 := by rw [← hσ6,hsb]; exact AHeap.get_set_same _ _ _
  simp only [subC,subN] at gy6
  have FIN : ∀ {o : AObj},Kept σ [r] (σ6.set b o) [r] := (k1.trans (k2.trans M6)).setD hb
  clear hσ6
  by_cases h63 : 63 < n
  ·have h63' : (63 : Int) < (n : Int) := by omega
   simp only [h63,if_true] at hbad
   simp only [↓sbD,sbU,tyB,↓reduceIte,Nat.reduceEqDiff,Nat.reduceLT,Nat.reduceAdd,Nat.reduceLeDiff,h63',gy6,gk2]
   refine specNew (n := 2) ⟨by omega,by omega⟩ ?_
   simp only [↓sbD,sbU,tyB,↓reduceIte,Nat.reduceEqDiff,Nat.reduceLT,Nat.reduceAdd,Nat.reduceLeDiff,splice,gb6]
   refine drawS_l (fl := [(0,3)]) (by kernel_rfl) ?_ ?_
   rotate_left; simp only [lastP_cc,lastP_one]; rotate_left
   ·simp only [List.all_cons,List.all_nil,floatS,List.getElem?_cons_succ,List.getElem?_cons_zero,List.getElem?_toArray,Region.wanted,Bool.not_true,Bool.not_false,Bool.or_true,reads,looksWeak,aev_tmp,upd_at,↓reduceIte,Nat.reduceEqDiff,Nat.reduceLT,Nat.reduceAdd,blkOf,oeq_refl,dead_cells,Bool.and_true,Bool.and_self,Bool.false_eq_true,Bool.not_false,gy6]
    try rfl
   simp only [↓sbD,sbU,tyB,↓reduceIte,Nat.reduceEqDiff,Nat.reduceLT,Nat.reduceAdd,Nat.reduceLeDiff,res_cellc,resC_some]
   exact downS_here (hbad 2 129 q rfl ⟨t,_,_,_,_⟩ _ 1 _ FIN (by omega) (ErN.new _ _ ⟨by omega,by omega⟩))
  have h63' : ¬ (63 : Int) < (n : Int) := by omega
  simp only [h63,if_false] at hok hbad
  have BAD : (n % 4 = 3 ∨ n / 16 = 3) → ∀ {Q' : Prop},((∀ x σ' d z,Kept σ [r] σ' [r] → d ≤ 3 → ErN d (fv 130 q z) 3 → Q (.tuple #[.agg ⟨subC x⟩,fv 130 q z]) σ') → Q') → Q' := fun h Q' H => H fun x σ' d z a b c => hbad 3 130 q (by simp only [h,if_true]) x σ' d z a b c
  by_cases hm : n % 4 = 3
  ·have hm' : ((n % 4 : Nat) : Int) = 3 := by omega
   rw [hm'] at gy6
   refine BAD (.inl hm) fun hbad => ?_
   simp only [↓sbD,sbU,tyB,decide_false,↓reduceIte,Nat.reduceEqDiff,Nat.reduceLT,Nat.reduceAdd,Nat.reduceLeDiff,reduceCtorEq,isConst,h63',gy6,gk3]
   refine specNew (n := 3) ⟨by omega,by omega⟩ ?_
   simp only [↓sbD,sbU,tyB,↓reduceIte,Nat.reduceEqDiff,Nat.reduceLT,Nat.reduceAdd,Nat.reduceLeDiff,splice,gb6]
   refine drawS_l (fl := [(0,3)]) (by kernel_rfl) ?_ ?_
   rotate_left; simp only [lastP_cc,lastP_one]; rotate_left
   ·simp only [List.all_cons,List.all_nil,floatS,List.getElem?_cons_succ,List.getElem?_cons_zero,List.getElem?_toArray,Region.wanted,Bool.not_true,Bool.not_false,Bool.or_true,reads,looksWeak,aev_tmp,upd_at,↓reduceIte,Nat.reduceEqDiff,Nat.reduceLT,Nat.reduceAdd,blkOf,oeq_refl,dead_cells,Bool.and_true,Bool.and_self,Bool.false_eq_true,Bool.not_false,gy6]
    try rfl
   simp only [↓sbD,sbU,tyB,↓reduceIte,Nat.reduceEqDiff,Nat.reduceLT,Nat.reduceAdd,Nat.reduceLeDiff,res_cellc,resC_some]
   exact downS_here (hbad ⟨t,_,_,_,_⟩ _ 1 _ FIN (by omega) (ErN.new _ _ ⟨by omega,by omega⟩))
  have hm' : ¬ ((n % 4 : Nat) : Int) = 3 := by omega
  by_cases hd : n / 16 = 3
  ·have hd' : ((n / 16 : Nat) : Int) = 3 := by omega
   rw [hd'] at gy6
   refine BAD (.inr hd) fun hbad => ?_
   simp only [↓sbD,sbU,tyB,decide_false,↓reduceIte,Nat.reduceEqDiff,Nat.reduceLT,Nat.reduceAdd,Nat.reduceLeDiff,reduceCtorEq,isConst,h63',gy6,hm',gk3]
   refine specNew (n := 3) ⟨by omega,by omega⟩ ?_
   simp only [↓sbD,sbU,tyB,↓reduceIte,Nat.reduceEqDiff,Nat.reduceLT,Nat.reduceAdd,Nat.reduceLeDiff,splice,gb6]
   refine drawS_l (fl := [(0,3)]) (by kernel_rfl) ?_ ?_
   rotate_left; simp only [lastP_cc,lastP_one]; rotate_left
   ·simp only [List.all_cons,List.all_nil,floatS,List.getElem?_cons_succ,List.getElem?_cons_zero,List.getElem?_toArray,Region.wanted,Bool.not_true,Bool.not_false,Bool.or_true,reads,looksWeak,aev_tmp,upd_at,↓reduceIte,Nat.reduceEqDiff,Nat.reduceLT,Nat.reduceAdd,blkOf,oeq_refl,dead_cells,Bool.and_true,Bool.and_self,Bool.false_eq_true,Bool.not_false,gy6]
    try rfl
   simp only [↓sbD,sbU,tyB,↓reduceIte,Nat.reduceEqDiff,Nat.reduceLT,Nat.reduceAdd,Nat.reduceLeDiff,res_cellc,resC_some]
   exact downS_here (hbad ⟨t,_,_,_,_⟩ _ 1 _ FIN (by omega) (ErN.new _ _ ⟨by omega,by omega⟩))
  have hd' : ¬ ((n / 16 : Nat) : Int) = 3 := by omega
  simp only [hm,hd,or_self,if_false] at hok
  simp only [↓sbD,sbU,tyB,decide_false,↓reduceIte,Nat.reduceEqDiff,Nat.reduceLT,Nat.reduceAdd,Nat.reduceLeDiff,reduceCtorEq,isConst,splice,h63',gy6,hm',hd',gb6,res_cellc,resC_some]
  exact downS_here (hok _ q2 rfl _ FIN (by unfold IsR; rw [AHeap.get_set_ne _ _ hbr]; exact i6) (by omega))
end
section
variable {σ : AHeap} {Q : Value → AHeap → Prop} {r q p : Nat} {s : ByteArray}
theorem specSevI (hr : IsR σ r s p .nilIface) (hp : p ≤ s.size) (hs : s.size ≤ 100000000)
  (hok : ∀ l,Parts s.size (codeO 9 s) p [] (.ok l) → ∀ v σ',DL intC 1 v l → Kept σ [r] σ' [r] → Q (.tuple #[v,.nilIface]) σ')
  (hbad : ∀ k rr a : Nat,Parts s.size (codeO 9 s) p [] (.error (k,rr,a)) → ∀ σ' d z,Kept σ [r] σ' [r] → d ≤ 3 → ErN d (fv rr a z) k → Q (.tuple #[.slice none 0 0,fv rr a z]) σ') :
  CallS E B 138 [.pointer (some ⟨r,0,none⟩),.func (.func 139) ⟨[]⟩ ⟨[]⟩] σ Q := by
 refine call138 (by simp) ?_
 simp only [strip,bodyOf,Tryz.f138,getD_body,keepN,bareOp_mk,lessOp_mk,List.map_cons,List.map_nil,↓reduceIte,Nat.reduceEqDiff,Bool.false_eq_true]
 simp (disch := first | assumption | simp) only [↓sbD,sbU]
 refine S_loop (fun m f σ' => ∃ (p' : Nat) (l : List Int) (v : Value) (fp : List Nat),m + l.length = 32 ∧ p' ≤ s.size ∧ f 6 = v ∧ DG intC 1 σ' v l fp ∧ IsR σ' r s p' .nilIface ∧ Kept σ [r] σ' (r :: fp) ∧ ∀ R,Parts s.size (codeO 9 s) p' l R → Parts s.size (codeO 9 s) p [] R) 32 (Le.refl _) ⟨p,[],_,[],rfl,hp,rfl,by simp (disch := first | assumption | simp) only [sbU,↓reduceIte]; exact DG.nil,hr,Kept.refl _ _,fun R h => h⟩ ?_
 rintro m f σ2 ⟨p',l,v,fp,hm,hp',f6,hg,i2,k2,hback⟩ hf
 have f0 := hf 0 (by decide) (notMem_wr (by kernel_rfl))
 have f1 := hf 1 (by decide) (notMem_wr (by kernel_rfl))
 simp (disch := first | assumption | simp) only [sbU,↓reduceIte,Nat.reduceEqDiff,reduceCtorEq] at f0 f1
 clear hf
 have hlen := DLi.len hg.dl
 have hrf := hg.nin i2
 have K2 : Kept σ [r] σ2 [r] := k2.wid (fun _ h => h) (fun b h => by simp only [List.mem_cons,List.not_mem_nil,or_false] at h; exact .inr (by simp [h]))
 simp (disch := first | assumption | simp) only [↓sbD,sbU,↓reduceIte,Nat.reduceLT,f0]
 refine specRLeft i2 hp' (by omega) ?_
 by_cases hlt : p' < s.size
 ·have hl0 : (0 : Int) < ((s.size - p' : Nat) : Int) := by omega
  by_cases h32 : l.length = 32
  ·have h32' : (l.length : Int) = 32 := by omega
   simp (disch := first | assumption | simp) only [↓sbD,sbU,↓reduceIte,Nat.reduceEqDiff,Nat.reduceLT,reduceCtorEq,isConst,f0,f6,hl0,hlen,h32']
   refine specRAt i2 ?_
   simp (disch := first | assumption | simp) only [↓sbD,sbU,tyB,↓reduceIte,Nat.reduceEqDiff,Nat.reduceLT,gk4]
   refine specNew (n := 4) ⟨by omega,by omega⟩ ?_
   simp (disch := first | assumption | simp) only [↓sbD,sbU,↓reduceIte,Nat.reduceEqDiff,Nat.reduceLT]
   refine drawS_l (fl := [(2,1)]) (by kernel_rfl) ?_ ?_
   rotate_left; simp only [lastP_cc,lastP_one]; rotate_left
   ·simp only [List.all_cons,List.all_nil,floatS,List.getElem?_cons_succ,List.getElem?_cons_zero,List.getElem?_toArray,Region.wanted,Bool.not_true,Bool.false_or,reads,looksWeak,↓reduceIte,Nat.reduceAdd,blkOf,oeq_refl,Bool.and_true,Bool.and_self,Bool.false_eq_true]
    try rfl
   simp (disch := first | assumption | simp) only [↓sbD,sbU,↓reduceIte,Nat.reduceEqDiff,Nat.reduceLT]
   exact downS_here (hbad 4 149 p' (hback _ (.many hlt h32)) _ 1 _ K2 (by omega) (ErN.new _ _ ⟨by omega,by omega⟩))
  ·have h32' : ¬ (l.length : Int) = 32 := by omega
   simp (disch := first | assumption | simp) only [↓sbD,sbU,decide_false,↓reduceIte,Nat.reduceEqDiff,Nat.reduceLT,reduceCtorEq,isConst,f0,f1,f6,hl0,hlen,h32']
   refine specSCode i2 hlt hs (fun x q hx σ3 k3 i3 _ hq => ?_) fun k rr a hx σ3 d z k3 hd he => ?_
   ·have hg3 := hg.kept k3 (fun b hb hm => hrf (by obtain rfl := List.mem_singleton.1 hm; exact hb))
    simp (disch := first | assumption | simp) only [↓sbD,sbU,tyB,Nat.reduceBneDiff,decide_false,gt_iff_lt,Bool.or_self,Bool.false_eq_true,Nat.mul_one,↓reduceIte,Nat.reduceEqDiff,Nat.reduceLT,Nat.reduceLeDiff,reduceCtorEq,pairs,isConst,splice,Edp,dpv,ZV.val,f6]
    refine app_in (xs := [x]) hg3 (.inr ⟨1,rfl⟩) (by simp only [List.length_cons,List.length_nil]; omega) fun σ4 v4 fp4 k4 g4 => ?_
    have i4 := (k4.at i3 (by simp) hrf).1
    simp (disch := first | assumption | simp) only [↓sbD,sbU,↓reduceIte,Nat.reduceLT]
    exact ⟨_,m - 1,σ4,rfl,by omega,Le.refl _,q,l ++ [x],v4,fp4,by rw [List.length_append]; simp only [List.length_cons,List.length_nil]; omega,hq,rfl,g4,i4,(k2.trans (k3.wid (gp := r :: fp) (gp' := r :: fp) (fun b hb => by simp at hb; simp [hb]) (fun b hb => .inr hb))).trans (k4.wid (gp := r :: fp) (gp' := r :: fp4) (fun b hb => by simp [hb]) (fun b hb => by simp only [List.mem_cons] at hb ⊢; rcases hb with hb | hb <;> simp [hb])),fun R h => hback R (.step hlt h32 hx h)⟩
   ·simp (disch := first | assumption | simp) only [↓sbD,sbU,tyB,↓reduceIte,Nat.reduceEqDiff,Nat.reduceLT,isConst]
    exact downS_here (hbad k rr a (hback _ (.bad hlt h32 hx)) _ d z (K2.trans k3) hd he)
 ·have hl0 : ¬ (0 : Int) < ((s.size - p' : Nat) : Int) := by omega
  by_cases hn : l = []
  ·subst hn
   simp (disch := first | assumption | simp) only [↓sbD,sbU,decide_false,↓reduceIte,Nat.reduceEqDiff,Nat.reduceLT,reduceCtorEq,isConst,f0,f6,hl0,hlen,show ((0 : Nat) : Int) = 0 from rfl]
   refine specRAt i2 ?_
   simp (disch := first | assumption | simp) only [↓sbD,sbU,tyB,↓reduceIte,Nat.reduceEqDiff,Nat.reduceLT,gk3]
   refine specNew (n := 3) ⟨by omega,by omega⟩ ?_
   simp (disch := first | assumption | simp) only [↓sbD,sbU,↓reduceIte,Nat.reduceEqDiff,Nat.reduceLT]
   refine drawS_l (fl := [(2,1)]) (by kernel_rfl) ?_ ?_
   rotate_left; simp only [lastP_cc,lastP_one]; rotate_left
   ·simp only [List.all_cons,List.all_nil,floatS,List.getElem?_cons_succ,List.getElem?_cons_zero,List.getElem?_toArray,Region.wanted,Bool.not_true,Bool.false_or,reads,looksWeak,↓reduceIte,Nat.reduceAdd,blkOf,oeq_refl,Bool.and_true,Bool.and_self,Bool.false_eq_true]
    try rfl
   simp (disch := first | assumption | simp) only [↓sbD,sbU,↓reduceIte,Nat.reduceEqDiff,Nat.reduceLT]
   exact downS_here (hbad 3 130 p' (hback _ (.none (by omega))) _ 1 _ K2 (by omega) (ErN.new _ _ ⟨by omega,by omega⟩))
  ·have hn' : ¬ (l.length : Int) = 0 := fun h => hn (List.length_eq_zero_iff.1 (by omega))
   simp (disch := first | assumption | simp) only [↓sbD,sbU,decide_false,↓reduceIte,Nat.reduceEqDiff,Nat.reduceLT,isConst,f6,hl0,hlen,hn']
   exact downS_here (hok l (hback _ (.done (by omega) hn)) v _ hg.dl K2)
theorem specSevS (hr : IsR σ r s p .nilIface) (hp : p ≤ s.size) (hs : s.size ≤ 100000000)
  (hok : ∀ l,Parts s.size (subO s) p [] (.ok l) → ∀ v σ',DL subC 5 v l → Kept σ [r] σ' [r] → Q (.tuple #[v,.nilIface]) σ')
  (hbad : ∀ k rr a : Nat,Parts s.size (subO s) p [] (.error (k,rr,a)) → ∀ σ' d z,Kept σ [r] σ' [r] → d ≤ 3 → ErN d (fv rr a z) k → Q (.tuple #[.slice none 0 0,fv rr a z]) σ') :
  CallS E B 140 [.pointer (some ⟨r,0,none⟩),.func (.func 141) ⟨[]⟩ ⟨[]⟩] σ Q := by
 refine call140 (by simp) ?_
 simp only [strip,bodyOf,Tryz.f140,getD_body,keepN,bareOp_mk,lessOp_mk,List.map_cons,List.map_nil,↓reduceIte,Nat.reduceEqDiff,Bool.false_eq_true]
 simp (disch := first | assumption | simp) only [↓sbD,sbU]
 refine S_loop (fun m f σ' => ∃ (p' : Nat) (l : List Sb) (v : Value) (fp : List Nat),m + l.length = 32 ∧ p' ≤ s.size ∧ f 6 = v ∧ DG subC 5 σ' v l fp ∧ IsR σ' r s p' .nilIface ∧ Kept σ [r] σ' (r :: fp) ∧ ∀ R,Parts s.size (subO s) p' l R → Parts s.size (subO s) p [] R) 32 (Le.refl _) ⟨p,[],_,[],rfl,hp,rfl,by simp (disch := first | assumption | simp) only [sbU,↓reduceIte]; exact DG.nil,hr,Kept.refl _ _,fun R h => h⟩ ?_
 rintro m f σ2 ⟨p',l,v,fp,hm,hp',f6,hg,i2,k2,hback⟩ hf
 have f0 := hf 0 (by decide) (notMem_wr (by kernel_rfl))
 have f1 := hf 1 (by decide) (notMem_wr (by kernel_rfl))
 simp (disch := first | assumption | simp) only [sbU,↓reduceIte,Nat.reduceEqDiff,reduceCtorEq] at f0 f1
 clear hf
 have hlen := DLsb.len hg.dl
 have hrf := hg.nin i2
 have K2 : Kept σ [r] σ2 [r] := k2.wid (fun _ h => h) (fun b h => by simp only [List.mem_cons,List.not_mem_nil,or_false] at h; exact .inr (by simp [h]))
 simp (disch := first | assumption | simp) only [↓sbD,sbU,↓reduceIte,Nat.reduceLT,f0]
 refine specRLeft i2 hp' (by omega) ?_
 by_cases hlt : p' < s.size
 ·have hl0 : (0 : Int) < ((s.size - p' : Nat) : Int) := by omega
  by_cases h32 : l.length = 32
  ·have h32' : (l.length : Int) = 32 := by omega
   simp (disch := first | assumption | simp) only [↓sbD,sbU,↓reduceIte,Nat.reduceEqDiff,Nat.reduceLT,reduceCtorEq,isConst,f0,f6,hl0,hlen,h32']
   refine specRAt i2 ?_
   simp (disch := first | assumption | simp) only [↓sbD,sbU,tyB,↓reduceIte,Nat.reduceEqDiff,Nat.reduceLT,gk4]
   refine specNew (n := 4) ⟨by omega,by omega⟩ ?_
   simp (disch := first | assumption | simp) only [↓sbD,sbU,↓reduceIte,Nat.reduceEqDiff,Nat.reduceLT]
   refine drawS_l (fl := [(2,1)]) (by kernel_rfl) ?_ ?_
   rotate_left; simp only [lastP_cc,lastP_one]; rotate_left
   ·simp only [List.all_cons,List.all_nil,floatS,List.getElem?_cons_succ,List.getElem?_cons_zero,List.getElem?_toArray,Region.wanted,Bool.not_true,Bool.false_or,reads,looksWeak,↓reduceIte,Nat.reduceAdd,blkOf,oeq_refl,Bool.and_true,Bool.and_self,Bool.false_eq_true]
    try rfl
   simp (disch := first | assumption | simp) only [↓sbD,sbU,↓reduceIte,Nat.reduceEqDiff,Nat.reduceLT]
   exact downS_here (hbad 4 149 p' (hback _ (.many hlt h32)) _ 1 _ K2 (by omega) (ErN.new _ _ ⟨by omega,by omega⟩))
  ·have h32' : ¬ (l.length : Int) = 32 := by omega
   simp (disch := first | assumption | simp) only [↓sbD,sbU,decide_false,↓reduceIte,Nat.reduceEqDiff,Nat.reduceLT,reduceCtorEq,isConst,f0,f1,f6,hl0,hlen,h32']
   refine specSOne i2 hp' hs (fun x q hx σ3 k3 i3 hq => ?_) fun k rr a hx x σ3 d z k3 hd he => ?_
   ·have hg3 := hg.kept k3 (fun b hb hm => hrf (by obtain rfl := List.mem_singleton.1 hm; exact hb))
    have hac : subC x = [.string x.f,.int .i64 x.q,.bool x.nl,.bool x.ai,.int .i64 x.rt] := rfl
    simp (disch := first | assumption | simp) only [↓sbD,sbU,tyB,Nat.reduceBneDiff,decide_false,gt_iff_lt,Bool.or_self,Bool.false_eq_true,Nat.one_mul,Nat.zero_mul,↓reduceIte,Nat.reduceEqDiff,Nat.reduceLT,Nat.reduceAdd,Nat.reduceLeDiff,reduceCtorEq,pairs,isConst,splice,Edp,dpv,ZV.val,AS_new,zeSb,hac]
    intro y hy
    generalize hσy : AHeap.set (AHeap.set σ3 y _) y _ = σy
    have ky : Kept σ3 [] σy [] := by rw [← hσy]; exact ((Kept.refl _ []).setD hy).setD hy
    have gy : σy.get y = .cells [.string x.f,.int .i64 x.q,.bool x.nl,.bool x.ai,.int .i64 x.rt] true 0 := by rw [← hσy]; exact AHeap.get_set_same _ _ _
    have iy := i3.kept ky (by simp)
    have hgy := hg3.kept ky (fun _ _ h => by cases h)
    clear hσy
    simp (disch := first | assumption | simp) only [f6]
    refine app_sb (xs := [x]) hgy (.inr ⟨1,rfl⟩) (by simp only [List.length_cons,List.length_nil]; omega) fun σ4 v4 fp4 k4 g4 => ?_
    have i4 := (k4.at iy (by simp) hrf).1
    simp (disch := first | assumption | simp) only [↓sbD,sbU,↓reduceIte,Nat.reduceLT]
    exact ⟨_,m - 1,σ4,rfl,by omega,Le.refl _,q,l ++ [x],v4,fp4,by rw [List.length_append]; simp only [List.length_cons,List.length_nil]; omega,hq,rfl,g4,i4,((k2.trans (k3.wid (gp := r :: fp) (gp' := r :: fp) (fun b hb => by simp at hb; simp [hb]) (fun b hb => .inr hb))).trans (ky.wid (gp := r :: fp) (gp' := r :: fp) (fun _ h => by cases h) (fun b hb => .inr hb))).trans (k4.wid (gp := r :: fp) (gp' := r :: fp4) (fun b hb => by simp [hb]) (fun b hb => by simp only [List.mem_cons] at hb ⊢; rcases hb with hb | hb <;> simp [hb])),fun R h => hback R (.step hlt h32 hx h)⟩
   ·have hac : subC x = [.string x.f,.int .i64 x.q,.bool x.nl,.bool x.ai,.int .i64 x.rt] := rfl
    simp (disch := first | assumption | simp) only [↓sbD,sbU,tyB,↓reduceIte,Nat.reduceEqDiff,Nat.reduceLT,Nat.reduceAdd,Nat.reduceLeDiff,isConst,splice,AS_new,zeSb,hac]
    intro y hy
    exact downS_here (hbad k rr a (hback _ (.bad hlt h32 hx)) _ d z (((K2.trans k3).trans (((Kept.refl _ [r]).setD hy).setD hy))) hd he)
 ·have hl0 : ¬ (0 : Int) < ((s.size - p' : Nat) : Int) := by omega
  by_cases hn : l = []
  ·subst hn
   simp (disch := first | assumption | simp) only [↓sbD,sbU,decide_false,↓reduceIte,Nat.reduceEqDiff,Nat.reduceLT,reduceCtorEq,isConst,f0,f6,hl0,hlen,show ((0 : Nat) : Int) = 0 from rfl]
   refine specRAt i2 ?_
   simp (disch := first | assumption | simp) only [↓sbD,sbU,tyB,↓reduceIte,Nat.reduceEqDiff,Nat.reduceLT,gk3]
   refine specNew (n := 3) ⟨by omega,by omega⟩ ?_
   simp (disch := first | assumption | simp) only [↓sbD,sbU,↓reduceIte,Nat.reduceEqDiff,Nat.reduceLT]
   refine drawS_l (fl := [(2,1)]) (by kernel_rfl) ?_ ?_
   rotate_left; simp only [lastP_cc,lastP_one]; rotate_left
   ·simp only [List.all_cons,List.all_nil,floatS,List.getElem?_cons_succ,List.getElem?_cons_zero,List.getElem?_toArray,Region.wanted,Bool.not_true,Bool.false_or,reads,looksWeak,↓reduceIte,Nat.reduceAdd,blkOf,oeq_refl,Bool.and_true,Bool.and_self,Bool.false_eq_true]
    try rfl
   simp (disch := first | assumption | simp) only [↓sbD,sbU,↓reduceIte,Nat.reduceEqDiff,Nat.reduceLT]
   exact downS_here (hbad 3 130 p' (hback _ (.none (by omega))) _ 1 _ K2 (by omega) (ErN.new _ _ ⟨by omega,by omega⟩))
  ·have hn' : ¬ (l.length : Int) = 0 := fun h => hn (List.length_eq_zero_iff.1 (by omega))
   simp (disch := first | assumption | simp) only [↓sbD,sbU,decide_false,↓reduceIte,Nat.reduceEqDiff,Nat.reduceLT,isConst,f6,hl0,hlen,hn']
   exact downS_here (hok l (hback _ (.done (by omega) hn)) v _ hg.dl K2)
def BodyS (kind : Int) (s : ByteArray) (r : Except E3 Pk) : Prop := ∃ h,HeadP kind s h ∧ match h with
  | .error e => r = .error e
  | .ok (id,l,q) => if kind = 9 then ∃ c,Parts s.size (codeO 9 s) q [] c ∧ r = mapE (fun c => sbsP 9 id l [] c) c
   else ∃ c,Parts s.size (subO s) q [] c ∧ r = mapE (fun c => sbsP 8 id l c []) c
theorem specSBody {kind : Int} (hkd : kind = 8 ∨ kind = 9) (hr : IsR σ r s 0 .nilIface) (hs : s.size ≤ 100000000)
  (hok : ∀ y,BodyS kind s (.ok y) → ∀ w σ',PkV y w → Kept σ [r] σ' [r] → Q (.tuple #[w,.nilIface]) σ')
  (hbad : ∀ k rr a : Nat,BodyS kind s (.error (k,rr,a)) → ∀ y w σ' d z,PkV y w → Kept σ [r] σ' [r] → d ≤ 3 → ErN d (fv rr a z) k → Q (.tuple #[w,fv rr a z]) σ') :
  CallS E B 95 [.pointer (some ⟨r,0,none⟩),.int .i64 kind] σ Q := by
 unfold BodyS HeadP at hok hbad
 refine call95 (by simp) ?_
 simp only [strip,bodyOf,Tryz.f95,getD_body,keepN,bareOp_mk,lessOp_mk,List.map_cons,List.map_nil,↓reduceIte,Nat.reduceEqDiff,Bool.false_eq_true]
 simp only [↓sbD,sbU,↓reduceIte,Nat.reduceEqDiff,Nat.reduceLT,reduceCtorEq,AS_new,zePk]
 intro b hb
 have hbr : b ≠ r := nd hb hr (by simp)
 generalize hσ1 : AHeap.set σ b _ = σ1
 have k1 : Kept σ [r] σ1 [r] := by rw [← hσ1]; exact (Kept.refl σ [r]).setD hb
 have gb1 : σ1.get b = .cells zeL true 0 := by rw [← hσ1]; exact AHeap.get_set_same _ _ _
 have i1 : IsR σ1 r s 0 .nilIface := by rw [← hσ1]; unfold IsR; rw [AHeap.get_set_ne _ _ hbr]; exact hr
 simp only [zeL,pkC,pkz] at gb1
 clear hσ1
 refine specRU16 i1 (Nat.zero_le _) (by omega) (fun id q hid σ2 k2 i2 => ?_) fun k q hid σ2 k2 i2 => ?_
 rotate_left
 ·simp only [hid] at hok hbad
  obtain ⟨d,z,hd,he,i3⟩ := i2
  have gb2 := (k2.at gb1 (by simp) (by simpa using hbr)).1
  have K2 := k1.trans k2
  simp only [↓sbD,sbU,tyB,↓reduceIte,Nat.reduceEqDiff,Nat.reduceLT,Nat.reduceAdd,Nat.reduceLeDiff,reduceCtorEq,pairs,splice,ZV.val,AS_new,zePk]
  intro y hy
  have hyb : b ≠ y := (nd hy gb2 (by simp)).symm
  have hyr : y ≠ r := nd hy i3 (by simp)
  generalize hσ3 : AHeap.set (AHeap.set σ2 y _) y _ = σ3
  have k3 : Kept σ2 [] σ3 [] := by rw [← hσ3]; exact ((Kept.refl _ []).setD hy).setD hy
  have i4 := i3.kept k3 (by simp)
  have gy3 : σ3.get y = .cells (sbsC kind 0 (.slice none 0 0) (.slice none 0 0) (.slice none 0 0)) true 0 := by rw [← hσ3]; exact AHeap.get_set_same _ _ _
  have gb3 := (k3.at gb2 (by simp) (by simp)).1
  clear hσ3
  simp only [sbsC] at gy3
  refine specRErr i4 ?_
  simp only [↓sbD,sbU,tyB,↓reduceIte,Nat.reduceEqDiff,Nat.reduceLT,Nat.reduceAdd,Nat.reduceLeDiff,isConst,splice,gy3,gb3,res_cellc,resC_some]
  exact downS_here (hbad k 129 q ⟨_,rfl,rfl⟩ (sbsP kind 0 [] [] []) _ _ d z (sbsC_pk (.inl ⟨rfl,rfl⟩) (.inl ⟨rfl,rfl⟩) (.inl ⟨rfl,rfl⟩)) ((K2.trans (k3.wid (gp := [r]) (gp' := [r]) (fun _ h => by cases h) (fun _ h => .inr h))).setD hb) (by omega) he)
 have hq := numR_ok hid
 simp only [hid] at hok hbad
 have gb2 := (k2.at gb1 (by simp) (by simpa using hbr)).1
 simp only [↓sbD,sbU,tyB,↓reduceIte,Nat.reduceEqDiff,Nat.reduceLT,Nat.reduceAdd,Nat.reduceLeDiff,reduceCtorEq,pairs,splice,ZV.val,AS_new,zePk]
 intro y hy
 have hyb : b ≠ y := (nd hy gb2 (by simp)).symm
 have hyr : y ≠ r := nd hy i2 (by simp)
 generalize hσ3 : AHeap.set (AHeap.set σ2 y _) y _ = σ3
 have k3 : Kept σ2 [] σ3 [] := by rw [← hσ3]; exact ((Kept.refl _ []).setD hy).setD hy
 have i3 := i2.kept k3 (by simp)
 have gy3 : σ3.get y = .cells (sbsC kind id (.slice none 0 0) (.slice none 0 0) (.slice none 0 0)) true 0 := by rw [← hσ3]; exact AHeap.get_set_same _ _ _
 have gb3 := (k3.at gb2 (by simp) (by simp)).1
 have M3 : Kept σ2 [r] σ3 [r] := k3.wid (fun _ h => by cases h) (fun _ h => .inr h)
 clear hσ3
 simp only [sbsC] at gy3
 have yb : ∀ (τ : AHeap) o,(AHeap.set τ y o).get b = τ.get b := fun τ o => AHeap.get_set_ne _ _ hyb.symm
 refine specRErr i3 ?_
 by_cases h0 : id = 0
 ·have h0' : (id : Int) = 0 := by omega
  simp only [h0,if_true] at hok hbad
  simp only [↓sbD,sbU,tyB,↓reduceIte,Nat.reduceEqDiff,Nat.reduceLT,Nat.reduceAdd,Nat.reduceLeDiff,reduceCtorEq,isConst,gy3,h0',gk3]
  refine specNew (n := 3) ⟨by omega,by omega⟩ ?_
  simp only [↓sbD,sbU,tyB,↓reduceIte,Nat.reduceEqDiff,Nat.reduceLT,Nat.reduceAdd,Nat.reduceLeDiff,splice,gb3]
  refine drawS_l (fl := [(0,2)]) (by kernel_rfl) ?_ ?_
  rotate_left; simp only [lastP_cc,lastP_one]; rotate_left
  ·simp only [List.all_cons,List.all_nil,floatS,List.getElem?_cons_succ,List.getElem?_cons_zero,List.getElem?_toArray,Region.wanted,Bool.not_true,Bool.not_false,Bool.or_true,reads,looksWeak,aev_tmp,upd_at,↓reduceIte,Nat.reduceEqDiff,Nat.reduceLT,Nat.reduceAdd,blkOf,oeq_refl,dead_cells,Bool.and_true,Bool.and_self,Bool.false_eq_true,Bool.not_false,gy3]
   try rfl
  simp only [↓sbD,sbU,tyB,↓reduceIte,Nat.reduceEqDiff,Nat.reduceLT,Nat.reduceAdd,Nat.reduceLeDiff,res_cellc,resC_some]
  exact downS_here (hbad 3 130 0 ⟨.error (3,130,0),rfl,rfl⟩ (sbsP kind 0 [] [] []) _ _ 1 _ (sbsC_pk (.inl ⟨rfl,rfl⟩) (.inl ⟨rfl,rfl⟩) (.inl ⟨rfl,rfl⟩)) ((k1.trans (k2.trans M3)).setD hb) (by omega) (ErN.new _ _ ⟨by omega,by omega⟩))
 have h0' : ¬ (id : Int) = 0 := by omega
 simp only [h0,if_false] at hok hbad
 simp only [↓sbD,sbU,tyB,decide_false,↓reduceIte,Nat.reduceEqDiff,Nat.reduceLT,reduceCtorEq,isConst,gy3,h0']
 refine specPRead i3 hq.2 hs (fun l q2 hrd v σ4 hv k4 i4 hq4 => ?_) fun k rr a hrd σ4 d z k4 hd he => ?_
 rotate_left
 ·have gy4 := (k4.at gy3 (by simp) (by simpa using hyr)).1
  have gb4 := (k4.at gb3 (by simp) (by simpa using hbr)).1
  simp only [↓sbD,sbU,tyB,↓reduceIte,Nat.reduceEqDiff,Nat.reduceLT,Nat.reduceAdd,Nat.reduceLeDiff,isConst,splice,gy4,gb4,res_cellc,resC_some]
  exact downS_here (hbad k rr a ⟨_,⟨_,hrd,rfl⟩,rfl⟩ (sbsP kind id [] [] []) _ _ d z (sbsC_pk (.inl ⟨rfl,rfl⟩) (.inl ⟨rfl,rfl⟩) (.inl ⟨rfl,rfl⟩)) ((k1.trans (k2.trans (M3.trans k4))).setD hb) (by omega) he)
 have hvc := dl_vc hv
 have gy4 := (k4.at gy3 (by simp) (by simpa using hyr)).1
 have gb4 := (k4.at gb3 (by simp) (by simpa using hbr)).1
 rcases hkd with rfl | rfl
 ·simp only [↓sbD,sbU,tyB,Int.reduceEq,decide_false,↓reduceIte,Nat.reduceEqDiff,Nat.reduceLT,Nat.reduceAdd,Nat.reduceLeDiff,reduceCtorEq,isConst,splice,gy4,hvc.1,hvc.2]
  generalize hσ5 : AHeap.set σ4 y _ = σ5
  have M5 : Kept σ2 [r] σ5 [r] := by rw [← hσ5]; exact (M3.trans k4).setD hy
  have gy5 : σ5.get y = .cells (sbsC 8 id v (.slice none 0 0) (.slice none 0 0)) true 0 := by rw [← hσ5]; exact AHeap.get_set_same _ _ _
  have gb5 : σ5.get b = _ := (congrArg (fun τ => AHeap.get τ b) hσ5.symm).trans ((yb _ _).trans gb4)
  have i5 : IsR σ5 r s q2 .nilIface := by rw [← hσ5]; unfold IsR; rw [AHeap.get_set_ne _ _ hyr]; exact i4
  simp only [sbsC] at gy5
  clear hσ5
  refine specSevS i5 hq4 hs (fun fl hP u σ6 hu k6 => ?_) fun k rr a hP σ6 d z k6 hd he => ?_
  ·have huc := dl_vc hu
   have gy6 := (k6.at gy5 (by simp) (by simpa using hyr)).1
   have gb6 := (k6.at gb5 (by simp) (by simpa using hbr)).1
   simp only [↓sbD,sbU,tyB,↓reduceIte,Nat.reduceEqDiff,Nat.reduceLT,Nat.reduceAdd,Nat.reduceLeDiff,reduceCtorEq,splice,gy6,gb6,yb,hvc.2,huc.1,huc.2,res_cellc,resC_some]
   exact downS_here (hok _ ⟨_,⟨_,hrd,rfl⟩,by simp only [headM]; rw [if_neg (by decide)]; exact ⟨_,hP,rfl⟩⟩ _ _ (sbsC_pk hv hu (.inl ⟨rfl,rfl⟩)) ((k1.trans (k2.trans ((M5.trans k6).setD hy))).setD hb))
  ·have gy6 := (k6.at gy5 (by simp) (by simpa using hyr)).1
   have gb6 := (k6.at gb5 (by simp) (by simpa using hbr)).1
   simp only [↓sbD,sbU,tyB,↓reduceIte,Nat.reduceEqDiff,Nat.reduceLT,Nat.reduceAdd,Nat.reduceLeDiff,reduceCtorEq,splice,gy6,gb6,yb,hvc.2,res_cellc,resC_some]
   exact downS_here (hbad k rr a ⟨_,⟨_,hrd,rfl⟩,by simp only [headM]; rw [if_neg (by decide)]; exact ⟨_,hP,rfl⟩⟩ (sbsP 8 id l [] []) _ _ d z (sbsC_pk hv (.inl ⟨rfl,rfl⟩) (.inl ⟨rfl,rfl⟩)) ((k1.trans (k2.trans ((M5.trans k6).setD hy))).setD hb) hd he)
 ·simp only [↓sbD,sbU,tyB,↓reduceIte,Nat.reduceEqDiff,Nat.reduceLT,Nat.reduceAdd,Nat.reduceLeDiff,reduceCtorEq,isConst,splice,gy4,hvc.1,hvc.2]
  generalize hσ5 : AHeap.set σ4 y _ = σ5
  have M5 : Kept σ2 [r] σ5 [r] := by rw [← hσ5]; exact (M3.trans k4).setD hy
  have gy5 : σ5.get y = .cells (sbsC 9 id v (.slice none 0 0) (.slice none 0 0)) true 0 := by rw [← hσ5]; exact AHeap.get_set_same _ _ _
  have gb5 : σ5.get b = _ := (congrArg (fun τ => AHeap.get τ b) hσ5.symm).trans ((yb _ _).trans gb4)
  have i5 : IsR σ5 r s q2 .nilIface := by rw [← hσ5]; unfold IsR; rw [AHeap.get_set_ne _ _ hyr]; exact i4
  simp only [sbsC] at gy5
  clear hσ5
  refine specSevI i5 hq4 hs (fun fl hP u σ6 hu k6 => ?_) fun k rr a hP σ6 d z k6 hd he => ?_
  ·have huc := dl_vc hu
   have gy6 := (k6.at gy5 (by simp) (by simpa using hyr)).1
   have gb6 := (k6.at gb5 (by simp) (by simpa using hbr)).1
   simp only [↓sbD,sbU,tyB,↓reduceIte,Nat.reduceEqDiff,Nat.reduceLT,Nat.reduceAdd,Nat.reduceLeDiff,reduceCtorEq,splice,gy6,gb6,yb,hvc.2,huc.1,huc.2,res_cellc,resC_some]
   exact downS_here (hok _ ⟨_,⟨_,hrd,rfl⟩,by simp only [if_true]; exact ⟨_,hP,rfl⟩⟩ _ _ (sbsC_pk hv (.inl ⟨rfl,rfl⟩) hu) ((k1.trans (k2.trans ((M5.trans k6).setD hy))).setD hb))
  ·have gy6 := (k6.at gy5 (by simp) (by simpa using hyr)).1
   have gb6 := (k6.at gb5 (by simp) (by simpa using hbr)).1
   simp only [↓sbD,sbU,tyB,↓reduceIte,Nat.reduceEqDiff,Nat.reduceLT,Nat.reduceAdd,Nat.reduceLeDiff,reduceCtorEq,splice,gy6,gb6,yb,hvc.2,res_cellc,resC_some]
   exact downS_here (hbad k rr a ⟨_,⟨_,hrd,rfl⟩,by simp only [if_true]; exact ⟨_,hP,rfl⟩⟩ (sbsP 9 id l [] []) _ _ d z (sbsC_pk hv (.inl ⟨rfl,rfl⟩) (.inl ⟨rfl,rfl⟩)) ((k1.trans (k2.trans ((M5.trans k6).setD hy))).setD hb) hd he)
theorem specSDec {f : Int} (hs : s.size ≤ 100000000)
  (hok : ∀ p,DecS f s (.ok p) → ∀ v σ',PkV p v → Kept σ [] σ' [] → Q (.tuple #[v,.nilIface]) σ')
  (hbad : ∀ k rr a : Nat,DecS f s (.error (k,rr,a)) → ∀ σ' d z,Kept σ [] σ' [] → d ≤ 3 → ErN d (fv rr a z) k → Q (.tuple #[.agg ⟨zeL⟩,fv rr a z]) σ') :
  CallS E B 43 [.agg ⟨[.int .i64 f,.string s]⟩] σ Q := by
 unfold DecS at hok hbad
 refine call43 (by simp) ?_
 simp only [strip,bodyOf,Tryz.f43,getD_body,keepN,bareOp_mk,lessOp_mk,List.map_cons,List.map_nil,↓reduceIte,Nat.reduceEqDiff,Bool.false_eq_true]
 have ALT : (f = 130 ∧ f ≠ 144 ∧ f / 16 = 8) ∨ (f ≠ 130 ∧ f = 144 ∧ f / 16 = 9) ∨ (f ≠ 130 ∧ f ≠ 144) := by omega
 rcases ALT with ⟨n1,n2,n3⟩ | ⟨n1,n2,n3⟩ | ⟨n1,n2⟩
 rotate_left; rotate_left
 ·simp only [if_pos (And.intro n1 n2)] at hok hbad
  simp only [↓sbD,sbU,tyB,↓reduceIte,Nat.reduceEqDiff,Nat.reduceLT,reduceCtorEq,pairs,isConst,boxS,Edp,dpv,ZV.val,AS_new,zePk,n1,n2]
  intro b hb
  simp only [↓sbD,sbU,↓reduceIte,Nat.reduceLT,gk2]
  refine specNew (n := 2) ⟨by omega,by omega⟩ ?_
  simp only [↓sbD,sbU,tyB,↓reduceIte,Nat.reduceEqDiff,Nat.reduceLT,Nat.reduceAdd,Nat.reduceLeDiff,splice,res_cellc,resC_some]
  exact downS_here (hbad 2 129 0 rfl _ 1 _ (((Kept.refl σ []).setD hb).setD hb) (by omega) (ErN.new _ _ ⟨by omega,by omega⟩))
 all_goals
  have hf : ¬ (f ≠ 130 ∧ f ≠ 144) := by omega
  have shr : ∀ (σ : AHeap) (t : Nat) (cs : Bool),abin E σ .shr t cs (.int .i64 f) (.int .u64 4) = some (.int .i64 (f / 16)) := fun σ t cs => shr4 (by omega) (by omega)
  simp only [if_neg hf] at hok hbad
  have hbody : ∀ r,BodyS (f / 16) s r → ∃ h,HeadP (f / 16) s h ∧ match h with
   | .error e => r = .error e
   | .ok (id,l,q) => if f = 144 then ∃ c,Parts s.size (codeO 9 s) q [] c ∧ r = mapE (fun c => sbsP 9 id l [] c) c
    else ∃ c,Parts s.size (subO s) q [] c ∧ r = mapE (fun c => sbsP 8 id l c []) c := by
   intro r h
   unfold BodyS at h
   obtain ⟨h1,h2,h3⟩ := h
   refine ⟨h1,h2,?_⟩
   cases h1 with
   | error e => exact h3
   | ok a =>
    obtain ⟨id,l,q⟩ := a
    simp only at h3 ⊢
    by_cases h4 : f = 144
    ·rw [if_pos h4]; rw [if_pos (by omega)] at h3; exact h3
    ·rw [if_neg h4]; rw [if_neg (by omega)] at h3; exact h3
  first | (have e1 := eq_false n1) | (have e1 := eq_true n1)
  first | (have e2 := eq_false n2) | (have e2 := eq_true n2)
  simp only [↓sbD,sbU,tyB,decide_false,↓reduceIte,Nat.reduceEqDiff,Nat.reduceLT,reduceCtorEq,isConst,boxS,Edp,dpv,AS_new,zePk,e1,e2]
  intro b hb
  generalize hσ1 : AHeap.set σ b _ = σ1
  have k1 : Kept σ [] σ1 [] := by rw [← hσ1]; exact (Kept.refl σ []).setD hb
  have gb1 : σ1.get b = .cells zeL true 0 := by rw [← hσ1]; exact AHeap.get_set_same _ _ _
  simp only [zeL,pkC,pkz] at gb1
  clear hσ1
  have FIN : ∀ {τ : AHeap} {o : AObj},Kept σ1 [] τ [] → Kept σ [] (τ.set b o) [] := fun kt => (k1.trans kt).setD hb
  refine specRNew fun r σ2 hr k2 i2 => ?_
  simp only [↓sbD,sbU,tyB,↓reduceIte,Nat.reduceEqDiff,Nat.reduceLT,reduceCtorEq,isConst,shr]
  refine specSBody (by omega) i2 hs (fun y hy w σ3 hw k3 => ?_) fun k rr a hy y w σ3 d z hw k3 hd he => ?_
  all_goals
   obtain ⟨up,uw,us,uf,uc,q1,q2,q3,q4,q5,rfl⟩ := hw
   have K3 := k2.trans k3
   have gb3 := (K3.at gb1 (by simp) (by simp)).1
   have c1 := dl_vc q1
   have c2 := dl_vc q2
   have c3 := dl_vc q3
   have c4 := dl_vc q4
   have c5 := dl_vc q5
   simp only [pkC]
   simp only [↓sbD,sbU,tyB,↓reduceIte,Nat.reduceEqDiff,Nat.reduceLT,Nat.reduceAdd,Nat.reduceLeDiff,splice,AS_new,zePk,c1.2,c2.2,c3.2,c4.2,c5.2]
   intro y' hy'
   have hyb : y' ≠ b := nd hy' gb3 (by simp)
   have yb : ∀ (τ : AHeap) o,(AHeap.set τ y' o).get b = τ.get b := fun τ o => AHeap.get_set_ne _ _ hyb
   try simp only [↓sbD,sbU,tyB,Nat.reduceMul,Nat.reduceSub,Int.reduceEq,Int.reduceLT,Int.reduceLE,Int.reduceNe,Nat.reduceBneDiff,Nat.reduceBEq,decide_false,gt_iff_lt,Bool.or_self,Bool.false_eq_true,Nat.mul_one,Nat.one_mul,Nat.zero_mul,↓reduceIte,Nat.reduceEqDiff,Nat.reduceLT,Nat.reduceAdd,Nat.reduceLeDiff,reduceCtorEq,goInt,pairs,isConst,TI.isAgg,splice,boxS,Edp,dpv,Nat.beq_eq,ZV.val,List.any_cons,List.any_nil,yb,gb3,AHeap.get_set_same,c1.1,c1.2,c2.1,c2.2,c3.1,c3.2,c4.1,c4.2,c5.1,c5.2,Bool.and_self,Bool.and_true,List.length_cons,List.length_nil,List.cons_append,List.nil_append,List.drop_succ_cons,List.drop_zero,decide_true]
   refine drawS_l (fl := [(4,2)]) (by kernel_rfl) ?_ ?_
   rotate_left; simp only [lastP_cc,lastP_one]; rotate_left
   ·simp only [List.all_cons,List.all_nil,floatS,List.getElem?_cons_succ,List.getElem?_cons_zero,List.getElem?_toArray,Region.wanted,Bool.not_true,Bool.or_true,reads,looksWeak,aev_tmp,upd_at,↓reduceIte,Nat.reduceLT,Nat.reduceAdd,blkOf,Bool.and_self,Bool.false_eq_true]
    try rfl
   simp only [↓sbD,sbU,tyB,↓reduceIte,Nat.reduceEqDiff,Nat.reduceLT,Nat.reduceAdd,Nat.reduceLeDiff,pairs,isConst,splice,ZV.val,yb,gb3,c1.2,c2.2,c3.2,c4.2,c5.2,res_cellc,resC_some]
   first
    | exact downS_here (hok _ (hbody _ hy) _ _ ⟨_,_,_,_,_,q1,q2,q3,q4,q5,rfl⟩ (FIN (((K3.trans (((Kept.refl _ [r]).setD hy').setD hy'))).none)))
    | exact downS_here (hbad k rr a (hbody _ hy) _ d z (FIN (((K3.trans (((Kept.refl _ [r]).setD hy').setD hy'))).none)) hd he)
end
end Go.Proofs.YtonmjhdcijibgaaGreatDoor.AbsA
