/-
  Parts of a law's proof.
-/
import Derived.Test.YtonmjhdcijibgaaGreatDoorAAkqcJ
namespace Go.Proofs.YtonmjhdcijibgaaGreatDoor.AbsA
open Go AbsYtonmjhdcijibgaaGreatDoor Abs
set_option maxRecDepth 100000
set_option maxHeartbeats 8000000
set_option linter.unusedSimpArgs false
set_option linter.unusedVariables false
attribute [local irreducible] afterS afterOpS opSK OpsS TrS CodeS condS condW thenS thenQ guardS guardTS outS drawS trSK consS
theorem runW_k : ∀ {l : List Act} {b : ByteArray} {k q : Nat},runW b l = .inr (k,q) → k ≠ 0
 | [],b,k,q,h => by cases h
 | a :: l,b,k,q,h => by
  simp only [runW] at h
  cases ha : actW a with
  | inl m => rw [ha] at h; exact runW_k h
  | inr e =>
   obtain ⟨k',q'⟩ := e
   rw [ha] at h
   simp only [Sum.inr.injEq,Prod.mk.injEq] at h
   have := actW_err ha; omega
theorem encP_k {pl : Int} {l : List Pr} {k r a : Nat} (h : encP pl l = .error (k,r,a)) : k ≠ 0 := by
 unfold encP at h
 cases hc : chk pl [] l with
 | some e =>
  obtain ⟨k',r',a'⟩ := e
  rw [hc] at h
  simp only [Except.error.injEq,Prod.mk.injEq] at h
  have := chk_k hc; omega
 | none =>
  rw [hc] at h
  simp only at h
  cases hr : runW emp (l.flatMap actsP) with
  | inl c => rw [hr] at h; cases h
  | inr e =>
   obtain ⟨k',q'⟩ := e
   rw [hr] at h
   simp only [Except.error.injEq,Prod.mk.injEq] at h
   have := runW_k hr; omega
section
variable {σ : AHeap} {Q : Value → AHeap → Prop}
end
inductive Parts {α : Type} (sz : Nat) (one : Nat → Except E3 (α × Nat)) : Nat → List α → Except E3 (List α) → Prop
 | done {p : Nat} {l : List α} (h : sz ≤ p) (hl : l ≠ []) : Parts sz one p l (.ok l)
 | none {p : Nat} (h : sz ≤ p) : Parts sz one p [] (.error (3,130,p))
 | many {p : Nat} {l : List α} (h : p < sz) (hl : l.length = 32) : Parts sz one p l (.error (4,149,p))
 | bad {p : Nat} {l : List α} {e : E3} (h : p < sz) (hl : l.length ≠ 32) (ho : one p = .error e) : Parts sz one p l (.error e)
 | step {p q : Nat} {l : List α} {x : α} {r : Except E3 (List α)} (h : p < sz) (hl : l.length ≠ 32) (ho : one p = .ok (x,q)) (hr : Parts sz one q (l ++ [x]) r) : Parts sz one p l r
theorem Parts.det {α : Type} {sz : Nat} {one : Nat → Except E3 (α × Nat)} {p : Nat} {l : List α} {r : Except E3 (List α)} (h : Parts sz one p l r) : ∀ {r'},Parts sz one p l r' → r = r' := by
 induction h with
 | done h hl =>
  intro r' h'
  cases h' with
  | done _ _ => rfl
  | none _ => exact absurd rfl hl
  | many h1 _ => omega
  | bad h1 _ _ => omega
  | step h1 _ _ _ => omega
 | none h =>
  intro r' h'
  cases h' with
  | done _ h1 => exact absurd rfl h1
  | none _ => rfl
  | many h1 _ => omega
  | bad h1 _ _ => omega
  | step h1 _ _ _ => omega
 | many h hl =>
  intro r' h'
  cases h' with
  | done h1 _ => omega
  | none h1 => omega
  | many _ _ => rfl
  | bad _ h1 _ => exact absurd hl h1
  | step _ h1 _ _ => exact absurd hl h1
 | bad h hl ho =>
  intro r' h'
  cases h' with
  | done h1 _ => omega
  | none h1 => omega
  | many _ h1 => exact absurd h1 hl
  | bad _ _ h1 => rw [ho] at h1; injection h1 with h1; rw [h1]
  | step _ _ h1 _ => rw [ho] at h1; cases h1
 | step h hl ho hr ih =>
  intro r' h'
  cases h' with
  | done h1 _ => omega
  | none h1 => omega
  | many _ h1 => exact absurd h1 hl
  | bad _ _ h1 => rw [ho] at h1; cases h1
  | step _ _ h1 h2 =>
   rw [ho] at h1
   simp only [Except.ok.injEq,Prod.mk.injEq] at h1
   obtain ⟨rfl,rfl⟩ := h1
   exact ih h2
theorem Parts.k {α : Type} {sz : Nat} {one : Nat → Except E3 (α × Nat)} (hone : ∀ p k r a,one p = .error (k,r,a) → k ≠ 0) {p : Nat} {l : List α} {r : Except E3 (List α)} (h : Parts sz one p l r) : ∀ k rr a,r = .error (k,rr,a) → k ≠ 0 := by
 induction h with
 | done h hl => intro k rr a hm; cases hm
 | none h => intro k rr a hm; simp only [Except.error.injEq,Prod.mk.injEq] at hm; omega
 | many h hl => intro k rr a hm; simp only [Except.error.injEq,Prod.mk.injEq] at hm; omega
 | bad h hl ho => intro k rr a hm; injection hm with hm; subst hm; exact hone _ _ _ _ ho
 | step h hl ho hr ih => exact ih
def codeO (kind : Int) (s : ByteArray) (p : Nat) : Except E3 (Int × Nat) := match numR s p 1 with
 | .ok (c,q) => if alw kind (c : Int) = true then .ok ((c : Int),q) else .error (2,129,p)
 | .error (k,q) => .error (k,129,q)
def filO (s : ByteArray) (p : Nat) : Except E3 (ByteArray × Nat) := match textR s p with
 | .ok a => .ok a
 | .error (k,q) => .error (k,129,q)
def headM : Nat → Except E3 (List Pr × Nat) → Except E3 (Nat × List Pr × Nat)
 | _,.error e => .error e
 | id,.ok (l,q) => .ok (id,l,q)
def HeadP (kind : Int) (s : ByteArray) (r : Except E3 (Nat × List Pr × Nat)) : Prop := match numR s 0 2 with
 | .error (k,q) => r = .error (k,129,q)
 | .ok (id,q) => if id = 0 then r = .error (3,130,0) else ∃ r',ReadP kind s q r' ∧ r = headM id r'
theorem HeadP.det {kind : Int} {s : ByteArray} {r r' : Except E3 (Nat × List Pr × Nat)} (h : HeadP kind s r) (h' : HeadP kind s r') : r = r' := by
 unfold HeadP at h h'
 cases hn : numR s 0 2 with
 | error e => obtain ⟨k,q⟩ := e; rw [hn] at h h'; exact h.trans h'.symm
 | ok a =>
  obtain ⟨id,q⟩ := a
  rw [hn] at h h'
  simp only at h h'
  split at h
  ·rename_i h1
   rw [if_pos h1] at h'
   exact h.trans h'.symm
  ·rename_i h1
   rw [if_neg h1] at h'
   obtain ⟨x,h3,rfl⟩ := h
   obtain ⟨y,h4,rfl⟩ := h'
   rw [h3.det h4]
theorem HeadP.k {kind : Int} {s : ByteArray} {k rr a : Nat} (h : HeadP kind s (.error (k,rr,a))) : k ≠ 0 := by
 unfold HeadP at h
 cases hn : numR s 0 2 with
 | error e =>
  obtain ⟨k',q⟩ := e
  rw [hn] at h
  simp only [Except.error.injEq,Prod.mk.injEq] at h
  have := numR_k hn; omega
 | ok b =>
  obtain ⟨id,q⟩ := b
  rw [hn] at h
  simp only at h
  split at h
  ·simp only [Except.error.injEq,Prod.mk.injEq] at h; omega
  ·obtain ⟨x,h3,h4⟩ := h
   cases x with
   | error e =>
    obtain ⟨k',r',a'⟩ := e
    simp only [headM,Except.error.injEq,Prod.mk.injEq] at h4
    have := ReadP_k h3; omega
   | ok l => cases h4
def unsP (kind id : Int) (l : List Pr) (f : List ByteArray) (c : List Int) : Pk := { pkz with kind := kind,id := id,props := l,filts := f,codes := c }
def mapE {α β : Type} (g : α → β) : Except E3 α → Except E3 β
 | .error e => .error e
 | .ok a => .ok (g a)
def DecU (f : Int) (s : ByteArray) (r : Except E3 Pk) : Prop :=
 if f ≠ 162 ∧ f ≠ 176 then r = .error (2,129,0) else ∃ h,HeadP (f / 16) s h ∧ match h with
  | .error e => r = .error e
  | .ok (id,l,q) => if f = 176 then ∃ c,Parts s.size (codeO 11 s) q [] c ∧ r = mapE (fun c => unsP 11 id l [] c) c
   else ∃ c,Parts s.size (filO s) q [] c ∧ r = mapE (fun c => unsP 10 id l c []) c
theorem DecU.det {f : Int} {s : ByteArray} {r r' : Except E3 Pk} (h : DecU f s r) (h' : DecU f s r') : r = r' := by
 unfold DecU at h h'
 split at h
 ·rename_i h1
  rw [if_pos h1] at h'
  exact h.trans h'.symm
 ·rename_i h1
  rw [if_neg h1] at h'
  obtain ⟨x,h2,h3⟩ := h
  obtain ⟨y,h4,h5⟩ := h'
  obtain rfl := h2.det h4
  cases x with
  | error e => exact h3.trans h5.symm
  | ok a =>
   obtain ⟨id,l,q⟩ := a
   simp only at h3 h5
   split at h3
   ·rename_i h6
    rw [if_pos h6] at h5
    obtain ⟨c,h7,rfl⟩ := h3
    obtain ⟨d,h8,rfl⟩ := h5
    rw [h7.det h8]
   ·rename_i h6
    rw [if_neg h6] at h5
    obtain ⟨c,h7,rfl⟩ := h3
    obtain ⟨d,h8,rfl⟩ := h5
    rw [h7.det h8]
def firstU (k : Int) : Int := if k = 10 then 162 else if k = 11 then 176 else 0
def filA (f : ByteArray) : List Act := [⟨6,0,f⟩]
def codA (c : Int) : List Act := [⟨1,c,emp⟩]
def actsU (p : Pk) (s : ByteArray) : List Act := ⟨2,p.id,emp⟩ :: ⟨8,0,s⟩ :: (if p.kind = 10 then p.filts.flatMap filA else p.codes.flatMap codA)
def EncU (p : Pk) (r : Except E3 (Int × ByteArray)) : Prop :=
 if firstU p.kind = 0 then r = .error (7,128,0) else match encP p.kind p.props with
 | .error e => r = .error e
 | .ok s => MadeR (firstU p.kind) (DecU (firstU p.kind)) (runW emp (actsU p s)) r
theorem EncU.det {p : Pk} {r r' : Except E3 (Int × ByteArray)} (h : EncU p r) (h' : EncU p r') : r = r' := by
 unfold EncU at h h'
 split at h
 ·rename_i h1
  rw [if_pos h1] at h'
  exact h.trans h'.symm
 ·rename_i h1
  rw [if_neg h1] at h'
  cases hb : encP p.kind p.props with
  | error e => rw [hb] at h h'; exact h.trans h'.symm
  | ok s =>
   rw [hb] at h h'
   simp only at h h'
   exact MadeR.det (D := DecU (firstU p.kind)) (fun _ _ _ h1 h2 => h1.det h2) h h'
theorem strC1_frz (a : ByteArray) : frzL E.ng E.nb (strC1 a) = true := by simp [strC1,frzL,frz]
theorem intC_frz' (a : Int) : frzL E.ng E.nb (intC a) = true := by simp [intC,frzL,frz]
section
variable {σ : AHeap} {Q : Value → AHeap → Prop}
theorem app_st {K : Value → AHeap → Prop} {v y : Value} {l xs : List ByteArray} {fp : List Nat} (hv : DG strC1 1 σ v l fp) (hx : DL strC1 1 y xs) (hn : l.length + xs.length ≤ 1000000) (hq : ∀ σ' v' fp',Kept σ fp σ' fp' → DG strC1 1 σ' v' (l ++ xs) fp' → K v' σ') :
  afterOpS E B (some (.any fun b => aappend E (σ.resize b) [51,51] [v,y])) σ K :=
 app_deep (by_ := 16) ty51 ty9 rfl (by omega) (by omega) ty51 rfl rfl (fun _ => rfl) strC1_frz (fun _ => rfl) hv hx (by omega) hq
theorem app_in {K : Value → AHeap → Prop} {v y : Value} {l xs : List Int} {fp : List Nat} (hv : DG intC 1 σ v l fp) (hx : DL intC 1 y xs) (hn : l.length + xs.length ≤ 1000000) (hq : ∀ σ' v' fp',Kept σ fp σ' fp' → DG intC 1 σ' v' (l ++ xs) fp' → K v' σ') :
  afterOpS E B (some (.any fun b => aappend E (σ.resize b) [52,52] [v,y])) σ K :=
 app_deep (by_ := 8) ty52 ty3 rfl (by omega) (by omega) ty52 rfl rfl (fun _ => rfl) intC_frz' (fun _ => rfl) hv hx (by omega) hq
end
def unsC (kind id : Int) (vp vf vc : Value) : List Value := [.int .i64 kind,.int .i64 id,.int .i64 0,vp,.bool false,.int .i64 0,.string emp,.bool false,.string emp,.string emp,.int .i64 0,.bool false,.slice none 0 0,.bool false,.string emp,.bool false,.string emp,.bool false,.string emp,.string emp,.int .i64 0,.bool false,.bool false,.slice none 0 0,vf,vc]
theorem unsC_pk {kind id : Int} {l : List Pr} {f : List ByteArray} {c : List Int} {vp vf vc : Value} (h1 : DL propC 4 vp l) (h2 : DL strC1 1 vf f) (h3 : DL intC 1 vc c) : PkV (unsP kind id l f c) (.agg ⟨unsC kind id vp vf vc⟩) := ⟨vp,.slice none 0 0,.slice none 0 0,vf,vc,h1,.inl ⟨rfl,rfl⟩,.inl ⟨rfl,rfl⟩,h2,h3,rfl⟩
theorem IsR.kept {σ σ' : AHeap} {r p : Nat} {s : ByteArray} {e : Value} {gp gp' : List Nat} (h : IsR σ r s p e) (k : Kept σ gp σ' gp') (hd : r ∉ gp) : IsR σ' r s p e := (k.at h (by simp) hd).1
theorem DG.nin {α : Type} {enc : α → List Value} {sz : Nat} {σ : AHeap} {v : Value} {l : List α} {fp : List Nat} {b z : Nat} {x : Value} {cs : List Value} {w : Bool} (h : DG enc sz σ v l fp) (hg : σ.get b = .cells (x :: cs) w z) : b ∉ fp := by
 rcases h with ⟨_,_,rfl⟩ | ⟨m,_,⟨_,rfl⟩ | ⟨t,_,h4,rfl⟩⟩
 ·simp
 ·simp
 ·intro hb
  obtain rfl := List.mem_singleton.1 hb
  rw [h4] at hg; cases hg
section
variable {σ : AHeap} {Q : Value → AHeap → Prop} {r q p : Nat} {s : ByteArray}
theorem specUFirst {k : Int} (h : Q (.int .i64 (firstU k)) σ) : CallS E B 83 [.int .i64 k] σ Q := by
 refine call83 (by simp) ?_
 simp only [strip,bodyOf,Tryz.f83,getD_body,keepN,bareOp_mk,List.map_cons,List.map_nil,↓reduceIte,Bool.false_eq_true]
 by_cases hm : k = 10 ∨ k = 11
 ·rcases hm with rfl | rfl <;>
   (simp only [↓sbD,sbU,Int.reduceEq,decide_false,↓reduceIte,Nat.reduceEqDiff,Nat.reduceLT,reduceCtorEq,isConst]
    exact downS_here h)
 ·simp only [not_or] at hm
  have e : firstU k = 0 := by simp [firstU,hm]
  rw [e] at h
  obtain ⟨n1,n2⟩ := hm
  simp only [↓sbD,sbU,decide_false,↓reduceIte,Nat.reduceEqDiff,Nat.reduceLT,reduceCtorEq,isConst,n1,n2]
  exact downS_here h
theorem specUHead {kind : Int} (hr : IsR σ r s 0 .nilIface) (hs : s.size ≤ 100000000)
  (hok : ∀ id l q,HeadP kind s (.ok (id,l,q)) → ∀ v σ',DL propC 4 v l → Kept σ [r] σ' [r] → IsR σ' r s q .nilIface → q ≤ s.size → Q (.tuple #[.agg ⟨unsC kind id v (.slice none 0 0) (.slice none 0 0)⟩,.nilIface]) σ')
  (hbad : ∀ k rr a : Nat,HeadP kind s (.error (k,rr,a)) → ∀ y w σ' d z,PkV y w → Kept σ [r] σ' [r] → d ≤ 3 → ErN d (fv rr a z) k → Q (.tuple #[w,fv rr a z]) σ') :
  CallS E B 85 [.pointer (some ⟨r,0,none⟩),.int .i64 kind] σ Q := by
 unfold HeadP at hok hbad
 refine call85 (by simp) ?_
 simp only [strip,bodyOf,Tryz.f85,getD_body,keepN,bareOp_mk,lessOp_mk,List.map_cons,List.map_nil,↓reduceIte,Nat.reduceEqDiff,Bool.false_eq_true]
 simp only [↓sbD,sbU,↓reduceIte,Nat.reduceEqDiff,Nat.reduceLT,reduceCtorEq,AS_new,zePk]
 intro b hb
 have hbr : b ≠ r := nd hb hr (by simp)
 generalize hσ1 : AHeap.set σ b _ = σ1
 have k1 : Kept σ [r] σ1 [r] := by rw [← hσ1]; exact (Kept.refl σ [r]).setD hb
 have gb1 : σ1.get b = .cells zeL true 0 := by rw [← hσ1]; exact AHeap.get_set_same _ _ _
 have i1 : IsR σ1 r s 0 .nilIface := by rw [← hσ1]; unfold IsR; rw [AHeap.get_set_ne _ _ hbr]; exact hr
 clear hσ1
 refine specRU16 i1 (Nat.zero_le _) (by omega) (fun id q hid σ2 k2 i2 => ?_) fun k q hid σ2 k2 i2 => ?_
 rotate_left
 ·simp only [hid] at hok hbad
  obtain ⟨d,z,hd,he,i3⟩ := i2
  have gb2 := (k2.at gb1 (by simp) (by simpa using hbr)).1
  simp only [zeL,pkC,pkz] at gb2
  have K2 := k1.trans k2
  simp only [↓sbD,sbU,tyB,↓reduceIte,Nat.reduceEqDiff,Nat.reduceLT,Nat.reduceAdd,Nat.reduceLeDiff,reduceCtorEq,pairs,splice,ZV.val,AS_new,zePk]
  intro y hy
  have hyb : b ≠ y := (nd hy gb2 (by simp)).symm
  have hyr : y ≠ r := nd hy i3 (by simp)
  generalize hσ3 : AHeap.set (AHeap.set σ2 y _) y _ = σ3
  have k3 : Kept σ2 [] σ3 [] := by rw [← hσ3]; exact ((Kept.refl _ []).setD hy).setD hy
  have i4 := i3.kept k3 (by simp)
  have gy3 : σ3.get y = .cells (unsC kind 0 (.slice none 0 0) (.slice none 0 0) (.slice none 0 0)) true 0 := by rw [← hσ3]; exact AHeap.get_set_same _ _ _
  have gb3 := (k3.at gb2 (by simp) (by simp)).1
  clear hσ3
  simp only [unsC] at gy3
  refine specRErr i4 ?_
  simp only [↓sbD,sbU,tyB,↓reduceIte,Nat.reduceEqDiff,Nat.reduceLT,Nat.reduceAdd,Nat.reduceLeDiff,isConst,splice,gy3,gb3,res_cellc,resC_some]
  exact downS_here (hbad k 129 q rfl (unsP kind 0 [] [] []) _ _ d z (unsC_pk (.inl ⟨rfl,rfl⟩) (.inl ⟨rfl,rfl⟩) (.inl ⟨rfl,rfl⟩)) ((K2.trans (k3.wid (gp := [r]) (gp' := [r]) (fun _ h => by cases h) (fun _ h => .inr h))).setD hb) (by omega) he)
 have hq := numR_ok hid
 simp only [hid] at hok hbad
 have gb2 := (k2.at gb1 (by simp) (by simpa using hbr)).1
 simp only [zeL,pkC,pkz] at gb2
 have K2 := k1.trans k2
 simp only [↓sbD,sbU,tyB,↓reduceIte,Nat.reduceEqDiff,Nat.reduceLT,Nat.reduceAdd,Nat.reduceLeDiff,reduceCtorEq,pairs,splice,ZV.val,AS_new,zePk]
 intro y hy
 have hyb : b ≠ y := (nd hy gb2 (by simp)).symm
 have hyr : y ≠ r := nd hy i2 (by simp)
 generalize hσ3 : AHeap.set (AHeap.set σ2 y _) y _ = σ3
 have k3 : Kept σ2 [] σ3 [] := by rw [← hσ3]; exact ((Kept.refl _ []).setD hy).setD hy
 have i3 := i2.kept k3 (by simp)
 have gy3 : σ3.get y = .cells (unsC kind id (.slice none 0 0) (.slice none 0 0) (.slice none 0 0)) true 0 := by rw [← hσ3]; exact AHeap.get_set_same _ _ _
 have gb3 := (k3.at gb2 (by simp) (by simp)).1
 have K3 := K2.trans (k3.wid (gp := [r]) (gp' := [r]) (fun _ h => by cases h) (fun _ h => .inr h))
 have M3 : Kept σ2 [r] σ3 [r] := k3.wid (fun _ h => by cases h) (fun _ h => .inr h)
 clear hσ3
 simp only [unsC] at gy3
 have yb : ∀ (τ : AHeap) o,(AHeap.set τ y o).get b = τ.get b := fun τ o => AHeap.get_set_ne _ _ hyb.symm
 refine specRErr i3 ?_
 by_cases h0 : id = 0
 ·have h0' : (id : Int) = 0 := by omega
  simp only [h0,if_true] at hok hbad
  simp only [↓sbD,sbU,tyB,↓reduceIte,Nat.reduceEqDiff,Nat.reduceLT,Nat.reduceAdd,Nat.reduceLeDiff,reduceCtorEq,isConst,gy3,h0',gk3]
  refine specNew (n := 3) ⟨by omega,by omega⟩ ?_
  simp only [↓sbD,sbU,tyB,↓reduceIte,Nat.reduceEqDiff,Nat.reduceLT,Nat.reduceAdd,Nat.reduceLeDiff,splice,gb3]
  refine drawS_l (fl := [(0,2)]) (by kernel_rfl) ?_ ?_
  rotate_left; simp only [lastP_cc,lastP_one]; rotate_left
  ·simp only [List.all_cons,List.all_nil,floatS,List.getElem?_cons_succ,List.getElem?_cons_zero,List.getElem?_toArray,Region.wanted,Bool.not_true,Bool.not_false,Bool.or_true,reads,looksWeak,aev_tmp,upd_at,↓reduceIte,Nat.reduceEqDiff,Nat.reduceLT,Nat.reduceAdd,blkOf,oeq_refl,dead_cells,Bool.and_true,Bool.and_self,Bool.false_eq_true,Bool.not_false,gy3]
   try rfl
  simp only [↓sbD,sbU,tyB,↓reduceIte,Nat.reduceEqDiff,Nat.reduceLT,Nat.reduceAdd,Nat.reduceLeDiff,res_cellc,resC_some]
  exact downS_here (hbad 3 130 0 rfl (unsP kind 0 [] [] []) _ _ 1 _ (unsC_pk (.inl ⟨rfl,rfl⟩) (.inl ⟨rfl,rfl⟩) (.inl ⟨rfl,rfl⟩)) (K3.setD hb) (by omega) (ErN.new _ _ ⟨by omega,by omega⟩))
 have h0' : ¬ (id : Int) = 0 := by omega
 simp only [h0,if_false] at hok hbad
 simp only [↓sbD,sbU,tyB,decide_false,↓reduceIte,Nat.reduceEqDiff,Nat.reduceLT,reduceCtorEq,isConst,gy3,h0']
 refine specPRead i3 hq.2 hs (fun l q2 hrd v σ4 hv k4 i4 hq4 => ?_) fun k rr a hrd σ4 d z k4 hd he => ?_
 ·have hvc := dl_vc hv
  have gy4 := (k4.at gy3 (by simp) (by simpa using hyr)).1
  have gb4 := (k4.at gb3 (by simp) (by simpa using hbr)).1
  simp only [↓sbD,sbU,tyB,↓reduceIte,Nat.reduceEqDiff,Nat.reduceLT,Nat.reduceAdd,Nat.reduceLeDiff,reduceCtorEq,splice,gy4,gb4,yb,hvc.1,hvc.2,res_cellc,resC_some]
  exact downS_here (hok id l q2 ⟨_,hrd,rfl⟩ v _ hv (((K2.trans (M3.trans k4)).trans ((Kept.refl _ _).self)).self.trans (Kept.refl _ _) |> fun K => (k1.trans ((k2.trans ((M3.trans k4).setD hy)))).setD hb) (by unfold IsR; rw [AHeap.get_set_ne _ _ hbr,AHeap.get_set_ne _ _ hyr]; exact i4) hq4)
 ·have gy4 := (k4.at gy3 (by simp) (by simpa using hyr)).1
  have gb4 := (k4.at gb3 (by simp) (by simpa using hbr)).1
  simp only [↓sbD,sbU,tyB,↓reduceIte,Nat.reduceEqDiff,Nat.reduceLT,Nat.reduceAdd,Nat.reduceLeDiff,reduceCtorEq,splice,gy4,gb4,yb,res_cellc,resC_some]
  exact downS_here (hbad k rr a ⟨_,hrd,rfl⟩ (unsP kind id [] [] []) _ _ d z (unsC_pk (.inl ⟨rfl,rfl⟩) (.inl ⟨rfl,rfl⟩) (.inl ⟨rfl,rfl⟩)) ((k1.trans (k2.trans ((M3.trans k4).setD hy))).setD hb) (by omega) he)
theorem specUCode (hr : IsR σ r s p .nilIface) (hp : p < s.size) (hs : s.size ≤ 100000000)
  (hok : ∀ c q,codeO 11 s p = .ok (c,q) → ∀ σ',Kept σ [r] σ' [r] → IsR σ' r s q .nilIface → p < q → q ≤ s.size → Q (.tuple #[.int .i64 c,.nilIface]) σ')
  (hbad : ∀ k rr a : Nat,codeO 11 s p = .error (k,rr,a) → ∀ σ' d z q',Kept σ [r] σ' [r] → IsR σ' r s q' .nilIface → d ≤ 3 → ErN d (fv rr a z) k → Q (.tuple #[.int .i64 0,fv rr a z]) σ') :
  CallS E B 88 [.pointer (some ⟨r,0,none⟩)] σ Q := by
 obtain ⟨n,hn⟩ := numR_one hp
 unfold codeO at hok hbad
 simp only [hn] at hok hbad
 refine call88 (by simp) ?_
 simp only [strip,bodyOf,Tryz.f88,getD_body,keepN,bareOp_mk,List.map_cons,List.map_nil,↓reduceIte,Bool.false_eq_true]
 simp only [↓sbD,sbU,↓reduceIte,Nat.reduceLT,reduceCtorEq]
 refine specRAt hr ?_
 simp only [↓sbD,sbU,↓reduceIte,Nat.reduceLT,reduceCtorEq]
 refine specRU8 hr (by omega) (by omega) (fun n' q' hn' σ1 k1 i1 => ?_) fun k q' hn' σ1 k1 i1 => by rw [hn] at hn'; cases hn'
 rw [hn] at hn'
 simp only [Except.ok.injEq,Prod.mk.injEq] at hn'
 obtain ⟨rfl,rfl⟩ := hn'
 simp only [↓sbD,sbU,↓reduceIte,Nat.reduceLT]
 refine specAlwR ?_
 cases ha : alw 11 (n : Int) with
 | false =>
  simp only [ha,Bool.false_eq_true,if_false] at hbad
  simp only [↓sbD,sbU,tyB,↓reduceIte,Nat.reduceEqDiff,Nat.reduceLT,not_bool,gk2]
  refine specNew (n := 2) ⟨by omega,by omega⟩ ?_
  simp only [↓sbD,sbU,↓reduceIte,Nat.reduceEqDiff,Nat.reduceLT]
  exact downS_here (hbad 2 129 p rfl _ 1 _ _ k1 i1 (by omega) (ErN.new _ _ ⟨by omega,by omega⟩))
 | true =>
  simp only [ha,if_true] at hok
  simp only [↓sbD,sbU,↓reduceIte,Nat.reduceEqDiff,Nat.reduceLT,not_bool]
  exact downS_here (hok _ _ rfl _ k1 i1 (by omega) (by omega))
theorem specU87c {y c : Nat} {id : Int} {vp v : Value} {l : List Int} {fp : List Nat} (gy : σ.get y = .cells (unsC 11 id vp (.slice none 0 0) v) true 0) (gc : σ.get c = .cells [.pointer (some ⟨r,0,none⟩)] true 0)
  (hr : IsR σ r s p .nilIface) (hg : DG intC 1 σ v l fp) (hl : l.length ≤ 100) (hp : p < s.size) (hs : s.size ≤ 100000000)
  (hok : ∀ x q,codeO 11 s p = .ok (x,q) → ∀ σ' v' fp',Kept σ (r :: y :: fp) σ' (r :: y :: fp') → σ'.get y = .cells (unsC 11 id vp (.slice none 0 0) v') true 0 → IsR σ' r s q .nilIface → DG intC 1 σ' v' (l ++ [x]) fp' → p ≤ q → q ≤ s.size → Q .nilIface σ')
  (hbad : ∀ k rr a : Nat,codeO 11 s p = .error (k,rr,a) → ∀ σ' fp' d z,Kept σ (r :: y :: fp) σ' (r :: y :: fp') → d ≤ 3 → ErN d (fv rr a z) k → Q (fv rr a z) σ') :
  CallS E B 87 [.pointer (some ⟨y,0,none⟩),.pointer (some ⟨c,0,none⟩)] σ Q := by
 have hry : r ≠ y := by
  rintro rfl
  unfold IsR at hr
  rw [hr] at gy
  simp only [unsC] at gy
  injection gy with h _ _
  cases h
 have hrc : c ≠ r := by
  rintro rfl
  unfold IsR at hr
  rw [hr] at gc
  cases gc
 have hcy : c ≠ y := by
  rintro rfl
  rw [gc] at gy
  simp only [unsC] at gy
  injection gy with h _ _
  cases h
 have yc : ∀ (τ : AHeap) o,(AHeap.set τ y o).get c = τ.get c := fun τ o => AHeap.get_set_ne _ _ hcy.symm
 simp only [unsC] at gy
 have hyf := hg.nin gy
 have hrf := hg.nin hr
 have hgv := dl_vc hg.dl
 have tail : ∀ (x : Int) (σ1 : AHeap) (p1 : Nat) (e1 : Value),Kept σ [r] σ1 [r] → IsR σ1 r s p1 e1 → ∀ {K : Value → AHeap → Prop},(∀ σ2 v' fp',Kept σ (r :: y :: fp) σ2 (r :: y :: fp') → σ2.get y = σ.get y → IsR σ2 r s p1 e1 → DG intC 1 σ2 v' (l ++ [x]) fp' → y ∉ fp' → K v' σ2) →
   afterOpS E B (some (.any fun b => aappend E (σ1.resize b) [52,52] [v,dsl 1 1 1 [.int .i64 x]])) σ1 K := by
  intro x σ1 p1 e1 k1 i1 K hK
  have gy1 := (k1.at gy (by simp) (by simpa using hry.symm)).1
  refine app_in (xs := [x]) (hg.kept k1 (fun b hb hm => hrf (by obtain rfl := List.mem_singleton.1 hm; exact hb))) (.inr ⟨1,rfl⟩) (by simp only [List.length_cons,List.length_nil]; omega) fun σ2 v' fp' k2 g2 => ?_
  have gy2 := (k2.at gy1 (by simp) hyf)
  refine hK σ2 v' fp' ?_ (by rw [gy]; exact gy2.1) (k2.at i1 (by simp) hrf).1 g2 gy2.2
  exact (k1.wid (gp := r :: y :: fp) (gp' := r :: y :: fp) (fun b hb => by simp at hb; simp [hb]) (fun b hb => .inr hb)).trans (k2.wid (gp := r :: y :: fp) (gp' := r :: y :: fp') (fun b hb => by simp [hb]) (fun b hb => by simp only [List.mem_cons] at hb ⊢; rcases hb with hb | hb | hb <;> simp [hb]))
 have fin : ∀ {σ2 : AHeap} {v' : Value} {fp' : List Nat} {o : AObj},Kept σ (r :: y :: fp) σ2 (r :: y :: fp') → Kept σ (r :: y :: fp) (σ2.set y o) (r :: y :: fp') := fun k => k.trans (Kept.set (by simp))
 have setr : ∀ {σ2 : AHeap} {o : AObj} {p1 : Nat} {e1 : Value},IsR σ2 r s p1 e1 → IsR (σ2.set y o) r s p1 e1 := fun h => by unfold IsR; rw [AHeap.get_set_ne _ _ hry.symm]; exact h
 have setg : ∀ {σ2 : AHeap} {o : AObj} {v' : Value} {l' : List Int} {fp' : List Nat},DG intC 1 σ2 v' l' fp' → y ∉ fp' → DG intC 1 (σ2.set y o) v' l' fp' := fun h hy => h.kept (Kept.set (fp := [y]) (by simp)) (fun b hb hm => hy (by obtain rfl := List.mem_singleton.1 hm; exact hb))
 refine call87 (by simp) ?_
 simp only [strip,bodyOf,Tryz.f87,getD_body,keepN,bareOp_mk,lessOp_mk,List.map_cons,List.map_nil,↓reduceIte,Nat.reduceEqDiff,Bool.false_eq_true]
 simp only [↓sbD,sbU,tyB,↓reduceIte,Nat.reduceEqDiff,Nat.reduceLT,reduceCtorEq,isConst,gy,gc]
 refine specUCode hr hp hs (fun x q hx σ1 k1 i1 hpq hq => ?_) fun k rr a hx σ1 d z _ k1 i1 hd he => ?_
 ·have gy1 := (k1.at gy (by simp) (by simpa using hry.symm)).1
  simp only [↓sbD,sbU,tyB,Nat.reduceBneDiff,decide_false,gt_iff_lt,Bool.or_self,Bool.false_eq_true,Nat.mul_one,↓reduceIte,Nat.reduceEqDiff,Nat.reduceLT,Nat.reduceLeDiff,reduceCtorEq,pairs,splice,Edp,dpv,ZV.val,gy1]
  refine tail x σ1 q _ k1 i1 fun σ2 v' fp' K2 gy2 i2 g2 hyp => ?_
  rw [gy] at gy2
  have hvc := dl_vc g2.dl
  simp only [↓sbD,sbU,tyB,↓reduceIte,Nat.reduceEqDiff,Nat.reduceLT,Nat.reduceAdd,Nat.reduceLeDiff,reduceCtorEq,splice,gy2,hvc.1,hvc.2]
  exact downS_here (hok x q hx _ v' fp' (fin (v' := v') K2) (AHeap.get_set_same _ _ _) (setr i2) (setg g2 hyp) (by omega) hq)
 ·have gy1 := (k1.at gy (by simp) (by simpa using hry.symm)).1
  simp only [↓sbD,sbU,tyB,Nat.reduceBneDiff,decide_false,gt_iff_lt,Bool.or_self,Bool.false_eq_true,Nat.mul_one,↓reduceIte,Nat.reduceEqDiff,Nat.reduceLT,Nat.reduceLeDiff,reduceCtorEq,pairs,splice,Edp,dpv,ZV.val,gy1]
  refine tail 0 σ1 _ _ k1 i1 fun σ2 v' fp' K2 gy2 i2 g2 hyp => ?_
  rw [gy] at gy2
  have hvc := dl_vc g2.dl
  simp only [↓sbD,sbU,tyB,↓reduceIte,Nat.reduceEqDiff,Nat.reduceLT,Nat.reduceAdd,Nat.reduceLeDiff,reduceCtorEq,splice,gy2,hvc.1,hvc.2]
  exact downS_here (hbad k rr a hx _ fp' d z (fin (v' := v') K2) hd he)
theorem specU87f {y c : Nat} {id : Int} {vp v : Value} {l : List ByteArray} {fp : List Nat} (gy : σ.get y = .cells (unsC 10 id vp v (.slice none 0 0)) true 0) (gc : σ.get c = .cells [.pointer (some ⟨r,0,none⟩)] true 0)
  (hr : IsR σ r s p .nilIface) (hg : DG strC1 1 σ v l fp) (hl : l.length ≤ 100) (hp : p < s.size) (hs : s.size ≤ 100000000)
  (hok : ∀ x q,filO s p = .ok (x,q) → ∀ σ' v' fp',Kept σ (r :: y :: fp) σ' (r :: y :: fp') → σ'.get y = .cells (unsC 10 id vp v' (.slice none 0 0)) true 0 → IsR σ' r s q .nilIface → DG strC1 1 σ' v' (l ++ [x]) fp' → p ≤ q → q ≤ s.size → Q .nilIface σ')
  (hbad : ∀ k rr a : Nat,filO s p = .error (k,rr,a) → ∀ σ' fp' d z,Kept σ (r :: y :: fp) σ' (r :: y :: fp') → d ≤ 3 → ErN d (fv rr a z) k → Q (fv rr a z) σ') :
  CallS E B 87 [.pointer (some ⟨y,0,none⟩),.pointer (some ⟨c,0,none⟩)] σ Q := by
 have hry : r ≠ y := by
  rintro rfl
  unfold IsR at hr
  rw [hr] at gy
  simp only [unsC] at gy
  injection gy with h _ _
  cases h
 have hrc : c ≠ r := by
  rintro rfl
  unfold IsR at hr
  rw [hr] at gc
  cases gc
 have hcy : c ≠ y := by
  rintro rfl
  rw [gc] at gy
  simp only [unsC] at gy
  injection gy with h _ _
  cases h
 have yc : ∀ (τ : AHeap) o,(AHeap.set τ y o).get c = τ.get c := fun τ o => AHeap.get_set_ne _ _ hcy.symm
 simp only [unsC] at gy
 have hyf := hg.nin gy
 have hrf := hg.nin hr
 have hgv := dl_vc hg.dl
 have tail : ∀ (x : ByteArray) (σ1 : AHeap) (p1 : Nat) (e1 : Value),Kept σ [r] σ1 [r] → IsR σ1 r s p1 e1 → ∀ {K : Value → AHeap → Prop},(∀ σ2 v' fp',Kept σ (r :: y :: fp) σ2 (r :: y :: fp') → σ2.get y = σ.get y → IsR σ2 r s p1 e1 → DG strC1 1 σ2 v' (l ++ [x]) fp' → y ∉ fp' → K v' σ2) →
   afterOpS E B (some (.any fun b => aappend E (σ1.resize b) [51,51] [v,dsl 1 1 1 [.string x]])) σ1 K := by
  intro x σ1 p1 e1 k1 i1 K hK
  have gy1 := (k1.at gy (by simp) (by simpa using hry.symm)).1
  refine app_st (xs := [x]) (hg.kept k1 (fun b hb hm => hrf (by obtain rfl := List.mem_singleton.1 hm; exact hb))) (.inr ⟨1,rfl⟩) (by simp only [List.length_cons,List.length_nil]; omega) fun σ2 v' fp' k2 g2 => ?_
  have gy2 := (k2.at gy1 (by simp) hyf)
  refine hK σ2 v' fp' ?_ (by rw [gy]; exact gy2.1) (k2.at i1 (by simp) hrf).1 g2 gy2.2
  exact (k1.wid (gp := r :: y :: fp) (gp' := r :: y :: fp) (fun b hb => by simp at hb; simp [hb]) (fun b hb => .inr hb)).trans (k2.wid (gp := r :: y :: fp) (gp' := r :: y :: fp') (fun b hb => by simp [hb]) (fun b hb => by simp only [List.mem_cons] at hb ⊢; rcases hb with hb | hb | hb <;> simp [hb]))
 have fin : ∀ {σ2 : AHeap} {v' : Value} {fp' : List Nat} {o : AObj},Kept σ (r :: y :: fp) σ2 (r :: y :: fp') → Kept σ (r :: y :: fp) (σ2.set y o) (r :: y :: fp') := fun k => k.trans (Kept.set (by simp))
 have setr : ∀ {σ2 : AHeap} {o : AObj} {p1 : Nat} {e1 : Value},IsR σ2 r s p1 e1 → IsR (σ2.set y o) r s p1 e1 := fun h => by unfold IsR; rw [AHeap.get_set_ne _ _ hry.symm]; exact h
 have setg : ∀ {σ2 : AHeap} {o : AObj} {v' : Value} {l' : List ByteArray} {fp' : List Nat},DG strC1 1 σ2 v' l' fp' → y ∉ fp' → DG strC1 1 (σ2.set y o) v' l' fp' := fun h hy => h.kept (Kept.set (fp := [y]) (by simp)) (fun b hb hm => hy (by obtain rfl := List.mem_singleton.1 hm; exact hb))
 refine call87 (by simp) ?_
 simp only [strip,bodyOf,Tryz.f87,getD_body,keepN,bareOp_mk,lessOp_mk,List.map_cons,List.map_nil,↓reduceIte,Nat.reduceEqDiff,Bool.false_eq_true]
 simp only [↓sbD,sbU,tyB,Int.reduceEq,decide_false,↓reduceIte,Nat.reduceEqDiff,Nat.reduceLT,reduceCtorEq,isConst,gy,gc]
 refine specDText hr (by omega) (by omega) (fun x q hx σ1 k1 i1 => ?_) fun k q hx σ1 k1 i1 => ?_
 ·have gy1 := (k1.at gy (by simp) (by simpa using hry.symm)).1
  have hq := textR_ok hx
  simp only [↓sbD,sbU,tyB,Nat.reduceBneDiff,decide_false,gt_iff_lt,Bool.or_self,Bool.false_eq_true,Nat.mul_one,↓reduceIte,Nat.reduceEqDiff,Nat.reduceLT,Nat.reduceLeDiff,reduceCtorEq,pairs,splice,Edp,dpv,ZV.val]
  refine tail x σ1 q _ k1 i1 fun σ2 v' fp' K2 gy2 i2 g2 hyp => ?_
  rw [gy] at gy2
  have gc2 := (K2.at gc (by simp) (by simp [hrc,hcy,hg.nin gc])).1
  have hvc := dl_vc g2.dl
  simp only [↓sbD,sbU,tyB,↓reduceIte,Nat.reduceEqDiff,Nat.reduceLT,Nat.reduceAdd,Nat.reduceLeDiff,reduceCtorEq,splice,gy2,hvc.1,hvc.2]
  refine drawS_l (fl := [(1,3)]) (by kernel_rfl) ?_ ?_
  rotate_left; simp only [lastP_cc,lastP_one]; rotate_left
  ·simp only [List.all_cons,List.all_nil,floatS,List.getElem?_cons_succ,List.getElem?_cons_zero,List.getElem?_toArray,Region.wanted,Bool.not_true,Bool.not_false,Bool.or_true,reads,looksWeak,aev_tmp,upd_at,↓reduceIte,Nat.reduceLT,Nat.reduceAdd,blkOf,oeq_refl,dead_cells,Bool.and_self,Bool.false_eq_true,Bool.not_false,gy,gy1]
   try rfl
  simp only [↓sbD,sbU,tyB,↓reduceIte,Nat.reduceEqDiff,Nat.reduceLT,gc2,yc]
  refine specRErr (setr i2) ?_
  simp only [↓sbD,sbU,↓reduceIte,Nat.reduceLT]
  exact downS_here (hok x q (by unfold filO; rw [hx]) _ v' fp' (fin (v' := v') K2) (AHeap.get_set_same _ _ _) (setr i2) (setg g2 hyp) (by omega) hq.2)
 ·obtain ⟨d,z,hd,he,i1⟩ := i1
  have gy1 := (k1.at gy (by simp) (by simpa using hry.symm)).1
  simp only [↓sbD,sbU,tyB,Nat.reduceBneDiff,decide_false,gt_iff_lt,Bool.or_self,Bool.false_eq_true,Nat.mul_one,↓reduceIte,Nat.reduceEqDiff,Nat.reduceLT,Nat.reduceLeDiff,reduceCtorEq,pairs,splice,Edp,dpv,ZV.val]
  refine tail emp σ1 _ _ k1 i1 fun σ2 v' fp' K2 gy2 i2 g2 hyp => ?_
  rw [gy] at gy2
  have gc2 := (K2.at gc (by simp) (by simp [hrc,hcy,hg.nin gc])).1
  have hvc := dl_vc g2.dl
  simp only [↓sbD,sbU,tyB,↓reduceIte,Nat.reduceEqDiff,Nat.reduceLT,Nat.reduceAdd,Nat.reduceLeDiff,reduceCtorEq,splice,gy2,hvc.1,hvc.2]
  refine drawS_l (fl := [(1,3)]) (by kernel_rfl) ?_ ?_
  rotate_left; simp only [lastP_cc,lastP_one]; rotate_left
  ·simp only [List.all_cons,List.all_nil,floatS,List.getElem?_cons_succ,List.getElem?_cons_zero,List.getElem?_toArray,Region.wanted,Bool.not_true,Bool.not_false,Bool.or_true,reads,looksWeak,aev_tmp,upd_at,↓reduceIte,Nat.reduceLT,Nat.reduceAdd,blkOf,oeq_refl,dead_cells,Bool.and_self,Bool.false_eq_true,Bool.not_false,gy,gy1]
   try rfl
  simp only [↓sbD,sbU,tyB,↓reduceIte,Nat.reduceEqDiff,Nat.reduceLT,gc2,yc]
  refine specRErr (setr i2) ?_
  simp only [↓sbD,sbU,↓reduceIte,Nat.reduceLT]
  exact downS_here (hbad k 129 q (by unfold filO; rw [hx]) _ fp' d z (fin (v' := v') K2) (by omega) he)
end
theorem Kept.add {σ σ' : AHeap} {fp fp' : List Nat} {y : Nat} {o : AObj} (k : Kept σ fp σ' fp') (hy : σ'.get y = .dead) : Kept σ fp (σ'.set y o) (y :: fp') where
 get b hb hn := by
  by_cases h : b = y
  ·subst h
   have := k.get b hb hn
   rw [hy] at this
   exact absurd this.symm hb
  ·rw [AHeap.get_set_ne _ _ (Ne.symm h)]; exact k.get b hb hn
 new b hb := by
  rcases List.mem_cons.1 hb with rfl | hb
  ·by_cases h1 : σ.get b = .dead
   ·exact .inr h1
   ·by_cases h2 : b ∈ fp
    ·exact .inl h2
    ·have := k.get b h1 h2
     rw [hy] at this
     exact absurd this.symm h1
  ·exact k.new b hb
theorem zePR : azero E 67 = some [.pointer none] := rfl
section
variable {σ : AHeap} {Q : Value → AHeap → Prop} {r q p : Nat} {s : ByteArray}
theorem specUEach {α : Type} {one : Nat → Except E3 (α × Nat)} {y c p0 : Nat} (INV : AHeap → Nat → List α → Prop) (BAD : AHeap → Prop)
  (hR : ∀ σ p l,INV σ p l → IsR σ r s p .nilIface) (hB : ∀ σ p l,INV σ p l → BAD σ) (hs : s.size ≤ 100000000)
  (hstep : ∀ σ p l,INV σ p l → p < s.size → l.length ≤ 40 → ∀ {Q : Value → AHeap → Prop},(∀ x q,one p = .ok (x,q) → ∀ σ',INV σ' q (l ++ [x]) → q ≤ s.size → Q .nilIface σ') →
    (∀ k rr a : Nat,one p = .error (k,rr,a) → ∀ σ' d z,BAD σ' → d ≤ 3 → ErN d (fv rr a z) k → Q (fv rr a z) σ') → CallS E B 87 [.pointer (some ⟨y,0,none⟩),.pointer (some ⟨c,0,none⟩)] σ Q)
  (h0 : INV σ p0 []) (hp0 : p0 ≤ s.size)
  (hok : ∀ l σ' p,Parts s.size one p0 [] (.ok l) → INV σ' p l → Q .nilIface σ')
  (hbad : ∀ k rr a : Nat,Parts s.size one p0 [] (.error (k,rr,a)) → ∀ σ' d z,BAD σ' → d ≤ 3 → ErN d (fv rr a z) k → Q (fv rr a z) σ') :
  CallS E B 86 [.pointer (some ⟨r,0,none⟩),.func (.func 87) ⟨[]⟩ ⟨[.pointer (some ⟨y,0,none⟩),.pointer (some ⟨c,0,none⟩)]⟩] σ Q := by
 refine call86 (by simp) ?_
 simp only [strip,bodyOf,Tryz.f86,getD_body,keepN,bareOp_mk,lessOp_mk,List.map_cons,List.map_nil,↓reduceIte,Nat.reduceEqDiff,Bool.false_eq_true]
 simp (disch := first | assumption | simp) only [↓sbD,sbU]
 refine S_loop (fun m f σ' => ∃ (p : Nat) (l : List α),m + l.length = 32 ∧ p ≤ s.size ∧ INV σ' p l ∧ f 5 = .int .i64 (l.length : Int) ∧ ∀ R,Parts s.size one p l R → Parts s.size one p0 [] R) 32 (Le.refl _) ⟨p0,[],rfl,hp0,h0,by simp (disch := first | assumption | simp) only [sbU,↓reduceIte]; rfl,fun R h => h⟩ ?_
 rintro m f σ1 ⟨p,l,hm,hp,hi,f5,hback⟩ hf
 have f0 := hf 0 (by decide) (notMem_wr (by kernel_rfl))
 have f1 := hf 1 (by decide) (notMem_wr (by kernel_rfl))
 simp (disch := first | assumption | simp) only [sbU,↓reduceIte,Nat.reduceEqDiff,reduceCtorEq] at f0 f1
 clear hf
 have hr := hR _ _ _ hi
 simp (disch := first | assumption | simp) only [↓sbD,sbU,↓reduceIte,Nat.reduceLT,f0]
 refine specRLeft hr hp (by omega) ?_
 by_cases hlt : p < s.size
 ·have hl0 : (0 : Int) < ((s.size - p : Nat) : Int) := by omega
  by_cases h32 : l.length = 32
  ·have h32' : (l.length : Int) = 32 := by omega
   simp (disch := first | assumption | simp) only [↓sbD,sbU,↓reduceIte,Nat.reduceEqDiff,Nat.reduceLT,reduceCtorEq,isConst,f0,f5,hl0,h32']
   refine specRAt hr ?_
   simp (disch := first | assumption | simp) only [↓sbD,sbU,tyB,↓reduceIte,Nat.reduceEqDiff,Nat.reduceLT,gk4]
   refine specNew (n := 4) ⟨by omega,by omega⟩ ?_
   simp (disch := first | assumption | simp) only [↓sbD,sbU,↓reduceIte,Nat.reduceLT]
   refine drawS_l (fl := [(2,1)]) (by kernel_rfl) ?_ ?_
   rotate_left; simp only [lastP_cc,lastP_one]; rotate_left
   ·simp only [List.all_cons,List.all_nil,floatS,List.getElem?_cons_succ,List.getElem?_cons_zero,List.getElem?_toArray,Region.wanted,Bool.not_true,Bool.false_or,reads,looksWeak,↓reduceIte,Nat.reduceAdd,blkOf,oeq_refl,Bool.and_true,Bool.and_self,Bool.false_eq_true]
    try rfl
   simp (disch := first | assumption | simp) only [↓sbD,sbU,↓reduceIte,Nat.reduceLT]
   exact downS_here (hbad 4 149 p (hback _ (.many hlt h32)) _ 1 _ (hB _ _ _ hi) (by omega) (ErN.new _ _ ⟨by omega,by omega⟩))
  ·have h32' : ¬ (l.length : Int) = 32 := by omega
   have hw := wrap_suc (n := l.length) (by omega)
   simp (disch := first | assumption | simp) only [↓sbD,sbU,decide_false,↓reduceIte,Nat.reduceEqDiff,Nat.reduceLT,isConst,f1,f5,hl0,h32']
   refine hstep σ1 p l hi hlt (by omega) (fun x q hx σ2 hi2 hq => ?_) fun k rr a hx σ2 d z hb hd he => ?_
   ·simp (disch := first | assumption | simp) only [↓sbD,sbU,tyB,↓reduceIte,Nat.reduceEqDiff,Nat.reduceLT,isConst,f5,hw]
    exact ⟨_,m - 1,σ2,rfl,by omega,Le.refl _,q,l ++ [x],by rw [List.length_append]; simp only [List.length_cons,List.length_nil]; omega,hq,hi2,by rw [List.length_append]; rfl,fun R h => hback R (.step hlt h32 hx h)⟩
   ·simp (disch := first | assumption | simp) only [↓sbD,sbU,tyB,↓reduceIte,Nat.reduceEqDiff,Nat.reduceLT,isConst]
    exact downS_here (hbad k rr a (hback _ (.bad hlt h32 hx)) _ d z hb hd he)
 ·have hl0 : ¬ (0 : Int) < ((s.size - p : Nat) : Int) := by omega
  by_cases hn : l = []
  ·subst hn
   simp (disch := first | assumption | simp) only [↓sbD,sbU,decide_false,↓reduceIte,Nat.reduceEqDiff,Nat.reduceLT,reduceCtorEq,isConst,f0,f5,hl0,show ((0 : Nat) : Int) = 0 from rfl]
   refine specRAt hr ?_
   simp (disch := first | assumption | simp) only [↓sbD,sbU,tyB,↓reduceIte,Nat.reduceEqDiff,Nat.reduceLT,gk3]
   refine specNew (n := 3) ⟨by omega,by omega⟩ ?_
   simp (disch := first | assumption | simp) only [↓sbD,sbU,↓reduceIte,Nat.reduceLT]
   refine drawS_l (fl := [(2,1)]) (by kernel_rfl) ?_ ?_
   rotate_left; simp only [lastP_cc,lastP_one]; rotate_left
   ·simp only [List.all_cons,List.all_nil,floatS,List.getElem?_cons_succ,List.getElem?_cons_zero,List.getElem?_toArray,Region.wanted,Bool.not_true,Bool.false_or,reads,looksWeak,↓reduceIte,Nat.reduceAdd,blkOf,oeq_refl,Bool.and_true,Bool.and_self,Bool.false_eq_true]
    try rfl
   simp (disch := first | assumption | simp) only [↓sbD,sbU,↓reduceIte,Nat.reduceLT]
   exact downS_here (hbad 3 130 p (hback _ (.none (by omega))) _ 1 _ (hB _ _ _ hi) (by omega) (ErN.new _ _ ⟨by omega,by omega⟩))
  ·have hn' : ¬ (l.length : Int) = 0 := fun h => hn (List.length_eq_zero_iff.1 (by omega))
   simp (disch := first | assumption | simp) only [↓sbD,sbU,decide_false,↓reduceIte,Nat.reduceEqDiff,Nat.reduceLT,isConst,f5,hl0,hn']
   exact downS_here (hok l σ1 p (hback _ (.done (by omega) hn)) hi)
theorem specUDec {f : Int} (hs : s.size ≤ 100000000)
  (hok : ∀ p,DecU f s (.ok p) → ∀ v σ',PkV p v → Kept σ [] σ' [] → Q (.tuple #[v,.nilIface]) σ')
  (hbad : ∀ k rr a : Nat,DecU f s (.error (k,rr,a)) → ∀ σ' d z,Kept σ [] σ' [] → d ≤ 3 → ErN d (fv rr a z) k → Q (.tuple #[.agg ⟨zeL⟩,fv rr a z]) σ') :
  CallS E B 37 [.agg ⟨[.int .i64 f,.string s]⟩] σ Q := by
 unfold DecU at hok hbad
 refine call37 (by simp) ?_
 simp only [strip,bodyOf,Tryz.f37,getD_body,keepN,bareOp_mk,List.map_cons,List.map_nil,↓reduceIte,Bool.false_eq_true]
 have ALT : ∀ {P : Prop},(f = 162 → P) → (f = 176 → P) → (f ≠ 162 → f ≠ 176 → P) → P := fun a b c => by
  by_cases h1 : f = 162
  ·exact a h1
  ·by_cases h2 : f = 176
   ·exact b h2
   ·exact c h1 h2
 refine ALT (fun hf => ?_) (fun hf => ?_) fun n1 n2 => ?_
 rotate_left; rotate_left
 ·simp only [if_pos (And.intro n1 n2)] at hok hbad
  simp only [↓sbD,sbU,tyB,↓reduceIte,Nat.reduceEqDiff,Nat.reduceLT,reduceCtorEq,pairs,isConst,boxS,Edp,dpv,ZV.val,AS_new,zePk,n1,n2]
  intro b hb
  simp only [↓sbD,sbU,↓reduceIte,Nat.reduceLT,gk2]
  refine specNew (n := 2) ⟨by omega,by omega⟩ ?_
  simp only [↓sbD,sbU,tyB,↓reduceIte,Nat.reduceEqDiff,Nat.reduceLT,Nat.reduceAdd,Nat.reduceLeDiff,splice,res_cellc,resC_some]
  exact downS_here (hbad 2 129 0 rfl _ 1 _ (((Kept.refl σ []).setD hb).setD hb) (by omega) (ErN.new _ _ ⟨by omega,by omega⟩))
 ·subst hf
  have shr : ∀ (σ : AHeap) (t : Nat) (cs : Bool),abin E σ .shr t cs (.int .i64 162) (.int .u64 4) = some (.int .i64 10) := fun σ t cs => rfl
  have hk : (162 : Int) / 16 = 10 := by decide
  have hf : ¬ ((162 : Int) ≠ 162 ∧ (162 : Int) ≠ 176) := by decide
  simp only [if_neg hf,hk] at hok hbad
  simp only [↓sbD,sbU,tyB,decide_false,↓reduceIte,Nat.reduceEqDiff,Nat.reduceLT,reduceCtorEq,isConst,boxS,Edp,dpv,AS_new,zePk]
  intro b hb
  generalize hσ1 : AHeap.set σ b _ = σ1
  have k1 : Kept σ [] σ1 [] := by rw [← hσ1]; exact (Kept.refl σ []).setD hb
  have gb1 : σ1.get b = .cells zeL true 0 := by rw [← hσ1]; exact AHeap.get_set_same _ _ _
  simp only [zeL,pkC,pkz] at gb1
  clear hσ1
  have FIN : ∀ {τ : AHeap} {o : AObj},Kept σ1 [] τ [] → Kept σ [] (τ.set b o) [] := fun kt => (k1.trans kt).setD hb
  refine specRNew fun r σ2 hr k2 i2 => ?_
  simp only [↓sbD,sbU,tyB,↓reduceIte,Nat.reduceEqDiff,Nat.reduceLT,Nat.reduceLeDiff,reduceCtorEq,isConst,splice,AS_new,zePR]
  intro c hc
  have hcr : c ≠ r := nd hc i2 (by simp)
  generalize hσ3 : AHeap.set (AHeap.set σ2 c _) c _ = σ3
  have k3 : Kept σ2 [] σ3 [] := by rw [← hσ3]; exact ((Kept.refl _ []).setD hc).setD hc
  have gc3 : σ3.get c = .cells [.pointer (some ⟨r,0,none⟩)] true 0 := by rw [← hσ3]; exact AHeap.get_set_same _ _ _
  have i3 := i2.kept k3 (by simp)
  have K3 : Kept σ1 [] σ3 [r] := k2.trans (k3.wid (fun _ h => by cases h) (fun _ h => .inr h))
  clear hσ3
  simp only [↓sbD,sbU,↓reduceIte,Nat.reduceEqDiff,Nat.reduceLT,shr]
  refine specUHead i3 hs (fun id l q hh v σ4 hv k4 i4 hq4 => ?_) fun k rr a hh y w σ4 d z hw k4 hd he => ?_
  ·have gc4 := (k4.at gc3 (by simp) (by simpa using hcr)).1
   have K4 := K3.trans k4
   have hvc := dl_vc hv
   simp only [unsC]
   simp only [↓sbD,sbU,tyB,↓reduceIte,Nat.reduceEqDiff,Nat.reduceLT,Nat.reduceAdd,Nat.reduceLeDiff,isConst,splice,AS_new,zePk,hvc.2]
   intro y hy
   generalize hσ5 : AHeap.set (AHeap.set σ4 y _) y _ = σ5
   have gy5 : σ5.get y = .cells (unsC 10 id v (.slice none 0 0) (.slice none 0 0)) true 0 := by rw [← hσ5]; exact AHeap.get_set_same _ _ _
   have hyr : y ≠ r := nd hy i4 (by simp)
   have hyc : y ≠ c := nd hy gc4 (by simp)
   have k5 : Kept σ4 [] σ5 [] := by rw [← hσ5]; exact ((Kept.refl _ []).setD hy).setD hy
   have i5 := i4.kept k5 (by simp)
   have gc5 := (k5.at gc4 (by simp) (by simp)).1
   have K5 : Kept σ1 [] σ5 [r,y] := by
    rw [← hσ5]
    exact (((K4.add (o := _) hy).wid (gp := []) (gp' := [r,y]) (fun _ h => h) (fun b h => by simp only [List.mem_cons,List.not_mem_nil,or_false] at h; rcases h with h | h <;> simp [h]))).trans (Kept.set (by simp))
   clear hσ5
   simp only [↓sbD,sbU,↓reduceIte,Nat.reduceEqDiff,Nat.reduceLT,gc5,List.map_toArray]
   refine specUEach (one := filO s) (y := y) (c := c) (p0 := q) (fun τ p l => ∃ v' fp,τ.get y = .cells (unsC 10 id v v' (.slice none 0 0)) true 0 ∧ τ.get c = .cells [.pointer (some ⟨r,0,none⟩)] true 0 ∧ IsR τ r s p .nilIface ∧ DG strC1 1 τ v' l fp ∧ Kept σ5 [r,y] τ (r :: y :: fp))
    (fun τ => Kept σ5 [r,y] τ [])
    (fun τ p l h => by obtain ⟨_,_,_,_,h,_⟩ := h; exact h) (fun τ p l h => by obtain ⟨_,_,_,_,_,_,h⟩ := h; exact h.none) hs
    (fun τ p l hI hlt hl Q hok' hbad' => ?_) ⟨_,[],gy5,gc5,i5,DG.nil,Kept.refl _ _⟩ hq4 (fun fl τ p hP hI => ?_) fun k rr a hP τ d z hb' hd he => ?_
   ·obtain ⟨v',fp,g1,g2,g3,g4,g5⟩ := hI
    refine specU87f g1 g2 g3 g4 (by omega) hlt hs (fun x q' hx τ' v2 fp' kk gg ii dd _ hq' => ?_) fun k rr a hx τ' fp' d z kk hd he => ?_
    ·have hcn : c ∉ r :: y :: fp := by simp [hcr,Ne.symm hyc,g4.nin g2]
     exact hok' x q' hx τ' ⟨v2,fp',gg,(kk.at g2 (by simp) hcn).1,ii,dd,g5.trans kk⟩ hq'
    ·exact hbad' k rr a hx τ' d z (g5.trans kk).none hd he
   ·obtain ⟨v',fp,g1,g2,g3,g4,g5⟩ := hI
    have K6 := (K5.trans g5).none
    have gb6 := (K6.at gb1 (by simp) (by simp)).1
    have hvc2 := dl_vc g4.dl
    have hg := g4
    have g1' := g1
    simp only [unsC] at g1'
    simp only [↓sbD,sbU,tyB,↓reduceIte,Nat.reduceEqDiff,Nat.reduceLT,Nat.reduceAdd,Nat.reduceLeDiff,isConst,splice,g1',gb6,hvc.2,hvc2.2,res_cellc,resC_some]
    exact downS_here (hok _ ⟨_,hh,by simp only; rw [if_neg (by decide)]; exact ⟨_,hP,rfl⟩⟩ _ _ (unsC_pk hv hg.dl (.inl ⟨rfl,rfl⟩)) (FIN K6))
   ·have K6 := (K5.trans hb')
    have gb6 := (K6.at gb1 (by simp) (by simp)).1
    simp only [↓sbD,sbU,tyB,↓reduceIte,Nat.reduceEqDiff,Nat.reduceLT,Nat.reduceAdd,Nat.reduceLeDiff,pairs,isConst,splice,ZV.val,gb6,res_cellc,resC_some]
    exact downS_here (hbad k rr a ⟨_,hh,by simp only; rw [if_neg (by decide)]; exact ⟨_,hP,rfl⟩⟩ _ d z (FIN K6) hd he)
  ·obtain ⟨up,uw,us,uf,uc,e1,e2,e3,e4,e5,rfl⟩ := hw
   have K4 := K3.trans k4
   have gb4 := (K4.at gb1 (by simp) (by simp)).1
   have c1 := dl_vc e1
   have c2 := dl_vc e2
   have c3 := dl_vc e3
   have c4 := dl_vc e4
   have c5 := dl_vc e5
   simp only [pkC]
   simp only [↓sbD,sbU,tyB,↓reduceIte,Nat.reduceEqDiff,Nat.reduceLT,Nat.reduceAdd,Nat.reduceLeDiff,pairs,isConst,splice,ZV.val,AS_new,zePk,c1.2,c2.2,c3.2,c4.2,c5.2]
   intro y' hy
   have hyb : y' ≠ b := nd hy gb4 (by simp)
   have yb : ∀ (τ : AHeap) o,(AHeap.set τ y' o).get b = τ.get b := fun τ o => AHeap.get_set_ne _ _ hyb
   simp only [↓sbD,sbU,tyB,↓reduceIte,Nat.reduceEqDiff,Nat.reduceLT,Nat.reduceAdd,Nat.reduceLeDiff,splice,yb,gb4,res_cellc,resC_some]
   exact downS_here (hbad k rr a ⟨_,hh,rfl⟩ _ d z (FIN (((K4.trans (((Kept.refl _ [r]).setD hy).setD hy))).none)) hd he)
 ·subst hf
  have shr : ∀ (σ : AHeap) (t : Nat) (cs : Bool),abin E σ .shr t cs (.int .i64 176) (.int .u64 4) = some (.int .i64 11) := fun σ t cs => rfl
  have hk : (176 : Int) / 16 = 11 := by decide
  have hf : ¬ ((176 : Int) ≠ 162 ∧ (176 : Int) ≠ 176) := by decide
  simp only [if_neg hf,hk] at hok hbad
  simp only [↓sbD,sbU,tyB,Int.reduceEq,decide_false,↓reduceIte,Nat.reduceEqDiff,Nat.reduceLT,reduceCtorEq,isConst,boxS,Edp,dpv,AS_new,zePk]
  intro b hb
  generalize hσ1 : AHeap.set σ b _ = σ1
  have k1 : Kept σ [] σ1 [] := by rw [← hσ1]; exact (Kept.refl σ []).setD hb
  have gb1 : σ1.get b = .cells zeL true 0 := by rw [← hσ1]; exact AHeap.get_set_same _ _ _
  simp only [zeL,pkC,pkz] at gb1
  clear hσ1
  have FIN : ∀ {τ : AHeap} {o : AObj},Kept σ1 [] τ [] → Kept σ [] (τ.set b o) [] := fun kt => (k1.trans kt).setD hb
  refine specRNew fun r σ2 hr k2 i2 => ?_
  simp only [↓sbD,sbU,tyB,↓reduceIte,Nat.reduceEqDiff,Nat.reduceLT,Nat.reduceLeDiff,reduceCtorEq,isConst,splice,AS_new,zePR]
  intro c hc
  have hcr : c ≠ r := nd hc i2 (by simp)
  generalize hσ3 : AHeap.set (AHeap.set σ2 c _) c _ = σ3
  have k3 : Kept σ2 [] σ3 [] := by rw [← hσ3]; exact ((Kept.refl _ []).setD hc).setD hc
  have gc3 : σ3.get c = .cells [.pointer (some ⟨r,0,none⟩)] true 0 := by rw [← hσ3]; exact AHeap.get_set_same _ _ _
  have i3 := i2.kept k3 (by simp)
  have K3 : Kept σ1 [] σ3 [r] := k2.trans (k3.wid (fun _ h => by cases h) (fun _ h => .inr h))
  clear hσ3
  simp only [↓sbD,sbU,↓reduceIte,Nat.reduceEqDiff,Nat.reduceLT,shr]
  refine specUHead i3 hs (fun id l q hh v σ4 hv k4 i4 hq4 => ?_) fun k rr a hh y w σ4 d z hw k4 hd he => ?_
  ·have gc4 := (k4.at gc3 (by simp) (by simpa using hcr)).1
   have K4 := K3.trans k4
   have hvc := dl_vc hv
   simp only [unsC]
   simp only [↓sbD,sbU,tyB,↓reduceIte,Nat.reduceEqDiff,Nat.reduceLT,Nat.reduceAdd,Nat.reduceLeDiff,isConst,splice,AS_new,zePk,hvc.2]
   intro y hy
   generalize hσ5 : AHeap.set (AHeap.set σ4 y _) y _ = σ5
   have gy5 : σ5.get y = .cells (unsC 11 id v (.slice none 0 0) (.slice none 0 0)) true 0 := by rw [← hσ5]; exact AHeap.get_set_same _ _ _
   have hyr : y ≠ r := nd hy i4 (by simp)
   have hyc : y ≠ c := nd hy gc4 (by simp)
   have k5 : Kept σ4 [] σ5 [] := by rw [← hσ5]; exact ((Kept.refl _ []).setD hy).setD hy
   have i5 := i4.kept k5 (by simp)
   have gc5 := (k5.at gc4 (by simp) (by simp)).1
   have K5 : Kept σ1 [] σ5 [r,y] := by
    rw [← hσ5]
    exact (((K4.add (o := _) hy).wid (gp := []) (gp' := [r,y]) (fun _ h => h) (fun b h => by simp only [List.mem_cons,List.not_mem_nil,or_false] at h; rcases h with h | h <;> simp [h]))).trans (Kept.set (by simp))
   clear hσ5
   simp only [↓sbD,sbU,↓reduceIte,Nat.reduceEqDiff,Nat.reduceLT,gc5,List.map_toArray]
   refine specUEach (one := codeO 11 s) (y := y) (c := c) (p0 := q) (fun τ p l => ∃ v' fp,τ.get y = .cells (unsC 11 id v (.slice none 0 0) v') true 0 ∧ τ.get c = .cells [.pointer (some ⟨r,0,none⟩)] true 0 ∧ IsR τ r s p .nilIface ∧ DG intC 1 τ v' l fp ∧ Kept σ5 [r,y] τ (r :: y :: fp))
    (fun τ => Kept σ5 [r,y] τ [])
    (fun τ p l h => by obtain ⟨_,_,_,_,h,_⟩ := h; exact h) (fun τ p l h => by obtain ⟨_,_,_,_,_,_,h⟩ := h; exact h.none) hs
    (fun τ p l hI hlt hl Q hok' hbad' => ?_) ⟨_,[],gy5,gc5,i5,DG.nil,Kept.refl _ _⟩ hq4 (fun fl τ p hP hI => ?_) fun k rr a hP τ d z hb' hd he => ?_
   ·obtain ⟨v',fp,g1,g2,g3,g4,g5⟩ := hI
    refine specU87c g1 g2 g3 g4 (by omega) hlt hs (fun x q' hx τ' v2 fp' kk gg ii dd _ hq' => ?_) fun k rr a hx τ' fp' d z kk hd he => ?_
    ·have hcn : c ∉ r :: y :: fp := by simp [hcr,Ne.symm hyc,g4.nin g2]
     exact hok' x q' hx τ' ⟨v2,fp',gg,(kk.at g2 (by simp) hcn).1,ii,dd,g5.trans kk⟩ hq'
    ·exact hbad' k rr a hx τ' d z (g5.trans kk).none hd he
   ·obtain ⟨v',fp,g1,g2,g3,g4,g5⟩ := hI
    have K6 := (K5.trans g5).none
    have gb6 := (K6.at gb1 (by simp) (by simp)).1
    have hvc2 := dl_vc g4.dl
    have hg := g4
    have g1' := g1
    simp only [unsC] at g1'
    simp only [↓sbD,sbU,tyB,↓reduceIte,Nat.reduceEqDiff,Nat.reduceLT,Nat.reduceAdd,Nat.reduceLeDiff,isConst,splice,g1',gb6,hvc.2,hvc2.2,res_cellc,resC_some]
    exact downS_here (hok _ ⟨_,hh,by simp only [if_true]; exact ⟨_,hP,rfl⟩⟩ _ _ (unsC_pk hv (.inl ⟨rfl,rfl⟩) hg.dl) (FIN K6))
   ·have K6 := (K5.trans hb')
    have gb6 := (K6.at gb1 (by simp) (by simp)).1
    simp only [↓sbD,sbU,tyB,↓reduceIte,Nat.reduceEqDiff,Nat.reduceLT,Nat.reduceAdd,Nat.reduceLeDiff,pairs,isConst,splice,ZV.val,gb6,res_cellc,resC_some]
    exact downS_here (hbad k rr a ⟨_,hh,by simp only [if_true]; exact ⟨_,hP,rfl⟩⟩ _ d z (FIN K6) hd he)
  ·obtain ⟨up,uw,us,uf,uc,e1,e2,e3,e4,e5,rfl⟩ := hw
   have K4 := K3.trans k4
   have gb4 := (K4.at gb1 (by simp) (by simp)).1
   have c1 := dl_vc e1
   have c2 := dl_vc e2
   have c3 := dl_vc e3
   have c4 := dl_vc e4
   have c5 := dl_vc e5
   simp only [pkC]
   simp only [↓sbD,sbU,tyB,↓reduceIte,Nat.reduceEqDiff,Nat.reduceLT,Nat.reduceAdd,Nat.reduceLeDiff,pairs,isConst,splice,ZV.val,AS_new,zePk,c1.2,c2.2,c3.2,c4.2,c5.2]
   intro y' hy
   have hyb : y' ≠ b := nd hy gb4 (by simp)
   have yb : ∀ (τ : AHeap) o,(AHeap.set τ y' o).get b = τ.get b := fun τ o => AHeap.get_set_ne _ _ hyb
   simp only [↓sbD,sbU,tyB,↓reduceIte,Nat.reduceEqDiff,Nat.reduceLT,Nat.reduceAdd,Nat.reduceLeDiff,splice,yb,gb4,res_cellc,resC_some]
   exact downS_here (hbad k rr a ⟨_,hh,rfl⟩ _ d z (FIN (((K4.trans (((Kept.refl _ [r]).setD hy).setD hy))).none)) hd he)
end
section
variable {σ : AHeap} {Q : Value → AHeap → Prop}
theorem specUEnc {p : Pk} {v : Value} (hp : PkV p v) (hfz : ∀ cs,v = .agg ⟨cs⟩ → frzL E.ng E.nb cs = true) (hf : fewPk p)
  (hok : ∀ fb,EncU p (.ok fb) → ∀ σ',Kept σ [] σ' [] → Q (.tuple #[.agg ⟨[.int .i64 fb.1,.string fb.2]⟩,.nilIface]) σ')
  (hbad : ∀ k rr a : Nat,EncU p (.error (k,rr,a)) → ∀ σ' d z,Kept σ [] σ' [] → d ≤ 3 → ErN d (fv rr a z) k → Q (.tuple #[.agg ⟨[.int .i64 0,.string emp]⟩,fv rr a z]) σ') :
  CallS E B 36 [v] σ Q := by
 obtain ⟨vp,vw,vs,vf,vc,d1,d2,d3,d4,d5,rfl⟩ := hp
 have hz := hfz _ rfl
 clear hfz
 simp only [pkC] at hz ⊢
 have hlen := DLp.len d1
 have hsm : smallP p.props := ⟨by have := hf.props.1; omega,fun x hx => by have := hf.props.2 x hx; omega⟩
 have eml : (emp).size = 0 := rfl
 unfold EncU at hok hbad
 refine call36 (by simp) ?_
 simp only [strip,bodyOf,Tryz.f36,getD_body,keepN,bareOp_mk,lapp_cons,lapp_nil,List.map_cons,List.map_nil,↓reduceIte,Bool.false_eq_true]
 simp (disch := first | assumption | simp) only [↓sbD,sbU,tyB,↓reduceIte,Nat.reduceEqDiff,Nat.reduceLT,reduceCtorEq,boxS,Edp,dpv,AS_new,zeFra,hz]
 intro b hb
 refine specUFirst ?_
 by_cases h0 : firstU p.kind = 0
 ·simp only [h0,if_true] at hok hbad
  simp (disch := first | assumption | simp) only [↓sbD,sbU,tyB,↓reduceIte,Nat.reduceLT,pairs,isConst,ZV.val,h0,gk7]
  refine specNew (n := 7) ⟨by omega,by omega⟩ ?_
  simp (disch := first | assumption | simp) only [↓sbD,sbU,tyB,↓reduceIte,Nat.reduceEqDiff,Nat.reduceLT,Nat.reduceAdd,Nat.reduceLeDiff,splice,res_cellc,resC_some]
  exact downS_here (hbad 7 128 0 rfl _ 1 _ (((Kept.refl σ []).setD hb).setD hb) (by omega) (ErN.new _ _ ⟨by omega,by omega⟩))
 simp only [h0,if_false] at hok hbad
 simp (disch := first | assumption | simp) only [↓sbD,sbU,tyB,decide_false,↓reduceIte,Nat.reduceEqDiff,Nat.reduceLT,reduceCtorEq,isConst,h0]
 generalize hσ1 : AHeap.set σ b _ = σ1
 have k1 : Kept σ [] σ1 [] := by rw [← hσ1]; exact (Kept.refl σ []).setD hb
 have gb1 : σ1.get b = .cells [.int .i64 0,.string emp] true 0 := by rw [← hσ1]; exact AHeap.get_set_same _ _ _
 clear hσ1
 refine specPEncode d1 hsm (fun c hce hcz => ?_) fun k r a d z hce hd he => ?_
 rotate_left
 ·rw [hce] at hok hbad
  simp only at hok hbad
  simp (disch := first | assumption | simp) only [↓sbD,sbU,tyB,↓reduceIte,Nat.reduceEqDiff,Nat.reduceLT,Nat.reduceAdd,Nat.reduceLeDiff,pairs,isConst,splice,ZV.val,gb1,res_cellc,resC_some]
  exact downS_here (hbad k r a rfl _ d z (k1.setD hb) (by omega) he)
 rw [hce] at hok hbad
 simp only at hok hbad
 have hcz2 := encP_size hf.props hce
 simp (disch := first | assumption | simp) only [↓sbD,sbU,tyB,Bool.false_eq_true,↓reduceIte,Nat.reduceEqDiff,Nat.reduceLT,reduceCtorEq,pairs,isConst,boxS,Edp,ZV.val,AS_new,dpW]
 intro w hw
 have hwb : w ≠ b := nd hw gb1 (by simp)
 generalize hσ2 : AHeap.set σ1 w _ = σ2
 have gw : σ2.get w = .cells [.slice none 0 0,.nilIface] true 0 := by rw [← hσ2]; exact AHeap.get_set_same _ _ _
 have k2 : Kept σ1 [] σ2 [w] := by rw [← hσ2]; exact Kept.new' hw
 have w2 : WRun σ2 w (runW emp []) [w] := ⟨_,[],gw,.inl ⟨rfl,rfl,rfl⟩,rfl,by simp⟩
 have z2 : leW (runW emp []) 0 := fun b hb => by injection hb with hb; subst hb; exact Nat.le_refl _
 clear gw hσ2
 refine specU16R (s := emp) w2 (fun b hb => by have := z2 b hb; omega) fun σ3 fp3 k3 w3 => ?_
 have z3 := leW_step (a := ⟨2,p.id,emp⟩) z2
 simp (disch := first | assumption | simp) only [↓sbD,sbU,↓reduceIte,Nat.reduceEqDiff,Nat.reduceLT]
 refine specRawR (n := 0) w3 (fun b hb => by have := z3 b hb; simp only [eml] at this; omega) (by omega) fun σ4 fp4 k4 w4 => ?_
 have z4 := leW_step (a := ⟨8,0,c⟩) z3
 have hs4 : stepW (stepW (runW emp []) [⟨2,p.id,emp⟩]) [⟨8,0,c⟩] = runW emp [⟨2,p.id,emp⟩,⟨8,0,c⟩] := by rw [stepW_app]; rfl
 rw [hs4] at w4 z4
 simp only [eml] at z4
 have K4 := k2.trans (k3.trans k4)
 generalize hR0 : runW emp [⟨2,p.id,emp⟩,⟨8,0,c⟩] = R0 at w4 z4
 by_cases hkk : p.kind = 10
 ·have hkT := eq_true hkk
  have hlenL := DLst.len d4
  have hfew := (And.intro hf.filts hf.filt)
  simp (disch := first | assumption | simp) only [↓sbD,sbU,tyB,↓reduceIte,Nat.reduceEqDiff,Nat.reduceLT,reduceCtorEq,isConst,hkT,hlenL]
  refine S_loop (fun m f σ' => ∃ (i : Nat) (fp : List Nat),m + i = p.filts.length ∧ f 47 = .int .i64 i ∧ WRun σ' w (stepW R0 ((p.filts.take i).flatMap filA)) fp ∧ leW (stepW R0 ((p.filts.take i).flatMap filA)) (29000 + 300 * i) ∧ Kept σ4 fp4 σ' fp) p.filts.length (Le.refl _) ⟨0,fp4,by omega,by simp (disch := first | assumption | simp) only [sbU,↓reduceIte]; rfl,by rw [List.take_zero]; simp only [List.flatMap_nil,stepW_nil]; exact w4,by rw [List.take_zero]; simp only [List.flatMap_nil,stepW_nil]; exact fun b hb => by have := z4 b hb; omega,Kept.refl _ _⟩ ?_
  rintro m f σ5 ⟨i,fp5,hm,fi,w5,z5,k5⟩ hf
  have f1 := hf 1 (by decide) (notMem_wr (by kernel_rfl))
  have f2 := hf 2 (by decide) (notMem_wr (by kernel_rfl))
  have f6 := hf 6 (by decide) (notMem_wr (by kernel_rfl))
  have f45 := hf 45 (by decide) (notMem_wr (by kernel_rfl))
  have f46 := hf 46 (by decide) (notMem_wr (by kernel_rfl))
  simp (disch := first | assumption | simp) only [sbU,↓reduceIte,Nat.reduceEqDiff] at f1 f2 f6 f45 f46
  clear hf
  by_cases hi : (i : Int) < (p.filts.length : Int)
  ·have hi' : i < p.filts.length := by omega
   have hia := DLst.at d4 hi'
   have hsz := hf.filt _ (List.getElem_mem hi')
   have hwi := wrap_suc (n := i) (by omega)
   have htk : p.filts.take (i + 1) = p.filts.take i ++ [p.filts[i]] := List.take_succ_eq_append_getElem hi'
   generalize p.filts[i] = y at hia htk hsz
   have hac : strC1 y = [.string y] := rfl
   have hst : stepW R0 ((p.filts.take (i + 1)).flatMap filA) = stepW (stepW R0 ((p.filts.take i).flatMap filA)) (filA y) := by
    rw [htk,List.flatMap_append,stepW_app]
    simp only [List.flatMap_cons,List.flatMap_nil,List.append_nil]
   simp (disch := first | assumption | simp) only [↓sbD,sbU,tyB,Bool.or_self,↓reduceIte,Nat.reduceEqDiff,Nat.reduceLT,isConst,f6,f45,f46,fi,hi,hia,hac]
   refine specTextR (n := 0) w5 (fun b hb => by have := z5 b hb; omega) (by omega) fun σ6 fp6 k6 w6 => ?_
   have z6 := leW_step (a := ⟨6,0,y⟩) z5
   simp only at z6
   simp (disch := first | assumption | simp) only [↓sbD,sbU,↓reduceIte,Nat.reduceEqDiff,Nat.reduceLT,isConst,fi,hwi]
   exact ⟨_,m - 1,_,rfl,by omega,Le.refl _,i + 1,_,by omega,by simp (disch := first | assumption | simp) only [sbU,↓reduceIte],by rw [hst]; exact w6,by rw [hst]; exact fun b hb => by have := z6 b hb; omega,k5.trans k6⟩
  ·obtain rfl : i = p.filts.length := by omega
   rw [List.take_length] at w5 z5
   have hR : stepW R0 (p.filts.flatMap filA) = runW emp (actsU p c) := by
    rw [← hR0,show runW emp [⟨2,p.id,emp⟩,⟨8,0,c⟩] = stepW (runW emp []) [⟨2,p.id,emp⟩,⟨8,0,c⟩] from rfl,stepW_app]
    unfold actsU
    rw [if_pos hkk]
    rfl
   rw [hR] at w5 z5
   have K5 := K4.trans k5
   have hl40 : p.filts.length ≤ 40 := hfew.1
   simp (disch := first | assumption | simp) only [↓sbD,sbU,decide_false,Bool.or_self,↓reduceIte,Nat.reduceEqDiff,Nat.reduceLT,isConst,f6,f46,fi,hi]
   refine specBytesR w5 (fun bb hbb => ?_) fun k q d z hr hd he => ?_
   ·have gbn := (K5.at gb1 (by simp) (by simp)).1
    have hle := z5 bb hbb
    simp (disch := first | assumption | simp) only [↓sbD,sbU,tyB,↓reduceIte,Nat.reduceEqDiff,Nat.reduceLT,reduceCtorEq,f1]
    refine specUFirst ?_
    simp (disch := first | assumption | simp) only [↓sbD,sbU,tyB,↓reduceIte,Nat.reduceEqDiff,Nat.reduceLT,Nat.reduceAdd,Nat.reduceLeDiff,pairs,isConst,splice,ZV.val,AS_new,zeFra]
    intro c hc
    have hcb : c ≠ b := nd hc gbn (by simp)
    generalize hσc : AHeap.set _ c _ = σc
    have kc : Kept σ5 [] σc [] := by rw [← hσc]; exact ((Kept.refl _ []).setD hc).setD hc
    have gc : σc.get c = .cells [.int .i64 (firstU p.kind),.string bb] true 0 := by rw [← hσc]; exact AHeap.get_set_same _ _ _
    clear hσc
    refine specUDec (by omega) (fun y hy v2 σd hv2 kd => ?_) fun k rr a hy σd d z kd hd he => ?_
    ·have gbd := ((kc.trans kd).at gbn (by simp) (by simp)).1
     have gcd := (kd.at gc (by simp) (by simp)).1
     simp (disch := first | assumption | simp) only [↓sbD,sbU,tyB,↓reduceIte,Nat.reduceEqDiff,Nat.reduceLT,Nat.reduceAdd,Nat.reduceLeDiff,isConst,splice,f2,gcd,gbd,res_cellc,resC_some]
     exact downS_here (hok (firstU p.kind,bb) (by unfold MadeR; rw [hbb]; exact ⟨_,hy,rfl⟩) _ ((k1.trans ((K5.wid (gp := []) (gp' := []) (fun _ h => by cases h) (fun _ h => by cases h)).trans (kc.trans kd))).setD hb))
    ·have gbd := ((kc.trans kd).at gbn (by simp) (by simp)).1
     simp (disch := first | assumption | simp) only [↓sbD,sbU,tyB,↓reduceIte,Nat.reduceEqDiff,Nat.reduceLT,Nat.reduceAdd,Nat.reduceLeDiff,pairs,isConst,splice,ZV.val,f2,gbd,res_cellc,resC_some]
     exact downS_here (hbad k rr a (by unfold MadeR; rw [hbb]; exact ⟨_,hy,rfl⟩) _ d z ((k1.trans ((K5.wid (gp := []) (gp' := []) (fun _ h => by cases h) (fun _ h => by cases h)).trans (kc.trans kd))).setD hb) hd he)
   ·have gbn := (K5.at gb1 (by simp) (by simp)).1
    simp (disch := first | assumption | simp) only [↓sbD,sbU,tyB,↓reduceIte,Nat.reduceEqDiff,Nat.reduceLT,reduceCtorEq,f1]
    refine specUFirst ?_
    simp (disch := first | assumption | simp) only [↓sbD,sbU,tyB,↓reduceIte,Nat.reduceEqDiff,Nat.reduceLT,Nat.reduceAdd,Nat.reduceLeDiff,pairs,isConst,splice,ZV.val,AS_new,zeFra]
    intro c hc
    have hcb : c ≠ b := nd hc gbn (by simp)
    have bc : ∀ (τ : AHeap) o,(AHeap.set τ c o).get b = τ.get b := fun τ o => AHeap.get_set_ne _ _ hcb
    simp (disch := first | assumption | simp) only [↓sbD,sbU,tyB,↓reduceIte,Nat.reduceEqDiff,Nat.reduceLT,Nat.reduceAdd,Nat.reduceLeDiff,splice,f2,bc,gbn,res_cellc,resC_some]
    exact downS_here (hbad k 129 q (by unfold MadeR; rw [hr]) _ d z ((k1.trans ((K5.wid (gp := []) (gp' := []) (fun _ h => by cases h) (fun _ h => by cases h)).trans (((Kept.refl _ []).setD hc).setD hc))).setD hb) (by omega) he)
 ·have hkT := eq_false hkk
  have hlenL := DLi.len d5
  have hfew := (And.intro hf.codes trivial : p.codes.length ≤ 40 ∧ True)
  simp (disch := first | assumption | simp) only [↓sbD,sbU,tyB,decide_false,↓reduceIte,Nat.reduceEqDiff,Nat.reduceLT,reduceCtorEq,isConst,hkT,hlenL]
  refine S_loop (fun m f σ' => ∃ (i : Nat) (fp : List Nat),m + i = p.codes.length ∧ f 58 = .int .i64 i ∧ WRun σ' w (stepW R0 ((p.codes.take i).flatMap codA)) fp ∧ leW (stepW R0 ((p.codes.take i).flatMap codA)) (29000 + 300 * i) ∧ Kept σ4 fp4 σ' fp) p.codes.length (Le.refl _) ⟨0,fp4,by omega,by simp (disch := first | assumption | simp) only [sbU,↓reduceIte]; rfl,by rw [List.take_zero]; simp only [List.flatMap_nil,stepW_nil]; exact w4,by rw [List.take_zero]; simp only [List.flatMap_nil,stepW_nil]; exact fun b hb => by have := z4 b hb; omega,Kept.refl _ _⟩ ?_
  rintro m f σ5 ⟨i,fp5,hm,fi,w5,z5,k5⟩ hf
  have f1 := hf 1 (by decide) (notMem_wr (by kernel_rfl))
  have f2 := hf 2 (by decide) (notMem_wr (by kernel_rfl))
  have f6 := hf 6 (by decide) (notMem_wr (by kernel_rfl))
  have f56 := hf 56 (by decide) (notMem_wr (by kernel_rfl))
  have f57 := hf 57 (by decide) (notMem_wr (by kernel_rfl))
  simp (disch := first | assumption | simp) only [sbU,↓reduceIte,Nat.reduceEqDiff] at f1 f2 f6 f56 f57
  clear hf
  by_cases hi : (i : Int) < (p.codes.length : Int)
  ·have hi' : i < p.codes.length := by omega
   have hia := DLi.at d5 hi'
   skip
   have hwi := wrap_suc (n := i) (by omega)
   have htk : p.codes.take (i + 1) = p.codes.take i ++ [p.codes[i]] := List.take_succ_eq_append_getElem hi'
   generalize p.codes[i] = y at hia htk
   have hac : intC y = [.int .i64 y] := rfl
   have hst : stepW R0 ((p.codes.take (i + 1)).flatMap codA) = stepW (stepW R0 ((p.codes.take i).flatMap codA)) (codA y) := by
    rw [htk,List.flatMap_append,stepW_app]
    simp only [List.flatMap_cons,List.flatMap_nil,List.append_nil]
   simp (disch := first | assumption | simp) only [↓sbD,sbU,tyB,Bool.or_self,↓reduceIte,Nat.reduceEqDiff,Nat.reduceLT,isConst,f6,f56,f57,fi,hi,hia,hac]
   refine specU8R (s := emp) w5 (fun b hb => by have := z5 b hb; omega) fun σ6 fp6 k6 w6 => ?_
   have z6 := leW_step (a := ⟨1,y,emp⟩) z5
   simp only [eml] at z6
   simp (disch := first | assumption | simp) only [↓sbD,sbU,↓reduceIte,Nat.reduceEqDiff,Nat.reduceLT,isConst,fi,hwi]
   exact ⟨_,m - 1,_,rfl,by omega,Le.refl _,i + 1,_,by omega,by simp (disch := first | assumption | simp) only [sbU,↓reduceIte],by rw [hst]; exact w6,by rw [hst]; exact fun b hb => by have := z6 b hb; omega,k5.trans k6⟩
  ·obtain rfl : i = p.codes.length := by omega
   rw [List.take_length] at w5 z5
   have hR : stepW R0 (p.codes.flatMap codA) = runW emp (actsU p c) := by
    rw [← hR0,show runW emp [⟨2,p.id,emp⟩,⟨8,0,c⟩] = stepW (runW emp []) [⟨2,p.id,emp⟩,⟨8,0,c⟩] from rfl,stepW_app]
    unfold actsU
    rw [if_neg hkk]
    rfl
   rw [hR] at w5 z5
   have K5 := K4.trans k5
   have hl40 : p.codes.length ≤ 40 := hfew.1
   simp (disch := first | assumption | simp) only [↓sbD,sbU,decide_false,Bool.or_self,↓reduceIte,Nat.reduceEqDiff,Nat.reduceLT,isConst,f6,f57,fi,hi]
   refine specBytesR w5 (fun bb hbb => ?_) fun k q d z hr hd he => ?_
   ·have gbn := (K5.at gb1 (by simp) (by simp)).1
    have hle := z5 bb hbb
    simp (disch := first | assumption | simp) only [↓sbD,sbU,tyB,↓reduceIte,Nat.reduceEqDiff,Nat.reduceLT,reduceCtorEq,f1]
    refine specUFirst ?_
    simp (disch := first | assumption | simp) only [↓sbD,sbU,tyB,↓reduceIte,Nat.reduceEqDiff,Nat.reduceLT,Nat.reduceAdd,Nat.reduceLeDiff,pairs,isConst,splice,ZV.val,AS_new,zeFra]
    intro c hc
    have hcb : c ≠ b := nd hc gbn (by simp)
    generalize hσc : AHeap.set _ c _ = σc
    have kc : Kept σ5 [] σc [] := by rw [← hσc]; exact ((Kept.refl _ []).setD hc).setD hc
    have gc : σc.get c = .cells [.int .i64 (firstU p.kind),.string bb] true 0 := by rw [← hσc]; exact AHeap.get_set_same _ _ _
    clear hσc
    refine specUDec (by omega) (fun y hy v2 σd hv2 kd => ?_) fun k rr a hy σd d z kd hd he => ?_
    ·have gbd := ((kc.trans kd).at gbn (by simp) (by simp)).1
     have gcd := (kd.at gc (by simp) (by simp)).1
     simp (disch := first | assumption | simp) only [↓sbD,sbU,tyB,↓reduceIte,Nat.reduceEqDiff,Nat.reduceLT,Nat.reduceAdd,Nat.reduceLeDiff,isConst,splice,f2,gcd,gbd,res_cellc,resC_some]
     exact downS_here (hok (firstU p.kind,bb) (by unfold MadeR; rw [hbb]; exact ⟨_,hy,rfl⟩) _ ((k1.trans ((K5.wid (gp := []) (gp' := []) (fun _ h => by cases h) (fun _ h => by cases h)).trans (kc.trans kd))).setD hb))
    ·have gbd := ((kc.trans kd).at gbn (by simp) (by simp)).1
     simp (disch := first | assumption | simp) only [↓sbD,sbU,tyB,↓reduceIte,Nat.reduceEqDiff,Nat.reduceLT,Nat.reduceAdd,Nat.reduceLeDiff,pairs,isConst,splice,ZV.val,f2,gbd,res_cellc,resC_some]
     exact downS_here (hbad k rr a (by unfold MadeR; rw [hbb]; exact ⟨_,hy,rfl⟩) _ d z ((k1.trans ((K5.wid (gp := []) (gp' := []) (fun _ h => by cases h) (fun _ h => by cases h)).trans (kc.trans kd))).setD hb) hd he)
   ·have gbn := (K5.at gb1 (by simp) (by simp)).1
    simp (disch := first | assumption | simp) only [↓sbD,sbU,tyB,↓reduceIte,Nat.reduceEqDiff,Nat.reduceLT,reduceCtorEq,f1]
    refine specUFirst ?_
    simp (disch := first | assumption | simp) only [↓sbD,sbU,tyB,↓reduceIte,Nat.reduceEqDiff,Nat.reduceLT,Nat.reduceAdd,Nat.reduceLeDiff,pairs,isConst,splice,ZV.val,AS_new,zeFra]
    intro c hc
    have hcb : c ≠ b := nd hc gbn (by simp)
    have bc : ∀ (τ : AHeap) o,(AHeap.set τ c o).get b = τ.get b := fun τ o => AHeap.get_set_ne _ _ hcb
    simp (disch := first | assumption | simp) only [↓sbD,sbU,tyB,↓reduceIte,Nat.reduceEqDiff,Nat.reduceLT,Nat.reduceAdd,Nat.reduceLeDiff,splice,f2,bc,gbn,res_cellc,resC_some]
    exact downS_here (hbad k 129 q (by unfold MadeR; rw [hr]) _ d z ((k1.trans ((K5.wid (gp := []) (gp' := []) (fun _ h => by cases h) (fun _ h => by cases h)).trans (((Kept.refl _ []).setD hc).setD hc))).setD hb) (by omega) he)
end
section
variable {σ : AHeap} {Q : Value → AHeap → Prop} {r q p : Nat} {s : ByteArray}
theorem specDId (hr : IsY σ r s 0 0 0) (hs : s.size ≤ 100000000)
  (hok : ∀ id q,numR s 0 2 = .ok (id,q) → id ≠ 0 → ∀ σ',Kept σ [r] σ' [r] → IsY σ' r s q 0 0 → Q (.tuple #[.int .i64 (id : Int),flt 0 0 0]) σ')
  (hz : ∀ q,numR s 0 2 = .ok (0,q) → ∀ σ',Kept σ [r] σ' [r] → Q (.tuple #[.int .i64 0,flt 3 130 0]) σ')
  (hbad : ∀ k q,numR s 0 2 = .error (k,q) → k ≠ 0 → ∀ σ',Kept σ [r] σ' [r] → Q (.tuple #[.int .i64 0,flt k 129 q]) σ') :
  CallS E B 142 [.pointer (some ⟨r,0,none⟩)] σ Q := by
 refine call142 (by simp) ?_
 simp only [strip,bodyOf,Tryz.f142,getD_body,keepN,bareOp_mk,List.map_cons,List.map_nil,↓reduceIte,Bool.false_eq_true]
 simp only [↓sbD,sbU,↓reduceIte,Nat.reduceLT,reduceCtorEq,AS_new,zeFlt]
 intro c hc
 have hcr : c ≠ r := nd hc hr (by simp)
 generalize hσ1 : AHeap.set σ c _ = σ1
 have k1 : Kept σ [r] σ1 [r] := by rw [← hσ1]; exact (Kept.refl σ [r]).setD hc
 have gc1 : σ1.get c = .cells [.int .i64 0,.int .i64 0,.int .i64 0] true 0 := by rw [← hσ1]; exact AHeap.get_set_same _ _ _
 have i1 : IsY σ1 r s 0 0 0 := by rw [← hσ1]; unfold IsY; rw [AHeap.get_set_ne _ _ hcr]; exact hr
 clear hσ1
 refine specYU16 i1 (Nat.zero_le _) (by omega) (fun id q hid σ2 k2 i2 => ?_) fun k q hid σ2 k2 i2 => ?_
 ·have gc2 := (k2.at gc1 (by simp) (by simpa using hcr)).1
  have i2' := i2
  unfold IsY at i2'
  by_cases h0 : id = 0
  ·subst h0
   simp only [↓sbD,sbU,tyB,decide_false,↓reduceIte,Nat.reduceEqDiff,Nat.reduceLT,reduceCtorEq,isConst,i2',show ((0 : Nat) : Int) = 0 from rfl]
   refine specKAgainst (n := 0) ?_
   simp only [↓sbD,sbU,tyB,↓reduceIte,Nat.reduceEqDiff,Nat.reduceLT,Nat.reduceAdd,Nat.reduceLeDiff,splice,gc2,res_cellc,resC_some]
   exact downS_here (hz q hid _ ((k1.trans k2).setD hc))
  ·have h0' : ¬ (id : Int) = 0 := by omega
   simp only [↓sbD,sbU,tyB,decide_false,↓reduceIte,Nat.reduceEqDiff,Nat.reduceLT,Nat.reduceAdd,Nat.reduceLeDiff,reduceCtorEq,pairs,isConst,splice,ZV.val,i2',h0',gc2,res_cellc,resC_some]
   exact downS_here (hok id q hid h0 _ ((k1.trans k2).setD hc) (by unfold IsY; rw [AHeap.get_set_ne _ _ hcr]; exact i2))
 ·have hk := numR_k hid
  have hk0 : ¬ (k : Int) = 0 := by omega
  have gc2 := (k2.at gc1 (by simp) (by simpa using hcr)).1
  have i2' := i2
  unfold IsY at i2'
  simp only [↓sbD,sbU,tyB,↓reduceIte,Nat.reduceLT,reduceCtorEq,isConst,i2',hk0]
  refine specKOfE hk i2 (Nat.zero_le _) ?_
  simp only [↓sbD,sbU,tyB,↓reduceIte,Nat.reduceEqDiff,Nat.reduceLT,Nat.reduceAdd,Nat.reduceLeDiff,splice,gc2,res_cellc,resC_some]
  exact downS_here (hbad k q hid hk _ ((k1.trans k2).setD hc))
theorem specDCodes {kind : Int} (hr : IsY σ r s p 0 0) (hp : p ≤ s.size) (hs : s.size ≤ 100000000)
  (hok : ∀ l,Parts s.size (codeO kind s) p [] (.ok l) → ∀ v σ',DL intC 1 v l → Kept σ [r] σ' [r] → Q (.tuple #[v,flt 0 0 0]) σ')
  (hbad : ∀ k rr a : Nat,Parts s.size (codeO kind s) p [] (.error (k,rr,a)) → k ≠ 0 → ∀ σ',Kept σ [r] σ' [r] → Q (.tuple #[.slice none 0 0,flt k rr a]) σ') :
  CallS E B 143 [.pointer (some ⟨r,0,none⟩),.int .i64 kind] σ Q := by
 refine call143 (by simp) ?_
 simp only [strip,bodyOf,Tryz.f143,getD_body,keepN,bareOp_mk,List.map_cons,List.map_nil,↓reduceIte,Bool.false_eq_true]
 simp only [↓sbD,sbU,AS_new,zeFlt]
 intro c hc
 have hcr : c ≠ r := nd hc hr (by simp)
 generalize hσ1 : AHeap.set σ c _ = σ1
 have k1 : Kept σ [r] σ1 [r] := by rw [← hσ1]; exact (Kept.refl σ [r]).setD hc
 have gc1 : σ1.get c = .cells [.int .i64 0,.int .i64 0,.int .i64 0] true 0 := by rw [← hσ1]; exact AHeap.get_set_same _ _ _
 have i1 : IsY σ1 r s p 0 0 := by rw [← hσ1]; unfold IsY; rw [AHeap.get_set_ne _ _ hcr]; exact hr
 clear hσ1
 refine S_loop (fun m f σ' => ∃ (p' : Nat) (l : List Int) (v : Value) (fp : List Nat),m + l.length = 32 ∧ p' ≤ s.size ∧ f 6 = v ∧ DG intC 1 σ' v l fp ∧ IsY σ' r s p' 0 0 ∧ Kept σ1 [r] σ' (r :: fp) ∧ ∀ R,Parts s.size (codeO kind s) p' l R → Parts s.size (codeO kind s) p [] R) 32 (Le.refl _) ⟨p,[],_,[],rfl,hp,rfl,by simp only [sbU,↓reduceIte]; exact DG.nil,i1,Kept.refl _ _,fun R h => h⟩ ?_
 rintro m f σ2 ⟨p',l,v,fp,hm,hp',fl,hg,i2,k2,hback⟩ hf
 have f0 := hf 0 (by decide) (notMem_wr (by kernel_rfl))
 have f1 := hf 1 (by decide) (notMem_wr (by kernel_rfl))
 have f5 := hf 5 (by decide) (notMem_wr (by kernel_rfl))
 simp only [sbU,↓reduceIte,Nat.reduceEqDiff,reduceCtorEq] at f0 f1 f5
 clear hf
 have hlen := DLi.len hg.dl
 have gc2 := (k2.at gc1 (by simp) (by simpa using hcr)).1
 have hrf := hg.nin i2
 have hcf := hg.nin gc2
 have K2 : Kept σ [r] σ2 [r] := k1.trans (k2.wid (fun _ h => h) (fun b h => by simp only [List.mem_cons,List.not_mem_nil,or_false] at h; exact .inr (by simp [h])))
 have i2' := i2
 unfold IsY at i2'
 by_cases hlt : p' < s.size
 ·have h0 : (p' : Int) < (s.size : Int) := by omega
  by_cases h32 : l.length = 32
  ·have h32' : (l.length : Int) = 32 := by omega
   simp only [↓sbD,sbU,tyB,Bool.or_self,↓reduceIte,Nat.reduceEqDiff,Nat.reduceLT,Nat.reduceAdd,Nat.reduceLeDiff,reduceCtorEq,goInt,pairs,isConst,splice,ZV.val,f0,f5,fl,i2',h0,hlen,h32',gc2,res_cellc,resC_some]
   exact downS_here (hbad 4 149 p' (hback _ (.many hlt h32)) (by omega) _ (K2.setD hc))
  ·have h32' : ¬ (l.length : Int) = 32 := by omega
   simp only [↓sbD,sbU,tyB,decide_false,Bool.or_self,↓reduceIte,Nat.reduceEqDiff,Nat.reduceLT,reduceCtorEq,goInt,isConst,f0,fl,i2',h0,hlen,h32']
   obtain ⟨n,hn⟩ := numR_one hlt
   refine specYU8 i2 hp' (by omega) (fun n' q hn' σ3 k3 i3 => ?_) fun k q hn' σ3 k3 i3 => by rw [hn] at hn'; cases hn'
   rw [hn] at hn'
   simp only [Except.ok.injEq,Prod.mk.injEq] at hn'
   obtain ⟨rfl,rfl⟩ := hn'
   have gc3 := (k3.at gc2 (by simp) (by simpa using hcr)).1
   simp only [↓sbD,sbU,↓reduceIte,Nat.reduceEqDiff,Nat.reduceLT,f1]
   refine specAlwC ?_
   cases ha : alw kind (n : Int) with
   | false =>
    simp only [↓sbD,sbU,↓reduceIte,Nat.reduceEqDiff,Nat.reduceLT,not_bool]
    refine specKBad (n := p') ?_
    simp only [↓sbD,sbU,tyB,↓reduceIte,Nat.reduceEqDiff,Nat.reduceLT,Nat.reduceAdd,Nat.reduceLeDiff,splice,f5,gc3,res_cellc,resC_some]
    exact downS_here (hbad 2 129 p' (hback _ (.bad hlt h32 (by unfold codeO; rw [hn]; simp only [ha,Bool.false_eq_true,if_false]))) (by omega) _ ((K2.trans k3).setD hc))
   | true =>
    simp only [↓sbD,sbU,tyB,Nat.reduceBneDiff,decide_false,gt_iff_lt,Bool.or_self,Bool.false_eq_true,Nat.mul_one,↓reduceIte,Nat.reduceEqDiff,Nat.reduceLT,Nat.reduceLeDiff,reduceCtorEq,pairs,splice,Edp,dpv,ZV.val,not_bool]
    have hg3 := hg.kept k3 (fun b hb hm => hrf (by obtain rfl := List.mem_singleton.1 hm; exact hb))
    simp only [fl]
    refine app_in (xs := [(n : Int)]) hg3 (.inr ⟨1,rfl⟩) (by simp only [List.length_cons,List.length_nil]; omega) fun σ4 v4 fp4 k4 g4 => ?_
    have i4 := (k4.at i3 (by simp) hrf).1
    simp only [↓sbD,sbU,↓reduceIte,Nat.reduceLT]
    refine ⟨_,m - 1,σ4,rfl,by omega,Le.refl _,p' + 1,l ++ [(n : Int)],v4,fp4,by rw [List.length_append]; simp only [List.length_cons,List.length_nil]; omega,by omega,rfl,g4,i4,?_,fun R h => hback R (.step hlt h32 (by unfold codeO; rw [hn]; simp only [ha,if_true]) h)⟩
    exact (k2.trans (k3.wid (gp := r :: fp) (gp' := r :: fp) (fun b hb => by simp at hb; simp [hb]) (fun b hb => .inr hb))).trans (k4.wid (gp := r :: fp) (gp' := r :: fp4) (fun b hb => by simp [hb]) (fun b hb => by simp only [List.mem_cons] at hb ⊢; rcases hb with hb | hb <;> simp [hb]))
 ·have h0 : ¬ (p' : Int) < (s.size : Int) := by omega
  by_cases hn : l = []
  ·subst hn
   simp only [↓sbD,sbU,tyB,decide_false,Bool.or_self,↓reduceIte,Nat.reduceEqDiff,Nat.reduceLT,reduceCtorEq,goInt,isConst,f0,fl,i2',h0,hlen,show ((0 : Nat) : Int) = 0 from rfl]
   refine specKAgainst (n := p') ?_
   simp only [↓sbD,sbU,tyB,↓reduceIte,Nat.reduceEqDiff,Nat.reduceLT,Nat.reduceAdd,Nat.reduceLeDiff,splice,f5,gc2,res_cellc,resC_some]
   exact downS_here (hbad 3 130 p' (hback _ (.none (by omega))) (by omega) _ (K2.setD hc))
  ·have hn' : ¬ (l.length : Int) = 0 := fun h => hn (List.length_eq_zero_iff.1 (by omega))
   simp only [↓sbD,sbU,tyB,decide_false,Bool.or_self,↓reduceIte,Nat.reduceEqDiff,Nat.reduceLT,Nat.reduceAdd,Nat.reduceLeDiff,reduceCtorEq,goInt,pairs,isConst,splice,ZV.val,f0,f5,fl,i2',h0,hlen,hn',gc2,res_cellc,resC_some]
   exact downS_here (hok l (hback _ (.done (by omega) hn)) v _ hg.dl (K2.setD hc))
theorem specDFil  (hr : IsY σ r s p 0 0) (hp : p ≤ s.size) (hs : s.size ≤ 100000000)
  (hok : ∀ l,Parts s.size (filO s) p [] (.ok l) → ∀ v σ',DL strC1 1 v l → Kept σ [r] σ' [r] → Q (.tuple #[v,flt 0 0 0]) σ')
  (hbad : ∀ k rr a : Nat,Parts s.size (filO s) p [] (.error (k,rr,a)) → k ≠ 0 → ∀ σ',Kept σ [r] σ' [r] → Q (.tuple #[.slice none 0 0,flt k rr a]) σ') :
  CallS E B 144 [.pointer (some ⟨r,0,none⟩)] σ Q := by
 refine call144 (by simp) ?_
 simp only [strip,bodyOf,Tryz.f144,getD_body,keepN,bareOp_mk,List.map_cons,List.map_nil,↓reduceIte,Bool.false_eq_true]
 simp only [↓sbD,sbU,AS_new,zeFlt]
 intro c hc
 have hcr : c ≠ r := nd hc hr (by simp)
 generalize hσ1 : AHeap.set σ c _ = σ1
 have k1 : Kept σ [r] σ1 [r] := by rw [← hσ1]; exact (Kept.refl σ [r]).setD hc
 have gc1 : σ1.get c = .cells [.int .i64 0,.int .i64 0,.int .i64 0] true 0 := by rw [← hσ1]; exact AHeap.get_set_same _ _ _
 have i1 : IsY σ1 r s p 0 0 := by rw [← hσ1]; unfold IsY; rw [AHeap.get_set_ne _ _ hcr]; exact hr
 clear hσ1
 refine S_loop (fun m f σ' => ∃ (p' : Nat) (l : List ByteArray) (v : Value) (fp : List Nat),m + l.length = 32 ∧ p' ≤ s.size ∧ f 4 = v ∧ DG strC1 1 σ' v l fp ∧ IsY σ' r s p' 0 0 ∧ Kept σ1 [r] σ' (r :: fp) ∧ ∀ R,Parts s.size (filO s) p' l R → Parts s.size (filO s) p [] R) 32 (Le.refl _) ⟨p,[],_,[],rfl,hp,rfl,by simp only [sbU,↓reduceIte]; exact DG.nil,i1,Kept.refl _ _,fun R h => h⟩ ?_
 rintro m f σ2 ⟨p',l,v,fp,hm,hp',fl,hg,i2,k2,hback⟩ hf
 have f0 := hf 0 (by decide) (notMem_wr (by kernel_rfl))
 have f3 := hf 3 (by decide) (notMem_wr (by kernel_rfl))
 simp only [sbU,↓reduceIte,Nat.reduceEqDiff,reduceCtorEq] at f0 f3
 clear hf
 have hlen := DLst.len hg.dl
 have gc2 := (k2.at gc1 (by simp) (by simpa using hcr)).1
 have hrf := hg.nin i2
 have hcf := hg.nin gc2
 have K2 : Kept σ [r] σ2 [r] := k1.trans (k2.wid (fun _ h => h) (fun b h => by simp only [List.mem_cons,List.not_mem_nil,or_false] at h; exact .inr (by simp [h])))
 have i2' := i2
 unfold IsY at i2'
 by_cases hlt : p' < s.size
 ·have h0 : (p' : Int) < (s.size : Int) := by omega
  by_cases h32 : l.length = 32
  ·have h32' : (l.length : Int) = 32 := by omega
   simp only [↓sbD,sbU,tyB,Bool.or_self,↓reduceIte,Nat.reduceEqDiff,Nat.reduceLT,Nat.reduceAdd,Nat.reduceLeDiff,reduceCtorEq,goInt,pairs,isConst,splice,ZV.val,f0,f3,fl,i2',h0,hlen,h32',gc2,res_cellc,resC_some]
   exact downS_here (hbad 4 149 p' (hback _ (.many hlt h32)) (by omega) _ (K2.setD hc))
  ·have h32' : ¬ (l.length : Int) = 32 := by omega
   simp only [↓sbD,sbU,tyB,decide_false,Bool.or_self,↓reduceIte,Nat.reduceEqDiff,Nat.reduceLT,reduceCtorEq,goInt,isConst,f0,fl,i2',h0,hlen,h32']
   refine specYText i2 hp' (by omega) (fun x q hx σ3 k3 i3 => ?_) fun k q hx σ3 k3 i3 => ?_
   ·have hq := textR_ok hx
    have i3' := i3
    unfold IsY at i3'
    simp only [↓sbD,sbU,tyB,Nat.reduceBneDiff,decide_false,gt_iff_lt,Bool.or_self,Bool.false_eq_true,Nat.mul_one,↓reduceIte,Nat.reduceEqDiff,Nat.reduceLT,Nat.reduceLeDiff,reduceCtorEq,pairs,isConst,splice,Edp,dpv,ZV.val,f0,i3']
    have hg3 := hg.kept k3 (fun b hb hm => hrf (by obtain rfl := List.mem_singleton.1 hm; exact hb))
    simp only [fl]
    refine app_st (xs := [x]) hg3 (.inr ⟨1,rfl⟩) (by simp only [List.length_cons,List.length_nil]; omega) fun σ4 v4 fp4 k4 g4 => ?_
    have i4 := (k4.at i3 (by simp) hrf).1
    simp only [↓sbD,sbU,↓reduceIte,Nat.reduceLT]
    refine ⟨_,m - 1,σ4,rfl,by omega,Le.refl _,q,l ++ [x],v4,fp4,by rw [List.length_append]; simp only [List.length_cons,List.length_nil]; omega,hq.2,rfl,g4,i4,?_,fun R h => hback R (.step hlt h32 (by unfold filO; rw [hx]) h)⟩
    exact (k2.trans (k3.wid (gp := r :: fp) (gp' := r :: fp) (fun b hb => by simp at hb; simp [hb]) (fun b hb => .inr hb))).trans (k4.wid (gp := r :: fp) (gp' := r :: fp4) (fun b hb => by simp [hb]) (fun b hb => by simp only [List.mem_cons] at hb ⊢; rcases hb with hb | hb <;> simp [hb]))
   ·have hk := textR_k hx
    have hk0 : ¬ (k : Int) = 0 := by omega
    have i3' := i3
    unfold IsY at i3'
    have gc3 := (k3.at gc2 (by simp) (by simpa using hcr)).1
    simp only [↓sbD,sbU,tyB,↓reduceIte,Nat.reduceLT,reduceCtorEq,isConst,f0,i3',hk0]
    refine specKOfE hk i3 hp' ?_
    simp only [↓sbD,sbU,tyB,↓reduceIte,Nat.reduceEqDiff,Nat.reduceLT,Nat.reduceAdd,Nat.reduceLeDiff,splice,f3,gc3,res_cellc,resC_some]
    exact downS_here (hbad k 129 q (hback _ (.bad hlt h32 (by unfold filO; rw [hx]))) hk _ ((K2.trans k3).setD hc))
 ·have h0 : ¬ (p' : Int) < (s.size : Int) := by omega
  by_cases hn : l = []
  ·subst hn
   simp only [↓sbD,sbU,tyB,decide_false,Bool.or_self,↓reduceIte,Nat.reduceEqDiff,Nat.reduceLT,reduceCtorEq,goInt,isConst,f0,fl,i2',h0,hlen,show ((0 : Nat) : Int) = 0 from rfl]
   refine specKAgainst (n := p') ?_
   simp only [↓sbD,sbU,tyB,↓reduceIte,Nat.reduceEqDiff,Nat.reduceLT,Nat.reduceAdd,Nat.reduceLeDiff,splice,f3,gc2,res_cellc,resC_some]
   exact downS_here (hbad 3 130 p' (hback _ (.none (by omega))) (by omega) _ (K2.setD hc))
  ·have hn' : ¬ (l.length : Int) = 0 := fun h => hn (List.length_eq_zero_iff.1 (by omega))
   simp only [↓sbD,sbU,tyB,decide_false,Bool.or_self,↓reduceIte,Nat.reduceEqDiff,Nat.reduceLT,Nat.reduceAdd,Nat.reduceLeDiff,reduceCtorEq,goInt,pairs,isConst,splice,ZV.val,f0,f3,fl,i2',h0,hlen,hn',gc2,res_cellc,resC_some]
   exact downS_here (hok l (hback _ (.done (by omega) hn)) v _ hg.dl (K2.setD hc))
end
end Go.Proofs.YtonmjhdcijibgaaGreatDoor.AbsA
