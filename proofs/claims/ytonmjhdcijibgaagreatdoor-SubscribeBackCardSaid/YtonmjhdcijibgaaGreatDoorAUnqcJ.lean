/-
  Parts of a law's proof.
-/
import Derived.Test.YtonmjhdcijibgaaGreatDoorAApqbJ
namespace Go.Proofs.YtonmjhdcijibgaaGreatDoor.AbsB
open Go AbsYtonmjhdcijibgaaGreatDoor Abs
set_option maxRecDepth 100000
set_option maxHeartbeats 8000000
set_option linter.unusedSimpArgs false
set_option linter.unusedVariables false
attribute [local irreducible] afterS afterOpS opSK OpsS TrS CodeS condS condW thenS thenQ guardS guardTS outS drawS trSK consS
theorem IsR.kept {σ σ' : AHeap} {r p : Nat} {s : ByteArray} {e : Value} {gp gp' : List Nat} (h : IsR σ r s p e) (k : Kept σ gp σ' gp') (hd : r ∉ gp) : IsR σ' r s p e := (k.at h (by simp) hd).1
theorem DG.nin {α : Type} {enc : α → List Value} {sz : Nat} {σ : AHeap} {v : Value} {l : List α} {fp : List Nat} {b z : Nat} {x : Value} {cs : List Value} {w : Bool} (h : DG enc sz σ v l fp) (hg : σ.get b = .cells (x :: cs) w z) : b ∉ fp := by
 rcases h with ⟨_,_,rfl⟩ | ⟨m,_,⟨_,rfl⟩ | ⟨t,_,h4,rfl⟩⟩
 ·simp
 ·simp
 ·intro hb
  obtain rfl := List.mem_singleton.1 hb
  rw [h4] at hg; cases hg
section
variable {σ : AHeap} {Q : Value → AHeap → Prop} {r q p : Nat} {s : ByteArray}
end
theorem Kept.add {σ σ' : AHeap} {fp fp' : List Nat} {y : Nat} {o : AObj} (k : Kept σ fp σ' fp') (hy : σ'.get y = .dead) : Kept σ fp (σ'.set y o) (y :: fp') where
 get b hb hn := by
  by_cases h : b = y
  ·subst h
   have := k.get b hb hn
   rw [hy] at this
   exact absurd this.symm hb
  ·rw [AHeap.get_set_ne _ _ (Ne.symm h)]; exact k.get b hb hn
 new b hb := by
  rcases List.mem_cons.1 hb with rfl | hb
  ·by_cases h1 : σ.get b = .dead
   ·exact .inr h1
   ·by_cases h2 : b ∈ fp
    ·exact .inl h2
    ·have := k.get b h1 h2
     rw [hy] at this
     exact absurd this.symm h1
  ·exact k.new b hb
section
variable {σ : AHeap} {Q : Value → AHeap → Prop} {r q p : Nat} {s : ByteArray}
end
section
variable {σ : AHeap} {Q : Value → AHeap → Prop}
end
end Go.Proofs.YtonmjhdcijibgaaGreatDoor.AbsB
namespace Go.Proofs.YtonmjhdcijibgaaGreatDoor.AbsB
open Go AbsYtonmjhdcijibgaaGreatDoor Abs
set_option maxRecDepth 100000
set_option maxHeartbeats 4000000
set_option linter.unusedSimpArgs false
set_option linter.unusedVariables false
theorem partsBack {α : Type} {sz : Nat} {one : Nat → Except E3 (α × Nat)} {l : List α} {pos : Nat → Nat} (h0 : pos l.length = sz) (hlt : ∀ i,i < l.length → pos i < sz)
  (hone : ∀ i (hi : i < l.length),one (pos i) = .ok (l[i],pos (i + 1)) ∨ ∃ e,one (pos i) = .error e) : ∀ k i,i + k = l.length → ∀ r,Parts sz one (pos i) (l.take i) r → ∀ c,r = .ok c → c = l
 | 0,i,hi,r,h,c,hr => by
  obtain rfl : i = l.length := by omega
  rw [List.take_length,h0] at h
  subst hr
  cases h with
  | done _ _ => rfl
  | step h1 _ _ _ => omega
 | k + 1,i,hi,r,h,c,hr => by
  have hi' : i < l.length := by omega
  have hl := hlt i hi'
  subst hr
  generalize hp : pos i = p at h hl
  generalize hk : l.take i = t at h
  cases h with
  | done h1 _ => omega
  | step h1 h2 h3 h4 =>
   subst hp hk
   rcases hone i hi' with g | ⟨e,g⟩
   ·rw [g] at h3
    simp only [Except.ok.injEq,Prod.mk.injEq] at h3
    obtain ⟨rfl,rfl⟩ := h3
    rw [← List.take_succ_eq_append_getElem hi'] at h4
    exact partsBack h0 hlt hone k (i + 1) (by omega) _ h4 c rfl
   ·rw [g] at h3; cases h3
theorem partsFwd {α : Type} {sz : Nat} {one : Nat → Except E3 (α × Nat)} {l : List α} {pos : Nat → Nat} (h0 : pos l.length = sz) (hlt : ∀ i,i < l.length → pos i < sz) (hn : l ≠ []) (h32 : l.length ≤ 32)
  (hone : ∀ i (hi : i < l.length),one (pos i) = .ok (l[i],pos (i + 1))) : ∀ k i,i + k = l.length → Parts sz one (pos i) (l.take i) (.ok l)
 | 0,i,hi => by
  obtain rfl : i = l.length := by omega
  rw [List.take_length,h0]
  exact .done (Nat.le_refl _) hn
 | k + 1,i,hi => by
  have hi' : i < l.length := by omega
  refine .step (hlt i hi') (by rw [List.length_take]; omega) (hone i hi') ?_
  rw [← List.take_succ_eq_append_getElem hi']
  exact partsFwd h0 hlt hn h32 hone k (i + 1) (by omega)
theorem Parts.inv {α : Type} {sz : Nat} {one : Nat → Except E3 (α × Nat)} (P : α → Prop) (hP : ∀ p x q,one p = .ok (x,q) → P x) {p : Nat} {l : List α} {r : Except E3 (List α)} (h : Parts sz one p l r) : l.length ≤ 32 → (∀ x ∈ l,P x) → ∀ c,r = .ok c → c ≠ [] ∧ c.length ≤ 32 ∧ ∀ x ∈ c,P x := by
 induction h with
 | done h hl => intro h1 h2 c hc; injection hc with hc; subst hc; exact ⟨hl,h1,h2⟩
 | none h => intro h1 h2 c hc; cases hc
 | many h hl => intro h1 h2 c hc; cases hc
 | bad h hl ho => intro h1 h2 c hc; cases hc
 | step h hl ho hr ih =>
  intro h1 h2
  refine ih (by rw [List.length_append]; simp only [List.length_cons,List.length_nil]; omega) fun y hy => ?_
  rcases List.mem_append.1 hy with hy | hy
  ·exact h2 y hy
  ·simp only [List.mem_cons,List.not_mem_nil,or_false] at hy
   subst hy
   exact hP _ _ _ ho
def catB (l : List Act) : ByteArray := (catW l).getD emp
theorem catB_some {l : List Act} {C : ByteArray} (h : catW l = some C) : catB l = C := by unfold catB; rw [h]; rfl
theorem part_at {α : Type} {A : α → List Act} {l : List α} {C : ByteArray} (h : catW (l.flatMap A) = some C) {i : Nat} (hi : i < l.length) :
  ∃ m R,catW (A l[i]) = some m ∧ C = catB ((l.take i).flatMap A) ++ m ++ R ∧ catB ((l.take (i + 1)).flatMap A) = catB ((l.take i).flatMap A) ++ m := by
 have e : l = l.take i ++ (l[i] :: l.drop (i + 1)) := by rw [← List.drop_eq_getElem_cons hi,List.take_append_drop]
 have h2 := h
 rw [e,List.flatMap_append,List.flatMap_cons] at h2
 obtain ⟨X,Y,h3,h4,h5⟩ := catW_split h2
 obtain ⟨m,R,h6,h7,rfl⟩ := catW_split h4
 refine ⟨m,R,h6,by rw [catB_some h3,h5,app_assoc],?_⟩
 have h8 : catW ((l.take (i + 1)).flatMap A) = some (X ++ m) := by
  rw [List.take_succ_eq_append_getElem hi,List.flatMap_append]
  simp only [List.flatMap_cons,List.flatMap_nil,List.append_nil]
  exact catW_app h3 h6
 rw [catB_some h8,catB_some h3]
theorem catB_all {α : Type} {A : α → List Act} {l : List α} {C : ByteArray} (h : catW (l.flatMap A) = some C) : catB ((l.take l.length).flatMap A) = C := by rw [List.take_length]; exact catB_some h
theorem catB_none {α : Type} {A : α → List Act} {l : List α} : catB ((l.take 0).flatMap A) = emp := by rw [List.take_zero]; rfl
theorem text_at {t m : ByteArray} {n : Int} (X Y : ByteArray) (h : actW ⟨6,n,t⟩ = .inl m) : textR (X ++ m ++ Y) X.size = .ok (t,X.size + m.size) := by
 have r := rdA_mid X Y (a := ⟨6,n,t⟩) (by unfold kindOk; simp) h
 simp only [rdA,Int.reduceEq,Int.reduceLT,if_true,if_false] at r
 cases hv : textR (X ++ m ++ Y) X.size with
 | error e => rw [hv] at r; cases r
 | ok a =>
  obtain ⟨b,q⟩ := a
  rw [hv] at r
  simp only [mapS,Except.ok.injEq,Prod.mk.injEq] at r
  rw [r.1.2,r.2]
theorem cat_one {a : Act} {m : ByteArray} (h : catW [a] = some m) : actW a = .inl m := by
 obtain ⟨m',c,h1,h2,rfl⟩ := catW_cons h
 simp only [catW,Option.some.injEq] at h2
 subst h2
 rw [h1,app_emp']
theorem text_pos {t m : ByteArray} {n : Int} (h : actW ⟨6,n,t⟩ = .inl m) : 2 ≤ m.size := by
 have h1 : textW t = .inl m := h
 unfold textW at h1
 cases ht : textF t with
 | inr e => obtain ⟨k,p⟩ := e; rw [ht] at h1; cases h1
 | inl c =>
  rw [ht] at h1
  simp only at h1
  rw [binW_inl (textF_inl ht)] at h1
  injection h1 with h1
  rw [← h1,size_app,numB_z (by omega)]
  omega
theorem codeO_at {kind : Int} {l : List Int} {C X Y : ByteArray} (h : catW (l.flatMap codA) = some C) {i : Nat} (hi : i < l.length) :
  ((alw kind l[i] = true → codeO kind (X ++ C ++ Y) (X.size + (catB ((l.take i).flatMap codA)).size) = .ok (l[i],X.size + (catB ((l.take (i + 1)).flatMap codA)).size)) ∧
   (alw kind l[i] = false → ∃ e,codeO kind (X ++ C ++ Y) (X.size + (catB ((l.take i).flatMap codA)).size) = .error e)) ∧ (catB ((l.take i).flatMap codA)).size < C.size := by
 obtain ⟨m,R,h1,h2,h3⟩ := part_at h hi
 have h4 := cat_one h1
 obtain ⟨n1,n2,rfl⟩ := numW_inl (show numW l[i] 1 = .inl m from h4)
 have hz : (numB l[i].toNat 1).size = 1 := numB_z (by omega)
 have hr := num_at (X ++ catB ((l.take i).flatMap codA)) (R ++ Y) (n := l[i].toNat) (k := 1) (by omega) (by omega) rfl
 have e : X ++ catB ((l.take i).flatMap codA) ++ (numB l[i].toNat 1 ++ (R ++ Y)) = X ++ C ++ Y := by rw [h2]; simp only [app_assoc]
 rw [e,size_app] at hr
 have hi2 : ((l[i].toNat : Nat) : Int) = l[i] := by omega
 refine ⟨⟨fun ha => ?_,fun ha => ?_⟩,by rw [h2,size_app,size_app]; omega⟩
 ·unfold codeO
  rw [hr]
  simp only [hi2]
  rw [if_pos ha,h3,size_app,hz,Nat.add_assoc]
 ·unfold codeO
  rw [hr]
  simp only [hi2]
  rw [if_neg (by rw [ha]; decide)]
  exact ⟨_,rfl⟩
theorem headP_val {kind id : Int} {l : List Pr} {c t m1 : ByteArray} (he : encP kind l = .ok c) (hz : c.size ≤ 700000) (h1 : actW ⟨2,id,emp⟩ = .inl m1) :
  HeadP kind (m1 ++ c ++ t) (if id = 0 then .error (3,130,0) else .ok (id.toNat,l.map plainP,2 + c.size)) := by
 obtain ⟨n1,n2,rfl⟩ := numW_inl (show numW id 2 = .inl m1 from h1)
 have hnum := num_at emp (c ++ t) (n := id.toNat) (k := 2) (q := 0) (by omega) (by omega) rfl
 rw [emp_app',← app_assoc] at hnum
 have hz2 : (numB id.toNat 2).size = 2 := numB_z (by omega)
 unfold HeadP
 rw [hnum]
 simp only
 by_cases h0 : id = 0
 ·rw [if_pos h0,if_pos (by omega)]
 ·rw [if_neg h0,if_neg (by omega)]
  have hr := read_encP (A := numB id.toNat 2) (t := t) he hz
  rw [hz2] at hr
  exact ⟨_,hr,rfl⟩
theorem flatW {α : Type} {A : α → List Act} {K : Nat} : ∀ {l : List α},(∀ x ∈ l,∃ m,catW (A x) = some m ∧ m.size ≤ K) → ∃ C,catW (l.flatMap A) = some C ∧ C.size ≤ K * l.length
 | [],_ => ⟨emp,rfl,Nat.zero_le _⟩
 | x :: l,h => by
  obtain ⟨m,h1,h2⟩ := h x (by simp)
  obtain ⟨C,h3,h4⟩ := flatW (l := l) fun y hy => h y (by simp [hy])
  refine ⟨m ++ C,by rw [List.flatMap_cons]; exact catW_app h1 h3,?_⟩
  rw [size_app,List.length_cons,Nat.mul_succ]
  omega
theorem headP_w {kind : Int} {s : ByteArray} {id q : Nat} {l : List Pr} (hs : s.size ≤ 2048) (h : HeadP kind s (.ok (id,l,q))) : id ≠ 0 ∧ id < 65536 ∧ ∃ c,encP kind l = .ok c ∧ c.size ≤ 700000 ∧ (∀ x ∈ l,plain x) ∧ smallP l := by
 unfold HeadP at h
 cases hn : numR s 0 2 with
 | error e => obtain ⟨k,q'⟩ := e; rw [hn] at h; cases h
 | ok a =>
  obtain ⟨i,q'⟩ := a
  have hlt := numR_lt hn
  have hq := numR_ok hn
  rw [hn] at h
  simp only at h
  split at h
  ·cases h
  ·rename_i h0
   obtain ⟨x,h1,h2⟩ := h
   cases x with
   | error e => cases h2
   | ok lq =>
    obtain ⟨l',q2⟩ := lq
    simp only [headM,Except.ok.injEq,Prod.mk.injEq] at h2
    obtain ⟨rfl,rfl,rfl⟩ := h2
    obtain ⟨c,w1,w2,_,w4,w5⟩ := ReadP_w hs hq.2 h1
    exact ⟨h0,by omega,c,w1,w2,w4,w5⟩
theorem codeO_w {kind : Int} {s : ByteArray} {p q : Nat} {x : Int} (h : codeO kind s p = .ok (x,q)) : alw kind x = true ∧ ∃ n : Nat,x = n ∧ n < 256 := by
 unfold codeO at h
 cases hn : numR s p 1 with
 | error e => obtain ⟨k,q'⟩ := e; rw [hn] at h; cases h
 | ok a =>
  obtain ⟨n,q'⟩ := a
  have := numR_lt hn
  rw [hn] at h
  simp only at h
  split at h
  ·rename_i ha
   simp only [Except.ok.injEq,Prod.mk.injEq] at h
   obtain ⟨rfl,rfl⟩ := h
   exact ⟨ha,n,rfl,by omega⟩
  ·cases h
set_option maxHeartbeats 8000000
attribute [local irreducible] afterS afterOpS opSK OpsS TrS CodeS condS condW thenS thenQ guardS guardTS outS drawS trSK consS
def optI (x : Sb) : Int := if x.q < 0 ∨ 3 < x.q ∨ x.rt < 0 ∨ 3 < x.rt then -1 else x.q + 16 * x.rt + (if x.nl then 4 else 0) + (if x.ai then 8 else 0)
def subA (x : Sb) : List Act := [⟨6,0,x.f⟩,⟨1,optI x,emp⟩]
def subN (t : ByteArray) (n : Nat) : Sb := ⟨t,((n % 4 : Nat) : Int),decide (n / 4 % 2 = 1),decide (n / 8 % 2 = 1),((n / 16 : Nat) : Int)⟩
def subO (s : ByteArray) (p : Nat) : Except E3 (Sb × Nat) := match textR s p with
 | .error (k,q) => .error (k,129,q)
 | .ok (t,q) => match numR s q 1 with
  | .error (k,q') => .error (k,129,q')
  | .ok (n,q') => if 63 < n then .error (2,129,q) else if n % 4 = 3 ∨ n / 16 = 3 then .error (3,130,q) else .ok (subN t n,q')
def sbsP (kind id : Int) (l : List Pr) (x : List Sb) (c : List Int) : Pk := { pkz with kind := kind,id := id,props := l,subs := x,codes := c }
def DecS (f : Int) (s : ByteArray) (r : Except E3 Pk) : Prop :=
 if f ≠ 130 ∧ f ≠ 144 then r = .error (2,129,0) else ∃ h,HeadP (f / 16) s h ∧ match h with
  | .error e => r = .error e
  | .ok (id,l,q) => if f = 144 then ∃ c,Parts s.size (codeO 9 s) q [] c ∧ r = mapE (fun c => sbsP 9 id l [] c) c
   else ∃ c,Parts s.size (subO s) q [] c ∧ r = mapE (fun c => sbsP 8 id l c []) c
theorem DecS.det {f : Int} {s : ByteArray} {r r' : Except E3 Pk} (h : DecS f s r) (h' : DecS f s r') : r = r' := by
 unfold DecS at h h'
 split at h
 ·rename_i h1
  rw [if_pos h1] at h'
  exact h.trans h'.symm
 ·rename_i h1
  rw [if_neg h1] at h'
  obtain ⟨x,h2,h3⟩ := h
  obtain ⟨y,h4,h5⟩ := h'
  obtain rfl := h2.det h4
  cases x with
  | error e => exact h3.trans h5.symm
  | ok a =>
   obtain ⟨id,l,q⟩ := a
   simp only at h3 h5
   split at h3
   ·rename_i h6
    rw [if_pos h6] at h5
    obtain ⟨c,h7,rfl⟩ := h3
    obtain ⟨d,h8,rfl⟩ := h5
    rw [h7.det h8]
   ·rename_i h6
    rw [if_neg h6] at h5
    obtain ⟨c,h7,rfl⟩ := h3
    obtain ⟨d,h8,rfl⟩ := h5
    rw [h7.det h8]
def firstS (k : Int) : Int := if k = 8 then 130 else if k = 9 then 144 else 0
def actsS (p : Pk) (s : ByteArray) : List Act := ⟨2,p.id,emp⟩ :: ⟨8,0,s⟩ :: (if p.kind = 8 then p.subs.flatMap subA else p.codes.flatMap codA)
def EncS (p : Pk) (r : Except E3 (Int × ByteArray)) : Prop :=
 if firstS p.kind = 0 then r = .error (7,128,0) else match encP p.kind p.props with
 | .error e => r = .error e
 | .ok s => MadeR (firstS p.kind) (DecS (firstS p.kind)) (runW emp (actsS p s)) r
theorem EncS.det {p : Pk} {r r' : Except E3 (Int × ByteArray)} (h : EncS p r) (h' : EncS p r') : r = r' := by
 unfold EncS at h h'
 split at h
 ·rename_i h1
  rw [if_pos h1] at h'
  exact h.trans h'.symm
 ·rename_i h1
  rw [if_neg h1] at h'
  cases hb : encP p.kind p.props with
  | error e => rw [hb] at h h'; exact h.trans h'.symm
  | ok s =>
   rw [hb] at h h'
   simp only at h h'
   exact MadeR.det (D := DecS (firstS p.kind)) (fun _ _ _ h1 h2 => h1.det h2) h h'
def sbsC (kind id : Int) (vp vs vc : Value) : List Value := [.int .i64 kind,.int .i64 id,.int .i64 0,vp,.bool false,.int .i64 0,.string emp,.bool false,.string emp,.string emp,.int .i64 0,.bool false,.slice none 0 0,.bool false,.string emp,.bool false,.string emp,.bool false,.string emp,.string emp,.int .i64 0,.bool false,.bool false,vs,.slice none 0 0,vc]
theorem sbsC_pk {kind id : Int} {l : List Pr} {x : List Sb} {c : List Int} {vp vs vc : Value} (h1 : DL propC 4 vp l) (h2 : DL subC 5 vs x) (h3 : DL intC 1 vc c) : PkV (sbsP kind id l x c) (.agg ⟨sbsC kind id vp vs vc⟩) := ⟨vp,.slice none 0 0,vs,.slice none 0 0,vc,h1,.inl ⟨rfl,rfl⟩,h2,.inl ⟨rfl,rfl⟩,h3,rfl⟩
theorem subC_frz (a : Sb) : frzL E.ng E.nb (subC a) = true := by simp [subC,frzL,frz]
theorem subC_bare (a : Sb) : bareL (subC a) = subC a := by simp [subC,bareL,bare]
theorem subC_oc (a : Sb) : (subC a).all oneCell = true := rfl
theorem zeSb : azero E 98 = some [.string emp,.int .i64 0,.bool false,.bool false,.int .i64 0] := rfl
section
variable {σ : AHeap} {Q : Value → AHeap → Prop}
theorem app_sb {K : Value → AHeap → Prop} {v y : Value} {l xs : List Sb} {fp : List Nat} (hv : DG subC 5 σ v l fp) (hx : DL subC 5 y xs) (hn : l.length + xs.length ≤ 1000000) (hq : ∀ σ' v' fp',Kept σ fp σ' fp' → DG subC 5 σ' v' (l ++ xs) fp' → K v' σ') :
  afterOpS E B (some (.any fun b => aappend E (σ.resize b) [50,50] [v,y])) σ K :=
 app_deep (by_ := 40) ty50 ty98 rfl (by omega) (by omega) ty50 rfl rfl subC_bare subC_frz subC_oc hv hx (by omega) hq
end
theorem or_nat {n m : Nat} (hn : n < 2 ^ 62) (hm : m < 2 ^ 62) : aint .or .i64 (n : Int) (m : Int) = some (.int .i64 ((n ||| m : Nat) : Int)) := by
 have key : ((BitVec.ofInt 64 (n : Int)) ||| (BitVec.ofInt 64 (m : Int))).toNat = n ||| m := by
  rw [BitVec.toNat_or,BitVec.ofInt_natCast,BitVec.ofInt_natCast,BitVec.toNat_ofNat,BitVec.toNat_ofNat]
  rw [Nat.mod_eq_of_lt (by omega),Nat.mod_eq_of_lt (by omega)]
 have hle : n ||| m < 2 ^ 62 := Nat.or_lt_two_pow hn hm
 show some (Value.int .i64 (IntKind.i64.wrap ((((BitVec.ofInt 64 (n : Int)) ||| (BitVec.ofInt 64 (m : Int))).toNat : Nat) : Int))) = _
 rw [key,wrap64 ⟨by omega,by omega⟩]
theorem bits_and : ∀ n,n < 256 → (n &&& 3 = n % 4) ∧ ((n &&& 4 = 0) ↔ ¬ n / 4 % 2 = 1) ∧ ((n &&& 8 = 0) ↔ ¬ n / 8 % 2 = 1) := by decide +kernel
end Go.Proofs.YtonmjhdcijibgaaGreatDoor.AbsB
