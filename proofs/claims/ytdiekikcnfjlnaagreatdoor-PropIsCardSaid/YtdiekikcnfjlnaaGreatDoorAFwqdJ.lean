/-
  Parts of a law's proof.
-/
import Derived.Test.YtdiekikcnfjlnaaGreatDoorAUtqfJ
namespace Go.Proofs.YtdiekikcnfjlnaaGreatDoor.AbsA
open Go AbsYtdiekikcnfjlnaaGreatDoor Abs
set_option maxRecDepth 100000
set_option maxHeartbeats 4000000
set_option linter.unusedSimpArgs false
set_option linter.unusedVariables false
section
variable {σ : AHeap} {w : Nat} {a s : ByteArray} {fp : List Nat} {n : Int} {Q : Value → AHeap → Prop}
end
structure Act where
 k : Int
 n : Int
 s : ByteArray
section
variable {σ : AHeap} {w : Nat} {b : ByteArray} {a : Act} {fp : List Nat} {Q : Value → AHeap → Prop}
end
theorem chunks {α : Type} {enc : α → List Value} {sz : Nat} (hsz : ∀ a,(enc a).length = sz) : ∀ (n : Nat) (cs : List Value),cs.length = n * sz → (∀ k,k < n → ∃ a,(cs.drop (k * sz)).take sz = enc a) → ∃ l : List α,l.length = n ∧ cs = l.flatMap enc
 | 0,cs,hl,_ => ⟨[],rfl,by rw [Nat.zero_mul] at hl; exact List.eq_nil_of_length_eq_zero hl⟩
 | n + 1,cs,hl,h => by
  obtain ⟨a,ha⟩ := h 0 (by omega)
  rw [Nat.zero_mul,List.drop_zero] at ha
  obtain ⟨l,h1,h2⟩ := chunks hsz n (cs.drop sz) (by rw [List.length_drop,hl,Nat.succ_mul]; omega) (fun k hk => by
   obtain ⟨b,hb⟩ := h (k + 1) (by omega)
   refine ⟨b,?_⟩
   rw [← hb,List.drop_drop,Nat.succ_mul,Nat.add_comm])
  exact ⟨a :: l,by simp [h1],by rw [List.flatMap_cons,← ha,← h2,List.take_append_drop]⟩
def DL {α : Type} (enc : α → List Value) (sz : Nat) (v : Value) (l : List α) : Prop := (l = [] ∧ v = .slice none 0 0) ∨ ∃ m,v = dsl m sz l.length (l.flatMap enc)
def DG {α : Type} (enc : α → List Value) (sz : Nat) (σ : AHeap) (v : Value) (l : List α) (fp : List Nat) : Prop :=
 (l = [] ∧ v = .slice none 0 0 ∧ fp = []) ∨ ∃ m,v = dsl m sz l.length (l.flatMap enc) ∧ ((m = 1 ∧ fp = []) ∨ ∃ t,m = t + 2 ∧ σ.get t = .cells [] true sz ∧ fp = [t])
theorem Kept.none {σ σ' : AHeap} {fp fp' : List Nat} (h : Kept σ fp σ' fp') : Kept σ fp σ' [] := ⟨h.get,fun _ h => by cases h⟩
theorem Kept.wid {σ σ' : AHeap} {fp fp' gp gp' : List Nat} (k : Kept σ fp σ' fp') (h1 : ∀ b ∈ fp,b ∈ gp) (h2 : ∀ b ∈ gp',b ∈ fp' ∨ b ∈ gp) : Kept σ gp σ' gp' where
 get b hb hn := k.get b hb fun h => hn (h1 b h)
 new b hb := by
  rcases h2 b hb with h | h
  ·rcases k.new b h with h | h
   ·exact .inl (h1 b h)
   ·exact .inr h
  ·exact .inl h
theorem Kept.tmp {σ : AHeap} {c : Nat} {o o' : AObj} (hc : σ.get c = .dead) : Kept σ [] ((σ.set c o).set c o') [] := ((Kept.new' hc).trans (Kept.set (by simp))).wid (fun _ h => h) fun _ h => .inr h
theorem Kept.le {σ σ' : AHeap} {fp : List Nat} (k : Kept σ [] σ' fp) : Le σ σ' := fun b hb => k.get b hb (by simp)
section
variable {α : Type} {enc : α → List Value} {sz : Nat} {σ σ' : AHeap} {v : Value} {l : List α} {fp : List Nat}
theorem DG.nil : DG enc sz σ (.slice none 0 0) ([] : List α) [] := .inl ⟨rfl,rfl,rfl⟩
theorem DG.live (h : DG enc sz σ v l fp) : ∀ b ∈ fp,σ.get b ≠ .dead := by
 rcases h with ⟨_,_,rfl⟩ | ⟨m,_,⟨_,rfl⟩ | ⟨t,_,h4,rfl⟩⟩ <;> intro b hb
 ·cases hb
 ·cases hb
 ·obtain rfl := List.mem_singleton.1 hb; rw [h4]; simp
theorem DG.bare (h : DG enc sz σ v l fp) : DL enc sz (bare v) l := by
 rcases h with ⟨h1,rfl,_⟩ | ⟨m,rfl,_⟩
 ·exact .inl ⟨h1,rfl⟩
 ·exact .inr ⟨_,rfl⟩
theorem DG.dl (h : DG enc sz σ v l fp) : DL enc sz v l := by
 rcases h with ⟨h1,rfl,_⟩ | ⟨m,rfl,_⟩
 ·exact .inl ⟨h1,rfl⟩
 ·exact .inr ⟨_,rfl⟩
theorem bareL_app : ∀ (a b : List Value),bareL (a ++ b) = bareL a ++ bareL b
 | [],_ => rfl
 | v :: a,b => by show bare v :: bareL (a ++ b) = _; rw [bareL_app a b]; rfl
theorem bareL_flat (hb : ∀ a,bareL (enc a) = enc a) : ∀ l : List α,bareL (l.flatMap enc) = l.flatMap enc
 | [] => rfl
 | a :: l => by rw [List.flatMap_cons,bareL_app,hb,bareL_flat hb l]
theorem frzL_flat (hf : ∀ a,frzL E.ng E.nb (enc a) = true) : ∀ l : List α,frzL E.ng E.nb (l.flatMap enc) = true
 | [] => by simp [frzL]
 | a :: l => by rw [List.flatMap_cons]; exact AbsYtdiekikcnfjlnaaGreatDoor.frzL_append (hf a) (frzL_flat hf l)
theorem oc_flat (ho : ∀ a,(enc a).all oneCell = true) (l : List α) : (l.flatMap enc).all oneCell = true := by
 rw [List.all_flatMap]
 rw [List.all_eq_true]
 intro a _
 exact ho a
theorem app_deep {K : Value → AHeap → Prop} {x : Value} {xs : List α} {t e u by_ a1 a2 : Nat} {z1 : Option (List ZV)} {q1 q2 : Bool} {k2 : TK} {zs : List ZV} {iu : TI}
  (ht : E.ty.get t = some ⟨.slice e,a1,a2,z1,q1⟩) (he : E.ty.get e = some ⟨k2,sz,by_,some zs,q2⟩) (hz : zs.length = sz) (hs0 : 0 < sz) (hby : 0 < by_) (hu : E.ty.get u = some iu) (hki : iu.k.isInt = false) (hdp : E.dp t = true)
  (hb : ∀ a,bareL (enc a) = enc a) (hf : ∀ a,frzL E.ng E.nb (enc a) = true) (ho : ∀ a,(enc a).all oneCell = true)
  (hv : DG enc sz σ v l fp) (hx : DL enc sz x xs) (hn : (l.length + xs.length) * by_ ≤ 140737488355328) (hq : ∀ σ' v' fp',Kept σ fp σ' fp' → DG enc sz σ' v' (l ++ xs) fp' → K v' σ') :
  afterOpS E B (some (.any fun b => aappend E (σ.resize b) [t,u] [v,x])) σ K := by
 intro b hb0
 have hbd : σ.get b = .dead := by
  rcases hg : σ.get b with _ | _ | _
  ·rfl
  ·exact absurd (hb0 b (by rw [hg]; simp)) (Nat.lt_irrefl _)
  ·exact absurd (hb0 b (by rw [hg]; simp)) (Nat.lt_irrefl _)
 have hz5 : azero E e = some (zs.map ZV.val) := by unfold azero; rw [he]; rfl
 have hsrc : srcCells (σ.resize b) sz x = some (xs.length,xs.flatMap enc) := by
  rcases hx with ⟨rfl,rfl⟩ | ⟨m,rfl⟩
  ·rfl
  ·simp only [dsl,srcCells,if_true]
 have hbare := bareL_flat hb xs
 have hfz := frzL_flat hf xs
 have hoc := oc_flat ho xs
 have c0 : (sz == 0 || by_ == 0 || (zs.map ZV.val).length != sz || iu.k.isInt) = false := by
  rw [List.length_map,hz,hki]
  have h1 : (sz == 0) = false := by simp; omega
  have h2 : (by_ == 0) = false := by simp; omega
  rw [h1,h2]; simp
 have c0' : (decide (sz = 0) || decide (by_ = 0) || (zs.map ZV.val).length != sz || iu.k.isInt) = false := by
  rw [List.length_map,hz,hki]
  have h1 : decide (sz = 0) = false := by simp; omega
  have h2 : decide (by_ = 0) = false := by simp; omega
  rw [h1,h2]; simp
 have hnew : ∀ τ : AHeap,τ.size = b → (∀ c,c ∉ fp → τ.get c = σ.get c) → Kept σ fp ((deepNew τ sz (l.length + xs.length) ((l ++ xs).flatMap enc)).2.resize σ.size) [b] ∧ DG enc sz ((deepNew τ sz (l.length + xs.length) ((l ++ xs).flatMap enc)).2.resize σ.size) (deepNew τ sz (l.length + xs.length) ((l ++ xs).flatMap enc)).1 (l ++ xs) [b] := by
  intro τ hτ hg
  subst hτ
  refine ⟨⟨fun c hc hn => ?_,fun c hc => ?_⟩,.inr ⟨τ.size + 2,by simp only [deepNew,List.length_append],.inr ⟨τ.size,rfl,AHeap.get_alloc_same _ _,rfl⟩⟩⟩
  ·show (τ.alloc _).get c = σ.get c
   rw [AHeap.get_alloc_ne _ _ (by rintro rfl; exact hc hbd)]
   exact hg c hn
  ·obtain rfl := List.mem_singleton.1 hc; exact .inr hbd
 rcases hv with ⟨rfl,rfl,rfl⟩ | ⟨m,rfl,hm⟩
 ·by_cases h0 : xs.length = 0
  ·refine ⟨.slice none 0 0,σ.resize b,?_,hq _ _ [] ⟨fun c _ _ => rfl,fun _ h => by cases h⟩ (.inl ⟨by rw [List.nil_append]; exact List.eq_nil_of_length_eq_zero h0,rfl,rfl⟩)⟩
   simp only [aappend,ht,hu,he,hz5,hsrc,c0,c0',h0,Bool.false_eq_true,if_false,if_true,decide_true]
   try simp
  ·obtain ⟨g1,g2⟩ := hnew (σ.resize b) rfl (fun c _ => rfl)
   refine ⟨_,_,?_,hq _ _ _ g1 g2⟩
   have c1 : xs.length * by_ ≤ 140737488355328 := by simpa using hn
   simp only [aappend,ht,hu,he,hz5,hsrc,c0,c0',h0,hoc,hbare,hfz,hdp,c1,Bool.false_eq_true,if_false,if_true,decide_true,Bool.and_self,List.nil_append,List.length_nil,Nat.zero_add]
 ·by_cases h0 : xs.length = 0
  ·refine ⟨_,σ.resize b,?_,hq _ (dsl m sz l.length (l.flatMap enc)) fp ⟨fun c _ _ => rfl,fun _ h => .inl h⟩ (.inr ⟨m,by rw [List.eq_nil_of_length_eq_zero h0,List.append_nil],hm⟩)⟩
   simp only [aappend,ht,hu,he,hz5,hsrc,c0,c0',h0,dsl,Bool.false_eq_true,if_false,if_true,decide_true]
  ·have c2 : (l.flatMap enc ++ xs.flatMap enc) = (l ++ xs).flatMap enc := by rw [List.flatMap_append]
   rcases hm with ⟨rfl,rfl⟩ | ⟨tk,rfl,hg,rfl⟩
   ·obtain ⟨g1,g2⟩ := hnew (σ.resize b) rfl (fun c _ => rfl)
    refine ⟨_,_,?_,hq _ _ _ g1 g2⟩
    simp only [aappend,ht,hu,he,hz5,hsrc,c0,c0',h0,dsl,hn,hoc,hbare,hfz,c2,Bool.false_eq_true,if_false,if_true,decide_true,Bool.and_self]
   ·obtain ⟨g1,g2⟩ := hnew ((σ.resize b).set tk .dead) rfl (fun c hc => by rw [AHeap.get_set_ne _ _ (by rintro rfl; exact hc (by simp))]; rfl)
    refine ⟨_,_,?_,hq _ _ _ g1 g2⟩
    simp only [aappend,ht,hu,he,hz5,hsrc,c0,c0',h0,dsl,hn,hoc,hbare,hfz,c2,get_resize,hg,Bool.false_eq_true,if_false,if_true,decide_true,Bool.and_self]
end
def resC (v : Option Value) (r : Option (List Value)) : Option (List Value) := match v,r with
 | some v,some r => some (v :: r)
 | _,_ => none
theorem res_cellc {E : Env} {H : AHeap} {n : Nat} {f : Nat → Value} {a t : Nat} {r : List ResultVar} : AbsYtdiekikcnfjlnaaGreatDoor.results E (L n f) H (.cell a t :: r) = resC (aload E H t (if a < n then f a else undef)) (AbsYtdiekikcnfjlnaaGreatDoor.results E (L n f) H r) := by
 have e : (L n f).getD a undef = if a < n then f a else undef := aev_tmp (t := a)
 simp only [AbsYtdiekikcnfjlnaaGreatDoor.results,e]
 cases aload E H t (if a < n then f a else undef) <;> cases AbsYtdiekikcnfjlnaaGreatDoor.results E (L n f) H r <;> rfl
theorem resC_some {v : Value} {r : List Value} : resC (some v) (some r) = some (v :: r) := rfl
end Go.Proofs.YtdiekikcnfjlnaaGreatDoor.AbsA
