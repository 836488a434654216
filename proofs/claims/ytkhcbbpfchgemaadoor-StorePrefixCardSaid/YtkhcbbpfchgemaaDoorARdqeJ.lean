/-
  Parts of a law's proof.
-/
import Derived.Test.YtkhcbbpfchgemaaDoorAFwqdJ
namespace Go.Proofs.YtkhcbbpfchgemaaDoor.AbsB
open Go AbsYtkhcbbpfchgemaaDoor Abs
set_option maxRecDepth 100000
set_option maxHeartbeats 4000000
set_option linter.unusedSimpArgs false
set_option linter.unusedVariables false
section
variable {σ : AHeap} {r p : Nat} {s : ByteArray} {Q : Value → AHeap → Prop}
theorem binR_ok {v : ByteArray} {q : Nat} (h : binR s p = .ok (v,q)) : q ≤ s.size ∧ p ≤ q ∧ v.size ≤ 65535 := by
 unfold binR at h
 cases hn : numR s p 2 with
 | error e => rw [hn] at h; cases h
 | ok a =>
  obtain ⟨n,q'⟩ := a
  rw [hn] at h
  have h1 := rawR_ok h
  have h2 := numR_ok hn
  refine ⟨h1.2.2.2.1,by omega,?_⟩
  have h3 := h1.2.2.2.2
  rw [Int.toNat_natCast] at h3
  unfold numR at hn
  cases hb : rawR s p (2 : Nat) with
  | error e => rw [hb] at hn; cases hn
  | ok a =>
   obtain ⟨b,q2⟩ := a
   rw [hb] at hn
   injection hn with hn; injection hn with h4 h5
   have h6 := (rawR_ok hb).2.2.2.2
   rw [Int.toNat_natCast] at h6
   have h7 := beF_lt b b.size
   rw [h6] at h7 h4
   rw [h3,← h4]
   omega
theorem specDText (hr : IsR σ r s p .nilIface) (hp : p ≤ s.size) (hs : s.size ≤ 100000000)
  (hok : ∀ v q,textR s p = .ok (v,q) → ∀ σ',Kept σ [r] σ' [r] → IsR σ' r s q .nilIface → Q (.string v) σ')
  (hbad : ∀ e q,textR s p = .error (e,q) → ∀ σ',Kept σ [r] σ' [r] → RBad σ' r s p e q → Q (.string emp) σ') : CallS E B 65 [.pointer (some ⟨r,0,none⟩)] σ Q := by
 refine call65 (by simp) ?_
 simp only [strip,bodyOf,Tryd.f65,getD_body,keepN,bareOp_mk,lessOp_mk,lapp_cons,lapp_nil,List.map_cons,List.map_nil,array_toList,↓reduceIte,Nat.reduceEqDiff,Bool.false_eq_true]
 simp (disch := first | assumption | simp) only [↓sbD,sbU,tyB,Nat.reduceMul,Nat.reduceSub,Int.reduceEq,Int.reduceLT,Int.reduceLE,Int.reduceNe,Nat.reduceBneDiff,Nat.reduceBEq,decide_false,gt_iff_lt,Bool.or_self,Bool.false_eq_true,Nat.mul_one,Nat.one_mul,Nat.zero_mul,↓reduceIte,Nat.reduceEqDiff,Nat.reduceLT,Nat.reduceAdd,Nat.reduceLeDiff,reduceCtorEq,goInt,pairs,isConst,TI.isAgg,splice,boxS,Edp,dpv,Nat.beq_eq,ZV.val,List.any_cons,List.any_nil,Bool.false_and]
 refine specRAt hr ?_
 simp (disch := first | assumption | simp) only [↓sbD,sbU,tyB,Nat.reduceMul,Nat.reduceSub,Int.reduceEq,Int.reduceLT,Int.reduceLE,Int.reduceNe,Nat.reduceBneDiff,Nat.reduceBEq,decide_false,gt_iff_lt,Bool.or_self,Bool.false_eq_true,Nat.mul_one,Nat.one_mul,Nat.zero_mul,↓reduceIte,Nat.reduceEqDiff,Nat.reduceLT,Nat.reduceAdd,Nat.reduceLeDiff,reduceCtorEq,goInt,pairs,isConst,TI.isAgg,splice,boxS,Edp,dpv,Nat.beq_eq,ZV.val,List.any_cons,List.any_nil,Bool.false_and]
 refine specRBin hr hp (by omega) (fun v q hv σ1 k1 i1 => ?_) fun e q hv σ1 k1 i1 => ?_
 ·have hb := binR_ok hv
  simp (disch := first | assumption | simp) only [↓sbD,sbU,tyB,Nat.reduceMul,Nat.reduceSub,Int.reduceEq,Int.reduceLT,Int.reduceLE,Int.reduceNe,Nat.reduceBneDiff,Nat.reduceBEq,decide_false,gt_iff_lt,Bool.or_self,Bool.false_eq_true,Nat.mul_one,Nat.one_mul,Nat.zero_mul,↓reduceIte,Nat.reduceEqDiff,Nat.reduceLT,Nat.reduceAdd,Nat.reduceLeDiff,reduceCtorEq,goInt,pairs,isConst,TI.isAgg,splice,boxS,Edp,dpv,Nat.beq_eq,ZV.val,List.any_cons,List.any_nil,Bool.false_and]
  refine specROff i1 ?_
  simp (disch := first | assumption | simp) only [↓sbD,sbU,tyB,Nat.reduceMul,Nat.reduceSub,Int.reduceEq,Int.reduceLT,Int.reduceLE,Int.reduceNe,Nat.reduceBneDiff,Nat.reduceBEq,decide_false,gt_iff_lt,Bool.or_self,Bool.false_eq_true,Nat.mul_one,Nat.one_mul,Nat.zero_mul,↓reduceIte,Nat.reduceEqDiff,Nat.reduceLT,Nat.reduceAdd,Nat.reduceLeDiff,reduceCtorEq,goInt,pairs,isConst,TI.isAgg,splice,boxS,Edp,dpv,Nat.beq_eq,ZV.val,List.any_cons,List.any_nil,Bool.false_and]
  refine specCheck (by omega) (fun m hm => ?_) fun k j hm => ?_
  ·simp (disch := first | assumption | simp) only [↓sbD,sbU,tyB,Nat.reduceMul,Nat.reduceSub,Int.reduceEq,Int.reduceLT,Int.reduceLE,Int.reduceNe,Nat.reduceBneDiff,Nat.reduceBEq,decide_false,gt_iff_lt,Bool.or_self,Bool.false_eq_true,Nat.mul_one,Nat.one_mul,Nat.zero_mul,↓reduceIte,Nat.reduceEqDiff,Nat.reduceLT,Nat.reduceAdd,Nat.reduceLeDiff,reduceCtorEq,goInt,pairs,isConst,TI.isAgg,splice,boxS,Edp,dpv,Nat.beq_eq,ZV.val,List.any_cons,List.any_nil,Bool.false_and]
   exact downS_here (hok v q (by unfold textR; rw [hv]; simp only [hm]) σ1 k1 i1)
  ·have hj := textF_p hm
   have hk := textF_k hm
   have i1' := i1
   unfold IsR at i1'
   have hw : IntKind.i64.wrap ((p : Int) + 2) = ((p + 2 : Nat) : Int) := by rw [wrap64 ⟨by omega,by omega⟩]; omega
   simp (disch := first | assumption | simp) only [↓sbD,sbU,tyB,Nat.reduceMul,Nat.reduceSub,Int.reduceEq,Int.reduceLT,Int.reduceLE,Int.reduceNe,Nat.reduceBneDiff,Nat.reduceBEq,decide_false,gt_iff_lt,Bool.or_self,Bool.false_eq_true,Nat.mul_one,Nat.one_mul,Nat.zero_mul,↓reduceIte,Nat.reduceEqDiff,Nat.reduceLT,Nat.reduceAdd,Nat.reduceLeDiff,reduceCtorEq,goInt,pairs,isConst,TI.isAgg,splice,boxS,Edp,dpv,Nat.beq_eq,ZV.val,List.any_cons,List.any_nil,Bool.false_and,hw]
   refine specDeeper (n := j) (m := p + 2) (by omega) (by omega) ?_
   simp (disch := first | assumption | simp) only [↓sbD,sbU,tyB,Nat.reduceMul,Nat.reduceSub,Int.reduceEq,Int.reduceLT,Int.reduceLE,Int.reduceNe,Nat.reduceBneDiff,Nat.reduceBEq,decide_false,gt_iff_lt,Bool.or_self,Bool.false_eq_true,Nat.mul_one,Nat.one_mul,Nat.zero_mul,↓reduceIte,Nat.reduceEqDiff,Nat.reduceLT,Nat.reduceAdd,Nat.reduceLeDiff,reduceCtorEq,goInt,pairs,isConst,TI.isAgg,splice,boxS,Edp,dpv,Nat.beq_eq,ZV.val,List.any_cons,List.any_nil,Bool.false_and,i1']
   refine specBackE (q := p) (s := s) (p := q) (AHeap.get_set_same _ _ _) fun σ3 k3 i4 => ?_
   simp (disch := first | assumption | simp) only [↓sbD,sbU,tyB,Nat.reduceMul,Nat.reduceSub,Int.reduceEq,Int.reduceLT,Int.reduceLE,Int.reduceNe,Nat.reduceBneDiff,Nat.reduceBEq,decide_false,gt_iff_lt,Bool.or_self,Bool.false_eq_true,Nat.mul_one,Nat.one_mul,Nat.zero_mul,↓reduceIte,Nat.reduceEqDiff,Nat.reduceLT,Nat.reduceAdd,Nat.reduceLeDiff,reduceCtorEq,goInt,pairs,isConst,TI.isAgg,splice,boxS,Edp,dpv,Nat.beq_eq,ZV.val,List.any_cons,List.any_nil,Bool.false_and]
   refine downS_here (hbad (k + 1) (p + 2 + j) (by unfold textR; rw [hv]; simp only [hm]) σ3 ((k1.trans (Kept.set (by simp))).trans k3) ⟨2,_,by omega,ErN.deeper _ _ (ErN.new _ _ ⟨by omega,by omega⟩),i4⟩)
 ·obtain ⟨d,z,hd,he,i3⟩ := i1
  simp (disch := first | assumption | simp) only [↓sbD,sbU,tyB,Nat.reduceMul,Nat.reduceSub,Int.reduceEq,Int.reduceLT,Int.reduceLE,Int.reduceNe,Nat.reduceBneDiff,Nat.reduceBEq,decide_false,gt_iff_lt,Bool.or_self,Bool.false_eq_true,Nat.mul_one,Nat.one_mul,Nat.zero_mul,↓reduceIte,Nat.reduceEqDiff,Nat.reduceLT,Nat.reduceAdd,Nat.reduceLeDiff,reduceCtorEq,goInt,pairs,isConst,TI.isAgg,splice,boxS,Edp,dpv,Nat.beq_eq,ZV.val,List.any_cons,List.any_nil,Bool.false_and]
  refine specROffE i3 ?_
  simp (disch := first | assumption | simp) only [↓sbD,sbU,tyB,Nat.reduceMul,Nat.reduceSub,Int.reduceEq,Int.reduceLT,Int.reduceLE,Int.reduceNe,Nat.reduceBneDiff,Nat.reduceBEq,decide_false,gt_iff_lt,Bool.or_self,Bool.false_eq_true,Nat.mul_one,Nat.one_mul,Nat.zero_mul,↓reduceIte,Nat.reduceEqDiff,Nat.reduceLT,Nat.reduceAdd,Nat.reduceLeDiff,reduceCtorEq,goInt,pairs,isConst,TI.isAgg,splice,boxS,Edp,dpv,Nat.beq_eq,ZV.val,List.any_cons,List.any_nil,Bool.false_and]
  exact downS_here (hbad e q (by unfold textR; rw [hv]) σ1 k1 ⟨d,z,hd,he,i3⟩)
theorem specDTextE {u : Nat} {x : Value} (hr : IsR σ r s p (.iface u x)) (h : ∀ σ',Kept σ [r] σ' [r] → IsR σ' r s p (.iface u x) → Q (.string emp) σ') : CallS E B 65 [.pointer (some ⟨r,0,none⟩)] σ Q := by
 refine call65 (by simp) ?_
 simp only [strip,bodyOf,Tryd.f65,getD_body,keepN,bareOp_mk,lessOp_mk,lapp_cons,lapp_nil,List.map_cons,List.map_nil,array_toList,↓reduceIte,Nat.reduceEqDiff,Bool.false_eq_true]
 simp (disch := first | assumption | simp) only [↓sbD,sbU,tyB,Nat.reduceMul,Nat.reduceSub,Int.reduceEq,Int.reduceLT,Int.reduceLE,Int.reduceNe,Nat.reduceBneDiff,Nat.reduceBEq,decide_false,gt_iff_lt,Bool.or_self,Bool.false_eq_true,Nat.mul_one,Nat.one_mul,Nat.zero_mul,↓reduceIte,Nat.reduceEqDiff,Nat.reduceLT,Nat.reduceAdd,Nat.reduceLeDiff,reduceCtorEq,goInt,pairs,isConst,TI.isAgg,splice,boxS,Edp,dpv,Nat.beq_eq,ZV.val,List.any_cons,List.any_nil,Bool.false_and]
 refine specRAt hr ?_
 simp (disch := first | assumption | simp) only [↓sbD,sbU,tyB,Nat.reduceMul,Nat.reduceSub,Int.reduceEq,Int.reduceLT,Int.reduceLE,Int.reduceNe,Nat.reduceBneDiff,Nat.reduceBEq,decide_false,gt_iff_lt,Bool.or_self,Bool.false_eq_true,Nat.mul_one,Nat.one_mul,Nat.zero_mul,↓reduceIte,Nat.reduceEqDiff,Nat.reduceLT,Nat.reduceAdd,Nat.reduceLeDiff,reduceCtorEq,goInt,pairs,isConst,TI.isAgg,splice,boxS,Edp,dpv,Nat.beq_eq,ZV.val,List.any_cons,List.any_nil,Bool.false_and]
 refine specRBinE hr fun σ1 k1 i1 => ?_
 simp (disch := first | assumption | simp) only [↓sbD,sbU,tyB,Nat.reduceMul,Nat.reduceSub,Int.reduceEq,Int.reduceLT,Int.reduceLE,Int.reduceNe,Nat.reduceBneDiff,Nat.reduceBEq,decide_false,gt_iff_lt,Bool.or_self,Bool.false_eq_true,Nat.mul_one,Nat.one_mul,Nat.zero_mul,↓reduceIte,Nat.reduceEqDiff,Nat.reduceLT,Nat.reduceAdd,Nat.reduceLeDiff,reduceCtorEq,goInt,pairs,isConst,TI.isAgg,splice,boxS,Edp,dpv,Nat.beq_eq,ZV.val,List.any_cons,List.any_nil,Bool.false_and]
 refine specROffE i1 ?_
 simp (disch := first | assumption | simp) only [↓sbD,sbU,tyB,Nat.reduceMul,Nat.reduceSub,Int.reduceEq,Int.reduceLT,Int.reduceLE,Int.reduceNe,Nat.reduceBneDiff,Nat.reduceBEq,decide_false,gt_iff_lt,Bool.or_self,Bool.false_eq_true,Nat.mul_one,Nat.one_mul,Nat.zero_mul,↓reduceIte,Nat.reduceEqDiff,Nat.reduceLT,Nat.reduceAdd,Nat.reduceLeDiff,reduceCtorEq,goInt,pairs,isConst,TI.isAgg,splice,boxS,Edp,dpv,Nat.beq_eq,ZV.val,List.any_cons,List.any_nil,Bool.false_and]
 exact downS_here (h σ1 k1 i1)
def mapN (r : Rd Nat) : Rd (Int × ByteArray) := match r with
 | .ok (n,q) => .ok (((n : Int),emp),q)
 | .error e => .error e
def mapS (r : Rd ByteArray) : Rd (Int × ByteArray) := match r with
 | .ok (v,q) => .ok ((0,v),q)
 | .error e => .error e
def rdA (k : Int) (s : ByteArray) (p : Nat) : Rd (Int × ByteArray) := if k = 1 then mapN (numR s p 1) else if k = 2 then mapN (numR s p 2) else if k = 4 then mapN (numR s p 4) else if k = 5 then mapN (varR s p) else if k = 6 then mapS (textR s p) else mapS (binR s p)
end
def DG {α : Type} (enc : α → List Value) (sz : Nat) (σ : AHeap) (v : Value) (l : List α) (fp : List Nat) : Prop :=
 (l = [] ∧ v = .slice none 0 0 ∧ fp = []) ∨ ∃ m,v = dsl m sz l.length (l.flatMap enc) ∧ ((m = 1 ∧ fp = []) ∨ ∃ t,m = t + 2 ∧ σ.get t = .cells [] true sz ∧ fp = [t])
theorem Kept.none {σ σ' : AHeap} {fp fp' : List Nat} (h : Kept σ fp σ' fp') : Kept σ fp σ' [] := ⟨h.get,fun _ h => by cases h⟩
theorem Kept.wid {σ σ' : AHeap} {fp fp' gp gp' : List Nat} (k : Kept σ fp σ' fp') (h1 : ∀ b ∈ fp,b ∈ gp) (h2 : ∀ b ∈ gp',b ∈ fp' ∨ b ∈ gp) : Kept σ gp σ' gp' where
 get b hb hn := k.get b hb fun h => hn (h1 b h)
 new b hb := by
  rcases h2 b hb with h | h
  ·rcases k.new b h with h | h
   ·exact .inl (h1 b h)
   ·exact .inr h
  ·exact .inl h
theorem Kept.tmp {σ : AHeap} {c : Nat} {o o' : AObj} (hc : σ.get c = .dead) : Kept σ [] ((σ.set c o).set c o') [] := ((Kept.new' hc).trans (Kept.set (by simp))).wid (fun _ h => h) fun _ h => .inr h
theorem Kept.le {σ σ' : AHeap} {fp : List Nat} (k : Kept σ [] σ' fp) : Le σ σ' := fun b hb => k.get b hb (by simp)
section
variable {α : Type} {enc : α → List Value} {sz : Nat} {σ σ' : AHeap} {v : Value} {l : List α} {fp : List Nat}
theorem DG.nil : DG enc sz σ (.slice none 0 0) ([] : List α) [] := .inl ⟨rfl,rfl,rfl⟩
theorem DG.kept {gp gp' : List Nat} (h : DG enc sz σ v l fp) (k : Kept σ gp σ' gp') (hd : ∀ b ∈ fp,b ∉ gp) : DG enc sz σ' v l fp := by
 rcases h with h | ⟨m,h1,h2⟩
 ·exact .inl h
 ·rcases h2 with h2 | ⟨t,h3,h4,h5⟩
  ·exact .inr ⟨m,h1,.inl h2⟩
  ·exact .inr ⟨m,h1,.inr ⟨t,h3,by rw [k.get t (by rw [h4]; simp) (hd t (by rw [h5]; simp))]; exact h4,h5⟩⟩
theorem DG.live (h : DG enc sz σ v l fp) : ∀ b ∈ fp,σ.get b ≠ .dead := by
 rcases h with ⟨_,_,rfl⟩ | ⟨m,_,⟨_,rfl⟩ | ⟨t,_,h4,rfl⟩⟩ <;> intro b hb
 ·cases hb
 ·cases hb
 ·obtain rfl := List.mem_singleton.1 hb; rw [h4]; simp
theorem DG.bare (h : DG enc sz σ v l fp) : DL enc sz (bare v) l := by
 rcases h with ⟨h1,rfl,_⟩ | ⟨m,rfl,_⟩
 ·exact .inl ⟨h1,rfl⟩
 ·exact .inr ⟨_,rfl⟩
theorem DG.dl (h : DG enc sz σ v l fp) : DL enc sz v l := by
 rcases h with ⟨h1,rfl,_⟩ | ⟨m,rfl,_⟩
 ·exact .inl ⟨h1,rfl⟩
 ·exact .inr ⟨_,rfl⟩
theorem bareL_app : ∀ (a b : List Value),bareL (a ++ b) = bareL a ++ bareL b
 | [],_ => rfl
 | v :: a,b => by show bare v :: bareL (a ++ b) = _; rw [bareL_app a b]; rfl
theorem bareL_flat (hb : ∀ a,bareL (enc a) = enc a) : ∀ l : List α,bareL (l.flatMap enc) = l.flatMap enc
 | [] => rfl
 | a :: l => by rw [List.flatMap_cons,bareL_app,hb,bareL_flat hb l]
theorem frzL_flat (hf : ∀ a,frzL E.ng E.nb (enc a) = true) : ∀ l : List α,frzL E.ng E.nb (l.flatMap enc) = true
 | [] => by simp [frzL]
 | a :: l => by rw [List.flatMap_cons]; exact AbsYtkhcbbpfchgemaaDoor.frzL_append (hf a) (frzL_flat hf l)
theorem oc_flat (ho : ∀ a,(enc a).all oneCell = true) (l : List α) : (l.flatMap enc).all oneCell = true := by
 rw [List.all_flatMap]
 rw [List.all_eq_true]
 intro a _
 exact ho a
theorem app_deep {K : Value → AHeap → Prop} {x : Value} {xs : List α} {t e u by_ a1 a2 : Nat} {z1 : Option (List ZV)} {q1 q2 : Bool} {k2 : TK} {zs : List ZV} {iu : TI}
  (ht : E.ty.get t = some ⟨.slice e,a1,a2,z1,q1⟩) (he : E.ty.get e = some ⟨k2,sz,by_,some zs,q2⟩) (hz : zs.length = sz) (hs0 : 0 < sz) (hby : 0 < by_) (hu : E.ty.get u = some iu) (hki : iu.k.isInt = false) (hdp : E.dp t = true)
  (hb : ∀ a,bareL (enc a) = enc a) (hf : ∀ a,frzL E.ng E.nb (enc a) = true) (ho : ∀ a,(enc a).all oneCell = true)
  (hv : DG enc sz σ v l fp) (hx : DL enc sz x xs) (hn : (l.length + xs.length) * by_ ≤ 140737488355328) (hq : ∀ σ' v' fp',Kept σ fp σ' fp' → DG enc sz σ' v' (l ++ xs) fp' → K v' σ') :
  afterOpS E B (some (.any fun b => aappend E (σ.resize b) [t,u] [v,x])) σ K := by
 intro b hb0
 have hbd : σ.get b = .dead := by
  rcases hg : σ.get b with _ | _ | _
  ·rfl
  ·exact absurd (hb0 b (by rw [hg]; simp)) (Nat.lt_irrefl _)
  ·exact absurd (hb0 b (by rw [hg]; simp)) (Nat.lt_irrefl _)
 have hz5 : azero E e = some (zs.map ZV.val) := by unfold azero; rw [he]; rfl
 have hsrc : srcCells (σ.resize b) sz x = some (xs.length,xs.flatMap enc) := by
  rcases hx with ⟨rfl,rfl⟩ | ⟨m,rfl⟩
  ·rfl
  ·simp only [dsl,srcCells,if_true]
 have hbare := bareL_flat hb xs
 have hfz := frzL_flat hf xs
 have hoc := oc_flat ho xs
 have c0 : (sz == 0 || by_ == 0 || (zs.map ZV.val).length != sz || iu.k.isInt) = false := by
  rw [List.length_map,hz,hki]
  have h1 : (sz == 0) = false := by simp; omega
  have h2 : (by_ == 0) = false := by simp; omega
  rw [h1,h2]; simp
 have c0' : (decide (sz = 0) || decide (by_ = 0) || (zs.map ZV.val).length != sz || iu.k.isInt) = false := by
  rw [List.length_map,hz,hki]
  have h1 : decide (sz = 0) = false := by simp; omega
  have h2 : decide (by_ = 0) = false := by simp; omega
  rw [h1,h2]; simp
 have hnew : ∀ τ : AHeap,τ.size = b → (∀ c,c ∉ fp → τ.get c = σ.get c) → Kept σ fp ((deepNew τ sz (l.length + xs.length) ((l ++ xs).flatMap enc)).2.resize σ.size) [b] ∧ DG enc sz ((deepNew τ sz (l.length + xs.length) ((l ++ xs).flatMap enc)).2.resize σ.size) (deepNew τ sz (l.length + xs.length) ((l ++ xs).flatMap enc)).1 (l ++ xs) [b] := by
  intro τ hτ hg
  subst hτ
  refine ⟨⟨fun c hc hn => ?_,fun c hc => ?_⟩,.inr ⟨τ.size + 2,by simp only [deepNew,List.length_append],.inr ⟨τ.size,rfl,AHeap.get_alloc_same _ _,rfl⟩⟩⟩
  ·show (τ.alloc _).get c = σ.get c
   rw [AHeap.get_alloc_ne _ _ (by rintro rfl; exact hc hbd)]
   exact hg c hn
  ·obtain rfl := List.mem_singleton.1 hc; exact .inr hbd
 rcases hv with ⟨rfl,rfl,rfl⟩ | ⟨m,rfl,hm⟩
 ·by_cases h0 : xs.length = 0
  ·refine ⟨.slice none 0 0,σ.resize b,?_,hq _ _ [] ⟨fun c _ _ => rfl,fun _ h => by cases h⟩ (.inl ⟨by rw [List.nil_append]; exact List.eq_nil_of_length_eq_zero h0,rfl,rfl⟩)⟩
   simp only [aappend,ht,hu,he,hz5,hsrc,c0,c0',h0,Bool.false_eq_true,if_false,if_true,decide_true]
   try simp
  ·obtain ⟨g1,g2⟩ := hnew (σ.resize b) rfl (fun c _ => rfl)
   refine ⟨_,_,?_,hq _ _ _ g1 g2⟩
   have c1 : xs.length * by_ ≤ 140737488355328 := by simpa using hn
   simp only [aappend,ht,hu,he,hz5,hsrc,c0,c0',h0,hoc,hbare,hfz,hdp,c1,Bool.false_eq_true,if_false,if_true,decide_true,Bool.and_self,List.nil_append,List.length_nil,Nat.zero_add]
 ·by_cases h0 : xs.length = 0
  ·refine ⟨_,σ.resize b,?_,hq _ (dsl m sz l.length (l.flatMap enc)) fp ⟨fun c _ _ => rfl,fun _ h => .inl h⟩ (.inr ⟨m,by rw [List.eq_nil_of_length_eq_zero h0,List.append_nil],hm⟩)⟩
   simp only [aappend,ht,hu,he,hz5,hsrc,c0,c0',h0,dsl,Bool.false_eq_true,if_false,if_true,decide_true]
  ·have c2 : (l.flatMap enc ++ xs.flatMap enc) = (l ++ xs).flatMap enc := by rw [List.flatMap_append]
   rcases hm with ⟨rfl,rfl⟩ | ⟨tk,rfl,hg,rfl⟩
   ·obtain ⟨g1,g2⟩ := hnew (σ.resize b) rfl (fun c _ => rfl)
    refine ⟨_,_,?_,hq _ _ _ g1 g2⟩
    simp only [aappend,ht,hu,he,hz5,hsrc,c0,c0',h0,dsl,hn,hoc,hbare,hfz,c2,Bool.false_eq_true,if_false,if_true,decide_true,Bool.and_self]
   ·obtain ⟨g1,g2⟩ := hnew ((σ.resize b).set tk .dead) rfl (fun c hc => by rw [AHeap.get_set_ne _ _ (by rintro rfl; exact hc (by simp))]; rfl)
    refine ⟨_,_,?_,hq _ _ _ g1 g2⟩
    simp only [aappend,ht,hu,he,hz5,hsrc,c0,c0',h0,dsl,hn,hoc,hbare,hfz,c2,get_resize,hg,Bool.false_eq_true,if_false,if_true,decide_true,Bool.and_self]
end
def resC (v : Option Value) (r : Option (List Value)) : Option (List Value) := match v,r with
 | some v,some r => some (v :: r)
 | _,_ => none
theorem res_cellc {E : Env} {H : AHeap} {n : Nat} {f : Nat → Value} {a t : Nat} {r : List ResultVar} : AbsYtkhcbbpfchgemaaDoor.results E (L n f) H (.cell a t :: r) = resC (aload E H t (if a < n then f a else undef)) (AbsYtkhcbbpfchgemaaDoor.results E (L n f) H r) := by
 have e : (L n f).getD a undef = if a < n then f a else undef := aev_tmp (t := a)
 simp only [AbsYtkhcbbpfchgemaaDoor.results,e]
 cases aload E H t (if a < n then f a else undef) <;> cases AbsYtkhcbbpfchgemaaDoor.results E (L n f) H r <;> rfl
theorem resC_some {v : Value} {r : List Value} : resC (some v) (some r) = some (v :: r) := rfl
def lastP (K : List Value → AHeap → Prop) : List (List Value × AHeap) → Prop
 | [] => False
 | [s] => K s.1 s.2
 | _ :: s :: l => lastP K (s :: l)
theorem lastP_cc {K : List Value → AHeap → Prop} {a b : List Value × AHeap} {l : List (List Value × AHeap)} : lastP K (a :: b :: l) = lastP K (b :: l) := rfl
theorem lastP_one {K : List Value → AHeap → Prop} {A : List Value} {H : AHeap} : lastP K [(A,H)] = K A H := rfl
theorem lastP_get {K : List Value → AHeap → Prop} : ∀ {l : List (List Value × AHeap)},lastP K l → ∃ A H,l.getLast? = some (A,H) ∧ K A H
 | [],h => h.elim
 | [(A,H)],h => ⟨A,H,rfl,h⟩
 | _ :: s :: l,h => by
  obtain ⟨A,H,h1,h2⟩ := lastP_get (l := s :: l) h
  exact ⟨A,H,by rw [List.getLast?_cons_cons]; exact h1,h2⟩
theorem drawS_l {ops : Array Oper} {Q : AExit → List Value → AHeap → Prop} {tr : List (List Value × AHeap)} {fl : List (Nat × Nat)} (hf : floatPairs ops = fl) (h1 : fl.all (floatS B ops tr) = true) (h2 : lastP (Q .normal) tr) : drawS B ops Q tr := by
 obtain ⟨A,H,h3,h4⟩ := lastP_get h2
 exact drawS_of hf ⟨h1,A,H,h3,h4⟩
set_option maxHeartbeats 2000000
structure Pr where
 id : Int
 n : Int
 s : ByteArray
 v : ByteArray
deriving DecidableEq
def propC (p : Pr) : List Value := [.int .i64 p.id,.int .i64 p.n,.string p.s,.string p.v]
def ids : List Int := [1,2,3,8,9,11,17,18,19,21,22,23,24,25,26,28,31,33,34,35,36,37,38,39,40,41,42]
def typI (id : Int) : Int :=
 if id = 1 ∨ id = 23 ∨ id = 25 ∨ id = 36 ∨ id = 37 ∨ id = 40 ∨ id = 41 ∨ id = 42 then 1
 else if id = 19 ∨ id = 33 ∨ id = 34 ∨ id = 35 then 2
 else if id = 2 ∨ id = 17 ∨ id = 24 ∨ id = 39 then 4
 else if id = 11 then 5
 else if id = 3 ∨ id = 8 ∨ id = 18 ∨ id = 21 ∨ id = 26 ∨ id = 28 ∨ id = 31 then 6
 else if id = 9 ∨ id = 22 then 7
 else if id = 38 then 9 else 0
def allow (id pl : Int) : Bool :=
 if id = 1 ∨ id = 2 ∨ id = 3 ∨ id = 8 ∨ id = 9 then decide (pl = 3 ∨ pl = 16)
 else if id = 11 then decide (pl = 3 ∨ pl = 8)
 else if id = 35 then decide (pl = 3)
 else if id = 24 then decide (pl = 16)
 else if id = 23 ∨ id = 25 then decide (pl = 1)
 else if id = 18 ∨ id = 19 ∨ id = 26 ∨ id = 36 ∨ id = 37 ∨ id = 40 ∨ id = 41 ∨ id = 42 then decide (pl = 2)
 else if id = 28 then decide (pl = 2 ∨ pl = 14)
 else if id = 33 ∨ id = 34 ∨ id = 39 then decide (pl = 1 ∨ pl = 2)
 else if id = 17 then decide (pl = 1 ∨ pl = 2 ∨ pl = 14)
 else if id = 21 ∨ id = 22 then decide (pl = 1 ∨ pl = 2 ∨ pl = 15)
 else if id = 31 then decide (pl = 2 ∨ pl = 4 ∨ pl = 5 ∨ pl = 6 ∨ pl = 7 ∨ pl = 9 ∨ pl = 11 ∨ pl = 14 ∨ pl = 15)
 else if id = 38 then decide (1 ≤ pl ∧ pl ≤ 16 ∧ pl ≠ 12 ∧ pl ≠ 13)
 else false
def numOk (p : Pr) : Bool :=
 if p.id = 1 ∨ p.id = 23 ∨ p.id = 25 ∨ p.id = 36 ∨ p.id = 37 ∨ p.id = 40 ∨ p.id = 41 ∨ p.id = 42 then decide (p.n = 0 ∨ p.n = 1)
 else if p.id = 11 ∨ p.id = 33 ∨ p.id = 35 ∨ p.id = 39 then decide (0 < p.n) else true
def hasId (l : List Pr) (id : Int) : Bool := l.any fun p => decide (p.id = id)
def groundP (pl : Int) (ahead : List Pr) (id : Int) : Option (Nat × Nat) :=
 if 64 ≤ ahead.length then some (4,149)
 else if typI id = 0 ∨ allow id pl = false then some (2,129)
 else if id ≠ 38 ∧ ¬ (id = 11 ∧ pl = 3) ∧ hasId ahead id = true then some (3,130) else none
def badP (pl : Int) (ahead : List Pr) (p : Pr) : Option (Nat × Nat) := match groundP pl ahead p.id with
 | some e => some e
 | none => if numOk p then none else some (3,130)
def valueR (id : Int) (s : ByteArray) (p : Nat) : Rd Pr :=
 if typI id = 9 then match textR s p with
  | .error e => .error e
  | .ok (a,q) => match textR s q with
   | .error e => .error e
   | .ok (b,q') => .ok (⟨id,0,a,b⟩,q')
 else match rdA (typI id) s p with
  | .error e => .error e
  | .ok ((n,a),q) => .ok (⟨id,n,a,emp⟩,q)
def oneR (pl : Int) (s : ByteArray) (p : Nat) (ahead : List Pr) : Except (Nat × Nat × Nat) (Pr × Nat) := match varR s p with
 | .error (k,q) => .error (k,129,q)
 | .ok (id,q) => match groundP pl ahead id with
  | some (k,r) => .error (k,r,p)
  | none => match valueR id s q with
   | .error (k,q') => .error (k,129,q')
   | .ok (pr,q') => if numOk pr then .ok (pr,q') else .error (3,130,p)
inductive AllP (pl : Int) (s : ByteArray) : Nat → List Pr → Except (Nat × Nat × Nat) (List Pr) → Prop
 | nil {p : Nat} {l : List Pr} (h : s.size ≤ p) : AllP pl s p l (.ok l)
 | bad {p : Nat} {l : List Pr} {e : Nat × Nat × Nat} (h : p < s.size) (ho : oneR pl s p l = .error e) : AllP pl s p l (.error e)
 | step {p q : Nat} {l : List Pr} {x : Pr} {r : Except (Nat × Nat × Nat) (List Pr)} (h : p < s.size) (ho : oneR pl s p l = .ok (x,q)) (hr : AllP pl s q (l ++ [x]) r) : AllP pl s p l r
def ReadP (pl : Int) (s : ByteArray) (p : Nat) (r : Except (Nat × Nat × Nat) (List Pr × Nat)) : Prop := match varR s p with
 | .error (k,q) => r = .error (k,129,q)
 | .ok (n,q) => match rawR s q n with
  | .error (k,q') => r = .error (k,129,q')
  | .ok (all,q') => ∃ r',AllP pl all 0 [] r' ∧ match r' with
   | .error (k,rr,a) => r = .error (k,rr,(q' - all.size) + a)
   | .ok l => r = .ok (l,q')
end Go.Proofs.YtkhcbbpfchgemaaDoor.AbsB
