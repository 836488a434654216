/-
  Parts of a law's proof.
-/
import Derived.Test.YtkhcbbpfchgemaaDoorABitsqcJ
import Derived.Test.YtkhcbbpfchgemaaDoorAYrqeJ
namespace Go.Proofs.YtkhcbbpfchgemaaDoor.AbsB
open Go AbsYtkhcbbpfchgemaaDoor Abs
set_option maxRecDepth 100000
set_option maxHeartbeats 4000000
set_option linter.unusedSimpArgs false
set_option linter.unusedVariables false
attribute [local irreducible] afterS afterOpS opSK OpsS TrS CodeS condS condW thenS thenQ guardS guardTS outS drawS trSK consS
structure Mv where
 m : Ms
 v : Value
 h : DL propC 4 v m.l
def mvC (x : Mv) : List Value := msC x.m x.v
theorem mvC_len (x : Mv) : (mvC x).length = 9 := rfl
theorem mvC_oc (x : Mv) : (mvC x).all oneCell = true := by
 have := (dl_vc x.h).2
 simp only [mvC,msC,List.all_cons,List.all_nil,this,Bool.and_true]
 rfl
def isK (o : Op1) (m : Ms) : Prop := m.g = o.g ∧ m.n = o.n
instance (o : Op1) (m : Ms) : Decidable (isK o m) := by unfold isK; infer_instance
open Classical in
noncomputable def tkO (s : ByteArray) : Option Op1 := if h : ∃ o,DecO s (.ok o) then some h.choose else none
theorem tkO_ok {s : ByteArray} {o : Op1} (h : DecO s (.ok o)) : tkO s = some o := by
 unfold tkO
 have he : ∃ o,DecO s (.ok o) := ⟨o,h⟩
 rw [dif_pos he]
 have := DecO.det he.choose_spec h
 injection this with this
 rw [this]
theorem tkO_bad {s : ByteArray} {e : E3} (h : DecO s (.error e)) : tkO s = none := by
 unfold tkO
 rw [dif_neg]
 rintro ⟨o,ho⟩
 cases DecO.det ho h
def stO (o : Op1) (M : List Ms) : List Ms := if o.k = 1 then (if ∀ m ∈ M,¬ isK o m then M ++ [o.m] else M) else M.eraseIdx (M.findIdx fun m => decide (isK o m))
def foldO : List (Option Op1) → List Ms × Int → List Ms × Int
 | [],a => a
 | none :: r,a => foldO r a
 | some o :: r,a => foldO r (stO o a.1,max a.2 o.n)
theorem foldO_snoc (l : List (Option Op1)) (x : Option Op1) (a : List Ms × Int) : foldO (l ++ [x]) a = match x with | none => foldO l a | some o => (stO o (foldO l a).1,max (foldO l a).2 o.n) := by
 induction l generalizing a with
 | nil => cases x <;> rfl
 | cons y r ih => cases y <;> exact ih _
theorem foldO_len (l : List (Option Op1)) (a : List Ms × Int) : (foldO l a).1.length ≤ a.1.length + l.length := by
 induction l generalizing a with
 | nil => simp [foldO]
 | cons y r ih =>
  cases y with
  | none => simp only [foldO,List.length_cons]; have := ih a; omega
  | some o =>
   simp only [foldO,List.length_cons]
   have h1 := ih (stO o a.1,max a.2 o.n)
   have h2 : (stO o a.1).length ≤ a.1.length + 1 := by
    unfold stO
    split
    ·split
     ·simp
     ·omega
    ·have := List.length_eraseIdx_le a.1 (a.1.findIdx fun m => decide (isK o m)); omega
   simp only at h1
   omega
section
variable {σ : AHeap} {Q : Value → AHeap → Prop} {L : List Mv} {fp : List Nat}
theorem specRp1 {c : Nat} {x : Mv} {o : Op1} {vo : Value} (hc : σ.get c = .cells (opC o vo) true 0) (hq : Q (.bool (decide (isK o x.m))) σ) : CallS E B 13 [.agg ⟨mvC x⟩,.pointer (some ⟨c,0,none⟩)] σ Q := by
 obtain ⟨u,hu,hbx⟩ := boxMs x.h
 have hvc := dl_vc hu
 unfold isK at hq
 unfold mvC
 simp only [opC] at hc
 simp only [msC] at hbx ⊢
 by_cases h1 : x.m.g = o.g
 ·by_cases h2 : x.m.n = o.n
  ·have hn : decide (x.m.g = o.g ∧ x.m.n = o.n) = true := decide_eq_true ⟨h1,h2⟩
   rw [hn] at hq
   refine call13 (by simp) ?_
   simp only [strip,bodyOf,Tryd.f13,getD_body,keepN,bareOp_mk,lessOp_mk,lapp_cons,lapp_nil,List.map_cons,List.map_nil,array_toList,↓reduceIte,Nat.reduceEqDiff,Bool.false_eq_true]
   simp (disch := first | assumption | simp) only [↓sbD,sbU,tyB,Nat.reduceMul,Nat.reduceSub,Int.reduceEq,Int.reduceLT,Int.reduceLE,Int.reduceNe,Nat.reduceBneDiff,Nat.reduceBEq,decide_false,gt_iff_lt,Bool.or_self,Bool.false_eq_true,Nat.mul_one,Nat.one_mul,Nat.zero_mul,↓reduceIte,Nat.reduceEqDiff,Nat.reduceLT,Nat.reduceAdd,Nat.reduceLeDiff,reduceCtorEq,goInt,pairs,isConst,TI.isAgg,splice,Edp,dpv,Nat.beq_eq,ZV.val,List.any_cons,List.any_nil,Bool.false_and,hbx,hc,bytes_dec,eq_true h1,eq_true h2,hvc.1,hvc.2]
   exact downS_here hq
  ·have hn : decide (x.m.g = o.g ∧ x.m.n = o.n) = false := decide_eq_false fun h => h2 h.2
   rw [hn] at hq
   refine call13 (by simp) ?_
   simp only [strip,bodyOf,Tryd.f13,getD_body,keepN,bareOp_mk,lessOp_mk,lapp_cons,lapp_nil,List.map_cons,List.map_nil,array_toList,↓reduceIte,Nat.reduceEqDiff,Bool.false_eq_true]
   simp (disch := first | assumption | simp) only [↓sbD,sbU,tyB,Nat.reduceMul,Nat.reduceSub,Int.reduceEq,Int.reduceLT,Int.reduceLE,Int.reduceNe,Nat.reduceBneDiff,Nat.reduceBEq,decide_false,gt_iff_lt,Bool.or_self,Bool.false_eq_true,Nat.mul_one,Nat.one_mul,Nat.zero_mul,↓reduceIte,Nat.reduceEqDiff,Nat.reduceLT,Nat.reduceAdd,Nat.reduceLeDiff,reduceCtorEq,goInt,pairs,isConst,TI.isAgg,splice,Edp,dpv,Nat.beq_eq,ZV.val,List.any_cons,List.any_nil,Bool.false_and,hbx,hc,bytes_dec,eq_true h1,h2,hvc.1,hvc.2]
   exact downS_here hq
 ·have hn : decide (x.m.g = o.g ∧ x.m.n = o.n) = false := decide_eq_false fun h => h1 h.1
  rw [hn] at hq
  refine call13 (by simp) ?_
  simp only [strip,bodyOf,Tryd.f13,getD_body,keepN,bareOp_mk,lessOp_mk,lapp_cons,lapp_nil,List.map_cons,List.map_nil,array_toList,↓reduceIte,Nat.reduceEqDiff,Bool.false_eq_true]
  simp (disch := first | assumption | simp) only [↓sbD,sbU,tyB,Nat.reduceMul,Nat.reduceSub,Int.reduceEq,Int.reduceLT,Int.reduceLE,Int.reduceNe,Nat.reduceBneDiff,Nat.reduceBEq,decide_false,gt_iff_lt,Bool.or_self,Bool.false_eq_true,Nat.mul_one,Nat.one_mul,Nat.zero_mul,↓reduceIte,Nat.reduceEqDiff,Nat.reduceLT,Nat.reduceAdd,Nat.reduceLeDiff,reduceCtorEq,goInt,pairs,isConst,TI.isAgg,splice,Edp,dpv,Nat.beq_eq,ZV.val,List.any_cons,List.any_nil,Bool.false_and,hbx,hc,bytes_dec,h1,hvc.1,hvc.2]
  exact downS_here hq
theorem specRpIdx {c : Nat} {o : Op1} {vo v : Value} (g : GS mvC 9 σ v L fp) (hc : σ.get c = .cells (opC o vo) true 0) (hs : L.length ≤ 100000)
  (hin : ∀ i (hi : i < L.length),isK o L[i].m → (∀ j (hj : j < L.length),j < i → ¬ isK o L[j].m) → Q (.int .i64 (i : Int)) σ) (hout : (∀ x ∈ L,¬ isK o x.m) → Q (.int .i64 (-1)) σ) :
  CallS E B 12 [v,.func (.func 13) ⟨[]⟩ ⟨[.pointer (some ⟨c,0,none⟩)]⟩] σ Q := by
 have hlen := fun τ : AHeap => g.len (E := E) (τ := τ) ty24
 refine call12 (by simp) ?_
 simp only [strip,bodyOf,Tryd.f12,getD_body,keepN,bareOp_mk,lessOp_mk,lapp_cons,lapp_nil,List.map_cons,List.map_nil,array_toList,↓reduceIte,Nat.reduceEqDiff,Bool.false_eq_true]
 simp (disch := first | assumption | simp) only [↓sbD,sbU,tyB,Nat.reduceMul,Nat.reduceSub,Int.reduceEq,Int.reduceLT,Int.reduceLE,Int.reduceNe,Nat.reduceBneDiff,Nat.reduceBEq,decide_false,gt_iff_lt,Bool.or_self,Bool.false_eq_true,Nat.mul_one,Nat.one_mul,Nat.zero_mul,↓reduceIte,Nat.reduceEqDiff,Nat.reduceLT,Nat.reduceAdd,Nat.reduceLeDiff,reduceCtorEq,goInt,pairs,isConst,TI.isAgg,splice,boxS,Edp,dpv,Nat.beq_eq,ZV.val,List.any_cons,List.any_nil,Bool.false_and,hlen]
 refine S_loop (fun m f σ' => ∃ i : Nat,m + i = L.length ∧ f 8 = .int .i64 i ∧ (∀ j (hj : j < L.length),j < i → ¬ isK o L[j].m) ∧ σ' = σ) L.length (Le.refl _) ⟨0,rfl,by simp (disch := first | assumption | simp) only [↓sbD,sbU,tyB,Nat.reduceMul,Nat.reduceSub,Int.reduceEq,Int.reduceLT,Int.reduceLE,Int.reduceNe,Nat.reduceBneDiff,Nat.reduceBEq,decide_false,gt_iff_lt,Bool.or_self,Bool.false_eq_true,Nat.mul_one,Nat.one_mul,Nat.zero_mul,↓reduceIte,Nat.reduceEqDiff,Nat.reduceLT,Nat.reduceAdd,Nat.reduceLeDiff,reduceCtorEq,goInt,pairs,isConst,TI.isAgg,splice,boxS,Edp,dpv,Nat.beq_eq,ZV.val,List.any_cons,List.any_nil,Bool.false_and]; rfl,fun j _ hj => by omega,rfl⟩ ?_
 rintro m f σ1 ⟨i,hm,f8,hno,rfl⟩ hf
 have f0 := hf 0 (by decide) (notMem_wr (by kernel_rfl))
 have f1 := hf 1 (by decide) (notMem_wr (by kernel_rfl))
 have f7 := hf 7 (by decide) (notMem_wr (by kernel_rfl))
 simp (disch := first | assumption | simp) only [↓sbD,sbU,tyB,Nat.reduceMul,Nat.reduceSub,Int.reduceEq,Int.reduceLT,Int.reduceLE,Int.reduceNe,Nat.reduceBneDiff,Nat.reduceBEq,decide_false,gt_iff_lt,Bool.or_self,Bool.false_eq_true,Nat.mul_one,Nat.one_mul,Nat.zero_mul,↓reduceIte,Nat.reduceEqDiff,Nat.reduceLT,Nat.reduceAdd,Nat.reduceLeDiff,reduceCtorEq,goInt,pairs,isConst,TI.isAgg,splice,boxS,Edp,dpv,Nat.beq_eq,ZV.val,List.any_cons,List.any_nil,Bool.false_and] at f0 f1 f7
 clear hf
 by_cases hi : (i : Int) < (L.length : Int)
 ·have hi' : i < L.length := by omega
  obtain ⟨d,o',xs,hia,gd,hle,hta,hfd,_⟩ := g.at (E := E) mvC_len hi' ty24 ty30
  have hw := wrap_suc (n := i) (by omega)
  have hin' := hin i hi'
  generalize hy : L[i] = y at hta hin'
  simp (disch := first | assumption | simp) only [↓sbD,sbU,tyB,Nat.reduceMul,Nat.reduceSub,Int.reduceEq,Int.reduceLT,Int.reduceLE,Int.reduceNe,Nat.reduceBneDiff,Nat.reduceBEq,decide_false,gt_iff_lt,Bool.or_self,Bool.false_eq_true,Nat.mul_one,Nat.one_mul,Nat.zero_mul,↓reduceIte,Nat.reduceEqDiff,Nat.reduceLT,Nat.reduceAdd,Nat.reduceLeDiff,reduceCtorEq,goInt,pairs,isConst,TI.isAgg,splice,boxS,Edp,dpv,Nat.beq_eq,ZV.val,List.any_cons,List.any_nil,Bool.false_and,f0,f1,f7,f8,hi,hia,gd,hle,hta]
  refine specRp1 (x := y) hc ?_
  by_cases he : isK o y.m
  ·simp (disch := first | assumption | simp) only [↓sbD,sbU,tyB,Nat.reduceMul,Nat.reduceSub,Int.reduceEq,Int.reduceLT,Int.reduceLE,Int.reduceNe,Nat.reduceBneDiff,Nat.reduceBEq,decide_false,gt_iff_lt,Bool.or_self,Bool.false_eq_true,Nat.mul_one,Nat.one_mul,Nat.zero_mul,↓reduceIte,Nat.reduceEqDiff,Nat.reduceLT,Nat.reduceAdd,Nat.reduceLeDiff,reduceCtorEq,goInt,pairs,isConst,TI.isAgg,splice,boxS,Edp,dpv,Nat.beq_eq,ZV.val,List.any_cons,List.any_nil,Bool.false_and,eq_true he]
   exact downS_here (hin' he hno)
  ·simp (disch := first | assumption | simp) only [↓sbD,sbU,tyB,Nat.reduceMul,Nat.reduceSub,Int.reduceEq,Int.reduceLT,Int.reduceLE,Int.reduceNe,Nat.reduceBneDiff,Nat.reduceBEq,decide_false,gt_iff_lt,Bool.or_self,Bool.false_eq_true,Nat.mul_one,Nat.one_mul,Nat.zero_mul,↓reduceIte,Nat.reduceEqDiff,Nat.reduceLT,Nat.reduceAdd,Nat.reduceLeDiff,reduceCtorEq,goInt,pairs,isConst,TI.isAgg,splice,boxS,Edp,dpv,Nat.beq_eq,ZV.val,List.any_cons,List.any_nil,Bool.false_and,he,f8,hw]
   refine ⟨_,m - 1,_,rfl,by omega,Le.refl _,i + 1,by omega,by simp (disch := first | assumption | simp) only [↓sbD,sbU,tyB,Nat.reduceMul,Nat.reduceSub,Int.reduceEq,Int.reduceLT,Int.reduceLE,Int.reduceNe,Nat.reduceBneDiff,Nat.reduceBEq,decide_false,gt_iff_lt,Bool.or_self,Bool.false_eq_true,Nat.mul_one,Nat.one_mul,Nat.zero_mul,↓reduceIte,Nat.reduceEqDiff,Nat.reduceLT,Nat.reduceAdd,Nat.reduceLeDiff,reduceCtorEq,goInt,pairs,isConst,TI.isAgg,splice,boxS,Edp,dpv,Nat.beq_eq,ZV.val,List.any_cons,List.any_nil,Bool.false_and],fun j hj hji => ?_,rfl⟩
   rcases (by omega : j < i ∨ j = i) with h3 | rfl
   ·exact hno j hj h3
   ·rw [hy]; exact he
 ·simp (disch := first | assumption | simp) only [↓sbD,sbU,tyB,Nat.reduceMul,Nat.reduceSub,Int.reduceEq,Int.reduceLT,Int.reduceLE,Int.reduceNe,Nat.reduceBneDiff,Nat.reduceBEq,decide_false,gt_iff_lt,Bool.or_self,Bool.false_eq_true,Nat.mul_one,Nat.one_mul,Nat.zero_mul,↓reduceIte,Nat.reduceEqDiff,Nat.reduceLT,Nat.reduceAdd,Nat.reduceLeDiff,reduceCtorEq,goInt,pairs,isConst,TI.isAgg,splice,boxS,Edp,dpv,Nat.beq_eq,ZV.val,List.any_cons,List.any_nil,Bool.false_and,f0,f1,f7,f8,hi]
  refine downS_here (hout fun p hp => ?_)
  obtain ⟨j,hj,rfl⟩ := List.getElem_of_mem hp
  exact hno j hj (by omega)
theorem specRpDel {v : Value} {i : Nat} (g : GS mvC 9 σ v L fp) (hi : i < L.length) (hs : L.length ≤ 100000) (hq : ∀ v' σ',GS mvC 9 σ' v' (L.eraseIdx i) fp → Kept σ fp σ' fp → Q v' σ') :
  CallS E B 14 [v,.int .i64 (i : Int),.int .i64 ((i + 1 : Nat) : Int)] σ Q := by
 have hlen := fun τ : AHeap => g.len (E := E) (τ := τ) ty24
 obtain ⟨va,vb,vd,v1,vc,σ1,o2,d,h1,h2,h3,h4,h5,h6,h7,h8,rfl,h9,h10⟩ := g.del (E := E) mvC_len mvC_oc hi ty24 ty30 rfl rfl (by decide) (by decide) ty24 rfl
 have hne : ¬ (i : Int) = ((i + 1 : Nat) : Int) := by omega
 refine call14 (by simp) ?_
 simp only [strip,bodyOf,Tryd.f14,getD_body,keepN,bareOp_mk,lessOp_mk,lapp_cons,lapp_nil,List.map_cons,List.map_nil,array_toList,↓reduceIte,Nat.reduceEqDiff,Bool.false_eq_true]
 simp (disch := first | assumption | simp) only [↓sbD,sbU,tyB,Nat.reduceMul,Nat.reduceSub,Int.reduceEq,Int.reduceLT,Int.reduceLE,Int.reduceNe,Nat.reduceBneDiff,Nat.reduceBEq,decide_false,gt_iff_lt,Bool.or_self,Bool.false_eq_true,Nat.mul_one,Nat.one_mul,Nat.zero_mul,↓reduceIte,Nat.reduceEqDiff,Nat.reduceLT,Nat.reduceAdd,Nat.reduceLeDiff,reduceCtorEq,goInt,pairs,isConst,TI.isAgg,splice,boxS,Edp,dpv,Nat.beq_eq,ZV.val,List.any_cons,List.any_nil,Bool.false_and,hlen,h1,hne,h2,h3]
 refine (fun {K : Value → AHeap → Prop} (hk : K v1 σ1) => (show afterOpS E B (some (.any fun b => aappend E (σ.resize b) [24,24] [va,vb])) σ K from by
  simp (disch := first | assumption | simp) only [↓sbD,sbU,tyB,Nat.reduceMul,Nat.reduceSub,Int.reduceEq,Int.reduceLT,Int.reduceLE,Int.reduceNe,Nat.reduceBneDiff,Nat.reduceBEq,decide_false,gt_iff_lt,Bool.or_self,Bool.false_eq_true,Nat.mul_one,Nat.one_mul,Nat.zero_mul,↓reduceIte,Nat.reduceEqDiff,Nat.reduceLT,Nat.reduceAdd,Nat.reduceLeDiff,reduceCtorEq,goInt,pairs,isConst,TI.isAgg,splice,boxS,Edp,dpv,Nat.beq_eq,ZV.val,List.any_cons,List.any_nil,Bool.false_and,AS_any]
  intro b hb
  exact ⟨v1,σ1.resize b,h4 b,by rw [h5 b]; exact hk⟩)) ?_
 simp (disch := first | assumption | simp) only [↓sbD,sbU,tyB,Nat.reduceMul,Nat.reduceSub,Int.reduceEq,Int.reduceLT,Int.reduceLE,Int.reduceNe,Nat.reduceBneDiff,Nat.reduceBEq,decide_false,gt_iff_lt,Bool.or_self,Bool.false_eq_true,Nat.mul_one,Nat.one_mul,Nat.zero_mul,↓reduceIte,Nat.reduceEqDiff,Nat.reduceLT,Nat.reduceAdd,Nat.reduceLeDiff,reduceCtorEq,goInt,pairs,isConst,TI.isAgg,splice,boxS,Edp,dpv,Nat.beq_eq,ZV.val,List.any_cons,List.any_nil,Bool.false_and,h6,h7,h8]
 exact downS_here (hq _ _ h10 ⟨fun c hc hn => by
  have hcd : c ≠ d := fun e => hn (by simp [e])
  rw [AHeap.get_set_ne _ _ hcd.symm,h9 c hcd],fun c hc => .inl hc⟩)
theorem bs_mv {x : Mv} {K : Value → AHeap → Prop} (hq : ∀ d,σ.get d = .dead → K (.slice (some ⟨d,0,some 1⟩) 1 1) (σ.set d (.cells (mvC x) true 9))) : afterOpS E B (some (bsS E σ 24 1 [(0,.agg ⟨mvC x⟩)])) σ K := by
 have hvc := dl_vc x.h
 simp only [mvC,msC] at hq ⊢
 simp (disch := first | assumption | simp) only [↓sbD,sbU,tyB,Nat.reduceMul,Nat.reduceSub,Int.reduceEq,Int.reduceLT,Int.reduceLE,Int.reduceNe,Nat.reduceBneDiff,Nat.reduceBEq,decide_false,gt_iff_lt,Bool.or_self,Bool.false_eq_true,Nat.mul_one,Nat.one_mul,Nat.zero_mul,↓reduceIte,Nat.reduceEqDiff,Nat.reduceLT,Nat.reduceAdd,Nat.reduceLeDiff,reduceCtorEq,goInt,pairs,isConst,TI.isAgg,splice,boxS,Edp,dpv,Nat.beq_eq,ZV.val,List.any_cons,List.any_nil,Bool.false_and,AS_any,hvc.1,hvc.2]
 intro d hd
 exact ⟨_,_,rfl,hq d (dead_of hd)⟩
theorem src_mv {d : Nat} {x : Mv} (g : σ.get d = .cells (mvC x) true 9) : srcCells σ 9 (.slice (some ⟨d,0,some 1⟩) 1 1) = some ([x].length,[x].flatMap mvC) := by
 simp only [srcCells,takeCells,g]
 rfl
theorem eraseIdx_mapR {α β : Type} (f : α → β) : ∀ (l : List α) (i : Nat),(l.eraseIdx i).map f = (l.map f).eraseIdx i
 | [],i => rfl
 | a :: l,0 => rfl
 | a :: l,i + 1 => by simp [eraseIdx_mapR f l i]
theorem findIdx_is {o : Op1} {L : List Mv} {i : Nat} (hi : i < L.length) (h1 : isK o L[i].m) (h2 : ∀ j (hj : j < L.length),j < i → ¬ isK o L[j].m) : (L.map Mv.m).findIdx (fun m => decide (isK o m)) = i := by
 have hl : i < (L.map Mv.m).length := by rw [List.length_map]; exact hi
 rw [List.findIdx_eq hl]
 refine ⟨by simp only [List.getElem_map]; exact decide_eq_true h1,fun j hj => ?_⟩
 simp only [List.getElem_map]
 exact decide_eq_false (h2 j (by omega) hj)
theorem mxE (a b : Int) : (if a < b then b else a) = max a b := by split <;> omega
theorem specReplay {l : List ByteArray} {vl : Value} (dl : DL strC1 1 vl l) (hn : l.length ≤ 10000) (hs : ∀ s ∈ l,s.size ≤ 100000000)
  (hq : ∀ v σ' fp' (L : List Mv),L.map Mv.m = (foldO (l.map tkO) ([],0)).1 → GS mvC 9 σ' v L fp' → Kept σ [] σ' fp' → Q (.tuple #[v,.int .i64 (foldO (l.map tkO) ([],0)).2]) σ') :
  CallS E B 5 [vl] σ Q := by
 have hvl := dl_vc dl
 have hll := DLst.len dl
 refine call5 (by simp) ?_
 simp only [strip,bodyOf,Tryd.f5,getD_body,keepN,bareOp_mk,lessOp_mk,lapp_cons,lapp_nil,List.map_cons,List.map_nil,array_toList,↓reduceIte,Nat.reduceEqDiff,Bool.false_eq_true]
 simp (disch := first | assumption | simp) only [↓sbD,sbU,tyB,Nat.reduceMul,Nat.reduceSub,Int.reduceEq,Int.reduceLT,Int.reduceLE,Int.reduceNe,Nat.reduceBneDiff,Nat.reduceBEq,decide_false,gt_iff_lt,Bool.or_self,Bool.false_eq_true,Nat.mul_one,Nat.one_mul,Nat.zero_mul,↓reduceIte,Nat.reduceEqDiff,Nat.reduceLT,Nat.reduceAdd,Nat.reduceLeDiff,reduceCtorEq,goInt,pairs,isConst,TI.isAgg,splice,boxS,Edp,dpv,Nat.beq_eq,ZV.val,List.any_cons,List.any_nil,Bool.false_and,hll]
 refine S_loop (fun m f σ' => ∃ i : Nat,m + i = l.length ∧ f 13 = .int .i64 i ∧ f 5 = .int .i64 (foldO ((l.take i).map tkO) ([],0)).2 ∧ ∃ v fp' L,f 4 = v ∧ L.map Mv.m = (foldO ((l.take i).map tkO) ([],0)).1 ∧ GS mvC 9 σ' v L fp' ∧ Kept σ [] σ' fp') l.length (Le.refl _) (by
  refine ⟨0,rfl,by simp (disch := first | assumption | simp) only [↓sbD,sbU,tyB,Nat.reduceMul,Nat.reduceSub,Int.reduceEq,Int.reduceLT,Int.reduceLE,Int.reduceNe,Nat.reduceBneDiff,Nat.reduceBEq,decide_false,gt_iff_lt,Bool.or_self,Bool.false_eq_true,Nat.mul_one,Nat.one_mul,Nat.zero_mul,↓reduceIte,Nat.reduceEqDiff,Nat.reduceLT,Nat.reduceAdd,Nat.reduceLeDiff,reduceCtorEq,goInt,pairs,isConst,TI.isAgg,splice,boxS,Edp,dpv,Nat.beq_eq,ZV.val,List.any_cons,List.any_nil,Bool.false_and]; rfl,by simp (disch := first | assumption | simp) only [↓sbD,sbU,tyB,Nat.reduceMul,Nat.reduceSub,Int.reduceEq,Int.reduceLT,Int.reduceLE,Int.reduceNe,Nat.reduceBneDiff,Nat.reduceBEq,decide_false,gt_iff_lt,Bool.or_self,Bool.false_eq_true,Nat.mul_one,Nat.one_mul,Nat.zero_mul,↓reduceIte,Nat.reduceEqDiff,Nat.reduceLT,Nat.reduceAdd,Nat.reduceLeDiff,reduceCtorEq,goInt,pairs,isConst,TI.isAgg,splice,boxS,Edp,dpv,Nat.beq_eq,ZV.val,List.any_cons,List.any_nil,Bool.false_and]; rfl,.slice none 0 0,[],[],by simp (disch := first | assumption | simp) only [↓sbD,sbU,tyB,Nat.reduceMul,Nat.reduceSub,Int.reduceEq,Int.reduceLT,Int.reduceLE,Int.reduceNe,Nat.reduceBneDiff,Nat.reduceBEq,decide_false,gt_iff_lt,Bool.or_self,Bool.false_eq_true,Nat.mul_one,Nat.one_mul,Nat.zero_mul,↓reduceIte,Nat.reduceEqDiff,Nat.reduceLT,Nat.reduceAdd,Nat.reduceLeDiff,reduceCtorEq,goInt,pairs,isConst,TI.isAgg,splice,boxS,Edp,dpv,Nat.beq_eq,ZV.val,List.any_cons,List.any_nil,Bool.false_and],rfl,GS.nil,Kept.refl _ _⟩) ?_
 rintro m f σ1 ⟨i,hm,f13,f5,v,fp1,L,f4,hL,gs,k1⟩ hf
 have f11 := hf 11 (by decide) (notMem_wr (by kernel_rfl))
 have f12 := hf 12 (by decide) (notMem_wr (by kernel_rfl))
 simp (disch := first | assumption | simp) only [↓sbD,sbU,tyB,Nat.reduceMul,Nat.reduceSub,Int.reduceEq,Int.reduceLT,Int.reduceLE,Int.reduceNe,Nat.reduceBneDiff,Nat.reduceBEq,decide_false,gt_iff_lt,Bool.or_self,Bool.false_eq_true,Nat.mul_one,Nat.one_mul,Nat.zero_mul,↓reduceIte,Nat.reduceEqDiff,Nat.reduceLT,Nat.reduceAdd,Nat.reduceLeDiff,reduceCtorEq,goInt,pairs,isConst,TI.isAgg,splice,boxS,Edp,dpv,Nat.beq_eq,ZV.val,List.any_cons,List.any_nil,Bool.false_and] at f11 f12
 clear hf
 by_cases hi : (i : Int) < (l.length : Int)
 ·have hi' : i < l.length := by omega
  have hia := DLst.at dl hi'
  have hac : strC1 l[i] = [.string l[i]] := rfl
  have hsi := hs l[i] (List.getElem_mem hi')
  have htk : (l.take (i + 1)).map tkO = (l.take i).map tkO ++ [tkO l[i]] := by rw [← List.take_append_getElem hi',List.map_append]; rfl
  have hLl : L.length ≤ 10000 := by
   have h1 := foldO_len ((l.take i).map tkO) ([],0)
   rw [← hL,List.length_map,List.length_map,List.length_take] at h1
   simp only [List.length_nil] at h1
   omega
  have hw := wrap_suc (n := i) (by omega)
  generalize hy : l[i] = y at hia hac hsi htk
  generalize hA : foldO ((l.take i).map tkO) ([],0) = A at f5 hL
  simp (disch := first | assumption | simp) only [↓sbD,sbU,tyB,Nat.reduceMul,Nat.reduceSub,Int.reduceEq,Int.reduceLT,Int.reduceLE,Int.reduceNe,Nat.reduceBneDiff,Nat.reduceBEq,decide_false,gt_iff_lt,Bool.or_self,Bool.false_eq_true,Nat.mul_one,Nat.one_mul,Nat.zero_mul,↓reduceIte,Nat.reduceEqDiff,Nat.reduceLT,Nat.reduceAdd,Nat.reduceLeDiff,reduceCtorEq,goInt,pairs,isConst,TI.isAgg,splice,boxS,Edp,dpv,Nat.beq_eq,ZV.val,List.any_cons,List.any_nil,Bool.false_and,f11,f12,f13,hi,hia,hac]
  refine specTTake hsi (fun o hd vo σ2 ho k2 => ?_) fun k rr a hd σ2 d z k2 hd3 her => ?_
  rotate_left
  ·have hfo : foldO ((l.take (i + 1)).map tkO) ([],0) = A := by rw [htk,tkO_bad hd,foldO_snoc]; exact hA
   simp (disch := first | assumption | simp) only [↓sbD,sbU,tyB,Nat.reduceMul,Nat.reduceSub,Int.reduceEq,Int.reduceLT,Int.reduceLE,Int.reduceNe,Nat.reduceBneDiff,Nat.reduceBEq,decide_false,gt_iff_lt,Bool.or_self,Bool.false_eq_true,Nat.mul_one,Nat.one_mul,Nat.zero_mul,↓reduceIte,Nat.reduceEqDiff,Nat.reduceLT,Nat.reduceAdd,Nat.reduceLeDiff,reduceCtorEq,goInt,pairs,isConst,TI.isAgg,splice,boxS,Edp,dpv,Nat.beq_eq,ZV.val,List.any_cons,List.any_nil,Bool.false_and,AS_new,zeOp]
   intro c hc
   try simp (disch := first | assumption | simp) only [↓sbD,sbU,tyB,Nat.reduceMul,Nat.reduceSub,Int.reduceEq,Int.reduceLT,Int.reduceLE,Int.reduceNe,Nat.reduceBneDiff,Nat.reduceBEq,decide_false,gt_iff_lt,Bool.or_self,Bool.false_eq_true,Nat.mul_one,Nat.one_mul,Nat.zero_mul,↓reduceIte,Nat.reduceEqDiff,Nat.reduceLT,Nat.reduceAdd,Nat.reduceLeDiff,reduceCtorEq,goInt,pairs,isConst,TI.isAgg,splice,boxS,Edp,dpv,Nat.beq_eq,ZV.val,List.any_cons,List.any_nil,Bool.false_and]
   generalize hσ3 : AHeap.set (AHeap.set σ2 c _) c _ = σ3
   have k3 : Kept σ1 [] σ3 [] := by rw [← hσ3]; exact k2.trans (((Kept.refl _ []).setD hc).setD hc)
   clear hσ3
   simp (disch := first | assumption | simp) only [↓sbD,sbU,tyB,Nat.reduceMul,Nat.reduceSub,Int.reduceEq,Int.reduceLT,Int.reduceLE,Int.reduceNe,Nat.reduceBneDiff,Nat.reduceBEq,decide_false,gt_iff_lt,Bool.or_self,Bool.false_eq_true,Nat.mul_one,Nat.one_mul,Nat.zero_mul,↓reduceIte,Nat.reduceEqDiff,Nat.reduceLT,Nat.reduceAdd,Nat.reduceLeDiff,reduceCtorEq,goInt,pairs,isConst,TI.isAgg,splice,boxS,Edp,dpv,Nat.beq_eq,ZV.val,List.any_cons,List.any_nil,Bool.false_and,f13,hw]
   refine ⟨_,m - 1,_,rfl,by omega,Le.refl _,i + 1,by omega,by simp (disch := first | assumption | simp) only [↓sbD,sbU,tyB,Nat.reduceMul,Nat.reduceSub,Int.reduceEq,Int.reduceLT,Int.reduceLE,Int.reduceNe,Nat.reduceBneDiff,Nat.reduceBEq,decide_false,gt_iff_lt,Bool.or_self,Bool.false_eq_true,Nat.mul_one,Nat.one_mul,Nat.zero_mul,↓reduceIte,Nat.reduceEqDiff,Nat.reduceLT,Nat.reduceAdd,Nat.reduceLeDiff,reduceCtorEq,goInt,pairs,isConst,TI.isAgg,splice,boxS,Edp,dpv,Nat.beq_eq,ZV.val,List.any_cons,List.any_nil,Bool.false_and],?_,v,fp1,L,?_,?_,gs.kept k3 (fun _ _ h => by cases h),k1.trans (k3.wid (fun _ h => by cases h) (fun _ h => .inr h))⟩
   ·rw [hfo]; simp (disch := first | assumption | simp) only [↓sbD,sbU,tyB,Nat.reduceMul,Nat.reduceSub,Int.reduceEq,Int.reduceLT,Int.reduceLE,Int.reduceNe,Nat.reduceBneDiff,Nat.reduceBEq,decide_false,gt_iff_lt,Bool.or_self,Bool.false_eq_true,Nat.mul_one,Nat.one_mul,Nat.zero_mul,↓reduceIte,Nat.reduceEqDiff,Nat.reduceLT,Nat.reduceAdd,Nat.reduceLeDiff,reduceCtorEq,goInt,pairs,isConst,TI.isAgg,splice,boxS,Edp,dpv,Nat.beq_eq,ZV.val,List.any_cons,List.any_nil,Bool.false_and,f5]
   ·simp (disch := first | assumption | simp) only [↓sbD,sbU,tyB,Nat.reduceMul,Nat.reduceSub,Int.reduceEq,Int.reduceLT,Int.reduceLE,Int.reduceNe,Nat.reduceBneDiff,Nat.reduceBEq,decide_false,gt_iff_lt,Bool.or_self,Bool.false_eq_true,Nat.mul_one,Nat.one_mul,Nat.zero_mul,↓reduceIte,Nat.reduceEqDiff,Nat.reduceLT,Nat.reduceAdd,Nat.reduceLeDiff,reduceCtorEq,goInt,pairs,isConst,TI.isAgg,splice,boxS,Edp,dpv,Nat.beq_eq,ZV.val,List.any_cons,List.any_nil,Bool.false_and,f4]
   ·rw [hfo]; exact hL
  obtain ⟨u,hu,hbx⟩ := boxOp ho
  have hvo := dl_vc ho
  have hfo : foldO ((l.take (i + 1)).map tkO) ([],0) = (stO o A.1,max A.2 o.n) := by rw [htk,tkO_ok hd,foldO_snoc,hA]
  simp only [opC]
  simp (disch := first | assumption | simp) only [↓sbD,sbU,tyB,Nat.reduceMul,Nat.reduceSub,Int.reduceEq,Int.reduceLT,Int.reduceLE,Int.reduceNe,Nat.reduceBneDiff,Nat.reduceBEq,decide_false,gt_iff_lt,Bool.or_self,Bool.false_eq_true,Nat.mul_one,Nat.one_mul,Nat.zero_mul,↓reduceIte,Nat.reduceEqDiff,Nat.reduceLT,Nat.reduceAdd,Nat.reduceLeDiff,reduceCtorEq,goInt,pairs,isConst,TI.isAgg,splice,boxS,Edp,dpv,Nat.beq_eq,ZV.val,List.any_cons,List.any_nil,Bool.false_and,AS_new,zeOp,hvo.1,hvo.2]
  intro c hc
  try simp (disch := first | assumption | simp) only [↓sbD,sbU,tyB,Nat.reduceMul,Nat.reduceSub,Int.reduceEq,Int.reduceLT,Int.reduceLE,Int.reduceNe,Nat.reduceBneDiff,Nat.reduceBEq,decide_false,gt_iff_lt,Bool.or_self,Bool.false_eq_true,Nat.mul_one,Nat.one_mul,Nat.zero_mul,↓reduceIte,Nat.reduceEqDiff,Nat.reduceLT,Nat.reduceAdd,Nat.reduceLeDiff,reduceCtorEq,goInt,pairs,isConst,TI.isAgg,splice,boxS,Edp,dpv,Nat.beq_eq,ZV.val,List.any_cons,List.any_nil,Bool.false_and]
  generalize hσ3 : AHeap.set (AHeap.set σ2 c _) c _ = σ3
  have gc3 : σ3.get c = .cells (opC o vo) true 0 := by rw [← hσ3]; exact AHeap.get_set_same _ _ _
  have k3 : Kept σ1 [] σ3 [] := by rw [← hσ3]; exact k2.trans (((Kept.refl _ []).setD hc).setD hc)
  clear hσ3
  have gc3' := gc3
  simp only [opC] at gc3'
  have gs3 := gs.kept k3 (fun _ _ h => by cases h)
  simp (disch := first | assumption | simp) only [↓sbD,sbU,tyB,Nat.reduceMul,Nat.reduceSub,Int.reduceEq,Int.reduceLT,Int.reduceLE,Int.reduceNe,Nat.reduceBneDiff,Nat.reduceBEq,decide_false,gt_iff_lt,Bool.or_self,Bool.false_eq_true,Nat.mul_one,Nat.one_mul,Nat.zero_mul,↓reduceIte,Nat.reduceEqDiff,Nat.reduceLT,Nat.reduceAdd,Nat.reduceLeDiff,reduceCtorEq,goInt,pairs,isConst,TI.isAgg,splice,boxS,Edp,dpv,Nat.beq_eq,ZV.val,List.any_cons,List.any_nil,Bool.false_and,gc3',f4,f5,arr_map]
  refine specRpIdx gs3 gc3 (by omega) (fun j hj h1 h2 => ?_) fun h1 => ?_
  ·have hfi := findIdx_is hj h1 h2
   rw [hL] at hfi
   by_cases hk : o.k = 1
   ·have hj0 : ¬ (j : Int) < 0 := by omega
    have hst : stO o A.1 = A.1 := by
     unfold stO
     rw [if_pos hk,if_neg]
     intro h
     refine h L[j].m ?_ h1
     rw [← hL]
     exact List.mem_map_of_mem (List.getElem_mem hj)
    simp (disch := first | assumption | simp) only [↓sbD,sbU,tyB,Nat.reduceMul,Nat.reduceSub,Int.reduceEq,Int.reduceLT,Int.reduceLE,Int.reduceNe,Nat.reduceBneDiff,Nat.reduceBEq,decide_false,gt_iff_lt,Bool.or_self,Bool.false_eq_true,Nat.mul_one,Nat.one_mul,Nat.zero_mul,↓reduceIte,Nat.reduceEqDiff,Nat.reduceLT,Nat.reduceAdd,Nat.reduceLeDiff,reduceCtorEq,goInt,pairs,isConst,TI.isAgg,splice,boxS,Edp,dpv,Nat.beq_eq,ZV.val,List.any_cons,List.any_nil,Bool.false_and,gc3',f4,f13,eq_true hk,hj0,hw]
    refine ⟨_,m - 1,_,rfl,by omega,Le.refl _,i + 1,by omega,by simp (disch := first | assumption | simp) only [↓sbD,sbU,tyB,Nat.reduceMul,Nat.reduceSub,Int.reduceEq,Int.reduceLT,Int.reduceLE,Int.reduceNe,Nat.reduceBneDiff,Nat.reduceBEq,decide_false,gt_iff_lt,Bool.or_self,Bool.false_eq_true,Nat.mul_one,Nat.one_mul,Nat.zero_mul,↓reduceIte,Nat.reduceEqDiff,Nat.reduceLT,Nat.reduceAdd,Nat.reduceLeDiff,reduceCtorEq,goInt,pairs,isConst,TI.isAgg,splice,boxS,Edp,dpv,Nat.beq_eq,ZV.val,List.any_cons,List.any_nil,Bool.false_and],?_,v,fp1,L,?_,?_,gs3,k1.trans (k3.wid (fun _ h => by cases h) (fun _ h => .inr h))⟩
    ·rw [hfo]; simp (disch := first | assumption | simp) only [↓sbD,sbU,tyB,Nat.reduceMul,Nat.reduceSub,Int.reduceEq,Int.reduceLT,Int.reduceLE,Int.reduceNe,Nat.reduceBneDiff,Nat.reduceBEq,decide_false,gt_iff_lt,Bool.or_self,Bool.false_eq_true,Nat.mul_one,Nat.one_mul,Nat.zero_mul,↓reduceIte,Nat.reduceEqDiff,Nat.reduceLT,Nat.reduceAdd,Nat.reduceLeDiff,reduceCtorEq,goInt,pairs,isConst,TI.isAgg,splice,boxS,Edp,dpv,Nat.beq_eq,ZV.val,List.any_cons,List.any_nil,Bool.false_and,f5,mxE]
    ·simp (disch := first | assumption | simp) only [↓sbD,sbU,tyB,Nat.reduceMul,Nat.reduceSub,Int.reduceEq,Int.reduceLT,Int.reduceLE,Int.reduceNe,Nat.reduceBneDiff,Nat.reduceBEq,decide_false,gt_iff_lt,Bool.or_self,Bool.false_eq_true,Nat.mul_one,Nat.one_mul,Nat.zero_mul,↓reduceIte,Nat.reduceEqDiff,Nat.reduceLT,Nat.reduceAdd,Nat.reduceLeDiff,reduceCtorEq,goInt,pairs,isConst,TI.isAgg,splice,boxS,Edp,dpv,Nat.beq_eq,ZV.val,List.any_cons,List.any_nil,Bool.false_and,f4]
    ·rw [hfo,hst]; exact hL
   ·have hj0 : 0 ≤ (j : Int) := by omega
    have hwj := wrap_suc (n := j) (by omega)
    have hst : stO o A.1 = A.1.eraseIdx j := by
     unfold stO
     rw [if_neg hk,hfi]
    simp (disch := first | assumption | simp) only [↓sbD,sbU,tyB,Nat.reduceMul,Nat.reduceSub,Int.reduceEq,Int.reduceLT,Int.reduceLE,Int.reduceNe,Nat.reduceBneDiff,Nat.reduceBEq,decide_false,gt_iff_lt,Bool.or_self,Bool.false_eq_true,Nat.mul_one,Nat.one_mul,Nat.zero_mul,↓reduceIte,Nat.reduceEqDiff,Nat.reduceLT,Nat.reduceAdd,Nat.reduceLeDiff,reduceCtorEq,goInt,pairs,isConst,TI.isAgg,splice,boxS,Edp,dpv,Nat.beq_eq,ZV.val,List.any_cons,List.any_nil,Bool.false_and,gc3',f4,f13,hk,hj0,hwj]
    refine specRpDel gs3 hj (by omega) fun v4 σ4 gs4 k4 => ?_
    simp (disch := first | assumption | simp) only [↓sbD,sbU,tyB,Nat.reduceMul,Nat.reduceSub,Int.reduceEq,Int.reduceLT,Int.reduceLE,Int.reduceNe,Nat.reduceBneDiff,Nat.reduceBEq,decide_false,gt_iff_lt,Bool.or_self,Bool.false_eq_true,Nat.mul_one,Nat.one_mul,Nat.zero_mul,↓reduceIte,Nat.reduceEqDiff,Nat.reduceLT,Nat.reduceAdd,Nat.reduceLeDiff,reduceCtorEq,goInt,pairs,isConst,TI.isAgg,splice,boxS,Edp,dpv,Nat.beq_eq,ZV.val,List.any_cons,List.any_nil,Bool.false_and,f13,hw]
    refine ⟨_,m - 1,_,rfl,by omega,Le.refl _,i + 1,by omega,by simp (disch := first | assumption | simp) only [↓sbD,sbU,tyB,Nat.reduceMul,Nat.reduceSub,Int.reduceEq,Int.reduceLT,Int.reduceLE,Int.reduceNe,Nat.reduceBneDiff,Nat.reduceBEq,decide_false,gt_iff_lt,Bool.or_self,Bool.false_eq_true,Nat.mul_one,Nat.one_mul,Nat.zero_mul,↓reduceIte,Nat.reduceEqDiff,Nat.reduceLT,Nat.reduceAdd,Nat.reduceLeDiff,reduceCtorEq,goInt,pairs,isConst,TI.isAgg,splice,boxS,Edp,dpv,Nat.beq_eq,ZV.val,List.any_cons,List.any_nil,Bool.false_and],?_,v4,fp1,L.eraseIdx j,?_,?_,gs4,(k1.trans (k3.wid (fun _ h => by cases h) (fun _ h => .inr h))).trans k4⟩
    ·rw [hfo]; simp (disch := first | assumption | simp) only [↓sbD,sbU,tyB,Nat.reduceMul,Nat.reduceSub,Int.reduceEq,Int.reduceLT,Int.reduceLE,Int.reduceNe,Nat.reduceBneDiff,Nat.reduceBEq,decide_false,gt_iff_lt,Bool.or_self,Bool.false_eq_true,Nat.mul_one,Nat.one_mul,Nat.zero_mul,↓reduceIte,Nat.reduceEqDiff,Nat.reduceLT,Nat.reduceAdd,Nat.reduceLeDiff,reduceCtorEq,goInt,pairs,isConst,TI.isAgg,splice,boxS,Edp,dpv,Nat.beq_eq,ZV.val,List.any_cons,List.any_nil,Bool.false_and,f5,mxE]
    ·simp (disch := first | assumption | simp) only [↓sbD,sbU,tyB,Nat.reduceMul,Nat.reduceSub,Int.reduceEq,Int.reduceLT,Int.reduceLE,Int.reduceNe,Nat.reduceBneDiff,Nat.reduceBEq,decide_false,gt_iff_lt,Bool.or_self,Bool.false_eq_true,Nat.mul_one,Nat.one_mul,Nat.zero_mul,↓reduceIte,Nat.reduceEqDiff,Nat.reduceLT,Nat.reduceAdd,Nat.reduceLeDiff,reduceCtorEq,goInt,pairs,isConst,TI.isAgg,splice,boxS,Edp,dpv,Nat.beq_eq,ZV.val,List.any_cons,List.any_nil,Bool.false_and]
    ·rw [hfo,hst,eraseIdx_mapR,hL]
  ·by_cases hk : o.k = 1
   ·have hst : stO o A.1 = A.1 ++ [o.m] := by
     unfold stO
     rw [if_pos hk,if_pos]
     rw [← hL]
     intro m' hm'
     obtain ⟨x,hx,rfl⟩ := List.mem_map.1 hm'
     exact h1 x hx
    simp (disch := first | assumption | simp) only [↓sbD,sbU,tyB,Nat.reduceMul,Nat.reduceSub,Int.reduceEq,Int.reduceLT,Int.reduceLE,Int.reduceNe,Nat.reduceBneDiff,Nat.reduceBEq,decide_false,gt_iff_lt,Bool.or_self,Bool.false_eq_true,Nat.mul_one,Nat.one_mul,Nat.zero_mul,↓reduceIte,Nat.reduceEqDiff,Nat.reduceLT,Nat.reduceAdd,Nat.reduceLeDiff,reduceCtorEq,goInt,pairs,isConst,TI.isAgg,splice,boxS,Edp,dpv,Nat.beq_eq,ZV.val,List.any_cons,List.any_nil,Bool.false_and,gc3',f4,eq_true hk]
    refine bs_mv (x := ⟨o.m,vo,ho⟩) fun d hd => ?_
    generalize hσ4 : AHeap.set σ3 d _ = σ4
    have k4 : Kept σ3 [] σ4 [] := by rw [← hσ4]; exact (Kept.refl _ []).setD hd
    have gd4 : σ4.get d = .cells (mvC ⟨o.m,vo,ho⟩) true 9 := by rw [← hσ4]; exact AHeap.get_set_same _ _ _
    have gs4 := gs3.kept k4 (fun _ _ h => by cases h)
    clear hσ4
    try simp (disch := first | assumption | simp) only [↓sbD,sbU,tyB,Nat.reduceMul,Nat.reduceSub,Int.reduceEq,Int.reduceLT,Int.reduceLE,Int.reduceNe,Nat.reduceBneDiff,Nat.reduceBEq,decide_false,gt_iff_lt,Bool.or_self,Bool.false_eq_true,Nat.mul_one,Nat.one_mul,Nat.zero_mul,↓reduceIte,Nat.reduceEqDiff,Nat.reduceLT,Nat.reduceAdd,Nat.reduceLeDiff,reduceCtorEq,goInt,pairs,isConst,TI.isAgg,splice,boxS,Edp,dpv,Nat.beq_eq,ZV.val,List.any_cons,List.any_nil,Bool.false_and]
    refine gs4.app (xs := [⟨o.m,vo,ho⟩]) ty24 ty30 rfl (by decide) (by decide) ty24 rfl rfl mvC_len mvC_oc (src_mv gd4) (by simp only [List.length_cons,List.length_nil]; omega) (.inl rfl) fun σ5 v5 fp5 k5 gs5 => ?_
    simp (disch := first | assumption | simp) only [↓sbD,sbU,tyB,Nat.reduceMul,Nat.reduceSub,Int.reduceEq,Int.reduceLT,Int.reduceLE,Int.reduceNe,Nat.reduceBneDiff,Nat.reduceBEq,decide_false,gt_iff_lt,Bool.or_self,Bool.false_eq_true,Nat.mul_one,Nat.one_mul,Nat.zero_mul,↓reduceIte,Nat.reduceEqDiff,Nat.reduceLT,Nat.reduceAdd,Nat.reduceLeDiff,reduceCtorEq,goInt,pairs,isConst,TI.isAgg,splice,boxS,Edp,dpv,Nat.beq_eq,ZV.val,List.any_cons,List.any_nil,Bool.false_and,f13,hw]
    refine ⟨_,m - 1,_,rfl,by omega,Le.refl _,i + 1,by omega,by simp (disch := first | assumption | simp) only [↓sbD,sbU,tyB,Nat.reduceMul,Nat.reduceSub,Int.reduceEq,Int.reduceLT,Int.reduceLE,Int.reduceNe,Nat.reduceBneDiff,Nat.reduceBEq,decide_false,gt_iff_lt,Bool.or_self,Bool.false_eq_true,Nat.mul_one,Nat.one_mul,Nat.zero_mul,↓reduceIte,Nat.reduceEqDiff,Nat.reduceLT,Nat.reduceAdd,Nat.reduceLeDiff,reduceCtorEq,goInt,pairs,isConst,TI.isAgg,splice,boxS,Edp,dpv,Nat.beq_eq,ZV.val,List.any_cons,List.any_nil,Bool.false_and],?_,v5,fp5,_,?_,?_,gs5,(k1.trans ((k3.trans k4).wid (fun _ h => by cases h) (fun _ h => .inr h))).trans k5⟩
    ·rw [hfo]; simp (disch := first | assumption | simp) only [↓sbD,sbU,tyB,Nat.reduceMul,Nat.reduceSub,Int.reduceEq,Int.reduceLT,Int.reduceLE,Int.reduceNe,Nat.reduceBneDiff,Nat.reduceBEq,decide_false,gt_iff_lt,Bool.or_self,Bool.false_eq_true,Nat.mul_one,Nat.one_mul,Nat.zero_mul,↓reduceIte,Nat.reduceEqDiff,Nat.reduceLT,Nat.reduceAdd,Nat.reduceLeDiff,reduceCtorEq,goInt,pairs,isConst,TI.isAgg,splice,boxS,Edp,dpv,Nat.beq_eq,ZV.val,List.any_cons,List.any_nil,Bool.false_and,f5,mxE]
    ·simp (disch := first | assumption | simp) only [↓sbD,sbU,tyB,Nat.reduceMul,Nat.reduceSub,Int.reduceEq,Int.reduceLT,Int.reduceLE,Int.reduceNe,Nat.reduceBneDiff,Nat.reduceBEq,decide_false,gt_iff_lt,Bool.or_self,Bool.false_eq_true,Nat.mul_one,Nat.one_mul,Nat.zero_mul,↓reduceIte,Nat.reduceEqDiff,Nat.reduceLT,Nat.reduceAdd,Nat.reduceLeDiff,reduceCtorEq,goInt,pairs,isConst,TI.isAgg,splice,boxS,Edp,dpv,Nat.beq_eq,ZV.val,List.any_cons,List.any_nil,Bool.false_and]
    ·rw [hfo,hst,List.map_append,hL]; rfl
   ·have hst : stO o A.1 = A.1 := by
     unfold stO
     rw [if_neg hk,List.findIdx_eq_length_of_false,List.eraseIdx_of_length_le (Nat.le_refl _)]
     rw [← hL]
     intro m' hm'
     obtain ⟨x,hx,rfl⟩ := List.mem_map.1 hm'
     exact decide_eq_false (h1 x hx)
    simp (disch := first | assumption | simp) only [↓sbD,sbU,tyB,Nat.reduceMul,Nat.reduceSub,Int.reduceEq,Int.reduceLT,Int.reduceLE,Int.reduceNe,Nat.reduceBneDiff,Nat.reduceBEq,decide_false,gt_iff_lt,Bool.or_self,Bool.false_eq_true,Nat.mul_one,Nat.one_mul,Nat.zero_mul,↓reduceIte,Nat.reduceEqDiff,Nat.reduceLT,Nat.reduceAdd,Nat.reduceLeDiff,reduceCtorEq,goInt,pairs,isConst,TI.isAgg,splice,boxS,Edp,dpv,Nat.beq_eq,ZV.val,List.any_cons,List.any_nil,Bool.false_and,gc3',f4,f13,hk,hw]
    refine ⟨_,m - 1,_,rfl,by omega,Le.refl _,i + 1,by omega,by simp (disch := first | assumption | simp) only [↓sbD,sbU,tyB,Nat.reduceMul,Nat.reduceSub,Int.reduceEq,Int.reduceLT,Int.reduceLE,Int.reduceNe,Nat.reduceBneDiff,Nat.reduceBEq,decide_false,gt_iff_lt,Bool.or_self,Bool.false_eq_true,Nat.mul_one,Nat.one_mul,Nat.zero_mul,↓reduceIte,Nat.reduceEqDiff,Nat.reduceLT,Nat.reduceAdd,Nat.reduceLeDiff,reduceCtorEq,goInt,pairs,isConst,TI.isAgg,splice,boxS,Edp,dpv,Nat.beq_eq,ZV.val,List.any_cons,List.any_nil,Bool.false_and],?_,v,fp1,L,?_,?_,gs3,k1.trans (k3.wid (fun _ h => by cases h) (fun _ h => .inr h))⟩
    ·rw [hfo]; simp (disch := first | assumption | simp) only [↓sbD,sbU,tyB,Nat.reduceMul,Nat.reduceSub,Int.reduceEq,Int.reduceLT,Int.reduceLE,Int.reduceNe,Nat.reduceBneDiff,Nat.reduceBEq,decide_false,gt_iff_lt,Bool.or_self,Bool.false_eq_true,Nat.mul_one,Nat.one_mul,Nat.zero_mul,↓reduceIte,Nat.reduceEqDiff,Nat.reduceLT,Nat.reduceAdd,Nat.reduceLeDiff,reduceCtorEq,goInt,pairs,isConst,TI.isAgg,splice,boxS,Edp,dpv,Nat.beq_eq,ZV.val,List.any_cons,List.any_nil,Bool.false_and,f5,mxE]
    ·simp (disch := first | assumption | simp) only [↓sbD,sbU,tyB,Nat.reduceMul,Nat.reduceSub,Int.reduceEq,Int.reduceLT,Int.reduceLE,Int.reduceNe,Nat.reduceBneDiff,Nat.reduceBEq,decide_false,gt_iff_lt,Bool.or_self,Bool.false_eq_true,Nat.mul_one,Nat.one_mul,Nat.zero_mul,↓reduceIte,Nat.reduceEqDiff,Nat.reduceLT,Nat.reduceAdd,Nat.reduceLeDiff,reduceCtorEq,goInt,pairs,isConst,TI.isAgg,splice,boxS,Edp,dpv,Nat.beq_eq,ZV.val,List.any_cons,List.any_nil,Bool.false_and,f4]
    ·rw [hfo,hst]; exact hL
 ·obtain rfl : i = l.length := by omega
  rw [List.take_length] at f5 hL
  simp (disch := first | assumption | simp) only [↓sbD,sbU,tyB,Nat.reduceMul,Nat.reduceSub,Int.reduceEq,Int.reduceLT,Int.reduceLE,Int.reduceNe,Nat.reduceBneDiff,Nat.reduceBEq,decide_false,gt_iff_lt,Bool.or_self,Bool.false_eq_true,Nat.mul_one,Nat.one_mul,Nat.zero_mul,↓reduceIte,Nat.reduceEqDiff,Nat.reduceLT,Nat.reduceAdd,Nat.reduceLeDiff,reduceCtorEq,goInt,pairs,isConst,TI.isAgg,splice,boxS,Edp,dpv,Nat.beq_eq,ZV.val,List.any_cons,List.any_nil,Bool.false_and,f4,f5,f11,f12,f13,hi]
  exact downS_here (hq _ _ _ _ hL gs k1)
end
end Go.Proofs.YtkhcbbpfchgemaaDoor.AbsB
namespace Go.Proofs.YtkhcbbpfchgemaaDoor.AbsB
open Go AbsYtkhcbbpfchgemaaDoor Abs
set_option maxRecDepth 100000
set_option maxHeartbeats 4000000
set_option linter.unusedSimpArgs false
set_option linter.unusedVariables false
def keyO (o x : Op1) : Prop := x.g = o.g ∧ x.n = o.n
instance (o x : Op1) : Decidable (keyO o x) := by unfold keyO; infer_instance
def stepS (i : Nat) (o : Op1) (j : Nat) (y : Option Op1) (a : Bool × Bool) : Bool × Bool := match y with
 | none => a
 | some x => if keyO o x ∧ j ≠ i then ((if i < j ∧ x.k ≠ 1 then false else a.1),(if j < i then decide (x.k ≠ 1) else a.2)) else a
def scanS (os : List (Option Op1)) (i : Nat) (o : Op1) : Nat → Bool × Bool
 | 0 => (true,true)
 | j + 1 => stepS i o j (os[j]?.join) (scanS os i o j)
def okI (os : List (Option Op1)) (k i : Nat) : Bool := match os[i]?.join with
 | some o => decide (o.k = 1) && ((scanS os i o k).1 && (scanS os i o k).2)
 | none => false
def keyI (os : List (Option Op1)) (o : Op1) (i : Nat) : Bool := match os[i]?.join with
 | some x => decide (keyO o x)
 | none => false
def cnt (o : Op1) (G : List Ms) : Nat := G.countP fun m => decide (isK o m)
def goodO (os : List (Option Op1)) : Prop := ∀ o,some o ∈ os → o.k = 1 → o.m.g = o.g ∧ o.m.n = o.n
theorem keyO_comm {o x : Op1} : keyO o x ↔ keyO x o := ⟨fun h => ⟨h.1.symm,h.2.symm⟩,fun h => ⟨h.1.symm,h.2.symm⟩⟩
theorem isK_key {o x : Op1} {m : Ms} (h : keyO o x) : isK o m ↔ isK x m := ⟨fun a => ⟨a.1.trans h.1.symm,a.2.trans h.2.symm⟩,fun a => ⟨a.1.trans h.1,a.2.trans h.2⟩⟩
theorem isK_not {o x : Op1} {m : Ms} (h : ¬ keyO o x) (hm : isK o m) : ¬ isK x m := fun a => h ⟨a.1.symm.trans hm.1,a.2.symm.trans hm.2⟩
theorem cnt_key {o x : Op1} {G : List Ms} (h : keyO o x) : cnt o G = cnt x G := by
 unfold cnt
 congr 1
 funext m
 exact decide_eq_decide.2 (isK_key h)
theorem cnt_zero {o : Op1} {G : List Ms} : cnt o G = 0 ↔ ∀ m ∈ G,¬ isK o m := by
 unfold cnt
 rw [List.countP_eq_zero]
 simp
theorem scan_snoc {os : List (Option Op1)} {y : Option Op1} {i : Nat} {o : Op1} : ∀ {j : Nat},j ≤ os.length → scanS (os ++ [y]) i o j = scanS os i o j
 | 0,_ => rfl
 | j + 1,h => by
  simp only [scanS]
  rw [scan_snoc (by omega),List.getElem?_append_left (by omega)]
theorem scan_last {os : List (Option Op1)} {y : Option Op1} {i : Nat} {o : Op1} : scanS (os ++ [y]) i o (os.length + 1) = stepS i o os.length y (scanS os i o os.length) := by
 simp only [scanS]
 rw [scan_snoc (Nat.le_refl _),List.getElem?_append_right (Nat.le_refl _),Nat.sub_self]
 rfl
theorem erase_filter {p : Ms → Bool} : ∀ {G : List Ms},G.countP p ≤ 1 → G.eraseIdx (G.findIdx p) = G.filter fun m => !p m
 | [],_ => rfl
 | a :: r,h => by
  rw [List.countP_cons] at h
  rw [List.findIdx_cons,List.filter_cons]
  cases hp : p a with
  | true =>
   rw [hp] at h
   simp only [if_true] at h
   have h0 : r.countP p = 0 := by omega
   rw [List.countP_eq_zero] at h0
   simp only [cond_true,List.eraseIdx_zero,List.tail_cons,Bool.not_true,Bool.false_eq_true,if_false]
   rw [List.filter_eq_self.2]
   intro m hm
   have := h0 m hm
   simpa using this
  | false =>
   rw [hp] at h
   simp only [cond_false,List.eraseIdx_cons_succ,Bool.not_false,if_true]
   rw [erase_filter (by simpa using h)]
theorem okI_old {os : List (Option Op1)} {y : Option Op1} {i : Nat} (hi : i < os.length) : okI (os ++ [y]) (os.length + 1) i = (okI os os.length i && match y with | some x => !(keyI os x i && decide (x.k ≠ 1)) | none => true) := by
 unfold okI keyI
 rw [List.getElem?_append_left hi]
 cases h : os[i]?.join with
 | none => cases y <;> rfl
 | some o =>
  simp only [scan_last]
  cases y with
  | none => simp only [stepS,Bool.and_true]
  | some x =>
   simp only [stepS]
   by_cases hk : keyO o x
   ·have hk' := keyO_comm.1 hk
    have hne : os.length ≠ i := by omega
    have hlt : ¬ os.length < i := by omega
    by_cases h1 : x.k = 1
    ·simp [hk,hk',hne,hlt,hi,h1]
    ·simp [hk,hk',hne,hlt,hi,h1]
   ·have hk' : ¬ keyO x o := fun h => hk (keyO_comm.1 h)
    simp [hk,hk']
structure Inv (os : List (Option Op1)) (G : List Ms) : Prop where
 a : ∀ o,cnt o G ≤ 1
 b : ∀ o,(scanS os os.length o os.length).2 = decide (cnt o G = 0)
 c : ∀ i o,os[i]?.join = some o → o.k = 1 → (scanS os i o os.length).1 = true → cnt o G = 1
 d : ∀ o,(List.range os.length).countP (fun i => okI os os.length i && keyI os o i) = cnt o G
 e : (List.range os.length).countP (okI os os.length) = G.length
theorem countP_congr' {α : Type} {p q : α → Bool} {l : List α} (h : ∀ x ∈ l,p x = q x) : l.countP p = l.countP q := List.countP_congr fun x hx => by rw [h x hx]
theorem live_le {os : List (Option Op1)} {i : Nat} {o : Op1} : ∀ {j : Nat},j ≤ i → (scanS os i o j).1 = true
 | 0,_ => rfl
 | j + 1,h => by
  have ih := live_le (os := os) (i := i) (o := o) (j := j) (by omega)
  simp only [scanS,stepS]
  cases os[j]?.join with
  | none => exact ih
  | some x =>
   have : ¬ (i < j ∧ x.k ≠ 1) := fun h' => by omega
   simp only [if_neg this]
   split
   ·exact ih
   ·exact ih
theorem first_le {os : List (Option Op1)} {o : Op1} {i i' : Nat} : ∀ {j : Nat},j ≤ i → j ≤ i' → (scanS os i o j).2 = (scanS os i' o j).2
 | 0,_,_ => rfl
 | j + 1,h,h' => by
  have ih := first_le (os := os) (o := o) (i := i) (i' := i') (j := j) (by omega) (by omega)
  simp only [scanS,stepS]
  cases os[j]?.join with
  | none => exact ih
  | some x =>
   have h1 : j ≠ i := by omega
   have h2 : j ≠ i' := by omega
   have h3 : j < i := by omega
   have h4 : j < i' := by omega
   simp only [h1,h2,h3,h4,ne_eq,not_false_eq_true,and_true,if_true]
   split
   ·rfl
   ·exact ih
theorem first_new {os : List (Option Op1)} {y : Option Op1} {o : Op1} : (scanS (os ++ [y]) (os.length + 1) o (os.length + 1)).2 = match y with | some x => if keyO o x then decide (x.k ≠ 1) else (scanS os os.length o os.length).2 | none => (scanS os os.length o os.length).2 := by
 rw [scan_last]
 have h1 : (scanS os (os.length + 1) o os.length).2 = (scanS os os.length o os.length).2 := first_le (by omega) (by omega)
 cases y with
 | none => exact h1
 | some x =>
  have h2 : os.length ≠ os.length + 1 := by omega
  have h3 : os.length < os.length + 1 := by omega
  simp only [stepS,h2,h3,ne_eq,not_false_eq_true,and_true,if_true]
  split
  ·rfl
  ·exact h1
theorem ok_new {os : List (Option Op1)} {y : Option Op1} : okI (os ++ [y]) (os.length + 1) os.length = match y with | some x => decide (x.k = 1) && (scanS os os.length x os.length).2 | none => false := by
 unfold okI
 rw [List.getElem?_append_right (Nat.le_refl _),Nat.sub_self]
 cases y with
 | none => rfl
 | some x =>
  show (decide (x.k = 1) && ((scanS (os ++ [some x]) os.length x (os.length + 1)).1 && (scanS (os ++ [some x]) os.length x (os.length + 1)).2)) = _
  rw [scan_last]
  have h2 : ¬ (keyO x x ∧ os.length ≠ os.length) := fun h => h.2 rfl
  simp only [stepS,if_neg h2,live_le (Nat.le_refl _),Bool.true_and]
theorem key_new {os : List (Option Op1)} {y : Option Op1} {o : Op1} : keyI (os ++ [y]) o os.length = match y with | some x => decide (keyO o x) | none => false := by
 unfold keyI
 rw [List.getElem?_append_right (Nat.le_refl _),Nat.sub_self]
 cases y <;> rfl
theorem key_old {os : List (Option Op1)} {y : Option Op1} {o : Op1} {i : Nat} (hi : i < os.length) : keyI (os ++ [y]) o i = keyI os o i := by
 unfold keyI
 rw [List.getElem?_append_left hi]
theorem range_snoc {p : Nat → Bool} {n : Nat} : (List.range (n + 1)).countP p = (List.range n).countP p + if p n then 1 else 0 := by
 rw [List.range_succ,List.countP_append,List.countP_cons,List.countP_nil]; omega
theorem len_snoc {os : List (Option Op1)} {y : Option Op1} : (os ++ [y]).length = os.length + 1 := by simp
theorem cnt_app {o : Op1} {G : List Ms} {m : Ms} : cnt o (G ++ [m]) = cnt o G + if isK o m then 1 else 0 := by
 unfold cnt
 rw [List.countP_append,List.countP_cons,List.countP_nil]
 simp
theorem Inv.none {os : List (Option Op1)} {G : List Ms} (h : Inv os G) : Inv (os ++ [none]) G := by
 refine ⟨h.a,fun o => ?_,fun i o hi hk hl => ?_,fun o => ?_,?_⟩
 ·rw [len_snoc,first_new]; exact h.b o
 ·rw [len_snoc,scan_last] at hl
  rcases Nat.lt_or_ge i os.length with hlt | hge
  ·rw [List.getElem?_append_left hlt] at hi
   exact h.c i o hi hk hl
  ·exfalso
   rw [List.getElem?_append_right hge] at hi
   rcases Nat.eq_or_lt_of_le hge with rfl | h2
   ·simp at hi
   ·rw [List.getElem?_eq_none (by simp only [List.length_cons,List.length_nil]; omega)] at hi; cases hi
 ·rw [len_snoc,range_snoc,ok_new,← h.d o]
  simp only [Bool.false_and,Bool.false_eq_true,if_false,Nat.add_zero]
  refine countP_congr' fun i hi => ?_
  have hi' : i < os.length := List.mem_range.1 hi
  rw [okI_old hi',key_old hi',Bool.and_true]
 ·rw [len_snoc,range_snoc,ok_new,← h.e]
  simp only [Bool.false_eq_true,if_false,Nat.add_zero]
  refine countP_congr' fun i hi => ?_
  have hi' : i < os.length := List.mem_range.1 hi
  rw [okI_old hi',Bool.and_true]
theorem Inv.live {os : List (Option Op1)} {G : List Ms} (h : Inv os G) {x : Op1} {i : Nat} {o : Op1} (hi : (os ++ [some x])[i]?.join = some o) (hl : (scanS (os ++ [some x]) i o (os.length + 1)).1 = true) (hk : o.k = 1) :
  (i < os.length ∧ cnt o G = 1 ∧ (keyO o x → x.k = 1)) ∨ (i = os.length ∧ o = x) := by
 rcases Nat.lt_or_ge i os.length with hlt | hge
 ·left
  rw [List.getElem?_append_left hlt] at hi
  rw [scan_last] at hl
  simp only [stepS] at hl
  have hne : os.length ≠ i := by omega
  by_cases hko : keyO o x
  ·rw [if_pos ⟨hko,hne⟩] at hl
   simp only at hl
   by_cases hx : x.k = 1
   ·rw [if_neg (fun h => h.2 hx)] at hl
    exact ⟨hlt,h.c i o hi hk hl,fun _ => hx⟩
   ·rw [if_pos ⟨hlt,hx⟩] at hl
    cases hl
  ·rw [if_neg (fun h => hko h.1)] at hl
   exact ⟨hlt,h.c i o hi hk hl,fun h => absurd h hko⟩
 ·rw [List.getElem?_append_right hge] at hi
  rcases Nat.eq_or_lt_of_le hge with h2 | h2
  ·right
   rw [h2,Nat.sub_self] at hi
   simp at hi
   exact ⟨h2.symm,hi.symm⟩
  ·exfalso
   rw [List.getElem?_eq_none (by simp only [List.length_cons,List.length_nil]; omega)] at hi; cases hi
theorem Inv.add {os : List (Option Op1)} {G : List Ms} (h : Inv os G) {x : Op1} (hx : x.k = 1) (hg : x.m.g = x.g ∧ x.m.n = x.n) : Inv (os ++ [some x]) (stO x G) := by
 have hxx : isK x x.m := hg
 have hox : ∀ o,isK o x.m ↔ keyO o x := fun o => ⟨fun a => ⟨hg.1.symm.trans a.1,hg.2.symm.trans a.2⟩,fun a => ⟨hg.1.trans a.1,hg.2.trans a.2⟩⟩
 have hstO : stO x G = if cnt x G = 0 then G ++ [x.m] else G := by
  unfold stO
  rw [if_pos hx]
  by_cases h0 : cnt x G = 0
  ·rw [if_pos h0,if_pos (cnt_zero.1 h0)]
  ·rw [if_neg h0,if_neg fun a => h0 (cnt_zero.2 a)]
 have hcn : ∀ o,cnt o (stO x G) = if keyO o x then 1 else cnt o G := by
  intro o
  rw [hstO]
  by_cases hk : keyO o x
  ·rw [if_pos hk]
   by_cases h0 : cnt x G = 0
   ·rw [if_pos h0,cnt_app,if_pos ((hox o).2 hk),cnt_key hk,h0]
   ·rw [if_neg h0,cnt_key hk]; have := h.a x; omega
  ·rw [if_neg hk]
   by_cases h0 : cnt x G = 0
   ·rw [if_pos h0,cnt_app,if_neg fun a => hk ((hox o).1 a),Nat.add_zero]
   ·rw [if_neg h0]
 have hlen : (stO x G).length = G.length + if cnt x G = 0 then 1 else 0 := by
  rw [hstO]; split <;> simp
 have hnew : okI (os ++ [some x]) (os.length + 1) os.length = decide (cnt x G = 0) := by rw [ok_new]; simp only [hx,decide_true,Bool.true_and]; exact h.b x
 have hold : ∀ i,i < os.length → okI (os ++ [some x]) (os.length + 1) i = okI os os.length i := fun i hi => by
  rw [okI_old hi]
  have : decide (x.k ≠ 1) = false := decide_eq_false fun h => h hx
  simp only [this,Bool.and_false,Bool.not_false,Bool.and_true]
 refine ⟨fun o => ?_,fun o => ?_,fun i o hi hk hl => ?_,fun o => ?_,?_⟩
 ·rw [hcn]; have := h.a o; split <;> omega
 ·rw [len_snoc,first_new,hcn]
  by_cases hk : keyO o x
  ·simp only [if_pos hk]
   rw [decide_eq_false (fun h => h hx),decide_eq_false (by omega)]
  ·simp only [if_neg hk]; exact h.b o
 ·rw [len_snoc] at hl
  rw [hcn]
  rcases h.live hi hl hk with ⟨_,h1,_⟩ | ⟨_,rfl⟩
  ·split
   ·rfl
   ·exact h1
  ·rw [if_pos ⟨rfl,rfl⟩]
 ·rw [len_snoc,range_snoc,hnew,key_new,hcn]
  have e1 : (List.range os.length).countP (fun i => okI (os ++ [some x]) (os.length + 1) i && keyI (os ++ [some x]) o i) = cnt o G := by
   rw [← h.d o]
   refine countP_congr' fun i hi => ?_
   have hi' : i < os.length := List.mem_range.1 hi
   rw [hold i hi',key_old hi']
  rw [e1]
  by_cases hk : keyO o x
  ·have := h.a x
   have e2 := cnt_key (G := G) hk
   by_cases h0 : cnt x G = 0
   ·simp [hk,h0,e2]
   ·simp only [hk,h0,e2,decide_false,Bool.false_and,Bool.false_eq_true,if_false,if_true]; omega
  ·simp [hk]
 ·rw [len_snoc,range_snoc,hnew,hlen]
  have e1 : (List.range os.length).countP (okI (os ++ [some x]) (os.length + 1)) = G.length := by
   rw [← h.e]
   exact countP_congr' fun i hi => hold i (List.mem_range.1 hi)
  rw [e1]
  by_cases h0 : cnt x G = 0 <;> simp [h0]
theorem count_split {p : Ms → Bool} : ∀ {G : List Ms},(G.countP fun m => !p m) + G.countP p = G.length
 | [] => rfl
 | a :: r => by
  have ih := count_split (p := p) (G := r)
  simp only [List.countP_cons,List.length_cons]
  cases p a <;> simp <;> omega
theorem Inv.del {os : List (Option Op1)} {G : List Ms} (h : Inv os G) {x : Op1} (hx : x.k ≠ 1) : Inv (os ++ [some x]) (stO x G) := by
 have hstO : stO x G = G.filter fun m => !decide (isK x m) := by
  unfold stO
  rw [if_neg hx,erase_filter (h.a x)]
 have hcn : ∀ o,cnt o (stO x G) = if keyO o x then 0 else cnt o G := by
  intro o
  rw [hstO]
  unfold cnt
  rw [List.countP_filter]
  by_cases hk : keyO o x
  ·rw [if_pos hk,List.countP_eq_zero]
   intro m _ hm
   have hm1 := isK_key (m := m) hk
   simp only [Bool.and_eq_true,decide_eq_true_eq,Bool.not_eq_true',decide_eq_false_iff_not] at hm
   exact hm.2 (hm1.1 hm.1)
  ·rw [if_neg hk]
   refine countP_congr' fun m _ => ?_
   by_cases ho : isK o m
   ·simp [ho,isK_not hk ho]
   ·simp [ho]
 have hlen : (stO x G).length + cnt x G = G.length := by
  rw [hstO]
  unfold cnt
  rw [← List.countP_eq_length_filter]
  exact count_split
 have hnew : okI (os ++ [some x]) (os.length + 1) os.length = false := by rw [ok_new]; simp only [hx,decide_false,Bool.false_and]
 have hold : ∀ i,i < os.length → okI (os ++ [some x]) (os.length + 1) i = (okI os os.length i && !keyI os x i) := fun i hi => by
  rw [okI_old hi]
  have : decide (x.k ≠ 1) = true := decide_eq_true hx
  simp only [this,Bool.and_true]
 refine ⟨fun o => ?_,fun o => ?_,fun i o hi hk hl => ?_,fun o => ?_,?_⟩
 ·rw [hcn]; have := h.a o; split <;> omega
 ·rw [len_snoc,first_new,hcn]
  by_cases hk : keyO o x
  ·simp only [if_pos hk]
   simp [hx]
  ·simp only [if_neg hk]; exact h.b o
 ·rw [len_snoc] at hl
  rw [hcn]
  rcases h.live hi hl hk with ⟨_,h1,h2⟩ | ⟨_,rfl⟩
  ·rw [if_neg fun a => hx (h2 a)]; exact h1
  ·exact absurd hk hx
 ·rw [len_snoc,range_snoc,hnew,hcn]
  simp only [Bool.false_and,Bool.false_eq_true,if_false,Nat.add_zero]
  by_cases hk : keyO o x
  ·rw [if_pos hk,List.countP_eq_zero]
   intro i hi
   have hi' : i < os.length := List.mem_range.1 hi
   rw [hold i hi',key_old hi']
   have e2 : keyI os o i = keyI os x i := by
    unfold keyI
    cases os[i]?.join with
    | none => rfl
    | some y => exact decide_eq_decide.2 ⟨fun a => ⟨a.1.trans hk.1.symm,a.2.trans hk.2.symm⟩,fun a => ⟨a.1.trans hk.1,a.2.trans hk.2⟩⟩
   rw [e2]
   cases keyI os x i <;> simp
  ·rw [if_neg hk,← h.d o]
   refine countP_congr' fun i hi => ?_
   have hi' : i < os.length := List.mem_range.1 hi
   rw [hold i hi',key_old hi']
   cases ho : keyI os o i with
   | false => simp
   | true =>
    have : keyI os x i = false := by
     unfold keyI at ho ⊢
     cases hy : os[i]?.join with
     | none => rfl
     | some y =>
      rw [hy] at ho
      have ho' : keyO o y := of_decide_eq_true ho
      exact decide_eq_false fun a => hk ⟨a.1.symm.trans ho'.1,a.2.symm.trans ho'.2⟩
    simp [this]
 ·rw [len_snoc,range_snoc,hnew]
  simp only [Bool.false_eq_true,if_false,Nat.add_zero]
  have e1 : (List.range os.length).countP (okI (os ++ [some x]) (os.length + 1)) = (List.range os.length).countP (fun i => okI os os.length i && !keyI os x i) := countP_congr' fun i hi => hold i (List.mem_range.1 hi)
  have e2 : (List.range os.length).countP (fun i => okI os os.length i && keyI os x i) + (List.range os.length).countP (fun i => okI os os.length i && !keyI os x i) = (List.range os.length).countP (okI os os.length) := by
   generalize List.range os.length = l
   induction l with
   | nil => rfl
   | cons a r ih =>
    simp only [List.countP_cons]
    cases okI os os.length a <;> cases keyI os x a <;> simp <;> omega
  rw [h.d x,h.e] at e2
  rw [e1]
  omega
theorem inv_of : ∀ (n : Nat) {os : List (Option Op1)},os.length = n → goodO os → Inv os (foldO os ([],0)).1
 | 0,os,hl,_ => by
  obtain rfl := List.eq_nil_of_length_eq_zero hl
  exact ⟨fun o => by simp [cnt,foldO],fun o => rfl,fun i o hi => by simp at hi,fun o => rfl,rfl⟩
 | n + 1,os,hl,hg => by
  have hne : os ≠ [] := by rintro rfl; cases hl
  obtain ⟨os,y,rfl⟩ : ∃ l y,os = l ++ [y] := ⟨_,_,(List.dropLast_concat_getLast hne).symm⟩
  have h := inv_of n (os := os) (by simp at hl; exact hl) fun o ho hk => hg o (List.mem_append_left _ ho) hk
  rw [foldO_snoc]
  cases y with
  | none => exact h.none
  | some x =>
   by_cases hx : x.k = 1
   ·exact h.add hx (hg x (by simp) hx)
   ·exact h.del hx
theorem finO_okR {s : ByteArray} {o o' : Op1} {fl : Nat} {st : RSt} (h : finO s o fl st = .ok o') : mayO o' := by
 unfold finO at h
 split at h
 ·cases h
 ·split at h
  ·rename_i h1
   injection h with h
   rw [← h]; exact h1.1
  ·cases h
theorem decO_may {s : ByteArray} {o : Op1} (h : DecO s (.ok o)) : mayO o := by
 unfold DecO O0 O1 O2 at h
 split at h
 ·obtain ⟨y,h1,h2⟩ := h
  cases y with
  | error e => cases h2
  | ok t =>
   obtain ⟨m,b,q⟩ := t
   exact finO_okR h2.symm
 ·exact finO_okR h.symm
theorem tk_good {l : List ByteArray} : goodO (l.map tkO) := by
 intro o ho hk
 obtain ⟨s,_,hs⟩ := List.mem_map.1 ho
 unfold tkO at hs
 split at hs
 ·rename_i h
  injection hs with hs
  have := h.choose_spec
  rw [hs] at this
  have := (decO_may this).2.2.2.2.2 hk
  exact ⟨this.1,this.2.1⟩
 ·cases hs
end Go.Proofs.YtkhcbbpfchgemaaDoor.AbsB
