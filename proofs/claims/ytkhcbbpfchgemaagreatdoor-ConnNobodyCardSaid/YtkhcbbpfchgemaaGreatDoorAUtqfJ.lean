/-
  Parts of a law's proof.
-/
import Derived.Test.YtkhcbbpfchgemaaGreatDoorAVaqfJ
namespace Go.Proofs.YtkhcbbpfchgemaaGreatDoor.AbsA
open Go AbsYtkhcbbpfchgemaaGreatDoor Abs
set_option maxHeartbeats 4000000
set_option linter.unusedSimpArgs false
set_option linter.unusedVariables false

set_option maxRecDepth 100000
set_option maxHeartbeats 1000000
set_option linter.unusedSimpArgs false
set_option linter.unusedVariables false

set_option maxRecDepth 100000
set_option maxHeartbeats 1000000
set_option linter.unusedSimpArgs false
set_option linter.unusedVariables false
set_option maxRecDepth 100000
theorem gk1 : B.get 1 = .cells [sent 1] false 1 := by kernel_rfl
theorem gk2 : B.get 0 = .cells [sent 2] false 1 := by kernel_rfl
theorem gk3 : B.get 2 = .cells [sent 3] false 1 := by kernel_rfl
theorem gk4 : B.get 3 = .cells [sent 4] false 1 := by kernel_rfl
theorem gk5 : B.get 4 = .cells [sent 5] false 1 := by kernel_rfl
theorem gk6 : B.get 5 = .cells [sent 6] false 1 := by kernel_rfl
theorem gk7 : B.get 6 = .cells [sent 7] false 1 := by kernel_rfl
theorem vc_sent {n : Nat} : vcells (sent n) = [sent n] := rfl
theorem fz_sent {n : Nat} : frz E.ng E.nb (sent n) = true := frz_sent' n
theorem specNumberNil {σ : AHeap} {Q : Value → AHeap → Prop} (h : Q (.int .i64 0) σ) : CallS E B 29 [.nilIface] σ Q := by
 refine call29 (by simp) ?_
 simp only [strip,bodyOf,Tryz.f29,getD_body,keepN,bareOp_mk,lessOp_mk,lapp_cons,lapp_nil,List.map_cons,List.map_nil,array_toList,↓reduceIte,Nat.reduceEqDiff,Bool.false_eq_true]
 simp (disch := first | assumption | simp) only [↓sbD,sbU,tyB,Nat.reduceMul,Nat.reduceSub,Int.reduceEq,Int.reduceLT,Int.reduceLE,Int.reduceNe,Nat.reduceBneDiff,Nat.reduceBEq,decide_false,gt_iff_lt,Bool.or_self,Bool.false_eq_true,Nat.mul_one,Nat.one_mul,Nat.zero_mul,↓reduceIte,Nat.reduceEqDiff,Nat.reduceLT,Nat.reduceAdd,Nat.reduceLeDiff,reduceCtorEq,goInt,pairs,isConst,TI.isAgg,splice,boxS,Edp,dpv,Nat.beq_eq,ZV.val,List.any_cons,List.any_nil,Bool.false_and]
 exact downS_here h
theorem specNumber {d n : Nat} {v : Value} (he : ErN d v n) (hd : d ≤ 4) {σ : AHeap} {Q : Value → AHeap → Prop} (h : Q (.int .i64 (n : Int)) σ) : CallS E B 29 [v] σ Q := by
 have hv := he.val
 obtain ⟨_,n1,n2,r,a,x,e0⟩ := hv
 have e1 : ∀ t cs,abin E σ .eql t cs v .nilIface = if tyIface (E.ty.get t) then some (.bool false) else none := by subst e0; intro t cs; exact ifn_eql
 refine call29 (by simp) ?_
 simp only [strip,bodyOf,Tryz.f29,getD_body,keepN,bareOp_mk,lessOp_mk,lapp_cons,lapp_nil,List.map_cons,List.map_nil,array_toList,↓reduceIte,Nat.reduceEqDiff,Bool.false_eq_true]
 simp (disch := first | assumption | simp) only [↓sbD,sbU,tyB,Nat.reduceMul,Nat.reduceSub,Int.reduceEq,Int.reduceLT,Int.reduceLE,Int.reduceNe,Nat.reduceBneDiff,Nat.reduceBEq,decide_false,gt_iff_lt,Bool.or_self,Bool.false_eq_true,Nat.mul_one,Nat.one_mul,Nat.zero_mul,↓reduceIte,Nat.reduceEqDiff,Nat.reduceLT,Nat.reduceAdd,Nat.reduceLeDiff,reduceCtorEq,goInt,pairs,isConst,TI.isAgg,splice,boxS,Edp,dpv,Nat.beq_eq,ZV.val,List.any_cons,List.any_nil,Bool.false_and,e1,gk1,gk2,gk3,gk4,gk5,gk6,gk7,vc_sent,fz_sent]
 refine S_loop (fun k f σ' => σ' = σ ∧ ∃ j : Nat,k + j = 7 ∧ j < n ∧ f 16 = .int .i64 j) 7 (Le.refl _) ⟨rfl,0,rfl,by omega,by simp (disch := first | assumption | simp) only [↓sbD,sbU,tyB,Nat.reduceMul,Nat.reduceSub,Int.reduceEq,Int.reduceLT,Int.reduceLE,Int.reduceNe,Nat.reduceBneDiff,Nat.reduceBEq,decide_false,gt_iff_lt,Bool.or_self,Bool.false_eq_true,Nat.mul_one,Nat.one_mul,Nat.zero_mul,↓reduceIte,Nat.reduceEqDiff,Nat.reduceLT,Nat.reduceAdd,Nat.reduceLeDiff,reduceCtorEq,goInt,pairs,isConst,TI.isAgg,splice,boxS,Edp,dpv,Nat.beq_eq,ZV.val,List.any_cons,List.any_nil,Bool.false_and]; rfl⟩ ?_
 rintro k f σ' ⟨rfl,j,hk,hj,f16⟩ hf
 have f0 := hf 0 (by decide) (notMem_wr (by kernel_rfl))
 have f14 := hf 14 (by decide) (notMem_wr (by kernel_rfl))
 have f15 := hf 15 (by decide) (notMem_wr (by kernel_rfl))
 simp (disch := first | assumption | simp) only [↓sbD,sbU,tyB,Nat.reduceMul,Nat.reduceSub,Int.reduceEq,Int.reduceLT,Int.reduceLE,Int.reduceNe,Nat.reduceBneDiff,Nat.reduceBEq,decide_false,gt_iff_lt,Bool.or_self,Bool.false_eq_true,Nat.mul_one,Nat.one_mul,Nat.zero_mul,↓reduceIte,Nat.reduceEqDiff,Nat.reduceLT,Nat.reduceAdd,Nat.reduceLeDiff,reduceCtorEq,goInt,pairs,isConst,TI.isAgg,splice,boxS,Edp,dpv,Nat.beq_eq,ZV.val,List.any_cons,List.any_nil,Bool.false_and] at f0 f14 f15
 clear hf
 have hlt : (j : Int) < ((7 : Nat) : Int) := by omega
 have hj7 : j < 7 := by omega
 have hcell : (([sent 1,sent 2,sent 3,sent 4,sent 5,sent 6,sent 7] : List Value).drop j)[0]? = some (sent (j + 1)) := by
  rcases (by omega : j = 0 ∨ j = 1 ∨ j = 2 ∨ j = 3 ∨ j = 4 ∨ j = 5 ∨ j = 6) with rfl | rfl | rfl | rfl | rfl | rfl | rfl <;> rfl
 have hw := wrap_suc (n := j) (by omega)
 simp (disch := first | assumption | simp) only [↓sbD,sbU,tyB,Nat.reduceMul,Nat.reduceSub,Int.reduceEq,Int.reduceLT,Int.reduceLE,Int.reduceNe,Nat.reduceBneDiff,Nat.reduceBEq,decide_false,gt_iff_lt,Bool.or_self,Bool.false_eq_true,Nat.mul_one,Nat.one_mul,Nat.zero_mul,↓reduceIte,Nat.reduceEqDiff,Nat.reduceLT,Nat.reduceAdd,Nat.reduceLeDiff,reduceCtorEq,goInt,pairs,isConst,TI.isAgg,splice,boxS,Edp,dpv,Nat.beq_eq,ZV.val,List.any_cons,List.any_nil,Bool.false_and,f0,f14,f15,f16,hlt,hcell]
 refine is_step he hd ⟨by omega,by omega⟩ ?_
 by_cases hkj : n = j + 1
 ·subst hkj
  simp (disch := first | assumption | simp) only [↓sbD,sbU,tyB,Nat.reduceMul,Nat.reduceSub,Int.reduceEq,Int.reduceLT,Int.reduceLE,Int.reduceNe,Nat.reduceBneDiff,Nat.reduceBEq,decide_false,gt_iff_lt,Bool.or_self,Bool.false_eq_true,Nat.mul_one,Nat.one_mul,Nat.zero_mul,↓reduceIte,Nat.reduceEqDiff,Nat.reduceLT,Nat.reduceAdd,Nat.reduceLeDiff,reduceCtorEq,goInt,pairs,isConst,TI.isAgg,splice,boxS,Edp,dpv,Nat.beq_eq,ZV.val,List.any_cons,List.any_nil,Bool.false_and,hw]
  exact downS_here h
 ·simp (disch := first | assumption | simp) only [↓sbD,sbU,tyB,Nat.reduceMul,Nat.reduceSub,Int.reduceEq,Int.reduceLT,Int.reduceLE,Int.reduceNe,Nat.reduceBneDiff,Nat.reduceBEq,decide_false,gt_iff_lt,Bool.or_self,Bool.false_eq_true,Nat.mul_one,Nat.one_mul,Nat.zero_mul,↓reduceIte,Nat.reduceEqDiff,Nat.reduceLT,Nat.reduceAdd,Nat.reduceLeDiff,reduceCtorEq,goInt,pairs,isConst,TI.isAgg,splice,boxS,Edp,dpv,Nat.beq_eq,ZV.val,List.any_cons,List.any_nil,Bool.false_and,hkj,f16,hw]
  refine ⟨_,k - 1,_,rfl,by omega,Le.refl _,rfl,j + 1,by omega,by omega,?_⟩
  simp (disch := first | assumption | simp) only [↓sbD,sbU,tyB,Nat.reduceMul,Nat.reduceSub,Int.reduceEq,Int.reduceLT,Int.reduceLE,Int.reduceNe,Nat.reduceBneDiff,Nat.reduceBEq,decide_false,gt_iff_lt,Bool.or_self,Bool.false_eq_true,Nat.mul_one,Nat.one_mul,Nat.zero_mul,↓reduceIte,Nat.reduceEqDiff,Nat.reduceLT,Nat.reduceAdd,Nat.reduceLeDiff,reduceCtorEq,goInt,pairs,isConst,TI.isAgg,splice,boxS,Edp,dpv,Nat.beq_eq,ZV.val,List.any_cons,List.any_nil,Bool.false_and]
theorem zeroF : azero E 179 = some [.pointer none] := rfl
theorem handleB : isHandle ec (B.get 7) = true := by kernel_rfl
theorem as_step {r a : Int} {x : Value} {σ : AHeap} {t : Nat} {v : Value} (ht : σ.get t = .cells [v] true 0) {Q : Value → AHeap → Prop} (hq : Q (.bool true) (σ.set t (.cells [dptr [.int .i64 r,.int .i64 a,x]] true 0))) :
  CallS E B 129 [fv r a x,.iface 186 (.pointer (some ⟨t,0,none⟩))] σ Q := by
 intro H hH
 have hh : isHandle ec (H.get 7) = true := by rw [(hH.base _ (base_live (by kernel_rfl))).1]; exact handleB
 have hg := hH.get ht (by simp)
 have c : (Nat.beq 179 ec.tF && Nat.beq 186 ec.tPF && Nat.blt ec.gET ng && isHandle ec (H.get ec.gET)) = true := by
  show (true && isHandle ec (H.get 7)) = true
  rw [hh]; rfl
 refine w_special (g := asSpec ec ng) (H' := H.set t (.cells [dptr [.int .i64 r,.int .i64 a,x]] true 0)) rfl ?_ ⟨_,hH.set ht (by simp [wrt,ht]) hB,hq⟩
 show asSpec ec ng [.iface 179 (.func (.yield 0) ⟨[.int .i64 r,.int .i64 a,x]⟩ ⟨[]⟩),.iface 186 (.pointer (some ⟨t,0,none⟩))] H = _
 simp only [asSpec]
 rw [if_pos c]
 simp [astoreAt,hg,oneCell,splice]
theorem specReason {r a : Int} {x : Value} {σ : AHeap} {Q : Value → AHeap → Prop} (h : Q (.int .i64 r) σ) : CallS E B 74 [fv r a x] σ Q := by
 refine call74 (by simp) ?_
 simp only [strip,bodyOf,Tryz.f74,getD_body,keepN,bareOp_mk,lessOp_mk,lapp_cons,lapp_nil,List.map_cons,List.map_nil,array_toList,↓reduceIte,Nat.reduceEqDiff,Bool.false_eq_true]
 simp (disch := first | assumption | simp) only [↓sbD,sbU,tyB,Nat.reduceMul,Nat.reduceSub,Int.reduceEq,Int.reduceLT,Int.reduceLE,Int.reduceNe,Nat.reduceBneDiff,Nat.reduceBEq,decide_false,gt_iff_lt,Bool.or_self,Bool.false_eq_true,Nat.mul_one,Nat.one_mul,Nat.zero_mul,↓reduceIte,Nat.reduceEqDiff,Nat.reduceLT,Nat.reduceAdd,Nat.reduceLeDiff,reduceCtorEq,goInt,pairs,isConst,TI.isAgg,splice,boxS,Edp,dpv,Nat.beq_eq,ZV.val,List.any_cons,List.any_nil,Bool.false_and,zeroF,AS_new]
 intro b hb
 refine as_step (AHeap.get_set_same _ _ _) ?_
 simp (disch := first | assumption | simp) only [↓sbD,sbU,tyB,Nat.reduceMul,Nat.reduceSub,Int.reduceEq,Int.reduceLT,Int.reduceLE,Int.reduceNe,Nat.reduceBneDiff,Nat.reduceBEq,decide_false,gt_iff_lt,Bool.or_self,Bool.false_eq_true,Nat.mul_one,Nat.one_mul,Nat.zero_mul,↓reduceIte,Nat.reduceEqDiff,Nat.reduceLT,Nat.reduceAdd,Nat.reduceLeDiff,reduceCtorEq,goInt,pairs,isConst,TI.isAgg,splice,boxS,Edp,dpv,Nat.beq_eq,ZV.val,List.any_cons,List.any_nil,Bool.false_and]
 exact downS_le (Le.new' (Le.new hb) hb) h
theorem specAt {r a : Int} {x : Value} {σ : AHeap} {Q : Value → AHeap → Prop} (h : Q (.int .i64 a) σ) : CallS E B 75 [fv r a x] σ Q := by
 refine call75 (by simp) ?_
 simp only [strip,bodyOf,Tryz.f75,getD_body,keepN,bareOp_mk,lessOp_mk,lapp_cons,lapp_nil,List.map_cons,List.map_nil,array_toList,↓reduceIte,Nat.reduceEqDiff,Bool.false_eq_true]
 simp (disch := first | assumption | simp) only [↓sbD,sbU,tyB,Nat.reduceMul,Nat.reduceSub,Int.reduceEq,Int.reduceLT,Int.reduceLE,Int.reduceNe,Nat.reduceBneDiff,Nat.reduceBEq,decide_false,gt_iff_lt,Bool.or_self,Bool.false_eq_true,Nat.mul_one,Nat.one_mul,Nat.zero_mul,↓reduceIte,Nat.reduceEqDiff,Nat.reduceLT,Nat.reduceAdd,Nat.reduceLeDiff,reduceCtorEq,goInt,pairs,isConst,TI.isAgg,splice,boxS,Edp,dpv,Nat.beq_eq,ZV.val,List.any_cons,List.any_nil,Bool.false_and,zeroF,AS_new]
 intro b hb
 refine as_step (AHeap.get_set_same _ _ _) ?_
 simp (disch := first | assumption | simp) only [↓sbD,sbU,tyB,Nat.reduceMul,Nat.reduceSub,Int.reduceEq,Int.reduceLT,Int.reduceLE,Int.reduceNe,Nat.reduceBneDiff,Nat.reduceBEq,decide_false,gt_iff_lt,Bool.or_self,Bool.false_eq_true,Nat.mul_one,Nat.one_mul,Nat.zero_mul,↓reduceIte,Nat.reduceEqDiff,Nat.reduceLT,Nat.reduceAdd,Nat.reduceLeDiff,reduceCtorEq,goInt,pairs,isConst,TI.isAgg,splice,boxS,Edp,dpv,Nat.beq_eq,ZV.val,List.any_cons,List.any_nil,Bool.false_and]
 exact downS_le (Le.new' (Le.new hb) hb) h
structure Kept (σ : AHeap) (fp : List Nat) (σ' : AHeap) (fp' : List Nat) : Prop where
 get : ∀ b,σ.get b ≠ .dead → b ∉ fp → σ'.get b = σ.get b
 new : ∀ b,b ∈ fp' → b ∈ fp ∨ σ.get b = .dead
theorem Kept.refl (σ : AHeap) (fp : List Nat) : Kept σ fp σ fp := ⟨fun _ _ _ => rfl,fun _ h => .inl h⟩
theorem Kept.trans {σ σ' σ'' : AHeap} {fp fp' fp'' : List Nat} (h : Kept σ fp σ' fp') (k : Kept σ' fp' σ'' fp'') : Kept σ fp σ'' fp'' where
 get b hb hn := by
  have h1 := h.get b hb hn
  rw [k.get b (by rw [h1]; exact hb) (fun hm => by rcases h.new b hm with h2 | h2; exact hn h2; exact hb h2),h1]
 new b hb := by
  rcases k.new b hb with h1 | h1
  ·exact h.new b h1
  ·by_cases hd : σ.get b = .dead
   ·exact .inr hd
   ·by_cases hn : b ∈ fp
    ·exact .inl hn
    ·rw [h.get b hd hn] at h1; exact .inr h1
theorem Kept.at {σ σ' : AHeap} {fp fp' : List Nat} (h : Kept σ fp σ' fp') {b : Nat} {o : AObj} (hg : σ.get b = o) (ho : o ≠ .dead) (hn : b ∉ fp) : σ'.get b = o ∧ b ∉ fp' :=
 ⟨by rw [h.get b (by rw [hg]; exact ho) hn,hg],fun hm => by rcases h.new b hm with h2 | h2; exact hn h2; rw [h2] at hg; exact ho hg.symm⟩
theorem Kept.more {σ σ' : AHeap} {fp fp' l : List Nat} (h : Kept σ fp σ' fp') : Kept σ (l ++ fp) σ' (l ++ fp') where
 get b hb hn := h.get b hb (fun hm => hn (List.mem_append_right _ hm))
 new b hb := by
  rcases List.mem_append.1 hb with h1 | h1
  ·exact .inl (List.mem_append_left _ h1)
  ·rcases h.new b h1 with h2 | h2
   ·exact .inl (List.mem_append_right _ h2)
   ·exact .inr h2
theorem Kept.set {σ : AHeap} {fp : List Nat} {b : Nat} {o : AObj} (hb : b ∈ fp) : Kept σ fp (σ.set b o) fp :=
 ⟨fun c _ hn => AHeap.get_set_ne _ _ (by rintro rfl; exact hn hb),fun _ h => .inl h⟩
theorem Kept.new' {σ : AHeap} {b : Nat} {o : AObj} (hb : σ.get b = .dead) : Kept σ [] (σ.set b o) [b] :=
 ⟨fun c hc _ => AHeap.get_set_ne _ _ (by rintro rfl; exact hc hb),fun c hc => by obtain rfl := List.mem_singleton.1 hc; exact .inr hb⟩
def unit : Value := .tuple #[]
theorem dead_of {σ : AHeap} {b : Nat} (hb : ∀ c,¬ σ.get c = .dead → c < b) : σ.get b = .dead := by
 rcases hg : σ.get b with _ | _ | _
 ·rfl
 ·exact absurd (hb b (by rw [hg]; simp)) (Nat.lt_irrefl _)
 ·exact absurd (hb b (by rw [hg]; simp)) (Nat.lt_irrefl _)
section
variable {σ : AHeap} {w : Nat} {a s : ByteArray} {fp : List Nat} {n : Int} {Q : Value → AHeap → Prop}
end
end Go.Proofs.YtkhcbbpfchgemaaGreatDoor.AbsA
