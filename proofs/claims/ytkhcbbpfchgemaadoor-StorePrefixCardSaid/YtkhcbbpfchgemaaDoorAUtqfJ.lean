/-
  Parts of a law's proof.
-/
import Derived.Test.YtkhcbbpfchgemaaDoorAVaqfJ
namespace Go.Proofs.YtkhcbbpfchgemaaDoor.AbsB
open Go AbsYtkhcbbpfchgemaaDoor Abs
set_option maxHeartbeats 4000000
set_option linter.unusedSimpArgs false
set_option linter.unusedVariables false

set_option maxRecDepth 100000
set_option maxHeartbeats 1000000
set_option linter.unusedSimpArgs false
set_option linter.unusedVariables false
def Begins (u : ByteArray) (N m : Nat) : Prop := okN N ∧ m ≤ u.size ∧ (encU N).length = m ∧ ∀ (j : Nat) (h : j < (encU N).length),bt u j = (encU N)[j]
theorem firstI_of {u : ByteArray} {fo n0 le : Nat} (h : shapeF (bt u 0) = (fo,n0,le)) : firstI u = if u.size ≤ fo then 0 else if cont u fo then (if acc u n0 fo < le ∨ bad (acc u n0 fo) then 0 else fo + 1) else 0 := by
 unfold firstI; rw [h]
theorem first_begins {u : ByteArray} {m : Nat} (hm : 0 < m) (h : firstI u = m) : m ≤ 4 ∧ ∃ N : Nat,numF u m = N ∧ Begins u N m := by
 have hc := bt_lt u 0
 have mk : ∀ {N : Nat} {l : List Nat},okN N → encU N = l → l.length = m → m ≤ u.size → (∀ (j : Nat) (h : j < l.length),bt u j = l[j]) → Begins u N m := fun h1 h2 h3 h4 h5 => by
  subst h2; exact ⟨h1,h4,h3,h5⟩
 rcases (by omega : bt u 0 = 0 ∨ (1 ≤ bt u 0 ∧ bt u 0 < 128) ∨ (128 ≤ bt u 0 ∧ bt u 0 < 192) ∨ (192 ≤ bt u 0 ∧ bt u 0 < 224) ∨ (224 ≤ bt u 0 ∧ bt u 0 < 240) ∨ (240 ≤ bt u 0 ∧ bt u 0 < 248) ∨ 248 ≤ bt u 0) with c | c | c | c | c | c | c
 case inr.inl =>
  rw [firstI_of (fo := 0) (n0 := bt u 0) (le := 1) (by unfold shapeF; rw [if_pos c])] at h
  split at h
  ·omega
  ·split at h
   ·split at h
    ·omega
    ·obtain rfl : m = 1 := by omega
     refine ⟨by omega,bt u 0,by simp [numF],mk (l := [bt u 0]) (by unfold okN; omega) (by unfold encU; rw [if_pos (by omega)]) rfl (by omega) fun j hj => ?_⟩
     obtain rfl : j = 0 := by simp at hj; omega
     rfl
   ·omega
 case inr.inr.inr.inl =>
  rw [firstI_of (fo := 1) (n0 := bt u 0 % 32) (le := 128) (by unfold shapeF; rw [if_neg (by omega),if_pos c])] at h
  split at h
  ·omega
  ·split at h
   ·rename_i hcont
    have k1 := hcont 0 (by omega); simp only [Nat.zero_add] at k1
    split at h
    ·omega
    ·rename_i hno
     obtain rfl : m = 2 := by omega
     unfold bad at hno
     simp only [acc,Nat.zero_add] at hno
     refine ⟨by omega,bt u 0 % 32 * 64 + bt u 1 % 64,?_,mk (l := [bt u 0,bt u 1]) (by unfold okN; omega) (by unfold encU; rw [if_neg (by omega),if_pos (by omega)]; simp only [List.cons.injEq,and_true]; constructor <;> omega) rfl (by omega) fun j hj => ?_⟩
     ·simp only [numF,nacc,Nat.reduceSub,Nat.zero_add]; simp; omega
     ·rcases (by simp at hj; omega : j = 0 ∨ j = 1) with rfl | rfl <;> rfl
   ·omega
 case inr.inr.inr.inr.inl =>
  rw [firstI_of (fo := 2) (n0 := bt u 0 % 16) (le := 2048) (by unfold shapeF; rw [if_neg (by omega),if_neg (by omega),if_pos c])] at h
  split at h
  ·omega
  ·split at h
   ·rename_i hcont
    have k1 := hcont 0 (by omega); have k2 := hcont 1 (by omega); simp only [Nat.zero_add,Nat.reduceAdd] at k1 k2
    split at h
    ·omega
    ·rename_i hno
     obtain rfl : m = 3 := by omega
     unfold bad at hno
     simp only [acc,Nat.zero_add,Nat.reduceAdd] at hno
     refine ⟨by omega,(bt u 0 % 16 * 64 + bt u 1 % 64) * 64 + bt u 2 % 64,?_,mk (l := [bt u 0,bt u 1,bt u 2]) (by unfold okN; omega) (by unfold encU; rw [if_neg (by omega),if_neg (by omega),if_pos (by omega)]; simp only [List.cons.injEq,and_true]; refine ⟨?_,?_,?_⟩ <;> omega) rfl (by omega) fun j hj => ?_⟩
     ·simp only [numF,nacc,Nat.reduceSub,Nat.zero_add,Nat.reduceAdd]; simp; omega
     ·rcases (by simp at hj; omega : j = 0 ∨ j = 1 ∨ j = 2) with rfl | rfl | rfl <;> rfl
   ·omega
 case inr.inr.inr.inr.inr.inl =>
  rw [firstI_of (fo := 3) (n0 := bt u 0 % 8) (le := 65536) (by unfold shapeF; rw [if_neg (by omega),if_neg (by omega),if_neg (by omega),if_pos c])] at h
  split at h
  ·omega
  ·split at h
   ·rename_i hcont
    have k1 := hcont 0 (by omega); have k2 := hcont 1 (by omega); have k3 := hcont 2 (by omega); simp only [Nat.zero_add,Nat.reduceAdd] at k1 k2 k3
    split at h
    ·omega
    ·rename_i hno
     obtain rfl : m = 4 := by omega
     unfold bad at hno
     simp only [acc,Nat.zero_add,Nat.reduceAdd] at hno
     refine ⟨by omega,((bt u 0 % 8 * 64 + bt u 1 % 64) * 64 + bt u 2 % 64) * 64 + bt u 3 % 64,?_,mk (l := [bt u 0,bt u 1,bt u 2,bt u 3]) (by unfold okN; omega) (by unfold encU; rw [if_neg (by omega),if_neg (by omega),if_neg (by omega)]; simp only [List.cons.injEq,and_true]; refine ⟨?_,?_,?_,?_⟩ <;> omega) rfl (by omega) fun j hj => ?_⟩
     ·simp only [numF,nacc,Nat.reduceSub,Nat.zero_add,Nat.reduceAdd]; simp; omega
     ·rcases (by simp at hj; omega : j = 0 ∨ j = 1 ∨ j = 2 ∨ j = 3) with rfl | rfl | rfl | rfl <;> rfl
   ·omega
 all_goals
  rw [firstI_of (fo := 0) (n0 := 0) (le := 1) (by unfold shapeF; rw [if_neg (by omega),if_neg (by omega),if_neg (by omega),if_neg (by omega)])] at h
  split at h
  ·omega
  ·split at h
   ·rw [if_pos (.inl (by simp [acc]))] at h; omega
   ·omega
theorem firstI_size (u : ByteArray) : firstI u ≤ u.size := by
 rcases Nat.eq_zero_or_pos (firstI u) with h | h
 ·omega
 ·obtain ⟨_,N,_,h2⟩ := first_begins h rfl
  exact h2.2.1

set_option maxRecDepth 100000
set_option maxHeartbeats 1000000
set_option linter.unusedSimpArgs false
set_option linter.unusedVariables false
def stepF (s : ByteArray) (a : Nat) : Nat := firstI (s.extract a s.size)
theorem stepF_le (s : ByteArray) {a : Nat} (h : a ≤ s.size) : a + stepF s a ≤ s.size := by
 have := firstI_size (s.extract a s.size)
 rw [ByteArray.size_extract] at this
 unfold stepF
 omega
def walkF (s : ByteArray) (a n : Nat) : Nat × Nat := if h : a < s.size ∧ 0 < stepF s a then walkF s (a + stepF s a) (n + 1) else (n,a)
termination_by s.size - a
decreasing_by omega
theorem walk_next {s : ByteArray} {a n : Nat} (h : a < s.size) (h' : 0 < stepF s a) : walkF s a n = walkF s (a + stepF s a) (n + 1) := by
 rw [walkF,dif_pos ⟨h,h'⟩]
theorem walk_end {s : ByteArray} {a n : Nat} (h : ¬ (a < s.size ∧ 0 < stepF s a)) : walkF s a n = (n,a) := by
 rw [walkF,dif_neg h]
theorem spec82 {s : ByteArray} {H : AHeap} (hs : s.size ≤ 100000) : CallW E 82 [.string s] H fun r H' => r = .tuple #[.int .i64 (((walkF s 0 0).1 : Nat) : Int),.int .i64 (((walkF s 0 0).2 : Nat) : Int)] ∧ Ext H H' := by
 refine wcall82 (by simp) ?_
 simp only [strip,bodyOf,Tryd.f82,getD_body,keepN,bareOp_mk,lessOp_mk,lapp_cons,lapp_nil,List.map_cons,List.map_nil,array_toList,↓reduceIte,Nat.reduceEqDiff,Bool.false_eq_true]
 simp (disch := first | assumption | simp) only [↓wbD,wbU,↓aop,↓reduceIte,Nat.reduceEqDiff,Nat.reduceLT,reduceCtorEq,goInt,pairs]
 generalize hT : walkF s 0 0 = T
 refine W_loop (fun f H' => Ext H H' ∧ f 0 = .string s ∧ ∃ a n : Nat,n ≤ a ∧ a ≤ s.size ∧ f 5 = .int .i64 (a : Int) ∧ f 4 = .int .i64 (n : Int) ∧ walkF s a n = T) (fun f _ => match f 5 with | .int _ a => s.size - a.toNat | _ => 0) ?_ ?_
 ·simp (disch := first | assumption | simp) only [↓wbD,wbU,↓aop,↓reduceIte,Nat.reduceEqDiff,Nat.reduceLT,reduceCtorEq,goInt,pairs]
  exact ⟨Ext.refl _,0,0,by omega,by omega,rfl,rfl,hT⟩
 rintro f H1 ⟨hx,f0,a,n,hna,ha,f5,f4,hw⟩
 by_cases hlt : (a : Int) < (s.size : Int)
 ·have hsl := slice_from (E := E) (H := H1) ty9 (s := s) (k := a) ha
  have hsz : (s.extract a s.size).size = s.size - a := by rw [ByteArray.size_extract]; omega
  simp (disch := first | assumption | simp) only [↓wbD,wbU,↓aop,↓reduceIte,Nat.reduceEqDiff,Nat.reduceLT,reduceCtorEq,goInt,pairs,f0,f4,f5,hlt,decide_true,len_str ty9,hsl]
  refine (spec83 (by omega) (by omega)).mono ?_
  rintro r H2 ⟨rfl,hx2⟩
  rw [show firstI (s.extract a s.size) = stepF s a from rfl]
  by_cases hz : stepF s a = 0
  ·have hzd : decide (((stepF s a : Nat) : Int) = 0) = true := by rw [hz]; rfl
   rw [walk_end (by omega)] at hw
   subst hw
   simp (disch := first | assumption | simp) only [↓wbD,wbU,↓aop,↓reduceIte,Nat.reduceEqDiff,Nat.reduceLT,reduceCtorEq,goInt,pairs,f0,f4,f5,hzd]
   exact hx.trans hx2
  ·have hzd : decide (((stepF s a : Nat) : Int) = 0) = false := by rw [decide_eq_false_iff_not]; omega
   have hle := stepF_le s ha
   rw [walk_next (by omega) (by omega)] at hw
   have w1 : IntKind.i64.wrap ((a : Int) + ((stepF s a : Nat) : Int)) = ((a + stepF s a : Nat) : Int) := by rw [wrap64 ⟨by omega,by omega⟩]; rfl
   have w2 := wrap_suc (n := n) (by omega)
   simp (disch := first | assumption | simp) only [↓wbD,wbU,↓aop,↓reduceIte,Nat.reduceEqDiff,Nat.reduceLT,reduceCtorEq,goInt,pairs,f0,f4,f5,hzd,w1,w2]
   refine ⟨_,rfl,⟨hx.trans hx2,?_,a + stepF s a,n + 1,by omega,hle,?_,?_,hw⟩,?_⟩
   ·simp (disch := first | assumption | simp) only [↓wbD,wbU,↓aop,↓reduceIte,Nat.reduceEqDiff,Nat.reduceLT,reduceCtorEq,goInt,pairs,f0]
   ·simp (disch := first | assumption | simp) only [↓wbD,wbU,↓aop,↓reduceIte,Nat.reduceEqDiff,Nat.reduceLT,reduceCtorEq,goInt,pairs]
   ·simp (disch := first | assumption | simp) only [↓wbD,wbU,↓aop,↓reduceIte,Nat.reduceEqDiff,Nat.reduceLT,reduceCtorEq,goInt,pairs]
   ·simp (disch := first | assumption | simp) only [↓wbD,wbU,↓aop,↓reduceIte,Nat.reduceEqDiff,Nat.reduceLT,reduceCtorEq,goInt,pairs,f5]
    simp; omega
 ·rw [walk_end (by omega)] at hw
  subst hw
  simp (disch := first | assumption | simp) only [↓wbD,wbU,↓aop,↓reduceIte,Nat.reduceEqDiff,Nat.reduceLT,reduceCtorEq,goInt,pairs,f0,f4,f5,hlt,decide_false,len_str ty9]
  exact hx
def textF (s : ByteArray) : Nat ⊕ (Nat × Nat) := if 65535 < s.size then .inr (3,65535) else if (walkF s 0 0).2 < s.size then .inr (1,(walkF s 0 0).2) else .inl (walkF s 0 0).1
theorem spec77 {s : ByteArray} {H : AHeap} (hB : ExtB H) (hs : s.size ≤ 100000) : CallW E 77 [.string s] H fun r H' => Ext H H' ∧ match textF s with
  | .inl n => r = .tuple #[.int .i64 (n : Int),.nilIface]
  | .inr (k,p) => ∃ e,r = .tuple #[.int .i64 0,e] ∧ Fault H' e 129 p k := by
 refine wcall77 (by simp) ?_
 simp only [strip,bodyOf,Tryd.f77,getD_body,keepN,bareOp_mk,lessOp_mk,lapp_cons,lapp_nil,List.map_cons,List.map_nil,array_toList,↓reduceIte,Nat.reduceEqDiff,Bool.false_eq_true]
 have hg1 := (glob hB).2.1
 have c0 : ∀ v : Value,([v] : List Value)[0]? = some v := fun v => rfl
 by_cases h1 : (65535 : Int) < (s.size : Int)
 ·have hT : textF s = .inr (3,65535) := by unfold textF; rw [if_pos (by omega)]
  rw [hT]
  simp (disch := first | assumption | simp) only [↓wbD,wbU,↓aop,↓reduceIte,Nat.reduceEqDiff,Nat.reduceLT,reduceCtorEq,goInt,pairs,len_str ty9,h1,decide_true,aev_global,ld_cell ty34 rfl hg1,c0]
  refine spec22.mono ?_
  rintro r H' ⟨hx,hf⟩
  simp (disch := first | assumption | simp) only [↓wbD,wbU,↓aop,↓reduceIte,Nat.reduceEqDiff,Nat.reduceLT,reduceCtorEq,goInt,pairs]
  exact ⟨hx,_,rfl,hf⟩
 ·simp (disch := first | assumption | simp) only [↓wbD,wbU,↓aop,↓reduceIte,Nat.reduceEqDiff,Nat.reduceLT,reduceCtorEq,goInt,pairs,len_str ty9,h1,decide_false]
  refine (spec82 hs).mono ?_
  rintro r H1 ⟨rfl,hx⟩
  have hg3 := (glob (hB.trans hx)).2.2.2
  by_cases h2 : (((walkF s 0 0).2 : Nat) : Int) < (s.size : Int)
  ·have hT : textF s = .inr (1,(walkF s 0 0).2) := by unfold textF; rw [if_neg (by omega),if_pos (by omega)]
   rw [hT]
   simp (disch := first | assumption | simp) only [↓wbD,wbU,↓aop,↓reduceIte,Nat.reduceEqDiff,Nat.reduceLT,reduceCtorEq,goInt,pairs,tup0,tup1,len_str ty9,h2,decide_true,aev_global,ld_cell ty34 rfl hg3,c0]
   refine spec22.mono ?_
   rintro r H' ⟨hx2,hf⟩
   simp (disch := first | assumption | simp) only [↓wbD,wbU,↓aop,↓reduceIte,Nat.reduceEqDiff,Nat.reduceLT,reduceCtorEq,goInt,pairs]
   exact ⟨hx.trans hx2,_,rfl,hf⟩
  ·have hT : textF s = .inl (walkF s 0 0).1 := by unfold textF; rw [if_neg (by omega),if_neg (by omega)]
   rw [hT]
   simp (disch := first | assumption | simp) only [↓wbD,wbU,↓aop,↓reduceIte,Nat.reduceEqDiff,Nat.reduceLT,reduceCtorEq,goInt,pairs,tup0,tup1,len_str ty9,h2,decide_false]
   exact ⟨hx,trivial⟩
theorem spec69 {s : ByteArray} {H : AHeap} (hB : ExtB H) (hs : s.size ≤ 100000) : CallW E 69 [.string s] H fun r H' => Ext H H' ∧ match textF s with
  | .inl n => r = .nilIface
  | .inr (k,p) => Fault H' r 129 p k := by
 refine wcall69 (by simp) ?_
 simp only [strip,bodyOf,Tryd.f69,getD_body,keepN,bareOp_mk,lessOp_mk,lapp_cons,lapp_nil,List.map_cons,List.map_nil,array_toList,↓reduceIte,Nat.reduceEqDiff,Bool.false_eq_true]
 simp (disch := first | assumption | simp) only [↓wbD,wbU,↓aop,↓reduceIte,Nat.reduceEqDiff,Nat.reduceLT,reduceCtorEq,goInt,pairs]
 refine (spec77 hB hs).mono ?_
 rintro r H1 ⟨hx,hr⟩
 cases hT : textF s with
 | inl n =>
  rw [hT] at hr; subst hr
  simp (disch := first | assumption | simp) only [↓wbD,wbU,↓aop,↓reduceIte,Nat.reduceEqDiff,Nat.reduceLT,reduceCtorEq,goInt,pairs,tup0,tup1]
  exact ⟨hx,trivial⟩
 | inr q =>
  obtain ⟨k,p⟩ := q
  rw [hT] at hr
  obtain ⟨e,rfl,hf⟩ := hr
  simp (disch := first | assumption | simp) only [↓wbD,wbU,↓aop,↓reduceIte,Nat.reduceEqDiff,Nat.reduceLT,reduceCtorEq,goInt,pairs,tup0,tup1]
  exact ⟨hx,hf⟩
theorem textF_k {s : ByteArray} {k p : Nat} (h : textF s = .inr (k,p)) : k < 7 := by
 unfold textF at h
 split at h
 ·injection h with h; injection h with h1 h2; omega
 ·split at h
  ·injection h with h; injection h with h1 h2; omega
  ·cases h
set_option maxRecDepth 100000
theorem gk1 : B.get 3 = .cells [sent 1] false 1 := by kernel_rfl
theorem gk2 : B.get 0 = .cells [sent 2] false 1 := by kernel_rfl
theorem gk3 : B.get 4 = .cells [sent 3] false 1 := by kernel_rfl
theorem gk4 : B.get 2 = .cells [sent 4] false 1 := by kernel_rfl
theorem zeroF : azero E 72 = some [.pointer none] := rfl
theorem handleB : isHandle ec (B.get 5) = true := by kernel_rfl
theorem as_step {r a : Int} {x : Value} {σ : AHeap} {t : Nat} {v : Value} (ht : σ.get t = .cells [v] true 0) {Q : Value → AHeap → Prop} (hq : Q (.bool true) (σ.set t (.cells [dptr [.int .i64 r,.int .i64 a,x]] true 0))) :
  CallS E B 67 [fv r a x,.iface 97 (.pointer (some ⟨t,0,none⟩))] σ Q := by
 intro H hH
 have hh : isHandle ec (H.get 5) = true := by rw [(hH.base _ (base_live (by kernel_rfl))).1]; exact handleB
 have hg := hH.get ht (by simp)
 have c : (Nat.beq 72 ec.tF && Nat.beq 97 ec.tPF && Nat.blt ec.gET ng && isHandle ec (H.get ec.gET)) = true := by
  show (true && isHandle ec (H.get 5)) = true
  rw [hh]; rfl
 refine w_special (g := asSpec ec ng) (H' := H.set t (.cells [dptr [.int .i64 r,.int .i64 a,x]] true 0)) rfl ?_ ⟨_,hH.set ht (by simp [wrt,ht]) hB,hq⟩
 show asSpec ec ng [.iface 72 (.func (.yield 0) ⟨[.int .i64 r,.int .i64 a,x]⟩ ⟨[]⟩),.iface 97 (.pointer (some ⟨t,0,none⟩))] H = _
 simp only [asSpec]
 rw [if_pos c]
 simp [astoreAt,hg,oneCell,splice]
theorem specReason {r a : Int} {x : Value} {σ : AHeap} {Q : Value → AHeap → Prop} (h : Q (.int .i64 r) σ) : CallS E B 56 [fv r a x] σ Q := by
 refine call56 (by simp) ?_
 simp only [strip,bodyOf,Tryd.f56,getD_body,keepN,bareOp_mk,lessOp_mk,lapp_cons,lapp_nil,List.map_cons,List.map_nil,array_toList,↓reduceIte,Nat.reduceEqDiff,Bool.false_eq_true]
 simp (disch := first | assumption | simp) only [↓sbD,sbU,tyB,Nat.reduceMul,Nat.reduceSub,Int.reduceEq,Int.reduceLT,Int.reduceLE,Int.reduceNe,Nat.reduceBneDiff,Nat.reduceBEq,decide_false,gt_iff_lt,Bool.or_self,Bool.false_eq_true,Nat.mul_one,Nat.one_mul,Nat.zero_mul,↓reduceIte,Nat.reduceEqDiff,Nat.reduceLT,Nat.reduceAdd,Nat.reduceLeDiff,reduceCtorEq,goInt,pairs,isConst,TI.isAgg,splice,boxS,Edp,dpv,Nat.beq_eq,ZV.val,List.any_cons,List.any_nil,Bool.false_and,zeroF,AS_new]
 intro b hb
 refine as_step (AHeap.get_set_same _ _ _) ?_
 simp (disch := first | assumption | simp) only [↓sbD,sbU,tyB,Nat.reduceMul,Nat.reduceSub,Int.reduceEq,Int.reduceLT,Int.reduceLE,Int.reduceNe,Nat.reduceBneDiff,Nat.reduceBEq,decide_false,gt_iff_lt,Bool.or_self,Bool.false_eq_true,Nat.mul_one,Nat.one_mul,Nat.zero_mul,↓reduceIte,Nat.reduceEqDiff,Nat.reduceLT,Nat.reduceAdd,Nat.reduceLeDiff,reduceCtorEq,goInt,pairs,isConst,TI.isAgg,splice,boxS,Edp,dpv,Nat.beq_eq,ZV.val,List.any_cons,List.any_nil,Bool.false_and]
 exact downS_le (Le.new' (Le.new hb) hb) h
theorem specAt {r a : Int} {x : Value} {σ : AHeap} {Q : Value → AHeap → Prop} (h : Q (.int .i64 a) σ) : CallS E B 58 [fv r a x] σ Q := by
 refine call58 (by simp) ?_
 simp only [strip,bodyOf,Tryd.f58,getD_body,keepN,bareOp_mk,lessOp_mk,lapp_cons,lapp_nil,List.map_cons,List.map_nil,array_toList,↓reduceIte,Nat.reduceEqDiff,Bool.false_eq_true]
 simp (disch := first | assumption | simp) only [↓sbD,sbU,tyB,Nat.reduceMul,Nat.reduceSub,Int.reduceEq,Int.reduceLT,Int.reduceLE,Int.reduceNe,Nat.reduceBneDiff,Nat.reduceBEq,decide_false,gt_iff_lt,Bool.or_self,Bool.false_eq_true,Nat.mul_one,Nat.one_mul,Nat.zero_mul,↓reduceIte,Nat.reduceEqDiff,Nat.reduceLT,Nat.reduceAdd,Nat.reduceLeDiff,reduceCtorEq,goInt,pairs,isConst,TI.isAgg,splice,boxS,Edp,dpv,Nat.beq_eq,ZV.val,List.any_cons,List.any_nil,Bool.false_and,zeroF,AS_new]
 intro b hb
 refine as_step (AHeap.get_set_same _ _ _) ?_
 simp (disch := first | assumption | simp) only [↓sbD,sbU,tyB,Nat.reduceMul,Nat.reduceSub,Int.reduceEq,Int.reduceLT,Int.reduceLE,Int.reduceNe,Nat.reduceBneDiff,Nat.reduceBEq,decide_false,gt_iff_lt,Bool.or_self,Bool.false_eq_true,Nat.mul_one,Nat.one_mul,Nat.zero_mul,↓reduceIte,Nat.reduceEqDiff,Nat.reduceLT,Nat.reduceAdd,Nat.reduceLeDiff,reduceCtorEq,goInt,pairs,isConst,TI.isAgg,splice,boxS,Edp,dpv,Nat.beq_eq,ZV.val,List.any_cons,List.any_nil,Bool.false_and]
 exact downS_le (Le.new' (Le.new hb) hb) h
structure Kept (σ : AHeap) (fp : List Nat) (σ' : AHeap) (fp' : List Nat) : Prop where
 get : ∀ b,σ.get b ≠ .dead → b ∉ fp → σ'.get b = σ.get b
 new : ∀ b,b ∈ fp' → b ∈ fp ∨ σ.get b = .dead
theorem Kept.refl (σ : AHeap) (fp : List Nat) : Kept σ fp σ fp := ⟨fun _ _ _ => rfl,fun _ h => .inl h⟩
theorem Kept.trans {σ σ' σ'' : AHeap} {fp fp' fp'' : List Nat} (h : Kept σ fp σ' fp') (k : Kept σ' fp' σ'' fp'') : Kept σ fp σ'' fp'' where
 get b hb hn := by
  have h1 := h.get b hb hn
  rw [k.get b (by rw [h1]; exact hb) (fun hm => by rcases h.new b hm with h2 | h2; exact hn h2; exact hb h2),h1]
 new b hb := by
  rcases k.new b hb with h1 | h1
  ·exact h.new b h1
  ·by_cases hd : σ.get b = .dead
   ·exact .inr hd
   ·by_cases hn : b ∈ fp
    ·exact .inl hn
    ·rw [h.get b hd hn] at h1; exact .inr h1
theorem Kept.at {σ σ' : AHeap} {fp fp' : List Nat} (h : Kept σ fp σ' fp') {b : Nat} {o : AObj} (hg : σ.get b = o) (ho : o ≠ .dead) (hn : b ∉ fp) : σ'.get b = o ∧ b ∉ fp' :=
 ⟨by rw [h.get b (by rw [hg]; exact ho) hn,hg],fun hm => by rcases h.new b hm with h2 | h2; exact hn h2; rw [h2] at hg; exact ho hg.symm⟩
theorem Kept.more {σ σ' : AHeap} {fp fp' l : List Nat} (h : Kept σ fp σ' fp') : Kept σ (l ++ fp) σ' (l ++ fp') where
 get b hb hn := h.get b hb (fun hm => hn (List.mem_append_right _ hm))
 new b hb := by
  rcases List.mem_append.1 hb with h1 | h1
  ·exact .inl (List.mem_append_left _ h1)
  ·rcases h.new b h1 with h2 | h2
   ·exact .inl (List.mem_append_right _ h2)
   ·exact .inr h2
theorem Kept.set {σ : AHeap} {fp : List Nat} {b : Nat} {o : AObj} (hb : b ∈ fp) : Kept σ fp (σ.set b o) fp :=
 ⟨fun c _ hn => AHeap.get_set_ne _ _ (by rintro rfl; exact hn hb),fun _ h => .inl h⟩
theorem Kept.new' {σ : AHeap} {b : Nat} {o : AObj} (hb : σ.get b = .dead) : Kept σ [] (σ.set b o) [b] :=
 ⟨fun c hc _ => AHeap.get_set_ne _ _ (by rintro rfl; exact hc hb),fun c hc => by obtain rfl := List.mem_singleton.1 hc; exact .inr hb⟩
theorem get_resize {σ : AHeap} {n b : Nat} : (σ.resize n).get b = σ.get b := rfl
def unit : Value := .tuple #[]
def numB (n k : Nat) : ByteArray := if k = 4 then str [n / 16777216 % 256,n / 65536 % 256,n / 256 % 256,n % 256] else if k = 2 then str [n / 256 % 256,n % 256] else str [n % 256]
def numW (n : Int) (k : Nat) : ByteArray ⊕ (Nat × Nat) := if n < 0 ∨ (2 ^ (8 * k) : Nat) ≤ n then .inr (4,0) else .inl (numB n.toNat k)
theorem dead_of {σ : AHeap} {b : Nat} (hb : ∀ c,¬ σ.get c = .dead → c < b) : σ.get b = .dead := by
 rcases hg : σ.get b with _ | _ | _
 ·rfl
 ·exact absurd (hb b (by rw [hg]; simp)) (Nat.lt_irrefl _)
 ·exact absurd (hb b (by rw [hg]; simp)) (Nat.lt_irrefl _)
section
variable {σ : AHeap} {w : Nat} {a s : ByteArray} {fp : List Nat} {n : Int} {Q : Value → AHeap → Prop}
theorem specHold {n m : Int} (h : Q (.int .i64 n) σ) (hn : -m ≤ n ∧ n ≤ m) (hm : 0 ≤ m ∧ m ≤ 1000000000000000000) : CallS E B 68 [.int .i64 n,.int .i64 m] σ Q := by
 have e1 : aun .neg (.int .i64 m) = some (.int .i64 (-m)) := by
  simp only [aun]
  rw [wrap64 ⟨by omega,by omega⟩]; congr 2; omega
 have e2 : (if m < n then m else n) = n := by rw [if_neg (by omega)]
 have e3 : (if n > -m then n else -m) = n := by by_cases h : n > -m; rw [if_pos h]; rw [if_neg h]; omega
 have e4 : (if -m < n then n else -m) = n := by by_cases h : -m < n; rw [if_pos h]; rw [if_neg h]; omega
 refine call68 (by simp) ?_
 simp only [strip,bodyOf,Tryd.f68,getD_body,keepN,bareOp_mk,lessOp_mk,lapp_cons,lapp_nil,List.map_cons,List.map_nil,array_toList,↓reduceIte,Nat.reduceEqDiff,Bool.false_eq_true]
 simp (disch := first | assumption | simp) only [↓sbD,sbU,tyB,Nat.reduceMul,Nat.reduceSub,Int.reduceEq,Int.reduceLT,Int.reduceLE,Int.reduceNe,Nat.reduceBneDiff,Nat.reduceBEq,decide_false,gt_iff_lt,Bool.or_self,Bool.false_eq_true,Nat.mul_one,Nat.one_mul,Nat.zero_mul,↓reduceIte,Nat.reduceEqDiff,Nat.reduceLT,Nat.reduceAdd,Nat.reduceLeDiff,reduceCtorEq,goInt,pairs,isConst,TI.isAgg,splice,boxS,Edp,dpv,Nat.beq_eq,ZV.val,List.any_cons,List.any_nil,Bool.false_and,e1,e2,e3,e4]
 exact downS_here h
theorem specFurther {n m : Nat} (hn : n ≤ 1000000000) (hm : m ≤ 1000000000) (h : Q (.int .i64 ((m + n : Nat) : Int)) σ) : CallS E B 57 [.int .i64 (n : Int),.int .i64 (m : Int)] σ Q := by
 have hw : IntKind.i64.wrap ((n : Int) + (m : Int)) = ((m + n : Nat) : Int) := by rw [wrap64 ⟨by omega,by omega⟩]; omega
 have e1 : (if (9007199254740992 : Int) < ((m + n : Nat) : Int) then (9007199254740992 : Int) else ((m + n : Nat) : Int)) = ((m + n : Nat) : Int) := by rw [if_neg (by omega)]
 have e2 : (if ((m + n : Nat) : Int) > 0 then ((m + n : Nat) : Int) else 0) = ((m + n : Nat) : Int) := by split <;> omega
 have e3 : (if 0 < ((m + n : Nat) : Int) then ((m + n : Nat) : Int) else 0) = ((m + n : Nat) : Int) := by split <;> omega
 refine call57 (by simp) ?_
 simp only [strip,bodyOf,Tryd.f57,getD_body,keepN,bareOp_mk,lessOp_mk,lapp_cons,lapp_nil,List.map_cons,List.map_nil,array_toList,↓reduceIte,Nat.reduceEqDiff,Bool.false_eq_true]
 simp (disch := first | assumption | simp) only [↓sbD,sbU,tyB,Nat.reduceMul,Nat.reduceSub,Int.reduceEq,Int.reduceLT,Int.reduceLE,Int.reduceNe,Nat.reduceBneDiff,Nat.reduceBEq,decide_false,gt_iff_lt,Bool.or_self,Bool.false_eq_true,Nat.mul_one,Nat.one_mul,Nat.zero_mul,↓reduceIte,Nat.reduceEqDiff,Nat.reduceLT,Nat.reduceAdd,Nat.reduceLeDiff,reduceCtorEq,goInt,pairs,isConst,TI.isAgg,splice,boxS,Edp,dpv,Nat.beq_eq,ZV.val,List.any_cons,List.any_nil,Bool.false_and]
 refine specHold ?_ ⟨by omega,by omega⟩ ⟨by omega,by omega⟩
 simp (disch := first | assumption | simp) only [↓sbD,sbU,tyB,Nat.reduceMul,Nat.reduceSub,Int.reduceEq,Int.reduceLT,Int.reduceLE,Int.reduceNe,Nat.reduceBneDiff,Nat.reduceBEq,decide_false,gt_iff_lt,Bool.or_self,Bool.false_eq_true,Nat.mul_one,Nat.one_mul,Nat.zero_mul,↓reduceIte,Nat.reduceEqDiff,Nat.reduceLT,Nat.reduceAdd,Nat.reduceLeDiff,reduceCtorEq,goInt,pairs,isConst,TI.isAgg,splice,boxS,Edp,dpv,Nat.beq_eq,ZV.val,List.any_cons,List.any_nil,Bool.false_and]
 refine specHold ?_ ⟨by omega,by omega⟩ ⟨by omega,by omega⟩
 simp (disch := first | assumption | simp) only [↓sbD,sbU,tyB,Nat.reduceMul,Nat.reduceSub,Int.reduceEq,Int.reduceLT,Int.reduceLE,Int.reduceNe,Nat.reduceBneDiff,Nat.reduceBEq,decide_false,gt_iff_lt,Bool.or_self,Bool.false_eq_true,Nat.mul_one,Nat.one_mul,Nat.zero_mul,↓reduceIte,Nat.reduceEqDiff,Nat.reduceLT,Nat.reduceAdd,Nat.reduceLeDiff,reduceCtorEq,goInt,pairs,isConst,TI.isAgg,splice,boxS,Edp,dpv,Nat.beq_eq,ZV.val,List.any_cons,List.any_nil,Bool.false_and,hw,e1,e2,e3]
 exact downS_here h
theorem specDeeper {r : Int} {n m : Nat} {x : Value} (hn : n ≤ 1000000000) (hm : m ≤ 1000000000) (h : Q (fv r ((m + n : Nat) : Int) (fv r (n : Int) x)) σ) : CallS E B 46 [fv r (n : Int) x,.int .i64 (m : Int)] σ Q := by
 refine call46 (by simp) ?_
 simp only [strip,bodyOf,Tryd.f46,getD_body,keepN,bareOp_mk,lessOp_mk,lapp_cons,lapp_nil,List.map_cons,List.map_nil,array_toList,↓reduceIte,Nat.reduceEqDiff,Bool.false_eq_true]
 simp (disch := first | assumption | simp) only [↓sbD,sbU,tyB,Nat.reduceMul,Nat.reduceSub,Int.reduceEq,Int.reduceLT,Int.reduceLE,Int.reduceNe,Nat.reduceBneDiff,Nat.reduceBEq,decide_false,gt_iff_lt,Bool.or_self,Bool.false_eq_true,Nat.mul_one,Nat.one_mul,Nat.zero_mul,↓reduceIte,Nat.reduceEqDiff,Nat.reduceLT,Nat.reduceAdd,Nat.reduceLeDiff,reduceCtorEq,goInt,pairs,isConst,TI.isAgg,splice,boxS,Edp,dpv,Nat.beq_eq,ZV.val,List.any_cons,List.any_nil,Bool.false_and]
 refine specReason ?_
 simp (disch := first | assumption | simp) only [↓sbD,sbU,tyB,Nat.reduceMul,Nat.reduceSub,Int.reduceEq,Int.reduceLT,Int.reduceLE,Int.reduceNe,Nat.reduceBneDiff,Nat.reduceBEq,decide_false,gt_iff_lt,Bool.or_self,Bool.false_eq_true,Nat.mul_one,Nat.one_mul,Nat.zero_mul,↓reduceIte,Nat.reduceEqDiff,Nat.reduceLT,Nat.reduceAdd,Nat.reduceLeDiff,reduceCtorEq,goInt,pairs,isConst,TI.isAgg,splice,boxS,Edp,dpv,Nat.beq_eq,ZV.val,List.any_cons,List.any_nil,Bool.false_and]
 refine specAt ?_
 simp (disch := first | assumption | simp) only [↓sbD,sbU,tyB,Nat.reduceMul,Nat.reduceSub,Int.reduceEq,Int.reduceLT,Int.reduceLE,Int.reduceNe,Nat.reduceBneDiff,Nat.reduceBEq,decide_false,gt_iff_lt,Bool.or_self,Bool.false_eq_true,Nat.mul_one,Nat.one_mul,Nat.zero_mul,↓reduceIte,Nat.reduceEqDiff,Nat.reduceLT,Nat.reduceAdd,Nat.reduceLeDiff,reduceCtorEq,goInt,pairs,isConst,TI.isAgg,splice,boxS,Edp,dpv,Nat.beq_eq,ZV.val,List.any_cons,List.any_nil,Bool.false_and]
 refine specFurther hn hm ?_
 simp (disch := first | assumption | simp) only [↓sbD,sbU,tyB,Nat.reduceMul,Nat.reduceSub,Int.reduceEq,Int.reduceLT,Int.reduceLE,Int.reduceNe,Nat.reduceBneDiff,Nat.reduceBEq,decide_false,gt_iff_lt,Bool.or_self,Bool.false_eq_true,Nat.mul_one,Nat.one_mul,Nat.zero_mul,↓reduceIte,Nat.reduceEqDiff,Nat.reduceLT,Nat.reduceAdd,Nat.reduceLeDiff,reduceCtorEq,goInt,pairs,isConst,TI.isAgg,splice,boxS,Edp,dpv,Nat.beq_eq,ZV.val,List.any_cons,List.any_nil,Bool.false_and]
 exact downS_here h
end
end Go.Proofs.YtkhcbbpfchgemaaDoor.AbsB
