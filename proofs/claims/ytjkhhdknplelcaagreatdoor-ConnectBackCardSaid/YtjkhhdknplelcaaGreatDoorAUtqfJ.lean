/-
  Parts of a law's proof.
-/
import Derived.Test.YtjkhhdknplelcaaGreatDoorAVaqfJ
namespace Go.Proofs.YtjkhhdknplelcaaGreatDoor.AbsB
open Go AbsYtjkhhdknplelcaaGreatDoor Abs
set_option maxHeartbeats 4000000
set_option linter.unusedSimpArgs false
set_option linter.unusedVariables false

set_option maxRecDepth 100000
set_option maxHeartbeats 1000000
set_option linter.unusedSimpArgs false
set_option linter.unusedVariables false
def Begins (u : ByteArray) (N m : Nat) : Prop := okN N ∧ m ≤ u.size ∧ (encU N).length = m ∧ ∀ (j : Nat) (h : j < (encU N).length),bt u j = (encU N)[j]
theorem firstI_of {u : ByteArray} {fo n0 le : Nat} (h : shapeF (bt u 0) = (fo,n0,le)) : firstI u = if u.size ≤ fo then 0 else if cont u fo then (if acc u n0 fo < le ∨ bad (acc u n0 fo) then 0 else fo + 1) else 0 := by
 unfold firstI; rw [h]
theorem first_begins {u : ByteArray} {m : Nat} (hm : 0 < m) (h : firstI u = m) : m ≤ 4 ∧ ∃ N : Nat,numF u m = N ∧ Begins u N m := by
 have hc := bt_lt u 0
 have mk : ∀ {N : Nat} {l : List Nat},okN N → encU N = l → l.length = m → m ≤ u.size → (∀ (j : Nat) (h : j < l.length),bt u j = l[j]) → Begins u N m := fun h1 h2 h3 h4 h5 => by
  subst h2; exact ⟨h1,h4,h3,h5⟩
 rcases (by omega : bt u 0 = 0 ∨ (1 ≤ bt u 0 ∧ bt u 0 < 128) ∨ (128 ≤ bt u 0 ∧ bt u 0 < 192) ∨ (192 ≤ bt u 0 ∧ bt u 0 < 224) ∨ (224 ≤ bt u 0 ∧ bt u 0 < 240) ∨ (240 ≤ bt u 0 ∧ bt u 0 < 248) ∨ 248 ≤ bt u 0) with c | c | c | c | c | c | c
 case inr.inl =>
  rw [firstI_of (fo := 0) (n0 := bt u 0) (le := 1) (by unfold shapeF; rw [if_pos c])] at h
  split at h
  ·omega
  ·split at h
   ·split at h
    ·omega
    ·obtain rfl : m = 1 := by omega
     refine ⟨by omega,bt u 0,by simp [numF],mk (l := [bt u 0]) (by unfold okN; omega) (by unfold encU; rw [if_pos (by omega)]) rfl (by omega) fun j hj => ?_⟩
     obtain rfl : j = 0 := by simp at hj; omega
     rfl
   ·omega
 case inr.inr.inr.inl =>
  rw [firstI_of (fo := 1) (n0 := bt u 0 % 32) (le := 128) (by unfold shapeF; rw [if_neg (by omega),if_pos c])] at h
  split at h
  ·omega
  ·split at h
   ·rename_i hcont
    have k1 := hcont 0 (by omega); simp only [Nat.zero_add] at k1
    split at h
    ·omega
    ·rename_i hno
     obtain rfl : m = 2 := by omega
     unfold bad at hno
     simp only [acc,Nat.zero_add] at hno
     refine ⟨by omega,bt u 0 % 32 * 64 + bt u 1 % 64,?_,mk (l := [bt u 0,bt u 1]) (by unfold okN; omega) (by unfold encU; rw [if_neg (by omega),if_pos (by omega)]; simp only [List.cons.injEq,and_true]; constructor <;> omega) rfl (by omega) fun j hj => ?_⟩
     ·simp only [numF,nacc,Nat.reduceSub,Nat.zero_add]; simp; omega
     ·rcases (by simp at hj; omega : j = 0 ∨ j = 1) with rfl | rfl <;> rfl
   ·omega
 case inr.inr.inr.inr.inl =>
  rw [firstI_of (fo := 2) (n0 := bt u 0 % 16) (le := 2048) (by unfold shapeF; rw [if_neg (by omega),if_neg (by omega),if_pos c])] at h
  split at h
  ·omega
  ·split at h
   ·rename_i hcont
    have k1 := hcont 0 (by omega); have k2 := hcont 1 (by omega); simp only [Nat.zero_add,Nat.reduceAdd] at k1 k2
    split at h
    ·omega
    ·rename_i hno
     obtain rfl : m = 3 := by omega
     unfold bad at hno
     simp only [acc,Nat.zero_add,Nat.reduceAdd] at hno
     refine ⟨by omega,(bt u 0 % 16 * 64 + bt u 1 % 64) * 64 + bt u 2 % 64,?_,mk (l := [bt u 0,bt u 1,bt u 2]) (by unfold okN; omega) (by unfold encU; rw [if_neg (by omega),if_neg (by omega),if_pos (by omega)]; simp only [List.cons.injEq,and_true]; refine ⟨?_,?_,?_⟩ <;> omega) rfl (by omega) fun j hj => ?_⟩
     ·simp only [numF,nacc,Nat.reduceSub,Nat.zero_add,Nat.reduceAdd]; simp; omega
     ·rcases (by simp at hj; omega : j = 0 ∨ j = 1 ∨ j = 2) with rfl | rfl | rfl <;> rfl
   ·omega
 case inr.inr.inr.inr.inr.inl =>
  rw [firstI_of (fo := 3) (n0 := bt u 0 % 8) (le := 65536) (by unfold shapeF; rw [if_neg (by omega),if_neg (by omega),if_neg (by omega),if_pos c])] at h
  split at h
  ·omega
  ·split at h
   ·rename_i hcont
    have k1 := hcont 0 (by omega); have k2 := hcont 1 (by omega); have k3 := hcont 2 (by omega); simp only [Nat.zero_add,Nat.reduceAdd] at k1 k2 k3
    split at h
    ·omega
    ·rename_i hno
     obtain rfl : m = 4 := by omega
     unfold bad at hno
     simp only [acc,Nat.zero_add,Nat.reduceAdd] at hno
     refine ⟨by omega,((bt u 0 % 8 * 64 + bt u 1 % 64) * 64 + bt u 2 % 64) * 64 + bt u 3 % 64,?_,mk (l := [bt u 0,bt u 1,bt u 2,bt u 3]) (by unfold okN; omega) (by unfold encU; rw [if_neg (by omega),if_neg (by omega),if_neg (by omega)]; simp only [List.cons.injEq,and_true]; refine ⟨?_,?_,?_,?_⟩ <;> omega) rfl (by omega) fun j hj => ?_⟩
     ·simp only [numF,nacc,Nat.reduceSub,Nat.zero_add,Nat.reduceAdd]; simp; omega
     ·rcases (by simp at hj; omega : j = 0 ∨ j = 1 ∨ j = 2 ∨ j = 3) with rfl | rfl | rfl | rfl <;> rfl
   ·omega
 all_goals
  rw [firstI_of (fo := 0) (n0 := 0) (le := 1) (by unfold shapeF; rw [if_neg (by omega),if_neg (by omega),if_neg (by omega),if_neg (by omega)])] at h
  split at h
  ·omega
  ·split at h
   ·rw [if_pos (.inl (by simp [acc]))] at h; omega
   ·omega
theorem firstI_size (u : ByteArray) : firstI u ≤ u.size := by
 rcases Nat.eq_zero_or_pos (firstI u) with h | h
 ·omega
 ·obtain ⟨_,N,_,h2⟩ := first_begins h rfl
  exact h2.2.1

set_option maxRecDepth 100000
set_option maxHeartbeats 1000000
set_option linter.unusedSimpArgs false
set_option linter.unusedVariables false
def stepF (s : ByteArray) (a : Nat) : Nat := firstI (s.extract a s.size)
theorem stepF_le (s : ByteArray) {a : Nat} (h : a ≤ s.size) : a + stepF s a ≤ s.size := by
 have := firstI_size (s.extract a s.size)
 rw [ByteArray.size_extract] at this
 unfold stepF
 omega
def walkF (s : ByteArray) (a n : Nat) : Nat × Nat := if h : a < s.size ∧ 0 < stepF s a then walkF s (a + stepF s a) (n + 1) else (n,a)
termination_by s.size - a
decreasing_by omega
theorem walk_next {s : ByteArray} {a n : Nat} (h : a < s.size) (h' : 0 < stepF s a) : walkF s a n = walkF s (a + stepF s a) (n + 1) := by
 rw [walkF,dif_pos ⟨h,h'⟩]
theorem walk_end {s : ByteArray} {a n : Nat} (h : ¬ (a < s.size ∧ 0 < stepF s a)) : walkF s a n = (n,a) := by
 rw [walkF,dif_neg h]
theorem spec159 {s : ByteArray} {H : AHeap} (hs : s.size ≤ 100000) : CallW E 159 [.string s] H fun r H' => r = .tuple #[.int .i64 (((walkF s 0 0).1 : Nat) : Int),.int .i64 (((walkF s 0 0).2 : Nat) : Int)] ∧ Ext H H' := by
 refine wcall159 (by simp) ?_
 simp only [strip,bodyOf,Tryz.f159,getD_body,keepN,bareOp_mk,List.map_cons,List.map_nil,↓reduceIte,Bool.false_eq_true]
 simp (disch := first | assumption | simp) only [↓wbD,wbU,↓aop]
 generalize hT : walkF s 0 0 = T
 refine W_loop (fun f H' => Ext H H' ∧ f 0 = .string s ∧ ∃ a n : Nat,n ≤ a ∧ a ≤ s.size ∧ f 5 = .int .i64 (a : Int) ∧ f 4 = .int .i64 (n : Int) ∧ walkF s a n = T) (fun f _ => match f 5 with | .int _ a => s.size - a.toNat | _ => 0) ?_ ?_
 ·simp (disch := first | assumption | simp) only [wbU,↓reduceIte,Nat.reduceEqDiff,reduceCtorEq]
  exact ⟨Ext.refl _,0,0,by omega,by omega,rfl,rfl,hT⟩
 rintro f H1 ⟨hx,f0,a,n,hna,ha,f5,f4,hw⟩
 by_cases hlt : (a : Int) < (s.size : Int)
 ·have hsl := slice_from (E := E) (H := H1) ty9 (s := s) (k := a) ha
  have hsz : (s.extract a s.size).size = s.size - a := by rw [ByteArray.size_extract]; omega
  simp (disch := first | assumption | simp) only [↓wbD,wbU,↓aop,↓reduceIte,Nat.reduceEqDiff,Nat.reduceLT,reduceCtorEq,goInt,f0,f5,hlt,decide_true,len_str ty9,hsl]
  refine (spec170 (by omega) (by omega)).mono ?_
  rintro r H2 ⟨rfl,hx2⟩
  rw [show firstI (s.extract a s.size) = stepF s a from rfl]
  by_cases hz : stepF s a = 0
  ·have hzd : decide (((stepF s a : Nat) : Int) = 0) = true := by rw [hz]; rfl
   rw [walk_end (by omega)] at hw
   subst hw
   simp (disch := first | assumption | simp) only [↓wbD,wbU,↓aop,↓reduceIte,Nat.reduceEqDiff,Nat.reduceLT,reduceCtorEq,f4,f5,hzd]
   exact hx.trans hx2
  ·have hzd : decide (((stepF s a : Nat) : Int) = 0) = false := by rw [decide_eq_false_iff_not]; omega
   have hle := stepF_le s ha
   rw [walk_next (by omega) (by omega)] at hw
   have w1 : IntKind.i64.wrap ((a : Int) + ((stepF s a : Nat) : Int)) = ((a + stepF s a : Nat) : Int) := by rw [wrap64 ⟨by omega,by omega⟩]; rfl
   have w2 := wrap_suc (n := n) (by omega)
   simp (disch := first | assumption | simp) only [↓wbD,wbU,↓aop,↓reduceIte,Nat.reduceEqDiff,Nat.reduceLT,f4,f5,hzd,w1,w2]
   refine ⟨_,rfl,⟨hx.trans hx2,?_,a + stepF s a,n + 1,by omega,hle,?_,?_,hw⟩,?_⟩
   ·simp (disch := first | assumption | simp) only [wbU,↓reduceIte,reduceCtorEq,f0]
   ·simp (disch := first | assumption | simp) only [wbU,↓reduceIte,Nat.reduceEqDiff]
   ·simp (disch := first | assumption | simp) only [wbU,↓reduceIte]
   ·simp (disch := first | assumption | simp) only [wbU,↓reduceIte,Nat.reduceEqDiff]
    simp; omega
 ·rw [walk_end (by omega)] at hw
  subst hw
  simp (disch := first | assumption | simp) only [↓wbD,wbU,↓aop,↓reduceIte,Nat.reduceEqDiff,Nat.reduceLT,reduceCtorEq,goInt,f0,f4,f5,hlt,decide_false,len_str ty9]
  exact hx
def textF (s : ByteArray) : Nat ⊕ (Nat × Nat) := if 65535 < s.size then .inr (3,65535) else if (walkF s 0 0).2 < s.size then .inr (1,(walkF s 0 0).2) else .inl (walkF s 0 0).1
theorem spec135 {s : ByteArray} {H : AHeap} (hB : ExtB H) (hs : s.size ≤ 100000) : CallW E 135 [.string s] H fun r H' => Ext H H' ∧ match textF s with
  | .inl n => r = .tuple #[.int .i64 (n : Int),.nilIface]
  | .inr (k,p) => ∃ e,r = .tuple #[.int .i64 0,e] ∧ Fault H' e 129 p k := by
 refine wcall135 (by simp) ?_
 simp only [strip,bodyOf,Tryz.f135,getD_body,keepN,bareOp_mk,List.map_cons,List.map_nil,↓reduceIte,Bool.false_eq_true]
 have hg1 := (glob hB).2.1
 have c0 : ∀ v : Value,([v] : List Value)[0]? = some v := fun v => rfl
 by_cases h1 : (65535 : Int) < (s.size : Int)
 ·have hT : textF s = .inr (3,65535) := by unfold textF; rw [if_pos (by omega)]
  rw [hT]
  simp only [↓wbD,wbU,↓aop,↓reduceIte,Nat.reduceLT,reduceCtorEq,goInt,len_str ty9,h1,decide_true,aev_global,ld_cell ty35 rfl hg1,c0]
  refine spec40.mono ?_
  rintro r H' ⟨hx,hf⟩
  simp only [↓wbD,wbU,↓aop,↓reduceIte,Nat.reduceEqDiff,Nat.reduceLT]
  exact ⟨hx,_,rfl,hf⟩
 ·simp only [↓wbD,wbU,↓aop,↓reduceIte,Nat.reduceLT,reduceCtorEq,goInt,len_str ty9,h1,decide_false]
  refine (spec159 hs).mono ?_
  rintro r H1 ⟨rfl,hx⟩
  have hg3 := (glob (hB.trans hx)).2.2.2
  by_cases h2 : (((walkF s 0 0).2 : Nat) : Int) < (s.size : Int)
  ·have hT : textF s = .inr (1,(walkF s 0 0).2) := by unfold textF; rw [if_neg (by omega),if_pos (by omega)]
   rw [hT]
   simp only [↓wbD,wbU,↓aop,↓reduceIte,Nat.reduceEqDiff,Nat.reduceLT,reduceCtorEq,goInt,tup0,tup1,len_str ty9,h2,decide_true,aev_global,ld_cell ty35 rfl hg3,c0]
   refine spec40.mono ?_
   rintro r H' ⟨hx2,hf⟩
   simp only [↓wbD,wbU,↓aop,↓reduceIte,Nat.reduceEqDiff,Nat.reduceLT]
   exact ⟨hx.trans hx2,_,rfl,hf⟩
  ·have hT : textF s = .inl (walkF s 0 0).1 := by unfold textF; rw [if_neg (by omega),if_neg (by omega)]
   rw [hT]
   simp only [↓wbD,wbU,↓aop,↓reduceIte,Nat.reduceEqDiff,Nat.reduceLT,reduceCtorEq,goInt,tup0,tup1,len_str ty9,h2,decide_false]
   exact ⟨hx,trivial⟩
theorem spec90 {s : ByteArray} {H : AHeap} (hB : ExtB H) (hs : s.size ≤ 100000) : CallW E 90 [.string s] H fun r H' => Ext H H' ∧ match textF s with
  | .inl n => r = .nilIface
  | .inr (k,p) => Fault H' r 129 p k := by
 refine wcall90 (by simp) ?_
 simp only [strip,bodyOf,Tryz.f90,getD_body,keepN,bareOp_mk,List.map_cons,List.map_nil,↓reduceIte,Bool.false_eq_true]
 simp only [↓wbD,wbU,↓aop,↓reduceIte,Nat.reduceLT,reduceCtorEq]
 refine (spec135 hB hs).mono ?_
 rintro r H1 ⟨hx,hr⟩
 cases hT : textF s with
 | inl n =>
  rw [hT] at hr; subst hr
  simp only [↓wbD,wbU,↓aop,↓reduceIte,Nat.reduceEqDiff,Nat.reduceLT,tup0,tup1]
  exact ⟨hx,trivial⟩
 | inr q =>
  obtain ⟨k,p⟩ := q
  rw [hT] at hr
  obtain ⟨e,rfl,hf⟩ := hr
  simp only [↓wbD,wbU,↓aop,↓reduceIte,Nat.reduceEqDiff,Nat.reduceLT,tup0,tup1]
  exact ⟨hx,hf⟩
theorem textF_k {s : ByteArray} {k p : Nat} (h : textF s = .inr (k,p)) : k < 7 := by
 unfold textF at h
 split at h
 ·injection h with h; injection h with h1 h2; omega
 ·split at h
  ·injection h with h; injection h with h1 h2; omega
  ·cases h
set_option maxRecDepth 100000
theorem gk1 : B.get 3 = .cells [sent 1] false 1 := by kernel_rfl
theorem gk2 : B.get 0 = .cells [sent 2] false 1 := by kernel_rfl
theorem gk3 : B.get 1 = .cells [sent 3] false 1 := by kernel_rfl
theorem gk4 : B.get 4 = .cells [sent 4] false 1 := by kernel_rfl
theorem zeroF : azero E 107 = some [.pointer none] := rfl
theorem handleB : isHandle ec (B.get 7) = true := by kernel_rfl
theorem as_step {r a : Int} {x : Value} {σ : AHeap} {t : Nat} {v : Value} (ht : σ.get t = .cells [v] true 0) {Q : Value → AHeap → Prop} (hq : Q (.bool true) (σ.set t (.cells [dptr [.int .i64 r,.int .i64 a,x]] true 0))) :
  CallS E B 85 [fv r a x,.iface 109 (.pointer (some ⟨t,0,none⟩))] σ Q := by
 intro H hH
 have hh : isHandle ec (H.get 7) = true := by rw [(hH.base _ (base_live (by kernel_rfl))).1]; exact handleB
 have hg := hH.get ht (by simp)
 have c : (Nat.beq 107 ec.tF && Nat.beq 109 ec.tPF && Nat.blt ec.gET ng && isHandle ec (H.get ec.gET)) = true := by
  show (true && isHandle ec (H.get 7)) = true
  rw [hh]; rfl
 refine w_special (g := asSpec ec ng) (H' := H.set t (.cells [dptr [.int .i64 r,.int .i64 a,x]] true 0)) rfl ?_ ⟨_,hH.set ht (by simp [wrt,ht]) hB,hq⟩
 show asSpec ec ng [.iface 107 (.func (.yield 0) ⟨[.int .i64 r,.int .i64 a,x]⟩ ⟨[]⟩),.iface 109 (.pointer (some ⟨t,0,none⟩))] H = _
 simp only [asSpec]
 rw [if_pos c]
 simp [astoreAt,hg,oneCell,splice]
theorem specReason {r a : Int} {x : Value} {σ : AHeap} {Q : Value → AHeap → Prop} (h : Q (.int .i64 r) σ) : CallS E B 51 [fv r a x] σ Q := by
 refine call51 (by simp) ?_
 simp only [strip,bodyOf,Tryz.f51,getD_body,keepN,bareOp_mk,List.map_cons,List.map_nil,↓reduceIte,Bool.false_eq_true]
 simp only [↓sbD,sbU,tyB,↓reduceIte,Nat.reduceEqDiff,Nat.reduceLT,reduceCtorEq,isConst,zeroF,AS_new]
 intro b hb
 refine as_step (AHeap.get_set_same _ _ _) ?_
 simp only [↓sbD,sbU,tyB,↓reduceIte,Nat.reduceEqDiff,Nat.reduceLT,reduceCtorEq]
 exact downS_le (Le.new' (Le.new hb) hb) h
theorem specAt {r a : Int} {x : Value} {σ : AHeap} {Q : Value → AHeap → Prop} (h : Q (.int .i64 a) σ) : CallS E B 39 [fv r a x] σ Q := by
 refine call39 (by simp) ?_
 simp only [strip,bodyOf,Tryz.f39,getD_body,keepN,bareOp_mk,List.map_cons,List.map_nil,↓reduceIte,Bool.false_eq_true]
 simp only [↓sbD,sbU,tyB,↓reduceIte,Nat.reduceEqDiff,Nat.reduceLT,reduceCtorEq,isConst,zeroF,AS_new]
 intro b hb
 refine as_step (AHeap.get_set_same _ _ _) ?_
 simp only [↓sbD,sbU,tyB,↓reduceIte,Nat.reduceEqDiff,Nat.reduceLT,reduceCtorEq]
 exact downS_le (Le.new' (Le.new hb) hb) h
theorem bytesOf_len (w : ByteArray) : (bytesOf w).length = w.size := by
 show (w.data.toList.map _).length = w.data.size
 rw [List.length_map,Array.length_toList]
theorem bytesOf_app (a b : ByteArray) : bytesOf (a ++ b) = bytesOf a ++ bytesOf b := by simp [bytesOf,ByteArray.data_append]
theorem bytesOf_str {l : List Nat} (h : ∀ n ∈ l,n < 256) : bytesOf (str l) = u8s l := by
 simp only [bytesOf,str,u8s,List.map_map]
 apply List.map_congr_left
 intro n hn
 have := h n hn
 simp only [Function.comp,UInt8.toNat_ofNat']
 congr 2
 omega
theorem bytesOf_mapM (w : ByteArray) : (bytesOf w).mapM byteOfV = some w.data.toList := by
 have : ∀ l : List UInt8,(l.map fun b : UInt8 => Value.int .u8 (b.toNat : Int)).mapM byteOfV = some l := by
  intro l
  induction l with
  | nil => rfl
  | cons b l ih => rw [List.map_cons,List.mapM_cons,ih]; simp [byteOfV]
 exact this _
theorem oc_bytes (w : ByteArray) : (bytesOf w).all oneCell = true := by
 rw [List.all_eq_true]
 intro v hv
 simp only [bytesOf,List.mem_map] at hv
 obtain ⟨b,_,rfl⟩ := hv
 rfl
theorem size_app (a b : ByteArray) : (a ++ b).size = a.size + b.size := ByteArray.size_append
structure Kept (σ : AHeap) (fp : List Nat) (σ' : AHeap) (fp' : List Nat) : Prop where
 get : ∀ b,σ.get b ≠ .dead → b ∉ fp → σ'.get b = σ.get b
 new : ∀ b,b ∈ fp' → b ∈ fp ∨ σ.get b = .dead
theorem Kept.refl (σ : AHeap) (fp : List Nat) : Kept σ fp σ fp := ⟨fun _ _ _ => rfl,fun _ h => .inl h⟩
theorem Kept.trans {σ σ' σ'' : AHeap} {fp fp' fp'' : List Nat} (h : Kept σ fp σ' fp') (k : Kept σ' fp' σ'' fp'') : Kept σ fp σ'' fp'' where
 get b hb hn := by
  have h1 := h.get b hb hn
  rw [k.get b (by rw [h1]; exact hb) (fun hm => by rcases h.new b hm with h2 | h2; exact hn h2; exact hb h2),h1]
 new b hb := by
  rcases k.new b hb with h1 | h1
  ·exact h.new b h1
  ·by_cases hd : σ.get b = .dead
   ·exact .inr hd
   ·by_cases hn : b ∈ fp
    ·exact .inl hn
    ·rw [h.get b hd hn] at h1; exact .inr h1
theorem Kept.at {σ σ' : AHeap} {fp fp' : List Nat} (h : Kept σ fp σ' fp') {b : Nat} {o : AObj} (hg : σ.get b = o) (ho : o ≠ .dead) (hn : b ∉ fp) : σ'.get b = o ∧ b ∉ fp' :=
 ⟨by rw [h.get b (by rw [hg]; exact ho) hn,hg],fun hm => by rcases h.new b hm with h2 | h2; exact hn h2; rw [h2] at hg; exact ho hg.symm⟩
theorem Kept.more {σ σ' : AHeap} {fp fp' l : List Nat} (h : Kept σ fp σ' fp') : Kept σ (l ++ fp) σ' (l ++ fp') where
 get b hb hn := h.get b hb (fun hm => hn (List.mem_append_right _ hm))
 new b hb := by
  rcases List.mem_append.1 hb with h1 | h1
  ·exact .inl (List.mem_append_left _ h1)
  ·rcases h.new b h1 with h2 | h2
   ·exact .inl (List.mem_append_right _ h2)
   ·exact .inr h2
theorem Kept.set {σ : AHeap} {fp : List Nat} {b : Nat} {o : AObj} (hb : b ∈ fp) : Kept σ fp (σ.set b o) fp :=
 ⟨fun c _ hn => AHeap.get_set_ne _ _ (by rintro rfl; exact hn hb),fun _ h => .inl h⟩
theorem Kept.new' {σ : AHeap} {b : Nat} {o : AObj} (hb : σ.get b = .dead) : Kept σ [] (σ.set b o) [b] :=
 ⟨fun c hc _ => AHeap.get_set_ne _ _ (by rintro rfl; exact hc hb),fun c hc => by obtain rfl := List.mem_singleton.1 hc; exact .inr hb⟩
def BS (σ : AHeap) (v : Value) (a : ByteArray) (fp : List Nat) : Prop :=
 (a.size = 0 ∧ v = .slice none 0 0 ∧ fp = []) ∨ ∃ d,v = .slice (some ⟨d,0,none⟩) a.size a.size ∧ σ.get d = .cells (bytesOf a) true 1 ∧ fp = [d] ∧ 0 < a.size
theorem BS.kept {σ σ' : AHeap} {v : Value} {a : ByteArray} {fp gp gp' : List Nat} (h : BS σ v a fp) (k : Kept σ gp σ' gp') (hd : ∀ b ∈ fp,b ∉ gp) : BS σ' v a fp := by
 rcases h with h | ⟨d,h1,h2,h3,h4⟩
 ·exact .inl h
 ·exact .inr ⟨d,h1,by rw [k.get d (by rw [h2]; simp) (hd d (by rw [h3]; simp))]; exact h2,h3,h4⟩
theorem BS.set {σ : AHeap} {v : Value} {a : ByteArray} {fp : List Nat} (h : BS σ v a fp) {w : Nat} {o : AObj} (hw : w ∉ fp) : BS (σ.set w o) v a fp :=
 h.kept (Kept.set (fp := [w]) (by simp)) fun b hb hm => hw (by obtain rfl := List.mem_singleton.1 hm; exact hb)
theorem get_resize {σ : AHeap} {n b : Nat} : (σ.resize n).get b = σ.get b := rfl
theorem app_bytes {σ : AHeap} {K : Value → AHeap → Prop} {v x : Value} {a m : ByteArray} {fp : List Nat} {u : Nat} (hv : BS σ v a fp) (hx : ∀ b,srcCells (σ.resize b) 1 x = some (m.size,bytesOf m)) (hu : u = 9 ∨ u = 58)
  (hz : a.size + m.size ≤ 100000000) (hq : ∀ σ' v' fp',Kept σ fp σ' fp' → BS σ' v' (a ++ m) fp' → K v' σ') :
  afterOpS E B (some (.any fun b => aappend E (σ.resize b) [58,u] [v,x])) σ K := by
 intro b hb
 have hbd : σ.get b = .dead := by
  rcases hg : σ.get b with _ | _ | _
  ·rfl
  ·exact absurd (hb b (by rw [hg]; simp)) (Nat.lt_irrefl _)
  ·exact absurd (hb b (by rw [hg]; simp)) (Nat.lt_irrefl _)
 have hz5 : azero E 5 = some [.int .u8 0] := rfl
 have hiu : ∃ iu,E.ty.get u = some iu ∧ iu.k.isInt = false := by rcases hu with rfl | rfl <;> exact ⟨_,rfl,rfl⟩
 obtain ⟨iu,hiu,hki⟩ := hiu
 have hnew := oc_bytes m
 rcases hv with ⟨h1,rfl,rfl⟩ | ⟨d,rfl,hd,rfl,ha⟩
 ·have e0 : bytesOf a = [] := List.eq_nil_of_length_eq_zero (by rw [bytesOf_len,h1])
  by_cases hm : m.size = 0
  ·refine ⟨.slice none 0 0,σ.resize b,?_,hq _ _ [] ⟨fun c _ _ => rfl,fun _ h => by cases h⟩ (.inl ⟨by rw [size_app]; omega,rfl,rfl⟩)⟩
   simp only [aappend,ty58,ty5,hiu,hz5,hx b,hki,hm]
   rfl
  ·refine ⟨.slice (some ⟨b,0,none⟩) m.size m.size,(σ.resize b).alloc (.cells (bytesOf m) true 1),?_,hq _ _ [b] ?_ (.inr ⟨b,?_,?_,rfl,by rw [size_app]; omega⟩)⟩
   ·simp only [aappend,ty58,ty5,hiu,hz5,hx b,hki]
    have c1 : m.size * 1 ≤ 140737488355328 := by omega
    simp only [hm,hnew,c1,dpB,decide_true,Bool.and_self,if_true,if_false,Bool.false_eq_true]
    rfl
   ·exact ⟨fun c hc _ => AHeap.get_alloc_ne _ _ (by intro e; subst e; exact hc hbd),fun c hc => by obtain rfl := List.mem_singleton.1 hc; exact .inr hbd⟩
   ·rw [size_app,h1,Nat.zero_add]
   ·rw [bytesOf_app,e0,List.nil_append]; exact AHeap.get_alloc_same (σ.resize b) _
 ·by_cases hm : m.size = 0
  ·have e0 : bytesOf m = [] := List.eq_nil_of_length_eq_zero (by rw [bytesOf_len,hm])
   refine ⟨.slice (some ⟨d,0,none⟩) a.size a.size,σ.resize b,?_,hq _ _ [d] ⟨fun c _ _ => rfl,fun _ h => .inl h⟩ (.inr ⟨d,?_,?_,rfl,by rw [size_app]; omega⟩)⟩
   ·simp only [aappend,ty58,ty5,hiu,hz5,hx b,hki,hm,get_resize,hd]
    simp
   ·rw [size_app,hm,Nat.add_zero]
   ·rw [bytesOf_app,e0,List.append_nil]; exact hd
  ·refine ⟨.slice (some ⟨b,0,none⟩) (a.size + m.size) (a.size + m.size),((σ.resize b).set d .dead).alloc (.cells (bytesOf a ++ bytesOf m) true 1),?_,hq _ _ [b] ?_ (.inr ⟨b,?_,?_,rfl,by rw [size_app]; omega⟩)⟩
   ·simp only [aappend,ty58,ty5,hiu,hz5,hx b,hki,get_resize,hd]
    have c1 : a.size + m.size ≤ 140737488355328 := by omega
    have c2 : ¬ a.size + m.size ≤ a.size := by omega
    have c3 : (bytesOf a).length = a.size := bytesOf_len a
    simp only [hm,hnew,c1,c2,decide_true,Bool.and_self,if_true,if_false,Nat.zero_add,Nat.mul_one,c3,and_self,List.drop_zero]
    rfl
   ·have hdb : d ≠ b := by rintro rfl; rw [hbd] at hd; cases hd
    refine ⟨fun c hc hn => ?_,fun c hc => by obtain rfl := List.mem_singleton.1 hc; exact .inr hbd⟩
    show (((σ.resize b).set d .dead).alloc _).get c = σ.get c
    rw [AHeap.get_alloc_ne _ _ (by intro e; exact hc (by rw [← e]; exact hbd)),AHeap.get_set_ne _ _ (by rintro rfl; exact hn (by simp))]
    rfl
   ·rw [size_app]
   ·rw [bytesOf_app]; exact AHeap.get_alloc_same ((σ.resize b).set d .dead) _
theorem src_str {σ : AHeap} {s : ByteArray} : srcCells σ 1 (.string s) = some (s.size,bytesOf s) := by simp only [srcCells,if_true]; rfl
theorem conv_BS {σ : AHeap} {v : Value} {a : ByteArray} {fp : List Nat} {K : Value → AHeap → Prop} (h : BS σ v a fp) (hq : K (.string a) σ) : afterOpS E B (some (convS E σ 58 9 v)) σ K := by
 have ea : (⟨a.data.toList.toArray⟩ : ByteArray) = a := rfl
 rcases h with ⟨h1,rfl,rfl⟩ | ⟨d,rfl,hd,rfl,ha⟩
 ·have : a = ByteArray.empty := by
   obtain ⟨a⟩ := a
   have : a.size = 0 := h1
   rw [Array.eq_empty_of_size_eq_zero this]; rfl
  rw [this] at hq
  exact hq
 ·have hl : (bytesOf a).length = a.size := bytesOf_len a
  intro b hb
  refine ⟨.string a,σ.resize b,?_,hq⟩
  simp only [aconvert,ty58,ty9,ty5,takeCells,get_resize,hd]
  rw [if_pos (by rw [hl]; omega)]
  simp only [List.drop_zero]
  rw [List.take_of_length_le (by rw [hl]; omega),bytesOf_mapM]
  simp
def IsW (σ : AHeap) (w : Nat) (a : ByteArray) (e : Value) (fp : List Nat) : Prop := ∃ v gp,σ.get w = .cells [v,e] true 0 ∧ BS σ v a gp ∧ fp = w :: gp ∧ w ∉ gp
theorem IsW.kept {σ σ' : AHeap} {w : Nat} {a : ByteArray} {e : Value} {fp gp gp' : List Nat} (h : IsW σ w a e fp) (k : Kept σ gp σ' gp') (hd : ∀ b ∈ fp,b ∉ gp) : IsW σ' w a e fp := by
 obtain ⟨v,hp,h1,h2,rfl,h4⟩ := h
 exact ⟨v,hp,by rw [k.get w (by rw [h1]; simp) (hd w (by simp))]; exact h1,h2.kept k fun b hb => hd b (List.mem_cons_of_mem _ hb),rfl,h4⟩
theorem BS.vc {σ : AHeap} {v : Value} {a : ByteArray} {fp : List Nat} (h : BS σ v a fp) : vcells v = [v] ∧ oneCell v = true := by
 rcases h with ⟨_,rfl,_⟩ | ⟨d,rfl,_⟩ <;> exact ⟨rfl,rfl⟩
def unit : Value := .tuple #[]
theorem specOff {σ : AHeap} {w : Nat} {a : ByteArray} {fp : List Nat} (hw : IsW σ w a .nilIface fp) {Q : Value → AHeap → Prop} (h : Q (.bool false) σ) : CallS E B 89 [.pointer (some ⟨w,0,none⟩)] σ Q := by
 obtain ⟨v,gp,h1,h2,h3,h4⟩ := hw
 refine call89 (by simp) ?_
 simp only [strip,bodyOf,Tryz.f89,getD_body,keepN,bareOp_mk,List.map_cons,List.map_nil,↓reduceIte,Bool.false_eq_true]
 simp only [↓sbD,sbU,tyB,↓reduceIte,Nat.reduceEqDiff,Nat.reduceLT,reduceCtorEq,isConst,h1]
 exact downS_here h
theorem specOffE {σ : AHeap} {w u : Nat} {x : Value} {a : ByteArray} {fp : List Nat} (hw : IsW σ w a (.iface u x) fp) {Q : Value → AHeap → Prop} (h : Q (.bool true) σ) : CallS E B 89 [.pointer (some ⟨w,0,none⟩)] σ Q := by
 obtain ⟨v,gp,h1,h2,h3,h4⟩ := hw
 refine call89 (by simp) ?_
 simp only [strip,bodyOf,Tryz.f89,getD_body,keepN,bareOp_mk,List.map_cons,List.map_nil,↓reduceIte,Bool.false_eq_true]
 simp only [↓sbD,sbU,tyB,↓reduceIte,Nat.reduceEqDiff,Nat.reduceLT,reduceCtorEq,isConst,h1]
 exact downS_here h
theorem specFail {σ : AHeap} {w u : Nat} {x e : Value} {a : ByteArray} {fp : List Nat} (hw : IsW σ w a e fp) {Q : Value → AHeap → Prop} (h : ∀ σ',Kept σ fp σ' fp → IsW σ' w a (.iface u x) fp → Q unit σ') : CallS E B 91 [.pointer (some ⟨w,0,none⟩),.iface u x] σ Q := by
 obtain ⟨v,gp,h1,h2,rfl,h4⟩ := hw
 refine call91 (by simp) ?_
 simp only [strip,bodyOf,Tryz.f91,getD_body,keepN,bareOp_mk,List.map_cons,List.map_nil,↓reduceIte,Bool.false_eq_true]
 simp only [↓sbD,sbU,tyB,↓reduceIte,Nat.reduceEqDiff,Nat.reduceLT,Nat.reduceAdd,Nat.reduceLeDiff,reduceCtorEq,splice,h1]
 exact downS_here (h _ (Kept.set (by simp)) ⟨v,gp,AHeap.get_set_same _ _ _,h2.set h4,rfl,h4⟩)
theorem specFirst {σ : AHeap} {w : Nat} {e : Value} {a : ByteArray} {fp : List Nat} (hw : IsW σ w a e fp) {Q : Value → AHeap → Prop} (h : Q e σ) : CallS E B 94 [.pointer (some ⟨w,0,none⟩)] σ Q := by
 obtain ⟨v,gp,h1,h2,rfl,h4⟩ := hw
 refine call94 (by simp) ?_
 simp only [strip,bodyOf,Tryz.f94,getD_body,keepN,bareOp_mk,List.map_cons,List.map_nil,↓reduceIte,Bool.false_eq_true]
 simp only [↓sbD,sbU,tyB,↓reduceIte,Nat.reduceLT,reduceCtorEq,isConst,h1]
 exact downS_here h
theorem specBytes {σ : AHeap} {w : Nat} {a : ByteArray} {fp : List Nat} (hw : IsW σ w a .nilIface fp) {Q : Value → AHeap → Prop} (h : Q (.tuple #[.string a,.nilIface]) σ) : CallS E B 45 [.pointer (some ⟨w,0,none⟩)] σ Q := by
 obtain ⟨v,gp,h1,h2,rfl,h4⟩ := hw
 refine call45 (by simp) ?_
 simp only [strip,bodyOf,Tryz.f45,getD_body,keepN,bareOp_mk,List.map_cons,List.map_nil,↓reduceIte,Bool.false_eq_true]
 simp only [↓sbD,sbU,tyB,↓reduceIte,Nat.reduceEqDiff,Nat.reduceLT,reduceCtorEq,isConst,h1]
 refine conv_BS h2 ?_
 simp only [↓sbD,sbU,↓reduceIte,Nat.reduceEqDiff,Nat.reduceLT]
 exact downS_here h
theorem specBytesE {σ : AHeap} {w u : Nat} {x : Value} {a : ByteArray} {fp : List Nat} (hw : IsW σ w a (.iface u x) fp) {Q : Value → AHeap → Prop} (h : Q (.tuple #[.string emp,.iface u x]) σ) : CallS E B 45 [.pointer (some ⟨w,0,none⟩)] σ Q := by
 have hw' := hw
 obtain ⟨v,gp,h1,h2,rfl,h4⟩ := hw
 refine call45 (by simp) ?_
 simp only [strip,bodyOf,Tryz.f45,getD_body,keepN,bareOp_mk,List.map_cons,List.map_nil,↓reduceIte,Bool.false_eq_true]
 simp only [↓sbD,sbU,tyB,↓reduceIte,Nat.reduceEqDiff,Nat.reduceLT,reduceCtorEq,isConst,h1]
 refine specFirst hw' ?_
 simp only [↓sbD,sbU,↓reduceIte,Nat.reduceEqDiff,Nat.reduceLT]
 exact downS_here h
theorem specRaw {σ : AHeap} {w : Nat} {a s : ByteArray} {fp : List Nat} (hw : IsW σ w a .nilIface fp) (hz : a.size + s.size ≤ 100000000) {Q : Value → AHeap → Prop} (h : ∀ σ' fp',Kept σ fp σ' fp' → IsW σ' w (a ++ s) .nilIface fp' → Q unit σ') : CallS E B 44 [.pointer (some ⟨w,0,none⟩),.string s] σ Q := by
 refine call44 (by simp) ?_
 simp only [strip,bodyOf,Tryz.f44,getD_body,keepN,bareOp_mk,List.map_cons,List.map_nil,↓reduceIte,Bool.false_eq_true]
 simp only [↓sbD,sbU,↓reduceIte,Nat.reduceLT]
 refine specOff hw ?_
 obtain ⟨v,gp,h1,h2,rfl,h4⟩ := hw
 simp only [↓sbD,sbU,tyB,↓reduceIte,Nat.reduceEqDiff,Nat.reduceLT,reduceCtorEq,h1,not_bool]
 refine app_bytes h2 (fun b => src_str) (.inl rfl) hz fun σ' v' fp' k hb => ?_
 obtain ⟨h5,h6⟩ := k.at h1 (by simp) h4
 obtain ⟨hvc,hoc⟩ := hb.vc
 simp only [↓sbD,sbU,tyB,↓reduceIte,Nat.reduceEqDiff,Nat.reduceLT,Nat.reduceAdd,Nat.reduceLeDiff,reduceCtorEq,splice,h5,hvc,hoc]
 exact downS_here (h _ _ ((k.more (l := [w])).trans (Kept.set (by simp))) ⟨v',fp',AHeap.get_set_same _ _ _,hb.set h6,rfl,h6⟩)
def WOut (σ : AHeap) (w : Nat) (a : ByteArray) (r : ByteArray ⊕ (Nat × Nat)) (fp : List Nat) : Prop := match r with
 | .inl m => IsW σ w (a ++ m) .nilIface fp
 | .inr (n,p) => ∃ d x,d ≤ 2 ∧ ErN d (fv 129 ((a.size + p : Nat) : Int) x) n ∧ IsW σ w a (fv 129 ((a.size + p : Nat) : Int) x) fp
def numB (n k : Nat) : ByteArray := if k = 4 then str [n / 16777216 % 256,n / 65536 % 256,n / 256 % 256,n % 256] else if k = 2 then str [n / 256 % 256,n % 256] else str [n % 256]
def numW (n : Int) (k : Nat) : ByteArray ⊕ (Nat × Nat) := if n < 0 ∨ (2 ^ (8 * k) : Nat) ≤ n then .inr (4,0) else .inl (numB n.toNat k)
theorem wrap_u8N (N : Nat) : IntKind.u8.wrap (N : Int) = ((N % 256 : Nat) : Int) := by rw [IntKind.wrap_u8]; omega
theorem shr_nat {σ : AHeap} {N s : Nat} {t : Nat} {cs : Bool} {k : IntKind} (hs : s ≤ 63) : abin E σ .shr t cs (.int .i64 (N : Int)) (.int k (s : Int)) = some (.int .i64 ((N / 2 ^ s : Nat) : Int)) := by
 simp only [abin,ashift]
 rw [if_neg (by omega)]
 simp only [Int.toNat_natCast,Bool.false_eq_true,if_false]
 have e : min s IntKind.i64.bits = s := by have : IntKind.i64.bits = 64 := rfl; omega
 rw [e]
 congr 2
 rw [show ((2 : Int) ^ s) = ((2 ^ s : Nat) : Int) by simp]
 rw [Int.fdiv_eq_ediv_of_nonneg _ (Int.natCast_nonneg _)]
 exact (Int.natCast_ediv N (2 ^ s)).symm
theorem dead_of {σ : AHeap} {b : Nat} (hb : ∀ c,¬ σ.get c = .dead → c < b) : σ.get b = .dead := by
 rcases hg : σ.get b with _ | _ | _
 ·rfl
 ·exact absurd (hb b (by rw [hg]; simp)) (Nat.lt_irrefl _)
 ·exact absurd (hb b (by rw [hg]; simp)) (Nat.lt_irrefl _)
theorem bs_one {σ : AHeap} {n : Int} {K : Value → AHeap → Prop} (hq : ∀ b,σ.get b = .dead → K (.slice (some ⟨b,0,some 1⟩) 1 1) (σ.set b (.cells [.int .u8 n] true 1))) : afterOpS E B (some (bsS E σ 58 1 [(0,.int .u8 n)])) σ K := by
 simp only [sbU,tyB,Nat.reduceBneDiff,decide_false,gt_iff_lt,Bool.or_self,Bool.false_eq_true,Nat.mul_one,↓reduceIte,Nat.reduceLT,Nat.reduceLeDiff,reduceCtorEq,splice,Edp,dpv,ZV.val,AS_any]
 intro b hb
 exact ⟨_,_,rfl,hq b (dead_of hb)⟩
theorem bs_two {σ : AHeap} {n m : Int} {K : Value → AHeap → Prop} (hq : ∀ b,σ.get b = .dead → K (.slice (some ⟨b,0,some 1⟩) 2 2) (σ.set b (.cells [.int .u8 n,.int .u8 m] true 1))) : afterOpS E B (some (bsS E σ 58 2 [(0,.int .u8 n),(1,.int .u8 m)])) σ K := by
 simp only [sbU,tyB,Nat.reduceBneDiff,decide_false,gt_iff_lt,Bool.or_self,Bool.false_eq_true,Nat.mul_one,↓reduceIte,Nat.reduceLT,Nat.reduceAdd,Nat.reduceLeDiff,reduceCtorEq,splice,Edp,dpv,ZV.val,AS_any]
 intro b hb
 exact ⟨_,_,rfl,hq b (dead_of hb)⟩
theorem src_sl {σ : AHeap} {b n c : Nat} {ex : Option Nat} {l : List Nat} {wr : Bool} {sz : Nat} (hg : σ.get b = .cells (u8s l) wr sz) (hl : ∀ n ∈ l,n < 256) (hn : n = l.length) : srcCells σ 1 (.slice (some ⟨b,0,ex⟩) n c) = some ((str l).size,bytesOf (str l)) := by
 have h1 : (u8s l).length = l.length := by simp [u8s]
 subst hn
 simp only [srcCells,takeCells,hg]
 rw [if_pos (by omega),bytesOf_str hl,str_size]
 simp only [List.drop_zero,Nat.mul_one,Option.map_some]
 rw [List.take_of_length_le (by omega)]
theorem app_sl {σ : AHeap} {K : Value → AHeap → Prop} {v : Value} {a : ByteArray} {gp : List Nat} {b n c : Nat} {ex : Option Nat} {l : List Nat} (hv : BS σ v a gp) (hg : σ.get b = .cells (u8s l) true 1) (hl : ∀ n ∈ l,n < 256) (hn : n = l.length) (hz : a.size + l.length ≤ 100000000)
  (hq : ∀ σ' v' fp',Kept σ gp σ' fp' → BS σ' v' (a ++ str l) fp' → vcells v' = [v'] → oneCell v' = true → K v' σ') : afterOpS E B (some (.any fun b' => aappend E (σ.resize b') [58,58] [v,.slice (some ⟨b,0,ex⟩) n c])) σ K :=
 app_bytes hv (fun b' => src_sl (σ := σ.resize b') hg hl hn) (.inr rfl) (by rw [str_size]; exact hz) fun σ' v' fp' k h => hq σ' v' fp' k h h.vc.1 h.vc.2
theorem str_app (l m : List Nat) : str l ++ str m = str (l ++ m) := by
 apply ByteArray.ext
 simp [str,ByteArray.data_append]
theorem app_assoc (a b c : ByteArray) : a ++ b ++ c = a ++ (b ++ c) := by
 apply ByteArray.ext
 simp [ByteArray.data_append]
def lenV (σ : AHeap) (v : Value) (a : ByteArray) : Prop := abuiltin E σ .len [58] [v] = some (.int .i64 (a.size : Int),σ)
theorem BS.len {σ : AHeap} {v : Value} {a : ByteArray} {fp : List Nat} (h : BS σ v a fp) : lenV σ v a := by
 rcases h with ⟨h1,rfl,_⟩ | ⟨d,rfl,_⟩
 ·unfold lenV; rw [h1]; rfl
 ·rfl
theorem BS.live {σ : AHeap} {v : Value} {a : ByteArray} {fp : List Nat} (h : BS σ v a fp) {b : Nat} (hb : b ∈ fp) : ∃ cs,σ.get b = .cells cs true 1 := by
 rcases h with ⟨_,_,rfl⟩ | ⟨d,_,h2,rfl,_⟩
 ·cases hb
 ·obtain rfl := List.mem_singleton.1 hb; exact ⟨_,h2⟩
theorem specNumW1 {σ : AHeap} {w : Nat} {a : ByteArray} {fp : List Nat} {n : Int} (hw : IsW σ w a .nilIface fp) (hz : a.size ≤ 10000000) {Q : Value → AHeap → Prop} (h : ∀ σ' fp',Kept σ fp σ' fp' → WOut σ' w a (numW n 1) fp' → Q unit σ') :
  CallS E B 93 [.pointer (some ⟨w,0,none⟩),.int .i64 n,.int .i64 1] σ Q := by
 refine call93 (by simp) ?_
 simp only [strip,bodyOf,Tryz.f93,getD_body,keepN,bareOp_mk,lapp_cons,lapp_nil,List.map_cons,List.map_nil,↓reduceIte,Bool.false_eq_true]
 simp only [↓sbD,sbU,↓reduceIte,Nat.reduceLT]
 refine specOff hw ?_
 have m1 : IntKind.i64.wrap (8 * 1) = 8 := by decide
 have s1 : abin E σ .shl 3 true (.int .i64 1) (.int .i64 8) = some (.int .i64 256) := by kernel_rfl
 have hw' := hw
 obtain ⟨v,gp,h1,h2,rfl,h4⟩ := hw
 by_cases hb : n < 0 ∨ 256 ≤ n
 ·have hlen : abuiltin E σ .len [58] [v] = some (.int .i64 (a.size : Int),σ) := BS.len h2
  have hgoal : ∀ σ',Kept σ (w :: gp) σ' (w :: gp) → IsW σ' w a (fv 129 (a.size : Int) (sent 4)) (w :: gp) → Q unit σ' := fun σ' k hi => h σ' _ k (by
   unfold numW
   rw [if_pos (by rcases hb with hb | hb; exact .inl hb; exact .inr (by simpa using hb))]
   exact ⟨1,sent 4,by omega,ErN.new _ _ ⟨by omega,by omega⟩,hi⟩)
  by_cases h0 : n < 0
  ·simp only [↓sbD,sbU,tyB,↓reduceIte,Nat.reduceEqDiff,Nat.reduceLT,reduceCtorEq,isConst,h0,h1,hlen,gk4]
   refine specNew (n := 4) ⟨by omega,by omega⟩ ?_
   simp only [↓sbD,sbU,↓reduceIte,Nat.reduceEqDiff,Nat.reduceLT]
   refine specFail hw' fun σ' k hi => ?_
   simp only [↓sbD,sbU]
   exact downS_here (hgoal σ' k hi)
  ·have h8 : 256 ≤ n := by omega
   simp only [↓sbD,sbU,tyB,decide_false,Bool.or_self,↓reduceIte,Nat.reduceEqDiff,Nat.reduceLT,reduceCtorEq,isConst,m1,s1,h0,h8,h1,hlen,gk4]
   refine specNew (n := 4) ⟨by omega,by omega⟩ ?_
   simp only [↓sbD,sbU,↓reduceIte,Nat.reduceEqDiff,Nat.reduceLT]
   refine specFail hw' fun σ' k hi => ?_
   simp only [↓sbD,sbU]
   exact downS_here (hgoal σ' k hi)
 ·obtain ⟨N,rfl⟩ : ∃ N : Nat,n = N := ⟨n.toNat,by omega⟩
  have h0 : ¬ (N : Int) < 0 := by omega
  have h8 : ¬ (256 : Int) ≤ N := by omega
  have hout : ∀ σ' fp',IsW σ' w (a ++ numB N 1) .nilIface fp' → WOut σ' w a (numW N 1) fp' := fun σ' fp' hi => by
   unfold numW
   rw [if_neg (by simp; omega)]
   exact hi
  simp only [↓sbD,sbU,tyB,Int.reduceEq,Nat.reduceBneDiff,decide_false,gt_iff_lt,Bool.or_self,Bool.false_eq_true,Nat.mul_one,↓reduceIte,Nat.reduceEqDiff,Nat.reduceLT,Nat.reduceLeDiff,reduceCtorEq,pairs,isConst,splice,Edp,dpv,ZV.val,m1,s1,h0,h8,wrap_u8N,h1]
  refine bs_one fun b1 hb1 => ?_
  have kb1 : Kept σ [] (σ.set b1 (.cells (u8s [N % 256]) true 1)) [b1] := Kept.new' hb1
  have cb1 := (kb1.at h1 (by simp) (by simp)).1
  have hs1 := BS.kept h2 kb1 (fun _ _ h => by cases h)
  have hn1 : b1 ∉ gp := fun hm => by rcases BS.live h2 hm with ⟨cs,hg⟩; rw [hb1] at hg; cases hg
  have hnw1 : w ≠ b1 := by rintro rfl; rw [hb1] at h1; cases h1
  simp only [↓sbD,sbU,↓reduceIte,Nat.reduceEqDiff,Nat.reduceLT]
  refine app_sl hs1 (l := [N % 256]) (AHeap.get_set_same _ _ _) (by intro m hm; simp only [List.mem_cons,List.not_mem_nil,or_false] at hm; omega) rfl (by simp only [List.length_cons,List.length_nil]; omega) fun τ1 v1 gp1 k1 hb'1 vc1 oc1 => ?_
  obtain ⟨c1,n1⟩ := k1.at cb1 (by simp) h4
  simp only [↓sbD,sbU,tyB,↓reduceIte,Nat.reduceEqDiff,Nat.reduceLT,Nat.reduceAdd,Nat.reduceLeDiff,reduceCtorEq,splice,c1,vc1,oc1]
  have kk1 : Kept σ (w :: gp) (τ1.set w (.cells [v1,.nilIface] true 0)) (w :: gp1) := (Kept.trans (Kept.trans ⟨fun c hc _ => kb1.get c hc (by simp),fun c hc => .inl hc⟩ (k1.more (l := [w]))) (Kept.set (by simp)))
  have hz1 := BS.set (w := w) (o := .cells [v1,.nilIface] true 0) hb'1 n1
  have g1 := AHeap.get_set_same τ1 w (.cells [v1,.nilIface] true 0)
  refine downS_here (h _ _ kk1 (hout _ _ ⟨v1,gp1,g1,?_,rfl,n1⟩))
  have e : a ++ numB N 1 = a ++ str [N % 256] := by simp only [numB]; simp []
  rw [e]; exact hz1
theorem specNumW2 {σ : AHeap} {w : Nat} {a : ByteArray} {fp : List Nat} {n : Int} (hw : IsW σ w a .nilIface fp) (hz : a.size ≤ 10000000) {Q : Value → AHeap → Prop} (h : ∀ σ' fp',Kept σ fp σ' fp' → WOut σ' w a (numW n 2) fp' → Q unit σ') :
  CallS E B 93 [.pointer (some ⟨w,0,none⟩),.int .i64 n,.int .i64 2] σ Q := by
 refine call93 (by simp) ?_
 simp only [strip,bodyOf,Tryz.f93,getD_body,keepN,bareOp_mk,lapp_cons,lapp_nil,List.map_cons,List.map_nil,↓reduceIte,Bool.false_eq_true]
 simp only [↓sbD,sbU,↓reduceIte,Nat.reduceLT]
 refine specOff hw ?_
 have m1 : IntKind.i64.wrap (8 * 2) = 16 := by decide
 have s1 : abin E σ .shl 3 true (.int .i64 1) (.int .i64 16) = some (.int .i64 65536) := by kernel_rfl
 have hw' := hw
 obtain ⟨v,gp,h1,h2,rfl,h4⟩ := hw
 by_cases hb : n < 0 ∨ 65536 ≤ n
 ·have hlen : abuiltin E σ .len [58] [v] = some (.int .i64 (a.size : Int),σ) := BS.len h2
  have hgoal : ∀ σ',Kept σ (w :: gp) σ' (w :: gp) → IsW σ' w a (fv 129 (a.size : Int) (sent 4)) (w :: gp) → Q unit σ' := fun σ' k hi => h σ' _ k (by
   unfold numW
   rw [if_pos (by rcases hb with hb | hb; exact .inl hb; exact .inr (by simpa using hb))]
   exact ⟨1,sent 4,by omega,ErN.new _ _ ⟨by omega,by omega⟩,hi⟩)
  by_cases h0 : n < 0
  ·simp only [↓sbD,sbU,tyB,↓reduceIte,Nat.reduceEqDiff,Nat.reduceLT,reduceCtorEq,isConst,h0,h1,hlen,gk4]
   refine specNew (n := 4) ⟨by omega,by omega⟩ ?_
   simp only [↓sbD,sbU,↓reduceIte,Nat.reduceEqDiff,Nat.reduceLT]
   refine specFail hw' fun σ' k hi => ?_
   simp only [↓sbD,sbU]
   exact downS_here (hgoal σ' k hi)
  ·have h8 : 65536 ≤ n := by omega
   simp only [↓sbD,sbU,tyB,decide_false,Bool.or_self,↓reduceIte,Nat.reduceEqDiff,Nat.reduceLT,reduceCtorEq,isConst,m1,s1,h0,h8,h1,hlen,gk4]
   refine specNew (n := 4) ⟨by omega,by omega⟩ ?_
   simp only [↓sbD,sbU,↓reduceIte,Nat.reduceEqDiff,Nat.reduceLT]
   refine specFail hw' fun σ' k hi => ?_
   simp only [↓sbD,sbU]
   exact downS_here (hgoal σ' k hi)
 ·obtain ⟨N,rfl⟩ : ∃ N : Nat,n = N := ⟨n.toNat,by omega⟩
  have h0 : ¬ (N : Int) < 0 := by omega
  have h8 : ¬ (65536 : Int) ≤ N := by omega
  have hout : ∀ σ' fp',IsW σ' w (a ++ numB N 2) .nilIface fp' → WOut σ' w a (numW N 2) fp' := fun σ' fp' hi => by
   unfold numW
   rw [if_neg (by simp; omega)]
   exact hi
  have q256 : ∀ τ : AHeap,abin E τ .shr 3 true (.int .i64 (N : Int)) (.int .u64 8) = some (.int .i64 ((N / 256 : Nat) : Int)) := fun τ => shr_nat (s := 8) (by omega)
  simp only [↓sbD,sbU,tyB,Int.reduceEq,Nat.reduceBneDiff,decide_false,gt_iff_lt,Bool.or_self,Bool.false_eq_true,Nat.mul_one,↓reduceIte,Nat.reduceEqDiff,Nat.reduceLT,Nat.reduceLeDiff,reduceCtorEq,pairs,isConst,splice,Edp,dpv,ZV.val,m1,s1,h0,h8,wrap_u8N,q256,h1]
  refine bs_one fun b1 hb1 => ?_
  have kb1 : Kept σ [] (σ.set b1 (.cells (u8s [N / 256 % 256]) true 1)) [b1] := Kept.new' hb1
  have cb1 := (kb1.at h1 (by simp) (by simp)).1
  have hs1 := BS.kept h2 kb1 (fun _ _ h => by cases h)
  have hn1 : b1 ∉ gp := fun hm => by rcases BS.live h2 hm with ⟨cs,hg⟩; rw [hb1] at hg; cases hg
  have hnw1 : w ≠ b1 := by rintro rfl; rw [hb1] at h1; cases h1
  simp only [↓sbD,sbU,↓reduceIte,Nat.reduceEqDiff,Nat.reduceLT]
  refine app_sl hs1 (l := [N / 256 % 256]) (AHeap.get_set_same _ _ _) (by intro m hm; simp only [List.mem_cons,List.not_mem_nil,or_false] at hm; omega) rfl (by simp only [List.length_cons,List.length_nil]; omega) fun τ1 v1 gp1 k1 hb'1 vc1 oc1 => ?_
  obtain ⟨c1,n1⟩ := k1.at cb1 (by simp) h4
  simp only [↓sbD,sbU,tyB,Nat.reduceBneDiff,decide_false,gt_iff_lt,Bool.or_self,Bool.false_eq_true,Nat.mul_one,↓reduceIte,Nat.reduceEqDiff,Nat.reduceLT,Nat.reduceAdd,Nat.reduceLeDiff,reduceCtorEq,pairs,splice,Edp,dpv,ZV.val,wrap_u8N,c1,vc1,oc1]
  have kk1 : Kept σ (w :: gp) (τ1.set w (.cells [v1,.nilIface] true 0)) (w :: gp1) := (Kept.trans (Kept.trans ⟨fun c hc _ => kb1.get c hc (by simp),fun c hc => .inl hc⟩ (k1.more (l := [w]))) (Kept.set (by simp)))
  have hz1 := BS.set (w := w) (o := .cells [v1,.nilIface] true 0) hb'1 n1
  have g1 := AHeap.get_set_same τ1 w (.cells [v1,.nilIface] true 0)
  try simp only [↓sbD,sbU,tyB,Nat.reduceMul,Nat.reduceSub,Int.reduceEq,Int.reduceLT,Int.reduceLE,Int.reduceNe,Nat.reduceBneDiff,Nat.reduceBEq,decide_false,gt_iff_lt,Bool.or_self,Bool.false_eq_true,Nat.mul_one,Nat.one_mul,Nat.zero_mul,↓reduceIte,Nat.reduceEqDiff,Nat.reduceLT,Nat.reduceAdd,Nat.reduceLeDiff,reduceCtorEq,goInt,pairs,isConst,TI.isAgg,splice,boxS,Edp,dpv,Nat.beq_eq,ZV.val,List.any_cons,List.any_nil,Bool.false_and,m1,s1,h0,h8,wrap_u8N,q256,g1]
  refine bs_one fun b2 hb2 => ?_
  have kb2 : Kept (τ1.set w (.cells [v1,.nilIface] true 0)) [] ((τ1.set w (.cells [v1,.nilIface] true 0)).set b2 (.cells (u8s [N % 256]) true 1)) [b2] := Kept.new' hb2
  have cb2 := (kb2.at g1 (by simp) (by simp)).1
  have hs2 := BS.kept hz1 kb2 (fun _ _ h => by cases h)
  have hn2 : b2 ∉ gp1 := fun hm => by rcases BS.live hz1 hm with ⟨cs,hg⟩; rw [hb2] at hg; cases hg
  have hnw2 : w ≠ b2 := by rintro rfl; rw [hb2] at g1; cases g1
  simp only [↓sbD,sbU,↓reduceIte,Nat.reduceEqDiff,Nat.reduceLT]
  refine app_sl hs2 (l := [N % 256]) (AHeap.get_set_same _ _ _) (by intro m hm; simp only [List.mem_cons,List.not_mem_nil,or_false] at hm; omega) rfl (by simp only [size_app,str_size,List.length_cons,List.length_nil]; omega) fun τ2 v2 gp2 k2 hb'2 vc2 oc2 => ?_
  obtain ⟨c2,n2⟩ := k2.at cb2 (by simp) n1
  simp only [↓sbD,sbU,tyB,↓reduceIte,Nat.reduceEqDiff,Nat.reduceLT,Nat.reduceAdd,Nat.reduceLeDiff,reduceCtorEq,splice,c2,vc2,oc2]
  have kk2 : Kept (τ1.set w (.cells [v1,.nilIface] true 0)) (w :: gp1) (τ2.set w (.cells [v2,.nilIface] true 0)) (w :: gp2) := (Kept.trans (Kept.trans ⟨fun c hc _ => kb2.get c hc (by simp),fun c hc => .inl hc⟩ (k2.more (l := [w]))) (Kept.set (by simp)))
  have hz2 := BS.set (w := w) (o := .cells [v2,.nilIface] true 0) hb'2 n2
  have g2 := AHeap.get_set_same τ2 w (.cells [v2,.nilIface] true 0)
  refine downS_here (h _ _ (kk1.trans kk2) (hout _ _ ⟨v2,gp2,g2,?_,rfl,n2⟩))
  have e : a ++ numB N 2 = a ++ str [N / 256 % 256] ++ str [N % 256] := by simp only [numB]; simp [app_assoc,str_app]
  rw [e]; exact hz2
theorem specNumW4 {σ : AHeap} {w : Nat} {a : ByteArray} {fp : List Nat} {n : Int} (hw : IsW σ w a .nilIface fp) (hz : a.size ≤ 10000000) {Q : Value → AHeap → Prop} (h : ∀ σ' fp',Kept σ fp σ' fp' → WOut σ' w a (numW n 4) fp' → Q unit σ') :
  CallS E B 93 [.pointer (some ⟨w,0,none⟩),.int .i64 n,.int .i64 4] σ Q := by
 refine call93 (by simp) ?_
 simp only [strip,bodyOf,Tryz.f93,getD_body,keepN,bareOp_mk,lapp_cons,lapp_nil,List.map_cons,List.map_nil,↓reduceIte,Bool.false_eq_true]
 simp only [↓sbD,sbU,↓reduceIte,Nat.reduceLT]
 refine specOff hw ?_
 have m1 : IntKind.i64.wrap (8 * 4) = 32 := by decide
 have s1 : abin E σ .shl 3 true (.int .i64 1) (.int .i64 32) = some (.int .i64 4294967296) := by kernel_rfl
 have hw' := hw
 obtain ⟨v,gp,h1,h2,rfl,h4⟩ := hw
 by_cases hb : n < 0 ∨ 4294967296 ≤ n
 ·have hlen : abuiltin E σ .len [58] [v] = some (.int .i64 (a.size : Int),σ) := BS.len h2
  have hgoal : ∀ σ',Kept σ (w :: gp) σ' (w :: gp) → IsW σ' w a (fv 129 (a.size : Int) (sent 4)) (w :: gp) → Q unit σ' := fun σ' k hi => h σ' _ k (by
   unfold numW
   rw [if_pos (by rcases hb with hb | hb; exact .inl hb; exact .inr (by simpa using hb))]
   exact ⟨1,sent 4,by omega,ErN.new _ _ ⟨by omega,by omega⟩,hi⟩)
  by_cases h0 : n < 0
  ·simp only [↓sbD,sbU,tyB,↓reduceIte,Nat.reduceEqDiff,Nat.reduceLT,reduceCtorEq,isConst,h0,h1,hlen,gk4]
   refine specNew (n := 4) ⟨by omega,by omega⟩ ?_
   simp only [↓sbD,sbU,↓reduceIte,Nat.reduceEqDiff,Nat.reduceLT]
   refine specFail hw' fun σ' k hi => ?_
   simp only [↓sbD,sbU]
   exact downS_here (hgoal σ' k hi)
  ·have h8 : 4294967296 ≤ n := by omega
   simp only [↓sbD,sbU,tyB,decide_false,Bool.or_self,↓reduceIte,Nat.reduceEqDiff,Nat.reduceLT,reduceCtorEq,isConst,m1,s1,h0,h8,h1,hlen,gk4]
   refine specNew (n := 4) ⟨by omega,by omega⟩ ?_
   simp only [↓sbD,sbU,↓reduceIte,Nat.reduceEqDiff,Nat.reduceLT]
   refine specFail hw' fun σ' k hi => ?_
   simp only [↓sbD,sbU]
   exact downS_here (hgoal σ' k hi)
 ·obtain ⟨N,rfl⟩ : ∃ N : Nat,n = N := ⟨n.toNat,by omega⟩
  have h0 : ¬ (N : Int) < 0 := by omega
  have h8 : ¬ (4294967296 : Int) ≤ N := by omega
  have hout : ∀ σ' fp',IsW σ' w (a ++ numB N 4) .nilIface fp' → WOut σ' w a (numW N 4) fp' := fun σ' fp' hi => by
   unfold numW
   rw [if_neg (by simp; omega)]
   exact hi
  have q16777216 : ∀ τ : AHeap,abin E τ .shr 3 true (.int .i64 (N : Int)) (.int .u64 24) = some (.int .i64 ((N / 16777216 : Nat) : Int)) := fun τ => shr_nat (s := 24) (by omega)
  have q65536 : ∀ τ : AHeap,abin E τ .shr 3 true (.int .i64 (N : Int)) (.int .u64 16) = some (.int .i64 ((N / 65536 : Nat) : Int)) := fun τ => shr_nat (s := 16) (by omega)
  have q256 : ∀ τ : AHeap,abin E τ .shr 3 true (.int .i64 (N : Int)) (.int .u64 8) = some (.int .i64 ((N / 256 : Nat) : Int)) := fun τ => shr_nat (s := 8) (by omega)
  simp only [↓sbD,sbU,tyB,Nat.reduceBneDiff,decide_false,gt_iff_lt,Bool.or_self,Bool.false_eq_true,Nat.mul_one,↓reduceIte,Nat.reduceEqDiff,Nat.reduceLT,Nat.reduceAdd,Nat.reduceLeDiff,reduceCtorEq,pairs,isConst,splice,Edp,dpv,ZV.val,m1,s1,h0,h8,wrap_u8N,q16777216,q65536,h1]
  refine bs_two fun b1 hb1 => ?_
  have kb1 : Kept σ [] (σ.set b1 (.cells (u8s [N / 16777216 % 256,N / 65536 % 256]) true 1)) [b1] := Kept.new' hb1
  have cb1 := (kb1.at h1 (by simp) (by simp)).1
  have hs1 := BS.kept h2 kb1 (fun _ _ h => by cases h)
  have hn1 : b1 ∉ gp := fun hm => by rcases BS.live h2 hm with ⟨cs,hg⟩; rw [hb1] at hg; cases hg
  have hnw1 : w ≠ b1 := by rintro rfl; rw [hb1] at h1; cases h1
  simp only [↓sbD,sbU,↓reduceIte,Nat.reduceEqDiff,Nat.reduceLT]
  refine app_sl hs1 (l := [N / 16777216 % 256,N / 65536 % 256]) (AHeap.get_set_same _ _ _) (by intro m hm; simp only [List.mem_cons,List.not_mem_nil,or_false] at hm; omega) rfl (by simp only [List.length_cons,List.length_nil]; omega) fun τ1 v1 gp1 k1 hb'1 vc1 oc1 => ?_
  obtain ⟨c1,n1⟩ := k1.at cb1 (by simp) h4
  simp only [↓sbD,sbU,tyB,Nat.reduceBneDiff,decide_false,gt_iff_lt,Bool.or_self,Bool.false_eq_true,Nat.mul_one,↓reduceIte,Nat.reduceEqDiff,Nat.reduceLT,Nat.reduceAdd,Nat.reduceLeDiff,reduceCtorEq,pairs,isConst,splice,Edp,dpv,ZV.val,wrap_u8N,q256,c1,vc1,oc1]
  have kk1 : Kept σ (w :: gp) (τ1.set w (.cells [v1,.nilIface] true 0)) (w :: gp1) := (Kept.trans (Kept.trans ⟨fun c hc _ => kb1.get c hc (by simp),fun c hc => .inl hc⟩ (k1.more (l := [w]))) (Kept.set (by simp)))
  have hz1 := BS.set (w := w) (o := .cells [v1,.nilIface] true 0) hb'1 n1
  have g1 := AHeap.get_set_same τ1 w (.cells [v1,.nilIface] true 0)
  try simp only [↓sbD,sbU,tyB,Nat.reduceMul,Nat.reduceSub,Int.reduceEq,Int.reduceLT,Int.reduceLE,Int.reduceNe,Nat.reduceBneDiff,Nat.reduceBEq,decide_false,gt_iff_lt,Bool.or_self,Bool.false_eq_true,Nat.mul_one,Nat.one_mul,Nat.zero_mul,↓reduceIte,Nat.reduceEqDiff,Nat.reduceLT,Nat.reduceAdd,Nat.reduceLeDiff,reduceCtorEq,goInt,pairs,isConst,TI.isAgg,splice,boxS,Edp,dpv,Nat.beq_eq,ZV.val,List.any_cons,List.any_nil,Bool.false_and,m1,s1,h0,h8,wrap_u8N,q16777216,q65536,q256,g1]
  refine bs_one fun b2 hb2 => ?_
  have kb2 : Kept (τ1.set w (.cells [v1,.nilIface] true 0)) [] ((τ1.set w (.cells [v1,.nilIface] true 0)).set b2 (.cells (u8s [N / 256 % 256]) true 1)) [b2] := Kept.new' hb2
  have cb2 := (kb2.at g1 (by simp) (by simp)).1
  have hs2 := BS.kept hz1 kb2 (fun _ _ h => by cases h)
  have hn2 : b2 ∉ gp1 := fun hm => by rcases BS.live hz1 hm with ⟨cs,hg⟩; rw [hb2] at hg; cases hg
  have hnw2 : w ≠ b2 := by rintro rfl; rw [hb2] at g1; cases g1
  simp only [↓sbD,sbU,↓reduceIte,Nat.reduceEqDiff,Nat.reduceLT]
  refine app_sl hs2 (l := [N / 256 % 256]) (AHeap.get_set_same _ _ _) (by intro m hm; simp only [List.mem_cons,List.not_mem_nil,or_false] at hm; omega) rfl (by simp only [size_app,str_size,List.length_cons,List.length_nil]; omega) fun τ2 v2 gp2 k2 hb'2 vc2 oc2 => ?_
  obtain ⟨c2,n2⟩ := k2.at cb2 (by simp) n1
  simp only [↓sbD,sbU,tyB,Nat.reduceBneDiff,decide_false,gt_iff_lt,Bool.or_self,Bool.false_eq_true,Nat.mul_one,↓reduceIte,Nat.reduceEqDiff,Nat.reduceLT,Nat.reduceAdd,Nat.reduceLeDiff,reduceCtorEq,pairs,splice,Edp,dpv,ZV.val,wrap_u8N,c2,vc2,oc2]
  have kk2 : Kept (τ1.set w (.cells [v1,.nilIface] true 0)) (w :: gp1) (τ2.set w (.cells [v2,.nilIface] true 0)) (w :: gp2) := (Kept.trans (Kept.trans ⟨fun c hc _ => kb2.get c hc (by simp),fun c hc => .inl hc⟩ (k2.more (l := [w]))) (Kept.set (by simp)))
  have hz2 := BS.set (w := w) (o := .cells [v2,.nilIface] true 0) hb'2 n2
  have g2 := AHeap.get_set_same τ2 w (.cells [v2,.nilIface] true 0)
  try simp only [↓sbD,sbU,tyB,Nat.reduceMul,Nat.reduceSub,Int.reduceEq,Int.reduceLT,Int.reduceLE,Int.reduceNe,Nat.reduceBneDiff,Nat.reduceBEq,decide_false,gt_iff_lt,Bool.or_self,Bool.false_eq_true,Nat.mul_one,Nat.one_mul,Nat.zero_mul,↓reduceIte,Nat.reduceEqDiff,Nat.reduceLT,Nat.reduceAdd,Nat.reduceLeDiff,reduceCtorEq,goInt,pairs,isConst,TI.isAgg,splice,boxS,Edp,dpv,Nat.beq_eq,ZV.val,List.any_cons,List.any_nil,Bool.false_and,m1,s1,h0,h8,wrap_u8N,q16777216,q65536,q256,g2]
  refine bs_one fun b3 hb3 => ?_
  have kb3 : Kept (τ2.set w (.cells [v2,.nilIface] true 0)) [] ((τ2.set w (.cells [v2,.nilIface] true 0)).set b3 (.cells (u8s [N % 256]) true 1)) [b3] := Kept.new' hb3
  have cb3 := (kb3.at g2 (by simp) (by simp)).1
  have hs3 := BS.kept hz2 kb3 (fun _ _ h => by cases h)
  have hn3 : b3 ∉ gp2 := fun hm => by rcases BS.live hz2 hm with ⟨cs,hg⟩; rw [hb3] at hg; cases hg
  have hnw3 : w ≠ b3 := by rintro rfl; rw [hb3] at g2; cases g2
  simp only [↓sbD,sbU,↓reduceIte,Nat.reduceEqDiff,Nat.reduceLT]
  refine app_sl hs3 (l := [N % 256]) (AHeap.get_set_same _ _ _) (by intro m hm; simp only [List.mem_cons,List.not_mem_nil,or_false] at hm; omega) rfl (by simp only [size_app,str_size,List.length_cons,List.length_nil]; omega) fun τ3 v3 gp3 k3 hb'3 vc3 oc3 => ?_
  obtain ⟨c3,n3⟩ := k3.at cb3 (by simp) n2
  simp only [↓sbD,sbU,tyB,↓reduceIte,Nat.reduceEqDiff,Nat.reduceLT,Nat.reduceAdd,Nat.reduceLeDiff,reduceCtorEq,splice,c3,vc3,oc3]
  have kk3 : Kept (τ2.set w (.cells [v2,.nilIface] true 0)) (w :: gp2) (τ3.set w (.cells [v3,.nilIface] true 0)) (w :: gp3) := (Kept.trans (Kept.trans ⟨fun c hc _ => kb3.get c hc (by simp),fun c hc => .inl hc⟩ (k3.more (l := [w]))) (Kept.set (by simp)))
  have hz3 := BS.set (w := w) (o := .cells [v3,.nilIface] true 0) hb'3 n3
  have g3 := AHeap.get_set_same τ3 w (.cells [v3,.nilIface] true 0)
  refine downS_here (h _ _ ((kk1.trans kk2).trans kk3) (hout _ _ ⟨v3,gp3,g3,?_,rfl,n3⟩))
  have e : a ++ numB N 4 = a ++ str [N / 16777216 % 256,N / 65536 % 256] ++ str [N / 256 % 256] ++ str [N % 256] := by simp only [numB]; simp [app_assoc,str_app]
  rw [e]; exact hz3
section
variable {σ : AHeap} {w : Nat} {a s : ByteArray} {fp : List Nat} {n : Int} {Q : Value → AHeap → Prop}
theorem specNumWE {u : Nat} {x : Value} {k : Int} (hw : IsW σ w a (.iface u x) fp) (h : Q unit σ) : CallS E B 93 [.pointer (some ⟨w,0,none⟩),.int .i64 n,.int .i64 k] σ Q := by
 refine call93 (by simp) ?_
 simp only [strip,bodyOf,Tryz.f93,getD_body,keepN,bareOp_mk,lapp_cons,lapp_nil,List.map_cons,List.map_nil,↓reduceIte,Bool.false_eq_true]
 simp only [↓sbD,sbU,↓reduceIte,Nat.reduceLT]
 refine specOffE hw ?_
 simp only [↓sbD,sbU,↓reduceIte,Nat.reduceLT]
 exact downS_here h
theorem specU8 (hw : IsW σ w a .nilIface fp) (hz : a.size ≤ 10000000) (h : ∀ σ' fp',Kept σ fp σ' fp' → WOut σ' w a (numW n 1) fp' → Q unit σ') : CallS E B 66 [.pointer (some ⟨w,0,none⟩),.int .i64 n] σ Q := by
 refine call66 (by simp) ?_
 simp only [strip,bodyOf,Tryz.f66,getD_body,keepN,bareOp_mk,List.map_cons,List.map_nil,↓reduceIte,Bool.false_eq_true]
 simp only [↓sbD,sbU,↓reduceIte,Nat.reduceEqDiff,Nat.reduceLT]
 refine specNumW1 hw hz fun σ' fp' k ho => ?_
 simp only [↓sbD,sbU]
 exact downS_here (h σ' fp' k ho)
theorem specU16 (hw : IsW σ w a .nilIface fp) (hz : a.size ≤ 10000000) (h : ∀ σ' fp',Kept σ fp σ' fp' → WOut σ' w a (numW n 2) fp' → Q unit σ') : CallS E B 43 [.pointer (some ⟨w,0,none⟩),.int .i64 n] σ Q := by
 refine call43 (by simp) ?_
 simp only [strip,bodyOf,Tryz.f43,getD_body,keepN,bareOp_mk,List.map_cons,List.map_nil,↓reduceIte,Bool.false_eq_true]
 simp only [↓sbD,sbU,↓reduceIte,Nat.reduceEqDiff,Nat.reduceLT]
 refine specNumW2 hw hz fun σ' fp' k ho => ?_
 simp only [↓sbD,sbU]
 exact downS_here (h σ' fp' k ho)
theorem specU32 (hw : IsW σ w a .nilIface fp) (hz : a.size ≤ 10000000) (h : ∀ σ' fp',Kept σ fp σ' fp' → WOut σ' w a (numW n 4) fp' → Q unit σ') : CallS E B 133 [.pointer (some ⟨w,0,none⟩),.int .i64 n] σ Q := by
 refine call133 (by simp) ?_
 simp only [strip,bodyOf,Tryz.f133,getD_body,keepN,bareOp_mk,List.map_cons,List.map_nil,↓reduceIte,Bool.false_eq_true]
 simp only [↓sbD,sbU,↓reduceIte,Nat.reduceEqDiff,Nat.reduceLT]
 refine specNumW4 hw hz fun σ' fp' k ho => ?_
 simp only [↓sbD,sbU]
 exact downS_here (h σ' fp' k ho)
theorem specU8E {u : Nat} {x : Value} (hw : IsW σ w a (.iface u x) fp) (h : Q unit σ) : CallS E B 66 [.pointer (some ⟨w,0,none⟩),.int .i64 n] σ Q := by
 refine call66 (by simp) ?_
 simp only [strip,bodyOf,Tryz.f66,getD_body,keepN,bareOp_mk,List.map_cons,List.map_nil,↓reduceIte,Bool.false_eq_true]
 simp only [↓sbD,sbU,↓reduceIte,Nat.reduceEqDiff,Nat.reduceLT]
 refine specNumWE hw ?_
 simp only [↓sbD,sbU]
 exact downS_here h
theorem specU16E {u : Nat} {x : Value} (hw : IsW σ w a (.iface u x) fp) (h : Q unit σ) : CallS E B 43 [.pointer (some ⟨w,0,none⟩),.int .i64 n] σ Q := by
 refine call43 (by simp) ?_
 simp only [strip,bodyOf,Tryz.f43,getD_body,keepN,bareOp_mk,List.map_cons,List.map_nil,↓reduceIte,Bool.false_eq_true]
 simp only [↓sbD,sbU,↓reduceIte,Nat.reduceEqDiff,Nat.reduceLT]
 refine specNumWE hw ?_
 simp only [↓sbD,sbU]
 exact downS_here h
theorem specU32E {u : Nat} {x : Value} (hw : IsW σ w a (.iface u x) fp) (h : Q unit σ) : CallS E B 133 [.pointer (some ⟨w,0,none⟩),.int .i64 n] σ Q := by
 refine call133 (by simp) ?_
 simp only [strip,bodyOf,Tryz.f133,getD_body,keepN,bareOp_mk,List.map_cons,List.map_nil,↓reduceIte,Bool.false_eq_true]
 simp only [↓sbD,sbU,↓reduceIte,Nat.reduceEqDiff,Nat.reduceLT]
 refine specNumWE hw ?_
 simp only [↓sbD,sbU]
 exact downS_here h
theorem specRawE {u : Nat} {x : Value} (hw : IsW σ w a (.iface u x) fp) (h : Q unit σ) : CallS E B 44 [.pointer (some ⟨w,0,none⟩),.string s] σ Q := by
 refine call44 (by simp) ?_
 simp only [strip,bodyOf,Tryz.f44,getD_body,keepN,bareOp_mk,List.map_cons,List.map_nil,↓reduceIte,Bool.false_eq_true]
 simp only [↓sbD,sbU,↓reduceIte,Nat.reduceLT]
 refine specOffE hw ?_
 simp only [↓sbD,sbU,↓reduceIte,Nat.reduceLT,not_bool]
 exact downS_here h
theorem specHold {n m : Int} (h : Q (.int .i64 n) σ) (hn : -m ≤ n ∧ n ≤ m) (hm : 0 ≤ m ∧ m ≤ 1000000000000000000) : CallS E B 160 [.int .i64 n,.int .i64 m] σ Q := by
 have e1 : aun .neg (.int .i64 m) = some (.int .i64 (-m)) := by
  simp only [aun]
  rw [wrap64 ⟨by omega,by omega⟩]; congr 2; omega
 have e2 : (if m < n then m else n) = n := by rw [if_neg (by omega)]
 have e3 : (if n > -m then n else -m) = n := by by_cases h : n > -m; rw [if_pos h]; rw [if_neg h]; omega
 have e4 : (if -m < n then n else -m) = n := by by_cases h : -m < n; rw [if_pos h]; rw [if_neg h]; omega
 refine call160 (by simp) ?_
 simp only [strip,bodyOf,Tryz.f160,getD_body,keepN,bareOp_mk,List.map_cons,List.map_nil,↓reduceIte,Bool.false_eq_true]
 simp only [↓sbD,sbU,gt_iff_lt,↓reduceIte,Nat.reduceEqDiff,Nat.reduceLT,reduceCtorEq,e1,e2,e3]
 exact downS_here h
theorem specFurther {n m : Nat} (hn : n ≤ 1000000000) (hm : m ≤ 1000000000) (h : Q (.int .i64 ((m + n : Nat) : Int)) σ) : CallS E B 136 [.int .i64 (n : Int),.int .i64 (m : Int)] σ Q := by
 have hw : IntKind.i64.wrap ((n : Int) + (m : Int)) = ((m + n : Nat) : Int) := by rw [wrap64 ⟨by omega,by omega⟩]; omega
 have e1 : (if (9007199254740992 : Int) < ((m + n : Nat) : Int) then (9007199254740992 : Int) else ((m + n : Nat) : Int)) = ((m + n : Nat) : Int) := by rw [if_neg (by omega)]
 have e2 : (if ((m + n : Nat) : Int) > 0 then ((m + n : Nat) : Int) else 0) = ((m + n : Nat) : Int) := by split <;> omega
 have e3 : (if 0 < ((m + n : Nat) : Int) then ((m + n : Nat) : Int) else 0) = ((m + n : Nat) : Int) := by split <;> omega
 refine call136 (by simp) ?_
 simp only [strip,bodyOf,Tryz.f136,getD_body,keepN,bareOp_mk,List.map_cons,List.map_nil,↓reduceIte,Bool.false_eq_true]
 simp (disch := first | assumption | simp) only [↓sbD,sbU,↓reduceIte,Nat.reduceLT,reduceCtorEq]
 refine specHold ?_ ⟨by omega,by omega⟩ ⟨by omega,by omega⟩
 simp (disch := first | assumption | simp) only [↓sbD,sbU,↓reduceIte,Nat.reduceEqDiff,Nat.reduceLT]
 refine specHold ?_ ⟨by omega,by omega⟩ ⟨by omega,by omega⟩
 simp (disch := first | assumption | simp) only [↓sbD,sbU,gt_iff_lt,Bool.or_self,↓reduceIte,Nat.reduceEqDiff,Nat.reduceLT,isConst,hw,e1,e2]
 exact downS_here h
theorem specDeeper {r : Int} {n m : Nat} {x : Value} (hn : n ≤ 1000000000) (hm : m ≤ 1000000000) (h : Q (fv r ((m + n : Nat) : Int) (fv r (n : Int) x)) σ) : CallS E B 92 [fv r (n : Int) x,.int .i64 (m : Int)] σ Q := by
 refine call92 (by simp) ?_
 simp only [strip,bodyOf,Tryz.f92,getD_body,keepN,bareOp_mk,List.map_cons,List.map_nil,↓reduceIte,Bool.false_eq_true]
 simp only [↓sbD,sbU,tyB,↓reduceIte,Nat.reduceLT,reduceCtorEq,isConst]
 refine specReason ?_
 simp only [↓sbD,sbU,↓reduceIte,Nat.reduceLT,reduceCtorEq]
 refine specAt ?_
 simp only [↓sbD,sbU,↓reduceIte,Nat.reduceEqDiff,Nat.reduceLT]
 refine specFurther hn hm ?_
 simp only [↓sbD,sbU,tyB,↓reduceIte,Nat.reduceEqDiff,Nat.reduceLT,Nat.reduceAdd,Nat.reduceLeDiff,reduceCtorEq,pairs,splice,boxS,Edp,dpv,ZV.val]
 exact downS_here h
end
end Go.Proofs.YtjkhhdknplelcaaGreatDoor.AbsB
