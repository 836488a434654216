/-
  Parts of a law's proof.
-/
import Derived.Test.YtkhcbbpfchgemaaGreatDoorAVaqfJ
namespace Go.Proofs.YtkhcbbpfchgemaaGreatDoor.AbsA
open Go AbsYtkhcbbpfchgemaaGreatDoor Abs
set_option maxHeartbeats 4000000
set_option linter.unusedSimpArgs false
set_option linter.unusedVariables false

set_option maxRecDepth 100000
set_option maxHeartbeats 1000000
set_option linter.unusedSimpArgs false
set_option linter.unusedVariables false
theorem app_emp (s : ByteArray) : s ++ ⟨#[]⟩ = s := by apply ByteArray.ext; simp [ByteArray.data_append]
theorem bt_app' {l : List Nat} {s : ByteArray} {i : Nat} (h : i < l.length) (hl : l[i] < 256) : bt (str l ++ s) i = l[i] := by
 have h1 : i < (str l ++ s).size := by rw [size_app,str_size]; omega
 have h2 : (str l ++ s)[i]? = some (str l ++ s)[i] := getElem?_pos _ i h1
 have h3 : (str l ++ s)[i] = (str l)[i]'(by rw [str_size]; exact h) := ByteArray.getElem_append_left (by rw [str_size]; exact h)
 have h4 : (str l)[i]'(by rw [str_size]; exact h) = UInt8.ofNat l[i] := by
  show (str l).data[i]'_ = _
  simp [str]
 unfold bt
 rw [h2,h3,h4]
 simp only
 rw [UInt8.toNat_ofNat']
 omega
theorem bt_str {l : List Nat} {i : Nat} (h : i < l.length) (hl : l[i] < 256) : bt (str l) i = l[i] := by
 have := bt_app' (s := ⟨#[]⟩) h hl
 rwa [app_emp] at this
theorem ba_ext {a b : ByteArray} (hs : a.size = b.size) (h : ∀ j,j < a.size → bt a j = bt b j) : a = b := by
 apply ByteArray.ext
 apply Array.ext
 ·exact hs
 ·intro i h1 h2
  have e := h i h1
  have e1 : a[i]? = some (a[i]'h1) := getElem?_pos a i h1
  have e2 : b[i]? = some (b[i]'h2) := getElem?_pos b i h2
  unfold bt at e
  rw [e1,e2] at e
  exact UInt8.toNat_inj.1 e
theorem str_extract {l : List Nat} {u : ByteArray} {m : Nat} (hm : m ≤ u.size) (hl : ∀ x ∈ l,x < 256) : str l = u.extract 0 m ↔ l.length = m ∧ ∀ (j : Nat) (h : j < l.length),bt u j = l[j] := by
 have hsz : (u.extract 0 m).size = m := by rw [ByteArray.size_extract]; omega
 constructor
 ·intro h
  have h1 : l.length = m := by rw [← str_size,h,hsz]
  refine ⟨h1,fun j hj => ?_⟩
  have := bt_str hj (hl _ (List.getElem_mem _))
  rw [h,bt_extract (by omega) hm,Nat.zero_add] at this
  exact this
 ·rintro ⟨h1,h2⟩
  refine ba_ext (by rw [str_size,hsz,h1]) fun j hj => ?_
  rw [str_size] at hj
  rw [bt_str hj (hl _ (List.getElem_mem _)),bt_extract (by omega) hm,Nat.zero_add,h2 j hj]
theorem encU_lt {N : Nat} (h : N ≤ 1114111) : ∀ x ∈ encU N,x < 256 := by
 intro x hx
 unfold encU at hx
 split at hx
 ·simp at hx; omega
 ·split at hx
  ·simp at hx; omega
  ·split at hx
   ·simp at hx; omega
   ·simp at hx; omega
theorem encU_cases (N : Nat) : (N < 128 ∧ encU N = [N]) ∨ (128 ≤ N ∧ N < 2048 ∧ encU N = [192 + N / 64,128 + N % 64]) ∨ (2048 ≤ N ∧ N < 65536 ∧ encU N = [224 + N / 4096,128 + N / 64 % 64,128 + N % 64]) ∨ (65536 ≤ N ∧ encU N = [240 + N / 262144,128 + N / 4096 % 64,128 + N / 64 % 64,128 + N % 64]) := by
 unfold encU
 rcases (by omega : N < 128 ∨ (128 ≤ N ∧ N < 2048) ∨ (2048 ≤ N ∧ N < 65536) ∨ 65536 ≤ N) with h | h | h | h
 ·exact .inl ⟨h,by rw [if_pos h]⟩
 ·exact .inr (.inl ⟨h.1,h.2,by rw [if_neg (by omega),if_pos h.2]⟩)
 ·exact .inr (.inr (.inl ⟨h.1,h.2,by rw [if_neg (by omega),if_neg (by omega),if_pos h.2]⟩))
 ·exact .inr (.inr (.inr ⟨h,by rw [if_neg (by omega),if_neg (by omega),if_neg (by omega)]⟩))
def Begins (u : ByteArray) (N m : Nat) : Prop := okN N ∧ m ≤ u.size ∧ (encU N).length = m ∧ ∀ (j : Nat) (h : j < (encU N).length),bt u j = (encU N)[j]
theorem R_begins {u : ByteArray} {m : Nat} (h : R u m) : ∃ N : Nat,numF u m = N ∧ Begins u N m := by
 obtain ⟨h1,h2,h3⟩ := h
 by_cases ok : okN (numF u m)
 ·have hN : numF u m = ((numF u m).toNat : Int) := by have := ok.1; omega
  refine ⟨(numF u m).toNat,hN,by rw [← hN]; exact ok,h1,?_⟩
  rw [bytesF,if_pos ok] at h3
  exact (str_extract h1 (encU_lt (by have := ok.2.1; omega))).1 h3
 ·rw [bytesF,if_neg ok] at h2; exact (h2 rfl).elim
theorem begins_R {u : ByteArray} {N m : Nat} (hn : numF u m = N) (h : Begins u N m) : R u m := by
 obtain ⟨ok,h1,h2,h3⟩ := h
 have hb : bytesF (numF u m) = str (encU N) := by rw [hn,bytesF,if_pos ok]; rfl
 have hx := (str_extract h1 (encU_lt (by have := ok.2.1; omega))).2 ⟨h2,h3⟩
 refine ⟨h1,?_,by rw [hb]; exact hx⟩
 rw [hb]
 intro e
 have := congrArg ByteArray.size e
 rw [str_size] at this
 have h0 : emp.size = 0 := rfl
 rcases encU_cases N with ⟨_,e⟩ | ⟨_,_,e⟩ | ⟨_,_,e⟩ | ⟨_,e⟩ <;> rw [e] at this <;> simp [h0] at this
theorem firstI_of {u : ByteArray} {fo n0 le : Nat} (h : shapeF (bt u 0) = (fo,n0,le)) : firstI u = if u.size ≤ fo then 0 else if cont u fo then (if acc u n0 fo < le ∨ bad (acc u n0 fo) then 0 else fo + 1) else 0 := by
 unfold firstI; rw [h]
theorem okN_bad {N : Nat} (h : okN N) : ¬ bad N := by unfold okN at h; unfold bad; omega
theorem begins_first {u : ByteArray} {N m : Nat} (h : Begins u N m) : firstI u = m := by
 obtain ⟨ok,h1,h2,h3⟩ := h
 have hbad := okN_bad ok
 have ok1 := ok.1
 have ok2 := ok.2.1
 rcases encU_cases N with ⟨a,e⟩ | ⟨a,b,e⟩ | ⟨a,b,e⟩ | ⟨a,e⟩ <;> simp only [e] at h2 h3 <;> simp only [List.length_cons,List.length_nil] at h2 h3
 ·have c0 := h3 0 (by omega); simp only [List.getElem_cons_zero] at c0
  have hsh : shapeF (bt u 0) = (0,N,1) := by unfold shapeF; rw [if_pos (by omega),c0]
  have hct : cont u 0 := fun j hj => by omega
  have ha : acc u N 0 = N := rfl
  rw [firstI_of hsh,if_neg (by omega),if_pos hct,ha,if_neg (fun h => h.elim (fun x => by omega) hbad)]; omega
 ·have c0 := h3 0 (by omega); have c1 := h3 1 (by omega)
  simp only [List.getElem_cons_zero,List.getElem_cons_succ] at c0 c1
  have hsh : shapeF (bt u 0) = (1,bt u 0 % 32,128) := by unfold shapeF; rw [if_neg (by omega),if_pos (by omega)]
  have ha : acc u (bt u 0 % 32) 1 = N := by simp only [acc,Nat.zero_add]; rw [c0,c1]; omega
  have hct : cont u 1 := fun j hj => by
   obtain rfl : j = 0 := by omega
   simp only [Nat.zero_add]; rw [c1]; omega
  rw [firstI_of hsh,if_neg (by omega),if_pos hct,ha,if_neg (fun h => h.elim (fun x => by omega) hbad)]; omega
 ·have c0 := h3 0 (by omega); have c1 := h3 1 (by omega); have c2 := h3 2 (by omega)
  simp only [List.getElem_cons_zero,List.getElem_cons_succ] at c0 c1 c2
  have hsh : shapeF (bt u 0) = (2,bt u 0 % 16,2048) := by unfold shapeF; rw [if_neg (by omega),if_neg (by omega),if_pos (by omega)]
  have ha : acc u (bt u 0 % 16) 2 = N := by simp only [acc,Nat.zero_add,Nat.reduceAdd]; rw [c0,c1,c2]; omega
  have hct : cont u 2 := fun j hj => by
   rcases (by omega : j = 0 ∨ j = 1) with rfl | rfl
   ·simp only [Nat.zero_add]; rw [c1]; omega
   ·simp only [Nat.reduceAdd]; rw [c2]; omega
  rw [firstI_of hsh,if_neg (by omega),if_pos hct,ha,if_neg (fun h => h.elim (fun x => by omega) hbad)]; omega
 ·have c0 := h3 0 (by omega); have c1 := h3 1 (by omega); have c2 := h3 2 (by omega); have c3 := h3 3 (by omega)
  simp only [List.getElem_cons_zero,List.getElem_cons_succ] at c0 c1 c2 c3
  have hsh : shapeF (bt u 0) = (3,bt u 0 % 8,65536) := by unfold shapeF; rw [if_neg (by omega),if_neg (by omega),if_neg (by omega),if_pos (by omega)]
  have ha : acc u (bt u 0 % 8) 3 = N := by simp only [acc,Nat.zero_add,Nat.reduceAdd]; rw [c0,c1,c2,c3]; omega
  have hct : cont u 3 := fun j hj => by
   rcases (by omega : j = 0 ∨ j = 1 ∨ j = 2) with rfl | rfl | rfl
   ·simp only [Nat.zero_add]; rw [c1]; omega
   ·simp only [Nat.reduceAdd]; rw [c2]; omega
   ·simp only [Nat.reduceAdd]; rw [c3]; omega
  rw [firstI_of hsh,if_neg (by omega),if_pos hct,ha,if_neg (fun h => h.elim (fun x => by omega) hbad)]; omega
theorem first_begins {u : ByteArray} {m : Nat} (hm : 0 < m) (h : firstI u = m) : m ≤ 4 ∧ ∃ N : Nat,numF u m = N ∧ Begins u N m := by
 have hc := bt_lt u 0
 have mk : ∀ {N : Nat} {l : List Nat},okN N → encU N = l → l.length = m → m ≤ u.size → (∀ (j : Nat) (h : j < l.length),bt u j = l[j]) → Begins u N m := fun h1 h2 h3 h4 h5 => by
  subst h2; exact ⟨h1,h4,h3,h5⟩
 rcases (by omega : bt u 0 = 0 ∨ (1 ≤ bt u 0 ∧ bt u 0 < 128) ∨ (128 ≤ bt u 0 ∧ bt u 0 < 192) ∨ (192 ≤ bt u 0 ∧ bt u 0 < 224) ∨ (224 ≤ bt u 0 ∧ bt u 0 < 240) ∨ (240 ≤ bt u 0 ∧ bt u 0 < 248) ∨ 248 ≤ bt u 0) with c | c | c | c | c | c | c
 case inr.inl =>
  rw [firstI_of (fo := 0) (n0 := bt u 0) (le := 1) (by unfold shapeF; rw [if_pos c])] at h
  split at h
  ·omega
  ·split at h
   ·split at h
    ·omega
    ·obtain rfl : m = 1 := by omega
     refine ⟨by omega,bt u 0,by simp [numF],mk (l := [bt u 0]) (by unfold okN; omega) (by unfold encU; rw [if_pos (by omega)]) rfl (by omega) fun j hj => ?_⟩
     obtain rfl : j = 0 := by simp at hj; omega
     rfl
   ·omega
 case inr.inr.inr.inl =>
  rw [firstI_of (fo := 1) (n0 := bt u 0 % 32) (le := 128) (by unfold shapeF; rw [if_neg (by omega),if_pos c])] at h
  split at h
  ·omega
  ·split at h
   ·rename_i hcont
    have k1 := hcont 0 (by omega); simp only [Nat.zero_add] at k1
    split at h
    ·omega
    ·rename_i hno
     obtain rfl : m = 2 := by omega
     unfold bad at hno
     simp only [acc,Nat.zero_add] at hno
     refine ⟨by omega,bt u 0 % 32 * 64 + bt u 1 % 64,?_,mk (l := [bt u 0,bt u 1]) (by unfold okN; omega) (by unfold encU; rw [if_neg (by omega),if_pos (by omega)]; simp only [List.cons.injEq,and_true]; constructor <;> omega) rfl (by omega) fun j hj => ?_⟩
     ·simp only [numF,nacc,Nat.reduceSub,Nat.zero_add]; simp; omega
     ·rcases (by simp at hj; omega : j = 0 ∨ j = 1) with rfl | rfl <;> rfl
   ·omega
 case inr.inr.inr.inr.inl =>
  rw [firstI_of (fo := 2) (n0 := bt u 0 % 16) (le := 2048) (by unfold shapeF; rw [if_neg (by omega),if_neg (by omega),if_pos c])] at h
  split at h
  ·omega
  ·split at h
   ·rename_i hcont
    have k1 := hcont 0 (by omega); have k2 := hcont 1 (by omega); simp only [Nat.zero_add,Nat.reduceAdd] at k1 k2
    split at h
    ·omega
    ·rename_i hno
     obtain rfl : m = 3 := by omega
     unfold bad at hno
     simp only [acc,Nat.zero_add,Nat.reduceAdd] at hno
     refine ⟨by omega,(bt u 0 % 16 * 64 + bt u 1 % 64) * 64 + bt u 2 % 64,?_,mk (l := [bt u 0,bt u 1,bt u 2]) (by unfold okN; omega) (by unfold encU; rw [if_neg (by omega),if_neg (by omega),if_pos (by omega)]; simp only [List.cons.injEq,and_true]; refine ⟨?_,?_,?_⟩ <;> omega) rfl (by omega) fun j hj => ?_⟩
     ·simp only [numF,nacc,Nat.reduceSub,Nat.zero_add,Nat.reduceAdd]; simp; omega
     ·rcases (by simp at hj; omega : j = 0 ∨ j = 1 ∨ j = 2) with rfl | rfl | rfl <;> rfl
   ·omega
 case inr.inr.inr.inr.inr.inl =>
  rw [firstI_of (fo := 3) (n0 := bt u 0 % 8) (le := 65536) (by unfold shapeF; rw [if_neg (by omega),if_neg (by omega),if_neg (by omega),if_pos c])] at h
  split at h
  ·omega
  ·split at h
   ·rename_i hcont
    have k1 := hcont 0 (by omega); have k2 := hcont 1 (by omega); have k3 := hcont 2 (by omega); simp only [Nat.zero_add,Nat.reduceAdd] at k1 k2 k3
    split at h
    ·omega
    ·rename_i hno
     obtain rfl : m = 4 := by omega
     unfold bad at hno
     simp only [acc,Nat.zero_add,Nat.reduceAdd] at hno
     refine ⟨by omega,((bt u 0 % 8 * 64 + bt u 1 % 64) * 64 + bt u 2 % 64) * 64 + bt u 3 % 64,?_,mk (l := [bt u 0,bt u 1,bt u 2,bt u 3]) (by unfold okN; omega) (by unfold encU; rw [if_neg (by omega),if_neg (by omega),if_neg (by omega)]; simp only [List.cons.injEq,and_true]; refine ⟨?_,?_,?_,?_⟩ <;> omega) rfl (by omega) fun j hj => ?_⟩
     ·simp only [numF,nacc,Nat.reduceSub,Nat.zero_add,Nat.reduceAdd]; simp; omega
     ·rcases (by simp at hj; omega : j = 0 ∨ j = 1 ∨ j = 2 ∨ j = 3) with rfl | rfl | rfl | rfl <;> rfl
   ·omega
 all_goals
  rw [firstI_of (fo := 0) (n0 := 0) (le := 1) (by unfold shapeF; rw [if_neg (by omega),if_neg (by omega),if_neg (by omega),if_neg (by omega)])] at h
  split at h
  ·omega
  ·split at h
   ·rw [if_pos (.inl (by simp [acc]))] at h; omega
   ·omega
theorem firstI_size (u : ByteArray) : firstI u ≤ u.size := by
 rcases Nat.eq_zero_or_pos (firstI u) with h | h
 ·omega
 ·obtain ⟨_,N,_,h2⟩ := first_begins h rfl
  exact h2.2.1
theorem spec266' {u : ByteArray} {H : AHeap} (hs : u.size ≤ 100000) : CallW E 266 [.string u] H fun r H' => r = .int .i64 ((firstI u : Nat) : Int) ∧ Ext H H' := by
 refine (spec266 hs).mono ?_
 rintro r H' ⟨⟨m,rfl,hm⟩,hx⟩
 refine ⟨?_,hx⟩
 rcases hm with ⟨m1,m4,hR⟩ | ⟨rfl,hno⟩
 ·obtain ⟨N,_,h⟩ := R_begins hR
  rw [begins_first h]
 ·rcases Nat.eq_zero_or_pos (firstI u) with h | h
  ·rw [h]
  ·obtain ⟨h4,N,h1,h2⟩ := first_begins h rfl
   exact (hno _ h h4 (begins_R h1 h2)).elim

set_option maxRecDepth 100000
set_option maxHeartbeats 1000000
set_option linter.unusedSimpArgs false
set_option linter.unusedVariables false
def stepF (s : ByteArray) (a : Nat) : Nat := firstI (s.extract a s.size)
theorem stepF_le (s : ByteArray) {a : Nat} (h : a ≤ s.size) : a + stepF s a ≤ s.size := by
 have := firstI_size (s.extract a s.size)
 rw [ByteArray.size_extract] at this
 unfold stepF
 omega
def walkF (s : ByteArray) (a n : Nat) : Nat × Nat := if h : a < s.size ∧ 0 < stepF s a then walkF s (a + stepF s a) (n + 1) else (n,a)
termination_by s.size - a
decreasing_by omega
theorem walk_next {s : ByteArray} {a n : Nat} (h : a < s.size) (h' : 0 < stepF s a) : walkF s a n = walkF s (a + stepF s a) (n + 1) := by
 rw [walkF,dif_pos ⟨h,h'⟩]
theorem walk_end {s : ByteArray} {a n : Nat} (h : ¬ (a < s.size ∧ 0 < stepF s a)) : walkF s a n = (n,a) := by
 rw [walkF,dif_neg h]
theorem spec281 {s : ByteArray} {H : AHeap} (hs : s.size ≤ 100000) : CallW E 281 [.string s] H fun r H' => r = .tuple #[.int .i64 (((walkF s 0 0).1 : Nat) : Int),.int .i64 (((walkF s 0 0).2 : Nat) : Int)] ∧ Ext H H' := by
 refine wcall281 (by simp) ?_
 simp only [strip,bodyOf,Tryz.f281,getD_body,keepN,bareOp_mk,lessOp_mk,lapp_cons,lapp_nil,List.map_cons,List.map_nil,array_toList,↓reduceIte,Nat.reduceEqDiff,Bool.false_eq_true]
 simp (disch := first | assumption | simp) only [↓wbD,wbU,↓aop,↓reduceIte,Nat.reduceEqDiff,Nat.reduceLT,reduceCtorEq,goInt,pairs]
 generalize hT : walkF s 0 0 = T
 refine W_loop (fun f H' => Ext H H' ∧ f 0 = .string s ∧ ∃ a n : Nat,n ≤ a ∧ a ≤ s.size ∧ f 5 = .int .i64 (a : Int) ∧ f 4 = .int .i64 (n : Int) ∧ walkF s a n = T) (fun f _ => match f 5 with | .int _ a => s.size - a.toNat | _ => 0) ?_ ?_
 ·simp (disch := first | assumption | simp) only [↓wbD,wbU,↓aop,↓reduceIte,Nat.reduceEqDiff,Nat.reduceLT,reduceCtorEq,goInt,pairs]
  exact ⟨Ext.refl _,0,0,by omega,by omega,rfl,rfl,hT⟩
 rintro f H1 ⟨hx,f0,a,n,hna,ha,f5,f4,hw⟩
 by_cases hlt : (a : Int) < (s.size : Int)
 ·have hsl := slice_from (E := E) (H := H1) ty9 (s := s) (k := a) ha
  have hsz : (s.extract a s.size).size = s.size - a := by rw [ByteArray.size_extract]; omega
  simp (disch := first | assumption | simp) only [↓wbD,wbU,↓aop,↓reduceIte,Nat.reduceEqDiff,Nat.reduceLT,reduceCtorEq,goInt,pairs,f0,f4,f5,hlt,decide_true,len_str ty9,hsl]
  refine (spec283 (by omega) (by omega)).mono ?_
  rintro r H2 ⟨rfl,hx2⟩
  rw [show firstI (s.extract a s.size) = stepF s a from rfl]
  by_cases hz : stepF s a = 0
  ·have hzd : decide (((stepF s a : Nat) : Int) = 0) = true := by rw [hz]; rfl
   rw [walk_end (by omega)] at hw
   subst hw
   simp (disch := first | assumption | simp) only [↓wbD,wbU,↓aop,↓reduceIte,Nat.reduceEqDiff,Nat.reduceLT,reduceCtorEq,goInt,pairs,f0,f4,f5,hzd]
   exact hx.trans hx2
  ·have hzd : decide (((stepF s a : Nat) : Int) = 0) = false := by rw [decide_eq_false_iff_not]; omega
   have hle := stepF_le s ha
   rw [walk_next (by omega) (by omega)] at hw
   have w1 : IntKind.i64.wrap ((a : Int) + ((stepF s a : Nat) : Int)) = ((a + stepF s a : Nat) : Int) := by rw [wrap64 ⟨by omega,by omega⟩]; rfl
   have w2 := wrap_suc (n := n) (by omega)
   simp (disch := first | assumption | simp) only [↓wbD,wbU,↓aop,↓reduceIte,Nat.reduceEqDiff,Nat.reduceLT,reduceCtorEq,goInt,pairs,f0,f4,f5,hzd,w1,w2]
   refine ⟨_,rfl,⟨hx.trans hx2,?_,a + stepF s a,n + 1,by omega,hle,?_,?_,hw⟩,?_⟩
   ·simp (disch := first | assumption | simp) only [↓wbD,wbU,↓aop,↓reduceIte,Nat.reduceEqDiff,Nat.reduceLT,reduceCtorEq,goInt,pairs,f0]
   ·simp (disch := first | assumption | simp) only [↓wbD,wbU,↓aop,↓reduceIte,Nat.reduceEqDiff,Nat.reduceLT,reduceCtorEq,goInt,pairs]
   ·simp (disch := first | assumption | simp) only [↓wbD,wbU,↓aop,↓reduceIte,Nat.reduceEqDiff,Nat.reduceLT,reduceCtorEq,goInt,pairs]
   ·simp (disch := first | assumption | simp) only [↓wbD,wbU,↓aop,↓reduceIte,Nat.reduceEqDiff,Nat.reduceLT,reduceCtorEq,goInt,pairs,f5]
    simp; omega
 ·rw [walk_end (by omega)] at hw
  subst hw
  simp (disch := first | assumption | simp) only [↓wbD,wbU,↓aop,↓reduceIte,Nat.reduceEqDiff,Nat.reduceLT,reduceCtorEq,goInt,pairs,f0,f4,f5,hlt,decide_false,len_str ty9]
  exact hx
theorem spec240 {s : ByteArray} {H : AHeap} (hs : s.size ≤ 100000) : CallW E 240 [.string s] H fun r H' => r = .int .i64 (((walkF s 0 0).2 : Nat) : Int) ∧ Ext H H' := by
 refine wcall240 (by simp) ?_
 simp only [strip,bodyOf,Tryz.f240,getD_body,keepN,bareOp_mk,lessOp_mk,lapp_cons,lapp_nil,List.map_cons,List.map_nil,array_toList,↓reduceIte,Nat.reduceEqDiff,Bool.false_eq_true]
 simp (disch := first | assumption | simp) only [↓wbD,wbU,↓aop,↓reduceIte,Nat.reduceEqDiff,Nat.reduceLT,reduceCtorEq,goInt,pairs]
 generalize hT : walkF s 0 0 = T
 refine W_loop (fun f H' => Ext H H' ∧ f 0 = .string s ∧ ∃ a n : Nat,a ≤ s.size ∧ f 3 = .int .i64 (a : Int) ∧ walkF s a n = T) (fun f _ => match f 3 with | .int _ a => s.size - a.toNat | _ => 0) ?_ ?_
 ·simp (disch := first | assumption | simp) only [↓wbD,wbU,↓aop,↓reduceIte,Nat.reduceEqDiff,Nat.reduceLT,reduceCtorEq,goInt,pairs]
  exact ⟨Ext.refl _,0,0,by omega,rfl,hT⟩
 rintro f H1 ⟨hx,f0,a,n,ha,f3,hw⟩
 by_cases hlt : (a : Int) < (s.size : Int)
 ·have hsz : (s.extract a s.size).size = s.size - a := by rw [ByteArray.size_extract]; omega
  simp (disch := first | assumption | simp) only [↓wbD,wbU,↓aop,↓reduceIte,Nat.reduceEqDiff,Nat.reduceLT,reduceCtorEq,goInt,pairs,f0,f3,hlt,decide_true,len_str ty9,slice_from (E := E) (H := H1) ty9 (s := s) (k := a) ha]
  refine (spec266' (by omega)).mono ?_
  rintro r H2 ⟨rfl,hx2⟩
  rw [show firstI (s.extract a s.size) = stepF s a from rfl]
  by_cases hz : 0 < stepF s a
  ·have hzd : (0 : Int) < ((stepF s a : Nat) : Int) := by omega
   have hle := stepF_le s ha
   rw [walk_next (by omega) (by omega)] at hw
   simp (disch := first | assumption | simp) only [↓wbD,wbU,↓aop,↓reduceIte,Nat.reduceEqDiff,Nat.reduceLT,reduceCtorEq,goInt,pairs,f0,f3,hzd,decide_true,slice_from (E := E) (H := H2) ty9 (s := s) (k := a) ha]
   refine (spec266' (by omega)).mono ?_
   rintro r H3 ⟨rfl,hx3⟩
   rw [show firstI (s.extract a s.size) = stepF s a from rfl]
   have w1 : IntKind.i64.wrap ((a : Int) + ((stepF s a : Nat) : Int)) = ((a + stepF s a : Nat) : Int) := by rw [wrap64 ⟨by omega,by omega⟩]; rfl
   simp (disch := first | assumption | simp) only [↓wbD,wbU,↓aop,↓reduceIte,Nat.reduceEqDiff,Nat.reduceLT,reduceCtorEq,goInt,pairs,f0,f3,w1]
   refine ⟨_,rfl,⟨(hx.trans hx2).trans hx3,?_,a + stepF s a,n + 1,hle,?_,hw⟩,?_⟩
   ·simp (disch := first | assumption | simp) only [↓wbD,wbU,↓aop,↓reduceIte,Nat.reduceEqDiff,Nat.reduceLT,reduceCtorEq,goInt,pairs,f0]
   ·simp (disch := first | assumption | simp) only [↓wbD,wbU,↓aop,↓reduceIte,Nat.reduceEqDiff,Nat.reduceLT,reduceCtorEq,goInt,pairs]
   ·simp (disch := first | assumption | simp) only [↓wbD,wbU,↓aop,↓reduceIte,Nat.reduceEqDiff,Nat.reduceLT,reduceCtorEq,goInt,pairs,f3]
    simp; omega
  ·have hzd : ¬ (0 : Int) < ((stepF s a : Nat) : Int) := by omega
   rw [walk_end (by omega)] at hw
   subst hw
   simp (disch := first | assumption | simp) only [↓wbD,wbU,↓aop,↓reduceIte,Nat.reduceEqDiff,Nat.reduceLT,reduceCtorEq,goInt,pairs,f0,f3,hzd,decide_false]
   exact hx.trans hx2
 ·rw [walk_end (by omega)] at hw
  subst hw
  simp (disch := first | assumption | simp) only [↓wbD,wbU,↓aop,↓reduceIte,Nat.reduceEqDiff,Nat.reduceLT,reduceCtorEq,goInt,pairs,f0,f3,hlt,decide_false,len_str ty9]
  exact hx
def textF (s : ByteArray) : Nat ⊕ (Nat × Nat) := if 65535 < s.size then .inr (3,65535) else if (walkF s 0 0).2 < s.size then .inr (1,(walkF s 0 0).2) else .inl (walkF s 0 0).1
theorem spec274 {s : ByteArray} {H : AHeap} (hB : ExtB H) (hs : s.size ≤ 100000) : CallW E 274 [.string s] H fun r H' => Ext H H' ∧ match textF s with
  | .inl n => r = .tuple #[.int .i64 (n : Int),.nilIface]
  | .inr (k,p) => ∃ e,r = .tuple #[.int .i64 0,e] ∧ Fault H' e 129 p k := by
 refine wcall274 (by simp) ?_
 simp only [strip,bodyOf,Tryz.f274,getD_body,keepN,bareOp_mk,lessOp_mk,lapp_cons,lapp_nil,List.map_cons,List.map_nil,array_toList,↓reduceIte,Nat.reduceEqDiff,Bool.false_eq_true]
 have hg1 := (glob hB).2.1
 have c0 : ∀ v : Value,([v] : List Value)[0]? = some v := fun v => rfl
 by_cases h1 : (65535 : Int) < (s.size : Int)
 ·have hT : textF s = .inr (3,65535) := by unfold textF; rw [if_pos (by omega)]
  rw [hT]
  simp (disch := first | assumption | simp) only [↓wbD,wbU,↓aop,↓reduceIte,Nat.reduceEqDiff,Nat.reduceLT,reduceCtorEq,goInt,pairs,len_str ty9,h1,decide_true,aev_global,ld_cell ty38 rfl hg1,c0]
  refine spec67.mono ?_
  rintro r H' ⟨hx,hf⟩
  simp (disch := first | assumption | simp) only [↓wbD,wbU,↓aop,↓reduceIte,Nat.reduceEqDiff,Nat.reduceLT,reduceCtorEq,goInt,pairs]
  exact ⟨hx,_,rfl,hf⟩
 ·simp (disch := first | assumption | simp) only [↓wbD,wbU,↓aop,↓reduceIte,Nat.reduceEqDiff,Nat.reduceLT,reduceCtorEq,goInt,pairs,len_str ty9,h1,decide_false]
  refine (spec281 hs).mono ?_
  rintro r H1 ⟨rfl,hx⟩
  have hg3 := (glob (hB.trans hx)).2.2.2
  by_cases h2 : (((walkF s 0 0).2 : Nat) : Int) < (s.size : Int)
  ·have hT : textF s = .inr (1,(walkF s 0 0).2) := by unfold textF; rw [if_neg (by omega),if_pos (by omega)]
   rw [hT]
   simp (disch := first | assumption | simp) only [↓wbD,wbU,↓aop,↓reduceIte,Nat.reduceEqDiff,Nat.reduceLT,reduceCtorEq,goInt,pairs,tup0,tup1,len_str ty9,h2,decide_true,aev_global,ld_cell ty38 rfl hg3,c0]
   refine spec67.mono ?_
   rintro r H' ⟨hx2,hf⟩
   simp (disch := first | assumption | simp) only [↓wbD,wbU,↓aop,↓reduceIte,Nat.reduceEqDiff,Nat.reduceLT,reduceCtorEq,goInt,pairs]
   exact ⟨hx.trans hx2,_,rfl,hf⟩
  ·have hT : textF s = .inl (walkF s 0 0).1 := by unfold textF; rw [if_neg (by omega),if_neg (by omega)]
   rw [hT]
   simp (disch := first | assumption | simp) only [↓wbD,wbU,↓aop,↓reduceIte,Nat.reduceEqDiff,Nat.reduceLT,reduceCtorEq,goInt,pairs,tup0,tup1,len_str ty9,h2,decide_false]
   exact ⟨hx,trivial⟩
theorem spec250 {s : ByteArray} {H : AHeap} (hB : ExtB H) (hs : s.size ≤ 100000) : CallW E 250 [.string s] H fun r H' => Ext H H' ∧ match textF s with
  | .inl n => r = .nilIface
  | .inr (k,p) => Fault H' r 129 p k := by
 refine wcall250 (by simp) ?_
 simp only [strip,bodyOf,Tryz.f250,getD_body,keepN,bareOp_mk,lessOp_mk,lapp_cons,lapp_nil,List.map_cons,List.map_nil,array_toList,↓reduceIte,Nat.reduceEqDiff,Bool.false_eq_true]
 simp (disch := first | assumption | simp) only [↓wbD,wbU,↓aop,↓reduceIte,Nat.reduceEqDiff,Nat.reduceLT,reduceCtorEq,goInt,pairs]
 refine (spec274 hB hs).mono ?_
 rintro r H1 ⟨hx,hr⟩
 cases hT : textF s with
 | inl n =>
  rw [hT] at hr; subst hr
  simp (disch := first | assumption | simp) only [↓wbD,wbU,↓aop,↓reduceIte,Nat.reduceEqDiff,Nat.reduceLT,reduceCtorEq,goInt,pairs,tup0,tup1]
  exact ⟨hx,trivial⟩
 | inr q =>
  obtain ⟨k,p⟩ := q
  rw [hT] at hr
  obtain ⟨e,rfl,hf⟩ := hr
  simp (disch := first | assumption | simp) only [↓wbD,wbU,↓aop,↓reduceIte,Nat.reduceEqDiff,Nat.reduceLT,reduceCtorEq,goInt,pairs,tup0,tup1]
  exact ⟨hx,hf⟩
theorem spec173 {s : ByteArray} {H : AHeap} (hs : s.size ≤ 100000) : CallW E 173 [.string s] H fun r H' => Ext H H' ∧ r = match textF s with
  | .inl n => .tuple #[.int .i64 0,.int .i64 0]
  | .inr (k,p) => .tuple #[.int .i64 ((k : Int) + 1),.int .i64 (p : Int)] := by
 refine wcall173 (by simp) ?_
 simp only [strip,bodyOf,Tryz.f173,getD_body,keepN,bareOp_mk,lessOp_mk,lapp_cons,lapp_nil,List.map_cons,List.map_nil,array_toList,↓reduceIte,Nat.reduceEqDiff,Bool.false_eq_true]
 by_cases h1 : (65535 : Int) < (s.size : Int)
 ·have hT : textF s = .inr (3,65535) := by unfold textF; rw [if_pos (by omega)]
  rw [hT]
  simp (disch := first | assumption | simp) only [↓wbD,wbU,↓aop,↓reduceIte,Nat.reduceEqDiff,Nat.reduceLT,reduceCtorEq,goInt,pairs,len_str ty9,h1,decide_true]
  exact ⟨Ext.refl _,rfl⟩
 ·simp (disch := first | assumption | simp) only [↓wbD,wbU,↓aop,↓reduceIte,Nat.reduceEqDiff,Nat.reduceLT,reduceCtorEq,goInt,pairs,len_str ty9,h1,decide_false]
  refine (spec240 hs).mono ?_
  rintro r H1 ⟨rfl,hx⟩
  by_cases h2 : (((walkF s 0 0).2 : Nat) : Int) < (s.size : Int)
  ·have hT : textF s = .inr (1,(walkF s 0 0).2) := by unfold textF; rw [if_neg (by omega),if_pos (by omega)]
   rw [hT]
   simp (disch := first | assumption | simp) only [↓wbD,wbU,↓aop,↓reduceIte,Nat.reduceEqDiff,Nat.reduceLT,reduceCtorEq,goInt,pairs,len_str ty9,h2,decide_true]
   exact ⟨hx,rfl⟩
  ·have hT : textF s = .inl (walkF s 0 0).1 := by unfold textF; rw [if_neg (by omega),if_neg (by omega)]
   rw [hT]
   simp (disch := first | assumption | simp) only [↓wbD,wbU,↓aop,↓reduceIte,Nat.reduceEqDiff,Nat.reduceLT,reduceCtorEq,goInt,pairs,len_str ty9,h2,decide_false]
   exact ⟨hx,trivial⟩
theorem textF_k {s : ByteArray} {k p : Nat} (h : textF s = .inr (k,p)) : k < 7 := by
 unfold textF at h
 split at h
 ·injection h with h; injection h with h1 h2; omega
 ·split at h
  ·injection h with h; injection h with h1 h2; omega
  ·cases h
set_option maxRecDepth 100000
theorem gk1 : B.get 1 = .cells [sent 1] false 1 := by kernel_rfl
theorem gk2 : B.get 0 = .cells [sent 2] false 1 := by kernel_rfl
theorem gk3 : B.get 2 = .cells [sent 3] false 1 := by kernel_rfl
theorem gk4 : B.get 3 = .cells [sent 4] false 1 := by kernel_rfl
theorem gk5 : B.get 4 = .cells [sent 5] false 1 := by kernel_rfl
theorem gk6 : B.get 5 = .cells [sent 6] false 1 := by kernel_rfl
theorem gk7 : B.get 6 = .cells [sent 7] false 1 := by kernel_rfl
theorem vc_sent {n : Nat} : vcells (sent n) = [sent n] := rfl
theorem fz_sent {n : Nat} : frz E.ng E.nb (sent n) = true := frz_sent' n
theorem specNumberNil {σ : AHeap} {Q : Value → AHeap → Prop} (h : Q (.int .i64 0) σ) : CallS E B 29 [.nilIface] σ Q := by
 refine call29 (by simp) ?_
 simp only [strip,bodyOf,Tryz.f29,getD_body,keepN,bareOp_mk,lessOp_mk,lapp_cons,lapp_nil,List.map_cons,List.map_nil,array_toList,↓reduceIte,Nat.reduceEqDiff,Bool.false_eq_true]
 simp (disch := first | assumption | simp) only [↓sbD,sbU,tyB,Nat.reduceMul,Nat.reduceSub,Int.reduceEq,Int.reduceLT,Int.reduceLE,Int.reduceNe,Nat.reduceBneDiff,Nat.reduceBEq,decide_false,gt_iff_lt,Bool.or_self,Bool.false_eq_true,Nat.mul_one,Nat.one_mul,Nat.zero_mul,↓reduceIte,Nat.reduceEqDiff,Nat.reduceLT,Nat.reduceAdd,Nat.reduceLeDiff,reduceCtorEq,goInt,pairs,isConst,TI.isAgg,splice,boxS,Edp,dpv,Nat.beq_eq,ZV.val,List.any_cons,List.any_nil,Bool.false_and]
 exact downS_here h
theorem specNumber {d n : Nat} {v : Value} (he : ErN d v n) (hd : d ≤ 4) {σ : AHeap} {Q : Value → AHeap → Prop} (h : Q (.int .i64 (n : Int)) σ) : CallS E B 29 [v] σ Q := by
 have hv := he.val
 obtain ⟨_,n1,n2,r,a,x,e0⟩ := hv
 have e1 : ∀ t cs,abin E σ .eql t cs v .nilIface = if tyIface (E.ty.get t) then some (.bool false) else none := by subst e0; intro t cs; exact ifn_eql
 refine call29 (by simp) ?_
 simp only [strip,bodyOf,Tryz.f29,getD_body,keepN,bareOp_mk,lessOp_mk,lapp_cons,lapp_nil,List.map_cons,List.map_nil,array_toList,↓reduceIte,Nat.reduceEqDiff,Bool.false_eq_true]
 simp (disch := first | assumption | simp) only [↓sbD,sbU,tyB,Nat.reduceMul,Nat.reduceSub,Int.reduceEq,Int.reduceLT,Int.reduceLE,Int.reduceNe,Nat.reduceBneDiff,Nat.reduceBEq,decide_false,gt_iff_lt,Bool.or_self,Bool.false_eq_true,Nat.mul_one,Nat.one_mul,Nat.zero_mul,↓reduceIte,Nat.reduceEqDiff,Nat.reduceLT,Nat.reduceAdd,Nat.reduceLeDiff,reduceCtorEq,goInt,pairs,isConst,TI.isAgg,splice,boxS,Edp,dpv,Nat.beq_eq,ZV.val,List.any_cons,List.any_nil,Bool.false_and,e1,gk1,gk2,gk3,gk4,gk5,gk6,gk7,vc_sent,fz_sent]
 refine S_loop (fun k f σ' => σ' = σ ∧ ∃ j : Nat,k + j = 7 ∧ j < n ∧ f 16 = .int .i64 j) 7 (Le.refl _) ⟨rfl,0,rfl,by omega,by simp (disch := first | assumption | simp) only [↓sbD,sbU,tyB,Nat.reduceMul,Nat.reduceSub,Int.reduceEq,Int.reduceLT,Int.reduceLE,Int.reduceNe,Nat.reduceBneDiff,Nat.reduceBEq,decide_false,gt_iff_lt,Bool.or_self,Bool.false_eq_true,Nat.mul_one,Nat.one_mul,Nat.zero_mul,↓reduceIte,Nat.reduceEqDiff,Nat.reduceLT,Nat.reduceAdd,Nat.reduceLeDiff,reduceCtorEq,goInt,pairs,isConst,TI.isAgg,splice,boxS,Edp,dpv,Nat.beq_eq,ZV.val,List.any_cons,List.any_nil,Bool.false_and]; rfl⟩ ?_
 rintro k f σ' ⟨rfl,j,hk,hj,f16⟩ hf
 have f0 := hf 0 (by decide) (notMem_wr (by kernel_rfl))
 have f14 := hf 14 (by decide) (notMem_wr (by kernel_rfl))
 have f15 := hf 15 (by decide) (notMem_wr (by kernel_rfl))
 simp (disch := first | assumption | simp) only [↓sbD,sbU,tyB,Nat.reduceMul,Nat.reduceSub,Int.reduceEq,Int.reduceLT,Int.reduceLE,Int.reduceNe,Nat.reduceBneDiff,Nat.reduceBEq,decide_false,gt_iff_lt,Bool.or_self,Bool.false_eq_true,Nat.mul_one,Nat.one_mul,Nat.zero_mul,↓reduceIte,Nat.reduceEqDiff,Nat.reduceLT,Nat.reduceAdd,Nat.reduceLeDiff,reduceCtorEq,goInt,pairs,isConst,TI.isAgg,splice,boxS,Edp,dpv,Nat.beq_eq,ZV.val,List.any_cons,List.any_nil,Bool.false_and] at f0 f14 f15
 clear hf
 have hlt : (j : Int) < ((7 : Nat) : Int) := by omega
 have hj7 : j < 7 := by omega
 have hcell : (([sent 1,sent 2,sent 3,sent 4,sent 5,sent 6,sent 7] : List Value).drop j)[0]? = some (sent (j + 1)) := by
  rcases (by omega : j = 0 ∨ j = 1 ∨ j = 2 ∨ j = 3 ∨ j = 4 ∨ j = 5 ∨ j = 6) with rfl | rfl | rfl | rfl | rfl | rfl | rfl <;> rfl
 have hw := wrap_suc (n := j) (by omega)
 simp (disch := first | assumption | simp) only [↓sbD,sbU,tyB,Nat.reduceMul,Nat.reduceSub,Int.reduceEq,Int.reduceLT,Int.reduceLE,Int.reduceNe,Nat.reduceBneDiff,Nat.reduceBEq,decide_false,gt_iff_lt,Bool.or_self,Bool.false_eq_true,Nat.mul_one,Nat.one_mul,Nat.zero_mul,↓reduceIte,Nat.reduceEqDiff,Nat.reduceLT,Nat.reduceAdd,Nat.reduceLeDiff,reduceCtorEq,goInt,pairs,isConst,TI.isAgg,splice,boxS,Edp,dpv,Nat.beq_eq,ZV.val,List.any_cons,List.any_nil,Bool.false_and,f0,f14,f15,f16,hlt,hcell]
 refine is_step he hd ⟨by omega,by omega⟩ ?_
 by_cases hkj : n = j + 1
 ·subst hkj
  simp (disch := first | assumption | simp) only [↓sbD,sbU,tyB,Nat.reduceMul,Nat.reduceSub,Int.reduceEq,Int.reduceLT,Int.reduceLE,Int.reduceNe,Nat.reduceBneDiff,Nat.reduceBEq,decide_false,gt_iff_lt,Bool.or_self,Bool.false_eq_true,Nat.mul_one,Nat.one_mul,Nat.zero_mul,↓reduceIte,Nat.reduceEqDiff,Nat.reduceLT,Nat.reduceAdd,Nat.reduceLeDiff,reduceCtorEq,goInt,pairs,isConst,TI.isAgg,splice,boxS,Edp,dpv,Nat.beq_eq,ZV.val,List.any_cons,List.any_nil,Bool.false_and,hw]
  exact downS_here h
 ·simp (disch := first | assumption | simp) only [↓sbD,sbU,tyB,Nat.reduceMul,Nat.reduceSub,Int.reduceEq,Int.reduceLT,Int.reduceLE,Int.reduceNe,Nat.reduceBneDiff,Nat.reduceBEq,decide_false,gt_iff_lt,Bool.or_self,Bool.false_eq_true,Nat.mul_one,Nat.one_mul,Nat.zero_mul,↓reduceIte,Nat.reduceEqDiff,Nat.reduceLT,Nat.reduceAdd,Nat.reduceLeDiff,reduceCtorEq,goInt,pairs,isConst,TI.isAgg,splice,boxS,Edp,dpv,Nat.beq_eq,ZV.val,List.any_cons,List.any_nil,Bool.false_and,hkj,f16,hw]
  refine ⟨_,k - 1,_,rfl,by omega,Le.refl _,rfl,j + 1,by omega,by omega,?_⟩
  simp (disch := first | assumption | simp) only [↓sbD,sbU,tyB,Nat.reduceMul,Nat.reduceSub,Int.reduceEq,Int.reduceLT,Int.reduceLE,Int.reduceNe,Nat.reduceBneDiff,Nat.reduceBEq,decide_false,gt_iff_lt,Bool.or_self,Bool.false_eq_true,Nat.mul_one,Nat.one_mul,Nat.zero_mul,↓reduceIte,Nat.reduceEqDiff,Nat.reduceLT,Nat.reduceAdd,Nat.reduceLeDiff,reduceCtorEq,goInt,pairs,isConst,TI.isAgg,splice,boxS,Edp,dpv,Nat.beq_eq,ZV.val,List.any_cons,List.any_nil,Bool.false_and]
theorem zeroF : azero E 179 = some [.pointer none] := rfl
theorem handleB : isHandle ec (B.get 7) = true := by kernel_rfl
theorem as_step {r a : Int} {x : Value} {σ : AHeap} {t : Nat} {v : Value} (ht : σ.get t = .cells [v] true 0) {Q : Value → AHeap → Prop} (hq : Q (.bool true) (σ.set t (.cells [dptr [.int .i64 r,.int .i64 a,x]] true 0))) :
  CallS E B 129 [fv r a x,.iface 186 (.pointer (some ⟨t,0,none⟩))] σ Q := by
 intro H hH
 have hh : isHandle ec (H.get 7) = true := by rw [(hH.base _ (base_live (by kernel_rfl))).1]; exact handleB
 have hg := hH.get ht (by simp)
 have c : (Nat.beq 179 ec.tF && Nat.beq 186 ec.tPF && Nat.blt ec.gET ng && isHandle ec (H.get ec.gET)) = true := by
  show (true && isHandle ec (H.get 7)) = true
  rw [hh]; rfl
 refine w_special (g := asSpec ec ng) (H' := H.set t (.cells [dptr [.int .i64 r,.int .i64 a,x]] true 0)) rfl ?_ ⟨_,hH.set ht (by simp [wrt,ht]) hB,hq⟩
 show asSpec ec ng [.iface 179 (.func (.yield 0) ⟨[.int .i64 r,.int .i64 a,x]⟩ ⟨[]⟩),.iface 186 (.pointer (some ⟨t,0,none⟩))] H = _
 simp only [asSpec]
 rw [if_pos c]
 simp [astoreAt,hg,oneCell,splice]
theorem specReason {r a : Int} {x : Value} {σ : AHeap} {Q : Value → AHeap → Prop} (h : Q (.int .i64 r) σ) : CallS E B 74 [fv r a x] σ Q := by
 refine call74 (by simp) ?_
 simp only [strip,bodyOf,Tryz.f74,getD_body,keepN,bareOp_mk,lessOp_mk,lapp_cons,lapp_nil,List.map_cons,List.map_nil,array_toList,↓reduceIte,Nat.reduceEqDiff,Bool.false_eq_true]
 simp (disch := first | assumption | simp) only [↓sbD,sbU,tyB,Nat.reduceMul,Nat.reduceSub,Int.reduceEq,Int.reduceLT,Int.reduceLE,Int.reduceNe,Nat.reduceBneDiff,Nat.reduceBEq,decide_false,gt_iff_lt,Bool.or_self,Bool.false_eq_true,Nat.mul_one,Nat.one_mul,Nat.zero_mul,↓reduceIte,Nat.reduceEqDiff,Nat.reduceLT,Nat.reduceAdd,Nat.reduceLeDiff,reduceCtorEq,goInt,pairs,isConst,TI.isAgg,splice,boxS,Edp,dpv,Nat.beq_eq,ZV.val,List.any_cons,List.any_nil,Bool.false_and,zeroF,AS_new]
 intro b hb
 refine as_step (AHeap.get_set_same _ _ _) ?_
 simp (disch := first | assumption | simp) only [↓sbD,sbU,tyB,Nat.reduceMul,Nat.reduceSub,Int.reduceEq,Int.reduceLT,Int.reduceLE,Int.reduceNe,Nat.reduceBneDiff,Nat.reduceBEq,decide_false,gt_iff_lt,Bool.or_self,Bool.false_eq_true,Nat.mul_one,Nat.one_mul,Nat.zero_mul,↓reduceIte,Nat.reduceEqDiff,Nat.reduceLT,Nat.reduceAdd,Nat.reduceLeDiff,reduceCtorEq,goInt,pairs,isConst,TI.isAgg,splice,boxS,Edp,dpv,Nat.beq_eq,ZV.val,List.any_cons,List.any_nil,Bool.false_and]
 exact downS_le (Le.new' (Le.new hb) hb) h
theorem specAt {r a : Int} {x : Value} {σ : AHeap} {Q : Value → AHeap → Prop} (h : Q (.int .i64 a) σ) : CallS E B 75 [fv r a x] σ Q := by
 refine call75 (by simp) ?_
 simp only [strip,bodyOf,Tryz.f75,getD_body,keepN,bareOp_mk,lessOp_mk,lapp_cons,lapp_nil,List.map_cons,List.map_nil,array_toList,↓reduceIte,Nat.reduceEqDiff,Bool.false_eq_true]
 simp (disch := first | assumption | simp) only [↓sbD,sbU,tyB,Nat.reduceMul,Nat.reduceSub,Int.reduceEq,Int.reduceLT,Int.reduceLE,Int.reduceNe,Nat.reduceBneDiff,Nat.reduceBEq,decide_false,gt_iff_lt,Bool.or_self,Bool.false_eq_true,Nat.mul_one,Nat.one_mul,Nat.zero_mul,↓reduceIte,Nat.reduceEqDiff,Nat.reduceLT,Nat.reduceAdd,Nat.reduceLeDiff,reduceCtorEq,goInt,pairs,isConst,TI.isAgg,splice,boxS,Edp,dpv,Nat.beq_eq,ZV.val,List.any_cons,List.any_nil,Bool.false_and,zeroF,AS_new]
 intro b hb
 refine as_step (AHeap.get_set_same _ _ _) ?_
 simp (disch := first | assumption | simp) only [↓sbD,sbU,tyB,Nat.reduceMul,Nat.reduceSub,Int.reduceEq,Int.reduceLT,Int.reduceLE,Int.reduceNe,Nat.reduceBneDiff,Nat.reduceBEq,decide_false,gt_iff_lt,Bool.or_self,Bool.false_eq_true,Nat.mul_one,Nat.one_mul,Nat.zero_mul,↓reduceIte,Nat.reduceEqDiff,Nat.reduceLT,Nat.reduceAdd,Nat.reduceLeDiff,reduceCtorEq,goInt,pairs,isConst,TI.isAgg,splice,boxS,Edp,dpv,Nat.beq_eq,ZV.val,List.any_cons,List.any_nil,Bool.false_and]
 exact downS_le (Le.new' (Le.new hb) hb) h
theorem size_app (a b : ByteArray) : (a ++ b).size = a.size + b.size := ByteArray.size_append
structure Kept (σ : AHeap) (fp : List Nat) (σ' : AHeap) (fp' : List Nat) : Prop where
 get : ∀ b,σ.get b ≠ .dead → b ∉ fp → σ'.get b = σ.get b
 new : ∀ b,b ∈ fp' → b ∈ fp ∨ σ.get b = .dead
theorem Kept.refl (σ : AHeap) (fp : List Nat) : Kept σ fp σ fp := ⟨fun _ _ _ => rfl,fun _ h => .inl h⟩
theorem Kept.trans {σ σ' σ'' : AHeap} {fp fp' fp'' : List Nat} (h : Kept σ fp σ' fp') (k : Kept σ' fp' σ'' fp'') : Kept σ fp σ'' fp'' where
 get b hb hn := by
  have h1 := h.get b hb hn
  rw [k.get b (by rw [h1]; exact hb) (fun hm => by rcases h.new b hm with h2 | h2; exact hn h2; exact hb h2),h1]
 new b hb := by
  rcases k.new b hb with h1 | h1
  ·exact h.new b h1
  ·by_cases hd : σ.get b = .dead
   ·exact .inr hd
   ·by_cases hn : b ∈ fp
    ·exact .inl hn
    ·rw [h.get b hd hn] at h1; exact .inr h1
theorem Kept.at {σ σ' : AHeap} {fp fp' : List Nat} (h : Kept σ fp σ' fp') {b : Nat} {o : AObj} (hg : σ.get b = o) (ho : o ≠ .dead) (hn : b ∉ fp) : σ'.get b = o ∧ b ∉ fp' :=
 ⟨by rw [h.get b (by rw [hg]; exact ho) hn,hg],fun hm => by rcases h.new b hm with h2 | h2; exact hn h2; rw [h2] at hg; exact ho hg.symm⟩
theorem Kept.more {σ σ' : AHeap} {fp fp' l : List Nat} (h : Kept σ fp σ' fp') : Kept σ (l ++ fp) σ' (l ++ fp') where
 get b hb hn := h.get b hb (fun hm => hn (List.mem_append_right _ hm))
 new b hb := by
  rcases List.mem_append.1 hb with h1 | h1
  ·exact .inl (List.mem_append_left _ h1)
  ·rcases h.new b h1 with h2 | h2
   ·exact .inl (List.mem_append_right _ h2)
   ·exact .inr h2
theorem Kept.set {σ : AHeap} {fp : List Nat} {b : Nat} {o : AObj} (hb : b ∈ fp) : Kept σ fp (σ.set b o) fp :=
 ⟨fun c _ hn => AHeap.get_set_ne _ _ (by rintro rfl; exact hn hb),fun _ h => .inl h⟩
theorem Kept.new' {σ : AHeap} {b : Nat} {o : AObj} (hb : σ.get b = .dead) : Kept σ [] (σ.set b o) [b] :=
 ⟨fun c hc _ => AHeap.get_set_ne _ _ (by rintro rfl; exact hc hb),fun c hc => by obtain rfl := List.mem_singleton.1 hc; exact .inr hb⟩
theorem get_resize {σ : AHeap} {n b : Nat} : (σ.resize n).get b = σ.get b := rfl
def unit : Value := .tuple #[]
def numB (n k : Nat) : ByteArray := if k = 4 then str [n / 16777216 % 256,n / 65536 % 256,n / 256 % 256,n % 256] else if k = 2 then str [n / 256 % 256,n % 256] else str [n % 256]
def numW (n : Int) (k : Nat) : ByteArray ⊕ (Nat × Nat) := if n < 0 ∨ (2 ^ (8 * k) : Nat) ≤ n then .inr (4,0) else .inl (numB n.toNat k)
theorem dead_of {σ : AHeap} {b : Nat} (hb : ∀ c,¬ σ.get c = .dead → c < b) : σ.get b = .dead := by
 rcases hg : σ.get b with _ | _ | _
 ·rfl
 ·exact absurd (hb b (by rw [hg]; simp)) (Nat.lt_irrefl _)
 ·exact absurd (hb b (by rw [hg]; simp)) (Nat.lt_irrefl _)
section
variable {σ : AHeap} {w : Nat} {a s : ByteArray} {fp : List Nat} {n : Int} {Q : Value → AHeap → Prop}
theorem specHold {n m : Int} (h : Q (.int .i64 n) σ) (hn : -m ≤ n ∧ n ≤ m) (hm : 0 ≤ m ∧ m ≤ 1000000000000000000) : CallS E B 271 [.int .i64 n,.int .i64 m] σ Q := by
 have e1 : aun .neg (.int .i64 m) = some (.int .i64 (-m)) := by
  simp only [aun]
  rw [wrap64 ⟨by omega,by omega⟩]; congr 2; omega
 have e2 : (if m < n then m else n) = n := by rw [if_neg (by omega)]
 have e3 : (if n > -m then n else -m) = n := by by_cases h : n > -m; rw [if_pos h]; rw [if_neg h]; omega
 have e4 : (if -m < n then n else -m) = n := by by_cases h : -m < n; rw [if_pos h]; rw [if_neg h]; omega
 refine call271 (by simp) ?_
 simp only [strip,bodyOf,Tryz.f271,getD_body,keepN,bareOp_mk,lessOp_mk,lapp_cons,lapp_nil,List.map_cons,List.map_nil,array_toList,↓reduceIte,Nat.reduceEqDiff,Bool.false_eq_true]
 simp (disch := first | assumption | simp) only [↓sbD,sbU,tyB,Nat.reduceMul,Nat.reduceSub,Int.reduceEq,Int.reduceLT,Int.reduceLE,Int.reduceNe,Nat.reduceBneDiff,Nat.reduceBEq,decide_false,gt_iff_lt,Bool.or_self,Bool.false_eq_true,Nat.mul_one,Nat.one_mul,Nat.zero_mul,↓reduceIte,Nat.reduceEqDiff,Nat.reduceLT,Nat.reduceAdd,Nat.reduceLeDiff,reduceCtorEq,goInt,pairs,isConst,TI.isAgg,splice,boxS,Edp,dpv,Nat.beq_eq,ZV.val,List.any_cons,List.any_nil,Bool.false_and,e1,e2,e3,e4]
 exact downS_here h
theorem specFurther {n m : Nat} (hn : n ≤ 1000000000) (hm : m ≤ 1000000000) (h : Q (.int .i64 ((m + n : Nat) : Int)) σ) : CallS E B 244 [.int .i64 (n : Int),.int .i64 (m : Int)] σ Q := by
 have hw : IntKind.i64.wrap ((n : Int) + (m : Int)) = ((m + n : Nat) : Int) := by rw [wrap64 ⟨by omega,by omega⟩]; omega
 have e1 : (if (9007199254740992 : Int) < ((m + n : Nat) : Int) then (9007199254740992 : Int) else ((m + n : Nat) : Int)) = ((m + n : Nat) : Int) := by rw [if_neg (by omega)]
 have e2 : (if ((m + n : Nat) : Int) > 0 then ((m + n : Nat) : Int) else 0) = ((m + n : Nat) : Int) := by split <;> omega
 have e3 : (if 0 < ((m + n : Nat) : Int) then ((m + n : Nat) : Int) else 0) = ((m + n : Nat) : Int) := by split <;> omega
 refine call244 (by simp) ?_
 simp only [strip,bodyOf,Tryz.f244,getD_body,keepN,bareOp_mk,lessOp_mk,lapp_cons,lapp_nil,List.map_cons,List.map_nil,array_toList,↓reduceIte,Nat.reduceEqDiff,Bool.false_eq_true]
 simp (disch := first | assumption | simp) only [↓sbD,sbU,tyB,Nat.reduceMul,Nat.reduceSub,Int.reduceEq,Int.reduceLT,Int.reduceLE,Int.reduceNe,Nat.reduceBneDiff,Nat.reduceBEq,decide_false,gt_iff_lt,Bool.or_self,Bool.false_eq_true,Nat.mul_one,Nat.one_mul,Nat.zero_mul,↓reduceIte,Nat.reduceEqDiff,Nat.reduceLT,Nat.reduceAdd,Nat.reduceLeDiff,reduceCtorEq,goInt,pairs,isConst,TI.isAgg,splice,boxS,Edp,dpv,Nat.beq_eq,ZV.val,List.any_cons,List.any_nil,Bool.false_and]
 refine specHold ?_ ⟨by omega,by omega⟩ ⟨by omega,by omega⟩
 simp (disch := first | assumption | simp) only [↓sbD,sbU,tyB,Nat.reduceMul,Nat.reduceSub,Int.reduceEq,Int.reduceLT,Int.reduceLE,Int.reduceNe,Nat.reduceBneDiff,Nat.reduceBEq,decide_false,gt_iff_lt,Bool.or_self,Bool.false_eq_true,Nat.mul_one,Nat.one_mul,Nat.zero_mul,↓reduceIte,Nat.reduceEqDiff,Nat.reduceLT,Nat.reduceAdd,Nat.reduceLeDiff,reduceCtorEq,goInt,pairs,isConst,TI.isAgg,splice,boxS,Edp,dpv,Nat.beq_eq,ZV.val,List.any_cons,List.any_nil,Bool.false_and]
 refine specHold ?_ ⟨by omega,by omega⟩ ⟨by omega,by omega⟩
 simp (disch := first | assumption | simp) only [↓sbD,sbU,tyB,Nat.reduceMul,Nat.reduceSub,Int.reduceEq,Int.reduceLT,Int.reduceLE,Int.reduceNe,Nat.reduceBneDiff,Nat.reduceBEq,decide_false,gt_iff_lt,Bool.or_self,Bool.false_eq_true,Nat.mul_one,Nat.one_mul,Nat.zero_mul,↓reduceIte,Nat.reduceEqDiff,Nat.reduceLT,Nat.reduceAdd,Nat.reduceLeDiff,reduceCtorEq,goInt,pairs,isConst,TI.isAgg,splice,boxS,Edp,dpv,Nat.beq_eq,ZV.val,List.any_cons,List.any_nil,Bool.false_and,hw,e1,e2,e3]
 exact downS_here h
theorem specDeeper {r : Int} {n m : Nat} {x : Value} (hn : n ≤ 1000000000) (hm : m ≤ 1000000000) (h : Q (fv r ((m + n : Nat) : Int) (fv r (n : Int) x)) σ) : CallS E B 181 [fv r (n : Int) x,.int .i64 (m : Int)] σ Q := by
 refine call181 (by simp) ?_
 simp only [strip,bodyOf,Tryz.f181,getD_body,keepN,bareOp_mk,lessOp_mk,lapp_cons,lapp_nil,List.map_cons,List.map_nil,array_toList,↓reduceIte,Nat.reduceEqDiff,Bool.false_eq_true]
 simp (disch := first | assumption | simp) only [↓sbD,sbU,tyB,Nat.reduceMul,Nat.reduceSub,Int.reduceEq,Int.reduceLT,Int.reduceLE,Int.reduceNe,Nat.reduceBneDiff,Nat.reduceBEq,decide_false,gt_iff_lt,Bool.or_self,Bool.false_eq_true,Nat.mul_one,Nat.one_mul,Nat.zero_mul,↓reduceIte,Nat.reduceEqDiff,Nat.reduceLT,Nat.reduceAdd,Nat.reduceLeDiff,reduceCtorEq,goInt,pairs,isConst,TI.isAgg,splice,boxS,Edp,dpv,Nat.beq_eq,ZV.val,List.any_cons,List.any_nil,Bool.false_and]
 refine specReason ?_
 simp (disch := first | assumption | simp) only [↓sbD,sbU,tyB,Nat.reduceMul,Nat.reduceSub,Int.reduceEq,Int.reduceLT,Int.reduceLE,Int.reduceNe,Nat.reduceBneDiff,Nat.reduceBEq,decide_false,gt_iff_lt,Bool.or_self,Bool.false_eq_true,Nat.mul_one,Nat.one_mul,Nat.zero_mul,↓reduceIte,Nat.reduceEqDiff,Nat.reduceLT,Nat.reduceAdd,Nat.reduceLeDiff,reduceCtorEq,goInt,pairs,isConst,TI.isAgg,splice,boxS,Edp,dpv,Nat.beq_eq,ZV.val,List.any_cons,List.any_nil,Bool.false_and]
 refine specAt ?_
 simp (disch := first | assumption | simp) only [↓sbD,sbU,tyB,Nat.reduceMul,Nat.reduceSub,Int.reduceEq,Int.reduceLT,Int.reduceLE,Int.reduceNe,Nat.reduceBneDiff,Nat.reduceBEq,decide_false,gt_iff_lt,Bool.or_self,Bool.false_eq_true,Nat.mul_one,Nat.one_mul,Nat.zero_mul,↓reduceIte,Nat.reduceEqDiff,Nat.reduceLT,Nat.reduceAdd,Nat.reduceLeDiff,reduceCtorEq,goInt,pairs,isConst,TI.isAgg,splice,boxS,Edp,dpv,Nat.beq_eq,ZV.val,List.any_cons,List.any_nil,Bool.false_and]
 refine specFurther hn hm ?_
 simp (disch := first | assumption | simp) only [↓sbD,sbU,tyB,Nat.reduceMul,Nat.reduceSub,Int.reduceEq,Int.reduceLT,Int.reduceLE,Int.reduceNe,Nat.reduceBneDiff,Nat.reduceBEq,decide_false,gt_iff_lt,Bool.or_self,Bool.false_eq_true,Nat.mul_one,Nat.one_mul,Nat.zero_mul,↓reduceIte,Nat.reduceEqDiff,Nat.reduceLT,Nat.reduceAdd,Nat.reduceLeDiff,reduceCtorEq,goInt,pairs,isConst,TI.isAgg,splice,boxS,Edp,dpv,Nat.beq_eq,ZV.val,List.any_cons,List.any_nil,Bool.false_and]
 exact downS_here h
end
end Go.Proofs.YtkhcbbpfchgemaaGreatDoor.AbsA
