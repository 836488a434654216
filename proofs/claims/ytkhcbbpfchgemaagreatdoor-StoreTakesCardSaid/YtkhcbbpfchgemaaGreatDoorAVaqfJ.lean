/-
  Parts of a law's proof.
-/
import Derived.Test.YtkhcbbpfchgemaaGreatDoorAErqbJ
namespace Go.Proofs.YtkhcbbpfchgemaaGreatDoor.AbsA
open Go AbsYtkhcbbpfchgemaaGreatDoor Abs
set_option maxHeartbeats 4000000
set_option linter.unusedSimpArgs false
set_option linter.unusedVariables false

set_option maxRecDepth 100000
set_option maxHeartbeats 2000000
set_option linter.unusedSimpArgs false
set_option linter.unusedVariables false
theorem typed_str {H : AHeap} {d : Nat} {xs : List Value} (h : Typed E H d 9 xs) : ∃ s : ByteArray,xs = [.string s] ∧ s.size ≤ maxLen := by
 cases d with
 | zero => exact h.elim
 | succ d => simpa only [Typed,ty9] using h
theorem not_bool {b : Bool} : aun .not (.bool b) = some (.bool (!b)) := rfl
theorem takeF_kd : ∀ (s : ByteArray) (k i n kd p : Nat),takeF s k i n = .inr (kd,p) → kd ≤ 1
 | s,0,i,n,kd,p,h => by simp only [takeF] at h; injection h with h; injection h with h1 h2; omega
 | s,k + 1,i,n,kd,p,h => by
  simp only [takeF] at h
  split at h
  ·injection h with h; injection h with h1 h2; omega
  ·split at h
   ·split at h
    ·injection h with h; injection h with h1 h2; omega
    ·cases h
   ·exact takeF_kd s k _ _ _ _ h
theorem tup0 {a b : Value} : (#[a,b] : Array Value)[0]? = some a := rfl
theorem tup1 {a b : Value} : (#[a,b] : Array Value)[1]? = some b := rfl
theorem tri0 {a b c : Value} : (#[a,b,c] : Array Value)[0]? = some a := rfl
theorem tri1 {a b c : Value} : (#[a,b,c] : Array Value)[1]? = some b := rfl
theorem tri2 {a b c : Value} : (#[a,b,c] : Array Value)[2]? = some c := rfl

set_option maxRecDepth 100000
set_option maxHeartbeats 2000000
set_option linter.unusedSimpArgs false
set_option linter.unusedVariables false

set_option maxRecDepth 100000
set_option maxHeartbeats 1000000
set_option linter.unusedSimpArgs false
set_option linter.unusedVariables false
theorem bt_extract {u : ByteArray} {a b j : Nat} (h : a + j < b) (hb : b ≤ u.size) : bt (u.extract a b) j = bt u (a + j) := by
 have h1 : j < (u.extract a b).size := by rw [ByteArray.size_extract]; omega
 have e1 : (u.extract a b)[j]? = some (u.extract a b)[j] := getElem?_pos _ j h1
 have e2 : u[a + j]? = some u[a + j] := getElem?_pos _ (a + j) (by omega)
 unfold bt
 rw [e1,e2]
 simp only
 congr 1
 exact ByteArray.getElem_extract h1
def bytesOf (w : ByteArray) : List Value := w.data.toList.map fun b => .int .u8 b.toNat
theorem conv_bytes {H : AHeap} {w : ByteArray} : aconvert E H 9 162 (.string w) = some (.slice (some ⟨H.size,0,none⟩) w.size w.size,H.alloc (.cells (bytesOf w) true 1)) := by
 unfold aconvert bytesOf
 rw [ty9,ty162]
 show (match E.ty.get 5 with | some ⟨.int .u8,_,_,_,_⟩ => _ | _ => none) = _
 rw [ty5]
 simp only [dpB,Bool.false_eq_true,if_false]
theorem bytes_get {w : ByteArray} {j : Nat} (h : j < w.size) : (bytesOf w)[j]? = some (.int .u8 ((bt w j : Nat) : Int)) := by
 have e1 : w[j]? = some w[j] := getElem?_pos _ j h
 have hl : j < w.data.toList.length := by rw [Array.length_toList]; exact h
 have e2 : (bytesOf w)[j]? = some (.int .u8 ((w.data.toList[j].toNat : Nat) : Int)) := by
  simp only [bytesOf,List.getElem?_map,List.getElem?_eq_getElem hl,Option.map_some]
 rw [e2]
 unfold bt
 rw [e1]
 rfl
def shapeF (c : Nat) : Nat × Nat × Nat :=
 if 1 ≤ c ∧ c < 128 then (0,c,1) else if 192 ≤ c ∧ c < 224 then (1,c % 32,128) else if 224 ≤ c ∧ c < 240 then (2,c % 16,2048) else if 240 ≤ c ∧ c < 248 then (3,c % 8,65536) else (0,0,1)
theorem spec284 {c : Nat} {H : AHeap} (hc : c < 256) : CallW E 284 [.int .u8 (c : Int)] H fun r H' => r = .tuple #[.int .i64 ((shapeF c).1 : Int),.int .i64 ((shapeF c).2.1 : Int),.int .i64 ((shapeF c).2.2 : Int)] ∧ H' = H := by
 refine wcall284 (by simp) ?_
 simp only [strip,bodyOf,Tryz.f284,getD_body,keepN,bareOp_mk,lessOp_mk,lapp_cons,lapp_nil,List.map_cons,List.map_nil,array_toList,↓reduceIte,Nat.reduceEqDiff,Bool.false_eq_true]
 rcases (by omega : c = 0 ∨ (1 ≤ c ∧ c < 128) ∨ (128 ≤ c ∧ c < 192) ∨ (192 ≤ c ∧ c < 224) ∨ (224 ≤ c ∧ c < 240) ∨ (240 ≤ c ∧ c < 248) ∨ 248 ≤ c) with h | h | h | h | h | h | h
 ·have h1 : ¬ (1 : Int) ≤ (c : Int) := by omega
  have h3 : ¬ (192 : Int) ≤ (c : Int) := by omega
  have h5 : ¬ (224 : Int) ≤ (c : Int) := by omega
  have h7 : ¬ (240 : Int) ≤ (c : Int) := by omega
  simp (disch := first | assumption | simp) only [↓wbD,wbU,↓aop,↓reduceIte,Nat.reduceEqDiff,Nat.reduceLT,reduceCtorEq,goInt,pairs,h1,h3,h5,h7,decide_true,decide_false]
  rw [show shapeF c = (0,0,1) from by unfold shapeF; rw [if_neg (by omega),if_neg (by omega),if_neg (by omega),if_neg (by omega)]]; exact ⟨rfl,trivial⟩
 ·have h1 : (1 : Int) ≤ (c : Int) := by omega
  have h2 : (c : Int) < 128 := by omega
  simp (disch := first | assumption | simp) only [↓wbD,wbU,↓aop,↓reduceIte,Nat.reduceEqDiff,Nat.reduceLT,reduceCtorEq,goInt,pairs,h1,h2,decide_true,decide_false,conv_i64 hc]
  rw [show shapeF c = (0,c,1) from by unfold shapeF; rw [if_pos h]]; exact ⟨rfl,trivial⟩
 ·have h1 : (1 : Int) ≤ (c : Int) := by omega
  have h2 : ¬ (c : Int) < 128 := by omega
  have h3 : ¬ (192 : Int) ≤ (c : Int) := by omega
  have h5 : ¬ (224 : Int) ≤ (c : Int) := by omega
  have h7 : ¬ (240 : Int) ≤ (c : Int) := by omega
  simp (disch := first | assumption | simp) only [↓wbD,wbU,↓aop,↓reduceIte,Nat.reduceEqDiff,Nat.reduceLT,reduceCtorEq,goInt,pairs,h1,h2,h3,h5,h7,decide_true,decide_false]
  rw [show shapeF c = (0,0,1) from by unfold shapeF; rw [if_neg (by omega),if_neg (by omega),if_neg (by omega),if_neg (by omega)]]; exact ⟨rfl,trivial⟩
 ·have h1 : (1 : Int) ≤ (c : Int) := by omega
  have h2 : ¬ (c : Int) < 128 := by omega
  have h3 : (192 : Int) ≤ (c : Int) := by omega
  have h4 : (c : Int) < 224 := by omega
  simp (disch := first | assumption | simp) only [↓wbD,wbU,↓aop,↓reduceIte,Nat.reduceEqDiff,Nat.reduceLT,reduceCtorEq,goInt,pairs,h1,h2,h3,h4,decide_true,decide_false,and31 hc,conv_i64 (show c % 32 < 256 by omega)]
  rw [show shapeF c = (1,c % 32,128) from by unfold shapeF; rw [if_neg (by omega),if_pos h]]; exact ⟨rfl,trivial⟩
 ·have h1 : (1 : Int) ≤ (c : Int) := by omega
  have h2 : ¬ (c : Int) < 128 := by omega
  have h3 : (192 : Int) ≤ (c : Int) := by omega
  have h4 : ¬ (c : Int) < 224 := by omega
  have h5 : (224 : Int) ≤ (c : Int) := by omega
  have h6 : (c : Int) < 240 := by omega
  simp (disch := first | assumption | simp) only [↓wbD,wbU,↓aop,↓reduceIte,Nat.reduceEqDiff,Nat.reduceLT,reduceCtorEq,goInt,pairs,h1,h2,h3,h4,h5,h6,decide_true,decide_false,and15 hc,conv_i64 (show c % 16 < 256 by omega)]
  rw [show shapeF c = (2,c % 16,2048) from by unfold shapeF; rw [if_neg (by omega),if_neg (by omega),if_pos h]]; exact ⟨rfl,trivial⟩
 ·have h1 : (1 : Int) ≤ (c : Int) := by omega
  have h2 : ¬ (c : Int) < 128 := by omega
  have h3 : (192 : Int) ≤ (c : Int) := by omega
  have h4 : ¬ (c : Int) < 224 := by omega
  have h5 : (224 : Int) ≤ (c : Int) := by omega
  have h6 : ¬ (c : Int) < 240 := by omega
  have h7 : (240 : Int) ≤ (c : Int) := by omega
  have h8 : (c : Int) < 248 := by omega
  simp (disch := first | assumption | simp) only [↓wbD,wbU,↓aop,↓reduceIte,Nat.reduceEqDiff,Nat.reduceLT,reduceCtorEq,goInt,pairs,h1,h2,h3,h4,h5,h6,h7,h8,decide_true,decide_false,and7 hc,conv_i64 (show c % 8 < 256 by omega)]
  rw [show shapeF c = (3,c % 8,65536) from by unfold shapeF; rw [if_neg (by omega),if_neg (by omega),if_neg (by omega),if_pos h]]; exact ⟨rfl,trivial⟩
 ·have h1 : (1 : Int) ≤ (c : Int) := by omega
  have h2 : ¬ (c : Int) < 128 := by omega
  have h3 : (192 : Int) ≤ (c : Int) := by omega
  have h4 : ¬ (c : Int) < 224 := by omega
  have h5 : (224 : Int) ≤ (c : Int) := by omega
  have h6 : ¬ (c : Int) < 240 := by omega
  have h7 : (240 : Int) ≤ (c : Int) := by omega
  have h8 : ¬ (c : Int) < 248 := by omega
  simp (disch := first | assumption | simp) only [↓wbD,wbU,↓aop,↓reduceIte,Nat.reduceEqDiff,Nat.reduceLT,reduceCtorEq,goInt,pairs,h1,h2,h3,h4,h5,h6,h7,h8,decide_true,decide_false]
  rw [show shapeF c = (0,0,1) from by unfold shapeF; rw [if_neg (by omega),if_neg (by omega),if_neg (by omega),if_neg (by omega)]]; exact ⟨rfl,trivial⟩
def acc (u : ByteArray) (n : Nat) : Nat → Nat
 | 0 => n
 | k + 1 => acc u n k * 64 + bt u (k + 1) % 64
def cont (u : ByteArray) (k : Nat) : Prop := ∀ j,j < k → 128 ≤ bt u (j + 1) ∧ bt u (j + 1) < 192
instance (u : ByteArray) (k : Nat) : Decidable (cont u k) := inferInstanceAs (Decidable (∀ j,j < k → _))
def bad (n : Nat) : Prop := 1114111 < n ∨ (55296 ≤ n ∧ n ≤ 57343)
instance (n : Nat) : Decidable (bad n) := inferInstanceAs (Decidable (_ ∨ _))
def firstI (u : ByteArray) : Nat :=
 if u.size ≤ (shapeF (bt u 0)).1 then 0
 else if cont u (shapeF (bt u 0)).1 then
  (if acc u (shapeF (bt u 0)).2.1 (shapeF (bt u 0)).1 < (shapeF (bt u 0)).2.2 ∨ bad (acc u (shapeF (bt u 0)).2.1 (shapeF (bt u 0)).1) then 0 else (shapeF (bt u 0)).1 + 1)
 else 0
theorem shapeF_le (c : Nat) (hc : c < 256) : (shapeF c).1 ≤ 3 ∧ (shapeF c).2.1 < 128 ∧ (shapeF c).2.2 ≤ 65536 := by
 unfold shapeF
 split
 ·exact ⟨by simp,by simp; omega,by simp⟩
 ·split
  ·exact ⟨by simp,by simp; omega,by simp⟩
  ·split
   ·exact ⟨by simp,by simp; omega,by simp⟩
   ·split
    ·exact ⟨by simp,by simp; omega,by simp⟩
    ·exact ⟨by simp,by simp,by simp⟩
theorem acc_lt (u : ByteArray) {n : Nat} (hn : n < 128) : ∀ k,acc u n k < 128 * 64 ^ k
 | 0 => by simpa [acc] using hn
 | k + 1 => by
  have := acc_lt u hn k
  simp only [acc,Nat.pow_succ]
  omega

set_option maxRecDepth 100000
set_option maxHeartbeats 1000000
set_option linter.unusedSimpArgs false
set_option linter.unusedVariables false
theorem spec283 {u : ByteArray} {H : AHeap} (h0 : 0 < u.size) (hs : u.size ≤ 100000) : CallW E 283 [.string u] H fun r H' => r = .int .i64 ((firstI u : Nat) : Int) ∧ Ext H H' := by
 refine wcall283 (by simp) ?_
 simp only [strip,bodyOf,Tryz.f283,getD_body,keepN,bareOp_mk,lessOp_mk,lapp_cons,lapp_nil,List.map_cons,List.map_nil,array_toList,↓reduceIte,Nat.reduceEqDiff,Bool.false_eq_true]
 have hix := idx_str (s := u) (i := 0) h0
 have hc := bt_lt u 0
 obtain ⟨q1,q2,q3⟩ := shapeF_le (bt u 0) hc
 simp (disch := first | assumption | simp) only [↓wbD,wbU,↓aop,↓reduceIte,Nat.reduceEqDiff,Nat.reduceLT,reduceCtorEq,goInt,pairs,show aindex E 9 (.string u) (.int .i64 0) = _ from hix]
 refine (spec284 hc).mono ?_
 rintro r H ⟨rfl,rfl⟩
 obtain ⟨fo,hfo⟩ : ∃ x,x = (shapeF (bt u 0)).1 := ⟨_,rfl⟩
 obtain ⟨n0,hn0⟩ : ∃ x,x = (shapeF (bt u 0)).2.1 := ⟨_,rfl⟩
 obtain ⟨le,hle⟩ : ∃ x,x = (shapeF (bt u 0)).2.2 := ⟨_,rfl⟩
 have hF : firstI u = if u.size ≤ fo then 0 else if cont u fo then (if acc u n0 fo < le ∨ bad (acc u n0 fo) then 0 else fo + 1) else 0 := by unfold firstI; rw [← hfo,← hn0,← hle]
 rw [← hfo,← hn0,← hle]
 rw [← hfo] at q1; rw [← hn0] at q2; rw [← hle] at q3
 clear hfo hn0 hle
 by_cases hsz : (u.size : Int) ≤ (fo : Int)
 ·simp (disch := first | assumption | simp) only [↓wbD,wbU,↓aop,↓reduceIte,Nat.reduceEqDiff,Nat.reduceLT,reduceCtorEq,goInt,pairs,tri0,tri1,tri2,len_str ty9,hsz,decide_true]
  rw [hF,if_pos (by omega)]
  exact ⟨rfl,Ext.refl _⟩
 have hw : IntKind.i64.wrap ((fo : Int) + 1) = ((fo + 1 : Nat) : Int) := wrap_suc (by omega)
 have hsl := slice_both (E := E) (H := H) ty9 (s := u) (k := 1) (l := fo + 1) (by omega) (by omega)
 rw [if_neg (by omega)] at hF
 have hlen : ∀ K,abuiltin E K .len [162] [.slice (some ⟨H.size,0,none⟩) (u.extract 1 (fo + 1)).size (u.extract 1 (fo + 1)).size] = some (goInt ((u.extract 1 (fo + 1)).size : Nat),K) := fun K => by simp [abuiltin,ty162]
 have hxs : (u.extract 1 (fo + 1)).size = fo := by rw [ByteArray.size_extract]; omega
 simp (disch := first | assumption | simp) only [↓wbD,wbU,↓aop,↓reduceIte,Nat.reduceEqDiff,Nat.reduceLT,reduceCtorEq,goInt,pairs,tri0,tri1,tri2,len_str ty9,hsz,decide_false,hw,show aslice E H 9 (.string u) (some (.int .i64 1)) (some (.int .i64 ((fo + 1 : Nat) : Int))) none = _ from hsl,conv_bytes,hlen]
 have hbg := fun j (hj : j < fo) => bytes_get (w := u.extract 1 (fo + 1)) (j := j) (by omega)
 have hbe : ∀ j,j < fo → bt (u.extract 1 (fo + 1)) j = bt u (j + 1) := fun j hj => by rw [bt_extract (by omega) (by omega),Nat.add_comm]
 rw [hxs]
 have hx : Ext H (H.alloc (.cells (bytesOf (u.extract 1 (fo + 1))) true 1)) := Ext.alloc _ _
 have hg : (H.alloc (.cells (bytesOf (u.extract 1 (fo + 1))) true 1)).get H.size = .cells (bytesOf (u.extract 1 (fo + 1))) true 1 := AHeap.get_alloc_same _ _
 generalize H.alloc (.cells (bytesOf (u.extract 1 (fo + 1))) true 1) = H1 at hx hg
 refine W_loop (fun f H' => H' = H1 ∧ f 3 = .int .i64 (fo : Int) ∧ f 5 = .int .i64 (le : Int) ∧ f 23 = .slice (some ⟨H.size,0,none⟩) fo fo ∧ f 24 = .int .i64 (fo : Int) ∧ ∃ k : Nat,k ≤ fo ∧ f 25 = .int .i64 (k : Int) ∧ f 4 = .int .i64 ((acc u n0 k : Nat) : Int) ∧ cont u k) (fun f _ => match f 25 with | .int _ k => fo - k.toNat | _ => 0) ?_ ?_
 ·simp (disch := first | assumption | simp) only [↓wbD,wbU,↓aop,↓reduceIte,Nat.reduceEqDiff,Nat.reduceLT,reduceCtorEq,goInt,pairs]
  exact ⟨0,by omega,rfl,rfl,fun j hj => by omega⟩
 rintro f H1 ⟨rfl,f3,f5,f23,f24,k,hk,f25,f4,hcont⟩
 by_cases hlt : (k : Int) < (fo : Int)
 ·have hb := bt_lt u (k + 1)
  have hl := hbg k (by omega)
  rw [hbe k (by omega)] at hl
  have hwk := wrap_suc (n := k) (by omega)
  by_cases hcc : 128 ≤ bt u (k + 1) ∧ bt u (k + 1) < 192
  ·have h1 : bt u (k + 1) / 64 * 64 = 128 := by omega
   have hne : ((bt u (k + 1) / 64 * 64 : Nat) : Int) = 128 := by rw [h1]; rfl
   have ha := acc_lt u q2 k
   have hk3 : 64 ^ k ≤ 64 ^ 3 := Nat.pow_le_pow_right (by omega) (by omega)
   have hor := or6 (n := acc u n0 k) (x := bt u (k + 1) % 64) (by omega) (by omega)
   simp (disch := first | assumption | simp) only [↓wbD,wbU,↓aop,↓reduceIte,Nat.reduceEqDiff,Nat.reduceLT,reduceCtorEq,goInt,pairs,f3,f5,f23,f24,f25,f4,hlt,decide_true,ia_slice ty162 ty5 (show k < fo by omega),Nat.zero_add,Nat.mul_one,ld_cell ty5 rfl hg,hl,and192 hb,hne,not_true_eq_false,decide_false,shl6 (show acc u n0 k < 2 ^ 40 by omega),and63 hb,conv_i64 (show bt u (k + 1) % 64 < 256 by omega),hor,hwk]
   refine ⟨_,rfl,⟨?_,?_,?_,?_,k + 1,by omega,?_,?_,?_⟩,?_⟩
   ·simp (disch := first | assumption | simp) only [↓wbD,wbU,↓aop,↓reduceIte,Nat.reduceEqDiff,Nat.reduceLT,reduceCtorEq,goInt,pairs,f3]
   ·simp (disch := first | assumption | simp) only [↓wbD,wbU,↓aop,↓reduceIte,Nat.reduceEqDiff,Nat.reduceLT,reduceCtorEq,goInt,pairs,f5]
   ·simp (disch := first | assumption | simp) only [↓wbD,wbU,↓aop,↓reduceIte,Nat.reduceEqDiff,Nat.reduceLT,reduceCtorEq,goInt,pairs,f23]
   ·simp (disch := first | assumption | simp) only [↓wbD,wbU,↓aop,↓reduceIte,Nat.reduceEqDiff,Nat.reduceLT,reduceCtorEq,goInt,pairs,f24]
   ·simp (disch := first | assumption | simp) only [↓wbD,wbU,↓aop,↓reduceIte,Nat.reduceEqDiff,Nat.reduceLT,reduceCtorEq,goInt,pairs]
   ·simp (disch := first | assumption | simp) only [↓wbD,wbU,↓aop,↓reduceIte,Nat.reduceEqDiff,Nat.reduceLT,reduceCtorEq,goInt,pairs]
    rfl
   ·intro j hj
    by_cases hjk : j = k
    ·subst hjk; exact hcc
    ·exact hcont j (by omega)
   ·simp (disch := first | assumption | simp) only [↓wbD,wbU,↓aop,↓reduceIte,Nat.reduceEqDiff,Nat.reduceLT,reduceCtorEq,goInt,pairs,f25]
    simp; omega
  ·have h1 : ¬ bt u (k + 1) / 64 * 64 = 128 := by omega
   have hne : ¬ ((bt u (k + 1) / 64 * 64 : Nat) : Int) = 128 := fun h => h1 (by omega)
   simp (disch := first | assumption | simp) only [↓wbD,wbU,↓aop,↓reduceIte,Nat.reduceEqDiff,Nat.reduceLT,reduceCtorEq,goInt,pairs,f3,f5,f23,f24,f25,f4,hlt,decide_true,ia_slice ty162 ty5 (show k < fo by omega),Nat.zero_add,Nat.mul_one,ld_cell ty5 rfl hg,hl,and192 hb,hne,not_false_eq_true]
   rw [hF,if_neg (fun h => hcc (h k (by omega)))]
   exact ⟨rfl,hx⟩
 ·obtain rfl : k = fo := by omega
  rw [if_pos hcont] at hF
  generalize acc u n0 k = m at *
  by_cases c1 : (m : Int) < (le : Int)
  ·simp (disch := first | assumption | simp) only [↓wbD,wbU,↓aop,↓reduceIte,Nat.reduceEqDiff,Nat.reduceLT,reduceCtorEq,goInt,pairs,f3,f5,f24,f25,f4,hlt,decide_false,c1,decide_true]
   rw [hF,if_pos (.inl (by omega))]
   exact ⟨rfl,hx⟩
  by_cases c2 : (1114111 : Int) < (m : Int)
  ·simp (disch := first | assumption | simp) only [↓wbD,wbU,↓aop,↓reduceIte,Nat.reduceEqDiff,Nat.reduceLT,reduceCtorEq,goInt,pairs,f3,f5,f24,f25,f4,hlt,decide_false,c1,c2,decide_true]
   rw [hF,if_pos (.inr (.inl (by omega)))]
   exact ⟨rfl,hx⟩
  by_cases c3 : (55296 : Int) ≤ (m : Int)
  ·by_cases c4 : (m : Int) ≤ 57343
   ·simp (disch := first | assumption | simp) only [↓wbD,wbU,↓aop,↓reduceIte,Nat.reduceEqDiff,Nat.reduceLT,reduceCtorEq,goInt,pairs,f3,f5,f24,f25,f4,hlt,decide_false,c1,c2,c3,c4,decide_true]
    rw [hF,if_pos (.inr (.inr ⟨by omega,by omega⟩))]
    exact ⟨rfl,hx⟩
   ·simp (disch := first | assumption | simp) only [↓wbD,wbU,↓aop,↓reduceIte,Nat.reduceEqDiff,Nat.reduceLT,reduceCtorEq,goInt,pairs,f3,f5,f24,f25,f4,hlt,decide_false,c1,c2,c3,c4,decide_true,hw]
    rw [hF,if_neg (by unfold bad; omega)]
    exact ⟨rfl,hx⟩
  ·simp (disch := first | assumption | simp) only [↓wbD,wbU,↓aop,↓reduceIte,Nat.reduceEqDiff,Nat.reduceLT,reduceCtorEq,goInt,pairs,f3,f5,f24,f25,f4,hlt,decide_false,c1,c2,c3,decide_true,hw]
   rw [hF,if_neg (by unfold bad; omega)]
   exact ⟨rfl,hx⟩

set_option maxRecDepth 100000
set_option maxHeartbeats 1000000
set_option linter.unusedSimpArgs false
set_option linter.unusedVariables false
def encU (N : Nat) : List Nat :=
 if N < 128 then [N] else if N < 2048 then [192 + N / 64,128 + N % 64] else if N < 65536 then [224 + N / 4096,128 + N / 64 % 64,128 + N % 64] else [240 + N / 262144,128 + N / 4096 % 64,128 + N / 64 % 64,128 + N % 64]
def okN (n : Int) : Prop := 1 ≤ n ∧ n ≤ 1114111 ∧ ¬ (55296 ≤ n ∧ n ≤ 57343)
instance (n : Int) : Decidable (okN n) := inferInstanceAs (Decidable (_ ∧ _))
def bytesF (n : Int) : ByteArray := if okN n then str (encU n.toNat) else emp
theorem bld1 {H : AHeap} {a : Nat} : abuildSlice E H 162 1 [(0,.int .u8 (a : Int))] = some (.slice (some ⟨H.size,0,some 1⟩) 1 1,H.alloc (.cells (u8s [a]) true 1)) := by
 simp [dpB,abuildSlice,ty162,ty5,azero,lfill,reps,splice,vcells,ZV.val,u8s]
theorem bld2 {H : AHeap} {a b : Nat} : abuildSlice E H 162 2 [(0,.int .u8 (a : Int)),(1,.int .u8 (b : Int))] = some (.slice (some ⟨H.size,0,some 1⟩) 2 2,H.alloc (.cells (u8s [a,b]) true 1)) := by
 simp [dpB,abuildSlice,ty162,ty5,azero,lfill,reps,splice,vcells,ZV.val,u8s]
theorem bld3 {H : AHeap} {a b c : Nat} : abuildSlice E H 162 3 [(0,.int .u8 (a : Int)),(1,.int .u8 (b : Int)),(2,.int .u8 (c : Int))] = some (.slice (some ⟨H.size,0,some 1⟩) 3 3,H.alloc (.cells (u8s [a,b,c]) true 1)) := by
 simp [dpB,abuildSlice,ty162,ty5,azero,lfill,reps,splice,vcells,ZV.val,u8s]
theorem bld4 {H : AHeap} {a b c d : Nat} : abuildSlice E H 162 4 [(0,.int .u8 (a : Int)),(1,.int .u8 (b : Int)),(2,.int .u8 (c : Int)),(3,.int .u8 (d : Int))] = some (.slice (some ⟨H.size,0,some 1⟩) 4 4,H.alloc (.cells (u8s [a,b,c,d]) true 1)) := by
 simp [dpB,abuildSlice,ty162,ty5,azero,lfill,reps,splice,vcells,ZV.val,u8s]
theorem quoN {a b : Nat} (ha : a < 2 ^ 40) (hb : 0 < b) : aint .quo .i64 (a : Int) (b : Int) = some (.int .i64 ((a / b : Nat) : Int)) := by
 rw [quo_pos (by omega) (by omega) (by omega)]; rfl
theorem remN {a b : Nat} (hb : 0 < b) : aint .rem .i64 (a : Int) (b : Int) = some (.int .i64 ((a % b : Nat) : Int)) := by
 rw [rem_pos (by omega) (by omega)]; rfl
theorem addN {a b : Nat} (ha : a < 2 ^ 40) (hb : b < 2 ^ 40) : IntKind.i64.wrap ((a : Int) + (b : Int)) = ((a + b : Nat) : Int) := by
 rw [wrap64 ⟨by omega,by omega⟩]; rfl
theorem spec277 {n : Int} {H : AHeap} : CallW E 277 [.int .i64 n] H fun r H' => r = .string (bytesF n) ∧ Ext H H' := by
 refine wcall277 (by simp) ?_
 simp only [strip,bodyOf,Tryz.f277,getD_body,keepN,bareOp_mk,lessOp_mk,lapp_cons,lapp_nil,List.map_cons,List.map_nil,array_toList,↓reduceIte,Nat.reduceEqDiff,Bool.false_eq_true]
 have no : ∀ {r : Value} ,¬ okN n → r = .string emp → (r = .string (bytesF n)) := fun h1 h2 => by rw [h2,bytesF,if_neg h1]
 by_cases h1 : n < 1
 ·simp (disch := first | assumption | simp) only [↓wbD,wbU,↓aop,↓reduceIte,Nat.reduceEqDiff,Nat.reduceLT,reduceCtorEq,goInt,pairs,h1,decide_true]
  exact ⟨no (by unfold okN; omega) rfl,Ext.refl _⟩
 by_cases h2 : 1114111 < n
 ·simp (disch := first | assumption | simp) only [↓wbD,wbU,↓aop,↓reduceIte,Nat.reduceEqDiff,Nat.reduceLT,reduceCtorEq,goInt,pairs,h1,h2,decide_true,decide_false]
  exact ⟨no (by unfold okN; omega) rfl,Ext.refl _⟩
 have fin : ∀ {l : List Nat} {K : AHeap} {b k : Nat},okN n → encU n.toNat = l → k = l.length → K.get b = .cells (u8s l) true 1 → Ext H K → ∀ c ex,aconvert E K 162 9 (.slice (some ⟨b,0,ex⟩) k c) = some (.string (bytesF n),K) := fun h3 h4 h5 h6 h7 c ex => by
  rw [conv_str h6 h5,bytesF,if_pos h3,h4]
 obtain ⟨N,rfl⟩ : ∃ N : Nat,n = N := ⟨n.toNat,by omega⟩
 simp only [Int.toNat_natCast] at fin
 have rest : okN (N : Int) → (∀ (f : Nat → Value),f 0 = .int .i64 (N : Int) → True) := fun _ _ _ => trivial
 have q64 := quoN (a := N) (b := 64) (by omega) (by omega)
 have q4096 := quoN (a := N) (b := 4096) (by omega) (by omega)
 have q262144 := quoN (a := N) (b := 262144) (by omega) (by omega)
 have r64 := remN (a := N) (b := 64) (by omega)
 have r64a := remN (a := N / 64) (b := 64) (by omega)
 have r64b := remN (a := N / 4096) (b := 64) (by omega)
 have a1 := addN (a := 192) (b := N / 64) (by omega) (by omega)
 have a2 := addN (a := 128) (b := N % 64) (by omega) (by omega)
 have a3 := addN (a := 224) (b := N / 4096) (by omega) (by omega)
 have a4 := addN (a := 128) (b := N / 64 % 64) (by omega) (by omega)
 have a5 := addN (a := 240) (b := N / 262144) (by omega) (by omega)
 have a6 := addN (a := 128) (b := N / 4096 % 64) (by omega) (by omega)
 have ext : ∀ o,Ext H (H.alloc o) := fun o => Ext.alloc _ _
 have gs : ∀ o,(H.alloc o).get H.size = o := fun o => AHeap.get_alloc_same _ _
 have body : ∀ (ok : okN (N : Int)) (h3 : decide ((55296 : Int) ≤ (N : Int) ∧ (N : Int) ≤ 57343) = false),True := fun _ _ => trivial
 by_cases h3 : (55296 : Int) ≤ (N : Int)
 ·by_cases h4 : (N : Int) ≤ 57343
  ·simp (disch := first | assumption | simp) only [↓wbD,wbU,↓aop,↓reduceIte,Nat.reduceEqDiff,Nat.reduceLT,reduceCtorEq,goInt,pairs,h1,h2,h3,h4,decide_true,decide_false]
   exact ⟨no (by unfold okN; omega) rfl,Ext.refl _⟩
  ·have ok : okN (N : Int) := by unfold okN; omega
   have c1 : ¬ (N : Int) < 128 := by omega
   have c2 : ¬ (N : Int) < 2048 := by omega
   by_cases c3 : (N : Int) < 65536
   ·have hl : encU N = [224 + N / 4096,128 + N / 64 % 64,128 + N % 64] := by unfold encU; rw [if_neg (by omega),if_neg (by omega),if_pos (by omega)]
    simp (disch := first | assumption | simp) only [↓wbD,wbU,↓aop,↓reduceIte,Nat.reduceEqDiff,Nat.reduceLT,reduceCtorEq,goInt,pairs,h1,h2,h3,h4,c1,c2,c3,decide_true,decide_false,show aint .quo .i64 (N : Int) 4096 = _ from q4096,show aint .quo .i64 (N : Int) 64 = _ from q64,show aint .rem .i64 (N : Int) 64 = _ from r64,show aint .rem .i64 ((N / 64 : Nat) : Int) 64 = _ from r64a,show IntKind.i64.wrap (224 + ((N / 4096 : Nat) : Int)) = _ from a3,show IntKind.i64.wrap (128 + ((N / 64 % 64 : Nat) : Int)) = _ from a4,show IntKind.i64.wrap (128 + ((N % 64 : Nat) : Int)) = _ from a2,conv_u8 (show 224 + N / 4096 < 256 by omega),conv_u8 (show 128 + N / 64 % 64 < 256 by omega),conv_u8 (show 128 + N % 64 < 256 by omega),bld3]
    simp (disch := first | assumption | simp) only [↓wbD,wbU,↓aop,↓reduceIte,Nat.reduceEqDiff,Nat.reduceLT,reduceCtorEq,goInt,pairs,fin (k := 3) ok hl rfl (gs _) (ext _)]
    exact ext _
   ·have hl : encU N = [240 + N / 262144,128 + N / 4096 % 64,128 + N / 64 % 64,128 + N % 64] := by unfold encU; rw [if_neg (by omega),if_neg (by omega),if_neg (by omega)]
    simp (disch := first | assumption | simp) only [↓wbD,wbU,↓aop,↓reduceIte,Nat.reduceEqDiff,Nat.reduceLT,reduceCtorEq,goInt,pairs,h1,h2,h3,h4,c1,c2,c3,decide_true,decide_false,show aint .quo .i64 (N : Int) 262144 = _ from q262144,show aint .quo .i64 (N : Int) 4096 = _ from q4096,show aint .quo .i64 (N : Int) 64 = _ from q64,show aint .rem .i64 (N : Int) 64 = _ from r64,show aint .rem .i64 ((N / 64 : Nat) : Int) 64 = _ from r64a,show aint .rem .i64 ((N / 4096 : Nat) : Int) 64 = _ from r64b,show IntKind.i64.wrap (240 + ((N / 262144 : Nat) : Int)) = _ from a5,show IntKind.i64.wrap (128 + ((N / 4096 % 64 : Nat) : Int)) = _ from a6,show IntKind.i64.wrap (128 + ((N / 64 % 64 : Nat) : Int)) = _ from a4,show IntKind.i64.wrap (128 + ((N % 64 : Nat) : Int)) = _ from a2,conv_u8 (show 240 + N / 262144 < 256 by omega),conv_u8 (show 128 + N / 4096 % 64 < 256 by omega),conv_u8 (show 128 + N / 64 % 64 < 256 by omega),conv_u8 (show 128 + N % 64 < 256 by omega),bld4]
    simp (disch := first | assumption | simp) only [↓wbD,wbU,↓aop,↓reduceIte,Nat.reduceEqDiff,Nat.reduceLT,reduceCtorEq,goInt,pairs,fin (k := 4) ok hl rfl (gs _) (ext _)]
    exact ext _
 ·have ok : okN (N : Int) := by unfold okN; omega
  by_cases c1 : (N : Int) < 128
  ·have hl : encU N = [N] := by unfold encU; rw [if_pos (by omega)]
   simp (disch := first | assumption | simp) only [↓wbD,wbU,↓aop,↓reduceIte,Nat.reduceEqDiff,Nat.reduceLT,reduceCtorEq,goInt,pairs,h1,h2,h3,c1,decide_true,decide_false,conv_u8 (show N < 256 by omega),bld1]
   simp (disch := first | assumption | simp) only [↓wbD,wbU,↓aop,↓reduceIte,Nat.reduceEqDiff,Nat.reduceLT,reduceCtorEq,goInt,pairs,fin (k := 1) ok hl rfl (gs _) (ext _)]
   exact ext _
  by_cases c2 : (N : Int) < 2048
  ·have hl : encU N = [192 + N / 64,128 + N % 64] := by unfold encU; rw [if_neg (by omega),if_pos (by omega)]
   simp (disch := first | assumption | simp) only [↓wbD,wbU,↓aop,↓reduceIte,Nat.reduceEqDiff,Nat.reduceLT,reduceCtorEq,goInt,pairs,h1,h2,h3,c1,c2,decide_true,decide_false,show aint .quo .i64 (N : Int) 64 = _ from q64,show aint .rem .i64 (N : Int) 64 = _ from r64,show IntKind.i64.wrap (192 + ((N / 64 : Nat) : Int)) = _ from a1,show IntKind.i64.wrap (128 + ((N % 64 : Nat) : Int)) = _ from a2,conv_u8 (show 192 + N / 64 < 256 by omega),conv_u8 (show 128 + N % 64 < 256 by omega),bld2]
   simp (disch := first | assumption | simp) only [↓wbD,wbU,↓aop,↓reduceIte,Nat.reduceEqDiff,Nat.reduceLT,reduceCtorEq,goInt,pairs,fin (k := 2) ok hl rfl (gs _) (ext _)]
   exact ext _
  ·have c3 : (N : Int) < 65536 := by omega
   have hl : encU N = [224 + N / 4096,128 + N / 64 % 64,128 + N % 64] := by unfold encU; rw [if_neg (by omega),if_neg (by omega),if_pos (by omega)]
   simp (disch := first | assumption | simp) only [↓wbD,wbU,↓aop,↓reduceIte,Nat.reduceEqDiff,Nat.reduceLT,reduceCtorEq,goInt,pairs,h1,h2,h3,c1,c2,c3,decide_true,decide_false,show aint .quo .i64 (N : Int) 4096 = _ from q4096,show aint .quo .i64 (N : Int) 64 = _ from q64,show aint .rem .i64 (N : Int) 64 = _ from r64,show aint .rem .i64 ((N / 64 : Nat) : Int) 64 = _ from r64a,show IntKind.i64.wrap (224 + ((N / 4096 : Nat) : Int)) = _ from a3,show IntKind.i64.wrap (128 + ((N / 64 % 64 : Nat) : Int)) = _ from a4,show IntKind.i64.wrap (128 + ((N % 64 : Nat) : Int)) = _ from a2,conv_u8 (show 224 + N / 4096 < 256 by omega),conv_u8 (show 128 + N / 64 % 64 < 256 by omega),conv_u8 (show 128 + N % 64 < 256 by omega),bld3]
   simp (disch := first | assumption | simp) only [↓wbD,wbU,↓aop,↓reduceIte,Nat.reduceEqDiff,Nat.reduceLT,reduceCtorEq,goInt,pairs,fin (k := 3) ok hl rfl (gs _) (ext _)]
   exact ext _

set_option maxRecDepth 100000
set_option maxHeartbeats 1000000
set_option linter.unusedSimpArgs false
set_option linter.unusedVariables false
def nacc (u : ByteArray) (x : Int) : Nat → Int
 | 0 => x
 | k + 1 => 64 * nacc u x k + (bt u (k + 1) : Int) - 128
def numF (u : ByteArray) (m : Nat) : Int := if m = 1 then (bt u 0 : Int) else nacc u ((bt u 0 : Int) - (if m = 2 then 192 else if m = 3 then 224 else 240)) (m - 1)
theorem nacc_bd (u : ByteArray) {x : Int} (hx : -256 ≤ x ∧ x ≤ 256) : ∀ k,k ≤ 3 → -200000000 ≤ nacc u x k ∧ nacc u x k ≤ 200000000 := by
 intro k hk
 have b1 := bt_lt u 1
 have b2 := bt_lt u 2
 have b3 := bt_lt u 3
 rcases (by omega : k = 0 ∨ k = 1 ∨ k = 2 ∨ k = 3) with rfl | rfl | rfl | rfl <;> simp only [nacc,Nat.zero_add,Nat.reduceAdd] <;> omega
theorem spec278 {u : ByteArray} {m : Nat} {H : AHeap} (h1 : 1 ≤ m) (h4 : m ≤ 4) (hs : m ≤ u.size) : CallW E 278 [.string u,.int .i64 (m : Int)] H fun r H' => r = .int .i64 (numF u m) ∧ H' = H := by
 refine wcall278 (by simp) ?_
 simp only [strip,bodyOf,Tryz.f278,getD_body,keepN,bareOp_mk,lessOp_mk,lapp_cons,lapp_nil,List.map_cons,List.map_nil,array_toList,↓reduceIte,Nat.reduceEqDiff,Bool.false_eq_true]
 have hix : aindex E 9 (.string u) (.int .i64 0) = some (.int .u8 ((bt u 0 : Nat) : Int)) := idx_str (s := u) (i := 0) (by omega)
 have hc := bt_lt u 0
 by_cases m1 : m = 1
 ·have d1 : decide ((m : Int) = 1) = true := by rw [m1]; rfl
  simp (disch := first | assumption | simp) only [↓wbD,wbU,↓aop,↓reduceIte,Nat.reduceEqDiff,Nat.reduceLT,reduceCtorEq,goInt,pairs,d1,hix,conv_i64 hc]
  exact ⟨by simp [numF,m1],trivial⟩
 have d1 : decide ((m : Int) = 1) = false := by rw [decide_eq_false_iff_not]; omega
 by_cases m2 : m = 2
 ·have d2 : decide ((m : Int) = 2) = true := by rw [m2]; rfl
  have hw : IntKind.i64.wrap (((bt u 0 : Nat) : Int) - 192) = ((bt u 0 : Nat) : Int) - 192 := wrap64 ⟨by omega,by omega⟩
  have hn : numF u m = nacc u ((bt u 0 : Int) - 192) (m - 1) := by simp [numF,m2]
  simp (disch := first | assumption | simp) only [↓wbD,wbU,↓aop,↓reduceIte,Nat.reduceEqDiff,Nat.reduceLT,reduceCtorEq,goInt,pairs,d1,d2,hix,conv_i64 hc,hw]
  have hx : -256 ≤ (bt u 0 : Int) - 192 ∧ (bt u 0 : Int) - 192 ≤ 256 := by omega
  generalize (bt u 0 : Int) - 192 = x at hn hx ⊢
  refine W_loop (fun f H' => H' = H ∧ f 0 = .string u ∧ f 1 = .int .i64 (m : Int) ∧ ∃ k : Nat,k < m ∧ f 6 = .int .i64 ((k + 1 : Nat) : Int) ∧ f 5 = .int .i64 (nacc u x k)) (fun f _ => match f 6 with | .int _ j => m - j.toNat | _ => 0) ?_ ?_
  ·simp (disch := first | assumption | simp) only [↓wbD,wbU,↓aop,↓reduceIte,Nat.reduceEqDiff,Nat.reduceLT,reduceCtorEq,goInt,pairs]
   exact ⟨0,by omega,rfl,rfl⟩
  rintro f H ⟨rfl,f0,f1,k,hk,f6,f5⟩
  by_cases hlt : ((k + 1 : Nat) : Int) < (m : Int)
  ·have hsz : ((k + 1 : Nat) : Int) < (u.size : Int) := by omega
   have bd := nacc_bd u hx k (by omega)
   have bd2 := nacc_bd u hx (k + 1) (by omega)
   have hb := bt_lt u (k + 1)
   have w1 : IntKind.i64.wrap (64 * nacc u x k) = 64 * nacc u x k := wrap64 ⟨by omega,by omega⟩
   have w2 : IntKind.i64.wrap (64 * nacc u x k + ((bt u (k + 1) : Nat) : Int)) = 64 * nacc u x k + ((bt u (k + 1) : Nat) : Int) := wrap64 ⟨by omega,by omega⟩
   have w3 : IntKind.i64.wrap (64 * nacc u x k + ((bt u (k + 1) : Nat) : Int) - 128) = nacc u x (k + 1) := by rw [wrap64 ⟨by omega,by omega⟩]; rfl
   have hw := wrap_suc (n := k + 1) (by omega)
   simp (disch := first | assumption | simp) only [↓wbD,wbU,↓aop,↓reduceIte,Nat.reduceEqDiff,Nat.reduceLT,reduceCtorEq,goInt,pairs,f0,f1,f5,f6,hlt,hsz,decide_true,len_str ty9,aint_mul,w1,idx_str (s := u) (i := k + 1) (by omega),conv_i64 hb,w2,w3,hw]
   refine ⟨_,rfl,⟨?_,?_,k + 1,by omega,?_,?_⟩,?_⟩
   ·simp (disch := first | assumption | simp) only [↓wbD,wbU,↓aop,↓reduceIte,Nat.reduceEqDiff,Nat.reduceLT,reduceCtorEq,goInt,pairs,f0]
   ·simp (disch := first | assumption | simp) only [↓wbD,wbU,↓aop,↓reduceIte,Nat.reduceEqDiff,Nat.reduceLT,reduceCtorEq,goInt,pairs,f1]
   ·simp (disch := first | assumption | simp) only [↓wbD,wbU,↓aop,↓reduceIte,Nat.reduceEqDiff,Nat.reduceLT,reduceCtorEq,goInt,pairs]
   ·simp (disch := first | assumption | simp) only [↓wbD,wbU,↓aop,↓reduceIte,Nat.reduceEqDiff,Nat.reduceLT,reduceCtorEq,goInt,pairs]
   ·simp (disch := first | assumption | simp) only [↓wbD,wbU,↓aop,↓reduceIte,Nat.reduceEqDiff,Nat.reduceLT,reduceCtorEq,goInt,pairs,f6]
    simp; omega
  ·obtain rfl : m = k + 1 := by omega
   simp (disch := first | assumption | simp) only [↓wbD,wbU,↓aop,↓reduceIte,Nat.reduceEqDiff,Nat.reduceLT,reduceCtorEq,goInt,pairs,f0,f1,f5,f6,hlt,decide_false]
   rw [hn]; exact ⟨rfl,trivial⟩
 have d2 : decide ((m : Int) = 2) = false := by rw [decide_eq_false_iff_not]; omega
 by_cases m3 : m = 3
 ·have d3 : decide ((m : Int) = 3) = true := by rw [m3]; rfl
  have hw : IntKind.i64.wrap (((bt u 0 : Nat) : Int) - 224) = ((bt u 0 : Nat) : Int) - 224 := wrap64 ⟨by omega,by omega⟩
  have hn : numF u m = nacc u ((bt u 0 : Int) - 224) (m - 1) := by simp [numF,m3]
  simp (disch := first | assumption | simp) only [↓wbD,wbU,↓aop,↓reduceIte,Nat.reduceEqDiff,Nat.reduceLT,reduceCtorEq,goInt,pairs,d1,d2,d3,hix,conv_i64 hc,hw]
  have hx : -256 ≤ (bt u 0 : Int) - 224 ∧ (bt u 0 : Int) - 224 ≤ 256 := by omega
  generalize (bt u 0 : Int) - 224 = x at hn hx ⊢
  refine W_loop (fun f H' => H' = H ∧ f 0 = .string u ∧ f 1 = .int .i64 (m : Int) ∧ ∃ k : Nat,k < m ∧ f 6 = .int .i64 ((k + 1 : Nat) : Int) ∧ f 5 = .int .i64 (nacc u x k)) (fun f _ => match f 6 with | .int _ j => m - j.toNat | _ => 0) ?_ ?_
  ·simp (disch := first | assumption | simp) only [↓wbD,wbU,↓aop,↓reduceIte,Nat.reduceEqDiff,Nat.reduceLT,reduceCtorEq,goInt,pairs]
   exact ⟨0,by omega,rfl,rfl⟩
  rintro f H ⟨rfl,f0,f1,k,hk,f6,f5⟩
  by_cases hlt : ((k + 1 : Nat) : Int) < (m : Int)
  ·have hsz : ((k + 1 : Nat) : Int) < (u.size : Int) := by omega
   have bd := nacc_bd u hx k (by omega)
   have bd2 := nacc_bd u hx (k + 1) (by omega)
   have hb := bt_lt u (k + 1)
   have w1 : IntKind.i64.wrap (64 * nacc u x k) = 64 * nacc u x k := wrap64 ⟨by omega,by omega⟩
   have w2 : IntKind.i64.wrap (64 * nacc u x k + ((bt u (k + 1) : Nat) : Int)) = 64 * nacc u x k + ((bt u (k + 1) : Nat) : Int) := wrap64 ⟨by omega,by omega⟩
   have w3 : IntKind.i64.wrap (64 * nacc u x k + ((bt u (k + 1) : Nat) : Int) - 128) = nacc u x (k + 1) := by rw [wrap64 ⟨by omega,by omega⟩]; rfl
   have hw := wrap_suc (n := k + 1) (by omega)
   simp (disch := first | assumption | simp) only [↓wbD,wbU,↓aop,↓reduceIte,Nat.reduceEqDiff,Nat.reduceLT,reduceCtorEq,goInt,pairs,f0,f1,f5,f6,hlt,hsz,decide_true,len_str ty9,aint_mul,w1,idx_str (s := u) (i := k + 1) (by omega),conv_i64 hb,w2,w3,hw]
   refine ⟨_,rfl,⟨?_,?_,k + 1,by omega,?_,?_⟩,?_⟩
   ·simp (disch := first | assumption | simp) only [↓wbD,wbU,↓aop,↓reduceIte,Nat.reduceEqDiff,Nat.reduceLT,reduceCtorEq,goInt,pairs,f0]
   ·simp (disch := first | assumption | simp) only [↓wbD,wbU,↓aop,↓reduceIte,Nat.reduceEqDiff,Nat.reduceLT,reduceCtorEq,goInt,pairs,f1]
   ·simp (disch := first | assumption | simp) only [↓wbD,wbU,↓aop,↓reduceIte,Nat.reduceEqDiff,Nat.reduceLT,reduceCtorEq,goInt,pairs]
   ·simp (disch := first | assumption | simp) only [↓wbD,wbU,↓aop,↓reduceIte,Nat.reduceEqDiff,Nat.reduceLT,reduceCtorEq,goInt,pairs]
   ·simp (disch := first | assumption | simp) only [↓wbD,wbU,↓aop,↓reduceIte,Nat.reduceEqDiff,Nat.reduceLT,reduceCtorEq,goInt,pairs,f6]
    simp; omega
  ·obtain rfl : m = k + 1 := by omega
   simp (disch := first | assumption | simp) only [↓wbD,wbU,↓aop,↓reduceIte,Nat.reduceEqDiff,Nat.reduceLT,reduceCtorEq,goInt,pairs,f0,f1,f5,f6,hlt,decide_false]
   rw [hn]; exact ⟨rfl,trivial⟩
 have d3 : decide ((m : Int) = 3) = false := by rw [decide_eq_false_iff_not]; omega
 have d4 : decide ((m : Int) = 4) = true := by rw [decide_eq_true_eq]; omega
 have hw : IntKind.i64.wrap (((bt u 0 : Nat) : Int) - 240) = ((bt u 0 : Nat) : Int) - 240 := wrap64 ⟨by omega,by omega⟩
 have hn : numF u m = nacc u ((bt u 0 : Int) - 240) (m - 1) := by simp [numF,m1,m2,m3]
 simp (disch := first | assumption | simp) only [↓wbD,wbU,↓aop,↓reduceIte,Nat.reduceEqDiff,Nat.reduceLT,reduceCtorEq,goInt,pairs,d1,d2,d3,d4,hix,conv_i64 hc,hw]
 have hx : -256 ≤ (bt u 0 : Int) - 240 ∧ (bt u 0 : Int) - 240 ≤ 256 := by omega
 generalize (bt u 0 : Int) - 240 = x at hn hx ⊢
 refine W_loop (fun f H' => H' = H ∧ f 0 = .string u ∧ f 1 = .int .i64 (m : Int) ∧ ∃ k : Nat,k < m ∧ f 6 = .int .i64 ((k + 1 : Nat) : Int) ∧ f 5 = .int .i64 (nacc u x k)) (fun f _ => match f 6 with | .int _ j => m - j.toNat | _ => 0) ?_ ?_
 ·simp (disch := first | assumption | simp) only [↓wbD,wbU,↓aop,↓reduceIte,Nat.reduceEqDiff,Nat.reduceLT,reduceCtorEq,goInt,pairs]
  exact ⟨0,by omega,rfl,rfl⟩
 rintro f H ⟨rfl,f0,f1,k,hk,f6,f5⟩
 by_cases hlt : ((k + 1 : Nat) : Int) < (m : Int)
 ·have hsz : ((k + 1 : Nat) : Int) < (u.size : Int) := by omega
  have bd := nacc_bd u hx k (by omega)
  have bd2 := nacc_bd u hx (k + 1) (by omega)
  have hb := bt_lt u (k + 1)
  have w1 : IntKind.i64.wrap (64 * nacc u x k) = 64 * nacc u x k := wrap64 ⟨by omega,by omega⟩
  have w2 : IntKind.i64.wrap (64 * nacc u x k + ((bt u (k + 1) : Nat) : Int)) = 64 * nacc u x k + ((bt u (k + 1) : Nat) : Int) := wrap64 ⟨by omega,by omega⟩
  have w3 : IntKind.i64.wrap (64 * nacc u x k + ((bt u (k + 1) : Nat) : Int) - 128) = nacc u x (k + 1) := by rw [wrap64 ⟨by omega,by omega⟩]; rfl
  have hw := wrap_suc (n := k + 1) (by omega)
  simp (disch := first | assumption | simp) only [↓wbD,wbU,↓aop,↓reduceIte,Nat.reduceEqDiff,Nat.reduceLT,reduceCtorEq,goInt,pairs,f0,f1,f5,f6,hlt,hsz,decide_true,len_str ty9,aint_mul,w1,idx_str (s := u) (i := k + 1) (by omega),conv_i64 hb,w2,w3,hw]
  refine ⟨_,rfl,⟨?_,?_,k + 1,by omega,?_,?_⟩,?_⟩
  ·simp (disch := first | assumption | simp) only [↓wbD,wbU,↓aop,↓reduceIte,Nat.reduceEqDiff,Nat.reduceLT,reduceCtorEq,goInt,pairs,f0]
  ·simp (disch := first | assumption | simp) only [↓wbD,wbU,↓aop,↓reduceIte,Nat.reduceEqDiff,Nat.reduceLT,reduceCtorEq,goInt,pairs,f1]
  ·simp (disch := first | assumption | simp) only [↓wbD,wbU,↓aop,↓reduceIte,Nat.reduceEqDiff,Nat.reduceLT,reduceCtorEq,goInt,pairs]
  ·simp (disch := first | assumption | simp) only [↓wbD,wbU,↓aop,↓reduceIte,Nat.reduceEqDiff,Nat.reduceLT,reduceCtorEq,goInt,pairs]
  ·simp (disch := first | assumption | simp) only [↓wbD,wbU,↓aop,↓reduceIte,Nat.reduceEqDiff,Nat.reduceLT,reduceCtorEq,goInt,pairs,f6]
   simp; omega
 ·obtain rfl : m = k + 1 := by omega
  simp (disch := first | assumption | simp) only [↓wbD,wbU,↓aop,↓reduceIte,Nat.reduceEqDiff,Nat.reduceLT,reduceCtorEq,goInt,pairs,f0,f1,f5,f6,hlt,decide_false]
  rw [hn]; exact ⟨rfl,trivial⟩
def R (u : ByteArray) (m : Nat) : Prop := m ≤ u.size ∧ bytesF (numF u m) ≠ emp ∧ bytesF (numF u m) = u.extract 0 m
instance (u : ByteArray) (m : Nat) : Decidable (R u m) := inferInstanceAs (Decidable (_ ∧ _))
theorem spec266 {u : ByteArray} {H : AHeap} (hs : u.size ≤ 100000) : CallW E 266 [.string u] H fun r H' => (∃ m : Nat,r = .int .i64 (m : Int) ∧ ((1 ≤ m ∧ m ≤ 4 ∧ R u m) ∨ (m = 0 ∧ ∀ j,1 ≤ j → j ≤ 4 → ¬ R u j))) ∧ Ext H H' := by
 refine wcall266 (by simp) ?_
 simp only [strip,bodyOf,Tryz.f266,getD_body,keepN,bareOp_mk,lessOp_mk,lapp_cons,lapp_nil,List.map_cons,List.map_nil,array_toList,↓reduceIte,Nat.reduceEqDiff,Bool.false_eq_true]
 simp (disch := first | assumption | simp) only [↓wbD,wbU,↓aop,↓reduceIte,Nat.reduceEqDiff,Nat.reduceLT,reduceCtorEq,goInt,pairs]
 refine W_loop (fun f H' => Ext H H' ∧ f 0 = .string u ∧ ∃ k : Nat,1 ≤ k ∧ k ≤ 5 ∧ f 3 = .int .i64 (k : Int) ∧ ∀ j,1 ≤ j → j < k → ¬ R u j) (fun f _ => match f 3 with | .int _ j => 5 - j.toNat | _ => 0) ?_ ?_
 ·simp (disch := first | assumption | simp) only [↓wbD,wbU,↓aop,↓reduceIte,Nat.reduceEqDiff,Nat.reduceLT,reduceCtorEq,goInt,pairs]
  exact ⟨Ext.refl _,1,by omega,by omega,rfl,fun j h1 h2 => by omega⟩
 rintro f H1 ⟨hx,f0,k,k1,k5,f3,hno⟩
 by_cases h4 : (k : Int) ≤ 4
 ·by_cases hsz : (k : Int) ≤ (u.size : Int)
  ·simp (disch := first | assumption | simp) only [↓wbD,wbU,↓aop,↓reduceIte,Nat.reduceEqDiff,Nat.reduceLT,reduceCtorEq,goInt,pairs,f0,f3,h4,hsz,decide_true,len_str ty9]
   refine (spec278 k1 (by omega) (by omega)).mono ?_
   rintro r H1 ⟨rfl,rfl⟩
   simp (disch := first | assumption | simp) only [↓wbD,wbU,↓aop,↓reduceIte,Nat.reduceEqDiff,Nat.reduceLT,reduceCtorEq,goInt,pairs]
   refine spec277.mono ?_
   rintro r H2 ⟨rfl,hx2⟩
   have hw := wrap_suc (n := k) (by omega)
   by_cases he : bytesF (numF u k) = ⟨#[]⟩
   ·simp (disch := first | assumption | simp) only [↓wbD,wbU,↓aop,↓reduceIte,Nat.reduceEqDiff,Nat.reduceLT,reduceCtorEq,goInt,pairs,f0,f3,he,not_true_eq_false,decide_false,hw]
    refine ⟨_,rfl,⟨hx.trans hx2,?_,k + 1,by omega,by omega,?_,fun j j1 j2 => ?_⟩,?_⟩
    ·simp (disch := first | assumption | simp) only [↓wbD,wbU,↓aop,↓reduceIte,Nat.reduceEqDiff,Nat.reduceLT,reduceCtorEq,goInt,pairs,f0]
    ·simp (disch := first | assumption | simp) only [↓wbD,wbU,↓aop,↓reduceIte,Nat.reduceEqDiff,Nat.reduceLT,reduceCtorEq,goInt,pairs]
    ·by_cases hjk : j = k
     ·subst hjk; exact fun h => h.2.1 he
     ·exact hno j j1 (by omega)
    ·simp (disch := first | assumption | simp) only [↓wbD,wbU,↓aop,↓reduceIte,Nat.reduceEqDiff,Nat.reduceLT,reduceCtorEq,goInt,pairs,f3]
     simp; omega
   ·have hsl := slice_to (E := E) (H := H2) ty9 (s := u) (k := k) (by omega)
    by_cases hq : bytesF (numF u k) = u.extract 0 k
    ·simp (disch := first | assumption | simp) only [↓wbD,wbU,↓aop,↓reduceIte,Nat.reduceEqDiff,Nat.reduceLT,reduceCtorEq,goInt,pairs,f0,f3,he,not_false_eq_true,decide_true,hsl,decide_eq_true hq]
     exact ⟨⟨k,rfl,.inl ⟨k1,by omega,by omega,he,hq⟩⟩,hx.trans hx2⟩
    ·simp (disch := first | assumption | simp) only [↓wbD,wbU,↓aop,↓reduceIte,Nat.reduceEqDiff,Nat.reduceLT,reduceCtorEq,goInt,pairs,f0,f3,he,not_false_eq_true,decide_true,hsl,decide_eq_false hq,hw]
     refine ⟨_,rfl,⟨hx.trans hx2,?_,k + 1,by omega,by omega,?_,fun j j1 j2 => ?_⟩,?_⟩
     ·simp (disch := first | assumption | simp) only [↓wbD,wbU,↓aop,↓reduceIte,Nat.reduceEqDiff,Nat.reduceLT,reduceCtorEq,goInt,pairs,f0]
     ·simp (disch := first | assumption | simp) only [↓wbD,wbU,↓aop,↓reduceIte,Nat.reduceEqDiff,Nat.reduceLT,reduceCtorEq,goInt,pairs]
     ·by_cases hjk : j = k
      ·subst hjk; exact fun h => hq h.2.2
      ·exact hno j j1 (by omega)
     ·simp (disch := first | assumption | simp) only [↓wbD,wbU,↓aop,↓reduceIte,Nat.reduceEqDiff,Nat.reduceLT,reduceCtorEq,goInt,pairs,f3]
      simp; omega
  ·simp (disch := first | assumption | simp) only [↓wbD,wbU,↓aop,↓reduceIte,Nat.reduceEqDiff,Nat.reduceLT,reduceCtorEq,goInt,pairs,f0,f3,h4,hsz,decide_true,decide_false,len_str ty9]
   refine ⟨⟨0,rfl,.inr ⟨rfl,fun j j1 j4 h => ?_⟩⟩,hx⟩
   by_cases hjk : j < k
   ·exact hno j j1 hjk h
   ·have := h.1; omega
 ·simp (disch := first | assumption | simp) only [↓wbD,wbU,↓aop,↓reduceIte,Nat.reduceEqDiff,Nat.reduceLT,reduceCtorEq,goInt,pairs,f0,f3,h4,decide_false]
  exact ⟨⟨0,rfl,.inr ⟨rfl,fun j j1 j4 h => hno j j1 (by omega) h⟩⟩,hx⟩
end Go.Proofs.YtkhcbbpfchgemaaGreatDoor.AbsA
