/-
  Parts of a law's proof.
-/
import Derived.Test.YtkhcbbpfchgemaaDoorAErqbJ
namespace Go.Proofs.YtkhcbbpfchgemaaDoor.AbsB
open Go AbsYtkhcbbpfchgemaaDoor Abs
set_option maxHeartbeats 4000000
set_option linter.unusedSimpArgs false
set_option linter.unusedVariables false

set_option maxRecDepth 100000
set_option maxHeartbeats 2000000
set_option linter.unusedSimpArgs false
set_option linter.unusedVariables false
theorem typed_str {H : AHeap} {d : Nat} {xs : List Value} (h : Typed E H d 9 xs) : ∃ s : ByteArray,xs = [.string s] ∧ s.size ≤ maxLen := by
 cases d with
 | zero => exact h.elim
 | succ d => simpa only [Typed,ty9] using h
theorem not_bool {b : Bool} : aun .not (.bool b) = some (.bool (!b)) := rfl
theorem takeF_kd : ∀ (s : ByteArray) (k i n kd p : Nat),takeF s k i n = .inr (kd,p) → kd ≤ 1
 | s,0,i,n,kd,p,h => by simp only [takeF] at h; injection h with h; injection h with h1 h2; omega
 | s,k + 1,i,n,kd,p,h => by
  simp only [takeF] at h
  split at h
  ·injection h with h; injection h with h1 h2; omega
  ·split at h
   ·split at h
    ·injection h with h; injection h with h1 h2; omega
    ·cases h
   ·exact takeF_kd s k _ _ _ _ h
theorem tup0 {a b : Value} : (#[a,b] : Array Value)[0]? = some a := rfl
theorem tup1 {a b : Value} : (#[a,b] : Array Value)[1]? = some b := rfl
theorem tri0 {a b c : Value} : (#[a,b,c] : Array Value)[0]? = some a := rfl
theorem tri1 {a b c : Value} : (#[a,b,c] : Array Value)[1]? = some b := rfl
theorem tri2 {a b c : Value} : (#[a,b,c] : Array Value)[2]? = some c := rfl

set_option maxRecDepth 100000
set_option maxHeartbeats 2000000
set_option linter.unusedSimpArgs false
set_option linter.unusedVariables false

set_option maxRecDepth 100000
set_option maxHeartbeats 1000000
set_option linter.unusedSimpArgs false
set_option linter.unusedVariables false
theorem bt_extract {u : ByteArray} {a b j : Nat} (h : a + j < b) (hb : b ≤ u.size) : bt (u.extract a b) j = bt u (a + j) := by
 have h1 : j < (u.extract a b).size := by rw [ByteArray.size_extract]; omega
 have e1 : (u.extract a b)[j]? = some (u.extract a b)[j] := getElem?_pos _ j h1
 have e2 : u[a + j]? = some u[a + j] := getElem?_pos _ (a + j) (by omega)
 unfold bt
 rw [e1,e2]
 simp only
 congr 1
 exact ByteArray.getElem_extract h1
def bytesOf (w : ByteArray) : List Value := w.data.toList.map fun b => .int .u8 b.toNat
theorem conv_bytes {H : AHeap} {w : ByteArray} : aconvert E H 9 56 (.string w) = some (.slice (some ⟨H.size,0,none⟩) w.size w.size,H.alloc (.cells (bytesOf w) true 1)) := by
 unfold aconvert bytesOf
 rw [ty9,ty56]
 show (match E.ty.get 5 with | some ⟨.int .u8,_,_,_,_⟩ => _ | _ => none) = _
 rw [ty5]
 simp only [dpB,Bool.false_eq_true,if_false]
theorem bytes_get {w : ByteArray} {j : Nat} (h : j < w.size) : (bytesOf w)[j]? = some (.int .u8 ((bt w j : Nat) : Int)) := by
 have e1 : w[j]? = some w[j] := getElem?_pos _ j h
 have hl : j < w.data.toList.length := by rw [Array.length_toList]; exact h
 have e2 : (bytesOf w)[j]? = some (.int .u8 ((w.data.toList[j].toNat : Nat) : Int)) := by
  simp only [bytesOf,List.getElem?_map,List.getElem?_eq_getElem hl,Option.map_some]
 rw [e2]
 unfold bt
 rw [e1]
 rfl
def shapeF (c : Nat) : Nat × Nat × Nat :=
 if 1 ≤ c ∧ c < 128 then (0,c,1) else if 192 ≤ c ∧ c < 224 then (1,c % 32,128) else if 224 ≤ c ∧ c < 240 then (2,c % 16,2048) else if 240 ≤ c ∧ c < 248 then (3,c % 8,65536) else (0,0,1)
theorem spec84 {c : Nat} {H : AHeap} (hc : c < 256) : CallW E 84 [.int .u8 (c : Int)] H fun r H' => r = .tuple #[.int .i64 ((shapeF c).1 : Int),.int .i64 ((shapeF c).2.1 : Int),.int .i64 ((shapeF c).2.2 : Int)] ∧ H' = H := by
 refine wcall84 (by simp) ?_
 simp only [strip,bodyOf,Tryd.f84,getD_body,keepN,bareOp_mk,lessOp_mk,lapp_cons,lapp_nil,List.map_cons,List.map_nil,array_toList,↓reduceIte,Nat.reduceEqDiff,Bool.false_eq_true]
 rcases (by omega : c = 0 ∨ (1 ≤ c ∧ c < 128) ∨ (128 ≤ c ∧ c < 192) ∨ (192 ≤ c ∧ c < 224) ∨ (224 ≤ c ∧ c < 240) ∨ (240 ≤ c ∧ c < 248) ∨ 248 ≤ c) with h | h | h | h | h | h | h
 ·have h1 : ¬ (1 : Int) ≤ (c : Int) := by omega
  have h3 : ¬ (192 : Int) ≤ (c : Int) := by omega
  have h5 : ¬ (224 : Int) ≤ (c : Int) := by omega
  have h7 : ¬ (240 : Int) ≤ (c : Int) := by omega
  simp (disch := first | assumption | simp) only [↓wbD,wbU,↓aop,↓reduceIte,Nat.reduceEqDiff,Nat.reduceLT,reduceCtorEq,goInt,pairs,h1,h3,h5,h7,decide_true,decide_false]
  rw [show shapeF c = (0,0,1) from by unfold shapeF; rw [if_neg (by omega),if_neg (by omega),if_neg (by omega),if_neg (by omega)]]; exact ⟨rfl,trivial⟩
 ·have h1 : (1 : Int) ≤ (c : Int) := by omega
  have h2 : (c : Int) < 128 := by omega
  simp (disch := first | assumption | simp) only [↓wbD,wbU,↓aop,↓reduceIte,Nat.reduceEqDiff,Nat.reduceLT,reduceCtorEq,goInt,pairs,h1,h2,decide_true,decide_false,conv_i64 hc]
  rw [show shapeF c = (0,c,1) from by unfold shapeF; rw [if_pos h]]; exact ⟨rfl,trivial⟩
 ·have h1 : (1 : Int) ≤ (c : Int) := by omega
  have h2 : ¬ (c : Int) < 128 := by omega
  have h3 : ¬ (192 : Int) ≤ (c : Int) := by omega
  have h5 : ¬ (224 : Int) ≤ (c : Int) := by omega
  have h7 : ¬ (240 : Int) ≤ (c : Int) := by omega
  simp (disch := first | assumption | simp) only [↓wbD,wbU,↓aop,↓reduceIte,Nat.reduceEqDiff,Nat.reduceLT,reduceCtorEq,goInt,pairs,h1,h2,h3,h5,h7,decide_true,decide_false]
  rw [show shapeF c = (0,0,1) from by unfold shapeF; rw [if_neg (by omega),if_neg (by omega),if_neg (by omega),if_neg (by omega)]]; exact ⟨rfl,trivial⟩
 ·have h1 : (1 : Int) ≤ (c : Int) := by omega
  have h2 : ¬ (c : Int) < 128 := by omega
  have h3 : (192 : Int) ≤ (c : Int) := by omega
  have h4 : (c : Int) < 224 := by omega
  simp (disch := first | assumption | simp) only [↓wbD,wbU,↓aop,↓reduceIte,Nat.reduceEqDiff,Nat.reduceLT,reduceCtorEq,goInt,pairs,h1,h2,h3,h4,decide_true,decide_false,and31 hc,conv_i64 (show c % 32 < 256 by omega)]
  rw [show shapeF c = (1,c % 32,128) from by unfold shapeF; rw [if_neg (by omega),if_pos h]]; exact ⟨rfl,trivial⟩
 ·have h1 : (1 : Int) ≤ (c : Int) := by omega
  have h2 : ¬ (c : Int) < 128 := by omega
  have h3 : (192 : Int) ≤ (c : Int) := by omega
  have h4 : ¬ (c : Int) < 224 := by omega
  have h5 : (224 : Int) ≤ (c : Int) := by omega
  have h6 : (c : Int) < 240 := by omega
  simp (disch := first | assumption | simp) only [↓wbD,wbU,↓aop,↓reduceIte,Nat.reduceEqDiff,Nat.reduceLT,reduceCtorEq,goInt,pairs,h1,h2,h3,h4,h5,h6,decide_true,decide_false,and15 hc,conv_i64 (show c % 16 < 256 by omega)]
  rw [show shapeF c = (2,c % 16,2048) from by unfold shapeF; rw [if_neg (by omega),if_neg (by omega),if_pos h]]; exact ⟨rfl,trivial⟩
 ·have h1 : (1 : Int) ≤ (c : Int) := by omega
  have h2 : ¬ (c : Int) < 128 := by omega
  have h3 : (192 : Int) ≤ (c : Int) := by omega
  have h4 : ¬ (c : Int) < 224 := by omega
  have h5 : (224 : Int) ≤ (c : Int) := by omega
  have h6 : ¬ (c : Int) < 240 := by omega
  have h7 : (240 : Int) ≤ (c : Int) := by omega
  have h8 : (c : Int) < 248 := by omega
  simp (disch := first | assumption | simp) only [↓wbD,wbU,↓aop,↓reduceIte,Nat.reduceEqDiff,Nat.reduceLT,reduceCtorEq,goInt,pairs,h1,h2,h3,h4,h5,h6,h7,h8,decide_true,decide_false,and7 hc,conv_i64 (show c % 8 < 256 by omega)]
  rw [show shapeF c = (3,c % 8,65536) from by unfold shapeF; rw [if_neg (by omega),if_neg (by omega),if_neg (by omega),if_pos h]]; exact ⟨rfl,trivial⟩
 ·have h1 : (1 : Int) ≤ (c : Int) := by omega
  have h2 : ¬ (c : Int) < 128 := by omega
  have h3 : (192 : Int) ≤ (c : Int) := by omega
  have h4 : ¬ (c : Int) < 224 := by omega
  have h5 : (224 : Int) ≤ (c : Int) := by omega
  have h6 : ¬ (c : Int) < 240 := by omega
  have h7 : (240 : Int) ≤ (c : Int) := by omega
  have h8 : ¬ (c : Int) < 248 := by omega
  simp (disch := first | assumption | simp) only [↓wbD,wbU,↓aop,↓reduceIte,Nat.reduceEqDiff,Nat.reduceLT,reduceCtorEq,goInt,pairs,h1,h2,h3,h4,h5,h6,h7,h8,decide_true,decide_false]
  rw [show shapeF c = (0,0,1) from by unfold shapeF; rw [if_neg (by omega),if_neg (by omega),if_neg (by omega),if_neg (by omega)]]; exact ⟨rfl,trivial⟩
def acc (u : ByteArray) (n : Nat) : Nat → Nat
 | 0 => n
 | k + 1 => acc u n k * 64 + bt u (k + 1) % 64
def cont (u : ByteArray) (k : Nat) : Prop := ∀ j,j < k → 128 ≤ bt u (j + 1) ∧ bt u (j + 1) < 192
instance (u : ByteArray) (k : Nat) : Decidable (cont u k) := inferInstanceAs (Decidable (∀ j,j < k → _))
def bad (n : Nat) : Prop := 1114111 < n ∨ (55296 ≤ n ∧ n ≤ 57343)
instance (n : Nat) : Decidable (bad n) := inferInstanceAs (Decidable (_ ∨ _))
def firstI (u : ByteArray) : Nat :=
 if u.size ≤ (shapeF (bt u 0)).1 then 0
 else if cont u (shapeF (bt u 0)).1 then
  (if acc u (shapeF (bt u 0)).2.1 (shapeF (bt u 0)).1 < (shapeF (bt u 0)).2.2 ∨ bad (acc u (shapeF (bt u 0)).2.1 (shapeF (bt u 0)).1) then 0 else (shapeF (bt u 0)).1 + 1)
 else 0
theorem shapeF_le (c : Nat) (hc : c < 256) : (shapeF c).1 ≤ 3 ∧ (shapeF c).2.1 < 128 ∧ (shapeF c).2.2 ≤ 65536 := by
 unfold shapeF
 split
 ·exact ⟨by simp,by simp; omega,by simp⟩
 ·split
  ·exact ⟨by simp,by simp; omega,by simp⟩
  ·split
   ·exact ⟨by simp,by simp; omega,by simp⟩
   ·split
    ·exact ⟨by simp,by simp; omega,by simp⟩
    ·exact ⟨by simp,by simp,by simp⟩
theorem acc_lt (u : ByteArray) {n : Nat} (hn : n < 128) : ∀ k,acc u n k < 128 * 64 ^ k
 | 0 => by simpa [acc] using hn
 | k + 1 => by
  have := acc_lt u hn k
  simp only [acc,Nat.pow_succ]
  omega

set_option maxRecDepth 100000
set_option maxHeartbeats 1000000
set_option linter.unusedSimpArgs false
set_option linter.unusedVariables false
theorem spec83 {u : ByteArray} {H : AHeap} (h0 : 0 < u.size) (hs : u.size ≤ 100000) : CallW E 83 [.string u] H fun r H' => r = .int .i64 ((firstI u : Nat) : Int) ∧ Ext H H' := by
 refine wcall83 (by simp) ?_
 simp only [strip,bodyOf,Tryd.f83,getD_body,keepN,bareOp_mk,lessOp_mk,lapp_cons,lapp_nil,List.map_cons,List.map_nil,array_toList,↓reduceIte,Nat.reduceEqDiff,Bool.false_eq_true]
 have hix := idx_str (s := u) (i := 0) h0
 have hc := bt_lt u 0
 obtain ⟨q1,q2,q3⟩ := shapeF_le (bt u 0) hc
 simp (disch := first | assumption | simp) only [↓wbD,wbU,↓aop,↓reduceIte,Nat.reduceEqDiff,Nat.reduceLT,reduceCtorEq,goInt,pairs,show aindex E 9 (.string u) (.int .i64 0) = _ from hix]
 refine (spec84 hc).mono ?_
 rintro r H ⟨rfl,rfl⟩
 obtain ⟨fo,hfo⟩ : ∃ x,x = (shapeF (bt u 0)).1 := ⟨_,rfl⟩
 obtain ⟨n0,hn0⟩ : ∃ x,x = (shapeF (bt u 0)).2.1 := ⟨_,rfl⟩
 obtain ⟨le,hle⟩ : ∃ x,x = (shapeF (bt u 0)).2.2 := ⟨_,rfl⟩
 have hF : firstI u = if u.size ≤ fo then 0 else if cont u fo then (if acc u n0 fo < le ∨ bad (acc u n0 fo) then 0 else fo + 1) else 0 := by unfold firstI; rw [← hfo,← hn0,← hle]
 rw [← hfo,← hn0,← hle]
 rw [← hfo] at q1; rw [← hn0] at q2; rw [← hle] at q3
 clear hfo hn0 hle
 by_cases hsz : (u.size : Int) ≤ (fo : Int)
 ·simp (disch := first | assumption | simp) only [↓wbD,wbU,↓aop,↓reduceIte,Nat.reduceEqDiff,Nat.reduceLT,reduceCtorEq,goInt,pairs,tri0,tri1,tri2,len_str ty9,hsz,decide_true]
  rw [hF,if_pos (by omega)]
  exact ⟨rfl,Ext.refl _⟩
 have hw : IntKind.i64.wrap ((fo : Int) + 1) = ((fo + 1 : Nat) : Int) := wrap_suc (by omega)
 have hsl := slice_both (E := E) (H := H) ty9 (s := u) (k := 1) (l := fo + 1) (by omega) (by omega)
 rw [if_neg (by omega)] at hF
 have hlen : ∀ K,abuiltin E K .len [56] [.slice (some ⟨H.size,0,none⟩) (u.extract 1 (fo + 1)).size (u.extract 1 (fo + 1)).size] = some (goInt ((u.extract 1 (fo + 1)).size : Nat),K) := fun K => by simp [abuiltin,ty56]
 have hxs : (u.extract 1 (fo + 1)).size = fo := by rw [ByteArray.size_extract]; omega
 simp (disch := first | assumption | simp) only [↓wbD,wbU,↓aop,↓reduceIte,Nat.reduceEqDiff,Nat.reduceLT,reduceCtorEq,goInt,pairs,tri0,tri1,tri2,len_str ty9,hsz,decide_false,hw,show aslice E H 9 (.string u) (some (.int .i64 1)) (some (.int .i64 ((fo + 1 : Nat) : Int))) none = _ from hsl,conv_bytes,hlen]
 have hbg := fun j (hj : j < fo) => bytes_get (w := u.extract 1 (fo + 1)) (j := j) (by omega)
 have hbe : ∀ j,j < fo → bt (u.extract 1 (fo + 1)) j = bt u (j + 1) := fun j hj => by rw [bt_extract (by omega) (by omega),Nat.add_comm]
 rw [hxs]
 have hx : Ext H (H.alloc (.cells (bytesOf (u.extract 1 (fo + 1))) true 1)) := Ext.alloc _ _
 have hg : (H.alloc (.cells (bytesOf (u.extract 1 (fo + 1))) true 1)).get H.size = .cells (bytesOf (u.extract 1 (fo + 1))) true 1 := AHeap.get_alloc_same _ _
 generalize H.alloc (.cells (bytesOf (u.extract 1 (fo + 1))) true 1) = H1 at hx hg
 refine W_loop (fun f H' => H' = H1 ∧ f 3 = .int .i64 (fo : Int) ∧ f 5 = .int .i64 (le : Int) ∧ f 23 = .slice (some ⟨H.size,0,none⟩) fo fo ∧ f 24 = .int .i64 (fo : Int) ∧ ∃ k : Nat,k ≤ fo ∧ f 25 = .int .i64 (k : Int) ∧ f 4 = .int .i64 ((acc u n0 k : Nat) : Int) ∧ cont u k) (fun f _ => match f 25 with | .int _ k => fo - k.toNat | _ => 0) ?_ ?_
 ·simp (disch := first | assumption | simp) only [↓wbD,wbU,↓aop,↓reduceIte,Nat.reduceEqDiff,Nat.reduceLT,reduceCtorEq,goInt,pairs]
  exact ⟨0,by omega,rfl,rfl,fun j hj => by omega⟩
 rintro f H1 ⟨rfl,f3,f5,f23,f24,k,hk,f25,f4,hcont⟩
 by_cases hlt : (k : Int) < (fo : Int)
 ·have hb := bt_lt u (k + 1)
  have hl := hbg k (by omega)
  rw [hbe k (by omega)] at hl
  have hwk := wrap_suc (n := k) (by omega)
  by_cases hcc : 128 ≤ bt u (k + 1) ∧ bt u (k + 1) < 192
  ·have h1 : bt u (k + 1) / 64 * 64 = 128 := by omega
   have hne : ((bt u (k + 1) / 64 * 64 : Nat) : Int) = 128 := by rw [h1]; rfl
   have ha := acc_lt u q2 k
   have hk3 : 64 ^ k ≤ 64 ^ 3 := Nat.pow_le_pow_right (by omega) (by omega)
   have hor := or6 (n := acc u n0 k) (x := bt u (k + 1) % 64) (by omega) (by omega)
   simp (disch := first | assumption | simp) only [↓wbD,wbU,↓aop,↓reduceIte,Nat.reduceEqDiff,Nat.reduceLT,reduceCtorEq,goInt,pairs,f3,f5,f23,f24,f25,f4,hlt,decide_true,ia_slice ty56 ty5 (show k < fo by omega),Nat.zero_add,Nat.mul_one,ld_cell ty5 rfl hg,hl,and192 hb,hne,not_true_eq_false,decide_false,shl6 (show acc u n0 k < 2 ^ 40 by omega),and63 hb,conv_i64 (show bt u (k + 1) % 64 < 256 by omega),hor,hwk]
   refine ⟨_,rfl,⟨?_,?_,?_,?_,k + 1,by omega,?_,?_,?_⟩,?_⟩
   ·simp (disch := first | assumption | simp) only [↓wbD,wbU,↓aop,↓reduceIte,Nat.reduceEqDiff,Nat.reduceLT,reduceCtorEq,goInt,pairs,f3]
   ·simp (disch := first | assumption | simp) only [↓wbD,wbU,↓aop,↓reduceIte,Nat.reduceEqDiff,Nat.reduceLT,reduceCtorEq,goInt,pairs,f5]
   ·simp (disch := first | assumption | simp) only [↓wbD,wbU,↓aop,↓reduceIte,Nat.reduceEqDiff,Nat.reduceLT,reduceCtorEq,goInt,pairs,f23]
   ·simp (disch := first | assumption | simp) only [↓wbD,wbU,↓aop,↓reduceIte,Nat.reduceEqDiff,Nat.reduceLT,reduceCtorEq,goInt,pairs,f24]
   ·simp (disch := first | assumption | simp) only [↓wbD,wbU,↓aop,↓reduceIte,Nat.reduceEqDiff,Nat.reduceLT,reduceCtorEq,goInt,pairs]
   ·simp (disch := first | assumption | simp) only [↓wbD,wbU,↓aop,↓reduceIte,Nat.reduceEqDiff,Nat.reduceLT,reduceCtorEq,goInt,pairs]
    rfl
   ·intro j hj
    by_cases hjk : j = k
    ·subst hjk; exact hcc
    ·exact hcont j (by omega)
   ·simp (disch := first | assumption | simp) only [↓wbD,wbU,↓aop,↓reduceIte,Nat.reduceEqDiff,Nat.reduceLT,reduceCtorEq,goInt,pairs,f25]
    simp; omega
  ·have h1 : ¬ bt u (k + 1) / 64 * 64 = 128 := by omega
   have hne : ¬ ((bt u (k + 1) / 64 * 64 : Nat) : Int) = 128 := fun h => h1 (by omega)
   simp (disch := first | assumption | simp) only [↓wbD,wbU,↓aop,↓reduceIte,Nat.reduceEqDiff,Nat.reduceLT,reduceCtorEq,goInt,pairs,f3,f5,f23,f24,f25,f4,hlt,decide_true,ia_slice ty56 ty5 (show k < fo by omega),Nat.zero_add,Nat.mul_one,ld_cell ty5 rfl hg,hl,and192 hb,hne,not_false_eq_true]
   rw [hF,if_neg (fun h => hcc (h k (by omega)))]
   exact ⟨rfl,hx⟩
 ·obtain rfl : k = fo := by omega
  rw [if_pos hcont] at hF
  generalize acc u n0 k = m at *
  by_cases c1 : (m : Int) < (le : Int)
  ·simp (disch := first | assumption | simp) only [↓wbD,wbU,↓aop,↓reduceIte,Nat.reduceEqDiff,Nat.reduceLT,reduceCtorEq,goInt,pairs,f3,f5,f24,f25,f4,hlt,decide_false,c1,decide_true]
   rw [hF,if_pos (.inl (by omega))]
   exact ⟨rfl,hx⟩
  by_cases c2 : (1114111 : Int) < (m : Int)
  ·simp (disch := first | assumption | simp) only [↓wbD,wbU,↓aop,↓reduceIte,Nat.reduceEqDiff,Nat.reduceLT,reduceCtorEq,goInt,pairs,f3,f5,f24,f25,f4,hlt,decide_false,c1,c2,decide_true]
   rw [hF,if_pos (.inr (.inl (by omega)))]
   exact ⟨rfl,hx⟩
  by_cases c3 : (55296 : Int) ≤ (m : Int)
  ·by_cases c4 : (m : Int) ≤ 57343
   ·simp (disch := first | assumption | simp) only [↓wbD,wbU,↓aop,↓reduceIte,Nat.reduceEqDiff,Nat.reduceLT,reduceCtorEq,goInt,pairs,f3,f5,f24,f25,f4,hlt,decide_false,c1,c2,c3,c4,decide_true]
    rw [hF,if_pos (.inr (.inr ⟨by omega,by omega⟩))]
    exact ⟨rfl,hx⟩
   ·simp (disch := first | assumption | simp) only [↓wbD,wbU,↓aop,↓reduceIte,Nat.reduceEqDiff,Nat.reduceLT,reduceCtorEq,goInt,pairs,f3,f5,f24,f25,f4,hlt,decide_false,c1,c2,c3,c4,decide_true,hw]
    rw [hF,if_neg (by unfold bad; omega)]
    exact ⟨rfl,hx⟩
  ·simp (disch := first | assumption | simp) only [↓wbD,wbU,↓aop,↓reduceIte,Nat.reduceEqDiff,Nat.reduceLT,reduceCtorEq,goInt,pairs,f3,f5,f24,f25,f4,hlt,decide_false,c1,c2,c3,decide_true,hw]
   rw [hF,if_neg (by unfold bad; omega)]
   exact ⟨rfl,hx⟩

set_option maxRecDepth 100000
set_option maxHeartbeats 1000000
set_option linter.unusedSimpArgs false
set_option linter.unusedVariables false
def encU (N : Nat) : List Nat :=
 if N < 128 then [N] else if N < 2048 then [192 + N / 64,128 + N % 64] else if N < 65536 then [224 + N / 4096,128 + N / 64 % 64,128 + N % 64] else [240 + N / 262144,128 + N / 4096 % 64,128 + N / 64 % 64,128 + N % 64]
def okN (n : Int) : Prop := 1 ≤ n ∧ n ≤ 1114111 ∧ ¬ (55296 ≤ n ∧ n ≤ 57343)
instance (n : Int) : Decidable (okN n) := inferInstanceAs (Decidable (_ ∧ _))
def bytesF (n : Int) : ByteArray := if okN n then str (encU n.toNat) else emp

set_option maxRecDepth 100000
set_option maxHeartbeats 1000000
set_option linter.unusedSimpArgs false
set_option linter.unusedVariables false
def nacc (u : ByteArray) (x : Int) : Nat → Int
 | 0 => x
 | k + 1 => 64 * nacc u x k + (bt u (k + 1) : Int) - 128
def numF (u : ByteArray) (m : Nat) : Int := if m = 1 then (bt u 0 : Int) else nacc u ((bt u 0 : Int) - (if m = 2 then 192 else if m = 3 then 224 else 240)) (m - 1)
def R (u : ByteArray) (m : Nat) : Prop := m ≤ u.size ∧ bytesF (numF u m) ≠ emp ∧ bytesF (numF u m) = u.extract 0 m
instance (u : ByteArray) (m : Nat) : Decidable (R u m) := inferInstanceAs (Decidable (_ ∧ _))
end Go.Proofs.YtkhcbbpfchgemaaDoor.AbsB
