/-
  Parts of a law's proof.
-/
import Derived.Test.YtjkhhdknplelcaaGreatDoorARdqbJ
import Derived.Test.YtjkhhdknplelcaaGreatDoorAFwqdJ
namespace Go.Proofs.YtjkhhdknplelcaaGreatDoor.AbsB
open Go AbsYtjkhhdknplelcaaGreatDoor Abs
set_option maxRecDepth 100000
set_option maxHeartbeats 4000000
set_option linter.unusedSimpArgs false
set_option linter.unusedVariables false
theorem takeF_pos (b : ByteArray) : ∀ (k i n : Nat),match takeF b k i n with
  | .inl (_,j) => i < j
  | .inr _ => True
 | 0,i,n => by simp only [takeF]
 | k + 1,i,n => by
  unfold takeF
  by_cases h1 : i = b.size
  ·rw [if_pos h1]; trivial
  ·rw [if_neg h1]
   by_cases h2 : bt b i < 128
   ·rw [if_pos h2]
    by_cases h3 : bt b i = 0 ∧ 0 < i
    ·rw [if_pos h3]; trivial
    ·rw [if_neg h3]; show i < i + 1; omega
   ·rw [if_neg h2]
    have := takeF_pos b k (i + 1) (n + bt b i % 128 * 128 ^ i)
    generalize takeF b k (i + 1) (n + bt b i % 128 * 128 ^ i) = T at this ⊢
    match T,this with
    | .inl (_,j),h => exact Nat.lt_trans (Nat.lt_succ_self i) h
    | .inr _,_ => trivial
theorem takeF_lt (b : ByteArray) : ∀ (k i n : Nat),n < 128 ^ i → match takeF b k i n with
  | .inl (m,_) => m < 128 ^ (i + k)
  | .inr _ => True
 | 0,i,n,_ => by simp only [takeF]
 | k + 1,i,n,hn => by
  have hd : bt b i % 128 ≤ 127 := by omega
  have hm : bt b i % 128 * 128 ^ i ≤ 127 * 128 ^ i := Nat.mul_le_mul_right _ hd
  have hp : 128 ^ (i + 1) = 128 ^ i * 128 := Nat.pow_succ ..
  have hlt : n + bt b i % 128 * 128 ^ i < 128 ^ (i + 1) := by omega
  unfold takeF
  by_cases h1 : i = b.size
  ·rw [if_pos h1]; trivial
  ·rw [if_neg h1]
   by_cases h2 : bt b i < 128
   ·rw [if_pos h2]
    by_cases h3 : bt b i = 0 ∧ 0 < i
    ·rw [if_pos h3]; trivial
    ·rw [if_neg h3]
     show n + bt b i % 128 * 128 ^ i < 128 ^ (i + (k + 1))
     exact Nat.lt_of_lt_of_le hlt (Nat.pow_le_pow_right (by omega) (by omega))
   ·rw [if_neg h2]
    have := takeF_lt b k (i + 1) _ hlt
    rw [show i + 1 + k = i + (k + 1) by omega] at this
    exact this
theorem takeF_n {b : ByteArray} {n k : Nat} (h : takeF b 4 0 0 = .inl (n,k)) : n < 268435456 := by
 have := takeF_lt b 4 0 0 (by decide)
 rw [h] at this
 exact this
set_option maxHeartbeats 2000000
structure Pr where
 id : Int
 n : Int
 s : ByteArray
 v : ByteArray
deriving DecidableEq
def propC (p : Pr) : List Value := [.int .i64 p.id,.int .i64 p.n,.string p.s,.string p.v]
def ids : List Int := [1,2,3,8,9,11,17,18,19,21,22,23,24,25,26,28,31,33,34,35,36,37,38,39,40,41,42]
def typI (id : Int) : Int :=
 if id = 1 ∨ id = 23 ∨ id = 25 ∨ id = 36 ∨ id = 37 ∨ id = 40 ∨ id = 41 ∨ id = 42 then 1
 else if id = 19 ∨ id = 33 ∨ id = 34 ∨ id = 35 then 2
 else if id = 2 ∨ id = 17 ∨ id = 24 ∨ id = 39 then 4
 else if id = 11 then 5
 else if id = 3 ∨ id = 8 ∨ id = 18 ∨ id = 21 ∨ id = 26 ∨ id = 28 ∨ id = 31 then 6
 else if id = 9 ∨ id = 22 then 7
 else if id = 38 then 9 else 0
def allow (id pl : Int) : Bool :=
 if id = 1 ∨ id = 2 ∨ id = 3 ∨ id = 8 ∨ id = 9 then decide (pl = 3 ∨ pl = 16)
 else if id = 11 then decide (pl = 3 ∨ pl = 8)
 else if id = 35 then decide (pl = 3)
 else if id = 24 then decide (pl = 16)
 else if id = 23 ∨ id = 25 then decide (pl = 1)
 else if id = 18 ∨ id = 19 ∨ id = 26 ∨ id = 36 ∨ id = 37 ∨ id = 40 ∨ id = 41 ∨ id = 42 then decide (pl = 2)
 else if id = 28 then decide (pl = 2 ∨ pl = 14)
 else if id = 33 ∨ id = 34 ∨ id = 39 then decide (pl = 1 ∨ pl = 2)
 else if id = 17 then decide (pl = 1 ∨ pl = 2 ∨ pl = 14)
 else if id = 21 ∨ id = 22 then decide (pl = 1 ∨ pl = 2 ∨ pl = 15)
 else if id = 31 then decide (pl = 2 ∨ pl = 4 ∨ pl = 5 ∨ pl = 6 ∨ pl = 7 ∨ pl = 9 ∨ pl = 11 ∨ pl = 14 ∨ pl = 15)
 else if id = 38 then decide (1 ≤ pl ∧ pl ≤ 16 ∧ pl ≠ 12 ∧ pl ≠ 13)
 else false
def numOk (p : Pr) : Bool :=
 if p.id = 1 ∨ p.id = 23 ∨ p.id = 25 ∨ p.id = 36 ∨ p.id = 37 ∨ p.id = 40 ∨ p.id = 41 ∨ p.id = 42 then decide (p.n = 0 ∨ p.n = 1)
 else if p.id = 11 ∨ p.id = 33 ∨ p.id = 35 ∨ p.id = 39 then decide (0 < p.n) else true
def hasId (l : List Pr) (id : Int) : Bool := l.any fun p => decide (p.id = id)
def groundP (pl : Int) (ahead : List Pr) (id : Int) : Option (Nat × Nat) :=
 if 64 ≤ ahead.length then some (4,149)
 else if typI id = 0 ∨ allow id pl = false then some (2,129)
 else if id ≠ 38 ∧ ¬ (id = 11 ∧ pl = 3) ∧ hasId ahead id = true then some (3,130) else none
def badP (pl : Int) (ahead : List Pr) (p : Pr) : Option (Nat × Nat) := match groundP pl ahead p.id with
 | some e => some e
 | none => if numOk p then none else some (3,130)
def chk (pl : Int) (ahead : List Pr) : List Pr → Option (Nat × Nat × Nat)
 | [] => none
 | p :: l => match badP pl ahead p with
  | some (k,r) => some (k,r,ahead.length)
  | none => chk pl (ahead ++ [p]) l
theorem chk_snoc {pl : Int} : ∀ {l a : List Pr} {p : Pr},chk pl a l = none → badP pl (a ++ l) p = none → chk pl a (l ++ [p]) = none
 | [],a,p,_,h => by
  rw [List.append_nil] at h
  simp only [List.nil_append,chk,h]
 | q :: l,a,p,h1,h2 => by
  simp only [chk,List.cons_append] at h1 ⊢
  cases hb : badP pl a q with
  | some e => rw [hb] at h1; cases h1
  | none =>
   rw [hb] at h1
   exact chk_snoc h1 (by rw [List.append_assoc]; exact h2)
theorem chk_at {pl : Int} : ∀ {l a : List Pr} {i : Nat} (hi : i < l.length),chk pl a l = none → badP pl (a ++ l.take i) l[i] = none
 | q :: l,a,i,hi,h => by
  simp only [chk] at h
  cases hb : badP pl a q with
  | some e => rw [hb] at h; cases h
  | none =>
   rw [hb] at h
   cases i with
   | zero => simpa using hb
   | succ i =>
    have := chk_at (l := l) (a := a ++ [q]) (i := i) (by simpa using hi) h
    simpa [List.append_assoc] using this
def actsP (p : Pr) : List Act :=
 ⟨5,p.id,emp⟩ :: (if typI p.id = 9 then [⟨6,0,p.s⟩,⟨6,0,p.v⟩] else if typI p.id = 0 then [] else [⟨typI p.id,p.n,p.s⟩])
def runW (b : ByteArray) : List Act → ByteArray ⊕ (Nat × Nat)
 | [] => .inl b
 | a :: l => match actW a with
  | .inl m => runW (b ++ m) l
  | .inr (k,q) => .inr (k,b.size + q)
theorem runW_app : ∀ (l m : List Act) (b : ByteArray),runW b (l ++ m) = match runW b l with
  | .inl c => runW c m
  | .inr e => .inr e
 | [],m,b => rfl
 | a :: l,m,b => by
  simp only [List.cons_append,runW]
  cases actW a with
  | inl c => exact runW_app l m (b ++ c)
  | inr e => rfl
def WRun (σ : AHeap) (w : Nat) (r : ByteArray ⊕ (Nat × Nat)) (fp : List Nat) : Prop := match r with
 | .inl b => IsW σ w b .nilIface fp
 | .inr (k,q) => ∃ b d z,d ≤ 2 ∧ ErN d (fv 129 (q : Int) z) k ∧ IsW σ w b (fv 129 (q : Int) z) fp
def encP (pl : Int) (l : List Pr) : Except (Nat × Nat × Nat) ByteArray := match chk pl [] l with
 | some e => .error e
 | none => match runW emp (l.flatMap actsP) with
  | .inr (k,q) => .error (k,129,q)
  | .inl c => .ok (str (enc c.size) ++ c)
def valueR (id : Int) (s : ByteArray) (p : Nat) : Rd Pr :=
 if typI id = 9 then match textR s p with
  | .error e => .error e
  | .ok (a,q) => match textR s q with
   | .error e => .error e
   | .ok (b,q') => .ok (⟨id,0,a,b⟩,q')
 else match rdA (typI id) s p with
  | .error e => .error e
  | .ok ((n,a),q) => .ok (⟨id,n,a,emp⟩,q)
def oneR (pl : Int) (s : ByteArray) (p : Nat) (ahead : List Pr) : Except (Nat × Nat × Nat) (Pr × Nat) := match varR s p with
 | .error (k,q) => .error (k,129,q)
 | .ok (id,q) => match groundP pl ahead id with
  | some (k,r) => .error (k,r,p)
  | none => match valueR id s q with
   | .error (k,q') => .error (k,129,q')
   | .ok (pr,q') => if numOk pr then .ok (pr,q') else .error (3,130,p)
inductive AllP (pl : Int) (s : ByteArray) : Nat → List Pr → Except (Nat × Nat × Nat) (List Pr) → Prop
 | nil {p : Nat} {l : List Pr} (h : s.size ≤ p) : AllP pl s p l (.ok l)
 | bad {p : Nat} {l : List Pr} {e : Nat × Nat × Nat} (h : p < s.size) (ho : oneR pl s p l = .error e) : AllP pl s p l (.error e)
 | step {p q : Nat} {l : List Pr} {x : Pr} {r : Except (Nat × Nat × Nat) (List Pr)} (h : p < s.size) (ho : oneR pl s p l = .ok (x,q)) (hr : AllP pl s q (l ++ [x]) r) : AllP pl s p l r
def ReadP (pl : Int) (s : ByteArray) (p : Nat) (r : Except (Nat × Nat × Nat) (List Pr × Nat)) : Prop := match varR s p with
 | .error (k,q) => r = .error (k,129,q)
 | .ok (n,q) => match rawR s q n with
  | .error (k,q') => r = .error (k,129,q')
  | .ok (all,q') => ∃ r',AllP pl all 0 [] r' ∧ match r' with
   | .error (k,rr,a) => r = .error (k,rr,(q' - all.size) + a)
   | .ok l => r = .ok (l,q')
set_option maxHeartbeats 8000000
attribute [local irreducible] afterS afterOpS opSK OpsS TrS CodeS condS condW thenS thenQ guardS guardTS outS drawS trSK consS
section
variable {σ : AHeap} {Q : Value → AHeap → Prop}
theorem specType {id : Int} (h : Q (.int .i64 (typI id)) σ) : CallS E B 132 [.int .i64 id] σ Q := by
 refine call132 (by simp) ?_
 simp only [strip,bodyOf,Tryz.f132,getD_body,keepN,bareOp_mk,List.map_cons,List.map_nil,↓reduceIte,Bool.false_eq_true]
 by_cases hm : id ∈ ids
 ·simp only [ids,List.mem_cons,List.not_mem_nil,or_false] at hm
  rcases hm with rfl | rfl | rfl | rfl | rfl | rfl | rfl | rfl | rfl | rfl | rfl | rfl | rfl | rfl | rfl | rfl | rfl | rfl | rfl | rfl | rfl | rfl | rfl | rfl | rfl | rfl | rfl <;>
   (simp only [↓sbD,sbU,Int.reduceEq,decide_false,↓reduceIte,Nat.reduceEqDiff,Nat.reduceLT,reduceCtorEq,isConst]
    exact downS_here h)
 ·simp only [ids,List.mem_cons,List.not_mem_nil,or_false,not_or] at hm
  have e : typI id = 0 := by simp [typI,hm]
  rw [e] at h
  obtain ⟨n1,n2,n3,n4,n5,n6,n7,n8,n9,n10,n11,n12,n13,n14,n15,n16,n17,n18,n19,n20,n21,n22,n23,n24,n25,n26,n27⟩ := hm
  simp only [↓sbD,sbU,decide_false,↓reduceIte,Nat.reduceEqDiff,Nat.reduceLT,reduceCtorEq,isConst,n1,n2,n3,n4,n5,n6,n7,n8,n9,n10,n11,n12,n13,n14,n15,n16,n17,n18,n19,n20,n21,n22,n23,n24,n25,n26,n27]
  exact downS_here h
theorem specNumbered {p : Pr} (h : Q (.bool (numOk p)) σ) : CallS E B 157 [.agg ⟨propC p⟩] σ Q := by
 obtain ⟨id,n,s,v⟩ := p
 unfold numOk at h
 simp only [propC]
 refine call157 (by simp) ?_
 simp only [strip,bodyOf,Tryz.f157,getD_body,keepN,bareOp_mk,List.map_cons,List.map_nil,↓reduceIte,Bool.false_eq_true]
 by_cases hm : id = 1 ∨ id = 23 ∨ id = 25 ∨ id = 36 ∨ id = 37 ∨ id = 40 ∨ id = 41 ∨ id = 42
 ·rw [if_pos hm] at h
  by_cases h0 : n = 0
  ·simp only [h0,true_or,decide_true] at h
   rcases hm with rfl | rfl | rfl | rfl | rfl | rfl | rfl | rfl <;>
   (simp only [↓sbD,sbU,tyB,Int.reduceEq,decide_false,↓reduceIte,Nat.reduceEqDiff,Nat.reduceLT,reduceCtorEq,isConst,boxS,Edp,dpv,h0]
    exact downS_here h)
  ·by_cases h1 : n = 1
   ·simp only [h1,or_true,decide_true] at h
    rcases hm with rfl | rfl | rfl | rfl | rfl | rfl | rfl | rfl <;>
    (simp only [↓sbD,sbU,tyB,Int.reduceEq,decide_false,↓reduceIte,Nat.reduceEqDiff,Nat.reduceLT,reduceCtorEq,isConst,boxS,Edp,dpv,h1]
     exact downS_here h)
   ·simp only [h0,h1,or_self,decide_false] at h
    rcases hm with rfl | rfl | rfl | rfl | rfl | rfl | rfl | rfl <;>
    (simp only [↓sbD,sbU,tyB,Int.reduceEq,decide_false,↓reduceIte,Nat.reduceEqDiff,Nat.reduceLT,reduceCtorEq,isConst,boxS,Edp,dpv,h0,h1]
     exact downS_here h)
 ·rw [if_neg hm] at h
  simp only [not_or] at hm
  obtain ⟨n1,n2,n3,n4,n5,n6,n7,n8⟩ := hm
  by_cases hm : id = 11 ∨ id = 33 ∨ id = 35 ∨ id = 39
  ·rw [if_pos hm] at h
   by_cases h0 : 0 < n
   ·simp only [h0,decide_true] at h
    rcases hm with rfl | rfl | rfl | rfl <;>
    (simp only [↓sbD,sbU,tyB,Int.reduceEq,decide_false,↓reduceIte,Nat.reduceEqDiff,Nat.reduceLT,reduceCtorEq,isConst,boxS,Edp,dpv,h0]
     exact downS_here h)
   ·simp only [h0,decide_false] at h
    rcases hm with rfl | rfl | rfl | rfl <;>
    (simp only [↓sbD,sbU,tyB,Int.reduceEq,decide_false,↓reduceIte,Nat.reduceEqDiff,Nat.reduceLT,reduceCtorEq,isConst,boxS,Edp,dpv,h0]
     exact downS_here h)
  ·rw [if_neg hm] at h
   simp only [not_or] at hm
   obtain ⟨m1,m2,m3,m4⟩ := hm
   simp only [↓sbD,sbU,tyB,decide_false,↓reduceIte,Nat.reduceEqDiff,Nat.reduceLT,reduceCtorEq,isConst,boxS,Edp,dpv,n1,n2,n3,n4,n5,n6,n7,n8,m1,m2,m3,m4]
   exact downS_here h
theorem specBadP {p : Pr} {at' : Int} (hok : numOk p = true → Q .nilIface σ) (hbad : numOk p = false → Q (fv 130 at' (sent 3)) σ) : CallS E B 131 [.agg ⟨propC p⟩,.int .i64 at'] σ Q := by
 simp only [propC]
 refine call131 (by simp) ?_
 simp only [strip,bodyOf,Tryz.f131,getD_body,keepN,bareOp_mk,List.map_cons,List.map_nil,↓reduceIte,Bool.false_eq_true]
 simp only [↓sbD,sbU,tyB,↓reduceIte,Nat.reduceEqDiff,Nat.reduceLT,Nat.reduceAdd,Nat.reduceLeDiff,boxS,Edp,dpv]
 refine specNumbered (p := p) ?_
 cases hm : numOk p with
 | true =>
  simp only [↓sbD,sbU,↓reduceIte,Nat.reduceLT]
  exact downS_here (hok hm)
 | false =>
  simp only [↓sbD,sbU,tyB,↓reduceIte,Nat.reduceEqDiff,Nat.reduceLT,gk3]
  refine specNew (n := 3) ⟨by omega,by omega⟩ ?_
  simp only [↓sbD,sbU,↓reduceIte,Nat.reduceLT]
  exact downS_here (hbad hm)
end
section
variable {σ : AHeap} {Q : Value → AHeap → Prop}
def intC (n : Int) : List Value := [.int .i64 n]
theorem DLi.len {v : Value} {l : List Int} (h : DL intC 1 v l) (σ : AHeap) : abuiltin E σ .len [27] [v] = some (.int .i64 (l.length : Int),σ) := by
 rcases h with ⟨rfl,rfl⟩ | ⟨m,rfl⟩ <;> rfl
theorem DLi.at {v : Value} {l : List Int} (h : DL intC 1 v l) {i : Nat} (hi : i < l.length) : aindexAddr E 27 v (.int .i64 (i : Int)) = some (dptr (intC l[i] ++ (l.drop (i + 1)).flatMap intC)) := by
 rcases h with ⟨rfl,rfl⟩ | ⟨m,rfl⟩
 ·simp at hi
 ·rw [ia_dsl hi,drop_flat (enc := intC) (sz := 1) (fun a => rfl) hi]; rfl
theorem specIndexI {v : Value} {l : List Int} {x : Int} (hl : DL intC 1 v l) (hs : l.length ≤ 100000) (hin : x ∈ l → ∀ i : Nat,Q (.int .i64 (i : Int)) σ) (hout : x ∉ l → Q (.int .i64 (-1)) σ) : CallS E B 175 [v,.int .i64 x] σ Q := by
 have hlen := DLi.len hl
 refine call175 (by simp) ?_
 simp only [strip,bodyOf,Tryz.f175,getD_body,keepN,bareOp_mk,List.map_cons,List.map_nil,↓reduceIte,Bool.false_eq_true]
 simp (disch := first | assumption | simp) only [↓sbD,sbU,↓reduceIte,Nat.reduceLT,reduceCtorEq,hlen]
 refine S_loop (fun m f σ' => σ' = σ ∧ ∃ i : Nat,m + i = l.length ∧ f 8 = .int .i64 i ∧ ∀ j (hj : j < l.length),j < i → x ≠ l[j]) l.length (Le.refl _) ⟨rfl,0,rfl,by simp (disch := first | assumption | simp) only [sbU,↓reduceIte]; rfl,fun j _ hj => by omega⟩ ?_
 rintro m f σ' ⟨rfl,i,hm,f8,hno⟩ hf
 have f0 := hf 0 (by decide) (notMem_wr (by kernel_rfl))
 have f1 := hf 1 (by decide) (notMem_wr (by kernel_rfl))
 have f7 := hf 7 (by decide) (notMem_wr (by kernel_rfl))
 simp (disch := first | assumption | simp) only [sbU,↓reduceIte,Nat.reduceEqDiff,reduceCtorEq] at f0 f1 f7
 clear hf
 by_cases hi : (i : Int) < (l.length : Int)
 ·have hi' : i < l.length := by omega
  have hia := DLi.at hl hi'
  have hw := wrap_suc (n := i) (by omega)
  by_cases he : x = l[i]
  ·simp (disch := first | assumption | simp) only [↓sbD,sbU,tyB,Bool.or_self,↓reduceIte,Nat.reduceEqDiff,Nat.reduceLT,reduceCtorEq,isConst,f0,f1,f7,f8,hi,hia,intC,he]
   exact downS_here (hin (by rw [he]; exact List.getElem_mem hi') i)
  ·simp (disch := first | assumption | simp) only [↓sbD,sbU,tyB,decide_false,Bool.or_self,↓reduceIte,Nat.reduceEqDiff,Nat.reduceLT,reduceCtorEq,isConst,f0,f1,f7,f8,hi,hia,intC,he,hw]
   refine ⟨_,m - 1,_,rfl,by omega,Le.refl _,rfl,i + 1,by omega,by simp (disch := first | assumption | simp) only [sbU,↓reduceIte],fun j hj hji => ?_⟩
   rcases (by omega : j < i ∨ j = i) with h3 | rfl
   ·exact hno j hj h3
   ·exact he
 ·simp (disch := first | assumption | simp) only [↓sbD,sbU,decide_false,Bool.or_self,↓reduceIte,Nat.reduceLT,isConst,f7,f8,hi]
  refine downS_here (hout fun hx => ?_)
  obtain ⟨j,hj,rfl⟩ := List.getElem_of_mem hx
  exact hno j hj (by omega) rfl
theorem specContainsI {v : Value} {l : List Int} {x : Int} (hl : DL intC 1 v l) (hs : l.length ≤ 100000) (h : Q (.bool (decide (x ∈ l))) σ) : CallS E B 168 [v,.int .i64 x] σ Q := by
 refine call168 (by simp) ?_
 simp only [strip,bodyOf,Tryz.f168,getD_body,keepN,bareOp_mk,List.map_cons,List.map_nil,↓reduceIte,Bool.false_eq_true]
 simp (disch := first | assumption | simp) only [↓sbD,sbU,↓reduceIte,Nat.reduceEqDiff,Nat.reduceLT,reduceCtorEq]
 refine specIndexI hl hs (fun hx i => ?_) fun hx => ?_
 ·have h0 : (0 : Int) ≤ (i : Int) := by omega
  simp (disch := first | assumption | simp) only [↓sbD,sbU,↓reduceIte,Nat.reduceLT,isConst,h0]
  exact downS_here (by simpa [hx] using h)
 ·simp (disch := first | assumption | simp) only [↓sbD,sbU,Int.reduceLE,decide_false,↓reduceIte,Nat.reduceLT,isConst]
  exact downS_here (by simpa [hx] using h)
theorem specAllowed {id pl : Int} (h : Q (.bool (allow id pl)) σ) : CallS E B 154 [.int .i64 id,.int .i64 pl] σ Q := by
 refine call154 (by simp) ?_
 simp only [strip,bodyOf,Tryz.f154,getD_body,keepN,bareOp_mk,lapp_cons,lapp_nil,List.map_cons,List.map_nil,↓reduceIte,Bool.false_eq_true]
 by_cases hm : id ∈ ids
 rotate_left
 ·simp only [ids,List.mem_cons,List.not_mem_nil,or_false,not_or] at hm
  have e : allow id pl = false := by simp [allow,hm]
  rw [e] at h
  obtain ⟨n1,n2,n3,n4,n5,n6,n7,n8,n9,n10,n11,n12,n13,n14,n15,n16,n17,n18,n19,n20,n21,n22,n23,n24,n25,n26,n27⟩ := hm
  simp only [↓sbD,sbU,decide_false,↓reduceIte,Nat.reduceEqDiff,Nat.reduceLT,reduceCtorEq,isConst,n1,n2,n3,n4,n5,n6,n7,n8,n9,n10,n11,n12,n13,n14,n15,n16,n17,n18,n19,n20,n21,n22,n23,n24,n25,n26,n27]
  exact downS_here h
 have hm2 : (id = 1 ∨ id = 2 ∨ id = 3 ∨ id = 8 ∨ id = 9) ∨ id = 11 ∨ id = 35 ∨ id = 24 ∨ (id = 23 ∨ id = 25) ∨ (id = 18 ∨ id = 19 ∨ id = 26 ∨ id = 36 ∨ id = 37 ∨ id = 40 ∨ id = 41 ∨ id = 42) ∨ id = 28 ∨ (id = 33 ∨ id = 34 ∨ id = 39) ∨ id = 17 ∨ (id = 21 ∨ id = 22) ∨ id = 31 ∨ id = 38 := by
  simp only [ids,List.mem_cons,List.not_mem_nil,or_false] at hm
  omega
 rcases hm2 with hm | rfl | rfl | rfl | hm | hm | rfl | hm | rfl | hm | rfl | rfl
 ·by_cases p3 : pl = 3
  ·rcases hm with rfl | rfl | rfl | rfl | rfl <;> (simp only [↓sbD,sbU,Int.reduceEq,decide_false,↓reduceIte,Nat.reduceEqDiff,Nat.reduceLT,reduceCtorEq,isConst,p3]; exact downS_here (by simpa [allow,p3] using h))
  by_cases p16 : pl = 16
  ·rcases hm with rfl | rfl | rfl | rfl | rfl <;> (simp only [↓sbD,sbU,Int.reduceEq,decide_false,↓reduceIte,Nat.reduceEqDiff,Nat.reduceLT,reduceCtorEq,isConst,p16]; exact downS_here (by simpa [allow,p16] using h))
  ·rcases hm with rfl | rfl | rfl | rfl | rfl <;> (simp only [↓sbD,sbU,Int.reduceEq,decide_false,↓reduceIte,Nat.reduceEqDiff,Nat.reduceLT,reduceCtorEq,isConst,p3,p16]; exact downS_here (by simpa [allow,p3,p16] using h))
 ·by_cases p3 : pl = 3
  ·simp only [↓sbD,sbU,Int.reduceEq,decide_false,↓reduceIte,Nat.reduceEqDiff,Nat.reduceLT,reduceCtorEq,isConst,p3]; exact downS_here (by simpa [allow,p3] using h)
  by_cases p8 : pl = 8
  ·simp only [↓sbD,sbU,Int.reduceEq,decide_false,↓reduceIte,Nat.reduceEqDiff,Nat.reduceLT,reduceCtorEq,isConst,p8]; exact downS_here (by simpa [allow,p8] using h)
  ·simp only [↓sbD,sbU,Int.reduceEq,decide_false,↓reduceIte,Nat.reduceEqDiff,Nat.reduceLT,reduceCtorEq,isConst,p3,p8]; exact downS_here (by simpa [allow,p3,p8] using h)
 ·by_cases p3 : pl = 3
  ·simp only [↓sbD,sbU,Int.reduceEq,decide_false,↓reduceIte,Nat.reduceEqDiff,Nat.reduceLT,reduceCtorEq,isConst,p3]; exact downS_here (by simpa [allow,p3] using h)
  ·simp only [↓sbD,sbU,Int.reduceEq,decide_false,↓reduceIte,Nat.reduceEqDiff,Nat.reduceLT,reduceCtorEq,isConst,p3]; exact downS_here (by simpa [allow,p3] using h)
 ·by_cases p3 : pl = 16
  ·simp only [↓sbD,sbU,Int.reduceEq,decide_false,↓reduceIte,Nat.reduceEqDiff,Nat.reduceLT,reduceCtorEq,isConst,p3]; exact downS_here (by simpa [allow,p3] using h)
  ·simp only [↓sbD,sbU,Int.reduceEq,decide_false,↓reduceIte,Nat.reduceEqDiff,Nat.reduceLT,reduceCtorEq,isConst,p3]; exact downS_here (by simpa [allow,p3] using h)
 ·by_cases p3 : pl = 1
  ·rcases hm with rfl | rfl <;> (simp only [↓sbD,sbU,Int.reduceEq,decide_false,↓reduceIte,Nat.reduceEqDiff,Nat.reduceLT,reduceCtorEq,isConst,p3]; exact downS_here (by simpa [allow,p3] using h))
  ·rcases hm with rfl | rfl <;> (simp only [↓sbD,sbU,Int.reduceEq,decide_false,↓reduceIte,Nat.reduceEqDiff,Nat.reduceLT,reduceCtorEq,isConst,p3]; exact downS_here (by simpa [allow,p3] using h))
 ·by_cases p3 : pl = 2
  ·rcases hm with rfl | rfl | rfl | rfl | rfl | rfl | rfl | rfl <;> (simp only [↓sbD,sbU,Int.reduceEq,decide_false,↓reduceIte,Nat.reduceEqDiff,Nat.reduceLT,reduceCtorEq,isConst,p3]; exact downS_here (by simpa [allow,p3] using h))
  ·rcases hm with rfl | rfl | rfl | rfl | rfl | rfl | rfl | rfl <;> (simp only [↓sbD,sbU,Int.reduceEq,decide_false,↓reduceIte,Nat.reduceEqDiff,Nat.reduceLT,reduceCtorEq,isConst,p3]; exact downS_here (by simpa [allow,p3] using h))
 ·by_cases p3 : pl = 2
  ·simp only [↓sbD,sbU,Int.reduceEq,decide_false,↓reduceIte,Nat.reduceEqDiff,Nat.reduceLT,reduceCtorEq,isConst,p3]; exact downS_here (by simpa [allow,p3] using h)
  by_cases p8 : pl = 14
  ·simp only [↓sbD,sbU,Int.reduceEq,decide_false,↓reduceIte,Nat.reduceEqDiff,Nat.reduceLT,reduceCtorEq,isConst,p8]; exact downS_here (by simpa [allow,p8] using h)
  ·simp only [↓sbD,sbU,Int.reduceEq,decide_false,↓reduceIte,Nat.reduceEqDiff,Nat.reduceLT,reduceCtorEq,isConst,p3,p8]; exact downS_here (by simpa [allow,p3,p8] using h)
 ·by_cases p1 : pl = 1
  ·rcases hm with rfl | rfl | rfl <;> (simp only [↓sbD,sbU,Int.reduceEq,decide_false,↓reduceIte,Nat.reduceEqDiff,Nat.reduceLT,reduceCtorEq,isConst,p1]; exact downS_here (by simpa [allow,p1] using h))
  by_cases p2 : pl = 2
  ·rcases hm with rfl | rfl | rfl <;> (simp only [↓sbD,sbU,Int.reduceEq,decide_false,↓reduceIte,Nat.reduceEqDiff,Nat.reduceLT,reduceCtorEq,isConst,p2]; exact downS_here (by simpa [allow,p2] using h))
  ·rcases hm with rfl | rfl | rfl <;> (simp only [↓sbD,sbU,Int.reduceEq,decide_false,↓reduceIte,Nat.reduceEqDiff,Nat.reduceLT,reduceCtorEq,isConst,p1,p2]; exact downS_here (by simpa [allow,p1,p2] using h))
 ·by_cases p1 : pl = 1
  ·simp only [↓sbD,sbU,Int.reduceEq,decide_false,↓reduceIte,Nat.reduceEqDiff,Nat.reduceLT,reduceCtorEq,isConst,p1]; exact downS_here (by simpa [allow,p1] using h)
  by_cases p2 : pl = 2
  ·simp only [↓sbD,sbU,Int.reduceEq,decide_false,↓reduceIte,Nat.reduceEqDiff,Nat.reduceLT,reduceCtorEq,isConst,p2]; exact downS_here (by simpa [allow,p2] using h)
  by_cases p3 : pl = 14
  ·simp only [↓sbD,sbU,Int.reduceEq,decide_false,↓reduceIte,Nat.reduceEqDiff,Nat.reduceLT,reduceCtorEq,isConst,p3]; exact downS_here (by simpa [allow,p3] using h)
  ·simp only [↓sbD,sbU,Int.reduceEq,decide_false,↓reduceIte,Nat.reduceEqDiff,Nat.reduceLT,reduceCtorEq,isConst,p1,p2,p3]; exact downS_here (by simpa [allow,p1,p2,p3] using h)
 ·by_cases p1 : pl = 1
  ·rcases hm with rfl | rfl <;> (simp only [↓sbD,sbU,Int.reduceEq,decide_false,↓reduceIte,Nat.reduceEqDiff,Nat.reduceLT,reduceCtorEq,isConst,p1]; exact downS_here (by simpa [allow,p1] using h))
  by_cases p2 : pl = 2
  ·rcases hm with rfl | rfl <;> (simp only [↓sbD,sbU,Int.reduceEq,decide_false,↓reduceIte,Nat.reduceEqDiff,Nat.reduceLT,reduceCtorEq,isConst,p2]; exact downS_here (by simpa [allow,p2] using h))
  by_cases p3 : pl = 15
  ·rcases hm with rfl | rfl <;> (simp only [↓sbD,sbU,Int.reduceEq,decide_false,↓reduceIte,Nat.reduceEqDiff,Nat.reduceLT,reduceCtorEq,isConst,p3]; exact downS_here (by simpa [allow,p3] using h))
  ·rcases hm with rfl | rfl <;> (simp only [↓sbD,sbU,Int.reduceEq,decide_false,↓reduceIte,Nat.reduceEqDiff,Nat.reduceLT,reduceCtorEq,isConst,p1,p2,p3]; exact downS_here (by simpa [allow,p1,p2,p3] using h))
 ·simp only [↓sbD,sbU,tyB,Int.reduceEq,Nat.reduceBneDiff,decide_false,gt_iff_lt,Bool.or_self,Bool.false_eq_true,Nat.mul_one,↓reduceIte,Nat.reduceEqDiff,Nat.reduceLT,Nat.reduceAdd,Nat.reduceLeDiff,reduceCtorEq,pairs,isConst,splice,Edp,dpv,ZV.val]
  refine specContainsI (l := [2,4,5,6,7,9,11,14,15]) (.inr ⟨1,rfl⟩) (by decide) ?_
  simp only [↓sbD,sbU,↓reduceIte,Nat.reduceLT]
  exact downS_here (by simpa [allow] using h)
 ·by_cases p1 : 1 ≤ pl
  rotate_left
  ·simp only [↓sbD,sbU,Int.reduceEq,decide_false,↓reduceIte,Nat.reduceEqDiff,Nat.reduceLT,reduceCtorEq,isConst,p1]; exact downS_here (by simpa [allow,p1] using h)
  by_cases p2 : pl ≤ 16
  rotate_left
  ·simp only [↓sbD,sbU,Int.reduceEq,decide_false,↓reduceIte,Nat.reduceEqDiff,Nat.reduceLT,reduceCtorEq,isConst,p1,p2]; exact downS_here (by simpa [allow,p1,p2] using h)
  by_cases p3 : pl = 12
  ·simp only [↓sbD,sbU,Int.reduceEq,Int.reduceLE,decide_false,↓reduceIte,Nat.reduceEqDiff,Nat.reduceLT,reduceCtorEq,isConst,p3]; exact downS_here (by simpa [allow,p3] using h)
  by_cases p4 : pl = 13
  ·simp only [↓sbD,sbU,Int.reduceEq,Int.reduceLE,decide_false,↓reduceIte,Nat.reduceEqDiff,Nat.reduceLT,reduceCtorEq,isConst,p4]; exact downS_here (by simpa [allow,p4] using h)
  ·simp only [↓sbD,sbU,Int.reduceEq,decide_false,↓reduceIte,Nat.reduceEqDiff,Nat.reduceLT,reduceCtorEq,isConst,p1,p2,p3,p4]; exact downS_here (by simpa [allow,p1,p2,p3,p4] using h)
end
end Go.Proofs.YtjkhhdknplelcaaGreatDoor.AbsB
