/-
  Parts of a law's proof.
-/
import Derived.Test.YtjkhhdknplelcaaGreatDoorAYrqbJ
import Derived.Test.YtjkhhdknplelcaaGreatDoorAPrqeJ
namespace Go.Proofs.YtjkhhdknplelcaaGreatDoor.AbsA
open Go AbsYtjkhhdknplelcaaGreatDoor Abs
set_option maxRecDepth 100000
set_option maxHeartbeats 8000000
set_option linter.unusedSimpArgs false
set_option linter.unusedVariables false
attribute [local irreducible] afterS afterOpS opSK OpsS TrS CodeS condS condW thenS thenQ guardS guardTS outS drawS trSK consS
theorem DL.bareF {α : Type} {enc : α → List Value} {sz : Nat} {v : Value} {l : List α} (h : DL enc sz v l) : DL enc sz (bare v) l ∧ frz E.ng E.nb (bare v) = true := by
 rcases h with ⟨h1,rfl⟩ | ⟨m,rfl⟩
 ·exact ⟨.inl ⟨h1,rfl⟩,frz_nils⟩
 ·refine ⟨.inr ⟨_,rfl⟩,?_⟩
  show frz E.ng E.nb (dsl (if m ≤ 1 then m else 0) sz l.length (l.flatMap enc)) = true
  rw [frz_dsl]
  split <;> simp_all
theorem boxPk {p : Pk} {vp vw vs vf vc : Value} (d1 : DL propC 4 vp p.props) (d2 : DL propC 4 vw p.will.props) (d3 : DL subC 5 vs p.subs) (d4 : DL strC1 1 vf p.filts) (d5 : DL intC 1 vc p.codes) :
  ∃ up uw us uf uc,DL propC 4 up p.props ∧ DL propC 4 uw p.will.props ∧ DL subC 5 us p.subs ∧ DL strC1 1 uf p.filts ∧ DL intC 1 uc p.codes ∧ frzL E.ng E.nb (pkC p up uw us uf uc) = true ∧
   ∀ σ,boxS 29 E (pkC p vp vw vs vf vc) σ = .val (dptr (pkC p up uw us uf uc)) σ := by
 by_cases hz : frzL E.ng E.nb (pkC p vp vw vs vf vc) = true
 ·exact ⟨vp,vw,vs,vf,vc,d1,d2,d3,d4,d5,hz,fun σ => box_deep (by rw [hz]; rfl)⟩
 ·have hb : bareL (pkC p vp vw vs vf vc) = pkC p (bare vp) (bare vw) (bare vs) (bare vf) (bare vc) := rfl
  have hf : frzL E.ng E.nb (pkC p (bare vp) (bare vw) (bare vs) (bare vf) (bare vc)) = true := by
   simp only [pkC,frzL,frz_int,frz_bool,frz_str,d1.bareF.2,d2.bareF.2,d3.bareF.2,d4.bareF.2,d5.bareF.2,Bool.and_self]
  refine ⟨_,_,_,_,_,d1.bareF.1,d2.bareF.1,d3.bareF.1,d4.bareF.1,d5.bareF.1,hf,fun σ => ?_⟩
  unfold boxS
  rw [if_neg (by simp [hz]),hb,if_pos (by rw [hf]; rfl)]
theorem boxWl {w : Wl} {vw : Value} (d : DL propC 4 vw w.props) : ∃ uw,DL propC 4 uw w.props ∧ ∀ σ,boxS 24 E (wlC w vw) σ = .val (dptr (wlC w uw)) σ := by
 by_cases hz : frzL E.ng E.nb (wlC w vw) = true
 ·exact ⟨vw,d,fun σ => box_deep (by rw [hz]; rfl)⟩
 ·have hb : bareL (wlC w vw) = wlC w (bare vw) := rfl
  have hf : frzL E.ng E.nb (wlC w (bare vw)) = true := by
   simp only [wlC,frzL,frz_int,frz_bool,frz_str,d.bareF.2,Bool.and_self]
  refine ⟨_,d.bareF.1,fun σ => ?_⟩
  unfold boxS
  rw [if_neg (by simp [hz]),hb,if_pos (by rw [hf]; rfl)]
def kindG (k : Int) : Nat :=
 if k = 2 then 1 else if k = 4 ∨ k = 5 then 2 else if k = 6 ∨ k = 7 then 4 else if k = 9 then 8 else if k = 11 then 16 else if k = 14 then 32 else if k = 15 then 64 else 0
def codesA : List Int := [128,131,135,144,153,129,130,137,140,149,154,155,156,157,159,139,141,142,147,148,150,152,160,151,158,161,162,143,145,132,133,134,136,138,146]
def codesB : List Int := [0,1,2,4,16,17,24,25]
def goodG (c : Int) : Nat :=
 if c = 0 then 127 else if c = 1 ∨ c = 2 then 8 else if c = 4 then 32 else if c = 16 then 2 else if c = 17 then 16 else if c = 24 ∨ c = 25 then 64 else 0
def codeG (c : Int) : Nat :=
 if c = 128 ∨ c = 131 ∨ c = 135 then 59 else if c = 144 ∨ c = 153 then 35
 else if c = 129 ∨ c = 130 ∨ c = 137 ∨ c = 140 ∨ c = 149 ∨ c = 154 ∨ c = 155 ∨ c = 156 ∨ c = 157 ∨ c = 159 then 33
 else if c = 139 ∨ c = 141 ∨ c = 142 ∨ c = 147 ∨ c = 148 ∨ c = 150 ∨ c = 152 ∨ c = 160 then 32
 else if c = 151 then 43 else if c = 158 ∨ c = 161 ∨ c = 162 then 40 else if c = 143 then 56 else if c = 145 then 26
 else if c = 132 ∨ c = 133 ∨ c = 134 ∨ c = 136 ∨ c = 138 then 1 else if c = 146 then 4 else goodG c
def alw (k c : Int) : Bool := codeG c &&& kindG k != 0
section
variable {σ : AHeap} {Q : Value → AHeap → Prop}
theorem specGroup {k : Int} (h : Q (.int .i64 (kindG k : Int)) σ) : CallS E B 151 [.int .i64 k] σ Q := by
 refine call151 (by simp) ?_
 simp only [strip,bodyOf,Tryz.f151,getD_body,keepN,bareOp_mk,List.map_cons,List.map_nil,↓reduceIte,Bool.false_eq_true]
 by_cases hm : k = 2 ∨ k = 4 ∨ k = 5 ∨ k = 6 ∨ k = 7 ∨ k = 9 ∨ k = 11 ∨ k = 14 ∨ k = 15
 ·rcases hm with rfl | rfl | rfl | rfl | rfl | rfl | rfl | rfl | rfl <;>
   (simp only [↓sbD,sbU,Int.reduceEq,decide_false,↓reduceIte,Nat.reduceEqDiff,Nat.reduceLT,reduceCtorEq,isConst]
    exact downS_here h)
 ·simp only [not_or] at hm
  have e : kindG k = 0 := by simp [kindG,hm]
  rw [e] at h
  obtain ⟨n1,n2,n3,n4,n5,n6,n7,n8,n9⟩ := hm
  simp only [↓sbD,sbU,decide_false,↓reduceIte,Nat.reduceEqDiff,Nat.reduceLT,reduceCtorEq,isConst,n1,n2,n3,n4,n5,n6,n7,n8,n9]
  exact downS_here h
theorem specGood {c : Int} (h : Q (.int .i64 (goodG c : Int)) σ) : CallS E B 167 [.int .i64 c] σ Q := by
 refine call167 (by simp) ?_
 simp only [strip,bodyOf,Tryz.f167,getD_body,keepN,bareOp_mk,List.map_cons,List.map_nil,↓reduceIte,Bool.false_eq_true]
 by_cases hm : c ∈ codesB
 ·simp only [codesB,List.mem_cons,List.not_mem_nil,or_false] at hm
  rcases hm with rfl | rfl | rfl | rfl | rfl | rfl | rfl | rfl <;>
   (simp only [↓sbD,sbU,Int.reduceEq,decide_false,↓reduceIte,Nat.reduceEqDiff,Nat.reduceLT,reduceCtorEq,isConst]
    exact downS_here h)
 ·simp only [codesB,List.mem_cons,List.not_mem_nil,or_false,not_or] at hm
  have e : goodG c = 0 := by simp [goodG,hm]
  rw [e] at h
  obtain ⟨n1,n2,n3,n4,n5,n6,n7,n8⟩ := hm
  simp only [↓sbD,sbU,decide_false,↓reduceIte,Nat.reduceEqDiff,Nat.reduceLT,reduceCtorEq,isConst,n1,n2,n3,n4,n5,n6,n7,n8]
  exact downS_here h
theorem or_0_24 : aint .or .i64 0 24 = some (.int .i64 24) := by kernel_rfl
theorem or_24_2 : aint .or .i64 24 2 = some (.int .i64 26) := by kernel_rfl
theorem or_26_1 : aint .or .i64 26 1 = some (.int .i64 27) := by kernel_rfl
theorem or_27_32 : aint .or .i64 27 32 = some (.int .i64 59) := by kernel_rfl
theorem or_0_2 : aint .or .i64 0 2 = some (.int .i64 2) := by kernel_rfl
theorem or_2_1 : aint .or .i64 2 1 = some (.int .i64 3) := by kernel_rfl
theorem or_3_32 : aint .or .i64 3 32 = some (.int .i64 35) := by kernel_rfl
theorem or_0_1 : aint .or .i64 0 1 = some (.int .i64 1) := by kernel_rfl
theorem or_1_32 : aint .or .i64 1 32 = some (.int .i64 33) := by kernel_rfl
theorem or_0_32 : aint .or .i64 0 32 = some (.int .i64 32) := by kernel_rfl
theorem or_0_3 : aint .or .i64 0 3 = some (.int .i64 3) := by kernel_rfl
theorem or_3_8 : aint .or .i64 3 8 = some (.int .i64 11) := by kernel_rfl
theorem or_11_32 : aint .or .i64 11 32 = some (.int .i64 43) := by kernel_rfl
theorem or_0_8 : aint .or .i64 0 8 = some (.int .i64 8) := by kernel_rfl
theorem or_8_32 : aint .or .i64 8 32 = some (.int .i64 40) := by kernel_rfl
theorem specGroups {c : Int} (h : Q (.int .i64 (codeG c : Int)) σ) : CallS E B 150 [.int .i64 c] σ Q := by
 refine call150 (by simp) ?_
 simp only [strip,bodyOf,Tryz.f150,getD_body,keepN,bareOp_mk,lapp_cons,lapp_nil,List.map_cons,List.map_nil,↓reduceIte,Bool.false_eq_true]
 by_cases hm : c ∈ codesA
 ·simp only [codesA,List.mem_cons,List.not_mem_nil,or_false] at hm
  rcases hm with rfl | rfl | rfl | rfl | rfl | rfl | rfl | rfl | rfl | rfl | rfl | rfl | rfl | rfl | rfl | rfl | rfl | rfl | rfl | rfl | rfl | rfl | rfl | rfl | rfl | rfl | rfl | rfl | rfl | rfl | rfl | rfl | rfl | rfl | rfl <;>
   (simp only [↓sbD,sbU,Int.reduceEq,decide_false,↓reduceIte,Nat.reduceEqDiff,Nat.reduceLT,reduceCtorEq,isConst,or_0_24,or_24_2,or_26_1,or_27_32,or_0_2,or_2_1,or_3_32,or_0_1,or_1_32,or_0_32,or_0_3,or_3_8,or_11_32,or_0_8,or_8_32]
    exact downS_here h)
 ·simp only [codesA,List.mem_cons,List.not_mem_nil,or_false,not_or] at hm
  have e : codeG c = goodG c := by simp [codeG,hm]
  rw [e] at h
  obtain ⟨n1,n2,n3,n4,n5,n6,n7,n8,n9,n10,n11,n12,n13,n14,n15,n16,n17,n18,n19,n20,n21,n22,n23,n24,n25,n26,n27,n28,n29,n30,n31,n32,n33,n34,n35⟩ := hm
  simp only [↓sbD,sbU,decide_false,↓reduceIte,Nat.reduceEqDiff,Nat.reduceLT,reduceCtorEq,isConst,n1,n2,n3,n4,n5,n6,n7,n8,n9,n10,n11,n12,n13,n14,n15,n16,n17,n18,n19,n20,n21,n22,n23,n24,n25,n26,n27,n28,n29,n30,n31,n32,n33,n34,n35]
  refine specGood ?_
  simp only [↓sbD,sbU,↓reduceIte,Nat.reduceLT]
  exact downS_here h
theorem and_nat {n m : Nat} (hn : n < 2 ^ 62) (hm : m < 2 ^ 62) : aint .and .i64 (n : Int) (m : Int) = some (.int .i64 ((n &&& m : Nat) : Int)) := by
 have key : ((BitVec.ofInt 64 (n : Int)) &&& (BitVec.ofInt 64 (m : Int))).toNat = n &&& m := by
  rw [BitVec.toNat_and,BitVec.ofInt_natCast,BitVec.ofInt_natCast,BitVec.toNat_ofNat,BitVec.toNat_ofNat]
  rw [Nat.mod_eq_of_lt (by omega),Nat.mod_eq_of_lt (by omega)]
 have hle : n &&& m ≤ n := Nat.and_le_left
 show some (Value.int .i64 (IntKind.i64.wrap ((((BitVec.ofInt 64 (n : Int)) &&& (BitVec.ofInt 64 (m : Int))).toNat : Nat) : Int))) = _
 rw [key,wrap64 ⟨by omega,by omega⟩]
theorem kindG_lt (k : Int) : kindG k < 2 ^ 62 := by
 unfold kindG
 repeat' split
 all_goals decide
theorem goodG_lt (k : Int) : goodG k < 2 ^ 62 := by
 unfold goodG
 repeat' split
 all_goals decide
theorem codeG_lt (k : Int) : codeG k < 2 ^ 62 := by
 unfold codeG
 repeat' split
 all_goals first | decide | exact goodG_lt k
theorem specAlwR {k c : Int} (h : Q (.bool (alw k c)) σ) : CallS E B 123 [.int .i64 k,.int .i64 c] σ Q := by
 refine call123 (by simp) ?_
 simp only [strip,bodyOf,Tryz.f123,getD_body,keepN,bareOp_mk,List.map_cons,List.map_nil,↓reduceIte,Bool.false_eq_true]
 simp (disch := first | assumption | simp) only [↓sbD,sbU,↓reduceIte,Nat.reduceEqDiff,Nat.reduceLT]
 refine specGroups ?_
 simp (disch := first | assumption | simp) only [↓sbD,sbU,↓reduceIte,Nat.reduceLT,reduceCtorEq]
 refine specGroup ?_
 have ha := and_nat (codeG_lt c) (kindG_lt k)
 unfold alw at h
 by_cases h0 : codeG c &&& kindG k = 0
 ·rw [h0] at ha h
  simp (disch := first | assumption | simp) only [↓sbD,sbU,Bool.or_self,↓reduceIte,Nat.reduceEqDiff,Nat.reduceLT,isConst,ha]
  exact downS_here h
 ·have h1 : ¬ ((codeG c &&& kindG k : Nat) : Int) = 0 := by omega
  have h2 : (codeG c &&& kindG k != 0) = true := by simpa using h0
  rw [h2] at h
  simp (disch := first | assumption | simp) only [↓sbD,sbU,Bool.or_self,↓reduceIte,Nat.reduceEqDiff,Nat.reduceLT,isConst,ha,h1]
  exact downS_here h
end
section
variable {σ : AHeap} {Q : Value → AHeap → Prop}
end
abbrev E3 := Nat × Nat × Nat
def pkz : Pk := ⟨0,0,0,[],false,0,emp,⟨false,emp,emp,0,false,[]⟩,false,emp,false,emp,false,emp,emp,0,false,false,[],[],[]⟩
def zeL : List Value := pkC pkz (.slice none 0 0) (.slice none 0 0) (.slice none 0 0) (.slice none 0 0) (.slice none 0 0)
theorem zePk : azero E 29 = some [.int .i64 0,.int .i64 0,.int .i64 0,.slice none 0 0,.bool false,.int .i64 0,.string emp,.bool false,.string emp,.string emp,.int .i64 0,.bool false,.slice none 0 0,.bool false,.string emp,.bool false,.string emp,.bool false,.string emp,.string emp,.int .i64 0,.bool false,.bool false,.slice none 0 0,.slice none 0 0,.slice none 0 0] := rfl
def codeR (s : ByteArray) (q : Nat) : Nat × Nat := match numR s q 1 with
 | .ok (n,q') => (n,q')
 | .error _ => (0,q)
def tailE (s : ByteArray) (c : Int) : Except E3 (List Pr × Nat) → Except E3 (Int × List Pr)
 | .error e => .error e
 | .ok (l,q) => if q = s.size then .ok (c,l) else .error (2,129,q)
def TailA (kind : Int) (at' : Nat) (s : ByteArray) (q : Nat) (r : Except E3 (Int × List Pr)) : Prop :=
 if alw kind ((codeR s q).1 : Int) = false then r = .error (2,129,at')
 else if (codeR s q).2 < s.size then ∃ r',ReadP kind s (codeR s q).2 r' ∧ r = tailE s (codeR s q).1 r'
 else r = .ok ((codeR s q).1,[])
theorem dl_vc {α : Type} {enc : α → List Value} {sz : Nat} {v : Value} {l : List α} (h : DL enc sz v l) : vcells v = [v] ∧ oneCell v = true := by
 rcases h with ⟨_,rfl⟩ | ⟨m,rfl⟩ <;> exact ⟨rfl,rfl⟩
theorem numR_one {s : ByteArray} {q : Nat} (h : q < s.size) : ∃ n,numR s q 1 = .ok (n,q + 1) := by
 unfold numR rawR
 rw [if_neg (by omega),if_neg (by omega)]
 exact ⟨_,rfl⟩
theorem codeR_le {s : ByteArray} {q : Nat} (h : q ≤ s.size) : (codeR s q).2 ≤ s.size := by
 unfold codeR
 cases hn : numR s q 1 with
 | error e => exact h
 | ok a => obtain ⟨n,q'⟩ := a; exact (numR_ok hn).2
theorem codeR_at {s : ByteArray} {q : Nat} (h : ¬ q < s.size) : codeR s q = (0,q) := by
 unfold codeR numR rawR
 rw [if_neg (by omega),if_pos (by omega)]
theorem shr4 {σ : AHeap} {f : Int} {t : Nat} {cs : Bool} : abin E σ .shr t cs (.int .i64 f) (.int .u64 4) = some (.int .i64 (f / 16)) := by
 simp only [abin,ashift]
 rw [if_neg (by omega)]
 show some (Value.int .i64 (Int.fdiv f 16)) = _
 rw [Int.fdiv_eq_ediv_of_nonneg _ (by omega)]
section
variable {σ : AHeap} {Q : Value → AHeap → Prop} {r q : Nat} {s : ByteArray}
end
def MadeR (f : Int) (D : ByteArray → Except E3 Pk → Prop) (w : ByteArray ⊕ (Nat × Nat)) (r : Except E3 (Int × ByteArray)) : Prop := match w with
 | .inr (k,q) => r = .error (k,129,q)
 | .inl b => ∃ d,D b d ∧ match d with
  | .error e => r = .error e
  | .ok _ => r = .ok (f,b)
def propsB (kind : Int) (l : List Pr) : Except E3 ByteArray := if l = [] then .ok emp else encP kind l
theorem zeFra : azero E 33 = some [.int .i64 0,.string emp] := rfl
theorem runW_le : ∀ (l : List Act) (b c : ByteArray) (n : Nat),b.size ≤ n → runW b l = .inl c → c.size ≤ n + (l.map fun a => a.s.size + 4).sum
 | [],b,c,n,h,he => by injection he with he; subst he; simpa using h
 | a :: l,b,c,n,h,he => by
  simp only [runW] at he
  cases ha : actW a with
  | inr e => rw [ha] at he; cases he
  | inl m =>
   rw [ha] at he
   have := actW_size ha
   have := runW_le l (b ++ m) c (n + (a.s.size + 4)) (by rw [size_app]; omega) he
   simp only [List.map_cons,List.sum_cons]
   omega
section
variable {σ : AHeap} {Q : Value → AHeap → Prop}
end
theorem actsP_sum {p : Pr} (h1 : p.s.size ≤ 200) (h2 : p.v.size ≤ 200) : ((actsP p).map fun a => a.s.size + 4).sum ≤ 412 := by
 have he : emp.size = 0 := rfl
 unfold actsP
 by_cases h9 : typI p.id = 9
 ·rw [if_pos h9]; simp only [List.map_cons,List.map_nil,List.sum_cons,List.sum_nil,he]; omega
 ·rw [if_neg h9]
  by_cases h0 : typI p.id = 0
  ·rw [if_pos h0]; simp only [List.map_cons,List.map_nil,List.sum_cons,List.sum_nil,he]; omega
  ·rw [if_neg h0]; simp only [List.map_cons,List.map_nil,List.sum_cons,List.sum_nil,he]; omega
theorem acts_sum : ∀ {l : List Pr},(∀ p ∈ l,p.s.size ≤ 200 ∧ p.v.size ≤ 200) → ((l.flatMap actsP).map fun a => a.s.size + 4).sum ≤ 412 * l.length
 | [],_ => by simp
 | p :: l,h => by
  have h1 := h p (by simp)
  have h2 := actsP_sum h1.1 h1.2
  have h3 := acts_sum (l := l) fun q hq => h q (by simp [hq])
  simp only [List.flatMap_cons,List.map_append,List.sum_append,List.length_cons]
  omega
theorem encP_size {pl : Int} {l : List Pr} {c : ByteArray} (hf : fewPr l) (h : encP pl l = .ok c) : c.size ≤ 28844 := by
 unfold encP at h
 cases hc : chk pl [] l with
 | some e => rw [hc] at h; cases h
 | none =>
  rw [hc] at h
  simp only at h
  cases hr : runW emp (l.flatMap actsP) with
  | inr e => rw [hr] at h; cases h
  | inl b =>
   rw [hr] at h
   simp only [Except.ok.injEq] at h
   subst h
   have h1 := runW_le _ emp b 0 (Nat.le_refl _) hr
   have h2 := acts_sum hf.2
   have h3 := hf.1
   have h4 : 412 * l.length ≤ 412 * 70 := Nat.mul_le_mul_left _ h3
   rw [size_app,str_size,enc_len]
   have := (vsize_pos b.size).2
   omega
section
variable {σ : AHeap} {Q : Value → AHeap → Prop} {r q p : Nat} {s : ByteArray}
end
end Go.Proofs.YtjkhhdknplelcaaGreatDoor.AbsA
