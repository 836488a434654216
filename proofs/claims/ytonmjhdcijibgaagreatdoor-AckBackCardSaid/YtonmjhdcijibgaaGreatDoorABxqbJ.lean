/-
  Parts of a law's proof.
-/
import Derived.Test.YtonmjhdcijibgaaGreatDoorAYrqbJ
import Derived.Test.YtonmjhdcijibgaaGreatDoorAPrqeJ
namespace Go.Proofs.YtonmjhdcijibgaaGreatDoor.AbsB
open Go AbsYtonmjhdcijibgaaGreatDoor Abs
set_option maxRecDepth 100000
set_option maxHeartbeats 8000000
set_option linter.unusedSimpArgs false
set_option linter.unusedVariables false
attribute [local irreducible] afterS afterOpS opSK OpsS TrS CodeS condS condW thenS thenQ guardS guardTS outS drawS trSK consS
theorem DL.bareF {α : Type} {enc : α → List Value} {sz : Nat} {v : Value} {l : List α} (h : DL enc sz v l) : DL enc sz (bare v) l ∧ frz E.ng E.nb (bare v) = true := by
 rcases h with ⟨h1,rfl⟩ | ⟨m,rfl⟩
 ·exact ⟨.inl ⟨h1,rfl⟩,frz_nils⟩
 ·refine ⟨.inr ⟨_,rfl⟩,?_⟩
  show frz E.ng E.nb (dsl (if m ≤ 1 then m else 0) sz l.length (l.flatMap enc)) = true
  rw [frz_dsl]
  split <;> simp_all
theorem boxPk {p : Pk} {vp vw vs vf vc : Value} (d1 : DL propC 4 vp p.props) (d2 : DL propC 4 vw p.will.props) (d3 : DL subC 5 vs p.subs) (d4 : DL strC1 1 vf p.filts) (d5 : DL intC 1 vc p.codes) :
  ∃ up uw us uf uc,DL propC 4 up p.props ∧ DL propC 4 uw p.will.props ∧ DL subC 5 us p.subs ∧ DL strC1 1 uf p.filts ∧ DL intC 1 uc p.codes ∧ frzL E.ng E.nb (pkC p up uw us uf uc) = true ∧
   ∀ σ,boxS 54 E (pkC p vp vw vs vf vc) σ = .val (dptr (pkC p up uw us uf uc)) σ := by
 by_cases hz : frzL E.ng E.nb (pkC p vp vw vs vf vc) = true
 ·exact ⟨vp,vw,vs,vf,vc,d1,d2,d3,d4,d5,hz,fun σ => box_deep (by rw [hz]; rfl)⟩
 ·have hb : bareL (pkC p vp vw vs vf vc) = pkC p (bare vp) (bare vw) (bare vs) (bare vf) (bare vc) := rfl
  have hf : frzL E.ng E.nb (pkC p (bare vp) (bare vw) (bare vs) (bare vf) (bare vc)) = true := by
   simp only [pkC,frzL,frz_int,frz_bool,frz_str,d1.bareF.2,d2.bareF.2,d3.bareF.2,d4.bareF.2,d5.bareF.2,Bool.and_self]
  refine ⟨_,_,_,_,_,d1.bareF.1,d2.bareF.1,d3.bareF.1,d4.bareF.1,d5.bareF.1,hf,fun σ => ?_⟩
  unfold boxS
  rw [if_neg (by simp [hz]),hb,if_pos (by rw [hf]; rfl)]
theorem boxWl {w : Wl} {vw : Value} (d : DL propC 4 vw w.props) : ∃ uw,DL propC 4 uw w.props ∧ ∀ σ,boxS 49 E (wlC w vw) σ = .val (dptr (wlC w uw)) σ := by
 by_cases hz : frzL E.ng E.nb (wlC w vw) = true
 ·exact ⟨vw,d,fun σ => box_deep (by rw [hz]; rfl)⟩
 ·have hb : bareL (wlC w vw) = wlC w (bare vw) := rfl
  have hf : frzL E.ng E.nb (wlC w (bare vw)) = true := by
   simp only [wlC,frzL,frz_int,frz_bool,frz_str,d.bareF.2,Bool.and_self]
  refine ⟨_,d.bareF.1,fun σ => ?_⟩
  unfold boxS
  rw [if_neg (by simp [hz]),hb,if_pos (by rw [hf]; rfl)]
def kindG (k : Int) : Nat :=
 if k = 2 then 1 else if k = 4 ∨ k = 5 then 2 else if k = 6 ∨ k = 7 then 4 else if k = 9 then 8 else if k = 11 then 16 else if k = 14 then 32 else if k = 15 then 64 else 0
def codesA : List Int := [128,131,135,144,153,129,130,137,140,149,154,155,156,157,159,139,141,142,147,148,150,152,160,151,158,161,162,143,145,132,133,134,136,138,146]
def codesB : List Int := [0,1,2,4,16,17,24,25]
def goodG (c : Int) : Nat :=
 if c = 0 then 127 else if c = 1 ∨ c = 2 then 8 else if c = 4 then 32 else if c = 16 then 2 else if c = 17 then 16 else if c = 24 ∨ c = 25 then 64 else 0
def codeG (c : Int) : Nat :=
 if c = 128 ∨ c = 131 ∨ c = 135 then 59 else if c = 144 ∨ c = 153 then 35
 else if c = 129 ∨ c = 130 ∨ c = 137 ∨ c = 140 ∨ c = 149 ∨ c = 154 ∨ c = 155 ∨ c = 156 ∨ c = 157 ∨ c = 159 then 33
 else if c = 139 ∨ c = 141 ∨ c = 142 ∨ c = 147 ∨ c = 148 ∨ c = 150 ∨ c = 152 ∨ c = 160 then 32
 else if c = 151 then 43 else if c = 158 ∨ c = 161 ∨ c = 162 then 40 else if c = 143 then 56 else if c = 145 then 26
 else if c = 132 ∨ c = 133 ∨ c = 134 ∨ c = 136 ∨ c = 138 then 1 else if c = 146 then 4 else goodG c
def alw (k c : Int) : Bool := codeG c &&& kindG k != 0
section
variable {σ : AHeap} {Q : Value → AHeap → Prop}
theorem specGroup {k : Int} (h : Q (.int .i64 (kindG k : Int)) σ) : CallS E B 158 [.int .i64 k] σ Q := by
 refine call158 (by simp) ?_
 simp only [strip,bodyOf,Tryz.f158,getD_body,keepN,bareOp_mk,List.map_cons,List.map_nil,↓reduceIte,Bool.false_eq_true]
 by_cases hm : k = 2 ∨ k = 4 ∨ k = 5 ∨ k = 6 ∨ k = 7 ∨ k = 9 ∨ k = 11 ∨ k = 14 ∨ k = 15
 ·rcases hm with rfl | rfl | rfl | rfl | rfl | rfl | rfl | rfl | rfl <;>
   (simp only [↓sbD,sbU,Int.reduceEq,decide_false,↓reduceIte,Nat.reduceEqDiff,Nat.reduceLT,reduceCtorEq,isConst]
    exact downS_here h)
 ·simp only [not_or] at hm
  have e : kindG k = 0 := by simp [kindG,hm]
  rw [e] at h
  obtain ⟨n1,n2,n3,n4,n5,n6,n7,n8,n9⟩ := hm
  simp only [↓sbD,sbU,decide_false,↓reduceIte,Nat.reduceEqDiff,Nat.reduceLT,reduceCtorEq,isConst,n1,n2,n3,n4,n5,n6,n7,n8,n9]
  exact downS_here h
theorem specGood {c : Int} (h : Q (.int .i64 (goodG c : Int)) σ) : CallS E B 173 [.int .i64 c] σ Q := by
 refine call173 (by simp) ?_
 simp only [strip,bodyOf,Tryz.f173,getD_body,keepN,bareOp_mk,List.map_cons,List.map_nil,↓reduceIte,Bool.false_eq_true]
 by_cases hm : c ∈ codesB
 ·simp only [codesB,List.mem_cons,List.not_mem_nil,or_false] at hm
  rcases hm with rfl | rfl | rfl | rfl | rfl | rfl | rfl | rfl <;>
   (simp only [↓sbD,sbU,Int.reduceEq,decide_false,↓reduceIte,Nat.reduceEqDiff,Nat.reduceLT,reduceCtorEq,isConst]
    exact downS_here h)
 ·simp only [codesB,List.mem_cons,List.not_mem_nil,or_false,not_or] at hm
  have e : goodG c = 0 := by simp [goodG,hm]
  rw [e] at h
  obtain ⟨n1,n2,n3,n4,n5,n6,n7,n8⟩ := hm
  simp only [↓sbD,sbU,decide_false,↓reduceIte,Nat.reduceEqDiff,Nat.reduceLT,reduceCtorEq,isConst,n1,n2,n3,n4,n5,n6,n7,n8]
  exact downS_here h
theorem or_0_24 : aint .or .i64 0 24 = some (.int .i64 24) := by kernel_rfl
theorem or_24_2 : aint .or .i64 24 2 = some (.int .i64 26) := by kernel_rfl
theorem or_26_1 : aint .or .i64 26 1 = some (.int .i64 27) := by kernel_rfl
theorem or_27_32 : aint .or .i64 27 32 = some (.int .i64 59) := by kernel_rfl
theorem or_0_2 : aint .or .i64 0 2 = some (.int .i64 2) := by kernel_rfl
theorem or_2_1 : aint .or .i64 2 1 = some (.int .i64 3) := by kernel_rfl
theorem or_3_32 : aint .or .i64 3 32 = some (.int .i64 35) := by kernel_rfl
theorem or_0_1 : aint .or .i64 0 1 = some (.int .i64 1) := by kernel_rfl
theorem or_1_32 : aint .or .i64 1 32 = some (.int .i64 33) := by kernel_rfl
theorem or_0_32 : aint .or .i64 0 32 = some (.int .i64 32) := by kernel_rfl
theorem or_0_3 : aint .or .i64 0 3 = some (.int .i64 3) := by kernel_rfl
theorem or_3_8 : aint .or .i64 3 8 = some (.int .i64 11) := by kernel_rfl
theorem or_11_32 : aint .or .i64 11 32 = some (.int .i64 43) := by kernel_rfl
theorem or_0_8 : aint .or .i64 0 8 = some (.int .i64 8) := by kernel_rfl
theorem or_8_32 : aint .or .i64 8 32 = some (.int .i64 40) := by kernel_rfl
theorem specGroups {c : Int} (h : Q (.int .i64 (codeG c : Int)) σ) : CallS E B 157 [.int .i64 c] σ Q := by
 refine call157 (by simp) ?_
 simp only [strip,bodyOf,Tryz.f157,getD_body,keepN,bareOp_mk,lapp_cons,lapp_nil,List.map_cons,List.map_nil,↓reduceIte,Bool.false_eq_true]
 by_cases hm : c ∈ codesA
 ·simp only [codesA,List.mem_cons,List.not_mem_nil,or_false] at hm
  rcases hm with rfl | rfl | rfl | rfl | rfl | rfl | rfl | rfl | rfl | rfl | rfl | rfl | rfl | rfl | rfl | rfl | rfl | rfl | rfl | rfl | rfl | rfl | rfl | rfl | rfl | rfl | rfl | rfl | rfl | rfl | rfl | rfl | rfl | rfl | rfl <;>
   (simp only [↓sbD,sbU,Int.reduceEq,decide_false,↓reduceIte,Nat.reduceEqDiff,Nat.reduceLT,reduceCtorEq,isConst,or_0_24,or_24_2,or_26_1,or_27_32,or_0_2,or_2_1,or_3_32,or_0_1,or_1_32,or_0_32,or_0_3,or_3_8,or_11_32,or_0_8,or_8_32]
    exact downS_here h)
 ·simp only [codesA,List.mem_cons,List.not_mem_nil,or_false,not_or] at hm
  have e : codeG c = goodG c := by simp [codeG,hm]
  rw [e] at h
  obtain ⟨n1,n2,n3,n4,n5,n6,n7,n8,n9,n10,n11,n12,n13,n14,n15,n16,n17,n18,n19,n20,n21,n22,n23,n24,n25,n26,n27,n28,n29,n30,n31,n32,n33,n34,n35⟩ := hm
  simp only [↓sbD,sbU,decide_false,↓reduceIte,Nat.reduceEqDiff,Nat.reduceLT,reduceCtorEq,isConst,n1,n2,n3,n4,n5,n6,n7,n8,n9,n10,n11,n12,n13,n14,n15,n16,n17,n18,n19,n20,n21,n22,n23,n24,n25,n26,n27,n28,n29,n30,n31,n32,n33,n34,n35]
  refine specGood ?_
  simp only [↓sbD,sbU,↓reduceIte,Nat.reduceLT]
  exact downS_here h
theorem and_nat {n m : Nat} (hn : n < 2 ^ 62) (hm : m < 2 ^ 62) : aint .and .i64 (n : Int) (m : Int) = some (.int .i64 ((n &&& m : Nat) : Int)) := by
 have key : ((BitVec.ofInt 64 (n : Int)) &&& (BitVec.ofInt 64 (m : Int))).toNat = n &&& m := by
  rw [BitVec.toNat_and,BitVec.ofInt_natCast,BitVec.ofInt_natCast,BitVec.toNat_ofNat,BitVec.toNat_ofNat]
  rw [Nat.mod_eq_of_lt (by omega),Nat.mod_eq_of_lt (by omega)]
 have hle : n &&& m ≤ n := Nat.and_le_left
 show some (Value.int .i64 (IntKind.i64.wrap ((((BitVec.ofInt 64 (n : Int)) &&& (BitVec.ofInt 64 (m : Int))).toNat : Nat) : Int))) = _
 rw [key,wrap64 ⟨by omega,by omega⟩]
theorem kindG_lt (k : Int) : kindG k < 2 ^ 62 := by
 unfold kindG
 repeat' split
 all_goals decide
theorem goodG_lt (k : Int) : goodG k < 2 ^ 62 := by
 unfold goodG
 repeat' split
 all_goals decide
theorem codeG_lt (k : Int) : codeG k < 2 ^ 62 := by
 unfold codeG
 repeat' split
 all_goals first | decide | exact goodG_lt k
theorem specAlwR {k c : Int} (h : Q (.bool (alw k c)) σ) : CallS E B 125 [.int .i64 k,.int .i64 c] σ Q := by
 refine call125 (by simp) ?_
 simp only [strip,bodyOf,Tryz.f125,getD_body,keepN,bareOp_mk,List.map_cons,List.map_nil,↓reduceIte,Bool.false_eq_true]
 simp (disch := first | assumption | simp) only [↓sbD,sbU,↓reduceIte,Nat.reduceEqDiff,Nat.reduceLT]
 refine specGroups ?_
 simp (disch := first | assumption | simp) only [↓sbD,sbU,↓reduceIte,Nat.reduceLT,reduceCtorEq]
 refine specGroup ?_
 have ha := and_nat (codeG_lt c) (kindG_lt k)
 unfold alw at h
 by_cases h0 : codeG c &&& kindG k = 0
 ·rw [h0] at ha h
  simp (disch := first | assumption | simp) only [↓sbD,sbU,Bool.or_self,↓reduceIte,Nat.reduceEqDiff,Nat.reduceLT,isConst,ha]
  exact downS_here h
 ·have h1 : ¬ ((codeG c &&& kindG k : Nat) : Int) = 0 := by omega
  have h2 : (codeG c &&& kindG k != 0) = true := by simpa using h0
  rw [h2] at h
  simp (disch := first | assumption | simp) only [↓sbD,sbU,Bool.or_self,↓reduceIte,Nat.reduceEqDiff,Nat.reduceLT,isConst,ha,h1]
  exact downS_here h
end
section
variable {σ : AHeap} {Q : Value → AHeap → Prop}
end
abbrev E3 := Nat × Nat × Nat
def pkz : Pk := ⟨0,0,0,[],false,0,emp,⟨false,emp,emp,0,false,[]⟩,false,emp,false,emp,false,emp,emp,0,false,false,[],[],[]⟩
def zeL : List Value := pkC pkz (.slice none 0 0) (.slice none 0 0) (.slice none 0 0) (.slice none 0 0) (.slice none 0 0)
theorem zePk : azero E 54 = some [.int .i64 0,.int .i64 0,.int .i64 0,.slice none 0 0,.bool false,.int .i64 0,.string emp,.bool false,.string emp,.string emp,.int .i64 0,.bool false,.slice none 0 0,.bool false,.string emp,.bool false,.string emp,.bool false,.string emp,.string emp,.int .i64 0,.bool false,.bool false,.slice none 0 0,.slice none 0 0,.slice none 0 0] := rfl
def codeR (s : ByteArray) (q : Nat) : Nat × Nat := match numR s q 1 with
 | .ok (n,q') => (n,q')
 | .error _ => (0,q)
def tailE (s : ByteArray) (c : Int) : Except E3 (List Pr × Nat) → Except E3 (Int × List Pr)
 | .error e => .error e
 | .ok (l,q) => if q = s.size then .ok (c,l) else .error (2,129,q)
def TailA (kind : Int) (at' : Nat) (s : ByteArray) (q : Nat) (r : Except E3 (Int × List Pr)) : Prop :=
 if alw kind ((codeR s q).1 : Int) = false then r = .error (2,129,at')
 else if (codeR s q).2 < s.size then ∃ r',ReadP kind s (codeR s q).2 r' ∧ r = tailE s (codeR s q).1 r'
 else r = .ok ((codeR s q).1,[])
def firstA (k : Int) : Int := if k = 4 ∨ k = 5 ∨ k = 7 then 16 * k else if k = 6 then 98 else 0
def ackP (kind id rea : Int) (l : List Pr) : Pk := { pkz with kind := kind,id := id,rea := rea,props := l }
def ackM (kind id : Int) : Except E3 (Int × List Pr) → Except E3 Pk
 | .error e => .error e
 | .ok (c,l) => .ok (ackP kind id c l)
def DecA (f : Int) (s : ByteArray) (r : Except E3 Pk) : Prop :=
 if f ≤ 0 ∨ f ≠ firstA (f / 16) then r = .error (2,129,0) else match numR s 0 2 with
 | .error (k,q) => r = .error (k,129,q)
 | .ok (id,q) => if id = 0 then r = .error (3,130,0) else ∃ r',TailA (f / 16) 2 s q r' ∧ r = ackM (f / 16) id r'
theorem dl_vc {α : Type} {enc : α → List Value} {sz : Nat} {v : Value} {l : List α} (h : DL enc sz v l) : vcells v = [v] ∧ oneCell v = true := by
 rcases h with ⟨_,rfl⟩ | ⟨m,rfl⟩ <;> exact ⟨rfl,rfl⟩
theorem numR_one {s : ByteArray} {q : Nat} (h : q < s.size) : ∃ n,numR s q 1 = .ok (n,q + 1) := by
 unfold numR rawR
 rw [if_neg (by omega),if_neg (by omega)]
 exact ⟨_,rfl⟩
theorem codeR_le {s : ByteArray} {q : Nat} (h : q ≤ s.size) : (codeR s q).2 ≤ s.size := by
 unfold codeR
 cases hn : numR s q 1 with
 | error e => exact h
 | ok a => obtain ⟨n,q'⟩ := a; exact (numR_ok hn).2
theorem codeR_at {s : ByteArray} {q : Nat} (h : ¬ q < s.size) : codeR s q = (0,q) := by
 unfold codeR numR rawR
 rw [if_neg (by omega),if_pos (by omega)]
theorem shr4 {σ : AHeap} {f : Int} {t : Nat} {cs : Bool} : abin E σ .shr t cs (.int .i64 f) (.int .u64 4) = some (.int .i64 (f / 16)) := by
 simp only [abin,ashift]
 rw [if_neg (by omega)]
 show some (Value.int .i64 (Int.fdiv f 16)) = _
 rw [Int.fdiv_eq_ediv_of_nonneg _ (by omega)]
theorem shl_4 {σ : AHeap} {t : Nat} {cs : Bool} : abin E σ .shl t cs (.int .i64 4) (.int .u64 4) = some (.int .i64 64) := rfl
theorem shl_5 {σ : AHeap} {t : Nat} {cs : Bool} : abin E σ .shl t cs (.int .i64 5) (.int .u64 4) = some (.int .i64 80) := rfl
theorem shl_6 {σ : AHeap} {t : Nat} {cs : Bool} : abin E σ .shl t cs (.int .i64 6) (.int .u64 4) = some (.int .i64 96) := rfl
theorem shl_7 {σ : AHeap} {t : Nat} {cs : Bool} : abin E σ .shl t cs (.int .i64 7) (.int .u64 4) = some (.int .i64 112) := rfl
theorem or_96_2 : aint .or .i64 96 2 = some (.int .i64 98) := by kernel_rfl
section
variable {σ : AHeap} {Q : Value → AHeap → Prop} {r q : Nat} {s : ByteArray}
theorem specAFirst {k : Int} (h : Q (.int .i64 (firstA k)) σ) : CallS E B 71 [.int .i64 k] σ Q := by
 refine call71 (by simp) ?_
 simp only [strip,bodyOf,Tryz.f71,getD_body,keepN,bareOp_mk,List.map_cons,List.map_nil,↓reduceIte,Bool.false_eq_true]
 by_cases hm : k = 4 ∨ k = 5 ∨ k = 7 ∨ k = 6
 ·rcases hm with rfl | rfl | rfl | rfl <;>
   (simp only [↓sbD,sbU,Int.reduceEq,decide_false,↓reduceIte,Nat.reduceEqDiff,Nat.reduceLT,reduceCtorEq,isConst,shl_4,shl_5,shl_6,shl_7,or_96_2]
    exact downS_here h)
 ·simp only [not_or] at hm
  have e : firstA k = 0 := by simp [firstA,hm]
  rw [e] at h
  obtain ⟨n1,n2,n3,n4⟩ := hm
  simp only [↓sbD,sbU,decide_false,↓reduceIte,Nat.reduceEqDiff,Nat.reduceLT,reduceCtorEq,isConst,n1,n2,n3,n4]
  exact downS_here h
theorem specARest {kind : Int} (hr : IsR σ r s q .nilIface) (hp : q ≤ s.size) (hs : s.size ≤ 100000000)
  (hok : ∀ c l,TailA kind 2 s q (.ok (c,l)) → ∀ v σ',DL propC 4 v l → Kept σ [r] σ' [r] → Q (.tuple #[.int .i64 c,v,.nilIface]) σ')
  (hbad : ∀ k rr a : Nat,TailA kind 2 s q (.error (k,rr,a)) → ∀ σ' d z c v,Kept σ [r] σ' [r] → d ≤ 3 → ErN d (fv rr a z) k → Q (.tuple #[.int .i64 c,v,fv rr a z]) σ') :
  CallS E B 77 [.pointer (some ⟨r,0,none⟩),.int .i64 kind] σ Q := by
 unfold TailA at hok hbad
 refine call77 (by simp) ?_
 simp only [strip,bodyOf,Tryz.f77,getD_body,keepN,bareOp_mk,List.map_cons,List.map_nil,↓reduceIte,Bool.false_eq_true]
 simp only [↓sbD,sbU,↓reduceIte,Nat.reduceLT,reduceCtorEq]
 refine specRLeft hr hp (by omega) ?_
 by_cases hlt : q < s.size
 ·have h0 : (0 : Int) < ((s.size - q : Nat) : Int) := by omega
  obtain ⟨n,hn⟩ := numR_one hlt
  have hc : codeR s q = (n,q + 1) := by unfold codeR; rw [hn]
  rw [hc] at hok hbad
  simp only at hok hbad
  have hq1 : q + 1 ≤ s.size := by omega
  simp only [↓sbD,sbU,↓reduceIte,Nat.reduceLT,reduceCtorEq,isConst,h0]
  refine specRU8 hr hp (by omega) (fun n' q' hn' σ1 k1 i1 => ?_) fun k q' hn' σ1 k1 i1 => by rw [hn] at hn'; cases hn'
  rw [hn] at hn'
  simp only [Except.ok.injEq,Prod.mk.injEq] at hn'
  obtain ⟨rfl,rfl⟩ := hn'
  simp only [↓sbD,sbU,↓reduceIte,Nat.reduceLT,reduceCtorEq]
  refine specRErr i1 ?_
  cases ha : alw kind (n : Int) with
  | false =>
   simp only [ha,if_true] at hbad
   simp only [↓sbD,sbU,tyB,↓reduceIte,Nat.reduceEqDiff,Nat.reduceLT,isConst]
   refine specAlwR ?_
   simp only [↓sbD,sbU,tyB,↓reduceIte,Nat.reduceEqDiff,Nat.reduceLT,ha,not_bool,gk2]
   refine specNew (n := 2) ⟨by omega,by omega⟩ ?_
   simp only [↓sbD,sbU,↓reduceIte,Nat.reduceEqDiff,Nat.reduceLT]
   exact downS_here (hbad 2 129 2 rfl _ 1 _ 0 _ k1 (by omega) (ErN.new _ _ ⟨by omega,by omega⟩))
  | true =>
   simp only [ha,Bool.true_eq_false,if_false] at hok hbad
   simp only [↓sbD,sbU,tyB,↓reduceIte,Nat.reduceEqDiff,Nat.reduceLT,isConst]
   refine specAlwR ?_
   simp only [↓sbD,sbU,↓reduceIte,Nat.reduceEqDiff,Nat.reduceLT,reduceCtorEq,ha,not_bool]
   refine specRLeft i1 hq1 (by omega) ?_
   by_cases hl2 : q + 1 < s.size
   ·have h2 : (0 : Int) < ((s.size - (q + 1) : Nat) : Int) := by omega
    simp only [hl2,if_true] at hok hbad
    simp only [↓sbD,sbU,↓reduceIte,Nat.reduceEqDiff,Nat.reduceLT,reduceCtorEq,isConst,h2]
    refine specPRead i1 hq1 hs (fun l q2 hrd v σ2 hv k2 i2 hq2 => ?_) fun k rr a hrd σ2 d z k2 hd he => ?_
    ·simp only [↓sbD,sbU,tyB,↓reduceIte,Nat.reduceEqDiff,Nat.reduceLT,reduceCtorEq,isConst]
     refine specRDone i2 hq2 (by omega) (fun hend => ?_) fun hmore => ?_
     ·simp only [↓sbD,sbU,↓reduceIte,Nat.reduceEqDiff,Nat.reduceLT]
      exact downS_here (hok _ _ ⟨_,hrd,by simp only [tailE,if_pos hend]⟩ _ _ hv (k1.trans k2))
     ·simp only [↓sbD,sbU,↓reduceIte,Nat.reduceEqDiff,Nat.reduceLT]
      exact downS_here (hbad _ _ _ ⟨_,hrd,by simp only [tailE]; rw [if_neg (by omega)]⟩ _ 1 _ _ _ (k1.trans k2) (by omega) (ErN.new _ _ ⟨by omega,by omega⟩))
    ·simp only [↓sbD,sbU,tyB,↓reduceIte,Nat.reduceEqDiff,Nat.reduceLT,isConst]
     exact downS_here (hbad _ _ _ ⟨_,hrd,rfl⟩ _ d z 0 _ (k1.trans k2) hd he)
   ·have h2 : ¬ (0 : Int) < ((s.size - (q + 1) : Nat) : Int) := by omega
    simp only [hl2,if_false] at hok hbad
    simp only [↓sbD,sbU,decide_false,↓reduceIte,Nat.reduceEqDiff,Nat.reduceLT,reduceCtorEq,isConst,h2]
    refine specRDone i1 hq1 (by omega) (fun hend => ?_) fun hmore => by omega
    simp only [↓sbD,sbU,↓reduceIte,Nat.reduceEqDiff,Nat.reduceLT]
    exact downS_here (hok _ _ rfl _ _ (.inl ⟨rfl,rfl⟩) k1)
 ·have h0 : ¬ (0 : Int) < ((s.size - q : Nat) : Int) := by omega
  rw [codeR_at hlt] at hok hbad
  simp only [hlt,if_false] at hok hbad
  simp only [↓sbD,sbU,decide_false,↓reduceIte,Nat.reduceLT,reduceCtorEq,isConst,h0]
  refine specRErr hr ?_
  cases ha : alw kind ((0 : Nat) : Int) with
  | false =>
   simp only [ha,if_true] at hbad
   simp only [↓sbD,sbU,tyB,↓reduceIte,Nat.reduceEqDiff,Nat.reduceLT,isConst]
   refine specAlwR ?_
   simp only [↓sbD,sbU,tyB,↓reduceIte,Nat.reduceEqDiff,Nat.reduceLT,show alw kind 0 = false from ha,not_bool,gk2]
   refine specNew (n := 2) ⟨by omega,by omega⟩ ?_
   simp only [↓sbD,sbU,↓reduceIte,Nat.reduceEqDiff,Nat.reduceLT]
   exact downS_here (hbad 2 129 2 rfl _ 1 _ 0 _ (Kept.refl _ _) (by omega) (ErN.new _ _ ⟨by omega,by omega⟩))
  | true =>
   simp only [ha,Bool.true_eq_false,if_false] at hok hbad
   simp only [↓sbD,sbU,tyB,↓reduceIte,Nat.reduceEqDiff,Nat.reduceLT,isConst]
   refine specAlwR ?_
   simp only [↓sbD,sbU,↓reduceIte,Nat.reduceEqDiff,Nat.reduceLT,reduceCtorEq,show alw kind 0 = true from ha,not_bool]
   refine specRLeft hr hp (by omega) ?_
   simp only [↓sbD,sbU,decide_false,↓reduceIte,Nat.reduceEqDiff,Nat.reduceLT,reduceCtorEq,isConst,h0]
   refine specRDone hr hp (by omega) (fun hend => ?_) fun hmore => by omega
   simp only [↓sbD,sbU,↓reduceIte,Nat.reduceEqDiff,Nat.reduceLT]
   exact downS_here (hok _ _ rfl _ _ (.inl ⟨rfl,rfl⟩) (Kept.refl _ _))
theorem specADec {f : Int} (hs : s.size ≤ 100000000)
  (hok : ∀ p,DecA f s (.ok p) → ∀ v σ',PkV p v → Kept σ [] σ' [] → Q (.tuple #[v,.nilIface]) σ')
  (hbad : ∀ k rr a : Nat,DecA f s (.error (k,rr,a)) → ∀ σ' d z,Kept σ [] σ' [] → d ≤ 3 → ErN d (fv rr a z) k → Q (.tuple #[.agg ⟨zeL⟩,fv rr a z]) σ') :
  CallS E B 32 [.agg ⟨[.int .i64 f,.string s]⟩] σ Q := by
 unfold DecA at hok hbad
 refine call32 (by simp) ?_
 simp only [strip,bodyOf,Tryz.f32,getD_body,keepN,bareOp_mk,lessOp_mk,List.map_cons,List.map_nil,↓reduceIte,Nat.reduceEqDiff,Bool.false_eq_true]
 have hsh : ∀ (σ : AHeap) (t : Nat) (cs : Bool),abin E σ .shr t cs (.int .i64 f) (.int .u64 4) = some (.int .i64 (f / 16)) := fun σ t cs => shr4
 by_cases h1 : f ≤ 0
 ·simp (disch := first | assumption | simp) only [↓sbD,sbU,tyB,↓reduceIte,Nat.reduceEqDiff,Nat.reduceLT,reduceCtorEq,isConst,boxS,Edp,dpv,AS_new,zePk,hsh,h1]
  intro b hb
  refine drawS_l (fl := [(5,7)]) (by kernel_rfl) ?_ ?_
  rotate_left; simp only [lastP_cc,lastP_one]; rotate_left
  ·simp only [List.all_cons,List.all_nil,floatS,List.getElem?_cons_succ,List.getElem?_cons_zero,List.getElem?_toArray,Region.wanted,reads,looksWeak,aev_tmp,upd_at,↓reduceIte,Nat.reduceEqDiff,Nat.reduceLT,Nat.reduceAdd,blkOf,oeq_refl,Bool.and_true,Bool.and_self,Bool.false_eq_true,yield_list,yield_here,yield_next,truth_bool]
   try rfl
  simp (disch := first | assumption | simp) only [↓sbD,sbU,tyB,↓reduceIte,Nat.reduceLT,pairs,ZV.val,gk2]
  refine specNew (n := 2) ⟨by omega,by omega⟩ ?_
  simp (disch := first | assumption | simp) only [↓sbD,sbU,tyB,↓reduceIte,Nat.reduceEqDiff,Nat.reduceLT,Nat.reduceAdd,Nat.reduceLeDiff,splice,res_cellc,resC_some]
  exact downS_here (hbad 2 129 0 (by rw [if_pos (.inl h1)]) _ 1 _ (((Kept.refl σ []).setD hb).setD hb) (by omega) (ErN.new _ _ ⟨by omega,by omega⟩))
 simp (disch := first | assumption | simp) only [↓sbD,sbU,tyB,decide_false,↓reduceIte,Nat.reduceEqDiff,Nat.reduceLT,reduceCtorEq,isConst,boxS,Edp,dpv,AS_new,zePk,hsh,h1]
 intro b hb
 refine specAFirst ?_
 by_cases h2 : f = firstA (f / 16)
 rotate_left
 ·simp (disch := first | assumption | simp) only [↓sbD,sbU,Bool.or_self,↓reduceIte,Nat.reduceEqDiff,Nat.reduceLT,isConst,h2]
  refine drawS_l (fl := [(5,7)]) (by kernel_rfl) ?_ ?_
  rotate_left; simp only [lastP_cc,lastP_one]; rotate_left
  ·simp only [List.all_cons,List.all_nil,floatS,List.getElem?_cons_succ,List.getElem?_cons_zero,List.getElem?_toArray,Region.wanted,Bool.or_true,reads,looksWeak,aev_tmp,upd_at,↓reduceIte,Nat.reduceEqDiff,Nat.reduceLT,Nat.reduceAdd,blkOf,oeq_refl,Bool.and_true,Bool.and_self,Bool.false_eq_true,yield_list,yield_here,yield_next,truth_bool]
   try rfl
  simp (disch := first | assumption | simp) only [↓sbD,sbU,tyB,↓reduceIte,Nat.reduceLT,pairs,ZV.val,gk2]
  refine specNew (n := 2) ⟨by omega,by omega⟩ ?_
  simp (disch := first | assumption | simp) only [↓sbD,sbU,tyB,↓reduceIte,Nat.reduceEqDiff,Nat.reduceLT,Nat.reduceAdd,Nat.reduceLeDiff,splice,res_cellc,resC_some]
  exact downS_here (hbad 2 129 0 (by rw [if_pos (.inr h2)]) _ 1 _ (((Kept.refl σ []).setD hb).setD hb) (by omega) (ErN.new _ _ ⟨by omega,by omega⟩))
 have hne : ¬ (f ≤ 0 ∨ f ≠ firstA (f / 16)) := fun h => h.elim h1 fun h => h h2
 simp only [if_neg hne] at hok hbad
 simp (disch := first | assumption | simp) only [↓sbD,sbU,decide_false,Bool.or_self,↓reduceIte,Nat.reduceEqDiff,Nat.reduceLT,isConst,← h2]
 refine drawS_l (fl := [(5,7)]) (by kernel_rfl) ?_ ?_
 rotate_left; simp only [lastP_cc,lastP_one]; rotate_left
 ·simp only [List.all_cons,List.all_nil,floatS,List.getElem?_cons_succ,List.getElem?_cons_zero,List.getElem?_toArray,Region.wanted,Bool.or_true,reads,looksWeak,aev_tmp,upd_at,↓reduceIte,Nat.reduceEqDiff,Nat.reduceLT,Nat.reduceAdd,blkOf,oeq_refl,Bool.and_true,Bool.and_self,Bool.false_eq_true,yield_list,yield_here,yield_next,truth_bool]
  try rfl
 generalize hσ1 : AHeap.set σ b _ = σ1
 have k1 : Kept σ [] σ1 [] := by rw [← hσ1]; exact (Kept.refl σ []).setD hb
 have gb1 : σ1.get b = .cells zeL true 0 := by rw [← hσ1]; exact AHeap.get_set_same _ _ _
 clear hσ1
 simp (disch := first | assumption | simp) only [↓sbD,sbU,tyB,↓reduceIte,Nat.reduceEqDiff,Nat.reduceLT,reduceCtorEq]
 refine specRNew fun x σ2 hx k2 i2 => ?_
 have hbx : b ≠ x := by rintro rfl; rw [gb1] at hx; cases hx
 have K2 := k1.trans (k2.wid (gp := []) (gp' := []) (fun _ h => by cases h) (fun _ h => by cases h))
 simp (disch := first | assumption | simp) only [↓sbD,sbU,↓reduceIte,Nat.reduceLT]
 refine specRU16 i2 (Nat.zero_le _) (by omega) (fun id q hid σ3 k3 i3 => ?_) fun k q hid σ3 k3 i3 => ?_
 rotate_left
 ·simp only [hid] at hok hbad
  obtain ⟨d,z,hd,he,i4⟩ := i3
  have gb3 := ((k2.trans k3).at gb1 (by simp) (by simp)).1
  simp only [zeL,pkC,pkz] at gb3
  have K3 := k1.trans ((k2.trans k3).wid (gp := []) (gp' := []) (fun _ h => by cases h) (fun _ h => by cases h))
  simp (disch := first | assumption | simp) only [↓sbD,sbU,↓reduceIte,Nat.reduceEqDiff,Nat.reduceLT]
  refine specRErr i4 ?_
  simp (disch := first | assumption | simp) only [↓sbD,sbU,tyB,↓reduceIte,Nat.reduceEqDiff,Nat.reduceLT,Nat.reduceAdd,Nat.reduceLeDiff,pairs,isConst,splice,ZV.val,gb3,res_cellc,resC_some]
  exact downS_here (hbad k 129 q rfl _ d z (K3.setD hb) (by omega) he)
 have gb3 := ((k2.trans k3).at gb1 (by simp) (by simp)).1
 simp only [zeL,pkC,pkz] at gb3
 have K3 := k1.trans ((k2.trans k3).wid (gp := []) (gp' := []) (fun _ h => by cases h) (fun _ h => by cases h))
 simp only [hid] at hok hbad
 have hq := numR_ok hid
 simp (disch := first | assumption | simp) only [↓sbD,sbU,↓reduceIte,Nat.reduceEqDiff,Nat.reduceLT]
 refine specRErr i3 ?_
 by_cases h0 : id = 0
 ·have h0' : (id : Int) = 0 := by omega
  simp only [h0,if_true] at hok hbad
  simp (disch := first | assumption | simp) only [↓sbD,sbU,tyB,↓reduceIte,Nat.reduceEqDiff,Nat.reduceLT,pairs,isConst,ZV.val,h0',gk3]
  refine specNew (n := 3) ⟨by omega,by omega⟩ ?_
  simp (disch := first | assumption | simp) only [↓sbD,sbU,tyB,↓reduceIte,Nat.reduceEqDiff,Nat.reduceLT,Nat.reduceAdd,Nat.reduceLeDiff,splice,gb3,res_cellc,resC_some]
  exact downS_here (hbad 3 130 0 rfl _ 1 _ (K3.setD hb) (by omega) (ErN.new _ _ ⟨by omega,by omega⟩))
 ·have h0' : ¬ (id : Int) = 0 := by omega
  simp only [h0,if_false] at hok hbad
  simp (disch := first | assumption | simp) only [↓sbD,sbU,tyB,decide_false,↓reduceIte,Nat.reduceEqDiff,Nat.reduceLT,isConst,h0']
  refine specARest i3 hq.2 hs (fun c l ht v σ4 hv k4 => ?_) fun k rr a ht σ4 d z c v k4 hd he => ?_
  ·have gb4 := ((k2.trans (k3.trans k4)).at gb1 (by simp) (by simp)).1
   simp only [zeL,pkC,pkz] at gb4
   have K4 := k1.trans ((k2.trans (k3.trans k4)).wid (gp := []) (gp' := []) (fun _ h => by cases h) (fun _ h => by cases h))
   have hvc := dl_vc hv
   simp (disch := first | assumption | simp) only [↓sbD,sbU,tyB,↓reduceIte,Nat.reduceEqDiff,Nat.reduceLT,Nat.reduceAdd,Nat.reduceLeDiff,pairs,isConst,splice,ZV.val,gb4,res_cellc,resC_some,hvc.1,hvc.2]
   exact downS_here (hok _ ⟨_,ht,rfl⟩ _ _ ⟨_,_,_,_,_,hv,.inl ⟨rfl,rfl⟩,.inl ⟨rfl,rfl⟩,.inl ⟨rfl,rfl⟩,.inl ⟨rfl,rfl⟩,rfl⟩ (K4.setD hb))
  ·have gb4 := ((k2.trans (k3.trans k4)).at gb1 (by simp) (by simp)).1
   simp only [zeL,pkC,pkz] at gb4
   have K4 := k1.trans ((k2.trans (k3.trans k4)).wid (gp := []) (gp' := []) (fun _ h => by cases h) (fun _ h => by cases h))
   simp (disch := first | assumption | simp) only [↓sbD,sbU,tyB,↓reduceIte,Nat.reduceEqDiff,Nat.reduceLT,Nat.reduceAdd,Nat.reduceLeDiff,pairs,isConst,splice,ZV.val,gb4,res_cellc,resC_some]
   exact downS_here (hbad _ _ _ ⟨_,ht,rfl⟩ _ d z (K4.setD hb) hd he)
end
def MadeR (f : Int) (D : ByteArray → Except E3 Pk → Prop) (w : ByteArray ⊕ (Nat × Nat)) (r : Except E3 (Int × ByteArray)) : Prop := match w with
 | .inr (k,q) => r = .error (k,129,q)
 | .inl b => ∃ d,D b d ∧ match d with
  | .error e => r = .error e
  | .ok _ => r = .ok (f,b)
def actsA (p : Pk) (s : ByteArray) : List Act := ⟨2,p.id,emp⟩ :: (if p.props = [] then (if p.rea = 0 then [] else [⟨1,p.rea,emp⟩]) else [⟨1,p.rea,emp⟩,⟨8,0,s⟩])
def propsB (kind : Int) (l : List Pr) : Except E3 ByteArray := if l = [] then .ok emp else encP kind l
def EncA (p : Pk) (r : Except E3 (Int × ByteArray)) : Prop :=
 if firstA p.kind = 0 then r = .error (7,128,0) else match propsB p.kind p.props with
 | .error e => r = .error e
 | .ok s => MadeR (firstA p.kind) (DecA (firstA p.kind)) (runW emp (actsA p s)) r
theorem zeFra : azero E 57 = some [.int .i64 0,.string emp] := rfl
theorem runW_le : ∀ (l : List Act) (b c : ByteArray) (n : Nat),b.size ≤ n → runW b l = .inl c → c.size ≤ n + (l.map fun a => a.s.size + 4).sum
 | [],b,c,n,h,he => by injection he with he; subst he; simpa using h
 | a :: l,b,c,n,h,he => by
  simp only [runW] at he
  cases ha : actW a with
  | inr e => rw [ha] at he; cases he
  | inl m =>
   rw [ha] at he
   have := actW_size ha
   have := runW_le l (b ++ m) c (n + (a.s.size + 4)) (by rw [size_app]; omega) he
   simp only [List.map_cons,List.sum_cons]
   omega
section
variable {σ : AHeap} {Q : Value → AHeap → Prop}
theorem firstA_le (k : Int) : 0 ≤ firstA k ∧ firstA k ≤ 200 := by
 unfold firstA
 repeat' split
 all_goals omega
theorem specAEnc {p : Pk} {v : Value} (hp : PkV p v) (hsm : smallP p.props)
  (hok : ∀ fb,EncA p (.ok fb) → ∀ σ',Kept σ [] σ' [] → Q (.tuple #[.agg ⟨[.int .i64 fb.1,.string fb.2]⟩,.nilIface]) σ')
  (hbad : ∀ k rr a : Nat,EncA p (.error (k,rr,a)) → ∀ σ' d z,Kept σ [] σ' [] → d ≤ 3 → ErN d (fv rr a z) k → Q (.tuple #[.agg ⟨[.int .i64 0,.string emp]⟩,fv rr a z]) σ') :
  CallS E B 31 [v] σ Q := by
 obtain ⟨vp,vw,vs,vf,vc,d1,d2,d3,d4,d5,rfl⟩ := hp
 obtain ⟨up,uw,us,uf,uc,d1,d2,d3,d4,d5,_,hbx⟩ := boxPk d1 d2 d3 d4 d5
 simp only [pkC] at hbx ⊢
 have hlen := DLp.len d1
 unfold EncA at hok hbad
 refine call31 (by simp) ?_
 simp only [strip,bodyOf,Tryz.f31,getD_body,keepN,bareOp_mk,lapp_cons,lapp_nil,List.map_cons,List.map_nil,↓reduceIte,Bool.false_eq_true]
 simp (disch := first | assumption | simp) only [↓sbD,sbU,tyB,↓reduceIte,Nat.reduceEqDiff,Nat.reduceLT,reduceCtorEq,AS_new,zeFra,hbx]
 intro b hb
 refine specAFirst ?_
 by_cases h0 : firstA p.kind = 0
 ·simp only [h0,if_true] at hok hbad
  simp (disch := first | assumption | simp) only [↓sbD,sbU,tyB,↓reduceIte,Nat.reduceLT,pairs,isConst,ZV.val,h0,gk7]
  refine specNew (n := 7) ⟨by omega,by omega⟩ ?_
  simp (disch := first | assumption | simp) only [↓sbD,sbU,tyB,↓reduceIte,Nat.reduceEqDiff,Nat.reduceLT,Nat.reduceAdd,Nat.reduceLeDiff,splice,res_cellc,resC_some]
  exact downS_here (hbad 7 128 0 rfl _ 1 _ (((Kept.refl σ []).setD hb).setD hb) (by omega) (ErN.new _ _ ⟨by omega,by omega⟩))
 simp only [h0,if_false] at hok hbad
 simp (disch := first | assumption | simp) only [↓sbD,sbU,tyB,decide_false,Bool.false_eq_true,↓reduceIte,Nat.reduceEqDiff,Nat.reduceLT,reduceCtorEq,pairs,isConst,boxS,Edp,ZV.val,Bool.false_and,h0,AS_new,dpW]
 intro w hw
 have hwb : w ≠ b := by rintro rfl; rw [AHeap.get_set_same] at hw; cases hw
 generalize hσ1 : AHeap.set σ b _ = σ1 at hw ⊢
 have k1 : Kept σ [] σ1 [] := by rw [← hσ1]; exact (Kept.refl σ []).setD hb
 have gb1 : σ1.get b = .cells [.int .i64 0,.string emp] true 0 := by rw [← hσ1]; exact AHeap.get_set_same _ _ _
 clear hσ1
 generalize hσ2 : AHeap.set σ1 w _ = σ2
 have gw : σ2.get w = .cells [.slice none 0 0,.nilIface] true 0 := by rw [← hσ2]; exact AHeap.get_set_same _ _ _
 have k2 : Kept σ1 [] σ2 [w] := by rw [← hσ2]; exact Kept.new' hw
 have w2 : WRun σ2 w (runW emp []) [w] := ⟨_,[],gw,.inl ⟨rfl,rfl,rfl⟩,rfl,by simp⟩
 have z2 : leW (runW emp []) 0 := fun b hb => by injection hb with hb; subst hb; exact Nat.le_refl _
 clear gw hσ2
 refine specU16R (s := emp) w2 (fun b hb => by have := z2 b hb; omega) fun σ3 fp3 k3 w3 => ?_
 have hz3 := leW_step (a := ⟨2,p.id,emp⟩) z2
 have hs3 : stepW (runW emp []) [⟨2,p.id,emp⟩] = runW emp [⟨2,p.id,emp⟩] := rfl
 rw [hs3] at w3 hz3
 have K3 := k2.trans k3
 have eml : (emp).size = 0 := rfl
 by_cases hpn : p.props = []
 ·have hl0 : ¬ (0 : Int) < (p.props.length : Int) := by rw [hpn]; exact fun h => by cases h
  have hpb : propsB p.kind p.props = .ok emp := by unfold propsB; rw [if_pos hpn]
  rw [hpb] at hok hbad
  simp only at hok hbad
  by_cases hr0 : p.rea = 0
  ·have hac : actsA p emp = [⟨2,p.id,emp⟩] := by unfold actsA; rw [if_pos hpn,if_pos hr0]
   rw [hac] at hok hbad
   simp only [eml] at hz3
   simp (disch := first | assumption | simp) only [↓sbD,sbU,tyB,decide_false,↓reduceIte,Nat.reduceEqDiff,Nat.reduceLT,reduceCtorEq,isConst,hlen,hl0,hr0]
   refine specBytesR w3 (fun bb hbb => ?_) fun k q d z hr hd he => ?_
   ·have gbn := (K3.at gb1 (by simp) (by simp)).1
    have hle := hz3 bb hbb
    simp (disch := first | assumption | simp) only [↓sbD,sbU,tyB,↓reduceIte,Nat.reduceEqDiff,Nat.reduceLT,reduceCtorEq]
    refine specAFirst ?_
    simp (disch := first | assumption | simp) only [↓sbD,sbU,tyB,↓reduceIte,Nat.reduceEqDiff,Nat.reduceLT,Nat.reduceAdd,Nat.reduceLeDiff,pairs,isConst,splice,ZV.val,AS_new,zeFra]
    intro c hc
    have hcb : c ≠ b := nd hc gbn (by simp)
    generalize hσc : AHeap.set _ c _ = σc
    have kc : Kept σ3 [] σc [] := by rw [← hσc]; exact ((Kept.refl _ []).setD hc).setD hc
    have gc : σc.get c = .cells [.int .i64 (firstA p.kind),.string bb] true 0 := by rw [← hσc]; exact AHeap.get_set_same _ _ _
    clear hσc
    have fle := firstA_le p.kind
    refine specADec (by omega) (fun y hy v2 σd hv2 kd => ?_) fun k rr a hy σd d z kd hd he => ?_
    ·have gbd := ((kc.trans kd).at gbn (by simp) (by simp)).1
     have gcd := (kd.at gc (by simp) (by simp)).1
     simp (disch := first | assumption | simp) only [↓sbD,sbU,tyB,↓reduceIte,Nat.reduceEqDiff,Nat.reduceLT,Nat.reduceAdd,Nat.reduceLeDiff,isConst,splice,gcd,gbd,res_cellc,resC_some]
     exact downS_here (hok (firstA p.kind,bb) (by unfold MadeR; rw [hbb]; exact ⟨_,hy,rfl⟩) _ ((k1.trans ((K3.wid (gp := []) (gp' := []) (fun _ h => by cases h) (fun _ h => by cases h)).trans (kc.trans kd))).setD hb))
    ·have gbd := ((kc.trans kd).at gbn (by simp) (by simp)).1
     simp (disch := first | assumption | simp) only [↓sbD,sbU,tyB,↓reduceIte,Nat.reduceEqDiff,Nat.reduceLT,Nat.reduceAdd,Nat.reduceLeDiff,pairs,isConst,splice,ZV.val,gbd,res_cellc,resC_some]
     exact downS_here (hbad k rr a (by unfold MadeR; rw [hbb]; exact ⟨_,hy,rfl⟩) _ d z ((k1.trans ((K3.wid (gp := []) (gp' := []) (fun _ h => by cases h) (fun _ h => by cases h)).trans (kc.trans kd))).setD hb) hd he)
   ·have gbn := (K3.at gb1 (by simp) (by simp)).1
    simp (disch := first | assumption | simp) only [↓sbD,sbU,tyB,↓reduceIte,Nat.reduceEqDiff,Nat.reduceLT,reduceCtorEq]
    refine specAFirst ?_
    simp (disch := first | assumption | simp) only [↓sbD,sbU,tyB,↓reduceIte,Nat.reduceEqDiff,Nat.reduceLT,Nat.reduceAdd,Nat.reduceLeDiff,pairs,isConst,splice,ZV.val,AS_new,zeFra]
    intro c hc
    have hcb : c ≠ b := nd hc gbn (by simp)
    have bc : ∀ (τ : AHeap) o,(AHeap.set τ c o).get b = τ.get b := fun τ o => AHeap.get_set_ne _ _ hcb
    simp (disch := first | assumption | simp) only [↓sbD,sbU,tyB,↓reduceIte,Nat.reduceEqDiff,Nat.reduceLT,Nat.reduceAdd,Nat.reduceLeDiff,splice,bc,gbn,res_cellc,resC_some]
    exact downS_here (hbad k 129 q (by unfold MadeR; rw [hr]) _ d z ((k1.trans ((K3.wid (gp := []) (gp' := []) (fun _ h => by cases h) (fun _ h => by cases h)).trans (((Kept.refl _ []).setD hc).setD hc))).setD hb) (by omega) he)
  ·have hac : actsA p emp = [⟨2,p.id,emp⟩,⟨1,p.rea,emp⟩] := by unfold actsA; rw [if_pos hpn,if_neg hr0]
   rw [hac] at hok hbad
   simp (disch := first | assumption | simp) only [↓sbD,sbU,tyB,decide_false,↓reduceIte,Nat.reduceEqDiff,Nat.reduceLT,reduceCtorEq,isConst,hlen,hl0,hr0]
   refine specU8R (s := emp) w3 (fun b hb => by have := hz3 b hb; simp only [eml] at this; omega) fun σ4 fp4 k4 w4 => ?_
   have hz4 := leW_step (a := ⟨1,p.rea,emp⟩) hz3
   have hs4 : stepW (runW emp [⟨2,p.id,emp⟩]) [⟨1,p.rea,emp⟩] = runW emp [⟨2,p.id,emp⟩,⟨1,p.rea,emp⟩] := by rw [show runW emp [⟨2,p.id,emp⟩] = stepW (runW emp []) [⟨2,p.id,emp⟩] from rfl,stepW_app]; rfl
   rw [hs4] at w4 hz4
   have K4 := K3.trans k4
   simp only [eml] at hz4
   simp (disch := first | assumption | simp) only [↓sbD,sbU,↓reduceIte,Nat.reduceEqDiff,Nat.reduceLT]
   refine specBytesR w4 (fun bb hbb => ?_) fun k q d z hr hd he => ?_
   ·have gbn := (K4.at gb1 (by simp) (by simp)).1
    have hle := hz4 bb hbb
    simp (disch := first | assumption | simp) only [↓sbD,sbU,tyB,↓reduceIte,Nat.reduceEqDiff,Nat.reduceLT,reduceCtorEq]
    refine specAFirst ?_
    simp (disch := first | assumption | simp) only [↓sbD,sbU,tyB,↓reduceIte,Nat.reduceEqDiff,Nat.reduceLT,Nat.reduceAdd,Nat.reduceLeDiff,pairs,isConst,splice,ZV.val,AS_new,zeFra]
    intro c hc
    have hcb : c ≠ b := nd hc gbn (by simp)
    generalize hσc : AHeap.set _ c _ = σc
    have kc : Kept σ4 [] σc [] := by rw [← hσc]; exact ((Kept.refl _ []).setD hc).setD hc
    have gc : σc.get c = .cells [.int .i64 (firstA p.kind),.string bb] true 0 := by rw [← hσc]; exact AHeap.get_set_same _ _ _
    clear hσc
    have fle := firstA_le p.kind
    refine specADec (by omega) (fun y hy v2 σd hv2 kd => ?_) fun k rr a hy σd d z kd hd he => ?_
    ·have gbd := ((kc.trans kd).at gbn (by simp) (by simp)).1
     have gcd := (kd.at gc (by simp) (by simp)).1
     simp (disch := first | assumption | simp) only [↓sbD,sbU,tyB,↓reduceIte,Nat.reduceEqDiff,Nat.reduceLT,Nat.reduceAdd,Nat.reduceLeDiff,isConst,splice,gcd,gbd,res_cellc,resC_some]
     exact downS_here (hok (firstA p.kind,bb) (by unfold MadeR; rw [hbb]; exact ⟨_,hy,rfl⟩) _ ((k1.trans ((K4.wid (gp := []) (gp' := []) (fun _ h => by cases h) (fun _ h => by cases h)).trans (kc.trans kd))).setD hb))
    ·have gbd := ((kc.trans kd).at gbn (by simp) (by simp)).1
     simp (disch := first | assumption | simp) only [↓sbD,sbU,tyB,↓reduceIte,Nat.reduceEqDiff,Nat.reduceLT,Nat.reduceAdd,Nat.reduceLeDiff,pairs,isConst,splice,ZV.val,gbd,res_cellc,resC_some]
     exact downS_here (hbad k rr a (by unfold MadeR; rw [hbb]; exact ⟨_,hy,rfl⟩) _ d z ((k1.trans ((K4.wid (gp := []) (gp' := []) (fun _ h => by cases h) (fun _ h => by cases h)).trans (kc.trans kd))).setD hb) hd he)
   ·have gbn := (K4.at gb1 (by simp) (by simp)).1
    simp (disch := first | assumption | simp) only [↓sbD,sbU,tyB,↓reduceIte,Nat.reduceEqDiff,Nat.reduceLT,reduceCtorEq]
    refine specAFirst ?_
    simp (disch := first | assumption | simp) only [↓sbD,sbU,tyB,↓reduceIte,Nat.reduceEqDiff,Nat.reduceLT,Nat.reduceAdd,Nat.reduceLeDiff,pairs,isConst,splice,ZV.val,AS_new,zeFra]
    intro c hc
    have hcb : c ≠ b := nd hc gbn (by simp)
    have bc : ∀ (τ : AHeap) o,(AHeap.set τ c o).get b = τ.get b := fun τ o => AHeap.get_set_ne _ _ hcb
    simp (disch := first | assumption | simp) only [↓sbD,sbU,tyB,↓reduceIte,Nat.reduceEqDiff,Nat.reduceLT,Nat.reduceAdd,Nat.reduceLeDiff,splice,bc,gbn,res_cellc,resC_some]
    exact downS_here (hbad k 129 q (by unfold MadeR; rw [hr]) _ d z ((k1.trans ((K4.wid (gp := []) (gp' := []) (fun _ h => by cases h) (fun _ h => by cases h)).trans (((Kept.refl _ []).setD hc).setD hc))).setD hb) (by omega) he)
 ·have hl0 : (0 : Int) < (p.props.length : Int) := by
   have : p.props.length ≠ 0 := fun h => hpn (List.length_eq_zero_iff.1 h)
   omega
  simp (disch := first | assumption | simp) only [↓sbD,sbU,tyB,↓reduceIte,Nat.reduceEqDiff,Nat.reduceLT,reduceCtorEq,isConst,hlen,hl0]
  refine specU8R (s := emp) w3 (fun b hb => by have := hz3 b hb; simp only [eml] at this; omega) fun σ4 fp4 k4 w4 => ?_
  have hz4 := leW_step (a := ⟨1,p.rea,emp⟩) hz3
  have hs4 : stepW (runW emp [⟨2,p.id,emp⟩]) [⟨1,p.rea,emp⟩] = runW emp [⟨2,p.id,emp⟩,⟨1,p.rea,emp⟩] := by rw [show runW emp [⟨2,p.id,emp⟩] = stepW (runW emp []) [⟨2,p.id,emp⟩] from rfl,stepW_app]; rfl
  rw [hs4] at w4 hz4
  have K4 := K3.trans k4
  simp (disch := first | assumption | simp) only [↓sbD,sbU,tyB,↓reduceIte,Nat.reduceEqDiff,Nat.reduceLT,reduceCtorEq]
  refine specPEncode d1 hsm (fun c hce hcz => ?_) fun k r a d z hce hd he => ?_
  ·have hpb : propsB p.kind p.props = .ok c := by unfold propsB; rw [if_neg hpn,hce]
   rw [hpb] at hok hbad
   simp only at hok hbad
   simp (disch := first | assumption | simp) only [↓sbD,sbU,tyB,↓reduceIte,Nat.reduceEqDiff,Nat.reduceLT,isConst]
   refine specRawR (n := 0) w4 (fun b hb => by have := hz4 b hb; simp only [eml] at this; omega) (by omega) fun σ5 fp5 k5 w5 => ?_
   have hz5 := leW_step (a := ⟨8,0,c⟩) hz4
   have hs5 : stepW (runW emp [⟨2,p.id,emp⟩,⟨1,p.rea,emp⟩]) [⟨8,0,c⟩] = runW emp (actsA p c) := by
    rw [show runW emp [⟨2,p.id,emp⟩,⟨1,p.rea,emp⟩] = stepW (runW emp []) [⟨2,p.id,emp⟩,⟨1,p.rea,emp⟩] from rfl,stepW_app]; unfold actsA; rw [if_neg hpn]; rfl
   rw [hs5] at w5 hz5
   have K5 := K4.trans k5
   simp only [eml] at hz5
   simp (disch := first | assumption | simp) only [↓sbD,sbU,↓reduceIte,Nat.reduceEqDiff,Nat.reduceLT]
   refine specBytesR w5 (fun bb hbb => ?_) fun k q d z hr hd he => ?_
   ·have gbn := (K5.at gb1 (by simp) (by simp)).1
    have hle := hz5 bb hbb
    simp (disch := first | assumption | simp) only [↓sbD,sbU,tyB,↓reduceIte,Nat.reduceEqDiff,Nat.reduceLT,reduceCtorEq]
    refine specAFirst ?_
    simp (disch := first | assumption | simp) only [↓sbD,sbU,tyB,↓reduceIte,Nat.reduceEqDiff,Nat.reduceLT,Nat.reduceAdd,Nat.reduceLeDiff,pairs,isConst,splice,ZV.val,AS_new,zeFra]
    intro c hc
    have hcb : c ≠ b := nd hc gbn (by simp)
    generalize hσc : AHeap.set _ c _ = σc
    have kc : Kept σ5 [] σc [] := by rw [← hσc]; exact ((Kept.refl _ []).setD hc).setD hc
    have gc : σc.get c = .cells [.int .i64 (firstA p.kind),.string bb] true 0 := by rw [← hσc]; exact AHeap.get_set_same _ _ _
    clear hσc
    have fle := firstA_le p.kind
    refine specADec (by omega) (fun y hy v2 σd hv2 kd => ?_) fun k rr a hy σd d z kd hd he => ?_
    ·have gbd := ((kc.trans kd).at gbn (by simp) (by simp)).1
     have gcd := (kd.at gc (by simp) (by simp)).1
     simp (disch := first | assumption | simp) only [↓sbD,sbU,tyB,↓reduceIte,Nat.reduceEqDiff,Nat.reduceLT,Nat.reduceAdd,Nat.reduceLeDiff,isConst,splice,gcd,gbd,res_cellc,resC_some]
     exact downS_here (hok (firstA p.kind,bb) (by unfold MadeR; rw [hbb]; exact ⟨_,hy,rfl⟩) _ ((k1.trans ((K5.wid (gp := []) (gp' := []) (fun _ h => by cases h) (fun _ h => by cases h)).trans (kc.trans kd))).setD hb))
    ·have gbd := ((kc.trans kd).at gbn (by simp) (by simp)).1
     simp (disch := first | assumption | simp) only [↓sbD,sbU,tyB,↓reduceIte,Nat.reduceEqDiff,Nat.reduceLT,Nat.reduceAdd,Nat.reduceLeDiff,pairs,isConst,splice,ZV.val,gbd,res_cellc,resC_some]
     exact downS_here (hbad k rr a (by unfold MadeR; rw [hbb]; exact ⟨_,hy,rfl⟩) _ d z ((k1.trans ((K5.wid (gp := []) (gp' := []) (fun _ h => by cases h) (fun _ h => by cases h)).trans (kc.trans kd))).setD hb) hd he)
   ·have gbn := (K5.at gb1 (by simp) (by simp)).1
    simp (disch := first | assumption | simp) only [↓sbD,sbU,tyB,↓reduceIte,Nat.reduceEqDiff,Nat.reduceLT,reduceCtorEq]
    refine specAFirst ?_
    simp (disch := first | assumption | simp) only [↓sbD,sbU,tyB,↓reduceIte,Nat.reduceEqDiff,Nat.reduceLT,Nat.reduceAdd,Nat.reduceLeDiff,pairs,isConst,splice,ZV.val,AS_new,zeFra]
    intro c hc
    have hcb : c ≠ b := nd hc gbn (by simp)
    have bc : ∀ (τ : AHeap) o,(AHeap.set τ c o).get b = τ.get b := fun τ o => AHeap.get_set_ne _ _ hcb
    simp (disch := first | assumption | simp) only [↓sbD,sbU,tyB,↓reduceIte,Nat.reduceEqDiff,Nat.reduceLT,Nat.reduceAdd,Nat.reduceLeDiff,splice,bc,gbn,res_cellc,resC_some]
    exact downS_here (hbad k 129 q (by unfold MadeR; rw [hr]) _ d z ((k1.trans ((K5.wid (gp := []) (gp' := []) (fun _ h => by cases h) (fun _ h => by cases h)).trans (((Kept.refl _ []).setD hc).setD hc))).setD hb) (by omega) he)
  ·have hpb : propsB p.kind p.props = .error (k,r,a) := by unfold propsB; rw [if_neg hpn,hce]
   rw [hpb] at hok hbad
   simp only at hok hbad
   have gbn := (K4.at gb1 (by simp) (by simp)).1
   simp (disch := first | assumption | simp) only [↓sbD,sbU,tyB,↓reduceIte,Nat.reduceEqDiff,Nat.reduceLT,Nat.reduceAdd,Nat.reduceLeDiff,pairs,isConst,splice,ZV.val,gbn,res_cellc,resC_some]
   exact downS_here (hbad k r a rfl _ d z ((k1.trans (K4.wid (gp := []) (gp' := []) (fun _ h => by cases h) (fun _ h => by cases h))).setD hb) (by omega) he)
end
theorem actsP_sum {p : Pr} (h1 : p.s.size ≤ 200) (h2 : p.v.size ≤ 200) : ((actsP p).map fun a => a.s.size + 4).sum ≤ 412 := by
 have he : emp.size = 0 := rfl
 unfold actsP
 by_cases h9 : typI p.id = 9
 ·rw [if_pos h9]; simp only [List.map_cons,List.map_nil,List.sum_cons,List.sum_nil,he]; omega
 ·rw [if_neg h9]
  by_cases h0 : typI p.id = 0
  ·rw [if_pos h0]; simp only [List.map_cons,List.map_nil,List.sum_cons,List.sum_nil,he]; omega
  ·rw [if_neg h0]; simp only [List.map_cons,List.map_nil,List.sum_cons,List.sum_nil,he]; omega
theorem acts_sum : ∀ {l : List Pr},(∀ p ∈ l,p.s.size ≤ 200 ∧ p.v.size ≤ 200) → ((l.flatMap actsP).map fun a => a.s.size + 4).sum ≤ 412 * l.length
 | [],_ => by simp
 | p :: l,h => by
  have h1 := h p (by simp)
  have h2 := actsP_sum h1.1 h1.2
  have h3 := acts_sum (l := l) fun q hq => h q (by simp [hq])
  simp only [List.flatMap_cons,List.map_append,List.sum_append,List.length_cons]
  omega
theorem encP_size {pl : Int} {l : List Pr} {c : ByteArray} (hf : fewPr l) (h : encP pl l = .ok c) : c.size ≤ 28844 := by
 unfold encP at h
 cases hc : chk pl [] l with
 | some e => rw [hc] at h; cases h
 | none =>
  rw [hc] at h
  simp only at h
  cases hr : runW emp (l.flatMap actsP) with
  | inr e => rw [hr] at h; cases h
  | inl b =>
   rw [hr] at h
   simp only [Except.ok.injEq] at h
   subst h
   have h1 := runW_le _ emp b 0 (Nat.le_refl _) hr
   have h2 := acts_sum hf.2
   have h3 := hf.1
   have h4 : 412 * l.length ≤ 412 * 70 := Nat.mul_le_mul_left _ h3
   rw [size_app,str_size,enc_len]
   have := (vsize_pos b.size).2
   omega
section
variable {σ : AHeap} {Q : Value → AHeap → Prop} {r q p : Nat} {s : ByteArray}
end
end Go.Proofs.YtonmjhdcijibgaaGreatDoor.AbsB
