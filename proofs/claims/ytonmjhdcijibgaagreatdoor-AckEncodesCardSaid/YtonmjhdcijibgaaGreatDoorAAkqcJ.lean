/-
  Parts of a law's proof.
-/
import Derived.Test.YtonmjhdcijibgaaGreatDoorAYrqcJ
import Derived.Test.YtonmjhdcijibgaaGreatDoorAPrqeJ
namespace Go.Proofs.YtonmjhdcijibgaaGreatDoor.AbsA
open Go AbsYtonmjhdcijibgaaGreatDoor Abs
set_option maxRecDepth 100000
set_option maxHeartbeats 8000000
set_option linter.unusedSimpArgs false
set_option linter.unusedVariables false
attribute [local irreducible] afterS afterOpS opSK OpsS TrS CodeS condS condW thenS thenQ guardS guardTS outS drawS trSK consS
def grpS (c : Int) : ByteArray :=
 if c = 0 then ⟨#[67, 65, 82, 83, 85, 68, 88]⟩ else if c = 1 ∨ c = 2 then ⟨#[83]⟩ else if c = 4 then ⟨#[68]⟩ else if c = 16 then ⟨#[65]⟩ else if c = 17 then ⟨#[85]⟩ else if c = 24 ∨ c = 25 then ⟨#[88]⟩
 else if c = 128 ∨ c = 131 ∨ c = 135 then ⟨#[67, 65, 83, 85, 68]⟩
 else if c = 129 ∨ c = 130 ∨ c = 137 ∨ c = 140 ∨ c = 149 ∨ c = 154 ∨ c = 155 ∨ c = 156 ∨ c = 157 ∨ c = 159 then ⟨#[67, 68]⟩
 else if c = 132 ∨ c = 133 ∨ c = 134 ∨ c = 136 ∨ c = 138 then ⟨#[67]⟩
 else if c = 139 ∨ c = 141 ∨ c = 142 ∨ c = 147 ∨ c = 148 ∨ c = 150 ∨ c = 152 ∨ c = 160 then ⟨#[68]⟩
 else if c = 143 then ⟨#[83, 85, 68]⟩ else if c = 144 ∨ c = 153 then ⟨#[67, 65, 68]⟩ else if c = 145 then ⟨#[65, 83, 85]⟩ else if c = 146 then ⟨#[82]⟩ else if c = 151 then ⟨#[67, 65, 83, 68]⟩
 else if c = 158 ∨ c = 161 ∨ c = 162 then ⟨#[83, 68]⟩ else ⟨#[]⟩
def letS (k : Int) : ByteArray :=
 if k = 2 then ⟨#[67]⟩ else if k = 4 ∨ k = 5 then ⟨#[65]⟩ else if k = 6 ∨ k = 7 then ⟨#[82]⟩ else if k = 9 then ⟨#[83]⟩ else if k = 11 then ⟨#[85]⟩ else if k = 14 then ⟨#[68]⟩ else if k = 15 then ⟨#[88]⟩ else ⟨#[]⟩
def kindsA : List Int := [2, 4, 5, 6, 7, 9, 11, 14, 15]
def codesC : List Int := codesA ++ codesB
def chkA : Bool := codesC.all fun c => kindsA.all fun k => alw k c == (List.range (grpS c).size).any fun i => decide (letS k = (grpS c).extract i (i + 1))
theorem chkA_ok : chkA = true := by decide +kernel
theorem let_none {k : Int} (h : k ∉ kindsA) : letS k = emp ∧ kindG k = 0 := by
 simp only [kindsA, List.mem_cons, List.not_mem_nil, or_false, not_or] at h
 refine ⟨by simp [letS, h]; rfl, by simp [kindG, h]⟩
theorem grp_none {c : Int} (h : c ∉ codesC) : grpS c = emp ∧ codeG c = 0 := by
 simp only [codesC, codesA, codesB, List.cons_append, List.nil_append, List.mem_cons, List.not_mem_nil, or_false, not_or] at h
 refine ⟨by simp [grpS, h]; rfl, by simp [codeG, goodG, h]⟩
theorem grp_szT : (codesC.all fun c => decide ((grpS c).size ≤ 20)) = true := by decide +kernel
theorem grp_sz (c : Int) : (grpS c).size ≤ 20 := by
 by_cases hc : c ∈ codesC
 ·have h := grp_szT
  simp only [List.all_eq_true, decide_eq_true_eq] at h
  exact h c hc
 ·rw [(grp_none hc).1]; decide
def letL : List Value := [.string ⟨#[]⟩, .string ⟨#[]⟩, .string ⟨#[67]⟩, .string ⟨#[]⟩, .string ⟨#[65]⟩, .string ⟨#[65]⟩, .string ⟨#[82]⟩, .string ⟨#[82]⟩, .string ⟨#[]⟩, .string ⟨#[83]⟩, .string ⟨#[]⟩, .string ⟨#[85]⟩, .string ⟨#[]⟩, .string ⟨#[]⟩, .string ⟨#[68]⟩, .string ⟨#[88]⟩]
theorem let_at {k : Nat} (hk : k < 16) : aindexAddr E 51 (dsl 1 1 16 letL) (.int .i64 (k : Int)) = some (dptr (letL.drop k)) := by
 have h : ∀ k, k < 16 → aindexAddr E 51 (dsl 1 1 16 letL) (.int .i64 ((k : Nat) : Int)) = some (dptr (letL.drop k)) := by
  intro k hk
  obtain rfl | rfl | rfl | rfl | rfl | rfl | rfl | rfl | rfl | rfl | rfl | rfl | rfl | rfl | rfl | rfl : k = 0 ∨ k = 1 ∨ k = 2 ∨ k = 3 ∨ k = 4 ∨ k = 5 ∨ k = 6 ∨ k = 7 ∨ k = 8 ∨ k = 9 ∨ k = 10 ∨ k = 11 ∨ k = 12 ∨ k = 13 ∨ k = 14 ∨ k = 15 := by omega
  all_goals rfl
 exact h k hk
theorem alw_doc (k c : Int) : alw k c = true ↔ ∃ i, i < (grpS c).size ∧ letS k = (grpS c).extract i (i + 1) := by
 by_cases hc : c ∈ codesC
 ·by_cases hk : k ∈ kindsA
  ·have h := chkA_ok
   simp only [chkA, List.all_eq_true] at h
   have h1 := h c hc k hk
   rw [beq_iff_eq] at h1
   rw [h1]
   simp only [List.any_eq_true, List.mem_range, decide_eq_true_eq]
  ·have h1 := let_none hk
   constructor
   ·intro h; simp [alw, h1.2] at h
   ·rintro ⟨i, hi, he⟩
    exfalso
    have := congrArg ByteArray.size he
    rw [h1.1, ByteArray.size_extract] at this
    have h0 : emp.size = 0 := rfl
    omega
 ·have h1 := grp_none hc
  constructor
  ·intro h; simp [alw, h1.2] at h
  ·rintro ⟨i, hi, he⟩
   rw [h1.1] at hi
   exact absurd hi (Nat.not_lt_zero i)
section
variable {σ : AHeap} {Q : Value → AHeap → Prop}
theorem specCGroups {c : Int} (h : Q (.string (grpS c)) σ) : CallS E B 161 [.int .i64 c] σ Q := by
 refine call161 (by simp) ?_
 simp only [strip, bodyOf, Tryz.f161, getD_body, keepN, bareOp_mk, List.map_cons, List.map_nil, ↓reduceIte, Bool.false_eq_true]
 by_cases hm : c ∈ codesC
 ·simp only [codesC, codesA, codesB, List.cons_append, List.nil_append, List.mem_cons, List.not_mem_nil, or_false] at hm
  rcases hm with rfl | rfl | rfl | rfl | rfl | rfl | rfl | rfl | rfl | rfl | rfl | rfl | rfl | rfl | rfl | rfl | rfl | rfl | rfl | rfl | rfl | rfl | rfl | rfl | rfl | rfl | rfl | rfl | rfl | rfl | rfl | rfl | rfl | rfl | rfl | rfl | rfl | rfl | rfl | rfl | rfl | rfl | rfl <;>
   (simp only [↓sbD, sbU, Int.reduceEq, decide_false, ↓reduceIte, Nat.reduceEqDiff, Nat.reduceLT, reduceCtorEq, isConst]
    exact downS_here h)
 ·have e := (grp_none hm).1
  simp only [codesC, codesA, codesB, List.cons_append, List.nil_append, List.mem_cons, List.not_mem_nil, or_false, not_or] at hm
  rw [e] at h
  obtain ⟨n0, n1, n2, n3, n4, n5, n6, n7, n8, n9, n10, n11, n12, n13, n14, n15, n16, n17, n18, n19, n20, n21, n22, n23, n24, n25, n26, n27, n28, n29, n30, n31, n32, n33, n34, n35, n36, n37, n38, n39, n40, n41, n42⟩ := hm
  simp only [↓sbD, sbU, decide_false, ↓reduceIte, Nat.reduceEqDiff, Nat.reduceLT, reduceCtorEq, isConst, n0, n1, n2, n3, n4, n5, n6, n7, n8, n9, n10, n11, n12, n13, n14, n15, n16, n17, n18, n19, n20, n21, n22, n23, n24, n25, n26, n27, n28, n29, n30, n31, n32, n33, n34, n35, n36, n37, n38, n39, n40, n41, n42]
  exact downS_here h
theorem specCLetter {k : Int} (h : Q (.string (letS k)) σ) : CallS E B 162 [.int .i64 k] σ Q := by
 refine call162 (by simp) ?_
 simp only [strip, bodyOf, Tryz.f162, getD_body, keepN, bareOp_mk, List.map_cons, List.map_nil, ↓reduceIte, Bool.false_eq_true]
 by_cases h1 : k < 1
 ·have e : letS k = emp := (let_none (by simp only [kindsA, List.mem_cons, List.not_mem_nil, or_false, not_or]; omega)).1
  rw [e] at h
  simp only [↓sbD, sbU, ↓reduceIte, Nat.reduceEqDiff, Nat.reduceLT, reduceCtorEq, isConst, h1]
  exact downS_here h
 by_cases h2 : 15 < k
 ·have e : letS k = emp := (let_none (by simp only [kindsA, List.mem_cons, List.not_mem_nil, or_false, not_or]; omega)).1
  rw [e] at h
  simp only [↓sbD, sbU, decide_false, ↓reduceIte, Nat.reduceEqDiff, Nat.reduceLT, reduceCtorEq, isConst, h1, h2]
  exact downS_here h
 obtain rfl | rfl | rfl | rfl | rfl | rfl | rfl | rfl | rfl | rfl | rfl | rfl | rfl | rfl | rfl : k = 1 ∨ k = 2 ∨ k = 3 ∨ k = 4 ∨ k = 5 ∨ k = 6 ∨ k = 7 ∨ k = 8 ∨ k = 9 ∨ k = 10 ∨ k = 11 ∨ k = 12 ∨ k = 13 ∨ k = 14 ∨ k = 15 := by omega
 ·clear h1 h2
  have hia : aindexAddr E 51 (dsl 1 1 16 [.string ⟨#[]⟩, .string ⟨#[]⟩, .string ⟨#[67]⟩, .string ⟨#[]⟩, .string ⟨#[65]⟩, .string ⟨#[65]⟩, .string ⟨#[82]⟩, .string ⟨#[82]⟩, .string ⟨#[]⟩, .string ⟨#[83]⟩, .string ⟨#[]⟩, .string ⟨#[85]⟩, .string ⟨#[]⟩, .string ⟨#[]⟩, .string ⟨#[68]⟩, .string ⟨#[88]⟩]) (.int .i64 1) = some (dptr (.string ⟨#[]⟩ :: letL.drop 2)) := let_at (k := 1) (by omega)
  simp only [↓sbD, sbU, tyB, Int.reduceLT, Nat.reduceBneDiff, decide_false, gt_iff_lt, Bool.or_self, Bool.false_eq_true, Nat.mul_one, ↓reduceIte, Nat.reduceEqDiff, Nat.reduceLT, Nat.reduceAdd, Nat.reduceLeDiff, reduceCtorEq, pairs, isConst, splice, Edp, dpv, ZV.val, hia]
  exact downS_here h
 ·clear h1 h2
  have hia : aindexAddr E 51 (dsl 1 1 16 [.string ⟨#[]⟩, .string ⟨#[]⟩, .string ⟨#[67]⟩, .string ⟨#[]⟩, .string ⟨#[65]⟩, .string ⟨#[65]⟩, .string ⟨#[82]⟩, .string ⟨#[82]⟩, .string ⟨#[]⟩, .string ⟨#[83]⟩, .string ⟨#[]⟩, .string ⟨#[85]⟩, .string ⟨#[]⟩, .string ⟨#[]⟩, .string ⟨#[68]⟩, .string ⟨#[88]⟩]) (.int .i64 2) = some (dptr (.string ⟨#[67]⟩ :: letL.drop 3)) := let_at (k := 2) (by omega)
  simp only [↓sbD, sbU, tyB, Int.reduceLT, Nat.reduceBneDiff, decide_false, gt_iff_lt, Bool.or_self, Bool.false_eq_true, Nat.mul_one, ↓reduceIte, Nat.reduceEqDiff, Nat.reduceLT, Nat.reduceAdd, Nat.reduceLeDiff, reduceCtorEq, pairs, isConst, splice, Edp, dpv, ZV.val, hia]
  exact downS_here h
 ·clear h1 h2
  have hia : aindexAddr E 51 (dsl 1 1 16 [.string ⟨#[]⟩, .string ⟨#[]⟩, .string ⟨#[67]⟩, .string ⟨#[]⟩, .string ⟨#[65]⟩, .string ⟨#[65]⟩, .string ⟨#[82]⟩, .string ⟨#[82]⟩, .string ⟨#[]⟩, .string ⟨#[83]⟩, .string ⟨#[]⟩, .string ⟨#[85]⟩, .string ⟨#[]⟩, .string ⟨#[]⟩, .string ⟨#[68]⟩, .string ⟨#[88]⟩]) (.int .i64 3) = some (dptr (.string ⟨#[]⟩ :: letL.drop 4)) := let_at (k := 3) (by omega)
  simp only [↓sbD, sbU, tyB, Int.reduceLT, Nat.reduceBneDiff, decide_false, gt_iff_lt, Bool.or_self, Bool.false_eq_true, Nat.mul_one, ↓reduceIte, Nat.reduceEqDiff, Nat.reduceLT, Nat.reduceAdd, Nat.reduceLeDiff, reduceCtorEq, pairs, isConst, splice, Edp, dpv, ZV.val, hia]
  exact downS_here h
 ·clear h1 h2
  have hia : aindexAddr E 51 (dsl 1 1 16 [.string ⟨#[]⟩, .string ⟨#[]⟩, .string ⟨#[67]⟩, .string ⟨#[]⟩, .string ⟨#[65]⟩, .string ⟨#[65]⟩, .string ⟨#[82]⟩, .string ⟨#[82]⟩, .string ⟨#[]⟩, .string ⟨#[83]⟩, .string ⟨#[]⟩, .string ⟨#[85]⟩, .string ⟨#[]⟩, .string ⟨#[]⟩, .string ⟨#[68]⟩, .string ⟨#[88]⟩]) (.int .i64 4) = some (dptr (.string ⟨#[65]⟩ :: letL.drop 5)) := let_at (k := 4) (by omega)
  simp only [↓sbD, sbU, tyB, Int.reduceLT, Nat.reduceBneDiff, decide_false, gt_iff_lt, Bool.or_self, Bool.false_eq_true, Nat.mul_one, ↓reduceIte, Nat.reduceEqDiff, Nat.reduceLT, Nat.reduceAdd, Nat.reduceLeDiff, reduceCtorEq, pairs, isConst, splice, Edp, dpv, ZV.val, hia]
  exact downS_here h
 ·clear h1 h2
  have hia : aindexAddr E 51 (dsl 1 1 16 [.string ⟨#[]⟩, .string ⟨#[]⟩, .string ⟨#[67]⟩, .string ⟨#[]⟩, .string ⟨#[65]⟩, .string ⟨#[65]⟩, .string ⟨#[82]⟩, .string ⟨#[82]⟩, .string ⟨#[]⟩, .string ⟨#[83]⟩, .string ⟨#[]⟩, .string ⟨#[85]⟩, .string ⟨#[]⟩, .string ⟨#[]⟩, .string ⟨#[68]⟩, .string ⟨#[88]⟩]) (.int .i64 5) = some (dptr (.string ⟨#[65]⟩ :: letL.drop 6)) := let_at (k := 5) (by omega)
  simp only [↓sbD, sbU, tyB, Int.reduceLT, Nat.reduceBneDiff, decide_false, gt_iff_lt, Bool.or_self, Bool.false_eq_true, Nat.mul_one, ↓reduceIte, Nat.reduceEqDiff, Nat.reduceLT, Nat.reduceAdd, Nat.reduceLeDiff, reduceCtorEq, pairs, isConst, splice, Edp, dpv, ZV.val, hia]
  exact downS_here h
 ·clear h1 h2
  have hia : aindexAddr E 51 (dsl 1 1 16 [.string ⟨#[]⟩, .string ⟨#[]⟩, .string ⟨#[67]⟩, .string ⟨#[]⟩, .string ⟨#[65]⟩, .string ⟨#[65]⟩, .string ⟨#[82]⟩, .string ⟨#[82]⟩, .string ⟨#[]⟩, .string ⟨#[83]⟩, .string ⟨#[]⟩, .string ⟨#[85]⟩, .string ⟨#[]⟩, .string ⟨#[]⟩, .string ⟨#[68]⟩, .string ⟨#[88]⟩]) (.int .i64 6) = some (dptr (.string ⟨#[82]⟩ :: letL.drop 7)) := let_at (k := 6) (by omega)
  simp only [↓sbD, sbU, tyB, Int.reduceLT, Nat.reduceBneDiff, decide_false, gt_iff_lt, Bool.or_self, Bool.false_eq_true, Nat.mul_one, ↓reduceIte, Nat.reduceEqDiff, Nat.reduceLT, Nat.reduceAdd, Nat.reduceLeDiff, reduceCtorEq, pairs, isConst, splice, Edp, dpv, ZV.val, hia]
  exact downS_here h
 ·clear h1 h2
  have hia : aindexAddr E 51 (dsl 1 1 16 [.string ⟨#[]⟩, .string ⟨#[]⟩, .string ⟨#[67]⟩, .string ⟨#[]⟩, .string ⟨#[65]⟩, .string ⟨#[65]⟩, .string ⟨#[82]⟩, .string ⟨#[82]⟩, .string ⟨#[]⟩, .string ⟨#[83]⟩, .string ⟨#[]⟩, .string ⟨#[85]⟩, .string ⟨#[]⟩, .string ⟨#[]⟩, .string ⟨#[68]⟩, .string ⟨#[88]⟩]) (.int .i64 7) = some (dptr (.string ⟨#[82]⟩ :: letL.drop 8)) := let_at (k := 7) (by omega)
  simp only [↓sbD, sbU, tyB, Int.reduceLT, Nat.reduceBneDiff, decide_false, gt_iff_lt, Bool.or_self, Bool.false_eq_true, Nat.mul_one, ↓reduceIte, Nat.reduceEqDiff, Nat.reduceLT, Nat.reduceAdd, Nat.reduceLeDiff, reduceCtorEq, pairs, isConst, splice, Edp, dpv, ZV.val, hia]
  exact downS_here h
 ·clear h1 h2
  have hia : aindexAddr E 51 (dsl 1 1 16 [.string ⟨#[]⟩, .string ⟨#[]⟩, .string ⟨#[67]⟩, .string ⟨#[]⟩, .string ⟨#[65]⟩, .string ⟨#[65]⟩, .string ⟨#[82]⟩, .string ⟨#[82]⟩, .string ⟨#[]⟩, .string ⟨#[83]⟩, .string ⟨#[]⟩, .string ⟨#[85]⟩, .string ⟨#[]⟩, .string ⟨#[]⟩, .string ⟨#[68]⟩, .string ⟨#[88]⟩]) (.int .i64 8) = some (dptr (.string ⟨#[]⟩ :: letL.drop 9)) := let_at (k := 8) (by omega)
  simp only [↓sbD, sbU, tyB, Int.reduceLT, Nat.reduceBneDiff, decide_false, gt_iff_lt, Bool.or_self, Bool.false_eq_true, Nat.mul_one, ↓reduceIte, Nat.reduceEqDiff, Nat.reduceLT, Nat.reduceAdd, Nat.reduceLeDiff, reduceCtorEq, pairs, isConst, splice, Edp, dpv, ZV.val, hia]
  exact downS_here h
 ·clear h1 h2
  have hia : aindexAddr E 51 (dsl 1 1 16 [.string ⟨#[]⟩, .string ⟨#[]⟩, .string ⟨#[67]⟩, .string ⟨#[]⟩, .string ⟨#[65]⟩, .string ⟨#[65]⟩, .string ⟨#[82]⟩, .string ⟨#[82]⟩, .string ⟨#[]⟩, .string ⟨#[83]⟩, .string ⟨#[]⟩, .string ⟨#[85]⟩, .string ⟨#[]⟩, .string ⟨#[]⟩, .string ⟨#[68]⟩, .string ⟨#[88]⟩]) (.int .i64 9) = some (dptr (.string ⟨#[83]⟩ :: letL.drop 10)) := let_at (k := 9) (by omega)
  simp only [↓sbD, sbU, tyB, Int.reduceLT, Nat.reduceBneDiff, decide_false, gt_iff_lt, Bool.or_self, Bool.false_eq_true, Nat.mul_one, ↓reduceIte, Nat.reduceEqDiff, Nat.reduceLT, Nat.reduceAdd, Nat.reduceLeDiff, reduceCtorEq, pairs, isConst, splice, Edp, dpv, ZV.val, hia]
  exact downS_here h
 ·clear h1 h2
  have hia : aindexAddr E 51 (dsl 1 1 16 [.string ⟨#[]⟩, .string ⟨#[]⟩, .string ⟨#[67]⟩, .string ⟨#[]⟩, .string ⟨#[65]⟩, .string ⟨#[65]⟩, .string ⟨#[82]⟩, .string ⟨#[82]⟩, .string ⟨#[]⟩, .string ⟨#[83]⟩, .string ⟨#[]⟩, .string ⟨#[85]⟩, .string ⟨#[]⟩, .string ⟨#[]⟩, .string ⟨#[68]⟩, .string ⟨#[88]⟩]) (.int .i64 10) = some (dptr (.string ⟨#[]⟩ :: letL.drop 11)) := let_at (k := 10) (by omega)
  simp only [↓sbD, sbU, tyB, Int.reduceLT, Nat.reduceBneDiff, decide_false, gt_iff_lt, Bool.or_self, Bool.false_eq_true, Nat.mul_one, ↓reduceIte, Nat.reduceEqDiff, Nat.reduceLT, Nat.reduceAdd, Nat.reduceLeDiff, reduceCtorEq, pairs, isConst, splice, Edp, dpv, ZV.val, hia]
  exact downS_here h
 ·clear h1 h2
  have hia : aindexAddr E 51 (dsl 1 1 16 [.string ⟨#[]⟩, .string ⟨#[]⟩, .string ⟨#[67]⟩, .string ⟨#[]⟩, .string ⟨#[65]⟩, .string ⟨#[65]⟩, .string ⟨#[82]⟩, .string ⟨#[82]⟩, .string ⟨#[]⟩, .string ⟨#[83]⟩, .string ⟨#[]⟩, .string ⟨#[85]⟩, .string ⟨#[]⟩, .string ⟨#[]⟩, .string ⟨#[68]⟩, .string ⟨#[88]⟩]) (.int .i64 11) = some (dptr (.string ⟨#[85]⟩ :: letL.drop 12)) := let_at (k := 11) (by omega)
  simp only [↓sbD, sbU, tyB, Int.reduceLT, Nat.reduceBneDiff, decide_false, gt_iff_lt, Bool.or_self, Bool.false_eq_true, Nat.mul_one, ↓reduceIte, Nat.reduceEqDiff, Nat.reduceLT, Nat.reduceAdd, Nat.reduceLeDiff, reduceCtorEq, pairs, isConst, splice, Edp, dpv, ZV.val, hia]
  exact downS_here h
 ·clear h1 h2
  have hia : aindexAddr E 51 (dsl 1 1 16 [.string ⟨#[]⟩, .string ⟨#[]⟩, .string ⟨#[67]⟩, .string ⟨#[]⟩, .string ⟨#[65]⟩, .string ⟨#[65]⟩, .string ⟨#[82]⟩, .string ⟨#[82]⟩, .string ⟨#[]⟩, .string ⟨#[83]⟩, .string ⟨#[]⟩, .string ⟨#[85]⟩, .string ⟨#[]⟩, .string ⟨#[]⟩, .string ⟨#[68]⟩, .string ⟨#[88]⟩]) (.int .i64 12) = some (dptr (.string ⟨#[]⟩ :: letL.drop 13)) := let_at (k := 12) (by omega)
  simp only [↓sbD, sbU, tyB, Int.reduceLT, Nat.reduceBneDiff, decide_false, gt_iff_lt, Bool.or_self, Bool.false_eq_true, Nat.mul_one, ↓reduceIte, Nat.reduceEqDiff, Nat.reduceLT, Nat.reduceAdd, Nat.reduceLeDiff, reduceCtorEq, pairs, isConst, splice, Edp, dpv, ZV.val, hia]
  exact downS_here h
 ·clear h1 h2
  have hia : aindexAddr E 51 (dsl 1 1 16 [.string ⟨#[]⟩, .string ⟨#[]⟩, .string ⟨#[67]⟩, .string ⟨#[]⟩, .string ⟨#[65]⟩, .string ⟨#[65]⟩, .string ⟨#[82]⟩, .string ⟨#[82]⟩, .string ⟨#[]⟩, .string ⟨#[83]⟩, .string ⟨#[]⟩, .string ⟨#[85]⟩, .string ⟨#[]⟩, .string ⟨#[]⟩, .string ⟨#[68]⟩, .string ⟨#[88]⟩]) (.int .i64 13) = some (dptr (.string ⟨#[]⟩ :: letL.drop 14)) := let_at (k := 13) (by omega)
  simp only [↓sbD, sbU, tyB, Int.reduceLT, Nat.reduceBneDiff, decide_false, gt_iff_lt, Bool.or_self, Bool.false_eq_true, Nat.mul_one, ↓reduceIte, Nat.reduceEqDiff, Nat.reduceLT, Nat.reduceAdd, Nat.reduceLeDiff, reduceCtorEq, pairs, isConst, splice, Edp, dpv, ZV.val, hia]
  exact downS_here h
 ·clear h1 h2
  have hia : aindexAddr E 51 (dsl 1 1 16 [.string ⟨#[]⟩, .string ⟨#[]⟩, .string ⟨#[67]⟩, .string ⟨#[]⟩, .string ⟨#[65]⟩, .string ⟨#[65]⟩, .string ⟨#[82]⟩, .string ⟨#[82]⟩, .string ⟨#[]⟩, .string ⟨#[83]⟩, .string ⟨#[]⟩, .string ⟨#[85]⟩, .string ⟨#[]⟩, .string ⟨#[]⟩, .string ⟨#[68]⟩, .string ⟨#[88]⟩]) (.int .i64 14) = some (dptr (.string ⟨#[68]⟩ :: letL.drop 15)) := let_at (k := 14) (by omega)
  simp only [↓sbD, sbU, tyB, Int.reduceLT, Nat.reduceBneDiff, decide_false, gt_iff_lt, Bool.or_self, Bool.false_eq_true, Nat.mul_one, ↓reduceIte, Nat.reduceEqDiff, Nat.reduceLT, Nat.reduceAdd, Nat.reduceLeDiff, reduceCtorEq, pairs, isConst, splice, Edp, dpv, ZV.val, hia]
  exact downS_here h
 ·clear h1 h2
  have hia : aindexAddr E 51 (dsl 1 1 16 [.string ⟨#[]⟩, .string ⟨#[]⟩, .string ⟨#[67]⟩, .string ⟨#[]⟩, .string ⟨#[65]⟩, .string ⟨#[65]⟩, .string ⟨#[82]⟩, .string ⟨#[82]⟩, .string ⟨#[]⟩, .string ⟨#[83]⟩, .string ⟨#[]⟩, .string ⟨#[85]⟩, .string ⟨#[]⟩, .string ⟨#[]⟩, .string ⟨#[68]⟩, .string ⟨#[88]⟩]) (.int .i64 15) = some (dptr (.string ⟨#[88]⟩ :: letL.drop 16)) := let_at (k := 15) (by omega)
  simp only [↓sbD, sbU, tyB, Int.reduceLT, Nat.reduceBneDiff, decide_false, gt_iff_lt, Bool.or_self, Bool.false_eq_true, Nat.mul_one, ↓reduceIte, Nat.reduceEqDiff, Nat.reduceLT, Nat.reduceAdd, Nat.reduceLeDiff, reduceCtorEq, pairs, isConst, splice, Edp, dpv, ZV.val, hia]
  exact downS_here h
theorem specAlwC {k c : Int} (h : Q (.bool (alw k c)) σ) : CallS E B 135 [.int .i64 k, .int .i64 c] σ Q := by
 have hsz : (grpS c).size ≤ 20 := grp_sz c
 refine call135 (by simp) ?_
 simp only [strip, bodyOf, Tryz.f135, getD_body, keepN, bareOp_mk, List.map_cons, List.map_nil, ↓reduceIte, Bool.false_eq_true]
 simp (disch := first | assumption | simp) only [↓sbD, sbU, ↓reduceIte, Nat.reduceEqDiff, Nat.reduceLT]
 refine specCGroups ?_
 simp (disch := first | assumption | simp) only [↓sbD, sbU, ↓reduceIte, Nat.reduceLT, reduceCtorEq]
 refine specCLetter ?_
 simp (disch := first | assumption | simp) only [↓sbD, sbU, ↓reduceIte, Nat.reduceEqDiff, Nat.reduceLT]
 refine S_loop (fun m f σ' => σ' = σ ∧ ∃ i : Nat, m + i = (grpS c).size ∧ f 7 = .int .i64 i ∧ ∀ j, j < i → letS k ≠ (grpS c).extract j (j + 1)) (grpS c).size (Le.refl _) ⟨rfl, 0, rfl, by simp (disch := first | assumption | simp) only [sbU, ↓reduceIte]; rfl, fun j hj => by omega⟩ ?_
 rintro m f σ' ⟨rfl, i, hm, f7, hall⟩ hf
 have f5 := hf 5 (by decide) (notMem_wr (by kernel_rfl))
 have f6 := hf 6 (by decide) (notMem_wr (by kernel_rfl))
 simp (disch := first | assumption | simp) only [sbU, ↓reduceIte, Nat.reduceEqDiff] at f5 f6
 clear hf
 have ad := alw_doc k c
 by_cases hi : (i : Int) < ((grpS c).size : Int)
 ·have hw := wrap_suc (n := i) (by omega)
  have hsl := slice_str (σ := σ') ty9 (s := grpS c) (lo := i) (hi := i + 1) (by omega) (by omega)
  have hcc : ((i + 1 : Nat) : Int) = (i : Int) + 1 := by omega
  by_cases he : letS k = (grpS c).extract i (i + 1)
  ·have ht : alw k c = true := ad.2 ⟨i, by omega, he⟩
   rw [ht] at h
   simp (disch := first | assumption | simp) only [↓sbD, sbU, tyB, Bool.or_self, ↓reduceIte, Nat.reduceEqDiff, Nat.reduceLT, goInt, isConst, f5, f6, f7, hi, hw, hsl, ← he]
   exact downS_here h
  ·simp (disch := first | assumption | simp) only [↓sbD, sbU, tyB, decide_false, Bool.or_self, ↓reduceIte, Nat.reduceEqDiff, Nat.reduceLT, goInt, isConst, f5, f6, f7, hi, hw, hsl, he]
   refine ⟨_, m - 1, _, rfl, by omega, Le.refl _, rfl, i + 1, by omega, by simp (disch := first | assumption | simp) only [sbU, ↓reduceIte], fun j hj => ?_⟩
   rcases (by omega : j < i ∨ j = i) with h3 | rfl
   ·exact hall j h3
   ·exact he
 ·have ht : alw k c = false := by
   cases h0 : alw k c with
   | false => rfl
   | true =>
    obtain ⟨j, hj, he⟩ := ad.1 h0
    exact absurd he (hall j (by omega))
  rw [ht] at h
  simp (disch := first | assumption | simp) only [↓sbD, sbU, tyB, decide_false, Bool.or_self, ↓reduceIte, Nat.reduceEqDiff, Nat.reduceLT, goInt, isConst, f5, f7, hi]
  exact downS_here h
end
abbrev E3 := Nat × Nat × Nat
def pkz : Pk := ⟨0, 0, 0, [], false, 0, emp, ⟨false, emp, emp, 0, false, []⟩, false, emp, false, emp, false, emp, emp, 0, false, false, [], [], []⟩
def zeL : List Value := pkC pkz (.slice none 0 0) (.slice none 0 0) (.slice none 0 0) (.slice none 0 0) (.slice none 0 0)
theorem zePk : azero E 54 = some [.int .i64 0, .int .i64 0, .int .i64 0, .slice none 0 0, .bool false, .int .i64 0, .string emp, .bool false, .string emp, .string emp, .int .i64 0, .bool false, .slice none 0 0, .bool false, .string emp, .bool false, .string emp, .bool false, .string emp, .string emp, .int .i64 0, .bool false, .bool false, .slice none 0 0, .slice none 0 0, .slice none 0 0] := rfl
def codeR (s : ByteArray) (q : Nat) : Nat × Nat := match numR s q 1 with
 | .ok (n, q') => (n, q')
 | .error _ => (0, q)
def tailE (s : ByteArray) (c : Int) : Except E3 (List Pr × Nat) → Except E3 (Int × List Pr)
 | .error e => .error e
 | .ok (l, q) => if q = s.size then .ok (c, l) else .error (2, 129, q)
def TailA (kind : Int) (at' : Nat) (s : ByteArray) (q : Nat) (r : Except E3 (Int × List Pr)) : Prop :=
 if alw kind ((codeR s q).1 : Int) = false then r = .error (2, 129, at')
 else if (codeR s q).2 < s.size then ∃ r', ReadP kind s (codeR s q).2 r' ∧ r = tailE s (codeR s q).1 r'
 else r = .ok ((codeR s q).1, [])
def firstA (k : Int) : Int := if k = 4 ∨ k = 5 ∨ k = 7 then 16 * k else if k = 6 then 98 else 0
def ackP (kind id rea : Int) (l : List Pr) : Pk := { pkz with kind := kind, id := id, rea := rea, props := l }
def ackM (kind id : Int) : Except E3 (Int × List Pr) → Except E3 Pk
 | .error e => .error e
 | .ok (c, l) => .ok (ackP kind id c l)
def DecA (f : Int) (s : ByteArray) (r : Except E3 Pk) : Prop :=
 if f ≤ 0 ∨ f ≠ firstA (f / 16) then r = .error (2, 129, 0) else match numR s 0 2 with
 | .error (k, q) => r = .error (k, 129, q)
 | .ok (id, q) => if id = 0 then r = .error (3, 130, 0) else ∃ r', TailA (f / 16) 2 s q r' ∧ r = ackM (f / 16) id r'
theorem dl_vc {α : Type} {enc : α → List Value} {sz : Nat} {v : Value} {l : List α} (h : DL enc sz v l) : vcells v = [v] ∧ oneCell v = true := by
 rcases h with ⟨_, rfl⟩ | ⟨m, rfl⟩ <;> exact ⟨rfl, rfl⟩
theorem numR_one {s : ByteArray} {q : Nat} (h : q < s.size) : ∃ n, numR s q 1 = .ok (n, q + 1) := by
 unfold numR rawR
 rw [if_neg (by omega), if_neg (by omega)]
 exact ⟨_, rfl⟩
theorem codeR_at {s : ByteArray} {q : Nat} (h : ¬ q < s.size) : codeR s q = (0, q) := by
 unfold codeR numR rawR
 rw [if_neg (by omega), if_pos (by omega)]
theorem shr4 {σ : AHeap} {f : Int} {t : Nat} {cs : Bool} (h1 : -1000000000000 ≤ f) (h2 : f ≤ 1000000000000) : abin E σ .shr t cs (.int .i64 f) (.int .u64 4) = some (.int .i64 (f / 16)) := by
 simp only [abin, ashift]
 rw [if_neg (by omega)]
 show some (Value.int .i64 (Int.fdiv f 16)) = _
 rw [Int.fdiv_eq_ediv_of_nonneg _ (by omega)]
theorem shl_4 {σ : AHeap} {t : Nat} {cs : Bool} : abin E σ .shl t cs (.int .i64 4) (.int .u64 4) = some (.int .i64 64) := rfl
theorem shl_5 {σ : AHeap} {t : Nat} {cs : Bool} : abin E σ .shl t cs (.int .i64 5) (.int .u64 4) = some (.int .i64 80) := rfl
theorem shl_6 {σ : AHeap} {t : Nat} {cs : Bool} : abin E σ .shl t cs (.int .i64 6) (.int .u64 4) = some (.int .i64 96) := rfl
theorem shl_7 {σ : AHeap} {t : Nat} {cs : Bool} : abin E σ .shl t cs (.int .i64 7) (.int .u64 4) = some (.int .i64 112) := rfl
theorem or_96_2 : aint .or .i64 96 2 = some (.int .i64 98) := by kernel_rfl
section
variable {σ : AHeap} {Q : Value → AHeap → Prop} {r q : Nat} {s : ByteArray}
theorem specAFirst {k : Int} (h : Q (.int .i64 (firstA k)) σ) : CallS E B 71 [.int .i64 k] σ Q := by
 refine call71 (by simp) ?_
 simp only [strip, bodyOf, Tryz.f71, getD_body, keepN, bareOp_mk, List.map_cons, List.map_nil, ↓reduceIte, Bool.false_eq_true]
 by_cases hm : k = 4 ∨ k = 5 ∨ k = 7 ∨ k = 6
 ·rcases hm with rfl | rfl | rfl | rfl <;>
   (simp only [↓sbD, sbU, Int.reduceEq, decide_false, ↓reduceIte, Nat.reduceEqDiff, Nat.reduceLT, reduceCtorEq, isConst, shl_4, shl_5, shl_6, shl_7, or_96_2]
    exact downS_here h)
 ·simp only [not_or] at hm
  have e : firstA k = 0 := by simp [firstA, hm]
  rw [e] at h
  obtain ⟨n1, n2, n3, n4⟩ := hm
  simp only [↓sbD, sbU, decide_false, ↓reduceIte, Nat.reduceEqDiff, Nat.reduceLT, reduceCtorEq, isConst, n1, n2, n3, n4]
  exact downS_here h
theorem specARest {kind : Int} (hr : IsR σ r s q .nilIface) (hp : q ≤ s.size) (hs : s.size ≤ 100000000)
  (hok : ∀ c l, TailA kind 2 s q (.ok (c, l)) → ∀ v σ', DL propC 4 v l → Kept σ [r] σ' [r] → Q (.tuple #[.int .i64 c, v, .nilIface]) σ')
  (hbad : ∀ k rr a : Nat, TailA kind 2 s q (.error (k, rr, a)) → ∀ σ' d z c v, Kept σ [r] σ' [r] → d ≤ 3 → ErN d (fv rr a z) k → Q (.tuple #[.int .i64 c, v, fv rr a z]) σ') :
  CallS E B 77 [.pointer (some ⟨r, 0, none⟩), .int .i64 kind] σ Q := by
 unfold TailA at hok hbad
 refine call77 (by simp) ?_
 simp only [strip, bodyOf, Tryz.f77, getD_body, keepN, bareOp_mk, List.map_cons, List.map_nil, ↓reduceIte, Bool.false_eq_true]
 simp only [↓sbD, sbU, ↓reduceIte, Nat.reduceLT, reduceCtorEq]
 refine specRLeft hr hp (by omega) ?_
 by_cases hlt : q < s.size
 ·have h0 : (0 : Int) < ((s.size - q : Nat) : Int) := by omega
  obtain ⟨n, hn⟩ := numR_one hlt
  have hc : codeR s q = (n, q + 1) := by unfold codeR; rw [hn]
  rw [hc] at hok hbad
  simp only at hok hbad
  have hq1 : q + 1 ≤ s.size := by omega
  simp only [↓sbD, sbU, ↓reduceIte, Nat.reduceLT, reduceCtorEq, isConst, h0]
  refine specRU8 hr hp (by omega) (fun n' q' hn' σ1 k1 i1 => ?_) fun k q' hn' σ1 k1 i1 => by rw [hn] at hn'; cases hn'
  rw [hn] at hn'
  simp only [Except.ok.injEq, Prod.mk.injEq] at hn'
  obtain ⟨rfl, rfl⟩ := hn'
  simp only [↓sbD, sbU, ↓reduceIte, Nat.reduceLT, reduceCtorEq]
  refine specRErr i1 ?_
  cases ha : alw kind (n : Int) with
  | false =>
   simp only [ha, if_true] at hbad
   simp only [↓sbD, sbU, tyB, ↓reduceIte, Nat.reduceEqDiff, Nat.reduceLT, isConst]
   refine specAlwR ?_
   simp only [↓sbD, sbU, tyB, ↓reduceIte, Nat.reduceEqDiff, Nat.reduceLT, ha, not_bool, gk2]
   refine specNew (n := 2) ⟨by omega, by omega⟩ ?_
   simp only [↓sbD, sbU, ↓reduceIte, Nat.reduceEqDiff, Nat.reduceLT]
   exact downS_here (hbad 2 129 2 rfl _ 1 _ 0 _ k1 (by omega) (ErN.new _ _ ⟨by omega, by omega⟩))
  | true =>
   simp only [ha, Bool.true_eq_false, if_false] at hok hbad
   simp only [↓sbD, sbU, tyB, ↓reduceIte, Nat.reduceEqDiff, Nat.reduceLT, isConst]
   refine specAlwR ?_
   simp only [↓sbD, sbU, ↓reduceIte, Nat.reduceEqDiff, Nat.reduceLT, reduceCtorEq, ha, not_bool]
   refine specRLeft i1 hq1 (by omega) ?_
   by_cases hl2 : q + 1 < s.size
   ·have h2 : (0 : Int) < ((s.size - (q + 1) : Nat) : Int) := by omega
    simp only [hl2, if_true] at hok hbad
    simp only [↓sbD, sbU, ↓reduceIte, Nat.reduceEqDiff, Nat.reduceLT, reduceCtorEq, isConst, h2]
    refine specPRead i1 hq1 hs (fun l q2 hrd v σ2 hv k2 i2 hq2 => ?_) fun k rr a hrd σ2 d z k2 hd he => ?_
    ·simp only [↓sbD, sbU, tyB, ↓reduceIte, Nat.reduceEqDiff, Nat.reduceLT, reduceCtorEq, isConst]
     refine specRDone i2 hq2 (by omega) (fun hend => ?_) fun hmore => ?_
     ·simp only [↓sbD, sbU, ↓reduceIte, Nat.reduceEqDiff, Nat.reduceLT]
      exact downS_here (hok _ _ ⟨_, hrd, by simp only [tailE, if_pos hend]⟩ _ _ hv (k1.trans k2))
     ·simp only [↓sbD, sbU, ↓reduceIte, Nat.reduceEqDiff, Nat.reduceLT]
      exact downS_here (hbad _ _ _ ⟨_, hrd, by simp only [tailE]; rw [if_neg (by omega)]⟩ _ 1 _ _ _ (k1.trans k2) (by omega) (ErN.new _ _ ⟨by omega, by omega⟩))
    ·simp only [↓sbD, sbU, tyB, ↓reduceIte, Nat.reduceEqDiff, Nat.reduceLT, isConst]
     exact downS_here (hbad _ _ _ ⟨_, hrd, rfl⟩ _ d z 0 _ (k1.trans k2) hd he)
   ·have h2 : ¬ (0 : Int) < ((s.size - (q + 1) : Nat) : Int) := by omega
    simp only [hl2, if_false] at hok hbad
    simp only [↓sbD, sbU, decide_false, ↓reduceIte, Nat.reduceEqDiff, Nat.reduceLT, reduceCtorEq, isConst, h2]
    refine specRDone i1 hq1 (by omega) (fun hend => ?_) fun hmore => by omega
    simp only [↓sbD, sbU, ↓reduceIte, Nat.reduceEqDiff, Nat.reduceLT]
    exact downS_here (hok _ _ rfl _ _ (.inl ⟨rfl, rfl⟩) k1)
 ·have h0 : ¬ (0 : Int) < ((s.size - q : Nat) : Int) := by omega
  rw [codeR_at hlt] at hok hbad
  simp only [hlt, if_false] at hok hbad
  simp only [↓sbD, sbU, decide_false, ↓reduceIte, Nat.reduceLT, reduceCtorEq, isConst, h0]
  refine specRErr hr ?_
  cases ha : alw kind ((0 : Nat) : Int) with
  | false =>
   simp only [ha, if_true] at hbad
   simp only [↓sbD, sbU, tyB, ↓reduceIte, Nat.reduceEqDiff, Nat.reduceLT, isConst]
   refine specAlwR ?_
   simp only [↓sbD, sbU, tyB, ↓reduceIte, Nat.reduceEqDiff, Nat.reduceLT, show alw kind 0 = false from ha, not_bool, gk2]
   refine specNew (n := 2) ⟨by omega, by omega⟩ ?_
   simp only [↓sbD, sbU, ↓reduceIte, Nat.reduceEqDiff, Nat.reduceLT]
   exact downS_here (hbad 2 129 2 rfl _ 1 _ 0 _ (Kept.refl _ _) (by omega) (ErN.new _ _ ⟨by omega, by omega⟩))
  | true =>
   simp only [ha, Bool.true_eq_false, if_false] at hok hbad
   simp only [↓sbD, sbU, tyB, ↓reduceIte, Nat.reduceEqDiff, Nat.reduceLT, isConst]
   refine specAlwR ?_
   simp only [↓sbD, sbU, ↓reduceIte, Nat.reduceEqDiff, Nat.reduceLT, reduceCtorEq, show alw kind 0 = true from ha, not_bool]
   refine specRLeft hr hp (by omega) ?_
   simp only [↓sbD, sbU, decide_false, ↓reduceIte, Nat.reduceEqDiff, Nat.reduceLT, reduceCtorEq, isConst, h0]
   refine specRDone hr hp (by omega) (fun hend => ?_) fun hmore => by omega
   simp only [↓sbD, sbU, ↓reduceIte, Nat.reduceEqDiff, Nat.reduceLT]
   exact downS_here (hok _ _ rfl _ _ (.inl ⟨rfl, rfl⟩) (Kept.refl _ _))
theorem specADec {f : Int} (hf1 : -1000000000000 ≤ f) (hf2 : f ≤ 1000000000000) (hs : s.size ≤ 100000000)
  (hok : ∀ p, DecA f s (.ok p) → ∀ v σ', PkV p v → Kept σ [] σ' [] → Q (.tuple #[v, .nilIface]) σ')
  (hbad : ∀ k rr a : Nat, DecA f s (.error (k, rr, a)) → ∀ σ' d z, Kept σ [] σ' [] → d ≤ 3 → ErN d (fv rr a z) k → Q (.tuple #[.agg ⟨zeL⟩, fv rr a z]) σ') :
  CallS E B 32 [.agg ⟨[.int .i64 f, .string s]⟩] σ Q := by
 unfold DecA at hok hbad
 refine call32 (by simp) ?_
 simp only [strip, bodyOf, Tryz.f32, getD_body, keepN, bareOp_mk, lessOp_mk, List.map_cons, List.map_nil, ↓reduceIte, Nat.reduceEqDiff, Bool.false_eq_true]
 have hsh : ∀ (σ : AHeap) (t : Nat) (cs : Bool), abin E σ .shr t cs (.int .i64 f) (.int .u64 4) = some (.int .i64 (f / 16)) := fun σ t cs => shr4 hf1 hf2
 by_cases h1 : f ≤ 0
 ·simp (disch := first | assumption | simp) only [↓sbD, sbU, tyB, ↓reduceIte, Nat.reduceEqDiff, Nat.reduceLT, reduceCtorEq, isConst, boxS, Edp, dpv, AS_new, zePk, hsh, h1]
  intro b hb
  refine drawS_l (fl := [(5, 7)]) (by kernel_rfl) ?_ ?_
  rotate_left; simp only [lastP_cc, lastP_one]; rotate_left
  ·simp only [List.all_cons, List.all_nil, floatS, List.getElem?_cons_succ, List.getElem?_cons_zero, List.getElem?_toArray, Region.wanted, reads, looksWeak, aev_tmp, upd_at, ↓reduceIte, Nat.reduceEqDiff, Nat.reduceLT, Nat.reduceAdd, blkOf, oeq_refl, Bool.and_true, Bool.and_self, Bool.false_eq_true, yield_list, yield_here, yield_next, truth_bool]
   try rfl
  simp (disch := first | assumption | simp) only [↓sbD, sbU, tyB, ↓reduceIte, Nat.reduceLT, pairs, ZV.val, gk2]
  refine specNew (n := 2) ⟨by omega, by omega⟩ ?_
  simp (disch := first | assumption | simp) only [↓sbD, sbU, tyB, ↓reduceIte, Nat.reduceEqDiff, Nat.reduceLT, Nat.reduceAdd, Nat.reduceLeDiff, splice, res_cellc, resC_some]
  exact downS_here (hbad 2 129 0 (by rw [if_pos (.inl h1)]) _ 1 _ (((Kept.refl σ []).setD hb).setD hb) (by omega) (ErN.new _ _ ⟨by omega, by omega⟩))
 simp (disch := first | assumption | simp) only [↓sbD, sbU, tyB, decide_false, ↓reduceIte, Nat.reduceEqDiff, Nat.reduceLT, reduceCtorEq, isConst, boxS, Edp, dpv, AS_new, zePk, hsh, h1]
 intro b hb
 refine specAFirst ?_
 by_cases h2 : f = firstA (f / 16)
 rotate_left
 ·simp (disch := first | assumption | simp) only [↓sbD, sbU, Bool.or_self, ↓reduceIte, Nat.reduceEqDiff, Nat.reduceLT, isConst, h2]
  refine drawS_l (fl := [(5, 7)]) (by kernel_rfl) ?_ ?_
  rotate_left; simp only [lastP_cc, lastP_one]; rotate_left
  ·simp only [List.all_cons, List.all_nil, floatS, List.getElem?_cons_succ, List.getElem?_cons_zero, List.getElem?_toArray, Region.wanted, Bool.or_true, reads, looksWeak, aev_tmp, upd_at, ↓reduceIte, Nat.reduceEqDiff, Nat.reduceLT, Nat.reduceAdd, blkOf, oeq_refl, Bool.and_true, Bool.and_self, Bool.false_eq_true, yield_list, yield_here, yield_next, truth_bool]
   try rfl
  simp (disch := first | assumption | simp) only [↓sbD, sbU, tyB, ↓reduceIte, Nat.reduceLT, pairs, ZV.val, gk2]
  refine specNew (n := 2) ⟨by omega, by omega⟩ ?_
  simp (disch := first | assumption | simp) only [↓sbD, sbU, tyB, ↓reduceIte, Nat.reduceEqDiff, Nat.reduceLT, Nat.reduceAdd, Nat.reduceLeDiff, splice, res_cellc, resC_some]
  exact downS_here (hbad 2 129 0 (by rw [if_pos (.inr h2)]) _ 1 _ (((Kept.refl σ []).setD hb).setD hb) (by omega) (ErN.new _ _ ⟨by omega, by omega⟩))
 have hne : ¬ (f ≤ 0 ∨ f ≠ firstA (f / 16)) := fun h => h.elim h1 fun h => h h2
 simp only [if_neg hne] at hok hbad
 simp (disch := first | assumption | simp) only [↓sbD, sbU, decide_false, Bool.or_self, ↓reduceIte, Nat.reduceEqDiff, Nat.reduceLT, isConst, ← h2]
 refine drawS_l (fl := [(5, 7)]) (by kernel_rfl) ?_ ?_
 rotate_left; simp only [lastP_cc, lastP_one]; rotate_left
 ·simp only [List.all_cons, List.all_nil, floatS, List.getElem?_cons_succ, List.getElem?_cons_zero, List.getElem?_toArray, Region.wanted, Bool.or_true, reads, looksWeak, aev_tmp, upd_at, ↓reduceIte, Nat.reduceEqDiff, Nat.reduceLT, Nat.reduceAdd, blkOf, oeq_refl, Bool.and_true, Bool.and_self, Bool.false_eq_true, yield_list, yield_here, yield_next, truth_bool]
  try rfl
 generalize hσ1 : AHeap.set σ b _ = σ1
 have k1 : Kept σ [] σ1 [] := by rw [← hσ1]; exact (Kept.refl σ []).setD hb
 have gb1 : σ1.get b = .cells zeL true 0 := by rw [← hσ1]; exact AHeap.get_set_same _ _ _
 clear hσ1
 simp (disch := first | assumption | simp) only [↓sbD, sbU, tyB, ↓reduceIte, Nat.reduceEqDiff, Nat.reduceLT, reduceCtorEq]
 refine specRNew fun x σ2 hx k2 i2 => ?_
 have hbx : b ≠ x := by rintro rfl; rw [gb1] at hx; cases hx
 have K2 := k1.trans (k2.wid (gp := []) (gp' := []) (fun _ h => by cases h) (fun _ h => by cases h))
 simp (disch := first | assumption | simp) only [↓sbD, sbU, ↓reduceIte, Nat.reduceLT]
 refine specRU16 i2 (Nat.zero_le _) (by omega) (fun id q hid σ3 k3 i3 => ?_) fun k q hid σ3 k3 i3 => ?_
 rotate_left
 ·simp only [hid] at hok hbad
  obtain ⟨d, z, hd, he, i4⟩ := i3
  have gb3 := ((k2.trans k3).at gb1 (by simp) (by simp)).1
  simp only [zeL, pkC, pkz] at gb3
  have K3 := k1.trans ((k2.trans k3).wid (gp := []) (gp' := []) (fun _ h => by cases h) (fun _ h => by cases h))
  simp (disch := first | assumption | simp) only [↓sbD, sbU, ↓reduceIte, Nat.reduceEqDiff, Nat.reduceLT]
  refine specRErr i4 ?_
  simp (disch := first | assumption | simp) only [↓sbD, sbU, tyB, ↓reduceIte, Nat.reduceEqDiff, Nat.reduceLT, Nat.reduceAdd, Nat.reduceLeDiff, pairs, isConst, splice, ZV.val, gb3, res_cellc, resC_some]
  exact downS_here (hbad k 129 q rfl _ d z (K3.setD hb) (by omega) he)
 have gb3 := ((k2.trans k3).at gb1 (by simp) (by simp)).1
 simp only [zeL, pkC, pkz] at gb3
 have K3 := k1.trans ((k2.trans k3).wid (gp := []) (gp' := []) (fun _ h => by cases h) (fun _ h => by cases h))
 simp only [hid] at hok hbad
 have hq := numR_ok hid
 simp (disch := first | assumption | simp) only [↓sbD, sbU, ↓reduceIte, Nat.reduceEqDiff, Nat.reduceLT]
 refine specRErr i3 ?_
 by_cases h0 : id = 0
 ·have h0' : (id : Int) = 0 := by omega
  simp only [h0, if_true] at hok hbad
  simp (disch := first | assumption | simp) only [↓sbD, sbU, tyB, ↓reduceIte, Nat.reduceEqDiff, Nat.reduceLT, pairs, isConst, ZV.val, h0', gk3]
  refine specNew (n := 3) ⟨by omega, by omega⟩ ?_
  simp (disch := first | assumption | simp) only [↓sbD, sbU, tyB, ↓reduceIte, Nat.reduceEqDiff, Nat.reduceLT, Nat.reduceAdd, Nat.reduceLeDiff, splice, gb3, res_cellc, resC_some]
  exact downS_here (hbad 3 130 0 rfl _ 1 _ (K3.setD hb) (by omega) (ErN.new _ _ ⟨by omega, by omega⟩))
 ·have h0' : ¬ (id : Int) = 0 := by omega
  simp only [h0, if_false] at hok hbad
  simp (disch := first | assumption | simp) only [↓sbD, sbU, tyB, decide_false, ↓reduceIte, Nat.reduceEqDiff, Nat.reduceLT, isConst, h0']
  refine specARest i3 hq.2 hs (fun c l ht v σ4 hv k4 => ?_) fun k rr a ht σ4 d z c v k4 hd he => ?_
  ·have gb4 := ((k2.trans (k3.trans k4)).at gb1 (by simp) (by simp)).1
   simp only [zeL, pkC, pkz] at gb4
   have K4 := k1.trans ((k2.trans (k3.trans k4)).wid (gp := []) (gp' := []) (fun _ h => by cases h) (fun _ h => by cases h))
   have hvc := dl_vc hv
   simp (disch := first | assumption | simp) only [↓sbD, sbU, tyB, ↓reduceIte, Nat.reduceEqDiff, Nat.reduceLT, Nat.reduceAdd, Nat.reduceLeDiff, pairs, isConst, splice, ZV.val, gb4, res_cellc, resC_some, hvc.1, hvc.2]
   exact downS_here (hok _ ⟨_, ht, rfl⟩ _ _ ⟨_, _, _, _, _, hv, .inl ⟨rfl, rfl⟩, .inl ⟨rfl, rfl⟩, .inl ⟨rfl, rfl⟩, .inl ⟨rfl, rfl⟩, rfl⟩ (K4.setD hb))
  ·have gb4 := ((k2.trans (k3.trans k4)).at gb1 (by simp) (by simp)).1
   simp only [zeL, pkC, pkz] at gb4
   have K4 := k1.trans ((k2.trans (k3.trans k4)).wid (gp := []) (gp' := []) (fun _ h => by cases h) (fun _ h => by cases h))
   simp (disch := first | assumption | simp) only [↓sbD, sbU, tyB, ↓reduceIte, Nat.reduceEqDiff, Nat.reduceLT, Nat.reduceAdd, Nat.reduceLeDiff, pairs, isConst, splice, ZV.val, gb4, res_cellc, resC_some]
   exact downS_here (hbad _ _ _ ⟨_, ht, rfl⟩ _ d z (K4.setD hb) hd he)
end
def MadeR (f : Int) (D : ByteArray → Except E3 Pk → Prop) (w : ByteArray ⊕ (Nat × Nat)) (r : Except E3 (Int × ByteArray)) : Prop := match w with
 | .inr (k, q) => r = .error (k, 129, q)
 | .inl b => ∃ d, D b d ∧ match d with
  | .error e => r = .error e
  | .ok _ => r = .ok (f, b)
def actsA (p : Pk) (s : ByteArray) : List Act := ⟨2, p.id, emp⟩ :: (if p.props = [] then (if p.rea = 0 then [] else [⟨1, p.rea, emp⟩]) else [⟨1, p.rea, emp⟩, ⟨8, 0, s⟩])
def propsB (kind : Int) (l : List Pr) : Except E3 ByteArray := if l = [] then .ok emp else encP kind l
def EncA (p : Pk) (r : Except E3 (Int × ByteArray)) : Prop :=
 if firstA p.kind = 0 then r = .error (7, 128, 0) else match propsB p.kind p.props with
 | .error e => r = .error e
 | .ok s => MadeR (firstA p.kind) (DecA (firstA p.kind)) (runW emp (actsA p s)) r
theorem zeFra : azero E 57 = some [.int .i64 0, .string emp] := rfl
theorem runW_le : ∀ (l : List Act) (b c : ByteArray) (n : Nat), b.size ≤ n → runW b l = .inl c → c.size ≤ n + (l.map fun a => a.s.size + 4).sum
 | [], b, c, n, h, he => by injection he with he; subst he; simpa using h
 | a :: l, b, c, n, h, he => by
  simp only [runW] at he
  cases ha : actW a with
  | inr e => rw [ha] at he; cases he
  | inl m =>
   rw [ha] at he
   have := actW_size ha
   have := runW_le l (b ++ m) c (n + (a.s.size + 4)) (by rw [size_app]; omega) he
   simp only [List.map_cons, List.sum_cons]
   omega
section
variable {σ : AHeap} {Q : Value → AHeap → Prop}
theorem firstA_le (k : Int) : 0 ≤ firstA k ∧ firstA k ≤ 200 := by
 unfold firstA
 repeat' split
 all_goals omega
theorem specAEnc {p : Pk} {v : Value} (hp : PkV p v) (hfz : ∀ cs, v = .agg ⟨cs⟩ → frzL E.ng E.nb cs = true) (hsm : smallP p.props)
  (hok : ∀ fb, EncA p (.ok fb) → ∀ σ', Kept σ [] σ' [] → Q (.tuple #[.agg ⟨[.int .i64 fb.1, .string fb.2]⟩, .nilIface]) σ')
  (hbad : ∀ k rr a : Nat, EncA p (.error (k, rr, a)) → ∀ σ' d z, Kept σ [] σ' [] → d ≤ 3 → ErN d (fv rr a z) k → Q (.tuple #[.agg ⟨[.int .i64 0, .string emp]⟩, fv rr a z]) σ') :
  CallS E B 31 [v] σ Q := by
 obtain ⟨vp, vw, vs, vf, vc, d1, d2, d3, d4, d5, rfl⟩ := hp
 have hz := hfz _ rfl
 clear hfz
 simp only [pkC] at hz ⊢
 have hlen := DLp.len d1
 unfold EncA at hok hbad
 refine call31 (by simp) ?_
 simp only [strip, bodyOf, Tryz.f31, getD_body, keepN, bareOp_mk, lapp_cons, lapp_nil, List.map_cons, List.map_nil, ↓reduceIte, Bool.false_eq_true]
 simp (disch := first | assumption | simp) only [↓sbD, sbU, tyB, ↓reduceIte, Nat.reduceEqDiff, Nat.reduceLT, reduceCtorEq, boxS, Edp, dpv, AS_new, zeFra, hz]
 intro b hb
 refine specAFirst ?_
 by_cases h0 : firstA p.kind = 0
 ·simp only [h0, if_true] at hok hbad
  simp (disch := first | assumption | simp) only [↓sbD, sbU, tyB, ↓reduceIte, Nat.reduceLT, pairs, isConst, ZV.val, h0, gk7]
  refine specNew (n := 7) ⟨by omega, by omega⟩ ?_
  simp (disch := first | assumption | simp) only [↓sbD, sbU, tyB, ↓reduceIte, Nat.reduceEqDiff, Nat.reduceLT, Nat.reduceAdd, Nat.reduceLeDiff, splice, res_cellc, resC_some]
  exact downS_here (hbad 7 128 0 rfl _ 1 _ (((Kept.refl σ []).setD hb).setD hb) (by omega) (ErN.new _ _ ⟨by omega, by omega⟩))
 simp only [h0, if_false] at hok hbad
 simp (disch := first | assumption | simp) only [↓sbD, sbU, tyB, decide_false, Bool.false_eq_true, ↓reduceIte, Nat.reduceEqDiff, Nat.reduceLT, reduceCtorEq, pairs, isConst, boxS, Edp, ZV.val, h0, AS_new, dpW]
 intro w hw
 have hwb : w ≠ b := by rintro rfl; rw [AHeap.get_set_same] at hw; cases hw
 generalize hσ1 : AHeap.set σ b _ = σ1 at hw ⊢
 have k1 : Kept σ [] σ1 [] := by rw [← hσ1]; exact (Kept.refl σ []).setD hb
 have gb1 : σ1.get b = .cells [.int .i64 0, .string emp] true 0 := by rw [← hσ1]; exact AHeap.get_set_same _ _ _
 clear hσ1
 generalize hσ2 : AHeap.set σ1 w _ = σ2
 have gw : σ2.get w = .cells [.slice none 0 0, .nilIface] true 0 := by rw [← hσ2]; exact AHeap.get_set_same _ _ _
 have k2 : Kept σ1 [] σ2 [w] := by rw [← hσ2]; exact Kept.new' hw
 have w2 : WRun σ2 w (runW emp []) [w] := ⟨_, [], gw, .inl ⟨rfl, rfl, rfl⟩, rfl, by simp⟩
 have z2 : leW (runW emp []) 0 := fun b hb => by injection hb with hb; subst hb; exact Nat.le_refl _
 clear gw hσ2
 refine specU16R (s := emp) w2 (fun b hb => by have := z2 b hb; omega) fun σ3 fp3 k3 w3 => ?_
 have hz3 := leW_step (a := ⟨2, p.id, emp⟩) z2
 have hs3 : stepW (runW emp []) [⟨2, p.id, emp⟩] = runW emp [⟨2, p.id, emp⟩] := rfl
 rw [hs3] at w3 hz3
 have K3 := k2.trans k3
 have eml : (emp).size = 0 := rfl
 by_cases hpn : p.props = []
 ·have hl0 : ¬ (0 : Int) < (p.props.length : Int) := by rw [hpn]; exact fun h => by cases h
  have hpb : propsB p.kind p.props = .ok emp := by unfold propsB; rw [if_pos hpn]
  rw [hpb] at hok hbad
  simp only at hok hbad
  by_cases hr0 : p.rea = 0
  ·have hac : actsA p emp = [⟨2, p.id, emp⟩] := by unfold actsA; rw [if_pos hpn, if_pos hr0]
   rw [hac] at hok hbad
   simp only [eml] at hz3
   simp (disch := first | assumption | simp) only [↓sbD, sbU, tyB, decide_false, ↓reduceIte, Nat.reduceEqDiff, Nat.reduceLT, reduceCtorEq, isConst, hlen, hl0, hr0]
   refine specBytesR w3 (fun bb hbb => ?_) fun k q d z hr hd he => ?_
   ·have gbn := (K3.at gb1 (by simp) (by simp)).1
    have hle := hz3 bb hbb
    simp (disch := first | assumption | simp) only [↓sbD, sbU, tyB, ↓reduceIte, Nat.reduceEqDiff, Nat.reduceLT, reduceCtorEq]
    refine specAFirst ?_
    simp (disch := first | assumption | simp) only [↓sbD, sbU, tyB, ↓reduceIte, Nat.reduceEqDiff, Nat.reduceLT, Nat.reduceAdd, Nat.reduceLeDiff, pairs, isConst, splice, ZV.val, AS_new, zeFra]
    intro c hc
    have hcb : c ≠ b := nd hc gbn (by simp)
    generalize hσc : AHeap.set _ c _ = σc
    have kc : Kept σ3 [] σc [] := by rw [← hσc]; exact ((Kept.refl _ []).setD hc).setD hc
    have gc : σc.get c = .cells [.int .i64 (firstA p.kind), .string bb] true 0 := by rw [← hσc]; exact AHeap.get_set_same _ _ _
    clear hσc
    have fle := firstA_le p.kind
    refine specADec (by omega) (by omega) (by omega) (fun y hy v2 σd hv2 kd => ?_) fun k rr a hy σd d z kd hd he => ?_
    ·have gbd := ((kc.trans kd).at gbn (by simp) (by simp)).1
     have gcd := (kd.at gc (by simp) (by simp)).1
     simp (disch := first | assumption | simp) only [↓sbD, sbU, tyB, ↓reduceIte, Nat.reduceEqDiff, Nat.reduceLT, Nat.reduceAdd, Nat.reduceLeDiff, isConst, splice, gcd, gbd, res_cellc, resC_some]
     exact downS_here (hok (firstA p.kind, bb) (by unfold MadeR; rw [hbb]; exact ⟨_, hy, rfl⟩) _ ((k1.trans ((K3.wid (gp := []) (gp' := []) (fun _ h => by cases h) (fun _ h => by cases h)).trans (kc.trans kd))).setD hb))
    ·have gbd := ((kc.trans kd).at gbn (by simp) (by simp)).1
     simp (disch := first | assumption | simp) only [↓sbD, sbU, tyB, ↓reduceIte, Nat.reduceEqDiff, Nat.reduceLT, Nat.reduceAdd, Nat.reduceLeDiff, pairs, isConst, splice, ZV.val, gbd, res_cellc, resC_some]
     exact downS_here (hbad k rr a (by unfold MadeR; rw [hbb]; exact ⟨_, hy, rfl⟩) _ d z ((k1.trans ((K3.wid (gp := []) (gp' := []) (fun _ h => by cases h) (fun _ h => by cases h)).trans (kc.trans kd))).setD hb) hd he)
   ·have gbn := (K3.at gb1 (by simp) (by simp)).1
    simp (disch := first | assumption | simp) only [↓sbD, sbU, tyB, ↓reduceIte, Nat.reduceEqDiff, Nat.reduceLT, reduceCtorEq]
    refine specAFirst ?_
    simp (disch := first | assumption | simp) only [↓sbD, sbU, tyB, ↓reduceIte, Nat.reduceEqDiff, Nat.reduceLT, Nat.reduceAdd, Nat.reduceLeDiff, pairs, isConst, splice, ZV.val, AS_new, zeFra]
    intro c hc
    have hcb : c ≠ b := nd hc gbn (by simp)
    have bc : ∀ (τ : AHeap) o, (AHeap.set τ c o).get b = τ.get b := fun τ o => AHeap.get_set_ne _ _ hcb
    simp (disch := first | assumption | simp) only [↓sbD, sbU, tyB, ↓reduceIte, Nat.reduceEqDiff, Nat.reduceLT, Nat.reduceAdd, Nat.reduceLeDiff, splice, bc, gbn, res_cellc, resC_some]
    exact downS_here (hbad k 129 q (by unfold MadeR; rw [hr]) _ d z ((k1.trans ((K3.wid (gp := []) (gp' := []) (fun _ h => by cases h) (fun _ h => by cases h)).trans (((Kept.refl _ []).setD hc).setD hc))).setD hb) (by omega) he)
  ·have hac : actsA p emp = [⟨2, p.id, emp⟩, ⟨1, p.rea, emp⟩] := by unfold actsA; rw [if_pos hpn, if_neg hr0]
   rw [hac] at hok hbad
   simp (disch := first | assumption | simp) only [↓sbD, sbU, tyB, decide_false, ↓reduceIte, Nat.reduceEqDiff, Nat.reduceLT, reduceCtorEq, isConst, hlen, hl0, hr0]
   refine specU8R (s := emp) w3 (fun b hb => by have := hz3 b hb; simp only [eml] at this; omega) fun σ4 fp4 k4 w4 => ?_
   have hz4 := leW_step (a := ⟨1, p.rea, emp⟩) hz3
   have hs4 : stepW (runW emp [⟨2, p.id, emp⟩]) [⟨1, p.rea, emp⟩] = runW emp [⟨2, p.id, emp⟩, ⟨1, p.rea, emp⟩] := by rw [show runW emp [⟨2, p.id, emp⟩] = stepW (runW emp []) [⟨2, p.id, emp⟩] from rfl, stepW_app]; rfl
   rw [hs4] at w4 hz4
   have K4 := K3.trans k4
   simp only [eml] at hz4
   simp (disch := first | assumption | simp) only [↓sbD, sbU, ↓reduceIte, Nat.reduceEqDiff, Nat.reduceLT]
   refine specBytesR w4 (fun bb hbb => ?_) fun k q d z hr hd he => ?_
   ·have gbn := (K4.at gb1 (by simp) (by simp)).1
    have hle := hz4 bb hbb
    simp (disch := first | assumption | simp) only [↓sbD, sbU, tyB, ↓reduceIte, Nat.reduceEqDiff, Nat.reduceLT, reduceCtorEq]
    refine specAFirst ?_
    simp (disch := first | assumption | simp) only [↓sbD, sbU, tyB, ↓reduceIte, Nat.reduceEqDiff, Nat.reduceLT, Nat.reduceAdd, Nat.reduceLeDiff, pairs, isConst, splice, ZV.val, AS_new, zeFra]
    intro c hc
    have hcb : c ≠ b := nd hc gbn (by simp)
    generalize hσc : AHeap.set _ c _ = σc
    have kc : Kept σ4 [] σc [] := by rw [← hσc]; exact ((Kept.refl _ []).setD hc).setD hc
    have gc : σc.get c = .cells [.int .i64 (firstA p.kind), .string bb] true 0 := by rw [← hσc]; exact AHeap.get_set_same _ _ _
    clear hσc
    have fle := firstA_le p.kind
    refine specADec (by omega) (by omega) (by omega) (fun y hy v2 σd hv2 kd => ?_) fun k rr a hy σd d z kd hd he => ?_
    ·have gbd := ((kc.trans kd).at gbn (by simp) (by simp)).1
     have gcd := (kd.at gc (by simp) (by simp)).1
     simp (disch := first | assumption | simp) only [↓sbD, sbU, tyB, ↓reduceIte, Nat.reduceEqDiff, Nat.reduceLT, Nat.reduceAdd, Nat.reduceLeDiff, isConst, splice, gcd, gbd, res_cellc, resC_some]
     exact downS_here (hok (firstA p.kind, bb) (by unfold MadeR; rw [hbb]; exact ⟨_, hy, rfl⟩) _ ((k1.trans ((K4.wid (gp := []) (gp' := []) (fun _ h => by cases h) (fun _ h => by cases h)).trans (kc.trans kd))).setD hb))
    ·have gbd := ((kc.trans kd).at gbn (by simp) (by simp)).1
     simp (disch := first | assumption | simp) only [↓sbD, sbU, tyB, ↓reduceIte, Nat.reduceEqDiff, Nat.reduceLT, Nat.reduceAdd, Nat.reduceLeDiff, pairs, isConst, splice, ZV.val, gbd, res_cellc, resC_some]
     exact downS_here (hbad k rr a (by unfold MadeR; rw [hbb]; exact ⟨_, hy, rfl⟩) _ d z ((k1.trans ((K4.wid (gp := []) (gp' := []) (fun _ h => by cases h) (fun _ h => by cases h)).trans (kc.trans kd))).setD hb) hd he)
   ·have gbn := (K4.at gb1 (by simp) (by simp)).1
    simp (disch := first | assumption | simp) only [↓sbD, sbU, tyB, ↓reduceIte, Nat.reduceEqDiff, Nat.reduceLT, reduceCtorEq]
    refine specAFirst ?_
    simp (disch := first | assumption | simp) only [↓sbD, sbU, tyB, ↓reduceIte, Nat.reduceEqDiff, Nat.reduceLT, Nat.reduceAdd, Nat.reduceLeDiff, pairs, isConst, splice, ZV.val, AS_new, zeFra]
    intro c hc
    have hcb : c ≠ b := nd hc gbn (by simp)
    have bc : ∀ (τ : AHeap) o, (AHeap.set τ c o).get b = τ.get b := fun τ o => AHeap.get_set_ne _ _ hcb
    simp (disch := first | assumption | simp) only [↓sbD, sbU, tyB, ↓reduceIte, Nat.reduceEqDiff, Nat.reduceLT, Nat.reduceAdd, Nat.reduceLeDiff, splice, bc, gbn, res_cellc, resC_some]
    exact downS_here (hbad k 129 q (by unfold MadeR; rw [hr]) _ d z ((k1.trans ((K4.wid (gp := []) (gp' := []) (fun _ h => by cases h) (fun _ h => by cases h)).trans (((Kept.refl _ []).setD hc).setD hc))).setD hb) (by omega) he)
 ·have hl0 : (0 : Int) < (p.props.length : Int) := by
   have : p.props.length ≠ 0 := fun h => hpn (List.length_eq_zero_iff.1 h)
   omega
  simp (disch := first | assumption | simp) only [↓sbD, sbU, tyB, ↓reduceIte, Nat.reduceEqDiff, Nat.reduceLT, reduceCtorEq, isConst, hlen, hl0]
  refine specU8R (s := emp) w3 (fun b hb => by have := hz3 b hb; simp only [eml] at this; omega) fun σ4 fp4 k4 w4 => ?_
  have hz4 := leW_step (a := ⟨1, p.rea, emp⟩) hz3
  have hs4 : stepW (runW emp [⟨2, p.id, emp⟩]) [⟨1, p.rea, emp⟩] = runW emp [⟨2, p.id, emp⟩, ⟨1, p.rea, emp⟩] := by rw [show runW emp [⟨2, p.id, emp⟩] = stepW (runW emp []) [⟨2, p.id, emp⟩] from rfl, stepW_app]; rfl
  rw [hs4] at w4 hz4
  have K4 := K3.trans k4
  simp (disch := first | assumption | simp) only [↓sbD, sbU, tyB, ↓reduceIte, Nat.reduceEqDiff, Nat.reduceLT, reduceCtorEq]
  refine specPEncode d1 hsm (fun c hce hcz => ?_) fun k r a d z hce hd he => ?_
  ·have hpb : propsB p.kind p.props = .ok c := by unfold propsB; rw [if_neg hpn, hce]
   rw [hpb] at hok hbad
   simp only at hok hbad
   simp (disch := first | assumption | simp) only [↓sbD, sbU, tyB, ↓reduceIte, Nat.reduceEqDiff, Nat.reduceLT, isConst]
   refine specRawR (n := 0) w4 (fun b hb => by have := hz4 b hb; simp only [eml] at this; omega) (by omega) fun σ5 fp5 k5 w5 => ?_
   have hz5 := leW_step (a := ⟨8, 0, c⟩) hz4
   have hs5 : stepW (runW emp [⟨2, p.id, emp⟩, ⟨1, p.rea, emp⟩]) [⟨8, 0, c⟩] = runW emp (actsA p c) := by
    rw [show runW emp [⟨2, p.id, emp⟩, ⟨1, p.rea, emp⟩] = stepW (runW emp []) [⟨2, p.id, emp⟩, ⟨1, p.rea, emp⟩] from rfl, stepW_app]; unfold actsA; rw [if_neg hpn]; rfl
   rw [hs5] at w5 hz5
   have K5 := K4.trans k5
   simp only [eml] at hz5
   simp (disch := first | assumption | simp) only [↓sbD, sbU, ↓reduceIte, Nat.reduceEqDiff, Nat.reduceLT]
   refine specBytesR w5 (fun bb hbb => ?_) fun k q d z hr hd he => ?_
   ·have gbn := (K5.at gb1 (by simp) (by simp)).1
    have hle := hz5 bb hbb
    simp (disch := first | assumption | simp) only [↓sbD, sbU, tyB, ↓reduceIte, Nat.reduceEqDiff, Nat.reduceLT, reduceCtorEq]
    refine specAFirst ?_
    simp (disch := first | assumption | simp) only [↓sbD, sbU, tyB, ↓reduceIte, Nat.reduceEqDiff, Nat.reduceLT, Nat.reduceAdd, Nat.reduceLeDiff, pairs, isConst, splice, ZV.val, AS_new, zeFra]
    intro c hc
    have hcb : c ≠ b := nd hc gbn (by simp)
    generalize hσc : AHeap.set _ c _ = σc
    have kc : Kept σ5 [] σc [] := by rw [← hσc]; exact ((Kept.refl _ []).setD hc).setD hc
    have gc : σc.get c = .cells [.int .i64 (firstA p.kind), .string bb] true 0 := by rw [← hσc]; exact AHeap.get_set_same _ _ _
    clear hσc
    have fle := firstA_le p.kind
    refine specADec (by omega) (by omega) (by omega) (fun y hy v2 σd hv2 kd => ?_) fun k rr a hy σd d z kd hd he => ?_
    ·have gbd := ((kc.trans kd).at gbn (by simp) (by simp)).1
     have gcd := (kd.at gc (by simp) (by simp)).1
     simp (disch := first | assumption | simp) only [↓sbD, sbU, tyB, ↓reduceIte, Nat.reduceEqDiff, Nat.reduceLT, Nat.reduceAdd, Nat.reduceLeDiff, isConst, splice, gcd, gbd, res_cellc, resC_some]
     exact downS_here (hok (firstA p.kind, bb) (by unfold MadeR; rw [hbb]; exact ⟨_, hy, rfl⟩) _ ((k1.trans ((K5.wid (gp := []) (gp' := []) (fun _ h => by cases h) (fun _ h => by cases h)).trans (kc.trans kd))).setD hb))
    ·have gbd := ((kc.trans kd).at gbn (by simp) (by simp)).1
     simp (disch := first | assumption | simp) only [↓sbD, sbU, tyB, ↓reduceIte, Nat.reduceEqDiff, Nat.reduceLT, Nat.reduceAdd, Nat.reduceLeDiff, pairs, isConst, splice, ZV.val, gbd, res_cellc, resC_some]
     exact downS_here (hbad k rr a (by unfold MadeR; rw [hbb]; exact ⟨_, hy, rfl⟩) _ d z ((k1.trans ((K5.wid (gp := []) (gp' := []) (fun _ h => by cases h) (fun _ h => by cases h)).trans (kc.trans kd))).setD hb) hd he)
   ·have gbn := (K5.at gb1 (by simp) (by simp)).1
    simp (disch := first | assumption | simp) only [↓sbD, sbU, tyB, ↓reduceIte, Nat.reduceEqDiff, Nat.reduceLT, reduceCtorEq]
    refine specAFirst ?_
    simp (disch := first | assumption | simp) only [↓sbD, sbU, tyB, ↓reduceIte, Nat.reduceEqDiff, Nat.reduceLT, Nat.reduceAdd, Nat.reduceLeDiff, pairs, isConst, splice, ZV.val, AS_new, zeFra]
    intro c hc
    have hcb : c ≠ b := nd hc gbn (by simp)
    have bc : ∀ (τ : AHeap) o, (AHeap.set τ c o).get b = τ.get b := fun τ o => AHeap.get_set_ne _ _ hcb
    simp (disch := first | assumption | simp) only [↓sbD, sbU, tyB, ↓reduceIte, Nat.reduceEqDiff, Nat.reduceLT, Nat.reduceAdd, Nat.reduceLeDiff, splice, bc, gbn, res_cellc, resC_some]
    exact downS_here (hbad k 129 q (by unfold MadeR; rw [hr]) _ d z ((k1.trans ((K5.wid (gp := []) (gp' := []) (fun _ h => by cases h) (fun _ h => by cases h)).trans (((Kept.refl _ []).setD hc).setD hc))).setD hb) (by omega) he)
  ·have hpb : propsB p.kind p.props = .error (k, r, a) := by unfold propsB; rw [if_neg hpn, hce]
   rw [hpb] at hok hbad
   simp only at hok hbad
   have gbn := (K4.at gb1 (by simp) (by simp)).1
   simp (disch := first | assumption | simp) only [↓sbD, sbU, tyB, ↓reduceIte, Nat.reduceEqDiff, Nat.reduceLT, Nat.reduceAdd, Nat.reduceLeDiff, pairs, isConst, splice, ZV.val, gbn, res_cellc, resC_some]
   exact downS_here (hbad k r a rfl _ d z ((k1.trans (K4.wid (gp := []) (gp' := []) (fun _ h => by cases h) (fun _ h => by cases h))).setD hb) (by omega) he)
end
theorem actsP_sum {p : Pr} (h1 : p.s.size ≤ 200) (h2 : p.v.size ≤ 200) : ((actsP p).map fun a => a.s.size + 4).sum ≤ 412 := by
 have he : emp.size = 0 := rfl
 unfold actsP
 by_cases h9 : typI p.id = 9
 ·rw [if_pos h9]; simp only [List.map_cons, List.map_nil, List.sum_cons, List.sum_nil, he]; omega
 ·rw [if_neg h9]
  by_cases h0 : typI p.id = 0
  ·rw [if_pos h0]; simp only [List.map_cons, List.map_nil, List.sum_cons, List.sum_nil, he]; omega
  ·rw [if_neg h0]; simp only [List.map_cons, List.map_nil, List.sum_cons, List.sum_nil, he]; omega
theorem acts_sum : ∀ {l : List Pr}, (∀ p ∈ l, p.s.size ≤ 200 ∧ p.v.size ≤ 200) → ((l.flatMap actsP).map fun a => a.s.size + 4).sum ≤ 412 * l.length
 | [], _ => by simp
 | p :: l, h => by
  have h1 := h p (by simp)
  have h2 := actsP_sum h1.1 h1.2
  have h3 := acts_sum (l := l) fun q hq => h q (by simp [hq])
  simp only [List.flatMap_cons, List.map_append, List.sum_append, List.length_cons]
  omega
theorem encP_size {pl : Int} {l : List Pr} {c : ByteArray} (hf : fewPr l) (h : encP pl l = .ok c) : c.size ≤ 28844 := by
 unfold encP at h
 cases hc : chk pl [] l with
 | some e => rw [hc] at h; cases h
 | none =>
  rw [hc] at h
  simp only at h
  cases hr : runW emp (l.flatMap actsP) with
  | inr e => rw [hr] at h; cases h
  | inl b =>
   rw [hr] at h
   simp only [Except.ok.injEq] at h
   subst h
   have h1 := runW_le _ emp b 0 (Nat.le_refl _) hr
   have h2 := acts_sum hf.2
   have h3 := hf.1
   have h4 : 412 * l.length ≤ 412 * 70 := Nat.mul_le_mul_left _ h3
   rw [size_app, str_size, enc_len]
   have := (vsize_pos b.size).2
   omega
section
variable {σ : AHeap} {Q : Value → AHeap → Prop} {r q p : Nat} {s : ByteArray}
theorem specKBad {n : Nat} (h : Q (flt 2 129 n) σ) : CallS E B 131 [.int .i64 (n : Int)] σ Q := by
 refine call131 (by simp) ?_
 simp only [strip, bodyOf, Tryz.f131, getD_body, keepN, bareOp_mk, List.map_cons, List.map_nil, ↓reduceIte, Bool.false_eq_true]
 simp only [↓sbD, sbU, tyB, ↓reduceIte, Nat.reduceEqDiff, Nat.reduceLT, Nat.reduceAdd, Nat.reduceLeDiff, reduceCtorEq, pairs, splice, ZV.val, AS_new, zeFlt]
 intro b hb
 exact downS_le (Le.new' (Le.new hb) hb) h
theorem specKAgainst {n : Nat} (h : Q (flt 3 130 n) σ) : CallS E B 133 [.int .i64 (n : Int)] σ Q := by
 refine call133 (by simp) ?_
 simp only [strip, bodyOf, Tryz.f133, getD_body, keepN, bareOp_mk, List.map_cons, List.map_nil, ↓reduceIte, Bool.false_eq_true]
 simp only [↓sbD, sbU, tyB, ↓reduceIte, Nat.reduceEqDiff, Nat.reduceLT, Nat.reduceAdd, Nat.reduceLeDiff, reduceCtorEq, pairs, splice, ZV.val, AS_new, zeFlt]
 intro b hb
 exact downS_le (Le.new' (Le.new hb) hb) h
theorem specKOf (hr : IsY σ r s p 0 0) (hp : p ≤ s.size) (hend : p = s.size → Q (flt 0 0 0) σ) (hmore : p < s.size → Q (flt 2 129 p) σ) : CallS E B 137 [.pointer (some ⟨r, 0, none⟩)] σ Q := by
 refine call137 (by simp) ?_
 simp only [strip, bodyOf, Tryz.f137, getD_body, keepN, bareOp_mk, List.map_cons, List.map_nil, ↓reduceIte, Bool.false_eq_true]
 simp (disch := first | assumption | simp) only [↓sbD, sbU, ↓reduceIte, Nat.reduceLT, reduceCtorEq, AS_new, zeFlt]
 intro b hb
 have hbr : b ≠ r := nd hb hr (by simp)
 have hr2 : IsY (AHeap.set σ b (.cells [.int .i64 0, .int .i64 0, .int .i64 0] true 0)) r s p 0 0 := by unfold IsY; rw [AHeap.get_set_ne _ _ hbr]; exact hr
 refine specYDone hr2 (fun _ h1 => ?_) (fun _ h1 => ?_) (fun h => absurd rfl h) hp
 ·simp (disch := first | assumption | simp) only [↓sbD, sbU, tyB, ↓reduceIte, Nat.reduceEqDiff, Nat.reduceLT, Nat.reduceAdd, Nat.reduceLeDiff, pairs, isConst, splice, ZV.val, res_cellc, resC_some]
  exact downS_le (Le.new' (Le.new hb) hb) (hend h1)
 ·simp (disch := first | assumption | simp) only [↓sbD, sbU, tyB, Int.reduceEq, decide_false, ↓reduceIte, Nat.reduceEqDiff, Nat.reduceLT, Nat.reduceAdd, Nat.reduceLeDiff, pairs, isConst, splice, ZV.val, res_cellc, resC_some]
  exact downS_le (Le.new' (Le.new hb) hb) (hmore h1)
theorem specKOfE {k a : Nat} (hk : k ≠ 0) (hr : IsY σ r s p (k : Int) (a : Int)) (hp : p ≤ s.size) (h : Q (flt k 129 a) σ) : CallS E B 137 [.pointer (some ⟨r, 0, none⟩)] σ Q := by
 have hk0 : ¬ (k : Int) = 0 := by omega
 refine call137 (by simp) ?_
 simp only [strip, bodyOf, Tryz.f137, getD_body, keepN, bareOp_mk, List.map_cons, List.map_nil, ↓reduceIte, Bool.false_eq_true]
 simp (disch := first | assumption | simp) only [↓sbD, sbU, ↓reduceIte, Nat.reduceLT, reduceCtorEq, AS_new, zeFlt]
 intro b hb
 have hbr : b ≠ r := nd hb hr (by simp)
 have hr2 : IsY (AHeap.set σ b (.cells [.int .i64 0, .int .i64 0, .int .i64 0] true 0)) r s p (k : Int) (a : Int) := by unfold IsY; rw [AHeap.get_set_ne _ _ hbr]; exact hr
 refine specYDone hr2 (fun h => absurd h hk0) (fun h => absurd h hk0) (fun _ => ?_) hp
 simp (disch := first | assumption | simp) only [↓sbD, sbU, tyB, decide_false, ↓reduceIte, Nat.reduceEqDiff, Nat.reduceLT, Nat.reduceAdd, Nat.reduceLeDiff, pairs, isConst, splice, ZV.val, hk0, res_cellc, resC_some]
 exact downS_le (Le.new' (Le.new hb) hb) h
theorem specKMade {x : Nat} {f : Int} {w : ByteArray ⊕ (Nat × Nat)} (hx : XRun σ x w) (hok : ∀ b, w = .inl b → Q (.tuple #[.agg ⟨[.int .i64 f, .string b]⟩, flt 0 0 0]) σ)
  (hbad : ∀ k q, w = .inr (k, q) → k ≠ 0 → Q (.tuple #[.agg ⟨[.int .i64 0, .string emp]⟩, flt k 129 q]) σ) : CallS E B 91 [.int .i64 f, .pointer (some ⟨x, 0, none⟩)] σ Q := by
 refine call91 (by simp) ?_
 simp only [strip, bodyOf, Tryz.f91, getD_body, keepN, bareOp_mk, lessOp_mk, List.map_cons, List.map_nil, ↓reduceIte, Nat.reduceEqDiff, Bool.false_eq_true]
 simp only [↓sbD, sbU, tyB, ↓reduceIte, Nat.reduceEqDiff, Nat.reduceLT, reduceCtorEq, AS_new, zeFra, zeFlt]
 intro b hb c hc
 have hcb : c ≠ b := by rintro rfl; rw [AHeap.get_set_same] at hc; cases hc
 have hcd : σ.get c = .dead := by rw [AHeap.get_set_ne _ _ hcb.symm] at hc; exact hc
 have cb : ∀ (τ : AHeap) o, (AHeap.set τ c o).get b = τ.get b := fun τ o => AHeap.get_set_ne _ _ hcb
 have bc : ∀ (τ : AHeap) o, (AHeap.set τ b o).get c = τ.get c := fun τ o => AHeap.get_set_ne _ _ hcb.symm
 cases w with
 | inl d =>
  have hx' : σ.get x = .cells [.string d, .int .i64 0, .int .i64 0] true 0 := hx
  have hbx : b ≠ x := nd hb hx' (by simp)
  have hcx : c ≠ x := nd hcd hx' (by simp)
  have bx : ∀ (τ : AHeap) o, (AHeap.set τ b o).get x = τ.get x := fun τ o => AHeap.get_set_ne _ _ hbx
  have cx : ∀ (τ : AHeap) o, (AHeap.set τ c o).get x = τ.get x := fun τ o => AHeap.get_set_ne _ _ hcx
  simp only [↓sbD, sbU, tyB, decide_false, ↓reduceIte, Nat.reduceEqDiff, Nat.reduceLT, Nat.reduceAdd, Nat.reduceLeDiff, reduceCtorEq, pairs, isConst, splice, ZV.val, bx, cx, hx', bc, cb, res_cellc, resC_some]
  exact downS_le (Le.new' (Le.new' (Le.new' (Le.new hb) hcd) hb) hcd) (hok d rfl)
 | inr e =>
  obtain ⟨k, q⟩ := e
  obtain ⟨hk, d, hx'⟩ := hx
  have hx' : σ.get x = .cells [.string d, .int .i64 (k : Int), .int .i64 (q : Int)] true 0 := hx'
  have hk0 : ¬ (k : Int) = 0 := by omega
  have hbx : b ≠ x := nd hb hx' (by simp)
  have hcx : c ≠ x := nd hcd hx' (by simp)
  have bx : ∀ (τ : AHeap) o, (AHeap.set τ b o).get x = τ.get x := fun τ o => AHeap.get_set_ne _ _ hbx
  have cx : ∀ (τ : AHeap) o, (AHeap.set τ c o).get x = τ.get x := fun τ o => AHeap.get_set_ne _ _ hcx
  simp only [↓sbD, sbU, tyB, ↓reduceIte, Nat.reduceEqDiff, Nat.reduceLT, Nat.reduceAdd, Nat.reduceLeDiff, reduceCtorEq, pairs, isConst, splice, ZV.val, bx, cx, hx', hk0, bc, cb]
  refine drawS_l (fl := [(4, 10), (8, 10)]) (by kernel_rfl) ?_ ?_
  rotate_left; simp only [lastP_cc, lastP_one]; rotate_left
  ·simp only [List.all_cons, List.all_nil, floatS, List.getElem?_cons_succ, List.getElem?_cons_zero, List.getElem?_toArray, Region.wanted, Bool.not_true, Bool.not_false, Bool.or_true, reads, looksWeak, aev_tmp, upd_at, ↓reduceIte, Nat.reduceLT, Nat.reduceAdd, blkOf, oeq_refl, dead_cells, Bool.and_self, Bool.false_eq_true, Bool.not_false, bx, cx, hx']
   try rfl
  simp only [↓sbD, sbU, tyB, ↓reduceIte, Nat.reduceEqDiff, Nat.reduceLT, Nat.reduceAdd, Nat.reduceLeDiff, cb, res_cellc, resC_some]
  exact downS_le (Le.new' (Le.new' (Le.new' (Le.new hb) hcd) hb) hcd) (hbad k q rfl hk)
theorem specRFirstA {k : Int} (h : Q (.int .i64 (firstA k)) σ) : CallS E B 90 [.int .i64 k] σ Q := by
 refine call90 (by simp) ?_
 simp only [strip, bodyOf, Tryz.f90, getD_body, keepN, bareOp_mk, List.map_cons, List.map_nil, ↓reduceIte, Bool.false_eq_true]
 by_cases hm : k = 4 ∨ k = 5 ∨ k = 7 ∨ k = 6
 ·rcases hm with rfl | rfl | rfl | rfl <;>
   (simp only [↓sbD, sbU, Int.reduceEq, decide_false, ↓reduceIte, Nat.reduceEqDiff, Nat.reduceLT, reduceCtorEq, isConst]
    exact downS_here h)
 ·simp only [not_or] at hm
  have e : firstA k = 0 := by simp [firstA, hm]
  rw [e] at h
  obtain ⟨n1, n2, n3, n4⟩ := hm
  simp only [↓sbD, sbU, decide_false, ↓reduceIte, Nat.reduceEqDiff, Nat.reduceLT, reduceCtorEq, isConst, n1, n2, n3, n4]
  exact downS_here h
end
set_option maxHeartbeats 4000000
theorem ReadP.det {pl : Int} {s : ByteArray} {p : Nat} {r r' : Except (Nat × Nat × Nat) (List Pr × Nat)} (h : ReadP pl s p r) (h' : ReadP pl s p r') : r = r' := by
 unfold ReadP at h h'
 cases hv : varR s p with
 | error e => obtain ⟨k, q⟩ := e; rw [hv] at h h'; exact h.trans h'.symm
 | ok a =>
  obtain ⟨n, q⟩ := a
  rw [hv] at h h'
  simp only at h h'
  cases hw : rawR s q n with
  | error e => obtain ⟨k, q'⟩ := e; rw [hw] at h h'; exact h.trans h'.symm
  | ok b =>
   obtain ⟨all, q'⟩ := b
   rw [hw] at h h'
   simp only at h h'
   obtain ⟨x, h1, h2⟩ := h
   obtain ⟨y, h3, h4⟩ := h'
   obtain rfl := h1.det h3
   cases x with
   | error e => obtain ⟨k, rr, a⟩ := e; exact h2.trans h4.symm
   | ok l => exact h2.trans h4.symm
theorem TailA.det {kind : Int} {a q : Nat} {s : ByteArray} {r r' : Except E3 (Int × List Pr)} (h : TailA kind a s q r) (h' : TailA kind a s q r') : r = r' := by
 unfold TailA at h h'
 split at h
 ·rename_i h1
  rw [if_pos h1] at h'
  exact h.trans h'.symm
 ·rename_i h1
  rw [if_neg h1] at h'
  split at h
  ·rename_i h2
   rw [if_pos h2] at h'
   obtain ⟨x, h3, rfl⟩ := h
   obtain ⟨y, h4, rfl⟩ := h'
   rw [h3.det h4]
  ·rename_i h2
   rw [if_neg h2] at h'
   exact h.trans h'.symm
theorem DecA.det {f : Int} {s : ByteArray} {r r' : Except E3 Pk} (h : DecA f s r) (h' : DecA f s r') : r = r' := by
 unfold DecA at h h'
 split at h
 ·rename_i h1
  rw [if_pos h1] at h'
  exact h.trans h'.symm
 ·rename_i h1
  rw [if_neg h1] at h'
  cases hn : numR s 0 2 with
  | error e => obtain ⟨k, q⟩ := e; rw [hn] at h h'; exact h.trans h'.symm
  | ok a =>
   obtain ⟨id, q⟩ := a
   rw [hn] at h h'
   simp only at h h'
   split at h
   ·rename_i h2
    rw [if_pos h2] at h'
    exact h.trans h'.symm
   ·rename_i h2
    rw [if_neg h2] at h'
    obtain ⟨x, h3, rfl⟩ := h
    obtain ⟨y, h4, rfl⟩ := h'
    rw [h3.det h4]
theorem MadeR.det {f : Int} {D : ByteArray → Except E3 Pk → Prop} (hD : ∀ b r r', D b r → D b r' → r = r') {w : ByteArray ⊕ (Nat × Nat)} {r r' : Except E3 (Int × ByteArray)} (h : MadeR f D w r) (h' : MadeR f D w r') : r = r' := by
 unfold MadeR at h h'
 cases w with
 | inr e => obtain ⟨k, q⟩ := e; exact h.trans h'.symm
 | inl b =>
  obtain ⟨x, h1, h2⟩ := h
  obtain ⟨y, h3, h4⟩ := h'
  obtain rfl := hD _ _ _ h1 h3
  cases x with
  | error e => exact h2.trans h4.symm
  | ok l => exact h2.trans h4.symm
theorem EncA.det {p : Pk} {r r' : Except E3 (Int × ByteArray)} (h : EncA p r) (h' : EncA p r') : r = r' := by
 unfold EncA at h h'
 split at h
 ·rename_i h1
  rw [if_pos h1] at h'
  exact h.trans h'.symm
 ·rename_i h1
  rw [if_neg h1] at h'
  cases hb : propsB p.kind p.props with
  | error e => rw [hb] at h h'; exact h.trans h'.symm
  | ok s =>
   rw [hb] at h h'
   simp only at h h'
   exact MadeR.det (D := DecA (firstA p.kind)) (fun _ _ _ h1 h2 => h1.det h2) h h'
theorem valueR_k {id : Int} {s : ByteArray} {p k q : Nat} (h : valueR id s p = .error (k, q)) : k ≠ 0 := by
 unfold valueR at h
 split at h
 ·cases h1 : textR s p with
  | error e =>
   obtain ⟨k', q'⟩ := e
   rw [h1] at h
   simp only [Except.error.injEq, Prod.mk.injEq] at h
   have := textR_k h1; omega
  | ok a =>
   obtain ⟨a, q1⟩ := a
   rw [h1] at h
   simp only at h
   cases h2 : textR s q1 with
   | error e =>
    obtain ⟨k', q'⟩ := e
    rw [h2] at h
    simp only [Except.error.injEq, Prod.mk.injEq] at h
    have := textR_k h2; omega
   | ok b => rw [h2] at h; cases h
 ·cases h1 : rdA (typI id) s p with
  | error e =>
   obtain ⟨k', q'⟩ := e
   rw [h1] at h
   simp only [Except.error.injEq, Prod.mk.injEq] at h
   have := rdA_k h1; omega
  | ok a => rw [h1] at h; cases h
theorem oneR_k {pl : Int} {s : ByteArray} {p k r a : Nat} {ahead : List Pr} (h : oneR pl s p ahead = .error (k, r, a)) : k ≠ 0 := by
 unfold oneR at h
 cases hv : varR s p with
 | error e =>
  obtain ⟨k', q'⟩ := e
  rw [hv] at h
  simp only [Except.error.injEq, Prod.mk.injEq] at h
  have := varR_k hv; omega
 | ok b =>
  obtain ⟨id, q1⟩ := b
  rw [hv] at h
  simp only at h
  cases hg : groundP pl ahead (id : Int) with
  | some e =>
   obtain ⟨k', r'⟩ := e
   rw [hg] at h
   simp only [Except.error.injEq, Prod.mk.injEq] at h
   have := groundP_k hg; omega
  | none =>
   rw [hg] at h
   simp only at h
   cases hw : valueR id s q1 with
   | error e =>
    obtain ⟨k', q'⟩ := e
    rw [hw] at h
    simp only [Except.error.injEq, Prod.mk.injEq] at h
    have := valueR_k hw; omega
   | ok b =>
    obtain ⟨y, q2⟩ := b
    rw [hw] at h
    simp only at h
    split at h
    ·cases h
    ·simp only [Except.error.injEq, Prod.mk.injEq] at h; omega
theorem AllP.k {pl : Int} {s : ByteArray} {p : Nat} {l : List Pr} {r : Except (Nat × Nat × Nat) (List Pr)} (h : AllP pl s p l r) : ∀ k rr a, r = .error (k, rr, a) → k ≠ 0 := by
 induction h with
 | nil h => intro k rr a hm; cases hm
 | bad h ho => intro k rr a hm; injection hm with hm; subst hm; exact oneR_k ho
 | step h ho hr ih => exact ih
theorem ReadP_k {pl : Int} {s : ByteArray} {p k rr a : Nat} (h : ReadP pl s p (.error (k, rr, a))) : k ≠ 0 := by
 unfold ReadP at h
 cases hv : varR s p with
 | error e =>
  obtain ⟨k', q⟩ := e
  rw [hv] at h
  simp only [Except.error.injEq, Prod.mk.injEq] at h
  have := varR_k hv; omega
 | ok b =>
  obtain ⟨n, q⟩ := b
  rw [hv] at h
  simp only at h
  cases hw : rawR s q n with
  | error e =>
   obtain ⟨k', q'⟩ := e
   rw [hw] at h
   simp only [Except.error.injEq, Prod.mk.injEq] at h
   have := rawR_k hw; omega
  | ok b =>
   obtain ⟨all, q'⟩ := b
   rw [hw] at h
   simp only at h
   obtain ⟨x, h1, h2⟩ := h
   cases x with
   | error e =>
    obtain ⟨k', r', a'⟩ := e
    simp only [Except.error.injEq, Prod.mk.injEq] at h2
    have := h1.k _ _ _ rfl; omega
   | ok l => cases h2
theorem numR_two {s : ByteArray} {e : Nat × Nat} (h : numR s 0 2 = .error e) : s.size < 2 := by
 unfold numR at h
 cases hb : rawR s 0 (2 : Nat) with
 | ok a => rw [hb] at h; cases h
 | error e' =>
  unfold rawR at hb
  split at hb
  ·omega
  ·split at hb
   ·simp only [Int.toNat_natCast] at *; omega
   ·cases hb
set_option maxHeartbeats 8000000
section
variable {σ : AHeap} {Q : Value → AHeap → Prop} {r q : Nat} {s : ByteArray}
theorem quo16 {σ : AHeap} {f : Int} {t : Nat} {cs : Bool} (h1 : 0 < f) (h2 : f ≤ 1000000000000) : abin E σ .quo t cs (.int .i64 f) (.int .i64 16) = some (.int .i64 (f / 16)) := by
 have h0 : ¬ (16 : Int) = 0 := by decide
 show (if (16 : Int) = 0 then none else some (Value.int .i64 (IntKind.i64.wrap (f.tdiv 16)))) = _
 rw [if_neg h0, Int.tdiv_eq_ediv_of_nonneg (by omega), wrap64 ⟨by omega, by omega⟩]
theorem quo16n {σ : AHeap} {f : Int} {t : Nat} {cs : Bool} : abin E σ .quo t cs (.int .i64 f) (.int .i64 16) = some (.int .i64 (IntKind.i64.wrap (f.tdiv 16))) := by
 have h0 : ¬ (16 : Int) = 0 := by decide
 show (if (16 : Int) = 0 then none else some (Value.int .i64 (IntKind.i64.wrap (f.tdiv 16)))) = _
 rw [if_neg h0]
theorem specDADec {f : Int} (hf2 : f ≤ 1000000000000) (hs : s.size ≤ 100000000)
  (hok : ∀ p, DecA f s (.ok p) → ∀ v σ', PkV p v → Kept σ [] σ' [] → Q (.tuple #[v, flt 0 0 0]) σ')
  (hbad : ∀ k rr a : Nat, DecA f s (.error (k, rr, a)) → k ≠ 0 → ∀ σ', Kept σ [] σ' [] → Q (.tuple #[.agg ⟨zeL⟩, flt k rr a]) σ') :
  CallS E B 92 [.agg ⟨[.int .i64 f, .string s]⟩] σ Q := by
 unfold DecA at hok hbad
 refine call92 (by simp) ?_
 simp only [strip, bodyOf, Tryz.f92, getD_body, keepN, bareOp_mk, lessOp_mk, lapp_cons, lapp_nil, List.map_cons, List.map_nil, ↓reduceIte, Nat.reduceEqDiff, Bool.false_eq_true]
 by_cases h1 : f ≤ 0
 ·have hq : ∀ (τ : AHeap) (t : Nat) (cs : Bool), abin E τ .quo t cs (.int .i64 f) (.int .i64 16) = some (.int .i64 (IntKind.i64.wrap (f.tdiv 16))) := fun τ t cs => quo16n
  simp (disch := first | assumption | simp) only [↓sbD, sbU, tyB, ↓reduceIte, Nat.reduceEqDiff, Nat.reduceLT, reduceCtorEq, isConst, boxS, Edp, dpv, AS_new, zePk, zeFlt, hq, h1]
  intro b hb c hc
  have hcb : c ≠ b := by rintro rfl; rw [AHeap.get_set_same] at hc; cases hc
  have hcd : σ.get c = .dead := by rw [AHeap.get_set_ne _ _ hcb.symm] at hc; exact hc
  have cb : ∀ (τ : AHeap) o, (AHeap.set τ c o).get b = τ.get b := fun τ o => AHeap.get_set_ne _ _ hcb
  have bc : ∀ (τ : AHeap) o, (AHeap.set τ b o).get c = τ.get c := fun τ o => AHeap.get_set_ne _ _ hcb.symm
  clear hc
  refine drawS_l (fl := [(5, 7)]) (by kernel_rfl) ?_ ?_
  rotate_left; simp only [lastP_cc, lastP_one]; rotate_left
  ·simp only [List.all_cons, List.all_nil, floatS, List.getElem?_cons_succ, List.getElem?_cons_zero, List.getElem?_toArray, Region.wanted, reads, looksWeak, aev_tmp, upd_at, ↓reduceIte, Nat.reduceEqDiff, Nat.reduceLT, Nat.reduceAdd, blkOf, oeq_refl, Bool.and_true, Bool.and_self, Bool.false_eq_true, yield_list, yield_here, yield_next, truth_bool]
   try rfl
  simp (disch := first | assumption | simp) only [↓sbD, sbU, tyB, ↓reduceIte, Nat.reduceLT, pairs, ZV.val]
  refine specKBad (n := 0) ?_
  simp (disch := first | assumption | simp) only [↓sbD, sbU, tyB, ↓reduceIte, Nat.reduceEqDiff, Nat.reduceLT, Nat.reduceAdd, Nat.reduceLeDiff, splice, bc, cb, res_cellc, resC_some]
  exact downS_here (hbad 2 129 0 (by rw [if_pos (.inl h1)]) (by omega) _ (((((Kept.refl σ []).setD hb).setD hcd).setD hb).setD hcd))
 have hq : ∀ (τ : AHeap) (t : Nat) (cs : Bool), abin E τ .quo t cs (.int .i64 f) (.int .i64 16) = some (.int .i64 (f / 16)) := fun τ t cs => quo16 (by omega) hf2
 simp (disch := first | assumption | simp) only [↓sbD, sbU, tyB, decide_false, ↓reduceIte, Nat.reduceEqDiff, Nat.reduceLT, reduceCtorEq, isConst, boxS, Edp, dpv, AS_new, zePk, zeFlt, hq, h1]
 intro b hb c hc
 have hcb : c ≠ b := by rintro rfl; rw [AHeap.get_set_same] at hc; cases hc
 have hcd : σ.get c = .dead := by rw [AHeap.get_set_ne _ _ hcb.symm] at hc; exact hc
 have cb : ∀ (τ : AHeap) o, (AHeap.set τ c o).get b = τ.get b := fun τ o => AHeap.get_set_ne _ _ hcb
 have bc : ∀ (τ : AHeap) o, (AHeap.set τ b o).get c = τ.get c := fun τ o => AHeap.get_set_ne _ _ hcb.symm
 clear hc
 refine specRFirstA ?_
 by_cases h2 : f = firstA (f / 16)
 rotate_left
 ·simp (disch := first | assumption | simp) only [↓sbD, sbU, Bool.or_self, ↓reduceIte, Nat.reduceEqDiff, Nat.reduceLT, isConst, h2]
  refine drawS_l (fl := [(5, 7)]) (by kernel_rfl) ?_ ?_
  rotate_left; simp only [lastP_cc, lastP_one]; rotate_left
  ·simp only [List.all_cons, List.all_nil, floatS, List.getElem?_cons_succ, List.getElem?_cons_zero, List.getElem?_toArray, Region.wanted, Bool.or_true, reads, looksWeak, aev_tmp, upd_at, ↓reduceIte, Nat.reduceEqDiff, Nat.reduceLT, Nat.reduceAdd, blkOf, oeq_refl, Bool.and_true, Bool.and_self, Bool.false_eq_true, yield_list, yield_here, yield_next, truth_bool]
   try rfl
  simp (disch := first | assumption | simp) only [↓sbD, sbU, tyB, ↓reduceIte, Nat.reduceLT, pairs, ZV.val]
  refine specKBad (n := 0) ?_
  simp (disch := first | assumption | simp) only [↓sbD, sbU, tyB, ↓reduceIte, Nat.reduceEqDiff, Nat.reduceLT, Nat.reduceAdd, Nat.reduceLeDiff, splice, bc, cb, res_cellc, resC_some]
  exact downS_here (hbad 2 129 0 (by rw [if_pos (.inr h2)]) (by omega) _ (((((Kept.refl σ []).setD hb).setD hcd).setD hb).setD hcd))
 have hne : ¬ (f ≤ 0 ∨ f ≠ firstA (f / 16)) := fun h => h.elim h1 fun h => h h2
 simp only [if_neg hne] at hok hbad
 simp (disch := first | assumption | simp) only [↓sbD, sbU, decide_false, Bool.or_self, ↓reduceIte, Nat.reduceEqDiff, Nat.reduceLT, isConst, ← h2]
 refine drawS_l (fl := [(5, 7)]) (by kernel_rfl) ?_ ?_
 rotate_left; simp only [lastP_cc, lastP_one]; rotate_left
 ·simp only [List.all_cons, List.all_nil, floatS, List.getElem?_cons_succ, List.getElem?_cons_zero, List.getElem?_toArray, Region.wanted, Bool.or_true, reads, looksWeak, aev_tmp, upd_at, ↓reduceIte, Nat.reduceEqDiff, Nat.reduceLT, Nat.reduceAdd, blkOf, oeq_refl, Bool.and_true, Bool.and_self, Bool.false_eq_true, yield_list, yield_here, yield_next, truth_bool]
  try rfl
 generalize hσ1 : AHeap.set (AHeap.set σ b _) c _ = σ1
 have k1 : Kept σ [] σ1 [] := by rw [← hσ1]; exact ((Kept.refl σ []).setD hb).setD hcd
 have gb1 : σ1.get b = .cells zeL true 0 := by rw [← hσ1, cb]; exact AHeap.get_set_same _ _ _
 have gc1 : σ1.get c = .cells [.int .i64 0, .int .i64 0, .int .i64 0] true 0 := by rw [← hσ1]; exact AHeap.get_set_same _ _ _
 clear hσ1
 have FIN : ∀ {τ : AHeap} {o o' : AObj}, Kept σ1 [] τ [] → Kept σ [] ((τ.set b o).set c o') [] := fun kt => ((k1.trans kt).setD hb).setD hcd
 simp (disch := first | assumption | simp) only [↓sbD, sbU, tyB, Bool.false_eq_true, ↓reduceIte, Nat.reduceEqDiff, Nat.reduceLT, Nat.reduceAdd, Nat.reduceLeDiff, reduceCtorEq, pairs, splice, boxS, Edp, ZV.val, AS_new, dpRd]
 intro x hx
 have hbx : b ≠ x := (nd hx gb1 (by simp)).symm
 have hcx : c ≠ x := (nd hx gc1 (by simp)).symm
 generalize hσ2 : AHeap.set σ1 x _ = σ2
 have k2 : Kept σ1 [] σ2 [x] := by rw [← hσ2]; exact Kept.new' hx
 have i2 : IsY σ2 x s 0 0 0 := by rw [← hσ2]; exact AHeap.get_set_same _ _ _
 clear hσ2
 refine specYU16 i2 (Nat.zero_le _) (by omega) (fun id q hid σ3 k3 i3 => ?_) fun k q hid σ3 k3 i3 => ?_
 rotate_left
 ·simp only [hid] at hok hbad
  have hk0 := numR_k hid
  have hz := numR_two hid
  have hl2 : ¬ (2 : Int) < (s.size : Int) := by omega
  have hl3 : ¬ (3 : Int) < (s.size : Int) := by omega
  have hk0' : ¬ (k : Int) = 0 := by omega
  have K3 := k2.trans k3
  have gb3 := (K3.at gb1 (by simp) (by simp)).1
  have gc3 := (K3.at gc1 (by simp) (by simp)).1
  simp only [zeL, pkC, pkz] at gb3
  have i3' := i3
  unfold IsY at i3'
  simp (disch := first | assumption | simp) only [↓sbD, sbU, tyB, ↓reduceIte, Nat.reduceEqDiff, Nat.reduceLT, Nat.reduceAdd, Nat.reduceLeDiff, reduceCtorEq, pairs, splice, ZV.val, AS_new, zePk]
  intro y hy
  have hby : b ≠ y := (nd hy gb3 (by simp)).symm
  have hcy : c ≠ y := (nd hy gc3 (by simp)).symm
  have hxy : x ≠ y := (nd hy i3' (by simp)).symm
  generalize hσ4 : AHeap.set _ y _ = σ4
  have k4 : Kept σ3 [x] σ4 [x] := by rw [← hσ4]; exact ((Kept.refl _ _).setD hy).setD hy
  have i4 : IsY σ4 x s 0 (k : Int) (q : Int) := i3.kept (by rw [← hσ4]; exact ((Kept.refl _ []).setD hy).setD hy) (by simp)
  clear hσ4
  have K4 := K3.trans k4
  have gb4 := (K4.at gb1 (by simp) (by simp)).1
  have gc4 := (K4.at gc1 (by simp) (by simp)).1
  simp only [zeL, pkC, pkz] at gb4
  have i4' := i4
  unfold IsY at i4'
  simp (disch := first | assumption | simp) only [↓sbD, sbU, tyB, decide_false, ↓reduceIte, Nat.reduceEqDiff, Nat.reduceLT, reduceCtorEq, goInt, isConst, i4', hk0', hl2, hl3]
  refine specKOfE hk0 i4 (Nat.zero_le _) ?_
  simp (disch := first | assumption | simp) only [↓sbD, sbU, tyB, ↓reduceIte, Nat.reduceEqDiff, Nat.reduceLT, Nat.reduceAdd, Nat.reduceLeDiff, reduceCtorEq, isConst, splice, AS_new, zeFlt]
  intro e he
  have heb : b ≠ e := (nd he gb4 (by simp)).symm
  have hec : c ≠ e := (nd he gc4 (by simp)).symm
  have eb : ∀ (τ : AHeap) o, (AHeap.set τ e o).get b = τ.get b := fun τ o => AHeap.get_set_ne _ _ heb.symm
  have ec : ∀ (τ : AHeap) o, (AHeap.set τ e o).get c = τ.get c := fun τ o => AHeap.get_set_ne _ _ hec.symm
  have be : ∀ (τ : AHeap) o, (AHeap.set τ b o).get e = τ.get e := fun τ o => AHeap.get_set_ne _ _ heb
  simp (disch := first | assumption | simp) only [↓sbD, sbU, tyB, ↓reduceIte, Nat.reduceEqDiff, Nat.reduceLT, Nat.reduceAdd, Nat.reduceLeDiff, pairs, splice, ZV.val, eb, ec, bc, gb4, gc4, hk0']
  refine drawS_l (fl := [(1, 2)]) (by kernel_rfl) ?_ ?_
  rotate_left; simp only [lastP_cc, lastP_one]; rotate_left
  ·simp only [List.all_cons, List.all_nil, floatS, List.getElem?_cons_succ, List.getElem?_cons_zero, List.getElem?_toArray, Region.wanted, Bool.not_true, Bool.not_false, Bool.or_true, reads, looksWeak, aev_tmp, upd_at, ↓reduceIte, Nat.reduceEqDiff, Nat.reduceLT, Nat.reduceAdd, blkOf, oeq_refl, dead_cells, Bool.and_self, Bool.false_eq_true, Bool.not_false, AHeap.get_set_same, be]
   try rfl
  simp (disch := first | assumption | simp) only [↓sbD, sbU, tyB, ↓reduceIte, Nat.reduceEqDiff, Nat.reduceLT, Nat.reduceAdd, Nat.reduceLeDiff, cb, res_cellc, resC_some]
  exact downS_here (hbad k 129 q rfl hk0 _ (FIN ((K4.trans (((Kept.refl _ [x]).setD he).setD he)).wid (fun _ h => by cases h) (fun _ h => by cases h))))
 have hq2 := numR_ok hid
 simp only [hid] at hok hbad
 have K3 := k2.trans k3
 have gb3 := (K3.at gb1 (by simp) (by simp)).1
 have gc3 := (K3.at gc1 (by simp) (by simp)).1
 simp only [zeL, pkC, pkz] at gb3
 simp (disch := first | assumption | simp) only [↓sbD, sbU, tyB, ↓reduceIte, Nat.reduceEqDiff, Nat.reduceLT, Nat.reduceAdd, Nat.reduceLeDiff, reduceCtorEq, pairs, splice, ZV.val, AS_new, zePk]
 intro y hy
 have hby : b ≠ y := (nd hy gb3 (by simp)).symm
 have hcy : c ≠ y := (nd hy gc3 (by simp)).symm
 have hxy : x ≠ y := (nd hy i3 (by simp)).symm
 generalize hσ4 : AHeap.set (AHeap.set σ3 y _) y _ = σ4
 have M4 : Kept σ3 [x] σ4 [x] := by rw [← hσ4]; exact ((Kept.refl _ _).setD hy).setD hy
 have i4 : IsY σ4 x s q 0 0 := i3.kept (by rw [← hσ4]; exact ((Kept.refl _ []).setD hy).setD hy) (by simp)
 have gy4 : σ4.get y = .cells [.int .i64 (f / 16), .int .i64 (id : Int), .int .i64 0, .slice none 0 0, .bool false, .int .i64 0, .string emp, .bool false, .string emp, .string emp, .int .i64 0, .bool false, .slice none 0 0, .bool false, .string emp, .bool false, .string emp, .bool false, .string emp, .string emp, .int .i64 0, .bool false, .bool false, .slice none 0 0, .slice none 0 0, .slice none 0 0] true 0 := by rw [← hσ4]; exact AHeap.get_set_same _ _ _
 clear hσ4
 have K4 := K3.trans M4
 have gb4 := (K4.at gb1 (by simp) (by simp)).1
 have gc4 := (K4.at gc1 (by simp) (by simp)).1
 simp only [zeL, pkC, pkz] at gb4
 have i4' := i4
 unfold IsY at i4'
 by_cases h0 : id = 0
 ·have h0' : (id : Int) = 0 := by omega
  simp only [h0, if_true] at hok hbad
  simp (disch := first | assumption | simp) only [↓sbD, sbU, tyB, ↓reduceIte, Nat.reduceEqDiff, Nat.reduceLT, reduceCtorEq, pairs, isConst, ZV.val, i4', gy4, h0']
  refine specKAgainst (n := 0) ?_
  simp (disch := first | assumption | simp) only [↓sbD, sbU, tyB, ↓reduceIte, Nat.reduceEqDiff, Nat.reduceLT, Nat.reduceAdd, Nat.reduceLeDiff, splice, gb4, gc4, bc, cb, res_cellc, resC_some]
  exact downS_here (hbad 3 130 0 rfl (by omega) _ (FIN (K4.wid (fun _ h => by cases h) (fun _ h => by cases h))))
 have h0' : ¬ (id : Int) = 0 := by omega
 simp only [h0, if_false] at hok hbad
 by_cases hl : q < s.size
 ·have hl2 : (2 : Int) < (s.size : Int) := by omega
  obtain ⟨n, hn⟩ := numR_one hl
  simp (disch := first | assumption | simp) only [↓sbD, sbU, tyB, decide_false, ↓reduceIte, Nat.reduceEqDiff, Nat.reduceLT, reduceCtorEq, goInt, isConst, i4', gy4, h0', hl2]
  refine specYU8 i4 (by omega) (by omega) (fun n' q' hn' σ5 k5 i5 => ?_) fun k q' hn' σ5 k5 i5 => by rw [hn] at hn'; cases hn'
  rw [hn] at hn'
  simp only [Except.ok.injEq, Prod.mk.injEq] at hn'
  obtain ⟨rfl, rfl⟩ := hn'
  have gy5 := (k5.at gy4 (by simp) (by simp; exact hxy.symm)).1
  have M5 := M4.trans k5
  simp (disch := first | assumption | simp) only [↓sbD, sbU, tyB, ↓reduceIte, Nat.reduceEqDiff, Nat.reduceLT, Nat.reduceAdd, Nat.reduceLeDiff, reduceCtorEq, splice, gy5]
  generalize hσ6 : AHeap.set σ5 y _ = σ6
  have M6 : Kept σ3 [x] σ6 [x] := by rw [← hσ6]; exact M5.setD hy
  have gy6 : σ6.get y = .cells [.int .i64 (f / 16), .int .i64 (id : Int), .int .i64 (n : Int), .slice none 0 0, .bool false, .int .i64 0, .string emp, .bool false, .string emp, .string emp, .int .i64 0, .bool false, .slice none 0 0, .bool false, .string emp, .bool false, .string emp, .bool false, .string emp, .string emp, .int .i64 0, .bool false, .bool false, .slice none 0 0, .slice none 0 0, .slice none 0 0] true 0 := by rw [← hσ6]; exact AHeap.get_set_same _ _ _
  have i6 : IsY σ6 x s (q + 1) 0 0 := by rw [← hσ6]; unfold IsY; rw [AHeap.get_set_ne _ _ hxy.symm]; exact i5
  have K6 := K3.trans M6
  have gb6 := (K6.at gb1 (by simp) (by simp)).1
  have gc6 := (K6.at gc1 (by simp) (by simp)).1
  simp only [zeL, pkC, pkz] at gb6
  clear hσ6
  have hcode : codeR s q = (n, q + 1) := by unfold codeR; rw [hn]
  simp only [TailA, hcode] at hok hbad
  have i6' := i6
  unfold IsY at i6'
  cases ha : alw (f / 16) (n : Int) with
  | false =>
   simp only [ha, if_true] at hbad
   simp (disch := first | assumption | simp) only [↓sbD, sbU, tyB, ↓reduceIte, Nat.reduceEqDiff, Nat.reduceLT, reduceCtorEq, isConst, i6', gy6]
   refine specAlwC ?_
   simp (disch := first | assumption | simp) only [↓sbD, sbU, tyB, ↓reduceIte, Nat.reduceEqDiff, Nat.reduceLT, pairs, ZV.val, ha, not_bool]
   refine specKBad (n := 2) ?_
   simp (disch := first | assumption | simp) only [↓sbD, sbU, tyB, ↓reduceIte, Nat.reduceEqDiff, Nat.reduceLT, Nat.reduceAdd, Nat.reduceLeDiff, splice, gb6, gc6, bc, cb, res_cellc, resC_some]
   exact downS_here (hbad 2 129 2 ⟨_, rfl, rfl⟩ (by omega) _ (FIN ((K3.trans M6).wid (fun _ h => by cases h) (fun _ h => by cases h))))
  | true =>
   simp only [ha, Bool.true_eq_false, if_false] at hok hbad
   simp (disch := first | assumption | simp) only [↓sbD, sbU, tyB, ↓reduceIte, Nat.reduceEqDiff, Nat.reduceLT, reduceCtorEq, isConst, i6', gy6]
   refine specAlwC ?_
   by_cases hl4 : q + 1 < s.size
   ·have hl3 : (3 : Int) < (s.size : Int) := by omega
    simp only [hl4, if_true] at hok hbad
    simp (disch := first | assumption | simp) only [↓sbD, sbU, tyB, ↓reduceIte, Nat.reduceEqDiff, Nat.reduceLT, reduceCtorEq, goInt, isConst, ha, not_bool, hl3]
    refine specYRead i6 (by omega) hs (fun l q2 hrd v σ7 hv k7 i7 hq7 => ?_) fun k rr a hrd σ7 k7 => ?_
    ·have gy7 := (k7.at gy6 (by simp) (by simp; exact hxy.symm)).1
     have M7 := M6.trans k7
     have K7 := K3.trans M7
     have gb7 := (K7.at gb1 (by simp) (by simp)).1
     have gc7 := (K7.at gc1 (by simp) (by simp)).1
     simp only [zeL, pkC, pkz] at gb7
     have hvc := dl_vc hv
     simp (disch := first | assumption | simp) only [↓sbD, sbU, tyB, decide_false, ↓reduceIte, Nat.reduceEqDiff, Nat.reduceLT, Nat.reduceAdd, Nat.reduceLeDiff, reduceCtorEq, isConst, splice, AS_new, zeFlt]
     intro d hd
     have hdb : b ≠ d := (nd hd gb7 (by simp)).symm
     have hdc : c ≠ d := (nd hd gc7 (by simp)).symm
     have db : ∀ (τ : AHeap) o, (AHeap.set τ d o).get b = τ.get b := fun τ o => AHeap.get_set_ne _ _ hdb.symm
     have dc : ∀ (τ : AHeap) o, (AHeap.set τ d o).get c = τ.get c := fun τ o => AHeap.get_set_ne _ _ hdc.symm
     have bd : ∀ (τ : AHeap) o, (AHeap.set τ b o).get d = τ.get d := fun τ o => AHeap.get_set_ne _ _ hdb
     have hdy : y ≠ d := (nd hd gy7 (by simp)).symm
     have dy : ∀ (τ : AHeap) o, (AHeap.set τ d o).get y = τ.get y := fun τ o => AHeap.get_set_ne _ _ hdy.symm
     have hdx : d ≠ x := nd hd i7 (by simp)
     generalize hσ8 : AHeap.set (AHeap.set σ7 d _) d _ = σ8
     have k8 : Kept σ7 [] σ8 [] := by rw [← hσ8]; exact ((Kept.refl _ []).setD hd).setD hd
     have gd8 : σ8.get d = .cells [.int .i64 0, .int .i64 0, .int .i64 0] true 0 := by rw [← hσ8]; exact AHeap.get_set_same _ _ _
     have gy8 := (k8.at gy7 (by simp) (by simp)).1
     have i8 := i7.kept k8 (by simp)
     have M8 := M7.trans (k8.wid (gp := [x]) (gp' := [x]) (fun _ h => by cases h) (fun _ h => .inr h))
     clear hσ8
     simp (disch := first | assumption | simp) only [↓sbD, sbU, ↓reduceIte, Nat.reduceEqDiff, Nat.reduceLT, Nat.reduceAdd, Nat.reduceLeDiff, splice, gy8, hvc.1, hvc.2]
     generalize hσ9 : AHeap.set σ8 y _ = σ9
     have M9 : Kept σ3 [x] σ9 [x] := by rw [← hσ9]; exact M8.setD hy
     have gy9 : σ9.get y = .cells [.int .i64 (f / 16), .int .i64 (id : Int), .int .i64 (n : Int), v, .bool false, .int .i64 0, .string emp, .bool false, .string emp, .string emp, .int .i64 0, .bool false, .slice none 0 0, .bool false, .string emp, .bool false, .string emp, .bool false, .string emp, .string emp, .int .i64 0, .bool false, .bool false, .slice none 0 0, .slice none 0 0, .slice none 0 0] true 0 := by rw [← hσ9]; exact AHeap.get_set_same _ _ _
     have i9 : IsY σ9 x s q2 0 0 := by rw [← hσ9]; unfold IsY; rw [AHeap.get_set_ne _ _ hxy.symm]; exact i8
     have K9 := K3.trans M9
     have gb9 := (K9.at gb1 (by simp) (by simp)).1
     have gc9 := (K9.at gc1 (by simp) (by simp)).1
     simp only [zeL, pkC, pkz] at gb9
     clear hσ9
     refine specKOf i9 hq7 (fun hend => ?_) fun hmore => ?_
     ·simp (disch := first | assumption | simp) only [↓sbD, sbU, tyB, decide_false, ↓reduceIte, Nat.reduceEqDiff, Nat.reduceLT, Nat.reduceAdd, Nat.reduceLeDiff, reduceCtorEq, isConst, splice, AS_new, zeFlt]
      intro e he
      have heb : b ≠ e := (nd he gb9 (by simp)).symm
      have hec : c ≠ e := (nd he gc9 (by simp)).symm
      have eb : ∀ (τ : AHeap) o, (AHeap.set τ e o).get b = τ.get b := fun τ o => AHeap.get_set_ne _ _ heb.symm
      have ec : ∀ (τ : AHeap) o, (AHeap.set τ e o).get c = τ.get c := fun τ o => AHeap.get_set_ne _ _ hec.symm
      have be : ∀ (τ : AHeap) o, (AHeap.set τ b o).get e = τ.get e := fun τ o => AHeap.get_set_ne _ _ heb
      have hey : y ≠ e := (nd he gy9 (by simp)).symm
      have ey : ∀ (τ : AHeap) o, (AHeap.set τ e o).get y = τ.get y := fun τ o => AHeap.get_set_ne _ _ hey.symm
      simp (disch := first | assumption | simp) only [↓sbD, sbU, tyB, ↓reduceIte, Nat.reduceEqDiff, Nat.reduceLT, Nat.reduceAdd, Nat.reduceLeDiff, pairs, splice, ZV.val, eb, ec, ey, gy9, gb9, gc9, res_cellc, resC_some, bc, cb, hvc.2]
      exact downS_here (hok _ ⟨_, ⟨_, hrd, rfl⟩, by simp only [tailE, if_pos hend]; rfl⟩ _ _ ⟨_, _, _, _, _, hv, .inl ⟨rfl, rfl⟩, .inl ⟨rfl, rfl⟩, .inl ⟨rfl, rfl⟩, .inl ⟨rfl, rfl⟩, rfl⟩ (FIN ((K9.trans (((Kept.refl _ [x]).setD he).setD he)).wid (fun _ h => by cases h) (fun _ h => by cases h))))
     ·simp (disch := first | assumption | simp) only [↓sbD, sbU, tyB, Int.reduceEq, ↓reduceIte, Nat.reduceEqDiff, Nat.reduceLT, Nat.reduceAdd, Nat.reduceLeDiff, reduceCtorEq, pairs, isConst, splice, ZV.val, AS_new, zeFlt]
      intro e he
      have heb : b ≠ e := (nd he gb9 (by simp)).symm
      have hec : c ≠ e := (nd he gc9 (by simp)).symm
      have eb : ∀ (τ : AHeap) o, (AHeap.set τ e o).get b = τ.get b := fun τ o => AHeap.get_set_ne _ _ heb.symm
      have ec : ∀ (τ : AHeap) o, (AHeap.set τ e o).get c = τ.get c := fun τ o => AHeap.get_set_ne _ _ hec.symm
      have be : ∀ (τ : AHeap) o, (AHeap.set τ b o).get e = τ.get e := fun τ o => AHeap.get_set_ne _ _ heb
      have hey : y ≠ e := (nd he gy9 (by simp)).symm
      have ey : ∀ (τ : AHeap) o, (AHeap.set τ e o).get y = τ.get y := fun τ o => AHeap.get_set_ne _ _ hey.symm
      simp (disch := first | assumption | simp) only [↓sbD, sbU, tyB, ↓reduceIte, Nat.reduceEqDiff, Nat.reduceLT, Nat.reduceAdd, Nat.reduceLeDiff, splice, eb, ec, bc, gb9, gc9]
      refine drawS_l (fl := [(1, 2)]) (by kernel_rfl) ?_ ?_
      rotate_left; simp only [lastP_cc, lastP_one]; rotate_left
      ·simp only [List.all_cons, List.all_nil, floatS, List.getElem?_cons_succ, List.getElem?_cons_zero, List.getElem?_toArray, Region.wanted, Bool.not_true, Bool.not_false, Bool.or_true, reads, looksWeak, aev_tmp, upd_at, ↓reduceIte, Nat.reduceEqDiff, Nat.reduceLT, Nat.reduceAdd, blkOf, oeq_refl, dead_cells, Bool.and_self, Bool.false_eq_true, Bool.not_false, AHeap.get_set_same, be]
       try rfl
      simp (disch := first | assumption | simp) only [↓sbD, sbU, tyB, ↓reduceIte, Nat.reduceEqDiff, Nat.reduceLT, Nat.reduceAdd, Nat.reduceLeDiff, cb, res_cellc, resC_some]
      exact downS_here (hbad 2 129 q2 ⟨_, ⟨_, hrd, rfl⟩, by simp only [tailE]; rw [if_neg (by omega)]; rfl⟩ (by omega) _ (FIN ((K9.trans (((Kept.refl _ [x]).setD he).setD he)).wid (fun _ h => by cases h) (fun _ h => by cases h))))
    ·have hk0 := ReadP_k hrd
     have hk0' : ¬ (k : Int) = 0 := by omega
     have gy7 := (k7.at gy6 (by simp) (by simp; exact hxy.symm)).1
     have M7 := M6.trans k7
     have K7 := K3.trans M7
     have gb7 := (K7.at gb1 (by simp) (by simp)).1
     have gc7 := (K7.at gc1 (by simp) (by simp)).1
     simp only [zeL, pkC, pkz] at gb7
     simp (disch := first | assumption | simp) only [↓sbD, sbU, tyB, ↓reduceIte, Nat.reduceEqDiff, Nat.reduceLT, Nat.reduceAdd, Nat.reduceLeDiff, reduceCtorEq, isConst, splice, AS_new, zeFlt]
     intro d hd
     have hdb : b ≠ d := (nd hd gb7 (by simp)).symm
     have hdc : c ≠ d := (nd hd gc7 (by simp)).symm
     have db : ∀ (τ : AHeap) o, (AHeap.set τ d o).get b = τ.get b := fun τ o => AHeap.get_set_ne _ _ hdb.symm
     have dc : ∀ (τ : AHeap) o, (AHeap.set τ d o).get c = τ.get c := fun τ o => AHeap.get_set_ne _ _ hdc.symm
     have bd : ∀ (τ : AHeap) o, (AHeap.set τ b o).get d = τ.get d := fun τ o => AHeap.get_set_ne _ _ hdb
     have hdy : y ≠ d := (nd hd gy7 (by simp)).symm
     have dy : ∀ (τ : AHeap) o, (AHeap.set τ d o).get y = τ.get y := fun τ o => AHeap.get_set_ne _ _ hdy.symm
     simp (disch := first | assumption | simp) only [↓sbD, sbU, tyB, ↓reduceIte, Nat.reduceEqDiff, Nat.reduceLT, Nat.reduceAdd, Nat.reduceLeDiff, pairs, splice, ZV.val, db, dc, bc, gb7, gc7, hk0']
     refine drawS_l (fl := [(1, 2)]) (by kernel_rfl) ?_ ?_
     rotate_left; simp only [lastP_cc, lastP_one]; rotate_left
     ·simp only [List.all_cons, List.all_nil, floatS, List.getElem?_cons_succ, List.getElem?_cons_zero, List.getElem?_toArray, Region.wanted, Bool.not_true, Bool.not_false, Bool.or_true, reads, looksWeak, aev_tmp, upd_at, ↓reduceIte, Nat.reduceEqDiff, Nat.reduceLT, Nat.reduceAdd, blkOf, oeq_refl, dead_cells, Bool.and_self, Bool.false_eq_true, Bool.not_false, AHeap.get_set_same, bd]
      try rfl
     simp (disch := first | assumption | simp) only [↓sbD, sbU, tyB, ↓reduceIte, Nat.reduceEqDiff, Nat.reduceLT, Nat.reduceAdd, Nat.reduceLeDiff, cb, res_cellc, resC_some]
     exact downS_here (hbad k rr a ⟨_, ⟨_, hrd, rfl⟩, rfl⟩ hk0 _ (FIN ((K7.trans (((Kept.refl _ [x]).setD hd).setD hd)).wid (fun _ h => by cases h) (fun _ h => by cases h))))
   ·have hl3 : ¬ (3 : Int) < (s.size : Int) := by omega
    simp only [hl4, if_false] at hok hbad
    simp (disch := first | assumption | simp) only [↓sbD, sbU, tyB, decide_false, ↓reduceIte, Nat.reduceEqDiff, Nat.reduceLT, reduceCtorEq, goInt, isConst, ha, not_bool, hl3]
    refine specKOf i6 (by omega) (fun hend => ?_) fun hmore => by omega
    ·simp (disch := first | assumption | simp) only [↓sbD, sbU, tyB, decide_false, ↓reduceIte, Nat.reduceEqDiff, Nat.reduceLT, Nat.reduceAdd, Nat.reduceLeDiff, reduceCtorEq, isConst, splice, AS_new, zeFlt]
     intro e he
     have heb : b ≠ e := (nd he gb6 (by simp)).symm
     have hec : c ≠ e := (nd he gc6 (by simp)).symm
     have eb : ∀ (τ : AHeap) o, (AHeap.set τ e o).get b = τ.get b := fun τ o => AHeap.get_set_ne _ _ heb.symm
     have ec : ∀ (τ : AHeap) o, (AHeap.set τ e o).get c = τ.get c := fun τ o => AHeap.get_set_ne _ _ hec.symm
     have be : ∀ (τ : AHeap) o, (AHeap.set τ b o).get e = τ.get e := fun τ o => AHeap.get_set_ne _ _ heb
     have hey : y ≠ e := (nd he gy6 (by simp)).symm
     have ey : ∀ (τ : AHeap) o, (AHeap.set τ e o).get y = τ.get y := fun τ o => AHeap.get_set_ne _ _ hey.symm
     simp (disch := first | assumption | simp) only [↓sbD, sbU, tyB, ↓reduceIte, Nat.reduceEqDiff, Nat.reduceLT, Nat.reduceAdd, Nat.reduceLeDiff, pairs, splice, ZV.val, eb, ec, ey, gy6, gb6, gc6, res_cellc, resC_some, bc, cb]
     exact downS_here (hok _ ⟨_, rfl, rfl⟩ _ _ ⟨_, _, _, _, _, .inl ⟨rfl, rfl⟩, .inl ⟨rfl, rfl⟩, .inl ⟨rfl, rfl⟩, .inl ⟨rfl, rfl⟩, .inl ⟨rfl, rfl⟩, rfl⟩ (FIN (((K3.trans M6).trans (((Kept.refl _ [x]).setD he).setD he)).wid (fun _ h => by cases h) (fun _ h => by cases h))))
 ·have hl2 : ¬ (2 : Int) < (s.size : Int) := by omega
  simp (disch := first | assumption | simp) only [↓sbD, sbU, tyB, decide_false, ↓reduceIte, Nat.reduceEqDiff, Nat.reduceLT, reduceCtorEq, goInt, isConst, i4', gy4, h0', hl2]
  have hcode : codeR s q = (0, q) := codeR_at (by omega)
  simp only [TailA, hcode] at hok hbad
  have i4' := i4
  unfold IsY at i4'
  cases ha : alw (f / 16) ((0 : Nat) : Int) with
  | false =>
   have hA : alw (f / 16) 0 = false := ha
   rw [ha] at hbad; simp only [if_true] at hbad
   skip
   refine specAlwC ?_
   simp (disch := first | assumption | simp) only [↓sbD, sbU, tyB, ↓reduceIte, Nat.reduceEqDiff, Nat.reduceLT, pairs, ZV.val, hA, not_bool]
   refine specKBad (n := 2) ?_
   simp (disch := first | assumption | simp) only [↓sbD, sbU, tyB, ↓reduceIte, Nat.reduceEqDiff, Nat.reduceLT, Nat.reduceAdd, Nat.reduceLeDiff, splice, gb4, gc4, bc, cb, res_cellc, resC_some]
   exact downS_here (hbad 2 129 2 ⟨_, rfl, rfl⟩ (by omega) _ (FIN ((K3.trans M4).wid (fun _ h => by cases h) (fun _ h => by cases h))))
  | true =>
   have hA : alw (f / 16) 0 = true := ha
   rw [ha] at hok hbad; simp only [Bool.true_eq_false, if_false] at hok hbad
   skip
   refine specAlwC ?_
   have hl3 : ¬ (3 : Int) < (s.size : Int) := by omega
   have hl4 : ¬ q < s.size := by omega
   simp only [hl4, if_false] at hok hbad
   simp (disch := first | assumption | simp) only [↓sbD, sbU, tyB, decide_false, ↓reduceIte, Nat.reduceEqDiff, Nat.reduceLT, reduceCtorEq, goInt, isConst, hA, not_bool, hl3]
   refine specKOf i4 (by omega) (fun hend => ?_) fun hmore => by omega
   ·simp (disch := first | assumption | simp) only [↓sbD, sbU, tyB, decide_false, ↓reduceIte, Nat.reduceEqDiff, Nat.reduceLT, Nat.reduceAdd, Nat.reduceLeDiff, reduceCtorEq, isConst, splice, AS_new, zeFlt]
    intro e he
    have heb : b ≠ e := (nd he gb4 (by simp)).symm
    have hec : c ≠ e := (nd he gc4 (by simp)).symm
    have eb : ∀ (τ : AHeap) o, (AHeap.set τ e o).get b = τ.get b := fun τ o => AHeap.get_set_ne _ _ heb.symm
    have ec : ∀ (τ : AHeap) o, (AHeap.set τ e o).get c = τ.get c := fun τ o => AHeap.get_set_ne _ _ hec.symm
    have be : ∀ (τ : AHeap) o, (AHeap.set τ b o).get e = τ.get e := fun τ o => AHeap.get_set_ne _ _ heb
    have hey : y ≠ e := (nd he gy4 (by simp)).symm
    have ey : ∀ (τ : AHeap) o, (AHeap.set τ e o).get y = τ.get y := fun τ o => AHeap.get_set_ne _ _ hey.symm
    simp (disch := first | assumption | simp) only [↓sbD, sbU, tyB, ↓reduceIte, Nat.reduceEqDiff, Nat.reduceLT, Nat.reduceAdd, Nat.reduceLeDiff, pairs, splice, ZV.val, eb, ec, ey, gy4, gb4, gc4, res_cellc, resC_some, bc, cb]
    exact downS_here (hok _ ⟨_, rfl, rfl⟩ _ _ ⟨_, _, _, _, _, .inl ⟨rfl, rfl⟩, .inl ⟨rfl, rfl⟩, .inl ⟨rfl, rfl⟩, .inl ⟨rfl, rfl⟩, .inl ⟨rfl, rfl⟩, rfl⟩ (FIN (((K3.trans M4).trans (((Kept.refl _ [x]).setD he).setD he)).wid (fun _ h => by cases h) (fun _ h => by cases h))))
end
end Go.Proofs.YtonmjhdcijibgaaGreatDoor.AbsA
