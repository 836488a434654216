/-
  A part of a law's proof.
-/
import Derived.Test.YtfjifgffdoligaaDoorAUtb
namespace Go.Proofs.YtfjifgffdoligaaDoor.AbsA
open Go AbsYtfjifgffdoligaaDoor Abs
set_option maxHeartbeats 4000000
set_option linter.unusedSimpArgs false
set_option linter.unusedVariables false

set_option maxRecDepth 100000
set_option maxHeartbeats 1000000
set_option linter.unusedSimpArgs false
set_option linter.unusedVariables false
def encU (N : Nat) : List Nat :=
  if N < 128 then [N] else if N < 2048 then [192 + N / 64, 128 + N % 64] else if N < 65536 then [224 + N / 4096, 128 + N / 64 % 64, 128 + N % 64] else [240 + N / 262144, 128 + N / 4096 % 64, 128 + N / 64 % 64, 128 + N % 64]
def okN (n : Int) : Prop := 1 ≤ n ∧ n ≤ 1114111 ∧ ¬ (55296 ≤ n ∧ n ≤ 57343)
instance (n : Int) : Decidable (okN n) := inferInstanceAs (Decidable (_ ∧ _))
def bytesF (n : Int) : ByteArray := if okN n then str (encU n.toNat) else emp
theorem bld1 {H : AHeap} {a : Nat} : abuildSlice E H 69 1 [(0, .int .u8 (a : Int))] = some (.slice (some ⟨H.size, 0, some 1⟩) 1 1, H.alloc (.cells (u8s [a]) true 1)) := by
  simp [dpB, abuildSlice, ty69, ty5, azero, lfill, reps, splice, vcells, ZV.val, u8s]
theorem bld2 {H : AHeap} {a b : Nat} : abuildSlice E H 69 2 [(0, .int .u8 (a : Int)), (1, .int .u8 (b : Int))] = some (.slice (some ⟨H.size, 0, some 1⟩) 2 2, H.alloc (.cells (u8s [a, b]) true 1)) := by
  simp [dpB, abuildSlice, ty69, ty5, azero, lfill, reps, splice, vcells, ZV.val, u8s]
theorem bld3 {H : AHeap} {a b c : Nat} : abuildSlice E H 69 3 [(0, .int .u8 (a : Int)), (1, .int .u8 (b : Int)), (2, .int .u8 (c : Int))] = some (.slice (some ⟨H.size, 0, some 1⟩) 3 3, H.alloc (.cells (u8s [a, b, c]) true 1)) := by
  simp [dpB, abuildSlice, ty69, ty5, azero, lfill, reps, splice, vcells, ZV.val, u8s]
theorem bld4 {H : AHeap} {a b c d : Nat} : abuildSlice E H 69 4 [(0, .int .u8 (a : Int)), (1, .int .u8 (b : Int)), (2, .int .u8 (c : Int)), (3, .int .u8 (d : Int))] = some (.slice (some ⟨H.size, 0, some 1⟩) 4 4, H.alloc (.cells (u8s [a, b, c, d]) true 1)) := by
  simp [dpB, abuildSlice, ty69, ty5, azero, lfill, reps, splice, vcells, ZV.val, u8s]
theorem quoN {a b : Nat} (ha : a < 2 ^ 40) (hb : 0 < b) : aint .quo .i64 (a : Int) (b : Int) = some (.int .i64 ((a / b : Nat) : Int)) := by
  rw [quo_pos (by omega) (by omega) (by omega)]; rfl
theorem remN {a b : Nat} (hb : 0 < b) : aint .rem .i64 (a : Int) (b : Int) = some (.int .i64 ((a % b : Nat) : Int)) := by
  rw [rem_pos (by omega) (by omega)]; rfl
theorem addN {a b : Nat} (ha : a < 2 ^ 40) (hb : b < 2 ^ 40) : IntKind.i64.wrap ((a : Int) + (b : Int)) = ((a + b : Nat) : Int) := by
  rw [wrap64 ⟨by omega, by omega⟩]; rfl
theorem spec164 {n : Int} {H : AHeap} : CallW E 164 [.int .i64 n] H fun r H' => r = .string (bytesF n) ∧ Ext H H' := by
  refine wcall164 (by simp) ?_
  simp only [strip, bodyOf, Tryd.f164, getD_body, keepN, bareOp_mk, lessOp_mk, lapp_cons, lapp_nil, List.map_cons, List.map_nil, array_toList, ↓reduceIte, Nat.reduceEqDiff, Bool.false_eq_true]
  have no : ∀ {r : Value} , ¬ okN n → r = .string emp → (r = .string (bytesF n)) := fun h1 h2 => by rw [h2, bytesF, if_neg h1]
  by_cases h1 : n < 1
  · simp (disch := first | assumption | simp) only [↓wbD, wbU, ↓aop, ↓reduceIte, Nat.reduceEqDiff, Nat.reduceLT, reduceCtorEq, goInt, pairs, h1, decide_true]
    exact ⟨no (by unfold okN; omega) rfl, Ext.refl _⟩
  by_cases h2 : 1114111 < n
  · simp (disch := first | assumption | simp) only [↓wbD, wbU, ↓aop, ↓reduceIte, Nat.reduceEqDiff, Nat.reduceLT, reduceCtorEq, goInt, pairs, h1, h2, decide_true, decide_false]
    exact ⟨no (by unfold okN; omega) rfl, Ext.refl _⟩
  have fin : ∀ {l : List Nat} {K : AHeap} {b k : Nat}, okN n → encU n.toNat = l → k = l.length → K.get b = .cells (u8s l) true 1 → Ext H K → ∀ c ex, aconvert E K 69 9 (.slice (some ⟨b, 0, ex⟩) k c) = some (.string (bytesF n), K) := fun h3 h4 h5 h6 h7 c ex => by
    rw [conv_str h6 h5, bytesF, if_pos h3, h4]
  obtain ⟨N, rfl⟩ : ∃ N : Nat, n = N := ⟨n.toNat, by omega⟩
  simp only [Int.toNat_natCast] at fin
  have rest : okN (N : Int) → (∀ (f : Nat → Value), f 0 = .int .i64 (N : Int) → True) := fun _ _ _ => trivial
  have q64 := quoN (a := N) (b := 64) (by omega) (by omega)
  have q4096 := quoN (a := N) (b := 4096) (by omega) (by omega)
  have q262144 := quoN (a := N) (b := 262144) (by omega) (by omega)
  have r64 := remN (a := N) (b := 64) (by omega)
  have r64a := remN (a := N / 64) (b := 64) (by omega)
  have r64b := remN (a := N / 4096) (b := 64) (by omega)
  have a1 := addN (a := 192) (b := N / 64) (by omega) (by omega)
  have a2 := addN (a := 128) (b := N % 64) (by omega) (by omega)
  have a3 := addN (a := 224) (b := N / 4096) (by omega) (by omega)
  have a4 := addN (a := 128) (b := N / 64 % 64) (by omega) (by omega)
  have a5 := addN (a := 240) (b := N / 262144) (by omega) (by omega)
  have a6 := addN (a := 128) (b := N / 4096 % 64) (by omega) (by omega)
  have ext : ∀ o, Ext H (H.alloc o) := fun o => Ext.alloc _ _
  have gs : ∀ o, (H.alloc o).get H.size = o := fun o => AHeap.get_alloc_same _ _
  have body : ∀ (ok : okN (N : Int)) (h3 : decide ((55296 : Int) ≤ (N : Int) ∧ (N : Int) ≤ 57343) = false), True := fun _ _ => trivial
  by_cases h3 : (55296 : Int) ≤ (N : Int)
  · by_cases h4 : (N : Int) ≤ 57343
    · simp (disch := first | assumption | simp) only [↓wbD, wbU, ↓aop, ↓reduceIte, Nat.reduceEqDiff, Nat.reduceLT, reduceCtorEq, goInt, pairs, h1, h2, h3, h4, decide_true, decide_false]
      exact ⟨no (by unfold okN; omega) rfl, Ext.refl _⟩
    · have ok : okN (N : Int) := by unfold okN; omega
      have c1 : ¬ (N : Int) < 128 := by omega
      have c2 : ¬ (N : Int) < 2048 := by omega
      by_cases c3 : (N : Int) < 65536
      · have hl : encU N = [224 + N / 4096, 128 + N / 64 % 64, 128 + N % 64] := by unfold encU; rw [if_neg (by omega), if_neg (by omega), if_pos (by omega)]
        simp (disch := first | assumption | simp) only [↓wbD, wbU, ↓aop, ↓reduceIte, Nat.reduceEqDiff, Nat.reduceLT, reduceCtorEq, goInt, pairs, h1, h2, h3, h4, c1, c2, c3, decide_true, decide_false, show aint .quo .i64 (N : Int) 4096 = _ from q4096, show aint .quo .i64 (N : Int) 64 = _ from q64, show aint .rem .i64 (N : Int) 64 = _ from r64, show aint .rem .i64 ((N / 64 : Nat) : Int) 64 = _ from r64a, show IntKind.i64.wrap (224 + ((N / 4096 : Nat) : Int)) = _ from a3, show IntKind.i64.wrap (128 + ((N / 64 % 64 : Nat) : Int)) = _ from a4, show IntKind.i64.wrap (128 + ((N % 64 : Nat) : Int)) = _ from a2, conv_u8 (show 224 + N / 4096 < 256 by omega), conv_u8 (show 128 + N / 64 % 64 < 256 by omega), conv_u8 (show 128 + N % 64 < 256 by omega), bld3]
        simp (disch := first | assumption | simp) only [↓wbD, wbU, ↓aop, ↓reduceIte, Nat.reduceEqDiff, Nat.reduceLT, reduceCtorEq, goInt, pairs, fin (k := 3) ok hl rfl (gs _) (ext _)]
        exact ext _
      · have hl : encU N = [240 + N / 262144, 128 + N / 4096 % 64, 128 + N / 64 % 64, 128 + N % 64] := by unfold encU; rw [if_neg (by omega), if_neg (by omega), if_neg (by omega)]
        simp (disch := first | assumption | simp) only [↓wbD, wbU, ↓aop, ↓reduceIte, Nat.reduceEqDiff, Nat.reduceLT, reduceCtorEq, goInt, pairs, h1, h2, h3, h4, c1, c2, c3, decide_true, decide_false, show aint .quo .i64 (N : Int) 262144 = _ from q262144, show aint .quo .i64 (N : Int) 4096 = _ from q4096, show aint .quo .i64 (N : Int) 64 = _ from q64, show aint .rem .i64 (N : Int) 64 = _ from r64, show aint .rem .i64 ((N / 64 : Nat) : Int) 64 = _ from r64a, show aint .rem .i64 ((N / 4096 : Nat) : Int) 64 = _ from r64b, show IntKind.i64.wrap (240 + ((N / 262144 : Nat) : Int)) = _ from a5, show IntKind.i64.wrap (128 + ((N / 4096 % 64 : Nat) : Int)) = _ from a6, show IntKind.i64.wrap (128 + ((N / 64 % 64 : Nat) : Int)) = _ from a4, show IntKind.i64.wrap (128 + ((N % 64 : Nat) : Int)) = _ from a2, conv_u8 (show 240 + N / 262144 < 256 by omega), conv_u8 (show 128 + N / 4096 % 64 < 256 by omega), conv_u8 (show 128 + N / 64 % 64 < 256 by omega), conv_u8 (show 128 + N % 64 < 256 by omega), bld4]
        simp (disch := first | assumption | simp) only [↓wbD, wbU, ↓aop, ↓reduceIte, Nat.reduceEqDiff, Nat.reduceLT, reduceCtorEq, goInt, pairs, fin (k := 4) ok hl rfl (gs _) (ext _)]
        exact ext _
  · have ok : okN (N : Int) := by unfold okN; omega
    by_cases c1 : (N : Int) < 128
    · have hl : encU N = [N] := by unfold encU; rw [if_pos (by omega)]
      simp (disch := first | assumption | simp) only [↓wbD, wbU, ↓aop, ↓reduceIte, Nat.reduceEqDiff, Nat.reduceLT, reduceCtorEq, goInt, pairs, h1, h2, h3, c1, decide_true, decide_false, conv_u8 (show N < 256 by omega), bld1]
      simp (disch := first | assumption | simp) only [↓wbD, wbU, ↓aop, ↓reduceIte, Nat.reduceEqDiff, Nat.reduceLT, reduceCtorEq, goInt, pairs, fin (k := 1) ok hl rfl (gs _) (ext _)]
      exact ext _
    by_cases c2 : (N : Int) < 2048
    · have hl : encU N = [192 + N / 64, 128 + N % 64] := by unfold encU; rw [if_neg (by omega), if_pos (by omega)]
      simp (disch := first | assumption | simp) only [↓wbD, wbU, ↓aop, ↓reduceIte, Nat.reduceEqDiff, Nat.reduceLT, reduceCtorEq, goInt, pairs, h1, h2, h3, c1, c2, decide_true, decide_false, show aint .quo .i64 (N : Int) 64 = _ from q64, show aint .rem .i64 (N : Int) 64 = _ from r64, show IntKind.i64.wrap (192 + ((N / 64 : Nat) : Int)) = _ from a1, show IntKind.i64.wrap (128 + ((N % 64 : Nat) : Int)) = _ from a2, conv_u8 (show 192 + N / 64 < 256 by omega), conv_u8 (show 128 + N % 64 < 256 by omega), bld2]
      simp (disch := first | assumption | simp) only [↓wbD, wbU, ↓aop, ↓reduceIte, Nat.reduceEqDiff, Nat.reduceLT, reduceCtorEq, goInt, pairs, fin (k := 2) ok hl rfl (gs _) (ext _)]
      exact ext _
    · have c3 : (N : Int) < 65536 := by omega
      have hl : encU N = [224 + N / 4096, 128 + N / 64 % 64, 128 + N % 64] := by unfold encU; rw [if_neg (by omega), if_neg (by omega), if_pos (by omega)]
      simp (disch := first | assumption | simp) only [↓wbD, wbU, ↓aop, ↓reduceIte, Nat.reduceEqDiff, Nat.reduceLT, reduceCtorEq, goInt, pairs, h1, h2, h3, c1, c2, c3, decide_true, decide_false, show aint .quo .i64 (N : Int) 4096 = _ from q4096, show aint .quo .i64 (N : Int) 64 = _ from q64, show aint .rem .i64 (N : Int) 64 = _ from r64, show aint .rem .i64 ((N / 64 : Nat) : Int) 64 = _ from r64a, show IntKind.i64.wrap (224 + ((N / 4096 : Nat) : Int)) = _ from a3, show IntKind.i64.wrap (128 + ((N / 64 % 64 : Nat) : Int)) = _ from a4, show IntKind.i64.wrap (128 + ((N % 64 : Nat) : Int)) = _ from a2, conv_u8 (show 224 + N / 4096 < 256 by omega), conv_u8 (show 128 + N / 64 % 64 < 256 by omega), conv_u8 (show 128 + N % 64 < 256 by omega), bld3]
      simp (disch := first | assumption | simp) only [↓wbD, wbU, ↓aop, ↓reduceIte, Nat.reduceEqDiff, Nat.reduceLT, reduceCtorEq, goInt, pairs, fin (k := 3) ok hl rfl (gs _) (ext _)]
      exact ext _
end Go.Proofs.YtfjifgffdoligaaDoor.AbsA
