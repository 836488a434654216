/-
  A part of a law's proof.
-/
import Derived.Test.YtccimdfmddomaaaDoorAUtqc
namespace Go.Proofs.YtccimdfmddomaaaDoor.AbsA
open Go AbsYtccimdfmddomaaaDoor Abs
set_option maxHeartbeats 4000000
set_option linter.unusedSimpArgs false
set_option linter.unusedVariables false

set_option maxRecDepth 100000
set_option maxHeartbeats 1000000
set_option linter.unusedSimpArgs false
set_option linter.unusedVariables false
def encU (N : Nat) : List Nat :=
  if N < 128 then [N] else if N < 2048 then [192 + N / 64, 128 + N % 64] else if N < 65536 then [224 + N / 4096, 128 + N / 64 % 64, 128 + N % 64] else [240 + N / 262144, 128 + N / 4096 % 64, 128 + N / 64 % 64, 128 + N % 64]
def okN (n : Int) : Prop := 1 ≤ n ∧ n ≤ 1114111 ∧ ¬ (55296 ≤ n ∧ n ≤ 57343)
instance (n : Int) : Decidable (okN n) := inferInstanceAs (Decidable (_ ∧ _))
def bytesF (n : Int) : ByteArray := if okN n then str (encU n.toNat) else emp
theorem bld1 {H : AHeap} {a : Nat} : abuildSlice E H 70 1 [(0, .int .u8 (a : Int))] = some (.slice (some ⟨H.size, 0, some 1⟩) 1 1, H.alloc (.cells (u8s [a]) true 1)) := by
  simp [dpB, abuildSlice, ty70, ty5, azero, lfill, reps, splice, vcells, ZV.val, u8s]
theorem bld2 {H : AHeap} {a b : Nat} : abuildSlice E H 70 2 [(0, .int .u8 (a : Int)), (1, .int .u8 (b : Int))] = some (.slice (some ⟨H.size, 0, some 1⟩) 2 2, H.alloc (.cells (u8s [a, b]) true 1)) := by
  simp [dpB, abuildSlice, ty70, ty5, azero, lfill, reps, splice, vcells, ZV.val, u8s]
theorem bld3 {H : AHeap} {a b c : Nat} : abuildSlice E H 70 3 [(0, .int .u8 (a : Int)), (1, .int .u8 (b : Int)), (2, .int .u8 (c : Int))] = some (.slice (some ⟨H.size, 0, some 1⟩) 3 3, H.alloc (.cells (u8s [a, b, c]) true 1)) := by
  simp [dpB, abuildSlice, ty70, ty5, azero, lfill, reps, splice, vcells, ZV.val, u8s]
theorem bld4 {H : AHeap} {a b c d : Nat} : abuildSlice E H 70 4 [(0, .int .u8 (a : Int)), (1, .int .u8 (b : Int)), (2, .int .u8 (c : Int)), (3, .int .u8 (d : Int))] = some (.slice (some ⟨H.size, 0, some 1⟩) 4 4, H.alloc (.cells (u8s [a, b, c, d]) true 1)) := by
  simp [dpB, abuildSlice, ty70, ty5, azero, lfill, reps, splice, vcells, ZV.val, u8s]
theorem quoN {a b : Nat} (ha : a < 2 ^ 40) (hb : 0 < b) : aint .quo .i64 (a : Int) (b : Int) = some (.int .i64 ((a / b : Nat) : Int)) := by
  rw [quo_pos (by omega) (by omega) (by omega)]; rfl
theorem remN {a b : Nat} (hb : 0 < b) : aint .rem .i64 (a : Int) (b : Int) = some (.int .i64 ((a % b : Nat) : Int)) := by
  rw [rem_pos (by omega) (by omega)]; rfl
theorem addN {a b : Nat} (ha : a < 2 ^ 40) (hb : b < 2 ^ 40) : IntKind.i64.wrap ((a : Int) + (b : Int)) = ((a + b : Nat) : Int) := by
  rw [wrap64 ⟨by omega, by omega⟩]; rfl
end Go.Proofs.YtccimdfmddomaaaDoor.AbsA
