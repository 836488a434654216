/-
  Parts of a law's proof.
-/
import Derived.Test.YtkhcbbpfchgemaaGreatDoorAErqbJ
namespace Go.Proofs.YtkhcbbpfchgemaaGreatDoor.AbsA
open Go AbsYtkhcbbpfchgemaaGreatDoor Abs
set_option maxHeartbeats 4000000
set_option linter.unusedSimpArgs false
set_option linter.unusedVariables false

set_option maxRecDepth 100000
set_option maxHeartbeats 2000000
set_option linter.unusedSimpArgs false
set_option linter.unusedVariables false
theorem typed_int {H : AHeap} {d : Nat} {xs : List Value} (h : Typed E H d 3 xs) : ∃ n,xs = [.int .i64 n] ∧ (Lit.int .i64 n).wf = true := by
 cases d with
 | zero => exact h.elim
 | succ d => simpa only [Typed,ty3] using h
theorem typed_str {H : AHeap} {d : Nat} {xs : List Value} (h : Typed E H d 9 xs) : ∃ s : ByteArray,xs = [.string s] ∧ s.size ≤ maxLen := by
 cases d with
 | zero => exact h.elim
 | succ d => simpa only [Typed,ty9] using h
theorem not_bool {b : Bool} : aun .not (.bool b) = some (.bool (!b)) := rfl

set_option maxRecDepth 100000
set_option maxHeartbeats 2000000
set_option linter.unusedSimpArgs false
set_option linter.unusedVariables false

set_option maxRecDepth 100000
set_option maxHeartbeats 1000000
set_option linter.unusedSimpArgs false
set_option linter.unusedVariables false
def acc (u : ByteArray) (n : Nat) : Nat → Nat
 | 0 => n
 | k + 1 => acc u n k * 64 + bt u (k + 1) % 64
def cont (u : ByteArray) (k : Nat) : Prop := ∀ j,j < k → 128 ≤ bt u (j + 1) ∧ bt u (j + 1) < 192
instance (u : ByteArray) (k : Nat) : Decidable (cont u k) := inferInstanceAs (Decidable (∀ j,j < k → _))
def bad (n : Nat) : Prop := 1114111 < n ∨ (55296 ≤ n ∧ n ≤ 57343)
instance (n : Nat) : Decidable (bad n) := inferInstanceAs (Decidable (_ ∨ _))

set_option maxRecDepth 100000
set_option maxHeartbeats 1000000
set_option linter.unusedSimpArgs false
set_option linter.unusedVariables false

set_option maxRecDepth 100000
set_option maxHeartbeats 1000000
set_option linter.unusedSimpArgs false
set_option linter.unusedVariables false
def encU (N : Nat) : List Nat :=
 if N < 128 then [N] else if N < 2048 then [192 + N / 64,128 + N % 64] else if N < 65536 then [224 + N / 4096,128 + N / 64 % 64,128 + N % 64] else [240 + N / 262144,128 + N / 4096 % 64,128 + N / 64 % 64,128 + N % 64]
def okN (n : Int) : Prop := 1 ≤ n ∧ n ≤ 1114111 ∧ ¬ (55296 ≤ n ∧ n ≤ 57343)
instance (n : Int) : Decidable (okN n) := inferInstanceAs (Decidable (_ ∧ _))
def bytesF (n : Int) : ByteArray := if okN n then str (encU n.toNat) else emp

set_option maxRecDepth 100000
set_option maxHeartbeats 1000000
set_option linter.unusedSimpArgs false
set_option linter.unusedVariables false
def nacc (u : ByteArray) (x : Int) : Nat → Int
 | 0 => x
 | k + 1 => 64 * nacc u x k + (bt u (k + 1) : Int) - 128
def numF (u : ByteArray) (m : Nat) : Int := if m = 1 then (bt u 0 : Int) else nacc u ((bt u 0 : Int) - (if m = 2 then 192 else if m = 3 then 224 else 240)) (m - 1)
def R (u : ByteArray) (m : Nat) : Prop := m ≤ u.size ∧ bytesF (numF u m) ≠ emp ∧ bytesF (numF u m) = u.extract 0 m
instance (u : ByteArray) (m : Nat) : Decidable (R u m) := inferInstanceAs (Decidable (_ ∧ _))
end Go.Proofs.YtkhcbbpfchgemaaGreatDoor.AbsA
