/-
  A part of a law's proof.
-/
import Derived.Test.YtccimdfmddomaaaDoorAUtqd
namespace Go.Proofs.YtccimdfmddomaaaDoor.AbsA
open Go AbsYtccimdfmddomaaaDoor Abs
set_option maxHeartbeats 4000000
set_option linter.unusedSimpArgs false
set_option linter.unusedVariables false

set_option maxRecDepth 100000
set_option maxHeartbeats 1000000
set_option linter.unusedSimpArgs false
set_option linter.unusedVariables false
def nacc (u : ByteArray) (x : Int) : Nat → Int
  | 0 => x
  | k + 1 => 64 * nacc u x k + (bt u (k + 1) : Int) - 128
def numF (u : ByteArray) (m : Nat) : Int := if m = 1 then (bt u 0 : Int) else nacc u ((bt u 0 : Int) - (if m = 2 then 192 else if m = 3 then 224 else 240)) (m - 1)
theorem nacc_bd (u : ByteArray) {x : Int} (hx : -256 ≤ x ∧ x ≤ 256) : ∀ k, k ≤ 3 → -200000000 ≤ nacc u x k ∧ nacc u x k ≤ 200000000 := by
  intro k hk
  have b1 := bt_lt u 1
  have b2 := bt_lt u 2
  have b3 := bt_lt u 3
  rcases (by omega : k = 0 ∨ k = 1 ∨ k = 2 ∨ k = 3) with rfl | rfl | rfl | rfl <;> simp only [nacc, Nat.zero_add, Nat.reduceAdd] <;> omega
def R (u : ByteArray) (m : Nat) : Prop := m ≤ u.size ∧ bytesF (numF u m) ≠ emp ∧ bytesF (numF u m) = u.extract 0 m
instance (u : ByteArray) (m : Nat) : Decidable (R u m) := inferInstanceAs (Decidable (_ ∧ _))
end Go.Proofs.YtccimdfmddomaaaDoor.AbsA
