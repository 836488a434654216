/-
  A part of a law's proof.
-/
import Derived.Test.YtjkhhdknplelcaaGreatDoorAEnvB
namespace Go.Proofs.YtjkhhdknplelcaaGreatDoor.AbsA
open Go AbsYtjkhhdknplelcaaGreatDoor Abs
set_option maxRecDepth 100000
theorem awake25 : isT (callF E10 (exec E10 300) 25 [] B) = true := by kernel_rfl
end Go.Proofs.YtjkhhdknplelcaaGreatDoor.AbsA
