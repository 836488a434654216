/-
  A part of a law's proof.
-/
import Derived.Test.YtjkhhdknplelcaaGreatDoorAEnvB
namespace Go.Proofs.YtjkhhdknplelcaaGreatDoor.AbsB
open Go AbsYtjkhhdknplelcaaGreatDoor Abs
set_option maxRecDepth 100000
theorem awake19 : isT (callF E10 (exec E10 300) 19 [] B) = true := by kernel_rfl
end Go.Proofs.YtjkhhdknplelcaaGreatDoor.AbsB
