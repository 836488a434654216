/-
  A part of a law's proof.
-/
import Derived.Test.YtonmjhdcijibgaaGreatDoorAEnvB
namespace Go.Proofs.YtonmjhdcijibgaaGreatDoor.AbsB
open Go AbsYtonmjhdcijibgaaGreatDoor Abs
set_option maxRecDepth 100000
theorem awake35 : isT (callF E10 (exec E10 300) 35 [] B) = true := by kernel_rfl
end Go.Proofs.YtonmjhdcijibgaaGreatDoor.AbsB
