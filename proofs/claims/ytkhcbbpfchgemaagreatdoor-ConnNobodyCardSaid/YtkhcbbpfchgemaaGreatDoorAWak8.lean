/-
  A part of a law's proof.
-/
import Derived.Test.YtkhcbbpfchgemaaGreatDoorAEnvB
namespace Go.Proofs.YtkhcbbpfchgemaaGreatDoor.AbsA
open Go AbsYtkhcbbpfchgemaaGreatDoor Abs
set_option maxRecDepth 100000
theorem awake8 : isT (callF E10 (exec E10 300) 8 [] B) = true := by kernel_rfl
end Go.Proofs.YtkhcbbpfchgemaaGreatDoor.AbsA
