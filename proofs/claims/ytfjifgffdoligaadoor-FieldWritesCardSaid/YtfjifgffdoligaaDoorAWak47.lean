/-
  A part of a law's proof.
-/
import Derived.Test.YtfjifgffdoligaaDoorAEnvB
namespace Go.Proofs.YtfjifgffdoligaaDoor.AbsA
open Go AbsYtfjifgffdoligaaDoor Abs
set_option maxRecDepth 100000
theorem awake47 : isT (callF E10 (exec E10 300) 47 [] B) = true := by kernel_rfl
end Go.Proofs.YtfjifgffdoligaaDoor.AbsA
