/-
  A part of a law's proof.
-/
import Derived.Test.YtdiekikcnfjlnaaDoorAEnvB
namespace Go.Proofs.YtdiekikcnfjlnaaDoor.AbsA
open Go AbsYtdiekikcnfjlnaaDoor Abs
set_option maxRecDepth 100000
theorem awake5 : isT (callF E10 (exec E10 300) 5 [] B) = true := by kernel_rfl
end Go.Proofs.YtdiekikcnfjlnaaDoor.AbsA
