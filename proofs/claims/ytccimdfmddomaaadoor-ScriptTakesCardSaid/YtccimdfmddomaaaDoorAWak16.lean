/-
  A part of a law's proof.
-/
import Derived.Test.YtccimdfmddomaaaDoorAEnvB
namespace Go.Proofs.YtccimdfmddomaaaDoor.AbsA
open Go AbsYtccimdfmddomaaaDoor Abs
set_option maxRecDepth 100000
theorem awake16 : isT (callF E10 (exec E10 300) 16 [] B) = true := by kernel_rfl
end Go.Proofs.YtccimdfmddomaaaDoor.AbsA
