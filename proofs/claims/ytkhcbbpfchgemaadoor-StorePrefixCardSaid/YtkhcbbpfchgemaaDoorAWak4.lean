/-
  A part of a law's proof.
-/
import Derived.Test.YtkhcbbpfchgemaaDoorAEnvB
namespace Go.Proofs.YtkhcbbpfchgemaaDoor.AbsB
open Go AbsYtkhcbbpfchgemaaDoor Abs
set_option maxRecDepth 100000
theorem awake4 : isT (callF E10 (exec E10 300) 4 [] B) = true := by kernel_rfl
end Go.Proofs.YtkhcbbpfchgemaaDoor.AbsB
