/-
  A part of a law's proof.
-/
import Derived.Test.YtkhcbbpfchgemaaAEnvA
namespace Go.Proofs.Ytkhcbbpfchgemaa.AbsA
open Go AbsYtkhcbbpfchgemaa Abs
set_option maxRecDepth 100000
theorem awake5 : isT (callF E00 (exec E00 300) 5 [] .empty) = true := by kernel_rfl
end Go.Proofs.Ytkhcbbpfchgemaa.AbsA
