/-
  Parts of a law's proof.
-/
import Derived.Test.YtdiekikcnfjlnaaGreatDoorAFwqdJ
namespace Go.Proofs.YtdiekikcnfjlnaaGreatDoor.AbsA
open Go AbsYtdiekikcnfjlnaaGreatDoor Abs
set_option maxRecDepth 100000
set_option maxHeartbeats 4000000
set_option linter.unusedSimpArgs false
set_option linter.unusedVariables false
section
variable {σ : AHeap} {r p : Nat} {s : ByteArray} {Q : Value → AHeap → Prop}
end
section
variable {σ : AHeap} {r p : Nat} {s : ByteArray} {Q : Value → AHeap → Prop}
end
section
variable {σ : AHeap} {r p : Nat} {s : ByteArray} {Q : Value → AHeap → Prop}
end
section
variable {σ : AHeap} {r p : Nat} {s : ByteArray} {Q : Value → AHeap → Prop}
end
end Go.Proofs.YtdiekikcnfjlnaaGreatDoor.AbsA
