/-
  Parts of a law's proof.
-/
import Derived.Test.YtkhcbbpfchgemaaGreatDoorARdqeJ
import Derived.Test.YtkhcbbpfchgemaaGreatDoorAPrqcJ
namespace Go.Proofs.YtkhcbbpfchgemaaGreatDoor.AbsA
open Go AbsYtkhcbbpfchgemaaGreatDoor Abs
set_option maxRecDepth 100000
set_option maxHeartbeats 4000000
set_option linter.unusedSimpArgs false
set_option linter.unusedVariables false
set_option maxHeartbeats 2000000
attribute [local irreducible] afterS afterOpS opSK OpsS TrS CodeS condS condW thenS thenQ guardS guardTS outS drawS trSK consS
section
variable {σ : AHeap} {Q : Value → AHeap → Prop} {x : Nat} {r : ByteArray ⊕ (Nat × Nat)}
end
section
variable {σ : AHeap} {Q : Value → AHeap → Prop}
end
end Go.Proofs.YtkhcbbpfchgemaaGreatDoor.AbsA
namespace Go.Proofs.YtkhcbbpfchgemaaGreatDoor.AbsA
open Go AbsYtkhcbbpfchgemaaGreatDoor Abs
set_option maxRecDepth 100000
set_option maxHeartbeats 4000000
set_option linter.unusedSimpArgs false
set_option linter.unusedVariables false
set_option maxHeartbeats 2000000
attribute [local irreducible] afterS afterOpS opSK OpsS TrS CodeS condS condW thenS thenQ guardS guardTS outS drawS trSK consS
theorem Kept.setD {σ σ' : AHeap} {fp fp' : List Nat} {c : Nat} {o : AObj} (k : Kept σ fp σ' fp') (hc : σ.get c = .dead) : Kept σ fp (σ'.set c o) fp' :=
 ⟨fun b hb hn => by rw [AHeap.get_set_ne _ _ (by rintro rfl; exact hb hc)]; exact k.get b hb hn,k.new⟩
section
variable {σ : AHeap} {Q : Value → AHeap → Prop} {r : Nat} {s : ByteArray} {p : Nat}
end
end Go.Proofs.YtkhcbbpfchgemaaGreatDoor.AbsA
namespace Go.Proofs.YtkhcbbpfchgemaaGreatDoor.AbsA
open Go AbsYtkhcbbpfchgemaaGreatDoor Abs
set_option maxRecDepth 100000
set_option maxHeartbeats 2000000
set_option linter.unusedSimpArgs false
set_option linter.unusedVariables false
abbrev flt (k r a : Int) : Value := .agg ⟨[.int .i64 k,.int .i64 r,.int .i64 a]⟩
end Go.Proofs.YtkhcbbpfchgemaaGreatDoor.AbsA
