/-
  A part of a law's proof.
-/
import Derived.Test.YtkhcbbpfchgemaaGreatDoorAEnvA

namespace Go.Proofs.YtkhcbbpfchgemaaGreatDoor.AbsA
open Go AbsYtkhcbbpfchgemaaGreatDoor Abs
set_option maxRecDepth 100000
def nb : Nat := 15
def S : List Sent := [⟨ "towncrier/api.ErrShort", 1, [116, 111, 111, 32, 102, 101, 119, 32, 98, 121, 116, 101, 115]⟩, ⟨ "towncrier/api.ErrMalformed", 0, [109, 97, 108, 102, 111, 114, 109, 101, 100]⟩, ⟨ "towncrier/api.ErrProtocol", 2, [97, 103, 97, 105, 110, 115, 116, 32, 116, 104, 101, 32, 112, 114, 111, 116, 111, 99, 111, 108]⟩, ⟨ "towncrier/api.ErrTooLarge", 3, [116, 111, 111, 32, 108, 97, 114, 103, 101]⟩, ⟨ "towncrier/api.ErrQuota", 4, [110, 111, 32, 114, 111, 111, 109]⟩, ⟨ "towncrier/api.ErrState", 5, [110, 111, 116, 32, 110, 111, 119]⟩, ⟨ "towncrier/api.ErrArgument", 6, [110, 111, 32, 115, 117, 99, 104, 32, 116, 104, 105, 110, 103]⟩]
def B : AHeap := baseHeap ng 306 S handle
noncomputable def E1 : Env := (E0 nb).errs ec
theorem env1_ok : EnvOk E1 := EnvOk.errs (env0_ok nb) ec_ok
noncomputable def E10 : Env := (E00 nb).errs ec
theorem env10_ok : EnvOk E10 := EnvOk.errs (env00_ok nb) ec_ok
def isT : Option (Value × AHeap) → Bool
 | some (.bool true,_) => true
 | _ => false
theorem isT_some {o : Option (Value × AHeap)} (h : isT o = true) : ∃ H,o = some (.bool true,H) := by
 unfold isT at h
 split at h
 ·exact ⟨_,rfl⟩
 ·cases h
end Go.Proofs.YtkhcbbpfchgemaaGreatDoor.AbsA
