/-
  A part of a law's proof.
-/
import Derived.Test.YtkhcbbpfchgemaaDoorAEnvA

namespace Go.Proofs.YtkhcbbpfchgemaaDoor.AbsB
open Go AbsYtkhcbbpfchgemaaDoor Abs
set_option maxRecDepth 100000
def nb : Nat := 11
def S : List Sent := [⟨ "towncrier/api.ErrShort", 3, [116, 111, 111, 32, 102, 101, 119, 32, 98, 121, 116, 101, 115]⟩, ⟨ "towncrier/api.ErrMalformed", 0, [109, 97, 108, 102, 111, 114, 109, 101, 100]⟩, ⟨ "towncrier/api.ErrProtocol", 4, [97, 103, 97, 105, 110, 115, 116, 32, 116, 104, 101, 32, 112, 114, 111, 116, 111, 99, 111, 108]⟩, ⟨ "towncrier/api.ErrTooLarge", 2, [116, 111, 111, 32, 108, 97, 114, 103, 101]⟩, ⟨ "towncrier/api.ErrArgument", 1, [110, 111, 32, 115, 117, 99, 104, 32, 116, 104, 105, 110, 103]⟩]
def B : AHeap := baseHeap ng 135 S handle
noncomputable def E1 : Env := (E0 nb).errsA ec
theorem env1_ok : EnvOk E1 := EnvOk.errsA (env0_ok nb) ec_ok
noncomputable def E10 : Env := (E00 nb).errsA ec
theorem env10_ok : EnvOk E10 := EnvOk.errsA (env00_ok nb) ec_ok
def isT : Option (Value × AHeap) → Bool
 | some (.bool true,_) => true
 | _ => false
theorem isT_some {o : Option (Value × AHeap)} (h : isT o = true) : ∃ H,o = some (.bool true,H) := by
 unfold isT at h
 split at h
 ·exact ⟨_,rfl⟩
 ·cases h
end Go.Proofs.YtkhcbbpfchgemaaDoor.AbsB
