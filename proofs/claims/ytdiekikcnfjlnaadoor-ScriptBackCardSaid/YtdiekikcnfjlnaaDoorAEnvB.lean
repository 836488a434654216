/-
  A part of a law's proof.
-/
import Derived.Test.YtdiekikcnfjlnaaDoorAEnvA

namespace Go.Proofs.YtdiekikcnfjlnaaDoor.AbsA
open Go AbsYtdiekikcnfjlnaaDoor Abs
set_option maxRecDepth 100000
def nb : Nat := 14
def S : List Sent := [⟨ "towncrier/api.ErrShort", 2, [116, 111, 111, 32, 102, 101, 119, 32, 98, 121, 116, 101, 115]⟩, ⟨ "towncrier/api.ErrMalformed", 3, [109, 97, 108, 102, 111, 114, 109, 101, 100]⟩, ⟨ "towncrier/api.ErrProtocol", 4, [97, 103, 97, 105, 110, 115, 116, 32, 116, 104, 101, 32, 112, 114, 111, 116, 111, 99, 111, 108]⟩, ⟨ "towncrier/api.ErrTooLarge", 0, [116, 111, 111, 32, 108, 97, 114, 103, 101]⟩, ⟨ "towncrier/api.ErrQuota", 5, [110, 111, 32, 114, 111, 111, 109]⟩, ⟨ "towncrier/api.ErrState", 6, [110, 111, 116, 32, 110, 111, 119]⟩, ⟨ "towncrier/api.ErrArgument", 1, [110, 111, 32, 115, 117, 99, 104, 32, 116, 104, 105, 110, 103]⟩]
def B : AHeap := baseHeap ng 95 S handle
noncomputable def E1 : Env := (E0 nb).errI ec
theorem env1_ok : EnvOk E1 := EnvOk.errI (env0_ok nb) ec_ok
noncomputable def E10 : Env := (E00 nb).errI ec
theorem env10_ok : EnvOk E10 := EnvOk.errI (env00_ok nb) ec_ok
def isT : Option (Value × AHeap) → Bool
 | some (.bool true,_) => true
 | _ => false
theorem isT_some {o : Option (Value × AHeap)} (h : isT o = true) : ∃ H,o = some (.bool true,H) := by
 unfold isT at h
 split at h
 ·exact ⟨_,rfl⟩
 ·cases h
end Go.Proofs.YtdiekikcnfjlnaaDoor.AbsA
