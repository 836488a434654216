/-
  A part of a law's proof.
-/
import Derived.Test.YtlmcjfnignbdoaaAPm
import Derived.Test.YtlmcjfnignbdoaaAOk
namespace Go.Proofs.Ytlmcjfnignbdoaa.Abs
open Go AbsYtlmcjfnignbdoaa
theorem law8 (H : AHeap) (vs : List Value) (h : ArgsTyped E H 8 [43] vs) : CallW E 8 vs H fun r _ => r = .bool true := by
  match vs, h with
  | [v0], ⟨⟨x0, i0, e0, t0, r0⟩, _⟩ =>
    rw [ty43] at e0; cases e0
    obtain ⟨v, AS, rfl, hs, hm⟩ := typed_acts t0
    subst r0
    exact spec8 hs hm
end Go.Proofs.Ytlmcjfnignbdoaa.Abs
