/-
  A part of a law's proof.
-/
import Derived.Test.YtkhcbbpfchgemaaAEnvE
namespace Go.Proofs.Ytkhcbbpfchgemaa.AbsS
open Go AbsYtkhcbbpfchgemaa Abs
set_option maxRecDepth 100000
set_option maxHeartbeats 4000000
set_option linter.unusedVariables false
/-- slices.Clone[[]towncrier/api.Prop,towncrier/api.Prop] -/
theorem call42 {args : List Value} {σ : AHeap} {Q : Value → AHeap → Prop} (hl : args.length ≤ 8) (h : CodeS E B (strip [] (bodyOf Try.f42)) (L 8 (ofL args)) σ (outS E [.tmp 2] (downS Q))) : CallS E B 42 args σ Q :=
  S_callK hB [] rfl rfl rfl (by kernel_rfl) rfl rfl (by kernel_rfl) hl h
/-- towncrier/queue.come -/
theorem call50 {args : List Value} {σ : AHeap} {Q : Value → AHeap → Prop} (hl : args.length ≤ 14) (h : CodeS E B (strip [] (bodyOf Try.f50)) (L 14 (ofL args)) σ (outS E [.tmp 4] (downS Q))) : CallS E B 50 args σ Q :=
  S_callK hB [] rfl rfl rfl (by kernel_rfl) rfl rfl (by kernel_rfl) hl h
/-- towncrier/queue.Left -/
theorem call52 {args : List Value} {σ : AHeap} {Q : Value → AHeap → Prop} (hl : args.length ≤ 31) (h : CodeS E B (strip [5] (bodyOf Try.f52)) (L 31 (ofL args)) σ (outS E [.cell 4 37, .tmp 5] (downS Q))) : CallS E B 52 args σ Q :=
  S_callK hB [5] rfl rfl rfl (by kernel_rfl) rfl rfl (by kernel_rfl) hl h
end Go.Proofs.Ytkhcbbpfchgemaa.AbsS
