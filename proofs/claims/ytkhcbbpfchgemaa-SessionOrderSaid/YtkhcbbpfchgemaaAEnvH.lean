/-
  A part of a law's proof.
-/
import Derived.Test.YtkhcbbpfchgemaaAEnvG
namespace Go.Proofs.Ytkhcbbpfchgemaa.AbsN
open Go AbsYtkhcbbpfchgemaa Abs
set_option maxRecDepth 100000
set_option maxHeartbeats 4000000
set_option linter.unusedVariables false
/-- towncrier/queue.New -/
theorem call23 {args : List Value} {σ : AHeap} {Q : Value → AHeap → Prop} (hl : args.length ≤ 6) (h : CodeS E B (strip [] (bodyOf Try.f23)) (L 6 (ofL args)) σ (outS E [.tmp 2] (downS Q))) : CallS E B 23 args σ Q :=
  S_callK hB [] rfl rfl rfl (by kernel_rfl) rfl rfl (by kernel_rfl) hl h
/-- (*towncrier/queue.Queue).Push -/
theorem call28 {args : List Value} {σ : AHeap} {Q : Value → AHeap → Prop} (hl : args.length ≤ 33) (h : CodeS E B (strip [] (bodyOf Try.f28)) (L 33 (ofL args)) σ (outS E [.tmp 4] (downS Q))) : CallS E B 28 args σ Q :=
  S_callK hB [] rfl rfl rfl (by kernel_rfl) rfl rfl (by kernel_rfl) hl h
/-- (*towncrier/queue.Queue).First -/
theorem call31 {args : List Value} {σ : AHeap} {Q : Value → AHeap → Prop} (hl : args.length ≤ 43) (h : CodeS E B (strip [] (bodyOf Try.f31)) (L 43 (ofL args)) σ (outS E [.cell 4 37, .tmp 5] (downS Q))) : CallS E B 31 args σ Q :=
  S_callK hB [] rfl rfl rfl (by kernel_rfl) rfl rfl (by kernel_rfl) hl h
/-- (*towncrier/queue.Queue).Pop -/
theorem call33 {args : List Value} {σ : AHeap} {Q : Value → AHeap → Prop} (hl : args.length ≤ 25) (h : CodeS E B (strip [] (bodyOf Try.f33)) (L 25 (ofL args)) σ (outS E [.cell 4 37, .tmp 5] (downS Q))) : CallS E B 33 args σ Q :=
  S_callK hB [] rfl rfl rfl (by kernel_rfl) rfl rfl (by kernel_rfl) hl h
/-- (*towncrier/queue.Queue).All -/
theorem call37 {args : List Value} {σ : AHeap} {Q : Value → AHeap → Prop} (hl : args.length ≤ 10) (h : CodeS E B (strip [] (bodyOf Try.f37)) (L 10 (ofL args)) σ (outS E [.tmp 2] (downS Q))) : CallS E B 37 args σ Q :=
  S_callK hB [] rfl rfl rfl (by kernel_rfl) rfl rfl (by kernel_rfl) hl h
/-- slices.Clone[[]towncrier/api.Prop,towncrier/api.Prop] -/
theorem call42 {args : List Value} {σ : AHeap} {Q : Value → AHeap → Prop} (hl : args.length ≤ 8) (h : CodeS E B (strip [] (bodyOf Try.f42)) (L 8 (ofL args)) σ (outS E [.tmp 2] (downS Q))) : CallS E B 42 args σ Q :=
  S_callK hB [] rfl rfl rfl (by kernel_rfl) rfl rfl (by kernel_rfl) hl h
/-- (*towncrier/queue.Queue).Len -/
theorem call49 {args : List Value} {σ : AHeap} {Q : Value → AHeap → Prop} (hl : args.length ≤ 10) (h : CodeS E B (strip [] (bodyOf Try.f49)) (L 10 (ofL args)) σ (outS E [.tmp 2] (downS Q))) : CallS E B 49 args σ Q :=
  S_callK hB [] rfl rfl rfl (by kernel_rfl) rfl rfl (by kernel_rfl) hl h
/-- towncrier/queue.come -/
theorem call50 {args : List Value} {σ : AHeap} {Q : Value → AHeap → Prop} (hl : args.length ≤ 14) (h : CodeS E B (strip [] (bodyOf Try.f50)) (L 14 (ofL args)) σ (outS E [.tmp 4] (downS Q))) : CallS E B 50 args σ Q :=
  S_callK hB [] rfl rfl rfl (by kernel_rfl) rfl rfl (by kernel_rfl) hl h
/-- slices.Clone[[]towncrier/api.Msg,towncrier/api.Msg] -/
theorem call59 {args : List Value} {σ : AHeap} {Q : Value → AHeap → Prop} (hl : args.length ≤ 8) (h : CodeS E B (strip [] (bodyOf Try.f59)) (L 8 (ofL args)) σ (outS E [.tmp 2] (downS Q))) : CallS E B 59 args σ Q :=
  S_callK hB [] rfl rfl rfl (by kernel_rfl) rfl rfl (by kernel_rfl) hl h
end Go.Proofs.Ytkhcbbpfchgemaa.AbsN
