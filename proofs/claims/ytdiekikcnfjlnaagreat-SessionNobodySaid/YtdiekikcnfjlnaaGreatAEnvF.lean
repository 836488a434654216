/-
  A part of a law's proof.
-/
import Derived.Test.YtdiekikcnfjlnaaGreatAEnvE
namespace Go.Proofs.YtdiekikcnfjlnaaGreat.AbsS
open Go AbsYtdiekikcnfjlnaaGreat Abs
set_option maxRecDepth 100000
set_option maxHeartbeats 4000000
/-- slices.Clone[[]towncrier/api.Prop,towncrier/api.Prop] -/
theorem call32 {args : List Value} {σ : AHeap} {Q : Value → AHeap → Prop} (hl : args.length ≤ 8) (h : CodeS E B (strip [] (bodyOf Tryz.f32)) (L 8 (ofL args)) σ (outS E [.tmp 2] (downS Q))) : CallS E B 32 args σ Q :=
  S_callK hB [] rfl rfl rfl (by kernel_rfl) rfl rfl (by kernel_rfl) hl h
/-- towncrier/queue.Left -/
theorem call54 {args : List Value} {σ : AHeap} {Q : Value → AHeap → Prop} (hl : args.length ≤ 31) (h : CodeS E B (strip [5] (bodyOf Tryz.f54)) (L 31 (ofL args)) σ (outS E [.cell 4 28, .tmp 5] (downS Q))) : CallS E B 54 args σ Q :=
  S_callK hB [5] rfl rfl rfl (by kernel_rfl) rfl rfl (by kernel_rfl) hl h
/-- towncrier/queue.come -/
theorem call68 {args : List Value} {σ : AHeap} {Q : Value → AHeap → Prop} (hl : args.length ≤ 14) (h : CodeS E B (strip [] (bodyOf Tryz.f68)) (L 14 (ofL args)) σ (outS E [.tmp 4] (downS Q))) : CallS E B 68 args σ Q :=
  S_callK hB [] rfl rfl rfl (by kernel_rfl) rfl rfl (by kernel_rfl) hl h
/-- towncrier/prop.Without -/
theorem call74 {args : List Value} {σ : AHeap} {Q : Value → AHeap → Prop} (hl : args.length ≤ 9) (h : CodeS E B (strip [] (bodyOf Tryz.f74)) (L 9 (ofL args)) σ (outS E [.tmp 4] (downS Q))) : CallS E B 74 args σ Q :=
  S_callK hB [] rfl rfl rfl (by kernel_rfl) rfl rfl (by kernel_rfl) hl h
/-- slices.DeleteFunc[[]towncrier/api.Prop,towncrier/api.Prop] -/
theorem call94 {args : List Value} {σ : AHeap} {Q : Value → AHeap → Prop} (hl : args.length ≤ 42) (h : CodeS E B (strip [] (bodyOf Tryz.f94)) (L 42 (ofL args)) σ (outS E [.tmp 4] (downS Q))) : CallS E B 94 args σ Q :=
  S_callK hB [] rfl rfl rfl (by kernel_rfl) rfl rfl (by kernel_rfl) hl h
/-- towncrier/prop.Without$1 -/
theorem call95 {args : List Value} {σ : AHeap} {Q : Value → AHeap → Prop} (hl : args.length ≤ 8) (h : CodeS E B (strip [] (bodyOf Tryz.f95)) (L 8 (ofL args)) σ (outS E [.tmp 3] (downS Q))) : CallS E B 95 args σ Q :=
  S_callK hB [] rfl rfl rfl (by kernel_rfl) rfl rfl (by kernel_rfl) hl h
/-- slices.IndexFunc[[]towncrier/api.Prop,towncrier/api.Prop] -/
theorem call104 {args : List Value} {σ : AHeap} {Q : Value → AHeap → Prop} (hl : args.length ≤ 19) (h : CodeS E B (strip [] (bodyOf Tryz.f104)) (L 19 (ofL args)) σ (outS E [.tmp 4] (downS Q))) : CallS E B 104 args σ Q :=
  S_callK hB [] rfl rfl rfl (by kernel_rfl) rfl rfl (by kernel_rfl) hl h
end Go.Proofs.YtdiekikcnfjlnaaGreat.AbsS
