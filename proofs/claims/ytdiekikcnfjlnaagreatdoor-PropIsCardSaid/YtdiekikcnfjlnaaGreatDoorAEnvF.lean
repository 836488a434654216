/-
  A part of a law's proof.
-/
import Derived.Test.YtdiekikcnfjlnaaGreatDoorAEnvE
namespace Go.Proofs.YtdiekikcnfjlnaaGreatDoor.AbsS
open Go AbsYtdiekikcnfjlnaaGreatDoor Abs
set_option maxRecDepth 100000
set_option maxHeartbeats 4000000
theorem call15 {args : List Value} {σ : AHeap} {Q : Value → AHeap → Prop} (hl : args.length ≤ 9) (h : CodeS E B (strip [] (bodyOf Tryz.f15)) (L 9 (ofL args)) σ (outS E [.tmp 4] (downS Q))) : CallS E B 15 args σ Q :=
 S_callK hB [] rfl rfl rfl (by kernel_rfl) rfl rfl (by kernel_rfl) hl h
theorem call28 {args : List Value} {σ : AHeap} {Q : Value → AHeap → Prop} (hl : args.length ≤ 8) (h : CodeS E B (strip [] (bodyOf Tryz.f28)) (L 8 (ofL args)) σ (outS E [.tmp 3] (downS Q))) : CallS E B 28 args σ Q :=
 S_callK hB [] rfl rfl rfl (by kernel_rfl) rfl rfl (by kernel_rfl) hl h
theorem call26 {args : List Value} {σ : AHeap} {Q : Value → AHeap → Prop} (hl : args.length ≤ 42) (h : CodeS E B (strip [] (bodyOf Tryz.f26)) (L 42 (ofL args)) σ (outS E [.tmp 4] (downS Q))) : CallS E B 26 args σ Q :=
 S_callK hB [] rfl rfl rfl (by kernel_rfl) rfl rfl (by kernel_rfl) hl h
theorem call27 {args : List Value} {σ : AHeap} {Q : Value → AHeap → Prop} (hl : args.length ≤ 8) (h : CodeS E B (strip [] (bodyOf Tryz.f27)) (L 8 (ofL args)) σ (outS E [.tmp 2] (downS Q))) : CallS E B 27 args σ Q :=
 S_callK hB [] rfl rfl rfl (by kernel_rfl) rfl rfl (by kernel_rfl) hl h
theorem call22 {args : List Value} {σ : AHeap} {Q : Value → AHeap → Prop} (hl : args.length ≤ 19) (h : CodeS E B (strip [] (bodyOf Tryz.f22)) (L 19 (ofL args)) σ (outS E [.tmp 4] (downS Q))) : CallS E B 22 args σ Q :=
 S_callK hB [] rfl rfl rfl (by kernel_rfl) rfl rfl (by kernel_rfl) hl h
end Go.Proofs.YtdiekikcnfjlnaaGreatDoor.AbsS
