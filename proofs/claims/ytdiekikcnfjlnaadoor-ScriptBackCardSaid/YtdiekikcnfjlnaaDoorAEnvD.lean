/-
  A part of a law's proof.
-/
import Derived.Test.YtdiekikcnfjlnaaDoorAEnvC
namespace Go.Proofs.YtdiekikcnfjlnaaDoor.AbsA
open Go AbsYtdiekikcnfjlnaaDoor Abs
set_option maxRecDepth 100000
set_option maxHeartbeats 4000000
theorem call3 {args : List Value} {σ : AHeap} {Q : Value → AHeap → Prop} (hl : args.length ≤ 88) (h : CodeS E B (strip [] (bodyOf Tryd.f3)) (L 88 (ofL args)) σ (outS E [.tmp 6] (downS Q))) : CallS E B 3 args σ Q :=
 S_callK hB [] rfl rfl rfl (by kernel_rfl) rfl rfl (by kernel_rfl) hl h
theorem call4 {args : List Value} {σ : AHeap} {Q : Value → AHeap → Prop} (hl : args.length ≤ 28) (h : CodeS E B (strip [] (bodyOf Tryd.f4)) (L 28 (ofL args)) σ (outS E [.tmp 4] (downS Q))) : CallS E B 4 args σ Q :=
 S_callK hB [] rfl rfl rfl (by kernel_rfl) rfl rfl (by kernel_rfl) hl h
theorem call6 {args : List Value} {σ : AHeap} {Q : Value → AHeap → Prop} (hl : args.length ≤ 76) (h : CodeS E B (strip [] (bodyOf Tryd.f6)) (L 76 (ofL args)) σ (outS E [.tmp 4,.tmp 5] (downS Q))) : CallS E B 6 args σ Q :=
 S_callK hB [] rfl rfl rfl (by kernel_rfl) rfl rfl (by kernel_rfl) hl h
theorem call7 {args : List Value} {σ : AHeap} {Q : Value → AHeap → Prop} (hl : args.length ≤ 34) (h : CodeS E B (strip [] (bodyOf Tryd.f7)) (L 34 (ofL args)) σ (outS E [.cell 2 23,.tmp 3,.tmp 4] (downS Q))) : CallS E B 7 args σ Q :=
 S_callK hB [] rfl rfl rfl (by kernel_rfl) rfl rfl (by kernel_rfl) hl h
theorem call8 {args : List Value} {σ : AHeap} {Q : Value → AHeap → Prop} (hl : args.length ≤ 32) (h : CodeS E B (strip [] (bodyOf Tryd.f8)) (L 32 (ofL args)) σ (outS E [.tmp 4] (downS Q))) : CallS E B 8 args σ Q :=
 S_callK hB [] rfl rfl rfl (by kernel_rfl) rfl rfl (by kernel_rfl) hl h
theorem call11 {args : List Value} {σ : AHeap} {Q : Value → AHeap → Prop} (hl : args.length ≤ 29) (h : CodeS E B (strip [] (bodyOf Tryd.f11)) (L 29 (ofL args)) σ (outS E [.tmp 2] (downS Q))) : CallS E B 11 args σ Q :=
 S_callK hB [] rfl rfl rfl (by kernel_rfl) rfl rfl (by kernel_rfl) hl h
theorem call12 {args : List Value} {σ : AHeap} {Q : Value → AHeap → Prop} (hl : args.length ≤ 15) (h : CodeS E B (strip [] (bodyOf Tryd.f12)) (L 15 (ofL args)) σ (outS E [.tmp 6] (downS Q))) : CallS E B 12 args σ Q :=
 S_callK hB [] rfl rfl rfl (by kernel_rfl) rfl rfl (by kernel_rfl) hl h
theorem call13 {args : List Value} {σ : AHeap} {Q : Value → AHeap → Prop} (hl : args.length ≤ 16) (h : CodeS E B (strip [] (bodyOf Tryd.f13)) (L 16 (ofL args)) σ (outS E [] (downS Q))) : CallS E B 13 args σ Q :=
 S_callK hB [] rfl rfl rfl (by kernel_rfl) rfl rfl (by kernel_rfl) hl h
theorem call14 {args : List Value} {σ : AHeap} {Q : Value → AHeap → Prop} (hl : args.length ≤ 30) (h : CodeS E B (strip [] (bodyOf Tryd.f14)) (L 30 (ofL args)) σ (outS E [.tmp 2] (downS Q))) : CallS E B 14 args σ Q :=
 S_callK hB [] rfl rfl rfl (by kernel_rfl) rfl rfl (by kernel_rfl) hl h
theorem call15 {args : List Value} {σ : AHeap} {Q : Value → AHeap → Prop} (hl : args.length ≤ 7) (h : CodeS E B (strip [] (bodyOf Tryd.f15)) (L 7 (ofL args)) σ (outS E [] (downS Q))) : CallS E B 15 args σ Q :=
 S_callK hB [] rfl rfl rfl (by kernel_rfl) rfl rfl (by kernel_rfl) hl h
theorem call16 {args : List Value} {σ : AHeap} {Q : Value → AHeap → Prop} (hl : args.length ≤ 7) (h : CodeS E B (strip [] (bodyOf Tryd.f16)) (L 7 (ofL args)) σ (outS E [] (downS Q))) : CallS E B 16 args σ Q :=
 S_callK hB [] rfl rfl rfl (by kernel_rfl) rfl rfl (by kernel_rfl) hl h
theorem call17 {args : List Value} {σ : AHeap} {Q : Value → AHeap → Prop} (hl : args.length ≤ 9) (h : CodeS E B (strip [] (bodyOf Tryd.f17)) (L 9 (ofL args)) σ (outS E [.tmp 2] (downS Q))) : CallS E B 17 args σ Q :=
 S_callK hB [] rfl rfl rfl (by kernel_rfl) rfl rfl (by kernel_rfl) hl h
theorem call18 {args : List Value} {σ : AHeap} {Q : Value → AHeap → Prop} (hl : args.length ≤ 7) (h : CodeS E B (strip [] (bodyOf Tryd.f18)) (L 7 (ofL args)) σ (outS E [] (downS Q))) : CallS E B 18 args σ Q :=
 S_callK hB [] rfl rfl rfl (by kernel_rfl) rfl rfl (by kernel_rfl) hl h
theorem call19 {args : List Value} {σ : AHeap} {Q : Value → AHeap → Prop} (hl : args.length ≤ 11) (h : CodeS E B (strip [] (bodyOf Tryd.f19)) (L 11 (ofL args)) σ (outS E [] (downS Q))) : CallS E B 19 args σ Q :=
 S_callK hB [] rfl rfl rfl (by kernel_rfl) rfl rfl (by kernel_rfl) hl h
theorem call20 {args : List Value} {σ : AHeap} {Q : Value → AHeap → Prop} (hl : args.length ≤ 20) (h : CodeS E B (strip [] (bodyOf Tryd.f20)) (L 20 (ofL args)) σ (outS E [.tmp 2,.tmp 3] (downS Q))) : CallS E B 20 args σ Q :=
 S_callK hB [] rfl rfl rfl (by kernel_rfl) rfl rfl (by kernel_rfl) hl h
theorem call21 {args : List Value} {σ : AHeap} {Q : Value → AHeap → Prop} (hl : args.length ≤ 6) (h : CodeS E B (strip [] (bodyOf Tryd.f21)) (L 6 (ofL args)) σ (outS E [.tmp 2] (downS Q))) : CallS E B 21 args σ Q :=
 S_callK hB [] rfl rfl rfl (by kernel_rfl) rfl rfl (by kernel_rfl) hl h
theorem call22 {args : List Value} {σ : AHeap} {Q : Value → AHeap → Prop} (hl : args.length ≤ 45) (h : CodeS E B (strip [10,11] (bodyOf Tryd.f22)) (L 45 (ofL args)) σ (outS E [.cell 2 23,.tmp 3,.tmp 4] (downS Q))) : CallS E B 22 args σ Q :=
 S_callK hB [10,11] rfl rfl rfl (by kernel_rfl) rfl rfl (by kernel_rfl) hl h
theorem call23 {args : List Value} {σ : AHeap} {Q : Value → AHeap → Prop} (hl : args.length ≤ 28) (h : CodeS E B (strip [] (bodyOf Tryd.f23)) (L 28 (ofL args)) σ (outS E [.tmp 4,.tmp 5] (downS Q))) : CallS E B 23 args σ Q :=
 S_callK hB [] rfl rfl rfl (by kernel_rfl) rfl rfl (by kernel_rfl) hl h
theorem call25 {args : List Value} {σ : AHeap} {Q : Value → AHeap → Prop} (hl : args.length ≤ 43) (h : CodeS E B (strip [] (bodyOf Tryd.f25)) (L 43 (ofL args)) σ (outS E [.tmp 2] (downS Q))) : CallS E B 25 args σ Q :=
 S_callK hB [] rfl rfl rfl (by kernel_rfl) rfl rfl (by kernel_rfl) hl h
theorem call26 {args : List Value} {σ : AHeap} {Q : Value → AHeap → Prop} (hl : args.length ≤ 12) (h : CodeS E B (strip [] (bodyOf Tryd.f26)) (L 12 (ofL args)) σ (outS E [.tmp 2] (downS Q))) : CallS E B 26 args σ Q :=
 S_callK hB [] rfl rfl rfl (by kernel_rfl) rfl rfl (by kernel_rfl) hl h
theorem call27 {args : List Value} {σ : AHeap} {Q : Value → AHeap → Prop} (hl : args.length ≤ 69) (h : CodeS E B (strip [] (bodyOf Tryd.f27)) (L 69 (ofL args)) σ (outS E [] (downS Q))) : CallS E B 27 args σ Q :=
 S_callK hB [] rfl rfl rfl (by kernel_rfl) rfl rfl (by kernel_rfl) hl h
theorem call28 {args : List Value} {σ : AHeap} {Q : Value → AHeap → Prop} (hl : args.length ≤ 9) (h : CodeS E B (strip [] (bodyOf Tryd.f28)) (L 9 (ofL args)) σ (outS E [.tmp 2] (downS Q))) : CallS E B 28 args σ Q :=
 S_callK hB [] rfl rfl rfl (by kernel_rfl) rfl rfl (by kernel_rfl) hl h
theorem call29 {args : List Value} {σ : AHeap} {Q : Value → AHeap → Prop} (hl : args.length ≤ 68) (h : CodeS E B (strip [] (bodyOf Tryd.f29)) (L 68 (ofL args)) σ (outS E [.tmp 4] (downS Q))) : CallS E B 29 args σ Q :=
 S_callK hB [] rfl rfl rfl (by kernel_rfl) rfl rfl (by kernel_rfl) hl h
theorem call30 {args : List Value} {σ : AHeap} {Q : Value → AHeap → Prop} (hl : args.length ≤ 9) (h : CodeS E B (strip [] (bodyOf Tryd.f30)) (L 9 (ofL args)) σ (outS E [.tmp 2] (downS Q))) : CallS E B 30 args σ Q :=
 S_callK hB [] rfl rfl rfl (by kernel_rfl) rfl rfl (by kernel_rfl) hl h
theorem call31 {args : List Value} {σ : AHeap} {Q : Value → AHeap → Prop} (hl : args.length ≤ 52) (h : CodeS E B (strip [11] (bodyOf Tryd.f31)) (L 52 (ofL args)) σ (outS E [.cell 2 23,.tmp 3] (downS Q))) : CallS E B 31 args σ Q :=
 S_callK hB [11] rfl rfl rfl (by kernel_rfl) rfl rfl (by kernel_rfl) hl h
theorem call32 {args : List Value} {σ : AHeap} {Q : Value → AHeap → Prop} (hl : args.length ≤ 9) (h : CodeS E B (strip [] (bodyOf Tryd.f32)) (L 9 (ofL args)) σ (outS E [.tmp 2] (downS Q))) : CallS E B 32 args σ Q :=
 S_callK hB [] rfl rfl rfl (by kernel_rfl) rfl rfl (by kernel_rfl) hl h
theorem call33 {args : List Value} {σ : AHeap} {Q : Value → AHeap → Prop} (hl : args.length ≤ 5) (h : CodeS E B (strip [] (bodyOf Tryd.f33)) (L 5 (ofL args)) σ (outS E [.tmp 2] (downS Q))) : CallS E B 33 args σ Q :=
 S_callK hB [] rfl rfl rfl (by kernel_rfl) rfl rfl (by kernel_rfl) hl h
theorem call34 {args : List Value} {σ : AHeap} {Q : Value → AHeap → Prop} (hl : args.length ≤ 33) (h : CodeS E B (strip [4,5] (bodyOf Tryd.f34)) (L 33 (ofL args)) σ (outS E [.cell 2 36,.tmp 3] (downS Q))) : CallS E B 34 args σ Q :=
 S_callK hB [4,5] rfl rfl rfl (by kernel_rfl) rfl rfl (by kernel_rfl) hl h
theorem call35 {args : List Value} {σ : AHeap} {Q : Value → AHeap → Prop} (hl : args.length ≤ 19) (h : CodeS E B (strip [] (bodyOf Tryd.f35)) (L 19 (ofL args)) σ (outS E [.tmp 2] (downS Q))) : CallS E B 35 args σ Q :=
 S_callK hB [] rfl rfl rfl (by kernel_rfl) rfl rfl (by kernel_rfl) hl h
theorem call38 {args : List Value} {σ : AHeap} {Q : Value → AHeap → Prop} (hl : args.length ≤ 8) (h : CodeS E B (strip [] (bodyOf Tryd.f38)) (L 8 (ofL args)) σ (outS E [] (downS Q))) : CallS E B 38 args σ Q :=
 S_callK hB [] rfl rfl rfl (by kernel_rfl) rfl rfl (by kernel_rfl) hl h
theorem call39 {args : List Value} {σ : AHeap} {Q : Value → AHeap → Prop} (hl : args.length ≤ 12) (h : CodeS E B (strip [] (bodyOf Tryd.f39)) (L 12 (ofL args)) σ (outS E [.tmp 2] (downS Q))) : CallS E B 39 args σ Q :=
 S_callK hB [] rfl rfl rfl (by kernel_rfl) rfl rfl (by kernel_rfl) hl h
theorem call40 {args : List Value} {σ : AHeap} {Q : Value → AHeap → Prop} (hl : args.length ≤ 5) (h : CodeS E B (strip [] (bodyOf Tryd.f40)) (L 5 (ofL args)) σ (outS E [.tmp 2] (downS Q))) : CallS E B 40 args σ Q :=
 S_callK hB [] rfl rfl rfl (by kernel_rfl) rfl rfl (by kernel_rfl) hl h
theorem call41 {args : List Value} {σ : AHeap} {Q : Value → AHeap → Prop} (hl : args.length ≤ 24) (h : CodeS E B (strip [] (bodyOf Tryd.f41)) (L 24 (ofL args)) σ (outS E [.tmp 4] (downS Q))) : CallS E B 41 args σ Q :=
 S_callK hB [] rfl rfl rfl (by kernel_rfl) rfl rfl (by kernel_rfl) hl h
theorem call42 {args : List Value} {σ : AHeap} {Q : Value → AHeap → Prop} (hl : args.length ≤ 5) (h : CodeS E B (strip [] (bodyOf Tryd.f42)) (L 5 (ofL args)) σ (outS E [.tmp 2] (downS Q))) : CallS E B 42 args σ Q :=
 S_callK hB [] rfl rfl rfl (by kernel_rfl) rfl rfl (by kernel_rfl) hl h
theorem call43 {args : List Value} {σ : AHeap} {Q : Value → AHeap → Prop} (hl : args.length ≤ 15) (h : CodeS E B (strip [] (bodyOf Tryd.f43)) (L 15 (ofL args)) σ (outS E [.tmp 2] (downS Q))) : CallS E B 43 args σ Q :=
 S_callK hB [] rfl rfl rfl (by kernel_rfl) rfl rfl (by kernel_rfl) hl h
theorem call44 {args : List Value} {σ : AHeap} {Q : Value → AHeap → Prop} (hl : args.length ≤ 15) (h : CodeS E B (strip [] (bodyOf Tryd.f44)) (L 15 (ofL args)) σ (outS E [.tmp 2] (downS Q))) : CallS E B 44 args σ Q :=
 S_callK hB [] rfl rfl rfl (by kernel_rfl) rfl rfl (by kernel_rfl) hl h
theorem call45 {args : List Value} {σ : AHeap} {Q : Value → AHeap → Prop} (hl : args.length ≤ 17) (h : CodeS E B (strip [] (bodyOf Tryd.f45)) (L 17 (ofL args)) σ (outS E [] (downS Q))) : CallS E B 45 args σ Q :=
 S_callK hB [] rfl rfl rfl (by kernel_rfl) rfl rfl (by kernel_rfl) hl h
end Go.Proofs.YtdiekikcnfjlnaaDoor.AbsA
