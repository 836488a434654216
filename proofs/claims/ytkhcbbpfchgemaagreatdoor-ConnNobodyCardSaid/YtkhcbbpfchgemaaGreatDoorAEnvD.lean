/-
  A part of a law's proof.
-/
import Derived.Test.YtkhcbbpfchgemaaGreatDoorAEnvC
namespace Go.Proofs.YtkhcbbpfchgemaaGreatDoor.AbsA
open Go AbsYtkhcbbpfchgemaaGreatDoor Abs
set_option maxRecDepth 100000
set_option maxHeartbeats 4000000
theorem call7 {args : List Value} {σ : AHeap} {Q : Value → AHeap → Prop} (hl : args.length ≤ 148) (h : CodeS E B (strip [16] (bodyOf Tryz.f7)) (L 148 (ofL args)) σ (outS E [.tmp 2] (downS Q))) : CallS E B 7 args σ Q :=
 S_callK hB [16] rfl rfl rfl (by kernel_rfl) rfl rfl (by kernel_rfl) hl h
theorem call20 {args : List Value} {σ : AHeap} {Q : Value → AHeap → Prop} (hl : args.length ≤ 113) (h : CodeS E B (strip [] (bodyOf Tryz.f20)) (L 113 (ofL args)) σ (outS E [.tmp 2] (downS Q))) : CallS E B 20 args σ Q :=
 S_callK hB [] rfl rfl rfl (by kernel_rfl) rfl rfl (by kernel_rfl) hl h
theorem call29 {args : List Value} {σ : AHeap} {Q : Value → AHeap → Prop} (hl : args.length ≤ 27) (h : CodeS E B (strip [] (bodyOf Tryz.f29)) (L 27 (ofL args)) σ (outS E [.tmp 2] (downS Q))) : CallS E B 29 args σ Q :=
 S_callK hB [] rfl rfl rfl (by kernel_rfl) rfl rfl (by kernel_rfl) hl h
theorem call31 {args : List Value} {σ : AHeap} {Q : Value → AHeap → Prop} (hl : args.length ≤ 37) (h : CodeS E B (strip [] (bodyOf Tryz.f31)) (L 37 (ofL args)) σ (outS E [.tmp 4] (downS Q))) : CallS E B 31 args σ Q :=
 S_callK hB [] rfl rfl rfl (by kernel_rfl) rfl rfl (by kernel_rfl) hl h
theorem call33 {args : List Value} {σ : AHeap} {Q : Value → AHeap → Prop} (hl : args.length ≤ 13) (h : CodeS E B (strip [] (bodyOf Tryz.f33)) (L 13 (ofL args)) σ (outS E [] (downS Q))) : CallS E B 33 args σ Q :=
 S_callK hB [] rfl rfl rfl (by kernel_rfl) rfl rfl (by kernel_rfl) hl h
theorem call34 {args : List Value} {σ : AHeap} {Q : Value → AHeap → Prop} (hl : args.length ≤ 22) (h : CodeS E B (strip [2] (bodyOf Tryz.f34)) (L 22 (ofL args)) σ (outS E [] (downS Q))) : CallS E B 34 args σ Q :=
 S_callK hB [2] rfl rfl rfl (by kernel_rfl) rfl rfl (by kernel_rfl) hl h
theorem call35 {args : List Value} {σ : AHeap} {Q : Value → AHeap → Prop} (hl : args.length ≤ 11) (h : CodeS E B (strip [] (bodyOf Tryz.f35)) (L 11 (ofL args)) σ (outS E [] (downS Q))) : CallS E B 35 args σ Q :=
 S_callK hB [] rfl rfl rfl (by kernel_rfl) rfl rfl (by kernel_rfl) hl h
theorem call36 {args : List Value} {σ : AHeap} {Q : Value → AHeap → Prop} (hl : args.length ≤ 48) (h : CodeS E B (strip [4,10] (bodyOf Tryz.f36)) (L 48 (ofL args)) σ (outS E [.cell 2 54,.tmp 3,.tmp 4] (downS Q))) : CallS E B 36 args σ Q :=
 S_callK hB [4,10] rfl rfl rfl (by kernel_rfl) rfl rfl (by kernel_rfl) hl h
theorem call37 {args : List Value} {σ : AHeap} {Q : Value → AHeap → Prop} (hl : args.length ≤ 34) (h : CodeS E B (strip [] (bodyOf Tryz.f37)) (L 34 (ofL args)) σ (outS E [.tmp 4] (downS Q))) : CallS E B 37 args σ Q :=
 S_callK hB [] rfl rfl rfl (by kernel_rfl) rfl rfl (by kernel_rfl) hl h
theorem call38 {args : List Value} {σ : AHeap} {Q : Value → AHeap → Prop} (hl : args.length ≤ 24) (h : CodeS E B (strip [3] (bodyOf Tryz.f38)) (L 24 (ofL args)) σ (outS E [.tmp 6] (downS Q))) : CallS E B 38 args σ Q :=
 S_callK hB [3] rfl rfl rfl (by kernel_rfl) rfl rfl (by kernel_rfl) hl h
theorem call39 {args : List Value} {σ : AHeap} {Q : Value → AHeap → Prop} (hl : args.length ≤ 24) (h : CodeS E B (strip [] (bodyOf Tryz.f39)) (L 24 (ofL args)) σ (outS E [.tmp 2] (downS Q))) : CallS E B 39 args σ Q :=
 S_callK hB [] rfl rfl rfl (by kernel_rfl) rfl rfl (by kernel_rfl) hl h
theorem call40 {args : List Value} {σ : AHeap} {Q : Value → AHeap → Prop} (hl : args.length ≤ 24) (h : CodeS E B (strip [] (bodyOf Tryz.f40)) (L 24 (ofL args)) σ (outS E [.tmp 2] (downS Q))) : CallS E B 40 args σ Q :=
 S_callK hB [] rfl rfl rfl (by kernel_rfl) rfl rfl (by kernel_rfl) hl h
theorem call41 {args : List Value} {σ : AHeap} {Q : Value → AHeap → Prop} (hl : args.length ≤ 18) (h : CodeS E B (strip [] (bodyOf Tryz.f41)) (L 18 (ofL args)) σ (outS E [.tmp 2] (downS Q))) : CallS E B 41 args σ Q :=
 S_callK hB [] rfl rfl rfl (by kernel_rfl) rfl rfl (by kernel_rfl) hl h
theorem call42 {args : List Value} {σ : AHeap} {Q : Value → AHeap → Prop} (hl : args.length ≤ 25) (h : CodeS E B (strip [] (bodyOf Tryz.f42)) (L 25 (ofL args)) σ (outS E [.tmp 4] (downS Q))) : CallS E B 42 args σ Q :=
 S_callK hB [] rfl rfl rfl (by kernel_rfl) rfl rfl (by kernel_rfl) hl h
theorem call43 {args : List Value} {σ : AHeap} {Q : Value → AHeap → Prop} (hl : args.length ≤ 9) (h : CodeS E B (strip [] (bodyOf Tryz.f43)) (L 9 (ofL args)) σ (outS E [.tmp 2] (downS Q))) : CallS E B 43 args σ Q :=
 S_callK hB [] rfl rfl rfl (by kernel_rfl) rfl rfl (by kernel_rfl) hl h
theorem call44 {args : List Value} {σ : AHeap} {Q : Value → AHeap → Prop} (hl : args.length ≤ 34) (h : CodeS E B (strip [1] (bodyOf Tryz.f44)) (L 34 (ofL args)) σ (outS E [.tmp 4] (downS Q))) : CallS E B 44 args σ Q :=
 S_callK hB [1] rfl rfl rfl (by kernel_rfl) rfl rfl (by kernel_rfl) hl h
theorem call45 {args : List Value} {σ : AHeap} {Q : Value → AHeap → Prop} (hl : args.length ≤ 12) (h : CodeS E B (strip [] (bodyOf Tryz.f45)) (L 12 (ofL args)) σ (outS E [.tmp 2] (downS Q))) : CallS E B 45 args σ Q :=
 S_callK hB [] rfl rfl rfl (by kernel_rfl) rfl rfl (by kernel_rfl) hl h
theorem call46 {args : List Value} {σ : AHeap} {Q : Value → AHeap → Prop} (hl : args.length ≤ 9) (h : CodeS E B (strip [] (bodyOf Tryz.f46)) (L 9 (ofL args)) σ (outS E [.tmp 2] (downS Q))) : CallS E B 46 args σ Q :=
 S_callK hB [] rfl rfl rfl (by kernel_rfl) rfl rfl (by kernel_rfl) hl h
theorem call47 {args : List Value} {σ : AHeap} {Q : Value → AHeap → Prop} (hl : args.length ≤ 10) (h : CodeS E B (strip [] (bodyOf Tryz.f47)) (L 10 (ofL args)) σ (outS E [.cell 2 70] (downS Q))) : CallS E B 47 args σ Q :=
 S_callK hB [] rfl rfl rfl (by kernel_rfl) rfl rfl (by kernel_rfl) hl h
theorem call48 {args : List Value} {σ : AHeap} {Q : Value → AHeap → Prop} (hl : args.length ≤ 22) (h : CodeS E B (strip [4] (bodyOf Tryz.f48)) (L 22 (ofL args)) σ (outS E [.tmp 4,.tmp 5] (downS Q))) : CallS E B 48 args σ Q :=
 S_callK hB [4] rfl rfl rfl (by kernel_rfl) rfl rfl (by kernel_rfl) hl h
theorem call49 {args : List Value} {σ : AHeap} {Q : Value → AHeap → Prop} (hl : args.length ≤ 81) (h : CodeS E B (strip [] (bodyOf Tryz.f49)) (L 81 (ofL args)) σ (outS E [.tmp 6,.cell 7 43] (downS Q))) : CallS E B 49 args σ Q :=
 S_callK hB [] rfl rfl rfl (by kernel_rfl) rfl rfl (by kernel_rfl) hl h
theorem call50 {args : List Value} {σ : AHeap} {Q : Value → AHeap → Prop} (hl : args.length ≤ 20) (h : CodeS E B (strip [] (bodyOf Tryz.f50)) (L 20 (ofL args)) σ (outS E [.tmp 6] (downS Q))) : CallS E B 50 args σ Q :=
 S_callK hB [] rfl rfl rfl (by kernel_rfl) rfl rfl (by kernel_rfl) hl h
theorem call51 {args : List Value} {σ : AHeap} {Q : Value → AHeap → Prop} (hl : args.length ≤ 29) (h : CodeS E B (strip [1] (bodyOf Tryz.f51)) (L 29 (ofL args)) σ (outS E [.tmp 4] (downS Q))) : CallS E B 51 args σ Q :=
 S_callK hB [1] rfl rfl rfl (by kernel_rfl) rfl rfl (by kernel_rfl) hl h
theorem call54 {args : List Value} {σ : AHeap} {Q : Value → AHeap → Prop} (hl : args.length ≤ 33) (h : CodeS E B (strip [] (bodyOf Tryz.f54)) (L 33 (ofL args)) σ (outS E [.tmp 2] (downS Q))) : CallS E B 54 args σ Q :=
 S_callK hB [] rfl rfl rfl (by kernel_rfl) rfl rfl (by kernel_rfl) hl h
theorem call67 {args : List Value} {σ : AHeap} {Q : Value → AHeap → Prop} (hl : args.length ≤ 15) (h : CodeS E B (strip [] (bodyOf Tryz.f67)) (L 15 (ofL args)) σ (outS E [.tmp 6] (downS Q))) : CallS E B 67 args σ Q :=
 S_callK hB [] rfl rfl rfl (by kernel_rfl) rfl rfl (by kernel_rfl) hl h
theorem call74 {args : List Value} {σ : AHeap} {Q : Value → AHeap → Prop} (hl : args.length ≤ 13) (h : CodeS E B (strip [] (bodyOf Tryz.f74)) (L 13 (ofL args)) σ (outS E [.tmp 2] (downS Q))) : CallS E B 74 args σ Q :=
 S_callK hB [] rfl rfl rfl (by kernel_rfl) rfl rfl (by kernel_rfl) hl h
theorem call75 {args : List Value} {σ : AHeap} {Q : Value → AHeap → Prop} (hl : args.length ≤ 15) (h : CodeS E B (strip [] (bodyOf Tryz.f75)) (L 15 (ofL args)) σ (outS E [.tmp 2] (downS Q))) : CallS E B 75 args σ Q :=
 S_callK hB [] rfl rfl rfl (by kernel_rfl) rfl rfl (by kernel_rfl) hl h
theorem call98 {args : List Value} {σ : AHeap} {Q : Value → AHeap → Prop} (hl : args.length ≤ 12) (h : CodeS E B (strip [] (bodyOf Tryz.f98)) (L 12 (ofL args)) σ (outS E [.tmp 2] (downS Q))) : CallS E B 98 args σ Q :=
 S_callK hB [] rfl rfl rfl (by kernel_rfl) rfl rfl (by kernel_rfl) hl h
theorem call104 {args : List Value} {σ : AHeap} {Q : Value → AHeap → Prop} (hl : args.length ≤ 41) (h : CodeS E B (strip [] (bodyOf Tryz.f104)) (L 41 (ofL args)) σ (outS E [.tmp 6,.tmp 7] (downS Q))) : CallS E B 104 args σ Q :=
 S_callK hB [] rfl rfl rfl (by kernel_rfl) rfl rfl (by kernel_rfl) hl h
theorem call105 {args : List Value} {σ : AHeap} {Q : Value → AHeap → Prop} (hl : args.length ≤ 20) (h : CodeS E B (strip [] (bodyOf Tryz.f105)) (L 20 (ofL args)) σ (outS E [.tmp 6] (downS Q))) : CallS E B 105 args σ Q :=
 S_callK hB [] rfl rfl rfl (by kernel_rfl) rfl rfl (by kernel_rfl) hl h
theorem call106 {args : List Value} {σ : AHeap} {Q : Value → AHeap → Prop} (hl : args.length ≤ 25) (h : CodeS E B (strip [] (bodyOf Tryz.f106)) (L 25 (ofL args)) σ (outS E [.cell 4 158,.tmp 5] (downS Q))) : CallS E B 106 args σ Q :=
 S_callK hB [] rfl rfl rfl (by kernel_rfl) rfl rfl (by kernel_rfl) hl h
theorem call164 {args : List Value} {σ : AHeap} {Q : Value → AHeap → Prop} (hl : args.length ≤ 26) (h : CodeS E B (strip [] (bodyOf Tryz.f164)) (L 26 (ofL args)) σ (outS E [.tmp 4] (downS Q))) : CallS E B 164 args σ Q :=
 S_callK hB [] rfl rfl rfl (by kernel_rfl) rfl rfl (by kernel_rfl) hl h
theorem call165 {args : List Value} {σ : AHeap} {Q : Value → AHeap → Prop} (hl : args.length ≤ 17) (h : CodeS E B (strip [] (bodyOf Tryz.f165)) (L 17 (ofL args)) σ (outS E [.cell 4 158,.tmp 5] (downS Q))) : CallS E B 165 args σ Q :=
 S_callK hB [] rfl rfl rfl (by kernel_rfl) rfl rfl (by kernel_rfl) hl h
theorem call233 {args : List Value} {σ : AHeap} {Q : Value → AHeap → Prop} (hl : args.length ≤ 19) (h : CodeS E B (strip [] (bodyOf Tryz.f233)) (L 19 (ofL args)) σ (outS E [.tmp 4] (downS Q))) : CallS E B 233 args σ Q :=
 S_callK hB [] rfl rfl rfl (by kernel_rfl) rfl rfl (by kernel_rfl) hl h
theorem call234 {args : List Value} {σ : AHeap} {Q : Value → AHeap → Prop} (hl : args.length ≤ 8) (h : CodeS E B (strip [] (bodyOf Tryz.f234)) (L 8 (ofL args)) σ (outS E [.tmp 3] (downS Q))) : CallS E B 234 args σ Q :=
 S_callK hB [] rfl rfl rfl (by kernel_rfl) rfl rfl (by kernel_rfl) hl h
end Go.Proofs.YtkhcbbpfchgemaaGreatDoor.AbsA
