/-
  A part of a law's proof.
-/
import Derived.Test.YtjkhhdknplelcaaGreatDoorAEnvC
namespace Go.Proofs.YtjkhhdknplelcaaGreatDoor.AbsA
open Go AbsYtjkhhdknplelcaaGreatDoor Abs
set_option maxRecDepth 100000
set_option maxHeartbeats 4000000
theorem call6 {args : List Value} {σ : AHeap} {Q : Value → AHeap → Prop} (hl : args.length ≤ 32) (h : CodeS E B (strip [] (bodyOf Tryz.f6)) (L 32 (ofL args)) σ (outS E [.tmp 2] (downS Q))) : CallS E B 6 args σ Q :=
 S_callK hB [] rfl rfl rfl (by kernel_rfl) rfl rfl (by kernel_rfl) hl h
theorem call11 {args : List Value} {σ : AHeap} {Q : Value → AHeap → Prop} (hl : args.length ≤ 113) (h : CodeS E B (strip [] (bodyOf Tryz.f11)) (L 113 (ofL args)) σ (outS E [.tmp 2] (downS Q))) : CallS E B 11 args σ Q :=
 S_callK hB [] rfl rfl rfl (by kernel_rfl) rfl rfl (by kernel_rfl) hl h
theorem call20 {args : List Value} {σ : AHeap} {Q : Value → AHeap → Prop} (hl : args.length ≤ 95) (h : CodeS E B (strip [] (bodyOf Tryz.f20)) (L 95 (ofL args)) σ (outS E [.cell 2 33,.tmp 3] (downS Q))) : CallS E B 20 args σ Q :=
 S_callK hB [] rfl rfl rfl (by kernel_rfl) rfl rfl (by kernel_rfl) hl h
theorem call21 {args : List Value} {σ : AHeap} {Q : Value → AHeap → Prop} (hl : args.length ≤ 37) (h : CodeS E B (strip [] (bodyOf Tryz.f21)) (L 37 (ofL args)) σ (outS E [.cell 2 29,.tmp 3] (downS Q))) : CallS E B 21 args σ Q :=
 S_callK hB [] rfl rfl rfl (by kernel_rfl) rfl rfl (by kernel_rfl) hl h
theorem call23 {args : List Value} {σ : AHeap} {Q : Value → AHeap → Prop} (hl : args.length ≤ 137) (h : CodeS E B (strip [5,10,28,31] (bodyOf Tryz.f23)) (L 137 (ofL args)) σ (outS E [.cell 2 33,.cell 3 40] (downS Q))) : CallS E B 23 args σ Q :=
 S_callK hB [5,10,28,31] rfl rfl rfl (by kernel_rfl) rfl rfl (by kernel_rfl) hl h
theorem call24 {args : List Value} {σ : AHeap} {Q : Value → AHeap → Prop} (hl : args.length ≤ 29) (h : CodeS E B (strip [1] (bodyOf Tryz.f24)) (L 29 (ofL args)) σ (outS E [.tmp 4] (downS Q))) : CallS E B 24 args σ Q :=
 S_callK hB [1] rfl rfl rfl (by kernel_rfl) rfl rfl (by kernel_rfl) hl h
theorem call37 {args : List Value} {σ : AHeap} {Q : Value → AHeap → Prop} (hl : args.length ≤ 33) (h : CodeS E B (strip [] (bodyOf Tryz.f37)) (L 33 (ofL args)) σ (outS E [.tmp 2] (downS Q))) : CallS E B 37 args σ Q :=
 S_callK hB [] rfl rfl rfl (by kernel_rfl) rfl rfl (by kernel_rfl) hl h
theorem call38 {args : List Value} {σ : AHeap} {Q : Value → AHeap → Prop} (hl : args.length ≤ 27) (h : CodeS E B (strip [] (bodyOf Tryz.f38)) (L 27 (ofL args)) σ (outS E [.tmp 2] (downS Q))) : CallS E B 38 args σ Q :=
 S_callK hB [] rfl rfl rfl (by kernel_rfl) rfl rfl (by kernel_rfl) hl h
theorem call39 {args : List Value} {σ : AHeap} {Q : Value → AHeap → Prop} (hl : args.length ≤ 15) (h : CodeS E B (strip [] (bodyOf Tryz.f39)) (L 15 (ofL args)) σ (outS E [.tmp 2] (downS Q))) : CallS E B 39 args σ Q :=
 S_callK hB [] rfl rfl rfl (by kernel_rfl) rfl rfl (by kernel_rfl) hl h
theorem call40 {args : List Value} {σ : AHeap} {Q : Value → AHeap → Prop} (hl : args.length ≤ 15) (h : CodeS E B (strip [] (bodyOf Tryz.f40)) (L 15 (ofL args)) σ (outS E [.tmp 6] (downS Q))) : CallS E B 40 args σ Q :=
 S_callK hB [] rfl rfl rfl (by kernel_rfl) rfl rfl (by kernel_rfl) hl h
theorem wcall40 {args : List Value} {H : AHeap} {Q : Value → AHeap → Prop} (hl : args.length ≤ 15) (h : CodeW E (strip [] (bodyOf Tryz.f40)) (L 15 (ofL args))  H (retQ E [.tmp 6] Q)) : CallW E 40 args H Q :=
 W_callK [] rfl rfl rfl (by kernel_rfl) rfl rfl (by kernel_rfl) hl h
theorem call41 {args : List Value} {σ : AHeap} {Q : Value → AHeap → Prop} (hl : args.length ≤ 52) (h : CodeS E B (strip [] (bodyOf Tryz.f41)) (L 52 (ofL args)) σ (outS E [.tmp 4,.tmp 5] (downS Q))) : CallS E B 41 args σ Q :=
 S_callK hB [] rfl rfl rfl (by kernel_rfl) rfl rfl (by kernel_rfl) hl h
theorem call42 {args : List Value} {σ : AHeap} {Q : Value → AHeap → Prop} (hl : args.length ≤ 24) (h : CodeS E B (strip [] (bodyOf Tryz.f42)) (L 24 (ofL args)) σ (outS E [] (downS Q))) : CallS E B 42 args σ Q :=
 S_callK hB [] rfl rfl rfl (by kernel_rfl) rfl rfl (by kernel_rfl) hl h
theorem call43 {args : List Value} {σ : AHeap} {Q : Value → AHeap → Prop} (hl : args.length ≤ 7) (h : CodeS E B (strip [] (bodyOf Tryz.f43)) (L 7 (ofL args)) σ (outS E [] (downS Q))) : CallS E B 43 args σ Q :=
 S_callK hB [] rfl rfl rfl (by kernel_rfl) rfl rfl (by kernel_rfl) hl h
theorem call44 {args : List Value} {σ : AHeap} {Q : Value → AHeap → Prop} (hl : args.length ≤ 16) (h : CodeS E B (strip [] (bodyOf Tryz.f44)) (L 16 (ofL args)) σ (outS E [] (downS Q))) : CallS E B 44 args σ Q :=
 S_callK hB [] rfl rfl rfl (by kernel_rfl) rfl rfl (by kernel_rfl) hl h
theorem call45 {args : List Value} {σ : AHeap} {Q : Value → AHeap → Prop} (hl : args.length ≤ 20) (h : CodeS E B (strip [] (bodyOf Tryz.f45)) (L 20 (ofL args)) σ (outS E [.tmp 2,.tmp 3] (downS Q))) : CallS E B 45 args σ Q :=
 S_callK hB [] rfl rfl rfl (by kernel_rfl) rfl rfl (by kernel_rfl) hl h
theorem call46 {args : List Value} {σ : AHeap} {Q : Value → AHeap → Prop} (hl : args.length ≤ 5) (h : CodeS E B (strip [] (bodyOf Tryz.f46)) (L 5 (ofL args)) σ (outS E [.cell 2 40] (downS Q))) : CallS E B 46 args σ Q :=
 S_callK hB [] rfl rfl rfl (by kernel_rfl) rfl rfl (by kernel_rfl) hl h
theorem call47 {args : List Value} {σ : AHeap} {Q : Value → AHeap → Prop} (hl : args.length ≤ 92) (h : CodeS E B (strip [21] (bodyOf Tryz.f47)) (L 92 (ofL args)) σ (outS E [.tmp 4,.cell 5 40] (downS Q))) : CallS E B 47 args σ Q :=
 S_callK hB [21] rfl rfl rfl (by kernel_rfl) rfl rfl (by kernel_rfl) hl h
theorem call48 {args : List Value} {σ : AHeap} {Q : Value → AHeap → Prop} (hl : args.length ≤ 135) (h : CodeS E B (strip [9,19,23] (bodyOf Tryz.f48)) (L 135 (ofL args)) σ (outS E [] (downS Q))) : CallS E B 48 args σ Q :=
 S_callK hB [9,19,23] rfl rfl rfl (by kernel_rfl) rfl rfl (by kernel_rfl) hl h
theorem call49 {args : List Value} {σ : AHeap} {Q : Value → AHeap → Prop} (hl : args.length ≤ 28) (h : CodeS E B (strip [2] (bodyOf Tryz.f49)) (L 28 (ofL args)) σ (outS E [.cell 4 33,.cell 5 40] (downS Q))) : CallS E B 49 args σ Q :=
 S_callK hB [2] rfl rfl rfl (by kernel_rfl) rfl rfl (by kernel_rfl) hl h
theorem call51 {args : List Value} {σ : AHeap} {Q : Value → AHeap → Prop} (hl : args.length ≤ 13) (h : CodeS E B (strip [] (bodyOf Tryz.f51)) (L 13 (ofL args)) σ (outS E [.tmp 2] (downS Q))) : CallS E B 51 args σ Q :=
 S_callK hB [] rfl rfl rfl (by kernel_rfl) rfl rfl (by kernel_rfl) hl h
theorem call52 {args : List Value} {σ : AHeap} {Q : Value → AHeap → Prop} (hl : args.length ≤ 6) (h : CodeS E B (strip [] (bodyOf Tryz.f52)) (L 6 (ofL args)) σ (outS E [.tmp 2] (downS Q))) : CallS E B 52 args σ Q :=
 S_callK hB [] rfl rfl rfl (by kernel_rfl) rfl rfl (by kernel_rfl) hl h
theorem call53 {args : List Value} {σ : AHeap} {Q : Value → AHeap → Prop} (hl : args.length ≤ 27) (h : CodeS E B (strip [] (bodyOf Tryz.f53)) (L 27 (ofL args)) σ (outS E [.tmp 2] (downS Q))) : CallS E B 53 args σ Q :=
 S_callK hB [] rfl rfl rfl (by kernel_rfl) rfl rfl (by kernel_rfl) hl h
theorem call54 {args : List Value} {σ : AHeap} {Q : Value → AHeap → Prop} (hl : args.length ≤ 9) (h : CodeS E B (strip [] (bodyOf Tryz.f54)) (L 9 (ofL args)) σ (outS E [.tmp 2] (downS Q))) : CallS E B 54 args σ Q :=
 S_callK hB [] rfl rfl rfl (by kernel_rfl) rfl rfl (by kernel_rfl) hl h
theorem call55 {args : List Value} {σ : AHeap} {Q : Value → AHeap → Prop} (hl : args.length ≤ 5) (h : CodeS E B (strip [] (bodyOf Tryz.f55)) (L 5 (ofL args)) σ (outS E [.tmp 2] (downS Q))) : CallS E B 55 args σ Q :=
 S_callK hB [] rfl rfl rfl (by kernel_rfl) rfl rfl (by kernel_rfl) hl h
theorem call56 {args : List Value} {σ : AHeap} {Q : Value → AHeap → Prop} (hl : args.length ≤ 9) (h : CodeS E B (strip [] (bodyOf Tryz.f56)) (L 9 (ofL args)) σ (outS E [.tmp 2] (downS Q))) : CallS E B 56 args σ Q :=
 S_callK hB [] rfl rfl rfl (by kernel_rfl) rfl rfl (by kernel_rfl) hl h
theorem call57 {args : List Value} {σ : AHeap} {Q : Value → AHeap → Prop} (hl : args.length ≤ 49) (h : CodeS E B (strip [] (bodyOf Tryz.f57)) (L 49 (ofL args)) σ (outS E [.tmp 4,.tmp 5] (downS Q))) : CallS E B 57 args σ Q :=
 S_callK hB [] rfl rfl rfl (by kernel_rfl) rfl rfl (by kernel_rfl) hl h
theorem call65 {args : List Value} {σ : AHeap} {Q : Value → AHeap → Prop} (hl : args.length ≤ 34) (h : CodeS E B (strip [] (bodyOf Tryz.f65)) (L 34 (ofL args)) σ (outS E [.tmp 2,.tmp 3,.tmp 4] (downS Q))) : CallS E B 65 args σ Q :=
 S_callK hB [] rfl rfl rfl (by kernel_rfl) rfl rfl (by kernel_rfl) hl h
theorem call66 {args : List Value} {σ : AHeap} {Q : Value → AHeap → Prop} (hl : args.length ≤ 7) (h : CodeS E B (strip [] (bodyOf Tryz.f66)) (L 7 (ofL args)) σ (outS E [] (downS Q))) : CallS E B 66 args σ Q :=
 S_callK hB [] rfl rfl rfl (by kernel_rfl) rfl rfl (by kernel_rfl) hl h
theorem call67 {args : List Value} {σ : AHeap} {Q : Value → AHeap → Prop} (hl : args.length ≤ 31) (h : CodeS E B (strip [1,3] (bodyOf Tryz.f67)) (L 31 (ofL args)) σ (outS E [.tmp 2] (downS Q))) : CallS E B 67 args σ Q :=
 S_callK hB [1,3] rfl rfl rfl (by kernel_rfl) rfl rfl (by kernel_rfl) hl h
theorem call68 {args : List Value} {σ : AHeap} {Q : Value → AHeap → Prop} (hl : args.length ≤ 19) (h : CodeS E B (strip [] (bodyOf Tryz.f68)) (L 19 (ofL args)) σ (outS E [] (downS Q))) : CallS E B 68 args σ Q :=
 S_callK hB [] rfl rfl rfl (by kernel_rfl) rfl rfl (by kernel_rfl) hl h
theorem call69 {args : List Value} {σ : AHeap} {Q : Value → AHeap → Prop} (hl : args.length ≤ 11) (h : CodeS E B (strip [] (bodyOf Tryz.f69)) (L 11 (ofL args)) σ (outS E [] (downS Q))) : CallS E B 69 args σ Q :=
 S_callK hB [] rfl rfl rfl (by kernel_rfl) rfl rfl (by kernel_rfl) hl h
theorem call70 {args : List Value} {σ : AHeap} {Q : Value → AHeap → Prop} (hl : args.length ≤ 61) (h : CodeS E B (strip [] (bodyOf Tryz.f70)) (L 61 (ofL args)) σ (outS E [.tmp 2,.tmp 3] (downS Q))) : CallS E B 70 args σ Q :=
 S_callK hB [] rfl rfl rfl (by kernel_rfl) rfl rfl (by kernel_rfl) hl h
theorem call71 {args : List Value} {σ : AHeap} {Q : Value → AHeap → Prop} (hl : args.length ≤ 76) (h : CodeS E B (strip [17] (bodyOf Tryz.f71)) (L 76 (ofL args)) σ (outS E [.cell 4 29,.tmp 5] (downS Q))) : CallS E B 71 args σ Q :=
 S_callK hB [17] rfl rfl rfl (by kernel_rfl) rfl rfl (by kernel_rfl) hl h
theorem call72 {args : List Value} {σ : AHeap} {Q : Value → AHeap → Prop} (hl : args.length ≤ 31) (h : CodeS E B (strip [1,3] (bodyOf Tryz.f72)) (L 31 (ofL args)) σ (outS E [.tmp 2] (downS Q))) : CallS E B 72 args σ Q :=
 S_callK hB [1,3] rfl rfl rfl (by kernel_rfl) rfl rfl (by kernel_rfl) hl h
theorem call73 {args : List Value} {σ : AHeap} {Q : Value → AHeap → Prop} (hl : args.length ≤ 111) (h : CodeS E B (strip [6,11,17,26] (bodyOf Tryz.f73)) (L 111 (ofL args)) σ (outS E [.cell 2 29,.cell 3 40] (downS Q))) : CallS E B 73 args σ Q :=
 S_callK hB [6,11,17,26] rfl rfl rfl (by kernel_rfl) rfl rfl (by kernel_rfl) hl h
theorem call75 {args : List Value} {σ : AHeap} {Q : Value → AHeap → Prop} (hl : args.length ≤ 5) (h : CodeS E B (strip [] (bodyOf Tryz.f75)) (L 5 (ofL args)) σ (outS E [.tmp 2] (downS Q))) : CallS E B 75 args σ Q :=
 S_callK hB [] rfl rfl rfl (by kernel_rfl) rfl rfl (by kernel_rfl) hl h
theorem call77 {args : List Value} {σ : AHeap} {Q : Value → AHeap → Prop} (hl : args.length ≤ 19) (h : CodeS E B (strip [] (bodyOf Tryz.f77)) (L 19 (ofL args)) σ (outS E [.tmp 2] (downS Q))) : CallS E B 77 args σ Q :=
 S_callK hB [] rfl rfl rfl (by kernel_rfl) rfl rfl (by kernel_rfl) hl h
theorem call86 {args : List Value} {σ : AHeap} {Q : Value → AHeap → Prop} (hl : args.length ≤ 34) (h : CodeS E B (strip [] (bodyOf Tryz.f86)) (L 34 (ofL args)) σ (outS E [.tmp 4] (downS Q))) : CallS E B 86 args σ Q :=
 S_callK hB [] rfl rfl rfl (by kernel_rfl) rfl rfl (by kernel_rfl) hl h
theorem call87 {args : List Value} {σ : AHeap} {Q : Value → AHeap → Prop} (hl : args.length ≤ 57) (h : CodeS E B (strip [] (bodyOf Tryz.f87)) (L 57 (ofL args)) σ (outS E [] (downS Q))) : CallS E B 87 args σ Q :=
 S_callK hB [] rfl rfl rfl (by kernel_rfl) rfl rfl (by kernel_rfl) hl h
theorem call88 {args : List Value} {σ : AHeap} {Q : Value → AHeap → Prop} (hl : args.length ≤ 33) (h : CodeS E B (strip [] (bodyOf Tryz.f88)) (L 33 (ofL args)) σ (outS E [] (downS Q))) : CallS E B 88 args σ Q :=
 S_callK hB [] rfl rfl rfl (by kernel_rfl) rfl rfl (by kernel_rfl) hl h
theorem call89 {args : List Value} {σ : AHeap} {Q : Value → AHeap → Prop} (hl : args.length ≤ 12) (h : CodeS E B (strip [] (bodyOf Tryz.f89)) (L 12 (ofL args)) σ (outS E [.tmp 2] (downS Q))) : CallS E B 89 args σ Q :=
 S_callK hB [] rfl rfl rfl (by kernel_rfl) rfl rfl (by kernel_rfl) hl h
theorem wcall90 {args : List Value} {H : AHeap} {Q : Value → AHeap → Prop} (hl : args.length ≤ 11) (h : CodeW E (strip [] (bodyOf Tryz.f90)) (L 11 (ofL args))  H (retQ E [.tmp 2] Q)) : CallW E 90 args H Q :=
 W_callK [] rfl rfl rfl (by kernel_rfl) rfl rfl (by kernel_rfl) hl h
theorem call91 {args : List Value} {σ : AHeap} {Q : Value → AHeap → Prop} (hl : args.length ≤ 8) (h : CodeS E B (strip [] (bodyOf Tryz.f91)) (L 8 (ofL args)) σ (outS E [] (downS Q))) : CallS E B 91 args σ Q :=
 S_callK hB [] rfl rfl rfl (by kernel_rfl) rfl rfl (by kernel_rfl) hl h
theorem call92 {args : List Value} {σ : AHeap} {Q : Value → AHeap → Prop} (hl : args.length ≤ 17) (h : CodeS E B (strip [] (bodyOf Tryz.f92)) (L 17 (ofL args)) σ (outS E [.tmp 4] (downS Q))) : CallS E B 92 args σ Q :=
 S_callK hB [] rfl rfl rfl (by kernel_rfl) rfl rfl (by kernel_rfl) hl h
theorem call93 {args : List Value} {σ : AHeap} {Q : Value → AHeap → Prop} (hl : args.length ≤ 69) (h : CodeS E B (strip [] (bodyOf Tryz.f93)) (L 69 (ofL args)) σ (outS E [] (downS Q))) : CallS E B 93 args σ Q :=
 S_callK hB [] rfl rfl rfl (by kernel_rfl) rfl rfl (by kernel_rfl) hl h
theorem call94 {args : List Value} {σ : AHeap} {Q : Value → AHeap → Prop} (hl : args.length ≤ 9) (h : CodeS E B (strip [] (bodyOf Tryz.f94)) (L 9 (ofL args)) σ (outS E [.tmp 2] (downS Q))) : CallS E B 94 args σ Q :=
 S_callK hB [] rfl rfl rfl (by kernel_rfl) rfl rfl (by kernel_rfl) hl h
theorem call95 {args : List Value} {σ : AHeap} {Q : Value → AHeap → Prop} (hl : args.length ≤ 45) (h : CodeS E B (strip [] (bodyOf Tryz.f95)) (L 45 (ofL args)) σ (outS E [.cell 4 40] (downS Q))) : CallS E B 95 args σ Q :=
 S_callK hB [] rfl rfl rfl (by kernel_rfl) rfl rfl (by kernel_rfl) hl h
theorem call96 {args : List Value} {σ : AHeap} {Q : Value → AHeap → Prop} (hl : args.length ≤ 38) (h : CodeS E B (strip [] (bodyOf Tryz.f96)) (L 38 (ofL args)) σ (outS E [.tmp 2] (downS Q))) : CallS E B 96 args σ Q :=
 S_callK hB [] rfl rfl rfl (by kernel_rfl) rfl rfl (by kernel_rfl) hl h
theorem call97 {args : List Value} {σ : AHeap} {Q : Value → AHeap → Prop} (hl : args.length ≤ 11) (h : CodeS E B (strip [] (bodyOf Tryz.f97)) (L 11 (ofL args)) σ (outS E [.tmp 2] (downS Q))) : CallS E B 97 args σ Q :=
 S_callK hB [] rfl rfl rfl (by kernel_rfl) rfl rfl (by kernel_rfl) hl h
theorem call98 {args : List Value} {σ : AHeap} {Q : Value → AHeap → Prop} (hl : args.length ≤ 14) (h : CodeS E B (strip [] (bodyOf Tryz.f98)) (L 14 (ofL args)) σ (outS E [] (downS Q))) : CallS E B 98 args σ Q :=
 S_callK hB [] rfl rfl rfl (by kernel_rfl) rfl rfl (by kernel_rfl) hl h
theorem call99 {args : List Value} {σ : AHeap} {Q : Value → AHeap → Prop} (hl : args.length ≤ 22) (h : CodeS E B (strip [] (bodyOf Tryz.f99)) (L 22 (ofL args)) σ (outS E [.tmp 4] (downS Q))) : CallS E B 99 args σ Q :=
 S_callK hB [] rfl rfl rfl (by kernel_rfl) rfl rfl (by kernel_rfl) hl h
theorem wcall100 {args : List Value} {H : AHeap} {Q : Value → AHeap → Prop} (hl : args.length ≤ 31) (h : CodeW E (strip [] (bodyOf Tryz.f100)) (L 31 (ofL args))  H (retQ E [.tmp 2,.tmp 3] Q)) : CallW E 100 args H Q :=
 W_callK [] rfl rfl rfl (by kernel_rfl) rfl rfl (by kernel_rfl) hl h
theorem wcall101 {args : List Value} {H : AHeap} {Q : Value → AHeap → Prop} (hl : args.length ≤ 15) (h : CodeW E (strip [] (bodyOf Tryz.f101)) (L 15 (ofL args))  H (retQ E [.tmp 2,.tmp 3] Q)) : CallW E 101 args H Q :=
 W_callK [] rfl rfl rfl (by kernel_rfl) rfl rfl (by kernel_rfl) hl h
theorem call102 {args : List Value} {σ : AHeap} {Q : Value → AHeap → Prop} (hl : args.length ≤ 8) (h : CodeS E B (strip [] (bodyOf Tryz.f102)) (L 8 (ofL args)) σ (outS E [.tmp 2] (downS Q))) : CallS E B 102 args σ Q :=
 S_callK hB [] rfl rfl rfl (by kernel_rfl) rfl rfl (by kernel_rfl) hl h
theorem call103 {args : List Value} {σ : AHeap} {Q : Value → AHeap → Prop} (hl : args.length ≤ 37) (h : CodeS E B (strip [] (bodyOf Tryz.f103)) (L 37 (ofL args)) σ (outS E [.tmp 2] (downS Q))) : CallS E B 103 args σ Q :=
 S_callK hB [] rfl rfl rfl (by kernel_rfl) rfl rfl (by kernel_rfl) hl h
theorem call104 {args : List Value} {σ : AHeap} {Q : Value → AHeap → Prop} (hl : args.length ≤ 5) (h : CodeS E B (strip [] (bodyOf Tryz.f104)) (L 5 (ofL args)) σ (outS E [.tmp 2] (downS Q))) : CallS E B 104 args σ Q :=
 S_callK hB [] rfl rfl rfl (by kernel_rfl) rfl rfl (by kernel_rfl) hl h
theorem call106 {args : List Value} {σ : AHeap} {Q : Value → AHeap → Prop} (hl : args.length ≤ 114) (h : CodeS E B (strip [] (bodyOf Tryz.f106)) (L 114 (ofL args)) σ (outS E [.tmp 4,.cell 5 40] (downS Q))) : CallS E B 106 args σ Q :=
 S_callK hB [] rfl rfl rfl (by kernel_rfl) rfl rfl (by kernel_rfl) hl h
theorem call108 {args : List Value} {σ : AHeap} {Q : Value → AHeap → Prop} (hl : args.length ≤ 15) (h : CodeS E B (strip [] (bodyOf Tryz.f108)) (L 15 (ofL args)) σ (outS E [.tmp 2] (downS Q))) : CallS E B 108 args σ Q :=
 S_callK hB [] rfl rfl rfl (by kernel_rfl) rfl rfl (by kernel_rfl) hl h
theorem call109 {args : List Value} {σ : AHeap} {Q : Value → AHeap → Prop} (hl : args.length ≤ 12) (h : CodeS E B (strip [] (bodyOf Tryz.f109)) (L 12 (ofL args)) σ (outS E [.tmp 2] (downS Q))) : CallS E B 109 args σ Q :=
 S_callK hB [] rfl rfl rfl (by kernel_rfl) rfl rfl (by kernel_rfl) hl h
theorem call110 {args : List Value} {σ : AHeap} {Q : Value → AHeap → Prop} (hl : args.length ≤ 17) (h : CodeS E B (strip [] (bodyOf Tryz.f110)) (L 17 (ofL args)) σ (outS E [] (downS Q))) : CallS E B 110 args σ Q :=
 S_callK hB [] rfl rfl rfl (by kernel_rfl) rfl rfl (by kernel_rfl) hl h
theorem call111 {args : List Value} {σ : AHeap} {Q : Value → AHeap → Prop} (hl : args.length ≤ 24) (h : CodeS E B (strip [] (bodyOf Tryz.f111)) (L 24 (ofL args)) σ (outS E [.tmp 4] (downS Q))) : CallS E B 111 args σ Q :=
 S_callK hB [] rfl rfl rfl (by kernel_rfl) rfl rfl (by kernel_rfl) hl h
theorem call112 {args : List Value} {σ : AHeap} {Q : Value → AHeap → Prop} (hl : args.length ≤ 68) (h : CodeS E B (strip [] (bodyOf Tryz.f112)) (L 68 (ofL args)) σ (outS E [.tmp 4] (downS Q))) : CallS E B 112 args σ Q :=
 S_callK hB [] rfl rfl rfl (by kernel_rfl) rfl rfl (by kernel_rfl) hl h
theorem call113 {args : List Value} {σ : AHeap} {Q : Value → AHeap → Prop} (hl : args.length ≤ 42) (h : CodeS E B (strip [] (bodyOf Tryz.f113)) (L 42 (ofL args)) σ (outS E [.tmp 2] (downS Q))) : CallS E B 113 args σ Q :=
 S_callK hB [] rfl rfl rfl (by kernel_rfl) rfl rfl (by kernel_rfl) hl h
theorem call114 {args : List Value} {σ : AHeap} {Q : Value → AHeap → Prop} (hl : args.length ≤ 15) (h : CodeS E B (strip [] (bodyOf Tryz.f114)) (L 15 (ofL args)) σ (outS E [.tmp 2] (downS Q))) : CallS E B 114 args σ Q :=
 S_callK hB [] rfl rfl rfl (by kernel_rfl) rfl rfl (by kernel_rfl) hl h
theorem call115 {args : List Value} {σ : AHeap} {Q : Value → AHeap → Prop} (hl : args.length ≤ 46) (h : CodeS E B (strip [13] (bodyOf Tryz.f115)) (L 46 (ofL args)) σ (outS E [.cell 6 104,.tmp 7] (downS Q))) : CallS E B 115 args σ Q :=
 S_callK hB [13] rfl rfl rfl (by kernel_rfl) rfl rfl (by kernel_rfl) hl h
theorem call116 {args : List Value} {σ : AHeap} {Q : Value → AHeap → Prop} (hl : args.length ≤ 7) (h : CodeS E B (strip [] (bodyOf Tryz.f116)) (L 7 (ofL args)) σ (outS E [.tmp 4] (downS Q))) : CallS E B 116 args σ Q :=
 S_callK hB [] rfl rfl rfl (by kernel_rfl) rfl rfl (by kernel_rfl) hl h
theorem call117 {args : List Value} {σ : AHeap} {Q : Value → AHeap → Prop} (hl : args.length ≤ 7) (h : CodeS E B (strip [] (bodyOf Tryz.f117)) (L 7 (ofL args)) σ (outS E [.tmp 4] (downS Q))) : CallS E B 117 args σ Q :=
 S_callK hB [] rfl rfl rfl (by kernel_rfl) rfl rfl (by kernel_rfl) hl h
theorem call118 {args : List Value} {σ : AHeap} {Q : Value → AHeap → Prop} (hl : args.length ≤ 70) (h : CodeS E B (strip [] (bodyOf Tryz.f118)) (L 70 (ofL args)) σ (outS E [.tmp 2,.cell 3 40] (downS Q))) : CallS E B 118 args σ Q :=
 S_callK hB [] rfl rfl rfl (by kernel_rfl) rfl rfl (by kernel_rfl) hl h
theorem call119 {args : List Value} {σ : AHeap} {Q : Value → AHeap → Prop} (hl : args.length ≤ 23) (h : CodeS E B (strip [] (bodyOf Tryz.f119)) (L 23 (ofL args)) σ (outS E [.tmp 2] (downS Q))) : CallS E B 119 args σ Q :=
 S_callK hB [] rfl rfl rfl (by kernel_rfl) rfl rfl (by kernel_rfl) hl h
theorem call120 {args : List Value} {σ : AHeap} {Q : Value → AHeap → Prop} (hl : args.length ≤ 16) (h : CodeS E B (strip [] (bodyOf Tryz.f120)) (L 16 (ofL args)) σ (outS E [.cell 2 40] (downS Q))) : CallS E B 120 args σ Q :=
 S_callK hB [] rfl rfl rfl (by kernel_rfl) rfl rfl (by kernel_rfl) hl h
theorem call121 {args : List Value} {σ : AHeap} {Q : Value → AHeap → Prop} (hl : args.length ≤ 5) (h : CodeS E B (strip [] (bodyOf Tryz.f121)) (L 5 (ofL args)) σ (outS E [.tmp 2] (downS Q))) : CallS E B 121 args σ Q :=
 S_callK hB [] rfl rfl rfl (by kernel_rfl) rfl rfl (by kernel_rfl) hl h
theorem call130 {args : List Value} {σ : AHeap} {Q : Value → AHeap → Prop} (hl : args.length ≤ 51) (h : CodeS E B (strip [] (bodyOf Tryz.f130)) (L 51 (ofL args)) σ (outS E [.tmp 8] (downS Q))) : CallS E B 130 args σ Q :=
 S_callK hB [] rfl rfl rfl (by kernel_rfl) rfl rfl (by kernel_rfl) hl h
theorem call131 {args : List Value} {σ : AHeap} {Q : Value → AHeap → Prop} (hl : args.length ≤ 10) (h : CodeS E B (strip [] (bodyOf Tryz.f131)) (L 10 (ofL args)) σ (outS E [.tmp 4] (downS Q))) : CallS E B 131 args σ Q :=
 S_callK hB [] rfl rfl rfl (by kernel_rfl) rfl rfl (by kernel_rfl) hl h
theorem call132 {args : List Value} {σ : AHeap} {Q : Value → AHeap → Prop} (hl : args.length ≤ 38) (h : CodeS E B (strip [] (bodyOf Tryz.f132)) (L 38 (ofL args)) σ (outS E [.tmp 2] (downS Q))) : CallS E B 132 args σ Q :=
 S_callK hB [] rfl rfl rfl (by kernel_rfl) rfl rfl (by kernel_rfl) hl h
theorem call133 {args : List Value} {σ : AHeap} {Q : Value → AHeap → Prop} (hl : args.length ≤ 7) (h : CodeS E B (strip [] (bodyOf Tryz.f133)) (L 7 (ofL args)) σ (outS E [] (downS Q))) : CallS E B 133 args σ Q :=
 S_callK hB [] rfl rfl rfl (by kernel_rfl) rfl rfl (by kernel_rfl) hl h
theorem wcall134 {args : List Value} {H : AHeap} {Q : Value → AHeap → Prop} (hl : args.length ≤ 39) (h : CodeW E (strip [] (bodyOf Tryz.f134)) (L 39 (ofL args))  H (retQ E [.tmp 2,.tmp 3] Q)) : CallW E 134 args H Q :=
 W_callK [] rfl rfl rfl (by kernel_rfl) rfl rfl (by kernel_rfl) hl h
theorem wcall135 {args : List Value} {H : AHeap} {Q : Value → AHeap → Prop} (hl : args.length ≤ 24) (h : CodeW E (strip [] (bodyOf Tryz.f135)) (L 24 (ofL args))  H (retQ E [.tmp 2,.tmp 3] Q)) : CallW E 135 args H Q :=
 W_callK [] rfl rfl rfl (by kernel_rfl) rfl rfl (by kernel_rfl) hl h
theorem call136 {args : List Value} {σ : AHeap} {Q : Value → AHeap → Prop} (hl : args.length ≤ 12) (h : CodeS E B (strip [] (bodyOf Tryz.f136)) (L 12 (ofL args)) σ (outS E [.tmp 4] (downS Q))) : CallS E B 136 args σ Q :=
 S_callK hB [] rfl rfl rfl (by kernel_rfl) rfl rfl (by kernel_rfl) hl h
theorem call137 {args : List Value} {σ : AHeap} {Q : Value → AHeap → Prop} (hl : args.length ≤ 50) (h : CodeS E B (strip [] (bodyOf Tryz.f137)) (L 50 (ofL args)) σ (outS E [.cell 6 40] (downS Q))) : CallS E B 137 args σ Q :=
 S_callK hB [] rfl rfl rfl (by kernel_rfl) rfl rfl (by kernel_rfl) hl h
theorem call138 {args : List Value} {σ : AHeap} {Q : Value → AHeap → Prop} (hl : args.length ≤ 30) (h : CodeS E B (strip [] (bodyOf Tryz.f138)) (L 30 (ofL args)) σ (outS E [.tmp 2] (downS Q))) : CallS E B 138 args σ Q :=
 S_callK hB [] rfl rfl rfl (by kernel_rfl) rfl rfl (by kernel_rfl) hl h
theorem wcall139 {args : List Value} {H : AHeap} {Q : Value → AHeap → Prop} (hl : args.length ≤ 22) (h : CodeW E (strip [] (bodyOf Tryz.f139)) (L 22 (ofL args))  H (retQ E [.tmp 2] Q)) : CallW E 139 args H Q :=
 W_callK [] rfl rfl rfl (by kernel_rfl) rfl rfl (by kernel_rfl) hl h
theorem call140 {args : List Value} {σ : AHeap} {Q : Value → AHeap → Prop} (hl : args.length ≤ 14) (h : CodeS E B (strip [] (bodyOf Tryz.f140)) (L 14 (ofL args)) σ (outS E [] (downS Q))) : CallS E B 140 args σ Q :=
 S_callK hB [] rfl rfl rfl (by kernel_rfl) rfl rfl (by kernel_rfl) hl h
theorem call141 {args : List Value} {σ : AHeap} {Q : Value → AHeap → Prop} (hl : args.length ≤ 32) (h : CodeS E B (strip [] (bodyOf Tryz.f141)) (L 32 (ofL args)) σ (outS E [.tmp 4] (downS Q))) : CallS E B 141 args σ Q :=
 S_callK hB [] rfl rfl rfl (by kernel_rfl) rfl rfl (by kernel_rfl) hl h
theorem call142 {args : List Value} {σ : AHeap} {Q : Value → AHeap → Prop} (hl : args.length ≤ 14) (h : CodeS E B (strip [] (bodyOf Tryz.f142)) (L 14 (ofL args)) σ (outS E [.tmp 4] (downS Q))) : CallS E B 142 args σ Q :=
 S_callK hB [] rfl rfl rfl (by kernel_rfl) rfl rfl (by kernel_rfl) hl h
theorem call143 {args : List Value} {σ : AHeap} {Q : Value → AHeap → Prop} (hl : args.length ≤ 48) (h : CodeS E B (strip [] (bodyOf Tryz.f143)) (L 48 (ofL args)) σ (outS E [.tmp 2] (downS Q))) : CallS E B 143 args σ Q :=
 S_callK hB [] rfl rfl rfl (by kernel_rfl) rfl rfl (by kernel_rfl) hl h
theorem call144 {args : List Value} {σ : AHeap} {Q : Value → AHeap → Prop} (hl : args.length ≤ 34) (h : CodeS E B (strip [] (bodyOf Tryz.f144)) (L 34 (ofL args)) σ (outS E [.cell 4 104] (downS Q))) : CallS E B 144 args σ Q :=
 S_callK hB [] rfl rfl rfl (by kernel_rfl) rfl rfl (by kernel_rfl) hl h
theorem wcall145 {args : List Value} {H : AHeap} {Q : Value → AHeap → Prop} (hl : args.length ≤ 48) (h : CodeW E (strip [] (bodyOf Tryz.f145)) (L 48 (ofL args))  H (retQ E [.tmp 2,.tmp 3,.tmp 4] Q)) : CallW E 145 args H Q :=
 W_callK [] rfl rfl rfl (by kernel_rfl) rfl rfl (by kernel_rfl) hl h
theorem call146 {args : List Value} {σ : AHeap} {Q : Value → AHeap → Prop} (hl : args.length ≤ 49) (h : CodeS E B (strip [] (bodyOf Tryz.f146)) (L 49 (ofL args)) σ (outS E [.cell 4 104] (downS Q))) : CallS E B 146 args σ Q :=
 S_callK hB [] rfl rfl rfl (by kernel_rfl) rfl rfl (by kernel_rfl) hl h
theorem call147 {args : List Value} {σ : AHeap} {Q : Value → AHeap → Prop} (hl : args.length ≤ 33) (h : CodeS E B (strip [] (bodyOf Tryz.f147)) (L 33 (ofL args)) σ (outS E [.tmp 2,.tmp 3] (downS Q))) : CallS E B 147 args σ Q :=
 S_callK hB [] rfl rfl rfl (by kernel_rfl) rfl rfl (by kernel_rfl) hl h
theorem call154 {args : List Value} {σ : AHeap} {Q : Value → AHeap → Prop} (hl : args.length ≤ 114) (h : CodeS E B (strip [] (bodyOf Tryz.f154)) (L 114 (ofL args)) σ (outS E [.tmp 4] (downS Q))) : CallS E B 154 args σ Q :=
 S_callK hB [] rfl rfl rfl (by kernel_rfl) rfl rfl (by kernel_rfl) hl h
theorem call155 {args : List Value} {σ : AHeap} {Q : Value → AHeap → Prop} (hl : args.length ≤ 9) (h : CodeS E B (strip [] (bodyOf Tryz.f155)) (L 9 (ofL args)) σ (outS E [.tmp 4] (downS Q))) : CallS E B 155 args σ Q :=
 S_callK hB [] rfl rfl rfl (by kernel_rfl) rfl rfl (by kernel_rfl) hl h
theorem call156 {args : List Value} {σ : AHeap} {Q : Value → AHeap → Prop} (hl : args.length ≤ 8) (h : CodeS E B (strip [] (bodyOf Tryz.f156)) (L 8 (ofL args)) σ (outS E [.tmp 3] (downS Q))) : CallS E B 156 args σ Q :=
 S_callK hB [] rfl rfl rfl (by kernel_rfl) rfl rfl (by kernel_rfl) hl h
theorem call157 {args : List Value} {σ : AHeap} {Q : Value → AHeap → Prop} (hl : args.length ≤ 30) (h : CodeS E B (strip [] (bodyOf Tryz.f157)) (L 30 (ofL args)) σ (outS E [.tmp 2] (downS Q))) : CallS E B 157 args σ Q :=
 S_callK hB [] rfl rfl rfl (by kernel_rfl) rfl rfl (by kernel_rfl) hl h
theorem wcall158 {args : List Value} {H : AHeap} {Q : Value → AHeap → Prop} (hl : args.length ≤ 17) (h : CodeW E (strip [] (bodyOf Tryz.f158)) (L 17 (ofL args))  H (retQ E [.tmp 2] Q)) : CallW E 158 args H Q :=
 W_callK [] rfl rfl rfl (by kernel_rfl) rfl rfl (by kernel_rfl) hl h
theorem wcall159 {args : List Value} {H : AHeap} {Q : Value → AHeap → Prop} (hl : args.length ≤ 24) (h : CodeW E (strip [] (bodyOf Tryz.f159)) (L 24 (ofL args))  H (retQ E [.tmp 2,.tmp 3] Q)) : CallW E 159 args H Q :=
 W_callK [] rfl rfl rfl (by kernel_rfl) rfl rfl (by kernel_rfl) hl h
theorem call160 {args : List Value} {σ : AHeap} {Q : Value → AHeap → Prop} (hl : args.length ≤ 11) (h : CodeS E B (strip [] (bodyOf Tryz.f160)) (L 11 (ofL args)) σ (outS E [.tmp 4] (downS Q))) : CallS E B 160 args σ Q :=
 S_callK hB [] rfl rfl rfl (by kernel_rfl) rfl rfl (by kernel_rfl) hl h
theorem call161 {args : List Value} {σ : AHeap} {Q : Value → AHeap → Prop} (hl : args.length ≤ 21) (h : CodeS E B (strip [] (bodyOf Tryz.f161)) (L 21 (ofL args)) σ (outS E [.tmp 4] (downS Q))) : CallS E B 161 args σ Q :=
 S_callK hB [] rfl rfl rfl (by kernel_rfl) rfl rfl (by kernel_rfl) hl h
theorem wcall162 {args : List Value} {H : AHeap} {Q : Value → AHeap → Prop} (hl : args.length ≤ 29) (h : CodeW E (strip [] (bodyOf Tryz.f162)) (L 29 (ofL args))  H (retQ E [.tmp 2] Q)) : CallW E 162 args H Q :=
 W_callK [] rfl rfl rfl (by kernel_rfl) rfl rfl (by kernel_rfl) hl h
theorem call163 {args : List Value} {σ : AHeap} {Q : Value → AHeap → Prop} (hl : args.length ≤ 64) (h : CodeS E B (strip [] (bodyOf Tryz.f163)) (L 64 (ofL args)) σ (outS E [.tmp 4,.tmp 5] (downS Q))) : CallS E B 163 args σ Q :=
 S_callK hB [] rfl rfl rfl (by kernel_rfl) rfl rfl (by kernel_rfl) hl h
theorem wcall164 {args : List Value} {H : AHeap} {Q : Value → AHeap → Prop} (hl : args.length ≤ 44) (h : CodeW E (strip [] (bodyOf Tryz.f164)) (L 44 (ofL args))  H (retQ E [.tmp 2,.tmp 3,.tmp 4,.tmp 5] Q)) : CallW E 164 args H Q :=
 W_callK [] rfl rfl rfl (by kernel_rfl) rfl rfl (by kernel_rfl) hl h
theorem call165 {args : List Value} {σ : AHeap} {Q : Value → AHeap → Prop} (hl : args.length ≤ 40) (h : CodeS E B (strip [] (bodyOf Tryz.f165)) (L 40 (ofL args)) σ (outS E [.tmp 4,.tmp 5] (downS Q))) : CallS E B 165 args σ Q :=
 S_callK hB [] rfl rfl rfl (by kernel_rfl) rfl rfl (by kernel_rfl) hl h
theorem call166 {args : List Value} {σ : AHeap} {Q : Value → AHeap → Prop} (hl : args.length ≤ 5) (h : CodeS E B (strip [] (bodyOf Tryz.f166)) (L 5 (ofL args)) σ (outS E [.tmp 2] (downS Q))) : CallS E B 166 args σ Q :=
 S_callK hB [] rfl rfl rfl (by kernel_rfl) rfl rfl (by kernel_rfl) hl h
theorem call168 {args : List Value} {σ : AHeap} {Q : Value → AHeap → Prop} (hl : args.length ≤ 9) (h : CodeS E B (strip [] (bodyOf Tryz.f168)) (L 9 (ofL args)) σ (outS E [.tmp 4] (downS Q))) : CallS E B 168 args σ Q :=
 S_callK hB [] rfl rfl rfl (by kernel_rfl) rfl rfl (by kernel_rfl) hl h
theorem call169 {args : List Value} {σ : AHeap} {Q : Value → AHeap → Prop} (hl : args.length ≤ 19) (h : CodeS E B (strip [] (bodyOf Tryz.f169)) (L 19 (ofL args)) σ (outS E [.tmp 4] (downS Q))) : CallS E B 169 args σ Q :=
 S_callK hB [] rfl rfl rfl (by kernel_rfl) rfl rfl (by kernel_rfl) hl h
theorem wcall170 {args : List Value} {H : AHeap} {Q : Value → AHeap → Prop} (hl : args.length ≤ 56) (h : CodeW E (strip [] (bodyOf Tryz.f170)) (L 56 (ofL args))  H (retQ E [.tmp 2] Q)) : CallW E 170 args H Q :=
 W_callK [] rfl rfl rfl (by kernel_rfl) rfl rfl (by kernel_rfl) hl h
theorem call171 {args : List Value} {σ : AHeap} {Q : Value → AHeap → Prop} (hl : args.length ≤ 55) (h : CodeS E B (strip [] (bodyOf Tryz.f171)) (L 55 (ofL args)) σ (outS E [.tmp 2] (downS Q))) : CallS E B 171 args σ Q :=
 S_callK hB [] rfl rfl rfl (by kernel_rfl) rfl rfl (by kernel_rfl) hl h
theorem wcall172 {args : List Value} {H : AHeap} {Q : Value → AHeap → Prop} (hl : args.length ≤ 76) (h : CodeW E (strip [] (bodyOf Tryz.f172)) (L 76 (ofL args))  H (retQ E [.tmp 2] Q)) : CallW E 172 args H Q :=
 W_callK [] rfl rfl rfl (by kernel_rfl) rfl rfl (by kernel_rfl) hl h
theorem wcall173 {args : List Value} {H : AHeap} {Q : Value → AHeap → Prop} (hl : args.length ≤ 51) (h : CodeW E (strip [] (bodyOf Tryz.f173)) (L 51 (ofL args))  H (retQ E [.tmp 4] Q)) : CallW E 173 args H Q :=
 W_callK [] rfl rfl rfl (by kernel_rfl) rfl rfl (by kernel_rfl) hl h
theorem call174 {args : List Value} {σ : AHeap} {Q : Value → AHeap → Prop} (hl : args.length ≤ 5) (h : CodeS E B (strip [] (bodyOf Tryz.f174)) (L 5 (ofL args)) σ (outS E [.tmp 2] (downS Q))) : CallS E B 174 args σ Q :=
 S_callK hB [] rfl rfl rfl (by kernel_rfl) rfl rfl (by kernel_rfl) hl h
theorem call175 {args : List Value} {σ : AHeap} {Q : Value → AHeap → Prop} (hl : args.length ≤ 19) (h : CodeS E B (strip [] (bodyOf Tryz.f175)) (L 19 (ofL args)) σ (outS E [.tmp 4] (downS Q))) : CallS E B 175 args σ Q :=
 S_callK hB [] rfl rfl rfl (by kernel_rfl) rfl rfl (by kernel_rfl) hl h
theorem wcall176 {args : List Value} {H : AHeap} {Q : Value → AHeap → Prop} (hl : args.length ≤ 44) (h : CodeW E (strip [] (bodyOf Tryz.f176)) (L 44 (ofL args))  H (retQ E [.tmp 2,.tmp 3,.tmp 4] Q)) : CallW E 176 args H Q :=
 W_callK [] rfl rfl rfl (by kernel_rfl) rfl rfl (by kernel_rfl) hl h
end Go.Proofs.YtjkhhdknplelcaaGreatDoor.AbsA
