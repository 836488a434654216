/-
  A part of a law's proof.
-/
import Derived.Test.YtjkhhdknplelcaaGreatDoorAEnvC
namespace Go.Proofs.YtjkhhdknplelcaaGreatDoor.AbsB
open Go AbsYtjkhhdknplelcaaGreatDoor Abs
set_option maxRecDepth 100000
set_option maxHeartbeats 4000000
theorem call5 {args : List Value} {σ : AHeap} {Q : Value → AHeap → Prop} (hl : args.length ≤ 89) (h : CodeS E B (strip [6] (bodyOf Tryz.f5)) (L 89 (ofL args)) σ (outS E [.tmp 6] (downS Q))) : CallS E B 5 args σ Q :=
 S_callK hB [6] rfl rfl rfl (by kernel_rfl) rfl rfl (by kernel_rfl) hl h
theorem call11 {args : List Value} {σ : AHeap} {Q : Value → AHeap → Prop} (hl : args.length ≤ 113) (h : CodeS E B (strip [] (bodyOf Tryz.f11)) (L 113 (ofL args)) σ (outS E [.tmp 2] (downS Q))) : CallS E B 11 args σ Q :=
 S_callK hB [] rfl rfl rfl (by kernel_rfl) rfl rfl (by kernel_rfl) hl h
theorem call17 {args : List Value} {σ : AHeap} {Q : Value → AHeap → Prop} (hl : args.length ≤ 148) (h : CodeS E B (strip [] (bodyOf Tryz.f17)) (L 148 (ofL args)) σ (outS E [.tmp 4] (downS Q))) : CallS E B 17 args σ Q :=
 S_callK hB [] rfl rfl rfl (by kernel_rfl) rfl rfl (by kernel_rfl) hl h
theorem call20 {args : List Value} {σ : AHeap} {Q : Value → AHeap → Prop} (hl : args.length ≤ 95) (h : CodeS E B (strip [] (bodyOf Tryz.f20)) (L 95 (ofL args)) σ (outS E [.cell 2 33,.tmp 3] (downS Q))) : CallS E B 20 args σ Q :=
 S_callK hB [] rfl rfl rfl (by kernel_rfl) rfl rfl (by kernel_rfl) hl h
theorem call21 {args : List Value} {σ : AHeap} {Q : Value → AHeap → Prop} (hl : args.length ≤ 37) (h : CodeS E B (strip [] (bodyOf Tryz.f21)) (L 37 (ofL args)) σ (outS E [.cell 2 29,.tmp 3] (downS Q))) : CallS E B 21 args σ Q :=
 S_callK hB [] rfl rfl rfl (by kernel_rfl) rfl rfl (by kernel_rfl) hl h
theorem call22 {args : List Value} {σ : AHeap} {Q : Value → AHeap → Prop} (hl : args.length ≤ 44) (h : CodeS E B (strip [] (bodyOf Tryz.f22)) (L 44 (ofL args)) σ (outS E [.cell 2 29] (downS Q))) : CallS E B 22 args σ Q :=
 S_callK hB [] rfl rfl rfl (by kernel_rfl) rfl rfl (by kernel_rfl) hl h
theorem call37 {args : List Value} {σ : AHeap} {Q : Value → AHeap → Prop} (hl : args.length ≤ 33) (h : CodeS E B (strip [] (bodyOf Tryz.f37)) (L 33 (ofL args)) σ (outS E [.tmp 2] (downS Q))) : CallS E B 37 args σ Q :=
 S_callK hB [] rfl rfl rfl (by kernel_rfl) rfl rfl (by kernel_rfl) hl h
theorem call39 {args : List Value} {σ : AHeap} {Q : Value → AHeap → Prop} (hl : args.length ≤ 15) (h : CodeS E B (strip [] (bodyOf Tryz.f39)) (L 15 (ofL args)) σ (outS E [.tmp 2] (downS Q))) : CallS E B 39 args σ Q :=
 S_callK hB [] rfl rfl rfl (by kernel_rfl) rfl rfl (by kernel_rfl) hl h
theorem call40 {args : List Value} {σ : AHeap} {Q : Value → AHeap → Prop} (hl : args.length ≤ 15) (h : CodeS E B (strip [] (bodyOf Tryz.f40)) (L 15 (ofL args)) σ (outS E [.tmp 6] (downS Q))) : CallS E B 40 args σ Q :=
 S_callK hB [] rfl rfl rfl (by kernel_rfl) rfl rfl (by kernel_rfl) hl h
theorem wcall40 {args : List Value} {H : AHeap} {Q : Value → AHeap → Prop} (hl : args.length ≤ 15) (h : CodeW E (strip [] (bodyOf Tryz.f40)) (L 15 (ofL args))  H (retQ E [.tmp 6] Q)) : CallW E 40 args H Q :=
 W_callK [] rfl rfl rfl (by kernel_rfl) rfl rfl (by kernel_rfl) hl h
theorem call41 {args : List Value} {σ : AHeap} {Q : Value → AHeap → Prop} (hl : args.length ≤ 52) (h : CodeS E B (strip [] (bodyOf Tryz.f41)) (L 52 (ofL args)) σ (outS E [.tmp 4,.tmp 5] (downS Q))) : CallS E B 41 args σ Q :=
 S_callK hB [] rfl rfl rfl (by kernel_rfl) rfl rfl (by kernel_rfl) hl h
theorem call42 {args : List Value} {σ : AHeap} {Q : Value → AHeap → Prop} (hl : args.length ≤ 24) (h : CodeS E B (strip [] (bodyOf Tryz.f42)) (L 24 (ofL args)) σ (outS E [] (downS Q))) : CallS E B 42 args σ Q :=
 S_callK hB [] rfl rfl rfl (by kernel_rfl) rfl rfl (by kernel_rfl) hl h
theorem call43 {args : List Value} {σ : AHeap} {Q : Value → AHeap → Prop} (hl : args.length ≤ 7) (h : CodeS E B (strip [] (bodyOf Tryz.f43)) (L 7 (ofL args)) σ (outS E [] (downS Q))) : CallS E B 43 args σ Q :=
 S_callK hB [] rfl rfl rfl (by kernel_rfl) rfl rfl (by kernel_rfl) hl h
theorem call44 {args : List Value} {σ : AHeap} {Q : Value → AHeap → Prop} (hl : args.length ≤ 16) (h : CodeS E B (strip [] (bodyOf Tryz.f44)) (L 16 (ofL args)) σ (outS E [] (downS Q))) : CallS E B 44 args σ Q :=
 S_callK hB [] rfl rfl rfl (by kernel_rfl) rfl rfl (by kernel_rfl) hl h
theorem call45 {args : List Value} {σ : AHeap} {Q : Value → AHeap → Prop} (hl : args.length ≤ 20) (h : CodeS E B (strip [] (bodyOf Tryz.f45)) (L 20 (ofL args)) σ (outS E [.tmp 2,.tmp 3] (downS Q))) : CallS E B 45 args σ Q :=
 S_callK hB [] rfl rfl rfl (by kernel_rfl) rfl rfl (by kernel_rfl) hl h
theorem call51 {args : List Value} {σ : AHeap} {Q : Value → AHeap → Prop} (hl : args.length ≤ 13) (h : CodeS E B (strip [] (bodyOf Tryz.f51)) (L 13 (ofL args)) σ (outS E [.tmp 2] (downS Q))) : CallS E B 51 args σ Q :=
 S_callK hB [] rfl rfl rfl (by kernel_rfl) rfl rfl (by kernel_rfl) hl h
theorem call52 {args : List Value} {σ : AHeap} {Q : Value → AHeap → Prop} (hl : args.length ≤ 6) (h : CodeS E B (strip [] (bodyOf Tryz.f52)) (L 6 (ofL args)) σ (outS E [.tmp 2] (downS Q))) : CallS E B 52 args σ Q :=
 S_callK hB [] rfl rfl rfl (by kernel_rfl) rfl rfl (by kernel_rfl) hl h
theorem call53 {args : List Value} {σ : AHeap} {Q : Value → AHeap → Prop} (hl : args.length ≤ 27) (h : CodeS E B (strip [] (bodyOf Tryz.f53)) (L 27 (ofL args)) σ (outS E [.tmp 2] (downS Q))) : CallS E B 53 args σ Q :=
 S_callK hB [] rfl rfl rfl (by kernel_rfl) rfl rfl (by kernel_rfl) hl h
theorem call54 {args : List Value} {σ : AHeap} {Q : Value → AHeap → Prop} (hl : args.length ≤ 9) (h : CodeS E B (strip [] (bodyOf Tryz.f54)) (L 9 (ofL args)) σ (outS E [.tmp 2] (downS Q))) : CallS E B 54 args σ Q :=
 S_callK hB [] rfl rfl rfl (by kernel_rfl) rfl rfl (by kernel_rfl) hl h
theorem call55 {args : List Value} {σ : AHeap} {Q : Value → AHeap → Prop} (hl : args.length ≤ 5) (h : CodeS E B (strip [] (bodyOf Tryz.f55)) (L 5 (ofL args)) σ (outS E [.tmp 2] (downS Q))) : CallS E B 55 args σ Q :=
 S_callK hB [] rfl rfl rfl (by kernel_rfl) rfl rfl (by kernel_rfl) hl h
theorem call56 {args : List Value} {σ : AHeap} {Q : Value → AHeap → Prop} (hl : args.length ≤ 9) (h : CodeS E B (strip [] (bodyOf Tryz.f56)) (L 9 (ofL args)) σ (outS E [.tmp 2] (downS Q))) : CallS E B 56 args σ Q :=
 S_callK hB [] rfl rfl rfl (by kernel_rfl) rfl rfl (by kernel_rfl) hl h
theorem call57 {args : List Value} {σ : AHeap} {Q : Value → AHeap → Prop} (hl : args.length ≤ 49) (h : CodeS E B (strip [] (bodyOf Tryz.f57)) (L 49 (ofL args)) σ (outS E [.tmp 4,.tmp 5] (downS Q))) : CallS E B 57 args σ Q :=
 S_callK hB [] rfl rfl rfl (by kernel_rfl) rfl rfl (by kernel_rfl) hl h
theorem call59 {args : List Value} {σ : AHeap} {Q : Value → AHeap → Prop} (hl : args.length ≤ 32) (h : CodeS E B (strip [] (bodyOf Tryz.f59)) (L 32 (ofL args)) σ (outS E [.tmp 4] (downS Q))) : CallS E B 59 args σ Q :=
 S_callK hB [] rfl rfl rfl (by kernel_rfl) rfl rfl (by kernel_rfl) hl h
theorem call60 {args : List Value} {σ : AHeap} {Q : Value → AHeap → Prop} (hl : args.length ≤ 45) (h : CodeS E B (strip [] (bodyOf Tryz.f60)) (L 45 (ofL args)) σ (outS E [.tmp 4] (downS Q))) : CallS E B 60 args σ Q :=
 S_callK hB [] rfl rfl rfl (by kernel_rfl) rfl rfl (by kernel_rfl) hl h
theorem call61 {args : List Value} {σ : AHeap} {Q : Value → AHeap → Prop} (hl : args.length ≤ 32) (h : CodeS E B (strip [] (bodyOf Tryz.f61)) (L 32 (ofL args)) σ (outS E [.tmp 4] (downS Q))) : CallS E B 61 args σ Q :=
 S_callK hB [] rfl rfl rfl (by kernel_rfl) rfl rfl (by kernel_rfl) hl h
theorem call62 {args : List Value} {σ : AHeap} {Q : Value → AHeap → Prop} (hl : args.length ≤ 32) (h : CodeS E B (strip [] (bodyOf Tryz.f62)) (L 32 (ofL args)) σ (outS E [.tmp 4] (downS Q))) : CallS E B 62 args σ Q :=
 S_callK hB [] rfl rfl rfl (by kernel_rfl) rfl rfl (by kernel_rfl) hl h
theorem call63 {args : List Value} {σ : AHeap} {Q : Value → AHeap → Prop} (hl : args.length ≤ 32) (h : CodeS E B (strip [] (bodyOf Tryz.f63)) (L 32 (ofL args)) σ (outS E [.tmp 4] (downS Q))) : CallS E B 63 args σ Q :=
 S_callK hB [] rfl rfl rfl (by kernel_rfl) rfl rfl (by kernel_rfl) hl h
theorem call64 {args : List Value} {σ : AHeap} {Q : Value → AHeap → Prop} (hl : args.length ≤ 55) (h : CodeS E B (strip [] (bodyOf Tryz.f64)) (L 55 (ofL args)) σ (outS E [.tmp 2] (downS Q))) : CallS E B 64 args σ Q :=
 S_callK hB [] rfl rfl rfl (by kernel_rfl) rfl rfl (by kernel_rfl) hl h
theorem call65 {args : List Value} {σ : AHeap} {Q : Value → AHeap → Prop} (hl : args.length ≤ 34) (h : CodeS E B (strip [] (bodyOf Tryz.f65)) (L 34 (ofL args)) σ (outS E [.tmp 2,.tmp 3,.tmp 4] (downS Q))) : CallS E B 65 args σ Q :=
 S_callK hB [] rfl rfl rfl (by kernel_rfl) rfl rfl (by kernel_rfl) hl h
theorem call66 {args : List Value} {σ : AHeap} {Q : Value → AHeap → Prop} (hl : args.length ≤ 7) (h : CodeS E B (strip [] (bodyOf Tryz.f66)) (L 7 (ofL args)) σ (outS E [] (downS Q))) : CallS E B 66 args σ Q :=
 S_callK hB [] rfl rfl rfl (by kernel_rfl) rfl rfl (by kernel_rfl) hl h
theorem call67 {args : List Value} {σ : AHeap} {Q : Value → AHeap → Prop} (hl : args.length ≤ 31) (h : CodeS E B (strip [1,3] (bodyOf Tryz.f67)) (L 31 (ofL args)) σ (outS E [.tmp 2] (downS Q))) : CallS E B 67 args σ Q :=
 S_callK hB [1,3] rfl rfl rfl (by kernel_rfl) rfl rfl (by kernel_rfl) hl h
theorem call68 {args : List Value} {σ : AHeap} {Q : Value → AHeap → Prop} (hl : args.length ≤ 19) (h : CodeS E B (strip [] (bodyOf Tryz.f68)) (L 19 (ofL args)) σ (outS E [] (downS Q))) : CallS E B 68 args σ Q :=
 S_callK hB [] rfl rfl rfl (by kernel_rfl) rfl rfl (by kernel_rfl) hl h
theorem call69 {args : List Value} {σ : AHeap} {Q : Value → AHeap → Prop} (hl : args.length ≤ 11) (h : CodeS E B (strip [] (bodyOf Tryz.f69)) (L 11 (ofL args)) σ (outS E [] (downS Q))) : CallS E B 69 args σ Q :=
 S_callK hB [] rfl rfl rfl (by kernel_rfl) rfl rfl (by kernel_rfl) hl h
theorem call70 {args : List Value} {σ : AHeap} {Q : Value → AHeap → Prop} (hl : args.length ≤ 61) (h : CodeS E B (strip [] (bodyOf Tryz.f70)) (L 61 (ofL args)) σ (outS E [.tmp 2,.tmp 3] (downS Q))) : CallS E B 70 args σ Q :=
 S_callK hB [] rfl rfl rfl (by kernel_rfl) rfl rfl (by kernel_rfl) hl h
theorem call71 {args : List Value} {σ : AHeap} {Q : Value → AHeap → Prop} (hl : args.length ≤ 76) (h : CodeS E B (strip [17] (bodyOf Tryz.f71)) (L 76 (ofL args)) σ (outS E [.cell 4 29,.tmp 5] (downS Q))) : CallS E B 71 args σ Q :=
 S_callK hB [17] rfl rfl rfl (by kernel_rfl) rfl rfl (by kernel_rfl) hl h
theorem call75 {args : List Value} {σ : AHeap} {Q : Value → AHeap → Prop} (hl : args.length ≤ 5) (h : CodeS E B (strip [] (bodyOf Tryz.f75)) (L 5 (ofL args)) σ (outS E [.tmp 2] (downS Q))) : CallS E B 75 args σ Q :=
 S_callK hB [] rfl rfl rfl (by kernel_rfl) rfl rfl (by kernel_rfl) hl h
theorem call77 {args : List Value} {σ : AHeap} {Q : Value → AHeap → Prop} (hl : args.length ≤ 19) (h : CodeS E B (strip [] (bodyOf Tryz.f77)) (L 19 (ofL args)) σ (outS E [.tmp 2] (downS Q))) : CallS E B 77 args σ Q :=
 S_callK hB [] rfl rfl rfl (by kernel_rfl) rfl rfl (by kernel_rfl) hl h
theorem call86 {args : List Value} {σ : AHeap} {Q : Value → AHeap → Prop} (hl : args.length ≤ 34) (h : CodeS E B (strip [] (bodyOf Tryz.f86)) (L 34 (ofL args)) σ (outS E [.tmp 4] (downS Q))) : CallS E B 86 args σ Q :=
 S_callK hB [] rfl rfl rfl (by kernel_rfl) rfl rfl (by kernel_rfl) hl h
theorem call87 {args : List Value} {σ : AHeap} {Q : Value → AHeap → Prop} (hl : args.length ≤ 57) (h : CodeS E B (strip [] (bodyOf Tryz.f87)) (L 57 (ofL args)) σ (outS E [] (downS Q))) : CallS E B 87 args σ Q :=
 S_callK hB [] rfl rfl rfl (by kernel_rfl) rfl rfl (by kernel_rfl) hl h
theorem call88 {args : List Value} {σ : AHeap} {Q : Value → AHeap → Prop} (hl : args.length ≤ 33) (h : CodeS E B (strip [] (bodyOf Tryz.f88)) (L 33 (ofL args)) σ (outS E [] (downS Q))) : CallS E B 88 args σ Q :=
 S_callK hB [] rfl rfl rfl (by kernel_rfl) rfl rfl (by kernel_rfl) hl h
theorem call89 {args : List Value} {σ : AHeap} {Q : Value → AHeap → Prop} (hl : args.length ≤ 12) (h : CodeS E B (strip [] (bodyOf Tryz.f89)) (L 12 (ofL args)) σ (outS E [.tmp 2] (downS Q))) : CallS E B 89 args σ Q :=
 S_callK hB [] rfl rfl rfl (by kernel_rfl) rfl rfl (by kernel_rfl) hl h
theorem wcall90 {args : List Value} {H : AHeap} {Q : Value → AHeap → Prop} (hl : args.length ≤ 11) (h : CodeW E (strip [] (bodyOf Tryz.f90)) (L 11 (ofL args))  H (retQ E [.tmp 2] Q)) : CallW E 90 args H Q :=
 W_callK [] rfl rfl rfl (by kernel_rfl) rfl rfl (by kernel_rfl) hl h
theorem call91 {args : List Value} {σ : AHeap} {Q : Value → AHeap → Prop} (hl : args.length ≤ 8) (h : CodeS E B (strip [] (bodyOf Tryz.f91)) (L 8 (ofL args)) σ (outS E [] (downS Q))) : CallS E B 91 args σ Q :=
 S_callK hB [] rfl rfl rfl (by kernel_rfl) rfl rfl (by kernel_rfl) hl h
theorem call92 {args : List Value} {σ : AHeap} {Q : Value → AHeap → Prop} (hl : args.length ≤ 17) (h : CodeS E B (strip [] (bodyOf Tryz.f92)) (L 17 (ofL args)) σ (outS E [.tmp 4] (downS Q))) : CallS E B 92 args σ Q :=
 S_callK hB [] rfl rfl rfl (by kernel_rfl) rfl rfl (by kernel_rfl) hl h
theorem call93 {args : List Value} {σ : AHeap} {Q : Value → AHeap → Prop} (hl : args.length ≤ 69) (h : CodeS E B (strip [] (bodyOf Tryz.f93)) (L 69 (ofL args)) σ (outS E [] (downS Q))) : CallS E B 93 args σ Q :=
 S_callK hB [] rfl rfl rfl (by kernel_rfl) rfl rfl (by kernel_rfl) hl h
theorem call94 {args : List Value} {σ : AHeap} {Q : Value → AHeap → Prop} (hl : args.length ≤ 9) (h : CodeS E B (strip [] (bodyOf Tryz.f94)) (L 9 (ofL args)) σ (outS E [.tmp 2] (downS Q))) : CallS E B 94 args σ Q :=
 S_callK hB [] rfl rfl rfl (by kernel_rfl) rfl rfl (by kernel_rfl) hl h
theorem call96 {args : List Value} {σ : AHeap} {Q : Value → AHeap → Prop} (hl : args.length ≤ 38) (h : CodeS E B (strip [] (bodyOf Tryz.f96)) (L 38 (ofL args)) σ (outS E [.tmp 2] (downS Q))) : CallS E B 96 args σ Q :=
 S_callK hB [] rfl rfl rfl (by kernel_rfl) rfl rfl (by kernel_rfl) hl h
theorem call108 {args : List Value} {σ : AHeap} {Q : Value → AHeap → Prop} (hl : args.length ≤ 15) (h : CodeS E B (strip [] (bodyOf Tryz.f108)) (L 15 (ofL args)) σ (outS E [.tmp 2] (downS Q))) : CallS E B 108 args σ Q :=
 S_callK hB [] rfl rfl rfl (by kernel_rfl) rfl rfl (by kernel_rfl) hl h
theorem call109 {args : List Value} {σ : AHeap} {Q : Value → AHeap → Prop} (hl : args.length ≤ 12) (h : CodeS E B (strip [] (bodyOf Tryz.f109)) (L 12 (ofL args)) σ (outS E [.tmp 2] (downS Q))) : CallS E B 109 args σ Q :=
 S_callK hB [] rfl rfl rfl (by kernel_rfl) rfl rfl (by kernel_rfl) hl h
theorem call110 {args : List Value} {σ : AHeap} {Q : Value → AHeap → Prop} (hl : args.length ≤ 17) (h : CodeS E B (strip [] (bodyOf Tryz.f110)) (L 17 (ofL args)) σ (outS E [] (downS Q))) : CallS E B 110 args σ Q :=
 S_callK hB [] rfl rfl rfl (by kernel_rfl) rfl rfl (by kernel_rfl) hl h
theorem call111 {args : List Value} {σ : AHeap} {Q : Value → AHeap → Prop} (hl : args.length ≤ 24) (h : CodeS E B (strip [] (bodyOf Tryz.f111)) (L 24 (ofL args)) σ (outS E [.tmp 4] (downS Q))) : CallS E B 111 args σ Q :=
 S_callK hB [] rfl rfl rfl (by kernel_rfl) rfl rfl (by kernel_rfl) hl h
theorem call112 {args : List Value} {σ : AHeap} {Q : Value → AHeap → Prop} (hl : args.length ≤ 68) (h : CodeS E B (strip [] (bodyOf Tryz.f112)) (L 68 (ofL args)) σ (outS E [.tmp 4] (downS Q))) : CallS E B 112 args σ Q :=
 S_callK hB [] rfl rfl rfl (by kernel_rfl) rfl rfl (by kernel_rfl) hl h
theorem call113 {args : List Value} {σ : AHeap} {Q : Value → AHeap → Prop} (hl : args.length ≤ 42) (h : CodeS E B (strip [] (bodyOf Tryz.f113)) (L 42 (ofL args)) σ (outS E [.tmp 2] (downS Q))) : CallS E B 113 args σ Q :=
 S_callK hB [] rfl rfl rfl (by kernel_rfl) rfl rfl (by kernel_rfl) hl h
theorem call114 {args : List Value} {σ : AHeap} {Q : Value → AHeap → Prop} (hl : args.length ≤ 15) (h : CodeS E B (strip [] (bodyOf Tryz.f114)) (L 15 (ofL args)) σ (outS E [.tmp 2] (downS Q))) : CallS E B 114 args σ Q :=
 S_callK hB [] rfl rfl rfl (by kernel_rfl) rfl rfl (by kernel_rfl) hl h
theorem call115 {args : List Value} {σ : AHeap} {Q : Value → AHeap → Prop} (hl : args.length ≤ 46) (h : CodeS E B (strip [13] (bodyOf Tryz.f115)) (L 46 (ofL args)) σ (outS E [.cell 6 104,.tmp 7] (downS Q))) : CallS E B 115 args σ Q :=
 S_callK hB [13] rfl rfl rfl (by kernel_rfl) rfl rfl (by kernel_rfl) hl h
theorem call116 {args : List Value} {σ : AHeap} {Q : Value → AHeap → Prop} (hl : args.length ≤ 7) (h : CodeS E B (strip [] (bodyOf Tryz.f116)) (L 7 (ofL args)) σ (outS E [.tmp 4] (downS Q))) : CallS E B 116 args σ Q :=
 S_callK hB [] rfl rfl rfl (by kernel_rfl) rfl rfl (by kernel_rfl) hl h
theorem call130 {args : List Value} {σ : AHeap} {Q : Value → AHeap → Prop} (hl : args.length ≤ 51) (h : CodeS E B (strip [] (bodyOf Tryz.f130)) (L 51 (ofL args)) σ (outS E [.tmp 8] (downS Q))) : CallS E B 130 args σ Q :=
 S_callK hB [] rfl rfl rfl (by kernel_rfl) rfl rfl (by kernel_rfl) hl h
theorem call131 {args : List Value} {σ : AHeap} {Q : Value → AHeap → Prop} (hl : args.length ≤ 10) (h : CodeS E B (strip [] (bodyOf Tryz.f131)) (L 10 (ofL args)) σ (outS E [.tmp 4] (downS Q))) : CallS E B 131 args σ Q :=
 S_callK hB [] rfl rfl rfl (by kernel_rfl) rfl rfl (by kernel_rfl) hl h
theorem call132 {args : List Value} {σ : AHeap} {Q : Value → AHeap → Prop} (hl : args.length ≤ 38) (h : CodeS E B (strip [] (bodyOf Tryz.f132)) (L 38 (ofL args)) σ (outS E [.tmp 2] (downS Q))) : CallS E B 132 args σ Q :=
 S_callK hB [] rfl rfl rfl (by kernel_rfl) rfl rfl (by kernel_rfl) hl h
theorem call133 {args : List Value} {σ : AHeap} {Q : Value → AHeap → Prop} (hl : args.length ≤ 7) (h : CodeS E B (strip [] (bodyOf Tryz.f133)) (L 7 (ofL args)) σ (outS E [] (downS Q))) : CallS E B 133 args σ Q :=
 S_callK hB [] rfl rfl rfl (by kernel_rfl) rfl rfl (by kernel_rfl) hl h
theorem wcall134 {args : List Value} {H : AHeap} {Q : Value → AHeap → Prop} (hl : args.length ≤ 39) (h : CodeW E (strip [] (bodyOf Tryz.f134)) (L 39 (ofL args))  H (retQ E [.tmp 2,.tmp 3] Q)) : CallW E 134 args H Q :=
 W_callK [] rfl rfl rfl (by kernel_rfl) rfl rfl (by kernel_rfl) hl h
theorem wcall135 {args : List Value} {H : AHeap} {Q : Value → AHeap → Prop} (hl : args.length ≤ 24) (h : CodeW E (strip [] (bodyOf Tryz.f135)) (L 24 (ofL args))  H (retQ E [.tmp 2,.tmp 3] Q)) : CallW E 135 args H Q :=
 W_callK [] rfl rfl rfl (by kernel_rfl) rfl rfl (by kernel_rfl) hl h
theorem call136 {args : List Value} {σ : AHeap} {Q : Value → AHeap → Prop} (hl : args.length ≤ 12) (h : CodeS E B (strip [] (bodyOf Tryz.f136)) (L 12 (ofL args)) σ (outS E [.tmp 4] (downS Q))) : CallS E B 136 args σ Q :=
 S_callK hB [] rfl rfl rfl (by kernel_rfl) rfl rfl (by kernel_rfl) hl h
theorem wcall145 {args : List Value} {H : AHeap} {Q : Value → AHeap → Prop} (hl : args.length ≤ 48) (h : CodeW E (strip [] (bodyOf Tryz.f145)) (L 48 (ofL args))  H (retQ E [.tmp 2,.tmp 3,.tmp 4] Q)) : CallW E 145 args H Q :=
 W_callK [] rfl rfl rfl (by kernel_rfl) rfl rfl (by kernel_rfl) hl h
theorem call146 {args : List Value} {σ : AHeap} {Q : Value → AHeap → Prop} (hl : args.length ≤ 49) (h : CodeS E B (strip [] (bodyOf Tryz.f146)) (L 49 (ofL args)) σ (outS E [.cell 4 104] (downS Q))) : CallS E B 146 args σ Q :=
 S_callK hB [] rfl rfl rfl (by kernel_rfl) rfl rfl (by kernel_rfl) hl h
theorem call154 {args : List Value} {σ : AHeap} {Q : Value → AHeap → Prop} (hl : args.length ≤ 114) (h : CodeS E B (strip [] (bodyOf Tryz.f154)) (L 114 (ofL args)) σ (outS E [.tmp 4] (downS Q))) : CallS E B 154 args σ Q :=
 S_callK hB [] rfl rfl rfl (by kernel_rfl) rfl rfl (by kernel_rfl) hl h
theorem call155 {args : List Value} {σ : AHeap} {Q : Value → AHeap → Prop} (hl : args.length ≤ 9) (h : CodeS E B (strip [] (bodyOf Tryz.f155)) (L 9 (ofL args)) σ (outS E [.tmp 4] (downS Q))) : CallS E B 155 args σ Q :=
 S_callK hB [] rfl rfl rfl (by kernel_rfl) rfl rfl (by kernel_rfl) hl h
theorem call156 {args : List Value} {σ : AHeap} {Q : Value → AHeap → Prop} (hl : args.length ≤ 8) (h : CodeS E B (strip [] (bodyOf Tryz.f156)) (L 8 (ofL args)) σ (outS E [.tmp 3] (downS Q))) : CallS E B 156 args σ Q :=
 S_callK hB [] rfl rfl rfl (by kernel_rfl) rfl rfl (by kernel_rfl) hl h
theorem call157 {args : List Value} {σ : AHeap} {Q : Value → AHeap → Prop} (hl : args.length ≤ 30) (h : CodeS E B (strip [] (bodyOf Tryz.f157)) (L 30 (ofL args)) σ (outS E [.tmp 2] (downS Q))) : CallS E B 157 args σ Q :=
 S_callK hB [] rfl rfl rfl (by kernel_rfl) rfl rfl (by kernel_rfl) hl h
theorem wcall158 {args : List Value} {H : AHeap} {Q : Value → AHeap → Prop} (hl : args.length ≤ 17) (h : CodeW E (strip [] (bodyOf Tryz.f158)) (L 17 (ofL args))  H (retQ E [.tmp 2] Q)) : CallW E 158 args H Q :=
 W_callK [] rfl rfl rfl (by kernel_rfl) rfl rfl (by kernel_rfl) hl h
theorem wcall159 {args : List Value} {H : AHeap} {Q : Value → AHeap → Prop} (hl : args.length ≤ 24) (h : CodeW E (strip [] (bodyOf Tryz.f159)) (L 24 (ofL args))  H (retQ E [.tmp 2,.tmp 3] Q)) : CallW E 159 args H Q :=
 W_callK [] rfl rfl rfl (by kernel_rfl) rfl rfl (by kernel_rfl) hl h
theorem call160 {args : List Value} {σ : AHeap} {Q : Value → AHeap → Prop} (hl : args.length ≤ 11) (h : CodeS E B (strip [] (bodyOf Tryz.f160)) (L 11 (ofL args)) σ (outS E [.tmp 4] (downS Q))) : CallS E B 160 args σ Q :=
 S_callK hB [] rfl rfl rfl (by kernel_rfl) rfl rfl (by kernel_rfl) hl h
theorem call166 {args : List Value} {σ : AHeap} {Q : Value → AHeap → Prop} (hl : args.length ≤ 5) (h : CodeS E B (strip [] (bodyOf Tryz.f166)) (L 5 (ofL args)) σ (outS E [.tmp 2] (downS Q))) : CallS E B 166 args σ Q :=
 S_callK hB [] rfl rfl rfl (by kernel_rfl) rfl rfl (by kernel_rfl) hl h
theorem call168 {args : List Value} {σ : AHeap} {Q : Value → AHeap → Prop} (hl : args.length ≤ 9) (h : CodeS E B (strip [] (bodyOf Tryz.f168)) (L 9 (ofL args)) σ (outS E [.tmp 4] (downS Q))) : CallS E B 168 args σ Q :=
 S_callK hB [] rfl rfl rfl (by kernel_rfl) rfl rfl (by kernel_rfl) hl h
theorem call169 {args : List Value} {σ : AHeap} {Q : Value → AHeap → Prop} (hl : args.length ≤ 19) (h : CodeS E B (strip [] (bodyOf Tryz.f169)) (L 19 (ofL args)) σ (outS E [.tmp 4] (downS Q))) : CallS E B 169 args σ Q :=
 S_callK hB [] rfl rfl rfl (by kernel_rfl) rfl rfl (by kernel_rfl) hl h
theorem wcall170 {args : List Value} {H : AHeap} {Q : Value → AHeap → Prop} (hl : args.length ≤ 56) (h : CodeW E (strip [] (bodyOf Tryz.f170)) (L 56 (ofL args))  H (retQ E [.tmp 2] Q)) : CallW E 170 args H Q :=
 W_callK [] rfl rfl rfl (by kernel_rfl) rfl rfl (by kernel_rfl) hl h
theorem call175 {args : List Value} {σ : AHeap} {Q : Value → AHeap → Prop} (hl : args.length ≤ 19) (h : CodeS E B (strip [] (bodyOf Tryz.f175)) (L 19 (ofL args)) σ (outS E [.tmp 4] (downS Q))) : CallS E B 175 args σ Q :=
 S_callK hB [] rfl rfl rfl (by kernel_rfl) rfl rfl (by kernel_rfl) hl h
theorem wcall176 {args : List Value} {H : AHeap} {Q : Value → AHeap → Prop} (hl : args.length ≤ 44) (h : CodeW E (strip [] (bodyOf Tryz.f176)) (L 44 (ofL args))  H (retQ E [.tmp 2,.tmp 3,.tmp 4] Q)) : CallW E 176 args H Q :=
 W_callK [] rfl rfl rfl (by kernel_rfl) rfl rfl (by kernel_rfl) hl h
end Go.Proofs.YtjkhhdknplelcaaGreatDoor.AbsB
