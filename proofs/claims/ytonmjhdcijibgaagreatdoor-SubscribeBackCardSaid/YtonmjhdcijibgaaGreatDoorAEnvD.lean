/-
  A part of a law's proof.
-/
import Derived.Test.YtonmjhdcijibgaaGreatDoorAEnvC
namespace Go.Proofs.YtonmjhdcijibgaaGreatDoor.AbsB
open Go AbsYtonmjhdcijibgaaGreatDoor Abs
set_option maxRecDepth 100000
set_option maxHeartbeats 4000000
theorem call8 {args : List Value} {σ : AHeap} {Q : Value → AHeap → Prop} (hl : args.length ≤ 89) (h : CodeS E B (strip [6] (bodyOf Tryz.f8)) (L 89 (ofL args)) σ (outS E [.tmp 6] (downS Q))) : CallS E B 8 args σ Q :=
 S_callK hB [6] rfl rfl rfl (by kernel_rfl) rfl rfl (by kernel_rfl) hl h
theorem call11 {args : List Value} {σ : AHeap} {Q : Value → AHeap → Prop} (hl : args.length ≤ 33) (h : CodeS E B (strip [] (bodyOf Tryz.f11)) (L 33 (ofL args)) σ (outS E [.tmp 2] (downS Q))) : CallS E B 11 args σ Q :=
 S_callK hB [] rfl rfl rfl (by kernel_rfl) rfl rfl (by kernel_rfl) hl h
theorem call15 {args : List Value} {σ : AHeap} {Q : Value → AHeap → Prop} (hl : args.length ≤ 38) (h : CodeS E B (strip [] (bodyOf Tryz.f15)) (L 38 (ofL args)) σ (outS E [.tmp 2] (downS Q))) : CallS E B 15 args σ Q :=
 S_callK hB [] rfl rfl rfl (by kernel_rfl) rfl rfl (by kernel_rfl) hl h
theorem call16 {args : List Value} {σ : AHeap} {Q : Value → AHeap → Prop} (hl : args.length ≤ 38) (h : CodeS E B (strip [] (bodyOf Tryz.f16)) (L 38 (ofL args)) σ (outS E [.tmp 2] (downS Q))) : CallS E B 16 args σ Q :=
 S_callK hB [] rfl rfl rfl (by kernel_rfl) rfl rfl (by kernel_rfl) hl h
theorem call17 {args : List Value} {σ : AHeap} {Q : Value → AHeap → Prop} (hl : args.length ≤ 114) (h : CodeS E B (strip [] (bodyOf Tryz.f17)) (L 114 (ofL args)) σ (outS E [.tmp 4] (downS Q))) : CallS E B 17 args σ Q :=
 S_callK hB [] rfl rfl rfl (by kernel_rfl) rfl rfl (by kernel_rfl) hl h
theorem call21 {args : List Value} {σ : AHeap} {Q : Value → AHeap → Prop} (hl : args.length ≤ 32) (h : CodeS E B (strip [] (bodyOf Tryz.f21)) (L 32 (ofL args)) σ (outS E [.tmp 4] (downS Q))) : CallS E B 21 args σ Q :=
 S_callK hB [] rfl rfl rfl (by kernel_rfl) rfl rfl (by kernel_rfl) hl h
theorem call24 {args : List Value} {σ : AHeap} {Q : Value → AHeap → Prop} (hl : args.length ≤ 52) (h : CodeS E B (strip [] (bodyOf Tryz.f24)) (L 52 (ofL args)) σ (outS E [.tmp 4,.tmp 5] (downS Q))) : CallS E B 24 args σ Q :=
 S_callK hB [] rfl rfl rfl (by kernel_rfl) rfl rfl (by kernel_rfl) hl h
theorem call27 {args : List Value} {σ : AHeap} {Q : Value → AHeap → Prop} (hl : args.length ≤ 34) (h : CodeS E B (strip [] (bodyOf Tryz.f27)) (L 34 (ofL args)) σ (outS E [.tmp 4] (downS Q))) : CallS E B 27 args σ Q :=
 S_callK hB [] rfl rfl rfl (by kernel_rfl) rfl rfl (by kernel_rfl) hl h
theorem call29 {args : List Value} {σ : AHeap} {Q : Value → AHeap → Prop} (hl : args.length ≤ 113) (h : CodeS E B (strip [] (bodyOf Tryz.f29)) (L 113 (ofL args)) σ (outS E [.tmp 2] (downS Q))) : CallS E B 29 args σ Q :=
 S_callK hB [] rfl rfl rfl (by kernel_rfl) rfl rfl (by kernel_rfl) hl h
theorem call33 {args : List Value} {σ : AHeap} {Q : Value → AHeap → Prop} (hl : args.length ≤ 148) (h : CodeS E B (strip [] (bodyOf Tryz.f33)) (L 148 (ofL args)) σ (outS E [.tmp 4] (downS Q))) : CallS E B 33 args σ Q :=
 S_callK hB [] rfl rfl rfl (by kernel_rfl) rfl rfl (by kernel_rfl) hl h
theorem call42 {args : List Value} {σ : AHeap} {Q : Value → AHeap → Prop} (hl : args.length ≤ 93) (h : CodeS E B (strip [] (bodyOf Tryz.f42)) (L 93 (ofL args)) σ (outS E [.cell 2 57,.tmp 3] (downS Q))) : CallS E B 42 args σ Q :=
 S_callK hB [] rfl rfl rfl (by kernel_rfl) rfl rfl (by kernel_rfl) hl h
theorem call43 {args : List Value} {σ : AHeap} {Q : Value → AHeap → Prop} (hl : args.length ≤ 32) (h : CodeS E B (strip [3] (bodyOf Tryz.f43)) (L 32 (ofL args)) σ (outS E [.cell 2 54,.tmp 3] (downS Q))) : CallS E B 43 args σ Q :=
 S_callK hB [3] rfl rfl rfl (by kernel_rfl) rfl rfl (by kernel_rfl) hl h
theorem call44 {args : List Value} {σ : AHeap} {Q : Value → AHeap → Prop} (hl : args.length ≤ 22) (h : CodeS E B (strip [1] (bodyOf Tryz.f44)) (L 22 (ofL args)) σ (outS E [.cell 2 54] (downS Q))) : CallS E B 44 args σ Q :=
 S_callK hB [1] rfl rfl rfl (by kernel_rfl) rfl rfl (by kernel_rfl) hl h
theorem call49 {args : List Value} {σ : AHeap} {Q : Value → AHeap → Prop} (hl : args.length ≤ 6) (h : CodeS E B (strip [] (bodyOf Tryz.f49)) (L 6 (ofL args)) σ (outS E [.tmp 2] (downS Q))) : CallS E B 49 args σ Q :=
 S_callK hB [] rfl rfl rfl (by kernel_rfl) rfl rfl (by kernel_rfl) hl h
theorem call50 {args : List Value} {σ : AHeap} {Q : Value → AHeap → Prop} (hl : args.length ≤ 49) (h : CodeS E B (strip [] (bodyOf Tryz.f50)) (L 49 (ofL args)) σ (outS E [.tmp 4,.tmp 5] (downS Q))) : CallS E B 50 args σ Q :=
 S_callK hB [] rfl rfl rfl (by kernel_rfl) rfl rfl (by kernel_rfl) hl h
theorem call52 {args : List Value} {σ : AHeap} {Q : Value → AHeap → Prop} (hl : args.length ≤ 15) (h : CodeS E B (strip [] (bodyOf Tryz.f52)) (L 15 (ofL args)) σ (outS E [.tmp 2] (downS Q))) : CallS E B 52 args σ Q :=
 S_callK hB [] rfl rfl rfl (by kernel_rfl) rfl rfl (by kernel_rfl) hl h
theorem call53 {args : List Value} {σ : AHeap} {Q : Value → AHeap → Prop} (hl : args.length ≤ 19) (h : CodeS E B (strip [] (bodyOf Tryz.f53)) (L 19 (ofL args)) σ (outS E [.tmp 4] (downS Q))) : CallS E B 53 args σ Q :=
 S_callK hB [] rfl rfl rfl (by kernel_rfl) rfl rfl (by kernel_rfl) hl h
theorem call55 {args : List Value} {σ : AHeap} {Q : Value → AHeap → Prop} (hl : args.length ≤ 9) (h : CodeS E B (strip [] (bodyOf Tryz.f55)) (L 9 (ofL args)) σ (outS E [.tmp 4] (downS Q))) : CallS E B 55 args σ Q :=
 S_callK hB [] rfl rfl rfl (by kernel_rfl) rfl rfl (by kernel_rfl) hl h
theorem call60 {args : List Value} {σ : AHeap} {Q : Value → AHeap → Prop} (hl : args.length ≤ 57) (h : CodeS E B (strip [] (bodyOf Tryz.f60)) (L 57 (ofL args)) σ (outS E [] (downS Q))) : CallS E B 60 args σ Q :=
 S_callK hB [] rfl rfl rfl (by kernel_rfl) rfl rfl (by kernel_rfl) hl h
theorem call61 {args : List Value} {σ : AHeap} {Q : Value → AHeap → Prop} (hl : args.length ≤ 20) (h : CodeS E B (strip [] (bodyOf Tryz.f61)) (L 20 (ofL args)) σ (outS E [.tmp 2,.tmp 3] (downS Q))) : CallS E B 61 args σ Q :=
 S_callK hB [] rfl rfl rfl (by kernel_rfl) rfl rfl (by kernel_rfl) hl h
theorem call62 {args : List Value} {σ : AHeap} {Q : Value → AHeap → Prop} (hl : args.length ≤ 33) (h : CodeS E B (strip [] (bodyOf Tryz.f62)) (L 33 (ofL args)) σ (outS E [] (downS Q))) : CallS E B 62 args σ Q :=
 S_callK hB [] rfl rfl rfl (by kernel_rfl) rfl rfl (by kernel_rfl) hl h
theorem call63 {args : List Value} {σ : AHeap} {Q : Value → AHeap → Prop} (hl : args.length ≤ 16) (h : CodeS E B (strip [] (bodyOf Tryz.f63)) (L 16 (ofL args)) σ (outS E [] (downS Q))) : CallS E B 63 args σ Q :=
 S_callK hB [] rfl rfl rfl (by kernel_rfl) rfl rfl (by kernel_rfl) hl h
theorem call66 {args : List Value} {σ : AHeap} {Q : Value → AHeap → Prop} (hl : args.length ≤ 13) (h : CodeS E B (strip [] (bodyOf Tryz.f66)) (L 13 (ofL args)) σ (outS E [.tmp 2] (downS Q))) : CallS E B 66 args σ Q :=
 S_callK hB [] rfl rfl rfl (by kernel_rfl) rfl rfl (by kernel_rfl) hl h
theorem call67 {args : List Value} {σ : AHeap} {Q : Value → AHeap → Prop} (hl : args.length ≤ 51) (h : CodeS E B (strip [] (bodyOf Tryz.f67)) (L 51 (ofL args)) σ (outS E [.tmp 8] (downS Q))) : CallS E B 67 args σ Q :=
 S_callK hB [] rfl rfl rfl (by kernel_rfl) rfl rfl (by kernel_rfl) hl h
theorem call68 {args : List Value} {σ : AHeap} {Q : Value → AHeap → Prop} (hl : args.length ≤ 10) (h : CodeS E B (strip [] (bodyOf Tryz.f68)) (L 10 (ofL args)) σ (outS E [.tmp 4] (downS Q))) : CallS E B 68 args σ Q :=
 S_callK hB [] rfl rfl rfl (by kernel_rfl) rfl rfl (by kernel_rfl) hl h
theorem call72 {args : List Value} {σ : AHeap} {Q : Value → AHeap → Prop} (hl : args.length ≤ 15) (h : CodeS E B (strip [] (bodyOf Tryz.f72)) (L 15 (ofL args)) σ (outS E [.tmp 6] (downS Q))) : CallS E B 72 args σ Q :=
 S_callK hB [] rfl rfl rfl (by kernel_rfl) rfl rfl (by kernel_rfl) hl h
theorem wcall72 {args : List Value} {H : AHeap} {Q : Value → AHeap → Prop} (hl : args.length ≤ 15) (h : CodeW E (strip [] (bodyOf Tryz.f72)) (L 15 (ofL args))  H (retQ E [.tmp 6] Q)) : CallW E 72 args H Q :=
 W_callK [] rfl rfl rfl (by kernel_rfl) rfl rfl (by kernel_rfl) hl h
theorem call73 {args : List Value} {σ : AHeap} {Q : Value → AHeap → Prop} (hl : args.length ≤ 7) (h : CodeS E B (strip [] (bodyOf Tryz.f73)) (L 7 (ofL args)) σ (outS E [] (downS Q))) : CallS E B 73 args σ Q :=
 S_callK hB [] rfl rfl rfl (by kernel_rfl) rfl rfl (by kernel_rfl) hl h
theorem call74 {args : List Value} {σ : AHeap} {Q : Value → AHeap → Prop} (hl : args.length ≤ 7) (h : CodeS E B (strip [] (bodyOf Tryz.f74)) (L 7 (ofL args)) σ (outS E [] (downS Q))) : CallS E B 74 args σ Q :=
 S_callK hB [] rfl rfl rfl (by kernel_rfl) rfl rfl (by kernel_rfl) hl h
theorem call75 {args : List Value} {σ : AHeap} {Q : Value → AHeap → Prop} (hl : args.length ≤ 5) (h : CodeS E B (strip [] (bodyOf Tryz.f75)) (L 5 (ofL args)) σ (outS E [.tmp 2] (downS Q))) : CallS E B 75 args σ Q :=
 S_callK hB [] rfl rfl rfl (by kernel_rfl) rfl rfl (by kernel_rfl) hl h
theorem call76 {args : List Value} {σ : AHeap} {Q : Value → AHeap → Prop} (hl : args.length ≤ 9) (h : CodeS E B (strip [] (bodyOf Tryz.f76)) (L 9 (ofL args)) σ (outS E [.tmp 2] (downS Q))) : CallS E B 76 args σ Q :=
 S_callK hB [] rfl rfl rfl (by kernel_rfl) rfl rfl (by kernel_rfl) hl h
theorem call78 {args : List Value} {σ : AHeap} {Q : Value → AHeap → Prop} (hl : args.length ≤ 45) (h : CodeS E B (strip [] (bodyOf Tryz.f78)) (L 45 (ofL args)) σ (outS E [.tmp 4] (downS Q))) : CallS E B 78 args σ Q :=
 S_callK hB [] rfl rfl rfl (by kernel_rfl) rfl rfl (by kernel_rfl) hl h
theorem call79 {args : List Value} {σ : AHeap} {Q : Value → AHeap → Prop} (hl : args.length ≤ 32) (h : CodeS E B (strip [] (bodyOf Tryz.f79)) (L 32 (ofL args)) σ (outS E [.tmp 4] (downS Q))) : CallS E B 79 args σ Q :=
 S_callK hB [] rfl rfl rfl (by kernel_rfl) rfl rfl (by kernel_rfl) hl h
theorem call80 {args : List Value} {σ : AHeap} {Q : Value → AHeap → Prop} (hl : args.length ≤ 32) (h : CodeS E B (strip [] (bodyOf Tryz.f80)) (L 32 (ofL args)) σ (outS E [.tmp 4] (downS Q))) : CallS E B 80 args σ Q :=
 S_callK hB [] rfl rfl rfl (by kernel_rfl) rfl rfl (by kernel_rfl) hl h
theorem call81 {args : List Value} {σ : AHeap} {Q : Value → AHeap → Prop} (hl : args.length ≤ 32) (h : CodeS E B (strip [] (bodyOf Tryz.f81)) (L 32 (ofL args)) σ (outS E [.tmp 4] (downS Q))) : CallS E B 81 args σ Q :=
 S_callK hB [] rfl rfl rfl (by kernel_rfl) rfl rfl (by kernel_rfl) hl h
theorem call82 {args : List Value} {σ : AHeap} {Q : Value → AHeap → Prop} (hl : args.length ≤ 55) (h : CodeS E B (strip [] (bodyOf Tryz.f82)) (L 55 (ofL args)) σ (outS E [.tmp 2] (downS Q))) : CallS E B 82 args σ Q :=
 S_callK hB [] rfl rfl rfl (by kernel_rfl) rfl rfl (by kernel_rfl) hl h
theorem call84 {args : List Value} {σ : AHeap} {Q : Value → AHeap → Prop} (hl : args.length ≤ 24) (h : CodeS E B (strip [] (bodyOf Tryz.f84)) (L 24 (ofL args)) σ (outS E [] (downS Q))) : CallS E B 84 args σ Q :=
 S_callK hB [] rfl rfl rfl (by kernel_rfl) rfl rfl (by kernel_rfl) hl h
theorem call89 {args : List Value} {σ : AHeap} {Q : Value → AHeap → Prop} (hl : args.length ≤ 27) (h : CodeS E B (strip [] (bodyOf Tryz.f89)) (L 27 (ofL args)) σ (outS E [.tmp 2] (downS Q))) : CallS E B 89 args σ Q :=
 S_callK hB [] rfl rfl rfl (by kernel_rfl) rfl rfl (by kernel_rfl) hl h
theorem call93 {args : List Value} {σ : AHeap} {Q : Value → AHeap → Prop} (hl : args.length ≤ 8) (h : CodeS E B (strip [] (bodyOf Tryz.f93)) (L 8 (ofL args)) σ (outS E [.tmp 2] (downS Q))) : CallS E B 93 args σ Q :=
 S_callK hB [] rfl rfl rfl (by kernel_rfl) rfl rfl (by kernel_rfl) hl h
theorem call94 {args : List Value} {σ : AHeap} {Q : Value → AHeap → Prop} (hl : args.length ≤ 37) (h : CodeS E B (strip [] (bodyOf Tryz.f94)) (L 37 (ofL args)) σ (outS E [.tmp 2] (downS Q))) : CallS E B 94 args σ Q :=
 S_callK hB [] rfl rfl rfl (by kernel_rfl) rfl rfl (by kernel_rfl) hl h
theorem call95 {args : List Value} {σ : AHeap} {Q : Value → AHeap → Prop} (hl : args.length ≤ 54) (h : CodeS E B (strip [6] (bodyOf Tryz.f95)) (L 54 (ofL args)) σ (outS E [.cell 4 54,.tmp 5] (downS Q))) : CallS E B 95 args σ Q :=
 S_callK hB [6] rfl rfl rfl (by kernel_rfl) rfl rfl (by kernel_rfl) hl h
theorem call99 {args : List Value} {σ : AHeap} {Q : Value → AHeap → Prop} (hl : args.length ≤ 68) (h : CodeS E B (strip [] (bodyOf Tryz.f99)) (L 68 (ofL args)) σ (outS E [.tmp 4] (downS Q))) : CallS E B 99 args σ Q :=
 S_callK hB [] rfl rfl rfl (by kernel_rfl) rfl rfl (by kernel_rfl) hl h
theorem call100 {args : List Value} {σ : AHeap} {Q : Value → AHeap → Prop} (hl : args.length ≤ 42) (h : CodeS E B (strip [] (bodyOf Tryz.f100)) (L 42 (ofL args)) σ (outS E [.tmp 2] (downS Q))) : CallS E B 100 args σ Q :=
 S_callK hB [] rfl rfl rfl (by kernel_rfl) rfl rfl (by kernel_rfl) hl h
theorem call101 {args : List Value} {σ : AHeap} {Q : Value → AHeap → Prop} (hl : args.length ≤ 9) (h : CodeS E B (strip [] (bodyOf Tryz.f101)) (L 9 (ofL args)) σ (outS E [.tmp 2] (downS Q))) : CallS E B 101 args σ Q :=
 S_callK hB [] rfl rfl rfl (by kernel_rfl) rfl rfl (by kernel_rfl) hl h
theorem call102 {args : List Value} {σ : AHeap} {Q : Value → AHeap → Prop} (hl : args.length ≤ 15) (h : CodeS E B (strip [] (bodyOf Tryz.f102)) (L 15 (ofL args)) σ (outS E [.tmp 2] (downS Q))) : CallS E B 102 args σ Q :=
 S_callK hB [] rfl rfl rfl (by kernel_rfl) rfl rfl (by kernel_rfl) hl h
theorem call103 {args : List Value} {σ : AHeap} {Q : Value → AHeap → Prop} (hl : args.length ≤ 46) (h : CodeS E B (strip [13] (bodyOf Tryz.f103)) (L 46 (ofL args)) σ (outS E [.cell 6 26,.tmp 7] (downS Q))) : CallS E B 103 args σ Q :=
 S_callK hB [13] rfl rfl rfl (by kernel_rfl) rfl rfl (by kernel_rfl) hl h
theorem call104 {args : List Value} {σ : AHeap} {Q : Value → AHeap → Prop} (hl : args.length ≤ 17) (h : CodeS E B (strip [] (bodyOf Tryz.f104)) (L 17 (ofL args)) σ (outS E [.tmp 4] (downS Q))) : CallS E B 104 args σ Q :=
 S_callK hB [] rfl rfl rfl (by kernel_rfl) rfl rfl (by kernel_rfl) hl h
theorem call107 {args : List Value} {σ : AHeap} {Q : Value → AHeap → Prop} (hl : args.length ≤ 19) (h : CodeS E B (strip [] (bodyOf Tryz.f107)) (L 19 (ofL args)) σ (outS E [.tmp 4] (downS Q))) : CallS E B 107 args σ Q :=
 S_callK hB [] rfl rfl rfl (by kernel_rfl) rfl rfl (by kernel_rfl) hl h
theorem call108 {args : List Value} {σ : AHeap} {Q : Value → AHeap → Prop} (hl : args.length ≤ 7) (h : CodeS E B (strip [] (bodyOf Tryz.f108)) (L 7 (ofL args)) σ (outS E [] (downS Q))) : CallS E B 108 args σ Q :=
 S_callK hB [] rfl rfl rfl (by kernel_rfl) rfl rfl (by kernel_rfl) hl h
theorem call109 {args : List Value} {σ : AHeap} {Q : Value → AHeap → Prop} (hl : args.length ≤ 11) (h : CodeS E B (strip [] (bodyOf Tryz.f109)) (L 11 (ofL args)) σ (outS E [] (downS Q))) : CallS E B 109 args σ Q :=
 S_callK hB [] rfl rfl rfl (by kernel_rfl) rfl rfl (by kernel_rfl) hl h
theorem call110 {args : List Value} {σ : AHeap} {Q : Value → AHeap → Prop} (hl : args.length ≤ 9) (h : CodeS E B (strip [] (bodyOf Tryz.f110)) (L 9 (ofL args)) σ (outS E [.tmp 2] (downS Q))) : CallS E B 110 args σ Q :=
 S_callK hB [] rfl rfl rfl (by kernel_rfl) rfl rfl (by kernel_rfl) hl h
theorem call111 {args : List Value} {σ : AHeap} {Q : Value → AHeap → Prop} (hl : args.length ≤ 12) (h : CodeS E B (strip [] (bodyOf Tryz.f111)) (L 12 (ofL args)) σ (outS E [.tmp 2] (downS Q))) : CallS E B 111 args σ Q :=
 S_callK hB [] rfl rfl rfl (by kernel_rfl) rfl rfl (by kernel_rfl) hl h
theorem wcall112 {args : List Value} {H : AHeap} {Q : Value → AHeap → Prop} (hl : args.length ≤ 39) (h : CodeW E (strip [] (bodyOf Tryz.f112)) (L 39 (ofL args))  H (retQ E [.tmp 2,.tmp 3] Q)) : CallW E 112 args H Q :=
 W_callK [] rfl rfl rfl (by kernel_rfl) rfl rfl (by kernel_rfl) hl h
theorem call113 {args : List Value} {σ : AHeap} {Q : Value → AHeap → Prop} (hl : args.length ≤ 8) (h : CodeS E B (strip [] (bodyOf Tryz.f113)) (L 8 (ofL args)) σ (outS E [] (downS Q))) : CallS E B 113 args σ Q :=
 S_callK hB [] rfl rfl rfl (by kernel_rfl) rfl rfl (by kernel_rfl) hl h
theorem call119 {args : List Value} {σ : AHeap} {Q : Value → AHeap → Prop} (hl : args.length ≤ 9) (h : CodeS E B (strip [] (bodyOf Tryz.f119)) (L 9 (ofL args)) σ (outS E [.tmp 4] (downS Q))) : CallS E B 119 args σ Q :=
 S_callK hB [] rfl rfl rfl (by kernel_rfl) rfl rfl (by kernel_rfl) hl h
theorem call120 {args : List Value} {σ : AHeap} {Q : Value → AHeap → Prop} (hl : args.length ≤ 8) (h : CodeS E B (strip [] (bodyOf Tryz.f120)) (L 8 (ofL args)) σ (outS E [.tmp 3] (downS Q))) : CallS E B 120 args σ Q :=
 S_callK hB [] rfl rfl rfl (by kernel_rfl) rfl rfl (by kernel_rfl) hl h
theorem call121 {args : List Value} {σ : AHeap} {Q : Value → AHeap → Prop} (hl : args.length ≤ 30) (h : CodeS E B (strip [] (bodyOf Tryz.f121)) (L 30 (ofL args)) σ (outS E [.tmp 2] (downS Q))) : CallS E B 121 args σ Q :=
 S_callK hB [] rfl rfl rfl (by kernel_rfl) rfl rfl (by kernel_rfl) hl h
theorem call122 {args : List Value} {σ : AHeap} {Q : Value → AHeap → Prop} (hl : args.length ≤ 69) (h : CodeS E B (strip [] (bodyOf Tryz.f122)) (L 69 (ofL args)) σ (outS E [] (downS Q))) : CallS E B 122 args σ Q :=
 S_callK hB [] rfl rfl rfl (by kernel_rfl) rfl rfl (by kernel_rfl) hl h
theorem call123 {args : List Value} {σ : AHeap} {Q : Value → AHeap → Prop} (hl : args.length ≤ 24) (h : CodeS E B (strip [] (bodyOf Tryz.f123)) (L 24 (ofL args)) σ (outS E [.tmp 4] (downS Q))) : CallS E B 123 args σ Q :=
 S_callK hB [] rfl rfl rfl (by kernel_rfl) rfl rfl (by kernel_rfl) hl h
theorem call124 {args : List Value} {σ : AHeap} {Q : Value → AHeap → Prop} (hl : args.length ≤ 5) (h : CodeS E B (strip [] (bodyOf Tryz.f124)) (L 5 (ofL args)) σ (outS E [.tmp 2] (downS Q))) : CallS E B 124 args σ Q :=
 S_callK hB [] rfl rfl rfl (by kernel_rfl) rfl rfl (by kernel_rfl) hl h
theorem call125 {args : List Value} {σ : AHeap} {Q : Value → AHeap → Prop} (hl : args.length ≤ 11) (h : CodeS E B (strip [] (bodyOf Tryz.f125)) (L 11 (ofL args)) σ (outS E [.tmp 4] (downS Q))) : CallS E B 125 args σ Q :=
 S_callK hB [] rfl rfl rfl (by kernel_rfl) rfl rfl (by kernel_rfl) hl h
theorem wcall127 {args : List Value} {H : AHeap} {Q : Value → AHeap → Prop} (hl : args.length ≤ 11) (h : CodeW E (strip [] (bodyOf Tryz.f127)) (L 11 (ofL args))  H (retQ E [.tmp 2] Q)) : CallW E 127 args H Q :=
 W_callK [] rfl rfl rfl (by kernel_rfl) rfl rfl (by kernel_rfl) hl h
theorem call128 {args : List Value} {σ : AHeap} {Q : Value → AHeap → Prop} (hl : args.length ≤ 15) (h : CodeS E B (strip [] (bodyOf Tryz.f128)) (L 15 (ofL args)) σ (outS E [.tmp 2] (downS Q))) : CallS E B 128 args σ Q :=
 S_callK hB [] rfl rfl rfl (by kernel_rfl) rfl rfl (by kernel_rfl) hl h
theorem call129 {args : List Value} {σ : AHeap} {Q : Value → AHeap → Prop} (hl : args.length ≤ 12) (h : CodeS E B (strip [] (bodyOf Tryz.f129)) (L 12 (ofL args)) σ (outS E [.tmp 2] (downS Q))) : CallS E B 129 args σ Q :=
 S_callK hB [] rfl rfl rfl (by kernel_rfl) rfl rfl (by kernel_rfl) hl h
theorem call130 {args : List Value} {σ : AHeap} {Q : Value → AHeap → Prop} (hl : args.length ≤ 17) (h : CodeS E B (strip [] (bodyOf Tryz.f130)) (L 17 (ofL args)) σ (outS E [] (downS Q))) : CallS E B 130 args σ Q :=
 S_callK hB [] rfl rfl rfl (by kernel_rfl) rfl rfl (by kernel_rfl) hl h
theorem call138 {args : List Value} {σ : AHeap} {Q : Value → AHeap → Prop} (hl : args.length ≤ 40) (h : CodeS E B (strip [4,10] (bodyOf Tryz.f138)) (L 40 (ofL args)) σ (outS E [.tmp 4,.tmp 5] (downS Q))) : CallS E B 138 args σ Q :=
 S_callK hB [4,10] rfl rfl rfl (by kernel_rfl) rfl rfl (by kernel_rfl) hl h
theorem call139 {args : List Value} {σ : AHeap} {Q : Value → AHeap → Prop} (hl : args.length ≤ 24) (h : CodeS E B (strip [] (bodyOf Tryz.f139)) (L 24 (ofL args)) σ (outS E [.tmp 2,.tmp 3] (downS Q))) : CallS E B 139 args σ Q :=
 S_callK hB [] rfl rfl rfl (by kernel_rfl) rfl rfl (by kernel_rfl) hl h
theorem call140 {args : List Value} {σ : AHeap} {Q : Value → AHeap → Prop} (hl : args.length ≤ 40) (h : CodeS E B (strip [4,10] (bodyOf Tryz.f140)) (L 40 (ofL args)) σ (outS E [.tmp 4,.tmp 5] (downS Q))) : CallS E B 140 args σ Q :=
 S_callK hB [4,10] rfl rfl rfl (by kernel_rfl) rfl rfl (by kernel_rfl) hl h
theorem call141 {args : List Value} {σ : AHeap} {Q : Value → AHeap → Prop} (hl : args.length ≤ 56) (h : CodeS E B (strip [9,11] (bodyOf Tryz.f141)) (L 56 (ofL args)) σ (outS E [.cell 2 98,.tmp 3] (downS Q))) : CallS E B 141 args σ Q :=
 S_callK hB [9,11] rfl rfl rfl (by kernel_rfl) rfl rfl (by kernel_rfl) hl h
theorem wcall146 {args : List Value} {H : AHeap} {Q : Value → AHeap → Prop} (hl : args.length ≤ 48) (h : CodeW E (strip [] (bodyOf Tryz.f146)) (L 48 (ofL args))  H (retQ E [.tmp 2,.tmp 3,.tmp 4] Q)) : CallW E 146 args H Q :=
 W_callK [] rfl rfl rfl (by kernel_rfl) rfl rfl (by kernel_rfl) hl h
theorem call147 {args : List Value} {σ : AHeap} {Q : Value → AHeap → Prop} (hl : args.length ≤ 49) (h : CodeS E B (strip [] (bodyOf Tryz.f147)) (L 49 (ofL args)) σ (outS E [.cell 4 26] (downS Q))) : CallS E B 147 args σ Q :=
 S_callK hB [] rfl rfl rfl (by kernel_rfl) rfl rfl (by kernel_rfl) hl h
theorem call148 {args : List Value} {σ : AHeap} {Q : Value → AHeap → Prop} (hl : args.length ≤ 12) (h : CodeS E B (strip [] (bodyOf Tryz.f148)) (L 12 (ofL args)) σ (outS E [.tmp 4] (downS Q))) : CallS E B 148 args σ Q :=
 S_callK hB [] rfl rfl rfl (by kernel_rfl) rfl rfl (by kernel_rfl) hl h
theorem wcall155 {args : List Value} {H : AHeap} {Q : Value → AHeap → Prop} (hl : args.length ≤ 17) (h : CodeW E (strip [] (bodyOf Tryz.f155)) (L 17 (ofL args))  H (retQ E [.tmp 2] Q)) : CallW E 155 args H Q :=
 W_callK [] rfl rfl rfl (by kernel_rfl) rfl rfl (by kernel_rfl) hl h
theorem call157 {args : List Value} {σ : AHeap} {Q : Value → AHeap → Prop} (hl : args.length ≤ 65) (h : CodeS E B (strip [] (bodyOf Tryz.f157)) (L 65 (ofL args)) σ (outS E [.tmp 2] (downS Q))) : CallS E B 157 args σ Q :=
 S_callK hB [] rfl rfl rfl (by kernel_rfl) rfl rfl (by kernel_rfl) hl h
theorem call158 {args : List Value} {σ : AHeap} {Q : Value → AHeap → Prop} (hl : args.length ≤ 20) (h : CodeS E B (strip [] (bodyOf Tryz.f158)) (L 20 (ofL args)) σ (outS E [.tmp 2] (downS Q))) : CallS E B 158 args σ Q :=
 S_callK hB [] rfl rfl rfl (by kernel_rfl) rfl rfl (by kernel_rfl) hl h
theorem wcall159 {args : List Value} {H : AHeap} {Q : Value → AHeap → Prop} (hl : args.length ≤ 24) (h : CodeW E (strip [] (bodyOf Tryz.f159)) (L 24 (ofL args))  H (retQ E [.tmp 2,.tmp 3] Q)) : CallW E 159 args H Q :=
 W_callK [] rfl rfl rfl (by kernel_rfl) rfl rfl (by kernel_rfl) hl h
theorem call168 {args : List Value} {σ : AHeap} {Q : Value → AHeap → Prop} (hl : args.length ≤ 5) (h : CodeS E B (strip [] (bodyOf Tryz.f168)) (L 5 (ofL args)) σ (outS E [.tmp 2] (downS Q))) : CallS E B 168 args σ Q :=
 S_callK hB [] rfl rfl rfl (by kernel_rfl) rfl rfl (by kernel_rfl) hl h
theorem call169 {args : List Value} {σ : AHeap} {Q : Value → AHeap → Prop} (hl : args.length ≤ 11) (h : CodeS E B (strip [] (bodyOf Tryz.f169)) (L 11 (ofL args)) σ (outS E [.tmp 4] (downS Q))) : CallS E B 169 args σ Q :=
 S_callK hB [] rfl rfl rfl (by kernel_rfl) rfl rfl (by kernel_rfl) hl h
theorem call173 {args : List Value} {σ : AHeap} {Q : Value → AHeap → Prop} (hl : args.length ≤ 18) (h : CodeS E B (strip [] (bodyOf Tryz.f173)) (L 18 (ofL args)) σ (outS E [.tmp 2] (downS Q))) : CallS E B 173 args σ Q :=
 S_callK hB [] rfl rfl rfl (by kernel_rfl) rfl rfl (by kernel_rfl) hl h
theorem wcall174 {args : List Value} {H : AHeap} {Q : Value → AHeap → Prop} (hl : args.length ≤ 24) (h : CodeW E (strip [] (bodyOf Tryz.f174)) (L 24 (ofL args))  H (retQ E [.tmp 2,.tmp 3] Q)) : CallW E 174 args H Q :=
 W_callK [] rfl rfl rfl (by kernel_rfl) rfl rfl (by kernel_rfl) hl h
theorem wcall182 {args : List Value} {H : AHeap} {Q : Value → AHeap → Prop} (hl : args.length ≤ 56) (h : CodeW E (strip [] (bodyOf Tryz.f182)) (L 56 (ofL args))  H (retQ E [.tmp 2] Q)) : CallW E 182 args H Q :=
 W_callK [] rfl rfl rfl (by kernel_rfl) rfl rfl (by kernel_rfl) hl h
theorem wcall185 {args : List Value} {H : AHeap} {Q : Value → AHeap → Prop} (hl : args.length ≤ 44) (h : CodeW E (strip [] (bodyOf Tryz.f185)) (L 44 (ofL args))  H (retQ E [.tmp 2,.tmp 3,.tmp 4] Q)) : CallW E 185 args H Q :=
 W_callK [] rfl rfl rfl (by kernel_rfl) rfl rfl (by kernel_rfl) hl h
end Go.Proofs.YtonmjhdcijibgaaGreatDoor.AbsB
