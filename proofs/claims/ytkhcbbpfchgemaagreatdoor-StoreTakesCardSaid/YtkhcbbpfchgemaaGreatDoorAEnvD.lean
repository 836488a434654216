/-
  A part of a law's proof.
-/
import Derived.Test.YtkhcbbpfchgemaaGreatDoorAEnvC
namespace Go.Proofs.YtkhcbbpfchgemaaGreatDoor.AbsA
open Go AbsYtkhcbbpfchgemaaGreatDoor Abs
set_option maxRecDepth 100000
set_option maxHeartbeats 4000000
theorem call4 {args : List Value} {σ : AHeap} {Q : Value → AHeap → Prop} (hl : args.length ≤ 32) (h : CodeS E B (strip [] (bodyOf Tryz.f4)) (L 32 (ofL args)) σ (outS E [.tmp 2] (downS Q))) : CallS E B 4 args σ Q :=
 S_callK hB [] rfl rfl rfl (by kernel_rfl) rfl rfl (by kernel_rfl) hl h
theorem call16 {args : List Value} {σ : AHeap} {Q : Value → AHeap → Prop} (hl : args.length ≤ 60) (h : CodeS E B (strip [] (bodyOf Tryz.f16)) (L 60 (ofL args)) σ (outS E [.cell 2 36,.tmp 3] (downS Q))) : CallS E B 16 args σ Q :=
 S_callK hB [] rfl rfl rfl (by kernel_rfl) rfl rfl (by kernel_rfl) hl h
theorem call17 {args : List Value} {σ : AHeap} {Q : Value → AHeap → Prop} (hl : args.length ≤ 101) (h : CodeS E B (strip [18] (bodyOf Tryz.f17)) (L 101 (ofL args)) σ (outS E [.cell 2 36,.cell 3 43] (downS Q))) : CallS E B 17 args σ Q :=
 S_callK hB [18] rfl rfl rfl (by kernel_rfl) rfl rfl (by kernel_rfl) hl h
theorem call18 {args : List Value} {σ : AHeap} {Q : Value → AHeap → Prop} (hl : args.length ≤ 31) (h : CodeS E B (strip [] (bodyOf Tryz.f18)) (L 31 (ofL args)) σ (outS E [.tmp 4] (downS Q))) : CallS E B 18 args σ Q :=
 S_callK hB [] rfl rfl rfl (by kernel_rfl) rfl rfl (by kernel_rfl) hl h
theorem call19 {args : List Value} {σ : AHeap} {Q : Value → AHeap → Prop} (hl : args.length ≤ 29) (h : CodeS E B (strip [1] (bodyOf Tryz.f19)) (L 29 (ofL args)) σ (outS E [.tmp 4] (downS Q))) : CallS E B 19 args σ Q :=
 S_callK hB [1] rfl rfl rfl (by kernel_rfl) rfl rfl (by kernel_rfl) hl h
theorem call29 {args : List Value} {σ : AHeap} {Q : Value → AHeap → Prop} (hl : args.length ≤ 27) (h : CodeS E B (strip [] (bodyOf Tryz.f29)) (L 27 (ofL args)) σ (outS E [.tmp 2] (downS Q))) : CallS E B 29 args σ Q :=
 S_callK hB [] rfl rfl rfl (by kernel_rfl) rfl rfl (by kernel_rfl) hl h
theorem call53 {args : List Value} {σ : AHeap} {Q : Value → AHeap → Prop} (hl : args.length ≤ 66) (h : CodeS E B (strip [] (bodyOf Tryz.f53)) (L 66 (ofL args)) σ (outS E [.tmp 4] (downS Q))) : CallS E B 53 args σ Q :=
 S_callK hB [] rfl rfl rfl (by kernel_rfl) rfl rfl (by kernel_rfl) hl h
theorem call60 {args : List Value} {σ : AHeap} {Q : Value → AHeap → Prop} (hl : args.length ≤ 6) (h : CodeS E B (strip [] (bodyOf Tryz.f60)) (L 6 (ofL args)) σ (outS E [.tmp 2] (downS Q))) : CallS E B 60 args σ Q :=
 S_callK hB [] rfl rfl rfl (by kernel_rfl) rfl rfl (by kernel_rfl) hl h
theorem call61 {args : List Value} {σ : AHeap} {Q : Value → AHeap → Prop} (hl : args.length ≤ 5) (h : CodeS E B (strip [] (bodyOf Tryz.f61)) (L 5 (ofL args)) σ (outS E [.tmp 2] (downS Q))) : CallS E B 61 args σ Q :=
 S_callK hB [] rfl rfl rfl (by kernel_rfl) rfl rfl (by kernel_rfl) hl h
theorem call62 {args : List Value} {σ : AHeap} {Q : Value → AHeap → Prop} (hl : args.length ≤ 15) (h : CodeS E B (strip [] (bodyOf Tryz.f62)) (L 15 (ofL args)) σ (outS E [.tmp 2] (downS Q))) : CallS E B 62 args σ Q :=
 S_callK hB [] rfl rfl rfl (by kernel_rfl) rfl rfl (by kernel_rfl) hl h
theorem call63 {args : List Value} {σ : AHeap} {Q : Value → AHeap → Prop} (hl : args.length ≤ 5) (h : CodeS E B (strip [] (bodyOf Tryz.f63)) (L 5 (ofL args)) σ (outS E [.tmp 2] (downS Q))) : CallS E B 63 args σ Q :=
 S_callK hB [] rfl rfl rfl (by kernel_rfl) rfl rfl (by kernel_rfl) hl h
theorem call64 {args : List Value} {σ : AHeap} {Q : Value → AHeap → Prop} (hl : args.length ≤ 52) (h : CodeS E B (strip [6] (bodyOf Tryz.f64)) (L 52 (ofL args)) σ (outS E [.cell 6 28,.tmp 7,.tmp 8] (downS Q))) : CallS E B 64 args σ Q :=
 S_callK hB [6] rfl rfl rfl (by kernel_rfl) rfl rfl (by kernel_rfl) hl h
theorem call65 {args : List Value} {σ : AHeap} {Q : Value → AHeap → Prop} (hl : args.length ≤ 19) (h : CodeS E B (strip [] (bodyOf Tryz.f65)) (L 19 (ofL args)) σ (outS E [.tmp 2] (downS Q))) : CallS E B 65 args σ Q :=
 S_callK hB [] rfl rfl rfl (by kernel_rfl) rfl rfl (by kernel_rfl) hl h
theorem call66 {args : List Value} {σ : AHeap} {Q : Value → AHeap → Prop} (hl : args.length ≤ 58) (h : CodeS E B (strip [] (bodyOf Tryz.f66)) (L 58 (ofL args)) σ (outS E [.tmp 2] (downS Q))) : CallS E B 66 args σ Q :=
 S_callK hB [] rfl rfl rfl (by kernel_rfl) rfl rfl (by kernel_rfl) hl h
theorem call67 {args : List Value} {σ : AHeap} {Q : Value → AHeap → Prop} (hl : args.length ≤ 15) (h : CodeS E B (strip [] (bodyOf Tryz.f67)) (L 15 (ofL args)) σ (outS E [.tmp 6] (downS Q))) : CallS E B 67 args σ Q :=
 S_callK hB [] rfl rfl rfl (by kernel_rfl) rfl rfl (by kernel_rfl) hl h
theorem wcall67 {args : List Value} {H : AHeap} {Q : Value → AHeap → Prop} (hl : args.length ≤ 15) (h : CodeW E (strip [] (bodyOf Tryz.f67)) (L 15 (ofL args))  H (retQ E [.tmp 6] Q)) : CallW E 67 args H Q :=
 W_callK [] rfl rfl rfl (by kernel_rfl) rfl rfl (by kernel_rfl) hl h
theorem call68 {args : List Value} {σ : AHeap} {Q : Value → AHeap → Prop} (hl : args.length ≤ 5) (h : CodeS E B (strip [] (bodyOf Tryz.f68)) (L 5 (ofL args)) σ (outS E [.tmp 2] (downS Q))) : CallS E B 68 args σ Q :=
 S_callK hB [] rfl rfl rfl (by kernel_rfl) rfl rfl (by kernel_rfl) hl h
theorem call69 {args : List Value} {σ : AHeap} {Q : Value → AHeap → Prop} (hl : args.length ≤ 23) (h : CodeS E B (strip [] (bodyOf Tryz.f69)) (L 23 (ofL args)) σ (outS E [.tmp 2] (downS Q))) : CallS E B 69 args σ Q :=
 S_callK hB [] rfl rfl rfl (by kernel_rfl) rfl rfl (by kernel_rfl) hl h
theorem call70 {args : List Value} {σ : AHeap} {Q : Value → AHeap → Prop} (hl : args.length ≤ 5) (h : CodeS E B (strip [] (bodyOf Tryz.f70)) (L 5 (ofL args)) σ (outS E [.tmp 2] (downS Q))) : CallS E B 70 args σ Q :=
 S_callK hB [] rfl rfl rfl (by kernel_rfl) rfl rfl (by kernel_rfl) hl h
theorem call71 {args : List Value} {σ : AHeap} {Q : Value → AHeap → Prop} (hl : args.length ≤ 114) (h : CodeS E B (strip [] (bodyOf Tryz.f71)) (L 114 (ofL args)) σ (outS E [.tmp 4,.cell 5 43] (downS Q))) : CallS E B 71 args σ Q :=
 S_callK hB [] rfl rfl rfl (by kernel_rfl) rfl rfl (by kernel_rfl) hl h
theorem call72 {args : List Value} {σ : AHeap} {Q : Value → AHeap → Prop} (hl : args.length ≤ 33) (h : CodeS E B (strip [] (bodyOf Tryz.f72)) (L 33 (ofL args)) σ (outS E [.tmp 2,.tmp 3] (downS Q))) : CallS E B 72 args σ Q :=
 S_callK hB [] rfl rfl rfl (by kernel_rfl) rfl rfl (by kernel_rfl) hl h
theorem call73 {args : List Value} {σ : AHeap} {Q : Value → AHeap → Prop} (hl : args.length ≤ 66) (h : CodeS E B (strip [] (bodyOf Tryz.f73)) (L 66 (ofL args)) σ (outS E [.tmp 2] (downS Q))) : CallS E B 73 args σ Q :=
 S_callK hB [] rfl rfl rfl (by kernel_rfl) rfl rfl (by kernel_rfl) hl h
theorem call74 {args : List Value} {σ : AHeap} {Q : Value → AHeap → Prop} (hl : args.length ≤ 13) (h : CodeS E B (strip [] (bodyOf Tryz.f74)) (L 13 (ofL args)) σ (outS E [.tmp 2] (downS Q))) : CallS E B 74 args σ Q :=
 S_callK hB [] rfl rfl rfl (by kernel_rfl) rfl rfl (by kernel_rfl) hl h
theorem call75 {args : List Value} {σ : AHeap} {Q : Value → AHeap → Prop} (hl : args.length ≤ 15) (h : CodeS E B (strip [] (bodyOf Tryz.f75)) (L 15 (ofL args)) σ (outS E [.tmp 2] (downS Q))) : CallS E B 75 args σ Q :=
 S_callK hB [] rfl rfl rfl (by kernel_rfl) rfl rfl (by kernel_rfl) hl h
theorem call84 {args : List Value} {σ : AHeap} {Q : Value → AHeap → Prop} (hl : args.length ≤ 32) (h : CodeS E B (strip [] (bodyOf Tryz.f84)) (L 32 (ofL args)) σ (outS E [.tmp 4] (downS Q))) : CallS E B 84 args σ Q :=
 S_callK hB [] rfl rfl rfl (by kernel_rfl) rfl rfl (by kernel_rfl) hl h
theorem call114 {args : List Value} {σ : AHeap} {Q : Value → AHeap → Prop} (hl : args.length ≤ 24) (h : CodeS E B (strip [] (bodyOf Tryz.f114)) (L 24 (ofL args)) σ (outS E [.tmp 4] (downS Q))) : CallS E B 114 args σ Q :=
 S_callK hB [] rfl rfl rfl (by kernel_rfl) rfl rfl (by kernel_rfl) hl h
theorem call115 {args : List Value} {σ : AHeap} {Q : Value → AHeap → Prop} (hl : args.length ≤ 9) (h : CodeS E B (strip [] (bodyOf Tryz.f115)) (L 9 (ofL args)) σ (outS E [.tmp 2] (downS Q))) : CallS E B 115 args σ Q :=
 S_callK hB [] rfl rfl rfl (by kernel_rfl) rfl rfl (by kernel_rfl) hl h
theorem call116 {args : List Value} {σ : AHeap} {Q : Value → AHeap → Prop} (hl : args.length ≤ 68) (h : CodeS E B (strip [] (bodyOf Tryz.f116)) (L 68 (ofL args)) σ (outS E [.tmp 4] (downS Q))) : CallS E B 116 args σ Q :=
 S_callK hB [] rfl rfl rfl (by kernel_rfl) rfl rfl (by kernel_rfl) hl h
theorem call117 {args : List Value} {σ : AHeap} {Q : Value → AHeap → Prop} (hl : args.length ≤ 5) (h : CodeS E B (strip [] (bodyOf Tryz.f117)) (L 5 (ofL args)) σ (outS E [.tmp 2] (downS Q))) : CallS E B 117 args σ Q :=
 S_callK hB [] rfl rfl rfl (by kernel_rfl) rfl rfl (by kernel_rfl) hl h
theorem call118 {args : List Value} {σ : AHeap} {Q : Value → AHeap → Prop} (hl : args.length ≤ 17) (h : CodeS E B (strip [] (bodyOf Tryz.f118)) (L 17 (ofL args)) σ (outS E [] (downS Q))) : CallS E B 118 args σ Q :=
 S_callK hB [] rfl rfl rfl (by kernel_rfl) rfl rfl (by kernel_rfl) hl h
theorem call119 {args : List Value} {σ : AHeap} {Q : Value → AHeap → Prop} (hl : args.length ≤ 49) (h : CodeS E B (strip [] (bodyOf Tryz.f119)) (L 49 (ofL args)) σ (outS E [.tmp 4,.tmp 5] (downS Q))) : CallS E B 119 args σ Q :=
 S_callK hB [] rfl rfl rfl (by kernel_rfl) rfl rfl (by kernel_rfl) hl h
theorem call120 {args : List Value} {σ : AHeap} {Q : Value → AHeap → Prop} (hl : args.length ≤ 9) (h : CodeS E B (strip [] (bodyOf Tryz.f120)) (L 9 (ofL args)) σ (outS E [.tmp 2] (downS Q))) : CallS E B 120 args σ Q :=
 S_callK hB [] rfl rfl rfl (by kernel_rfl) rfl rfl (by kernel_rfl) hl h
theorem call121 {args : List Value} {σ : AHeap} {Q : Value → AHeap → Prop} (hl : args.length ≤ 15) (h : CodeS E B (strip [] (bodyOf Tryz.f121)) (L 15 (ofL args)) σ (outS E [.tmp 2] (downS Q))) : CallS E B 121 args σ Q :=
 S_callK hB [] rfl rfl rfl (by kernel_rfl) rfl rfl (by kernel_rfl) hl h
theorem call122 {args : List Value} {σ : AHeap} {Q : Value → AHeap → Prop} (hl : args.length ≤ 32) (h : CodeS E B (strip [] (bodyOf Tryz.f122)) (L 32 (ofL args)) σ (outS E [.tmp 4] (downS Q))) : CallS E B 122 args σ Q :=
 S_callK hB [] rfl rfl rfl (by kernel_rfl) rfl rfl (by kernel_rfl) hl h
theorem call123 {args : List Value} {σ : AHeap} {Q : Value → AHeap → Prop} (hl : args.length ≤ 14) (h : CodeS E B (strip [] (bodyOf Tryz.f123)) (L 14 (ofL args)) σ (outS E [.tmp 4] (downS Q))) : CallS E B 123 args σ Q :=
 S_callK hB [] rfl rfl rfl (by kernel_rfl) rfl rfl (by kernel_rfl) hl h
theorem call124 {args : List Value} {σ : AHeap} {Q : Value → AHeap → Prop} (hl : args.length ≤ 5) (h : CodeS E B (strip [] (bodyOf Tryz.f124)) (L 5 (ofL args)) σ (outS E [.tmp 2] (downS Q))) : CallS E B 124 args σ Q :=
 S_callK hB [] rfl rfl rfl (by kernel_rfl) rfl rfl (by kernel_rfl) hl h
theorem call125 {args : List Value} {σ : AHeap} {Q : Value → AHeap → Prop} (hl : args.length ≤ 48) (h : CodeS E B (strip [] (bodyOf Tryz.f125)) (L 48 (ofL args)) σ (outS E [.tmp 2] (downS Q))) : CallS E B 125 args σ Q :=
 S_callK hB [] rfl rfl rfl (by kernel_rfl) rfl rfl (by kernel_rfl) hl h
theorem call126 {args : List Value} {σ : AHeap} {Q : Value → AHeap → Prop} (hl : args.length ≤ 50) (h : CodeS E B (strip [] (bodyOf Tryz.f126)) (L 50 (ofL args)) σ (outS E [.cell 6 43] (downS Q))) : CallS E B 126 args σ Q :=
 S_callK hB [] rfl rfl rfl (by kernel_rfl) rfl rfl (by kernel_rfl) hl h
theorem call127 {args : List Value} {σ : AHeap} {Q : Value → AHeap → Prop} (hl : args.length ≤ 34) (h : CodeS E B (strip [] (bodyOf Tryz.f127)) (L 34 (ofL args)) σ (outS E [.cell 4 158] (downS Q))) : CallS E B 127 args σ Q :=
 S_callK hB [] rfl rfl rfl (by kernel_rfl) rfl rfl (by kernel_rfl) hl h
theorem call128 {args : List Value} {σ : AHeap} {Q : Value → AHeap → Prop} (hl : args.length ≤ 30) (h : CodeS E B (strip [] (bodyOf Tryz.f128)) (L 30 (ofL args)) σ (outS E [.tmp 2] (downS Q))) : CallS E B 128 args σ Q :=
 S_callK hB [] rfl rfl rfl (by kernel_rfl) rfl rfl (by kernel_rfl) hl h
theorem wcall173 {args : List Value} {H : AHeap} {Q : Value → AHeap → Prop} (hl : args.length ≤ 15) (h : CodeW E (strip [] (bodyOf Tryz.f173)) (L 15 (ofL args))  H (retQ E [.tmp 2,.tmp 3] Q)) : CallW E 173 args H Q :=
 W_callK [] rfl rfl rfl (by kernel_rfl) rfl rfl (by kernel_rfl) hl h
theorem call176 {args : List Value} {σ : AHeap} {Q : Value → AHeap → Prop} (hl : args.length ≤ 38) (h : CodeS E B (strip [] (bodyOf Tryz.f176)) (L 38 (ofL args)) σ (outS E [.tmp 2] (downS Q))) : CallS E B 176 args σ Q :=
 S_callK hB [] rfl rfl rfl (by kernel_rfl) rfl rfl (by kernel_rfl) hl h
theorem call178 {args : List Value} {σ : AHeap} {Q : Value → AHeap → Prop} (hl : args.length ≤ 12) (h : CodeS E B (strip [] (bodyOf Tryz.f178)) (L 12 (ofL args)) σ (outS E [.tmp 2] (downS Q))) : CallS E B 178 args σ Q :=
 S_callK hB [] rfl rfl rfl (by kernel_rfl) rfl rfl (by kernel_rfl) hl h
theorem call179 {args : List Value} {σ : AHeap} {Q : Value → AHeap → Prop} (hl : args.length ≤ 42) (h : CodeS E B (strip [] (bodyOf Tryz.f179)) (L 42 (ofL args)) σ (outS E [.tmp 2] (downS Q))) : CallS E B 179 args σ Q :=
 S_callK hB [] rfl rfl rfl (by kernel_rfl) rfl rfl (by kernel_rfl) hl h
theorem call180 {args : List Value} {σ : AHeap} {Q : Value → AHeap → Prop} (hl : args.length ≤ 46) (h : CodeS E B (strip [13] (bodyOf Tryz.f180)) (L 46 (ofL args)) σ (outS E [.cell 6 158,.tmp 7] (downS Q))) : CallS E B 180 args σ Q :=
 S_callK hB [13] rfl rfl rfl (by kernel_rfl) rfl rfl (by kernel_rfl) hl h
theorem call181 {args : List Value} {σ : AHeap} {Q : Value → AHeap → Prop} (hl : args.length ≤ 17) (h : CodeS E B (strip [] (bodyOf Tryz.f181)) (L 17 (ofL args)) σ (outS E [.tmp 4] (downS Q))) : CallS E B 181 args σ Q :=
 S_callK hB [] rfl rfl rfl (by kernel_rfl) rfl rfl (by kernel_rfl) hl h
theorem call182 {args : List Value} {σ : AHeap} {Q : Value → AHeap → Prop} (hl : args.length ≤ 64) (h : CodeS E B (strip [] (bodyOf Tryz.f182)) (L 64 (ofL args)) σ (outS E [.tmp 4,.tmp 5] (downS Q))) : CallS E B 182 args σ Q :=
 S_callK hB [] rfl rfl rfl (by kernel_rfl) rfl rfl (by kernel_rfl) hl h
theorem wcall183 {args : List Value} {H : AHeap} {Q : Value → AHeap → Prop} (hl : args.length ≤ 44) (h : CodeW E (strip [] (bodyOf Tryz.f183)) (L 44 (ofL args))  H (retQ E [.tmp 2,.tmp 3,.tmp 4,.tmp 5] Q)) : CallW E 183 args H Q :=
 W_callK [] rfl rfl rfl (by kernel_rfl) rfl rfl (by kernel_rfl) hl h
theorem call184 {args : List Value} {σ : AHeap} {Q : Value → AHeap → Prop} (hl : args.length ≤ 14) (h : CodeS E B (strip [] (bodyOf Tryz.f184)) (L 14 (ofL args)) σ (outS E [] (downS Q))) : CallS E B 184 args σ Q :=
 S_callK hB [] rfl rfl rfl (by kernel_rfl) rfl rfl (by kernel_rfl) hl h
theorem call185 {args : List Value} {σ : AHeap} {Q : Value → AHeap → Prop} (hl : args.length ≤ 21) (h : CodeS E B (strip [] (bodyOf Tryz.f185)) (L 21 (ofL args)) σ (outS E [.tmp 4] (downS Q))) : CallS E B 185 args σ Q :=
 S_callK hB [] rfl rfl rfl (by kernel_rfl) rfl rfl (by kernel_rfl) hl h
theorem call186 {args : List Value} {σ : AHeap} {Q : Value → AHeap → Prop} (hl : args.length ≤ 37) (h : CodeS E B (strip [] (bodyOf Tryz.f186)) (L 37 (ofL args)) σ (outS E [.tmp 2] (downS Q))) : CallS E B 186 args σ Q :=
 S_callK hB [] rfl rfl rfl (by kernel_rfl) rfl rfl (by kernel_rfl) hl h
theorem call187 {args : List Value} {σ : AHeap} {Q : Value → AHeap → Prop} (hl : args.length ≤ 40) (h : CodeS E B (strip [] (bodyOf Tryz.f187)) (L 40 (ofL args)) σ (outS E [.tmp 4,.tmp 5] (downS Q))) : CallS E B 187 args σ Q :=
 S_callK hB [] rfl rfl rfl (by kernel_rfl) rfl rfl (by kernel_rfl) hl h
theorem call196 {args : List Value} {σ : AHeap} {Q : Value → AHeap → Prop} (hl : args.length ≤ 27) (h : CodeS E B (strip [] (bodyOf Tryz.f196)) (L 27 (ofL args)) σ (outS E [.tmp 2] (downS Q))) : CallS E B 196 args σ Q :=
 S_callK hB [] rfl rfl rfl (by kernel_rfl) rfl rfl (by kernel_rfl) hl h
theorem wcall230 {args : List Value} {H : AHeap} {Q : Value → AHeap → Prop} (hl : args.length ≤ 48) (h : CodeW E (strip [] (bodyOf Tryz.f230)) (L 48 (ofL args))  H (retQ E [.tmp 2,.tmp 3,.tmp 4] Q)) : CallW E 230 args H Q :=
 W_callK [] rfl rfl rfl (by kernel_rfl) rfl rfl (by kernel_rfl) hl h
theorem call233 {args : List Value} {σ : AHeap} {Q : Value → AHeap → Prop} (hl : args.length ≤ 19) (h : CodeS E B (strip [] (bodyOf Tryz.f233)) (L 19 (ofL args)) σ (outS E [.tmp 4] (downS Q))) : CallS E B 233 args σ Q :=
 S_callK hB [] rfl rfl rfl (by kernel_rfl) rfl rfl (by kernel_rfl) hl h
theorem wcall240 {args : List Value} {H : AHeap} {Q : Value → AHeap → Prop} (hl : args.length ≤ 22) (h : CodeW E (strip [] (bodyOf Tryz.f240)) (L 22 (ofL args))  H (retQ E [.tmp 2] Q)) : CallW E 240 args H Q :=
 W_callK [] rfl rfl rfl (by kernel_rfl) rfl rfl (by kernel_rfl) hl h
theorem call241 {args : List Value} {σ : AHeap} {Q : Value → AHeap → Prop} (hl : args.length ≤ 51) (h : CodeS E B (strip [] (bodyOf Tryz.f241)) (L 51 (ofL args)) σ (outS E [.tmp 8] (downS Q))) : CallS E B 241 args σ Q :=
 S_callK hB [] rfl rfl rfl (by kernel_rfl) rfl rfl (by kernel_rfl) hl h
theorem call242 {args : List Value} {σ : AHeap} {Q : Value → AHeap → Prop} (hl : args.length ≤ 49) (h : CodeS E B (strip [] (bodyOf Tryz.f242)) (L 49 (ofL args)) σ (outS E [.cell 4 158] (downS Q))) : CallS E B 242 args σ Q :=
 S_callK hB [] rfl rfl rfl (by kernel_rfl) rfl rfl (by kernel_rfl) hl h
theorem call243 {args : List Value} {σ : AHeap} {Q : Value → AHeap → Prop} (hl : args.length ≤ 10) (h : CodeS E B (strip [] (bodyOf Tryz.f243)) (L 10 (ofL args)) σ (outS E [.tmp 4] (downS Q))) : CallS E B 243 args σ Q :=
 S_callK hB [] rfl rfl rfl (by kernel_rfl) rfl rfl (by kernel_rfl) hl h
theorem call244 {args : List Value} {σ : AHeap} {Q : Value → AHeap → Prop} (hl : args.length ≤ 12) (h : CodeS E B (strip [] (bodyOf Tryz.f244)) (L 12 (ofL args)) σ (outS E [.tmp 4] (downS Q))) : CallS E B 244 args σ Q :=
 S_callK hB [] rfl rfl rfl (by kernel_rfl) rfl rfl (by kernel_rfl) hl h
theorem call245 {args : List Value} {σ : AHeap} {Q : Value → AHeap → Prop} (hl : args.length ≤ 55) (h : CodeS E B (strip [] (bodyOf Tryz.f245)) (L 55 (ofL args)) σ (outS E [.tmp 2] (downS Q))) : CallS E B 245 args σ Q :=
 S_callK hB [] rfl rfl rfl (by kernel_rfl) rfl rfl (by kernel_rfl) hl h
theorem wcall250 {args : List Value} {H : AHeap} {Q : Value → AHeap → Prop} (hl : args.length ≤ 11) (h : CodeW E (strip [] (bodyOf Tryz.f250)) (L 11 (ofL args))  H (retQ E [.tmp 2] Q)) : CallW E 250 args H Q :=
 W_callK [] rfl rfl rfl (by kernel_rfl) rfl rfl (by kernel_rfl) hl h
theorem call265 {args : List Value} {σ : AHeap} {Q : Value → AHeap → Prop} (hl : args.length ≤ 38) (h : CodeS E B (strip [] (bodyOf Tryz.f265)) (L 38 (ofL args)) σ (outS E [.tmp 2] (downS Q))) : CallS E B 265 args σ Q :=
 S_callK hB [] rfl rfl rfl (by kernel_rfl) rfl rfl (by kernel_rfl) hl h
theorem wcall266 {args : List Value} {H : AHeap} {Q : Value → AHeap → Prop} (hl : args.length ≤ 29) (h : CodeW E (strip [] (bodyOf Tryz.f266)) (L 29 (ofL args))  H (retQ E [.tmp 2] Q)) : CallW E 266 args H Q :=
 W_callK [] rfl rfl rfl (by kernel_rfl) rfl rfl (by kernel_rfl) hl h
theorem call267 {args : List Value} {σ : AHeap} {Q : Value → AHeap → Prop} (hl : args.length ≤ 114) (h : CodeS E B (strip [] (bodyOf Tryz.f267)) (L 114 (ofL args)) σ (outS E [.tmp 4] (downS Q))) : CallS E B 267 args σ Q :=
 S_callK hB [] rfl rfl rfl (by kernel_rfl) rfl rfl (by kernel_rfl) hl h
theorem call268 {args : List Value} {σ : AHeap} {Q : Value → AHeap → Prop} (hl : args.length ≤ 9) (h : CodeS E B (strip [] (bodyOf Tryz.f268)) (L 9 (ofL args)) σ (outS E [.tmp 4] (downS Q))) : CallS E B 268 args σ Q :=
 S_callK hB [] rfl rfl rfl (by kernel_rfl) rfl rfl (by kernel_rfl) hl h
theorem call269 {args : List Value} {σ : AHeap} {Q : Value → AHeap → Prop} (hl : args.length ≤ 8) (h : CodeS E B (strip [] (bodyOf Tryz.f269)) (L 8 (ofL args)) σ (outS E [.tmp 3] (downS Q))) : CallS E B 269 args σ Q :=
 S_callK hB [] rfl rfl rfl (by kernel_rfl) rfl rfl (by kernel_rfl) hl h
theorem call270 {args : List Value} {σ : AHeap} {Q : Value → AHeap → Prop} (hl : args.length ≤ 30) (h : CodeS E B (strip [] (bodyOf Tryz.f270)) (L 30 (ofL args)) σ (outS E [.tmp 2] (downS Q))) : CallS E B 270 args σ Q :=
 S_callK hB [] rfl rfl rfl (by kernel_rfl) rfl rfl (by kernel_rfl) hl h
theorem call271 {args : List Value} {σ : AHeap} {Q : Value → AHeap → Prop} (hl : args.length ≤ 11) (h : CodeS E B (strip [] (bodyOf Tryz.f271)) (L 11 (ofL args)) σ (outS E [.tmp 4] (downS Q))) : CallS E B 271 args σ Q :=
 S_callK hB [] rfl rfl rfl (by kernel_rfl) rfl rfl (by kernel_rfl) hl h
theorem wcall274 {args : List Value} {H : AHeap} {Q : Value → AHeap → Prop} (hl : args.length ≤ 24) (h : CodeW E (strip [] (bodyOf Tryz.f274)) (L 24 (ofL args))  H (retQ E [.tmp 2,.tmp 3] Q)) : CallW E 274 args H Q :=
 W_callK [] rfl rfl rfl (by kernel_rfl) rfl rfl (by kernel_rfl) hl h
theorem wcall277 {args : List Value} {H : AHeap} {Q : Value → AHeap → Prop} (hl : args.length ≤ 76) (h : CodeW E (strip [] (bodyOf Tryz.f277)) (L 76 (ofL args))  H (retQ E [.tmp 2] Q)) : CallW E 277 args H Q :=
 W_callK [] rfl rfl rfl (by kernel_rfl) rfl rfl (by kernel_rfl) hl h
theorem wcall278 {args : List Value} {H : AHeap} {Q : Value → AHeap → Prop} (hl : args.length ≤ 51) (h : CodeW E (strip [] (bodyOf Tryz.f278)) (L 51 (ofL args))  H (retQ E [.tmp 4] Q)) : CallW E 278 args H Q :=
 W_callK [] rfl rfl rfl (by kernel_rfl) rfl rfl (by kernel_rfl) hl h
theorem call279 {args : List Value} {σ : AHeap} {Q : Value → AHeap → Prop} (hl : args.length ≤ 9) (h : CodeS E B (strip [] (bodyOf Tryz.f279)) (L 9 (ofL args)) σ (outS E [.tmp 4] (downS Q))) : CallS E B 279 args σ Q :=
 S_callK hB [] rfl rfl rfl (by kernel_rfl) rfl rfl (by kernel_rfl) hl h
theorem wcall281 {args : List Value} {H : AHeap} {Q : Value → AHeap → Prop} (hl : args.length ≤ 24) (h : CodeW E (strip [] (bodyOf Tryz.f281)) (L 24 (ofL args))  H (retQ E [.tmp 2,.tmp 3] Q)) : CallW E 281 args H Q :=
 W_callK [] rfl rfl rfl (by kernel_rfl) rfl rfl (by kernel_rfl) hl h
theorem call282 {args : List Value} {σ : AHeap} {Q : Value → AHeap → Prop} (hl : args.length ≤ 19) (h : CodeS E B (strip [] (bodyOf Tryz.f282)) (L 19 (ofL args)) σ (outS E [.tmp 4] (downS Q))) : CallS E B 282 args σ Q :=
 S_callK hB [] rfl rfl rfl (by kernel_rfl) rfl rfl (by kernel_rfl) hl h
theorem wcall283 {args : List Value} {H : AHeap} {Q : Value → AHeap → Prop} (hl : args.length ≤ 56) (h : CodeW E (strip [] (bodyOf Tryz.f283)) (L 56 (ofL args))  H (retQ E [.tmp 2] Q)) : CallW E 283 args H Q :=
 W_callK [] rfl rfl rfl (by kernel_rfl) rfl rfl (by kernel_rfl) hl h
theorem wcall284 {args : List Value} {H : AHeap} {Q : Value → AHeap → Prop} (hl : args.length ≤ 44) (h : CodeW E (strip [] (bodyOf Tryz.f284)) (L 44 (ofL args))  H (retQ E [.tmp 2,.tmp 3,.tmp 4] Q)) : CallW E 284 args H Q :=
 W_callK [] rfl rfl rfl (by kernel_rfl) rfl rfl (by kernel_rfl) hl h
end Go.Proofs.YtkhcbbpfchgemaaGreatDoor.AbsA
