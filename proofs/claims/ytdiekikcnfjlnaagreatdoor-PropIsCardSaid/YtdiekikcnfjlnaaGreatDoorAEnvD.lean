/-
  A part of a law's proof.
-/
import Derived.Test.YtdiekikcnfjlnaaGreatDoorAEnvC
namespace Go.Proofs.YtdiekikcnfjlnaaGreatDoor.AbsA
open Go AbsYtdiekikcnfjlnaaGreatDoor Abs
set_option maxRecDepth 100000
set_option maxHeartbeats 4000000
theorem call3 {args : List Value} {σ : AHeap} {Q : Value → AHeap → Prop} (hl : args.length ≤ 74) (h : CodeS E B (strip [] (bodyOf Tryz.f3)) (L 74 (ofL args)) σ (outS E [.tmp 6] (downS Q))) : CallS E B 3 args σ Q :=
 S_callK hB [] rfl rfl rfl (by kernel_rfl) rfl rfl (by kernel_rfl) hl h
theorem call4 {args : List Value} {σ : AHeap} {Q : Value → AHeap → Prop} (hl : args.length ≤ 33) (h : CodeS E B (strip [] (bodyOf Tryz.f4)) (L 33 (ofL args)) σ (outS E [.tmp 2] (downS Q))) : CallS E B 4 args σ Q :=
 S_callK hB [] rfl rfl rfl (by kernel_rfl) rfl rfl (by kernel_rfl) hl h
theorem call6 {args : List Value} {σ : AHeap} {Q : Value → AHeap → Prop} (hl : args.length ≤ 17) (h : CodeS E B (strip [] (bodyOf Tryz.f6)) (L 17 (ofL args)) σ (outS E [.cell 4 26,.tmp 5] (downS Q))) : CallS E B 6 args σ Q :=
 S_callK hB [] rfl rfl rfl (by kernel_rfl) rfl rfl (by kernel_rfl) hl h
theorem call7 {args : List Value} {σ : AHeap} {Q : Value → AHeap → Prop} (hl : args.length ≤ 25) (h : CodeS E B (strip [] (bodyOf Tryz.f7)) (L 25 (ofL args)) σ (outS E [.cell 4 26,.tmp 5] (downS Q))) : CallS E B 7 args σ Q :=
 S_callK hB [] rfl rfl rfl (by kernel_rfl) rfl rfl (by kernel_rfl) hl h
theorem call8 {args : List Value} {σ : AHeap} {Q : Value → AHeap → Prop} (hl : args.length ≤ 38) (h : CodeS E B (strip [] (bodyOf Tryz.f8)) (L 38 (ofL args)) σ (outS E [.tmp 2] (downS Q))) : CallS E B 8 args σ Q :=
 S_callK hB [] rfl rfl rfl (by kernel_rfl) rfl rfl (by kernel_rfl) hl h
theorem call9 {args : List Value} {σ : AHeap} {Q : Value → AHeap → Prop} (hl : args.length ≤ 38) (h : CodeS E B (strip [] (bodyOf Tryz.f9)) (L 38 (ofL args)) σ (outS E [.tmp 2] (downS Q))) : CallS E B 9 args σ Q :=
 S_callK hB [] rfl rfl rfl (by kernel_rfl) rfl rfl (by kernel_rfl) hl h
theorem call10 {args : List Value} {σ : AHeap} {Q : Value → AHeap → Prop} (hl : args.length ≤ 114) (h : CodeS E B (strip [] (bodyOf Tryz.f10)) (L 114 (ofL args)) σ (outS E [.tmp 4] (downS Q))) : CallS E B 10 args σ Q :=
 S_callK hB [] rfl rfl rfl (by kernel_rfl) rfl rfl (by kernel_rfl) hl h
theorem call11 {args : List Value} {σ : AHeap} {Q : Value → AHeap → Prop} (hl : args.length ≤ 21) (h : CodeS E B (strip [] (bodyOf Tryz.f11)) (L 21 (ofL args)) σ (outS E [.tmp 4] (downS Q))) : CallS E B 11 args σ Q :=
 S_callK hB [] rfl rfl rfl (by kernel_rfl) rfl rfl (by kernel_rfl) hl h
theorem call12 {args : List Value} {σ : AHeap} {Q : Value → AHeap → Prop} (hl : args.length ≤ 20) (h : CodeS E B (strip [] (bodyOf Tryz.f12)) (L 20 (ofL args)) σ (outS E [.tmp 6] (downS Q))) : CallS E B 12 args σ Q :=
 S_callK hB [] rfl rfl rfl (by kernel_rfl) rfl rfl (by kernel_rfl) hl h
theorem call13 {args : List Value} {σ : AHeap} {Q : Value → AHeap → Prop} (hl : args.length ≤ 20) (h : CodeS E B (strip [] (bodyOf Tryz.f13)) (L 20 (ofL args)) σ (outS E [.tmp 6] (downS Q))) : CallS E B 13 args σ Q :=
 S_callK hB [] rfl rfl rfl (by kernel_rfl) rfl rfl (by kernel_rfl) hl h
theorem call14 {args : List Value} {σ : AHeap} {Q : Value → AHeap → Prop} (hl : args.length ≤ 32) (h : CodeS E B (strip [] (bodyOf Tryz.f14)) (L 32 (ofL args)) σ (outS E [.tmp 4] (downS Q))) : CallS E B 14 args σ Q :=
 S_callK hB [] rfl rfl rfl (by kernel_rfl) rfl rfl (by kernel_rfl) hl h
theorem call16 {args : List Value} {σ : AHeap} {Q : Value → AHeap → Prop} (hl : args.length ≤ 28) (h : CodeS E B (strip [] (bodyOf Tryz.f16)) (L 28 (ofL args)) σ (outS E [.tmp 4] (downS Q))) : CallS E B 16 args σ Q :=
 S_callK hB [] rfl rfl rfl (by kernel_rfl) rfl rfl (by kernel_rfl) hl h
theorem call22 {args : List Value} {σ : AHeap} {Q : Value → AHeap → Prop} (hl : args.length ≤ 19) (h : CodeS E B (strip [] (bodyOf Tryz.f22)) (L 19 (ofL args)) σ (outS E [.tmp 4] (downS Q))) : CallS E B 22 args σ Q :=
 S_callK hB [] rfl rfl rfl (by kernel_rfl) rfl rfl (by kernel_rfl) hl h
theorem call23 {args : List Value} {σ : AHeap} {Q : Value → AHeap → Prop} (hl : args.length ≤ 8) (h : CodeS E B (strip [] (bodyOf Tryz.f23)) (L 8 (ofL args)) σ (outS E [.tmp 3] (downS Q))) : CallS E B 23 args σ Q :=
 S_callK hB [] rfl rfl rfl (by kernel_rfl) rfl rfl (by kernel_rfl) hl h
theorem call24 {args : List Value} {σ : AHeap} {Q : Value → AHeap → Prop} (hl : args.length ≤ 9) (h : CodeS E B (strip [] (bodyOf Tryz.f24)) (L 9 (ofL args)) σ (outS E [.tmp 4] (downS Q))) : CallS E B 24 args σ Q :=
 S_callK hB [] rfl rfl rfl (by kernel_rfl) rfl rfl (by kernel_rfl) hl h
theorem call25 {args : List Value} {σ : AHeap} {Q : Value → AHeap → Prop} (hl : args.length ≤ 55) (h : CodeS E B (strip [] (bodyOf Tryz.f25)) (L 55 (ofL args)) σ (outS E [.tmp 2] (downS Q))) : CallS E B 25 args σ Q :=
 S_callK hB [] rfl rfl rfl (by kernel_rfl) rfl rfl (by kernel_rfl) hl h
theorem call26 {args : List Value} {σ : AHeap} {Q : Value → AHeap → Prop} (hl : args.length ≤ 42) (h : CodeS E B (strip [] (bodyOf Tryz.f26)) (L 42 (ofL args)) σ (outS E [.tmp 4] (downS Q))) : CallS E B 26 args σ Q :=
 S_callK hB [] rfl rfl rfl (by kernel_rfl) rfl rfl (by kernel_rfl) hl h
theorem call27 {args : List Value} {σ : AHeap} {Q : Value → AHeap → Prop} (hl : args.length ≤ 8) (h : CodeS E B (strip [] (bodyOf Tryz.f27)) (L 8 (ofL args)) σ (outS E [.tmp 2] (downS Q))) : CallS E B 27 args σ Q :=
 S_callK hB [] rfl rfl rfl (by kernel_rfl) rfl rfl (by kernel_rfl) hl h
theorem call28 {args : List Value} {σ : AHeap} {Q : Value → AHeap → Prop} (hl : args.length ≤ 8) (h : CodeS E B (strip [] (bodyOf Tryz.f28)) (L 8 (ofL args)) σ (outS E [.tmp 3] (downS Q))) : CallS E B 28 args σ Q :=
 S_callK hB [] rfl rfl rfl (by kernel_rfl) rfl rfl (by kernel_rfl) hl h
theorem call43 {args : List Value} {σ : AHeap} {Q : Value → AHeap → Prop} (hl : args.length ≤ 19) (h : CodeS E B (strip [] (bodyOf Tryz.f43)) (L 19 (ofL args)) σ (outS E [.tmp 4] (downS Q))) : CallS E B 43 args σ Q :=
 S_callK hB [] rfl rfl rfl (by kernel_rfl) rfl rfl (by kernel_rfl) hl h
end Go.Proofs.YtdiekikcnfjlnaaGreatDoor.AbsA
