/-
  A part of a law's proof.
-/
import Derived.Test.YtkhcbbpfchgemaaDoorAEnvC
namespace Go.Proofs.YtkhcbbpfchgemaaDoor.AbsB
open Go AbsYtkhcbbpfchgemaaDoor Abs
set_option maxRecDepth 100000
set_option maxHeartbeats 4000000
theorem call3 {args : List Value} {σ : AHeap} {Q : Value → AHeap → Prop} (hl : args.length ≤ 179) (h : CodeS E B (strip [] (bodyOf Tryd.f3)) (L 179 (ofL args)) σ (outS E [.tmp 4] (downS Q))) : CallS E B 3 args σ Q :=
 S_callK hB [] rfl rfl rfl (by kernel_rfl) rfl rfl (by kernel_rfl) hl h
theorem call5 {args : List Value} {σ : AHeap} {Q : Value → AHeap → Prop} (hl : args.length ≤ 60) (h : CodeS E B (strip [] (bodyOf Tryd.f5)) (L 60 (ofL args)) σ (outS E [.tmp 2,.tmp 3] (downS Q))) : CallS E B 5 args σ Q :=
 S_callK hB [] rfl rfl rfl (by kernel_rfl) rfl rfl (by kernel_rfl) hl h
theorem call6 {args : List Value} {σ : AHeap} {Q : Value → AHeap → Prop} (hl : args.length ≤ 32) (h : CodeS E B (strip [] (bodyOf Tryd.f6)) (L 32 (ofL args)) σ (outS E [.tmp 4] (downS Q))) : CallS E B 6 args σ Q :=
 S_callK hB [] rfl rfl rfl (by kernel_rfl) rfl rfl (by kernel_rfl) hl h
theorem call7 {args : List Value} {σ : AHeap} {Q : Value → AHeap → Prop} (hl : args.length ≤ 60) (h : CodeS E B (strip [] (bodyOf Tryd.f7)) (L 60 (ofL args)) σ (outS E [.cell 2 32,.tmp 3] (downS Q))) : CallS E B 7 args σ Q :=
 S_callK hB [] rfl rfl rfl (by kernel_rfl) rfl rfl (by kernel_rfl) hl h
theorem call12 {args : List Value} {σ : AHeap} {Q : Value → AHeap → Prop} (hl : args.length ≤ 19) (h : CodeS E B (strip [] (bodyOf Tryd.f12)) (L 19 (ofL args)) σ (outS E [.tmp 4] (downS Q))) : CallS E B 12 args σ Q :=
 S_callK hB [] rfl rfl rfl (by kernel_rfl) rfl rfl (by kernel_rfl) hl h
theorem call13 {args : List Value} {σ : AHeap} {Q : Value → AHeap → Prop} (hl : args.length ≤ 16) (h : CodeS E B (strip [] (bodyOf Tryd.f13)) (L 16 (ofL args)) σ (outS E [.tmp 3] (downS Q))) : CallS E B 13 args σ Q :=
 S_callK hB [] rfl rfl rfl (by kernel_rfl) rfl rfl (by kernel_rfl) hl h
theorem call14 {args : List Value} {σ : AHeap} {Q : Value → AHeap → Prop} (hl : args.length ≤ 33) (h : CodeS E B (strip [] (bodyOf Tryd.f14)) (L 33 (ofL args)) σ (outS E [.tmp 6] (downS Q))) : CallS E B 14 args σ Q :=
 S_callK hB [] rfl rfl rfl (by kernel_rfl) rfl rfl (by kernel_rfl) hl h
theorem call15 {args : List Value} {σ : AHeap} {Q : Value → AHeap → Prop} (hl : args.length ≤ 6) (h : CodeS E B (strip [] (bodyOf Tryd.f15)) (L 6 (ofL args)) σ (outS E [.tmp 2] (downS Q))) : CallS E B 15 args σ Q :=
 S_callK hB [] rfl rfl rfl (by kernel_rfl) rfl rfl (by kernel_rfl) hl h
theorem call16 {args : List Value} {σ : AHeap} {Q : Value → AHeap → Prop} (hl : args.length ≤ 5) (h : CodeS E B (strip [] (bodyOf Tryd.f16)) (L 5 (ofL args)) σ (outS E [.tmp 2] (downS Q))) : CallS E B 16 args σ Q :=
 S_callK hB [] rfl rfl rfl (by kernel_rfl) rfl rfl (by kernel_rfl) hl h
theorem call17 {args : List Value} {σ : AHeap} {Q : Value → AHeap → Prop} (hl : args.length ≤ 15) (h : CodeS E B (strip [] (bodyOf Tryd.f17)) (L 15 (ofL args)) σ (outS E [.tmp 2] (downS Q))) : CallS E B 17 args σ Q :=
 S_callK hB [] rfl rfl rfl (by kernel_rfl) rfl rfl (by kernel_rfl) hl h
theorem call18 {args : List Value} {σ : AHeap} {Q : Value → AHeap → Prop} (hl : args.length ≤ 5) (h : CodeS E B (strip [] (bodyOf Tryd.f18)) (L 5 (ofL args)) σ (outS E [.tmp 2] (downS Q))) : CallS E B 18 args σ Q :=
 S_callK hB [] rfl rfl rfl (by kernel_rfl) rfl rfl (by kernel_rfl) hl h
theorem call19 {args : List Value} {σ : AHeap} {Q : Value → AHeap → Prop} (hl : args.length ≤ 52) (h : CodeS E B (strip [6] (bodyOf Tryd.f19)) (L 52 (ofL args)) σ (outS E [.cell 6 30,.tmp 7,.tmp 8] (downS Q))) : CallS E B 19 args σ Q :=
 S_callK hB [6] rfl rfl rfl (by kernel_rfl) rfl rfl (by kernel_rfl) hl h
theorem call20 {args : List Value} {σ : AHeap} {Q : Value → AHeap → Prop} (hl : args.length ≤ 19) (h : CodeS E B (strip [] (bodyOf Tryd.f20)) (L 19 (ofL args)) σ (outS E [.tmp 2] (downS Q))) : CallS E B 20 args σ Q :=
 S_callK hB [] rfl rfl rfl (by kernel_rfl) rfl rfl (by kernel_rfl) hl h
theorem call21 {args : List Value} {σ : AHeap} {Q : Value → AHeap → Prop} (hl : args.length ≤ 58) (h : CodeS E B (strip [] (bodyOf Tryd.f21)) (L 58 (ofL args)) σ (outS E [.tmp 2] (downS Q))) : CallS E B 21 args σ Q :=
 S_callK hB [] rfl rfl rfl (by kernel_rfl) rfl rfl (by kernel_rfl) hl h
theorem call22 {args : List Value} {σ : AHeap} {Q : Value → AHeap → Prop} (hl : args.length ≤ 15) (h : CodeS E B (strip [] (bodyOf Tryd.f22)) (L 15 (ofL args)) σ (outS E [.tmp 6] (downS Q))) : CallS E B 22 args σ Q :=
 S_callK hB [] rfl rfl rfl (by kernel_rfl) rfl rfl (by kernel_rfl) hl h
theorem wcall22 {args : List Value} {H : AHeap} {Q : Value → AHeap → Prop} (hl : args.length ≤ 15) (h : CodeW E (strip [] (bodyOf Tryd.f22)) (L 15 (ofL args))  H (retQ E [.tmp 6] Q)) : CallW E 22 args H Q :=
 W_callK [] rfl rfl rfl (by kernel_rfl) rfl rfl (by kernel_rfl) hl h
theorem call30 {args : List Value} {σ : AHeap} {Q : Value → AHeap → Prop} (hl : args.length ≤ 24) (h : CodeS E B (strip [] (bodyOf Tryd.f30)) (L 24 (ofL args)) σ (outS E [.tmp 4] (downS Q))) : CallS E B 30 args σ Q :=
 S_callK hB [] rfl rfl rfl (by kernel_rfl) rfl rfl (by kernel_rfl) hl h
theorem call31 {args : List Value} {σ : AHeap} {Q : Value → AHeap → Prop} (hl : args.length ≤ 9) (h : CodeS E B (strip [] (bodyOf Tryd.f31)) (L 9 (ofL args)) σ (outS E [.tmp 2] (downS Q))) : CallS E B 31 args σ Q :=
 S_callK hB [] rfl rfl rfl (by kernel_rfl) rfl rfl (by kernel_rfl) hl h
theorem call32 {args : List Value} {σ : AHeap} {Q : Value → AHeap → Prop} (hl : args.length ≤ 68) (h : CodeS E B (strip [] (bodyOf Tryd.f32)) (L 68 (ofL args)) σ (outS E [.tmp 4] (downS Q))) : CallS E B 32 args σ Q :=
 S_callK hB [] rfl rfl rfl (by kernel_rfl) rfl rfl (by kernel_rfl) hl h
theorem call33 {args : List Value} {σ : AHeap} {Q : Value → AHeap → Prop} (hl : args.length ≤ 5) (h : CodeS E B (strip [] (bodyOf Tryd.f33)) (L 5 (ofL args)) σ (outS E [.tmp 2] (downS Q))) : CallS E B 33 args σ Q :=
 S_callK hB [] rfl rfl rfl (by kernel_rfl) rfl rfl (by kernel_rfl) hl h
theorem call34 {args : List Value} {σ : AHeap} {Q : Value → AHeap → Prop} (hl : args.length ≤ 17) (h : CodeS E B (strip [] (bodyOf Tryd.f34)) (L 17 (ofL args)) σ (outS E [] (downS Q))) : CallS E B 34 args σ Q :=
 S_callK hB [] rfl rfl rfl (by kernel_rfl) rfl rfl (by kernel_rfl) hl h
theorem call35 {args : List Value} {σ : AHeap} {Q : Value → AHeap → Prop} (hl : args.length ≤ 49) (h : CodeS E B (strip [] (bodyOf Tryd.f35)) (L 49 (ofL args)) σ (outS E [.tmp 4,.tmp 5] (downS Q))) : CallS E B 35 args σ Q :=
 S_callK hB [] rfl rfl rfl (by kernel_rfl) rfl rfl (by kernel_rfl) hl h
theorem call36 {args : List Value} {σ : AHeap} {Q : Value → AHeap → Prop} (hl : args.length ≤ 9) (h : CodeS E B (strip [] (bodyOf Tryd.f36)) (L 9 (ofL args)) σ (outS E [.tmp 2] (downS Q))) : CallS E B 36 args σ Q :=
 S_callK hB [] rfl rfl rfl (by kernel_rfl) rfl rfl (by kernel_rfl) hl h
theorem call37 {args : List Value} {σ : AHeap} {Q : Value → AHeap → Prop} (hl : args.length ≤ 15) (h : CodeS E B (strip [] (bodyOf Tryd.f37)) (L 15 (ofL args)) σ (outS E [.tmp 2] (downS Q))) : CallS E B 37 args σ Q :=
 S_callK hB [] rfl rfl rfl (by kernel_rfl) rfl rfl (by kernel_rfl) hl h
theorem call43 {args : List Value} {σ : AHeap} {Q : Value → AHeap → Prop} (hl : args.length ≤ 12) (h : CodeS E B (strip [] (bodyOf Tryd.f43)) (L 12 (ofL args)) σ (outS E [.tmp 2] (downS Q))) : CallS E B 43 args σ Q :=
 S_callK hB [] rfl rfl rfl (by kernel_rfl) rfl rfl (by kernel_rfl) hl h
theorem call44 {args : List Value} {σ : AHeap} {Q : Value → AHeap → Prop} (hl : args.length ≤ 42) (h : CodeS E B (strip [] (bodyOf Tryd.f44)) (L 42 (ofL args)) σ (outS E [.tmp 2] (downS Q))) : CallS E B 44 args σ Q :=
 S_callK hB [] rfl rfl rfl (by kernel_rfl) rfl rfl (by kernel_rfl) hl h
theorem call45 {args : List Value} {σ : AHeap} {Q : Value → AHeap → Prop} (hl : args.length ≤ 46) (h : CodeS E B (strip [13] (bodyOf Tryd.f45)) (L 46 (ofL args)) σ (outS E [.cell 6 78,.tmp 7] (downS Q))) : CallS E B 45 args σ Q :=
 S_callK hB [13] rfl rfl rfl (by kernel_rfl) rfl rfl (by kernel_rfl) hl h
theorem call46 {args : List Value} {σ : AHeap} {Q : Value → AHeap → Prop} (hl : args.length ≤ 17) (h : CodeS E B (strip [] (bodyOf Tryd.f46)) (L 17 (ofL args)) σ (outS E [.tmp 4] (downS Q))) : CallS E B 46 args σ Q :=
 S_callK hB [] rfl rfl rfl (by kernel_rfl) rfl rfl (by kernel_rfl) hl h
theorem wcall52 {args : List Value} {H : AHeap} {Q : Value → AHeap → Prop} (hl : args.length ≤ 48) (h : CodeW E (strip [] (bodyOf Tryd.f52)) (L 48 (ofL args))  H (retQ E [.tmp 2,.tmp 3,.tmp 4] Q)) : CallW E 52 args H Q :=
 W_callK [] rfl rfl rfl (by kernel_rfl) rfl rfl (by kernel_rfl) hl h
theorem call53 {args : List Value} {σ : AHeap} {Q : Value → AHeap → Prop} (hl : args.length ≤ 51) (h : CodeS E B (strip [] (bodyOf Tryd.f53)) (L 51 (ofL args)) σ (outS E [.tmp 8] (downS Q))) : CallS E B 53 args σ Q :=
 S_callK hB [] rfl rfl rfl (by kernel_rfl) rfl rfl (by kernel_rfl) hl h
theorem call54 {args : List Value} {σ : AHeap} {Q : Value → AHeap → Prop} (hl : args.length ≤ 49) (h : CodeS E B (strip [] (bodyOf Tryd.f54)) (L 49 (ofL args)) σ (outS E [.cell 4 78] (downS Q))) : CallS E B 54 args σ Q :=
 S_callK hB [] rfl rfl rfl (by kernel_rfl) rfl rfl (by kernel_rfl) hl h
theorem call55 {args : List Value} {σ : AHeap} {Q : Value → AHeap → Prop} (hl : args.length ≤ 10) (h : CodeS E B (strip [] (bodyOf Tryd.f55)) (L 10 (ofL args)) σ (outS E [.tmp 4] (downS Q))) : CallS E B 55 args σ Q :=
 S_callK hB [] rfl rfl rfl (by kernel_rfl) rfl rfl (by kernel_rfl) hl h
theorem call56 {args : List Value} {σ : AHeap} {Q : Value → AHeap → Prop} (hl : args.length ≤ 13) (h : CodeS E B (strip [] (bodyOf Tryd.f56)) (L 13 (ofL args)) σ (outS E [.tmp 2] (downS Q))) : CallS E B 56 args σ Q :=
 S_callK hB [] rfl rfl rfl (by kernel_rfl) rfl rfl (by kernel_rfl) hl h
theorem call57 {args : List Value} {σ : AHeap} {Q : Value → AHeap → Prop} (hl : args.length ≤ 12) (h : CodeS E B (strip [] (bodyOf Tryd.f57)) (L 12 (ofL args)) σ (outS E [.tmp 4] (downS Q))) : CallS E B 57 args σ Q :=
 S_callK hB [] rfl rfl rfl (by kernel_rfl) rfl rfl (by kernel_rfl) hl h
theorem call58 {args : List Value} {σ : AHeap} {Q : Value → AHeap → Prop} (hl : args.length ≤ 15) (h : CodeS E B (strip [] (bodyOf Tryd.f58)) (L 15 (ofL args)) σ (outS E [.tmp 2] (downS Q))) : CallS E B 58 args σ Q :=
 S_callK hB [] rfl rfl rfl (by kernel_rfl) rfl rfl (by kernel_rfl) hl h
theorem call59 {args : List Value} {σ : AHeap} {Q : Value → AHeap → Prop} (hl : args.length ≤ 38) (h : CodeS E B (strip [] (bodyOf Tryd.f59)) (L 38 (ofL args)) σ (outS E [.tmp 2] (downS Q))) : CallS E B 59 args σ Q :=
 S_callK hB [] rfl rfl rfl (by kernel_rfl) rfl rfl (by kernel_rfl) hl h
theorem call62 {args : List Value} {σ : AHeap} {Q : Value → AHeap → Prop} (hl : args.length ≤ 114) (h : CodeS E B (strip [] (bodyOf Tryd.f62)) (L 114 (ofL args)) σ (outS E [.tmp 4] (downS Q))) : CallS E B 62 args σ Q :=
 S_callK hB [] rfl rfl rfl (by kernel_rfl) rfl rfl (by kernel_rfl) hl h
theorem call63 {args : List Value} {σ : AHeap} {Q : Value → AHeap → Prop} (hl : args.length ≤ 9) (h : CodeS E B (strip [] (bodyOf Tryd.f63)) (L 9 (ofL args)) σ (outS E [.tmp 4] (downS Q))) : CallS E B 63 args σ Q :=
 S_callK hB [] rfl rfl rfl (by kernel_rfl) rfl rfl (by kernel_rfl) hl h
theorem call64 {args : List Value} {σ : AHeap} {Q : Value → AHeap → Prop} (hl : args.length ≤ 8) (h : CodeS E B (strip [] (bodyOf Tryd.f64)) (L 8 (ofL args)) σ (outS E [.tmp 3] (downS Q))) : CallS E B 64 args σ Q :=
 S_callK hB [] rfl rfl rfl (by kernel_rfl) rfl rfl (by kernel_rfl) hl h
theorem call65 {args : List Value} {σ : AHeap} {Q : Value → AHeap → Prop} (hl : args.length ≤ 27) (h : CodeS E B (strip [] (bodyOf Tryd.f65)) (L 27 (ofL args)) σ (outS E [.tmp 2] (downS Q))) : CallS E B 65 args σ Q :=
 S_callK hB [] rfl rfl rfl (by kernel_rfl) rfl rfl (by kernel_rfl) hl h
theorem call66 {args : List Value} {σ : AHeap} {Q : Value → AHeap → Prop} (hl : args.length ≤ 30) (h : CodeS E B (strip [] (bodyOf Tryd.f66)) (L 30 (ofL args)) σ (outS E [.tmp 2] (downS Q))) : CallS E B 66 args σ Q :=
 S_callK hB [] rfl rfl rfl (by kernel_rfl) rfl rfl (by kernel_rfl) hl h
theorem call68 {args : List Value} {σ : AHeap} {Q : Value → AHeap → Prop} (hl : args.length ≤ 11) (h : CodeS E B (strip [] (bodyOf Tryd.f68)) (L 11 (ofL args)) σ (outS E [.tmp 4] (downS Q))) : CallS E B 68 args σ Q :=
 S_callK hB [] rfl rfl rfl (by kernel_rfl) rfl rfl (by kernel_rfl) hl h
theorem wcall69 {args : List Value} {H : AHeap} {Q : Value → AHeap → Prop} (hl : args.length ≤ 11) (h : CodeW E (strip [] (bodyOf Tryd.f69)) (L 11 (ofL args))  H (retQ E [.tmp 2] Q)) : CallW E 69 args H Q :=
 W_callK [] rfl rfl rfl (by kernel_rfl) rfl rfl (by kernel_rfl) hl h
theorem call71 {args : List Value} {σ : AHeap} {Q : Value → AHeap → Prop} (hl : args.length ≤ 9) (h : CodeS E B (strip [] (bodyOf Tryd.f71)) (L 9 (ofL args)) σ (outS E [.tmp 4] (downS Q))) : CallS E B 71 args σ Q :=
 S_callK hB [] rfl rfl rfl (by kernel_rfl) rfl rfl (by kernel_rfl) hl h
theorem call72 {args : List Value} {σ : AHeap} {Q : Value → AHeap → Prop} (hl : args.length ≤ 19) (h : CodeS E B (strip [] (bodyOf Tryd.f72)) (L 19 (ofL args)) σ (outS E [.tmp 4] (downS Q))) : CallS E B 72 args σ Q :=
 S_callK hB [] rfl rfl rfl (by kernel_rfl) rfl rfl (by kernel_rfl) hl h
theorem wcall77 {args : List Value} {H : AHeap} {Q : Value → AHeap → Prop} (hl : args.length ≤ 24) (h : CodeW E (strip [] (bodyOf Tryd.f77)) (L 24 (ofL args))  H (retQ E [.tmp 2,.tmp 3] Q)) : CallW E 77 args H Q :=
 W_callK [] rfl rfl rfl (by kernel_rfl) rfl rfl (by kernel_rfl) hl h
theorem call78 {args : List Value} {σ : AHeap} {Q : Value → AHeap → Prop} (hl : args.length ≤ 19) (h : CodeS E B (strip [] (bodyOf Tryd.f78)) (L 19 (ofL args)) σ (outS E [.tmp 4] (downS Q))) : CallS E B 78 args σ Q :=
 S_callK hB [] rfl rfl rfl (by kernel_rfl) rfl rfl (by kernel_rfl) hl h
theorem wcall82 {args : List Value} {H : AHeap} {Q : Value → AHeap → Prop} (hl : args.length ≤ 24) (h : CodeW E (strip [] (bodyOf Tryd.f82)) (L 24 (ofL args))  H (retQ E [.tmp 2,.tmp 3] Q)) : CallW E 82 args H Q :=
 W_callK [] rfl rfl rfl (by kernel_rfl) rfl rfl (by kernel_rfl) hl h
theorem wcall83 {args : List Value} {H : AHeap} {Q : Value → AHeap → Prop} (hl : args.length ≤ 56) (h : CodeW E (strip [] (bodyOf Tryd.f83)) (L 56 (ofL args))  H (retQ E [.tmp 2] Q)) : CallW E 83 args H Q :=
 W_callK [] rfl rfl rfl (by kernel_rfl) rfl rfl (by kernel_rfl) hl h
theorem wcall84 {args : List Value} {H : AHeap} {Q : Value → AHeap → Prop} (hl : args.length ≤ 44) (h : CodeW E (strip [] (bodyOf Tryd.f84)) (L 44 (ofL args))  H (retQ E [.tmp 2,.tmp 3,.tmp 4] Q)) : CallW E 84 args H Q :=
 W_callK [] rfl rfl rfl (by kernel_rfl) rfl rfl (by kernel_rfl) hl h
end Go.Proofs.YtkhcbbpfchgemaaDoor.AbsB
